/- A function as plain Lean and its contract: written by a program of this session's, turned from the kit's print. -/
import Derived.Test.YtebpplallecogaaGreatDF4
import Derived.WalkSpells
import Derived.Test.YtebpplallecogaaGreatRows
import Derived.WalkKit
import Derived.ProofKit
import Derived.OpenShut
import Derived.ShutString
import Derived.ChangeOld
import Derived.Below
import Derived.SizedLaws
import Derived.Test.YtebpplallecogaaGreatDFWSized
set_option linter.unusedVariables false
set_option linter.unusedSimpArgs false
set_option maxHeartbeats 8000000
set_option maxRecDepth 100000
namespace Go.Proofs.YtebpplallecogaaGreat.M
open Go.Proofs.Tryz Go.RowKit Go.Proofs.YtebpplallecogaaGreatW.PrintWords Go.Proofs.YtebpplallecogaaGreatW.PrintLast Go.Proofs.YtebpplallecogaaGreatW.PrintMore Kd
attribute [local go_sem] aak aai aay aax aad aac aaj aah
def alK (k:Nat) (aj:List Int) (aA:Int):Option ((List S27) × Int):=(alJ k aj aA).bind fun ah=>((ab0 k aj ah.2 36).bind fun ak=>(if ak.1=0 then (if 0 < (ah.1.length:Int) then (some ((ah.1.set (0:Int).toNat (⟨(aa0 ah.1 0).f0,12,(aa0 ah.1 0).f2,(aa0 ah.1 0).f3,(aa0 ah.1 0).f4⟩:S27)),ak.2)) else (none)) else (if ak.1=1 then (if ah.1.length < 3518437208883 then (some ((ah.1 ++ [(⟨9,0,0,0,0⟩:S27)]),ak.2)) else (none)) else (if ak.1=2 then (if 0 < (ah.1.length:Int) then (some ((ah.1.set (0:Int).toNat (⟨4,0,0,0,(ah.1.length:Int)⟩:S27)),ak.2)) else (none)) else (if ak.1=3 then (some ((([]:List S27)),ak.2)) else (some (ah.1,ak.2)))))))
theorem alL (k g:Nat) (aj:List Int) (aA:Int) (r1:List S27) (r2:Int) (w0 w:World) (hI:Saf w0 w g aj aA) (hB:Below w0.heap.size w0 w) (h:alK k aj aA=some (r1,r2)) :
  Calls prog 33 #[.pointer (some ⟨g,0,none⟩)] w fun e w'=>∃ dS:Value,e = .returned (dS)/\Kd.R k27 27 w' w.heap.size (fun _=>True) dS r1/\Saf w0 w' g aj r2/\Below w0.heap.size w0 w'/\aa6 w w' g none:=by
 have eG:=underlying27
 have HI0:=aM hI
 have HK:=aM (aaK w g none)
 have HL:=aM hB.size
 clear hI
 have HW0:=aM hB.size
 have HB:=aM hB
 clear hB
 have H:=h;unfold alK at H
 clear h
 obtain⟨⟨ae,ai⟩,A2,H⟩:=qE H
 try dsimp only at H
 obtain⟨⟨aC,aD⟩,A3,H⟩:=qE H
 try dsimp only at H
 replace H:=jE H;rcases H with ⟨dG,dH,H⟩ | ⟨c4,dG,dH,H⟩
 ·replace H:=jU H;obtain⟨c5,H⟩:=H
  have eH:=decide_eq_true c5
  have eO:decide (0 < ae.length)=true:=decide_eq_true (by omega)
  clear c5
  obtain⟨bZ,aH⟩:=ky ((ae.set (0:Int).toNat (⟨(aa0 ae 0).f0,12,(aa0 ae 0).f2,(aa0 ae 0).f3,(aa0 ae 0).f4⟩:S27)):List S27)
  replace H:=kv aH H
  obtain⟨rfl,rfl⟩:=oJ2 H
  go_enter func33,ntmps33
  go_wp2_with (first|((with_reducible refine jc 51 5 ?_);refine jM func51 (adj k g aj aA ae ai w0 _ (qI HI0) qB A2.out) ?_;rintro aG w7 ⟨ho0,hi,hb,hk⟩;have aa:=aM (R_lower ho0 kU);replace HK:=kI hk;replace HB:=aM hb;replace HI0:=aM hi;clear hb hk hi;(try clear ho0))|((with_reducible refine jc 52 7 ?_);refine jK func52 (aab k g aj ai 36 aC aD w0 _ (qI HI0) qB A3.out) ?_;rintro w8 ⟨hi,hb,hk⟩;replace aa:=aM (R_mono (R_keep (Saf.apart (show Saf w0 _ g aj ai from qI HI0) (qR aa) (by decide)) hk (fun _ h=>h.2)) (fun _ h=>h.1));replace HK:=kI hk;replace HB:=aM hb;replace HI0:=aM hi;clear hb hk hi;have p6:0<=(0:Int):=(by omega);have q6:(0:Int) < ((ae.length:Int):Int):=qD;have fq:(0 < ae.length)=True:=eq_true (by omega);obtain⟨aZ,dU,dV,dW,eP,fu,dX⟩:=R_form aa.out (by omega);(first|cases dV|(injection dV with ea_ en_ ec_;(first|subst ea_|(injection ea_ with ea_;subst ea_));subst ec_;clear en_));have eQ:=aM dW;have fw:=aM dX;clear dW eP dX;obtain⟨fA,dI,dY,bg,bi⟩:=R_elem aa.out z27 (0:Int) p6 q6;obtain rfl:=ae4 dY;have bK:w8.cell? ⟨aZ,(0:Int).toNat*5,none⟩=some (iV ((aa0 ae 0).f0)):=bg 0 _ rfl;have bL:w8.cell? ⟨aZ,(0:Int).toNat*5+1,none⟩=some (iV ((aa0 ae 0).f1)):=bg 1 _ rfl;have bM:w8.cell? ⟨aZ,(0:Int).toNat*5+2,none⟩=some (iV ((aa0 ae 0).f2)):=bg 2 _ rfl;have bN:w8.cell? ⟨aZ,(0:Int).toNat*5+3,none⟩=some (iV ((aa0 ae 0).f3)):=bg 3 _ rfl;have bO:w8.cell? ⟨aZ,(0:Int).toNat*5+4,none⟩=some (iV ((aa0 ae 0).f4)):=bg 4 _ rfl;have bP:w8.frozen? ⟨aZ,(0:Int).toNat*5,none⟩=false:=bi 0;have bQ:w8.frozen? ⟨aZ,(0:Int).toNat*5+1,none⟩=false:=bi 1;have bR:w8.frozen? ⟨aZ,(0:Int).toNat*5+2,none⟩=false:=bi 2;have bS:w8.frozen? ⟨aZ,(0:Int).toNat*5+3,none⟩=false:=bi 3;have bT:w8.frozen? ⟨aZ,(0:Int).toNat*5+4,none⟩=false:=bi 4;clear dI bg bi dY;(try rw [show ((0:Int)).toNat=0 from rfl] at bK);(try simp only [Nat.reduceMul,Nat.zero_mul,Nat.zero_add,Nat.reduceAdd] at bK);(try rw [show ((0:Int)).toNat=0 from rfl] at bP);(try simp only [Nat.reduceMul,Nat.zero_mul,Nat.zero_add,Nat.reduceAdd] at bP);(try rw [show ((0:Int)).toNat=0 from rfl] at bL);(try simp only [Nat.reduceMul,Nat.zero_mul,Nat.zero_add,Nat.reduceAdd] at bL);(try rw [show ((0:Int)).toNat=0 from rfl] at bQ);(try simp only [Nat.reduceMul,Nat.zero_mul,Nat.zero_add,Nat.reduceAdd] at bQ);(try rw [show ((0:Int)).toNat=0 from rfl] at bM);(try simp only [Nat.reduceMul,Nat.zero_mul,Nat.zero_add,Nat.reduceAdd] at bM);(try rw [show ((0:Int)).toNat=0 from rfl] at bR);(try simp only [Nat.reduceMul,Nat.zero_mul,Nat.zero_add,Nat.reduceAdd] at bR);(try rw [show ((0:Int)).toNat=0 from rfl] at bN);(try simp only [Nat.reduceMul,Nat.zero_mul,Nat.zero_add,Nat.reduceAdd] at bN);(try rw [show ((0:Int)).toNat=0 from rfl] at bS);(try simp only [Nat.reduceMul,Nat.zero_mul,Nat.zero_add,Nat.reduceAdd] at bS);(try rw [show ((0:Int)).toNat=0 from rfl] at bO);(try simp only [Nat.reduceMul,Nat.zero_mul,Nat.zero_add,Nat.reduceAdd] at bO);(try rw [show ((0:Int)).toNat=0 from rfl] at bT);(try simp only [Nat.reduceMul,Nat.zero_mul,Nat.zero_add,Nat.reduceAdd] at bT);replace p6:=eq_true p6;replace q6:=eq_true q6;have dZ:=aM (show Kd.R k27 27 w8 w.heap.size (fun _=>True) (.slice (some ⟨aZ,0,none⟩) ae.length dU) ae from (qR aa));obtain⟨fB,cu,d9,bV,cz⟩:=R_elem dZ.out z27 (0:Int) (by omega) (by have h_:(0:Int) < ((ae.length:Int):Int):=qD;first|exact h_|(have e_:=(R_reads' aa.out).1;omega)|simpa using h_);obtain rfl:=ae4 d9;have dJ:=R_seg dZ.out (0:Int) (by omega) (by have h_:(0:Int) < ((ae.length:Int):Int):=qD;first|exact h_|(have e_:=(R_reads' aa.out).1;omega)|simpa using h_) (seg:=[iV 12]) (j:=1) cu bV (show 2<=5 from by decide) (x':=(⟨(aa0 ae 0).f0,12,(aa0 ae 0).f2,(aa0 ae 0).f3,(aa0 ae 0).f4⟩:S27)) (aaX _ _ _ (⟨(aa0 ae 0).f0,12,(aa0 ae 0).f2,(aa0 ae 0).f3,(aa0 ae 0).f4⟩:S27) ) (fun _ hk=>hk);have bu:=bV 1 _ rfl;(try simp only [show (k27).sz=5 from rfl,Nat.mul_one,Nat.add_zero] at bu);(try rw [show ((0:Int)).toNat=0 from rfl] at bu);(try simp only [Nat.reduceMul,Nat.zero_mul,Nat.zero_add,Nat.reduceAdd] at bu);have bv:=cz 1;(try simp only [show (k27).sz=5 from rfl,Nat.mul_one,Nat.add_zero] at bv);(try rw [show ((0:Int)).toNat=0 from rfl] at bv);(try simp only [Nat.reduceMul,Nat.zero_mul,Nat.zero_add,Nat.reduceAdd] at bv);clear cu bV cz d9)|((with_reducible refine aaC (t:=3) (p:=12) rfl ?_);refine aat (t:=3) (p:=12) (v:=?dK) (w1:=(w8.setCell ⟨aZ,1,none⟩ (iV 12))) ?hg ?ho ?hn ?hr ?_;(case ho=>rfl);(case hg=>rfl);(case hn=>rfl);(case hr=>first|(go_simp;done)|(go_simp;rfl));intro dL hw;have hg:w8.grownBy dL (some aZ):=(by rw [hw];exact dJ.2);have hp_:Kd.R k27 27 dL w.heap.size (fun _=>True) (.slice (some ⟨aZ,0,none⟩) ae.length dU) bZ:=(by rw [hw,aH.out];exact dJ.1);clear dJ;replace HI0:=aM (Saf.grown (qI HI0) hg (ac6 HI0.out aa.out (by decide)));replace HB:=aM ((by rw [hw];exact aae (HB.out) (Nat.le_trans HL.out eQ.out):Below w0.heap.size w0 dL));replace HK:=aM (aa6.trans qH (aaQ hg g) (R_base2 aa.out));replace aa:=aM hp_;clear hg hw hp_))
  go_ret
  exact⟨_,qW,qR aa,qI HI0,qB,qH⟩
 replace H:=jE H;rcases H with ⟨cB,cK,H⟩ | ⟨c11,cB,cK,H⟩
 ·replace H:=jL H;obtain⟨cO,H⟩:=H
  obtain⟨ed,aI⟩:=ky ((ae ++ [(⟨9,0,0,0,0⟩:S27)]):List S27)
  replace H:=kv aI H
  obtain⟨rfl,rfl⟩:=oJ2 H
  go_enter func33,ntmps33
  go_wp2_with (first|((with_reducible refine jc 51 5 ?_);refine jM func51 (adj k g aj aA ae ai w0 _ (qI HI0) qB A2.out) ?_;rintro aG fC ⟨ho0,hi,hb,hk⟩;have aa:=aM (R_lower ho0 kU);replace HK:=kI hk;replace HB:=aM hb;replace HI0:=aM hi;clear hb hk hi;(try clear ho0))|((with_reducible refine jc 52 7 ?_);refine jK func52 (aab k g aj ai 36 aC aD w0 _ (qI HI0) qB A3.out) ?_;rintro fD ⟨hi,hb,hk⟩;replace aa:=aM (R_mono (R_keep (Saf.apart (show Saf w0 _ g aj ai from qI HI0) (qR aa) (by decide)) hk (fun _ h=>h.2)) (fun _ h=>h.1));replace HK:=kI hk;replace HB:=aM hb;replace HI0:=aM hi;clear hb hk hi)|((with_reducible refine aaa (b:=.append) (xs:=#[.tmp 15,.tmp 17]) rfl ?_);at_builtin;refine R_append k27 w.heap.size rfl (.tmp 15) (.tmp 17) 23 27 (.agg #[(iV 0),(iV 0),(iV 0),(iV 0),(iV 0)]) 40 rfl underlying23 abd rfl (by decide) (by omega) aG ae (⟨9,0,0,0,0⟩:S27) [iV 9,iV 0,iV 0,iV 0,iV 0] (fun _=>True) (fun _=>False) rfl rfl ?aP (fun _ hk=>hk.elim) ?aF ?aO (Below.refl _ _) ?aS ?aL ?_;(case aP=>exact aaX _ _ _ (⟨9,0,0,0,0⟩:S27));(case aF=>exact (fun _ _=>trivial));(case aO=>exact (qR aa));(case aS=>exact kU);(case aL=>have:=cO.out;omega);intro ek fE ho hb hg hat;rw [<- aI.out] at ho;have bW:=aM ho;replace HI0:=aM (Saf.grown (qI HI0) hg (ac6 HI0.out aa.out (by decide)));replace HB:=aM (abE qB HL.out hb);replace HK:=aM (aa6.trans qH (aaQ hg g) (R_base2 aa.out));clear aa;clear ho hb hg hat))
  go_ret
  exact⟨_,qW,qR bW,qI HI0,qB,qH⟩
 replace H:=jE H;rcases H with ⟨df,dh,H⟩ | ⟨c16,df,dh,H⟩
 ·replace H:=jU H;obtain⟨c17,H⟩:=H
  have eu:=decide_eq_true c17
  have eB:decide (0 < ae.length)=true:=decide_eq_true (by omega)
  clear c17
  obtain⟨di,aJ⟩:=ky ((ae.set (0:Int).toNat (⟨4,0,0,0,(ae.length:Int)⟩:S27)):List S27)
  replace H:=kv aJ H
  obtain⟨rfl,rfl⟩:=oJ2 H
  go_enter func33,ntmps33
  go_wp2_with (first|((with_reducible refine jc 51 5 ?_);refine jM func51 (adj k g aj aA ae ai w0 _ (qI HI0) qB A2.out) ?_;rintro aG fF ⟨ho0,hi,hb,hk⟩;have aa:=aM (R_lower ho0 kU);replace HK:=kI hk;replace HB:=aM hb;replace HI0:=aM hi;clear hb hk hi;(try clear ho0))|((with_reducible refine jc 52 7 ?_);refine jK func52 (aab k g aj ai 36 aC aD w0 _ (qI HI0) qB A3.out) ?_;rintro bn ⟨hi,hb,hk⟩;replace aa:=aM (R_mono (R_keep (Saf.apart (show Saf w0 _ g aj ai from qI HI0) (qR aa) (by decide)) hk (fun _ h=>h.2)) (fun _ h=>h.1));replace HK:=kI hk;replace HB:=aM hb;replace HI0:=aM hi;clear hb hk hi;obtain⟨eT,dn,dM⟩:=R_slice aa.out;subst dM;have dN:0<=(0:Int):=(by omega);have dO:(0:Int) < ((ae.length:Int):Int):=qD;have eU:(0 < ae.length)=True:=eq_true (by omega);obtain⟨au,eX,dw,dx,dP,eY,dz⟩:=R_form aa.out (by omega);(first|cases dw|(injection dw with ea_ en_ ec_;(first|subst ea_|(injection ea_ with ea_;subst ea_));subst ec_;clear en_));have bz:=aM dx;have eZ:=aM dz;clear dx dP dz;obtain⟨fe,dA,dB,ax,ay⟩:=R_elem aa.out z27 (0:Int) dN dO;obtain rfl:=ae4 dB;have bA:bn.cell? ⟨au,(0:Int).toNat*5,none⟩=some (iV ((aa0 ae 0).f0)):=ax 0 _ rfl;have bB:bn.cell? ⟨au,(0:Int).toNat*5+1,none⟩=some (iV ((aa0 ae 0).f1)):=ax 1 _ rfl;have bC:bn.cell? ⟨au,(0:Int).toNat*5+2,none⟩=some (iV ((aa0 ae 0).f2)):=ax 2 _ rfl;have bD:bn.cell? ⟨au,(0:Int).toNat*5+3,none⟩=some (iV ((aa0 ae 0).f3)):=ax 3 _ rfl;have bE:bn.cell? ⟨au,(0:Int).toNat*5+4,none⟩=some (iV ((aa0 ae 0).f4)):=ax 4 _ rfl;have bF:bn.frozen? ⟨au,(0:Int).toNat*5,none⟩=false:=ay 0;have bG:bn.frozen? ⟨au,(0:Int).toNat*5+1,none⟩=false:=ay 1;have bH:bn.frozen? ⟨au,(0:Int).toNat*5+2,none⟩=false:=ay 2;have bI:bn.frozen? ⟨au,(0:Int).toNat*5+3,none⟩=false:=ay 3;have bJ:bn.frozen? ⟨au,(0:Int).toNat*5+4,none⟩=false:=ay 4;clear dA ax ay dB;(try rw [show ((0:Int)).toNat=0 from rfl] at bA);(try simp only [Nat.reduceMul,Nat.zero_mul,Nat.zero_add,Nat.reduceAdd] at bA);(try rw [show ((0:Int)).toNat=0 from rfl] at bF);(try simp only [Nat.reduceMul,Nat.zero_mul,Nat.zero_add,Nat.reduceAdd] at bF);(try rw [show ((0:Int)).toNat=0 from rfl] at bB);(try simp only [Nat.reduceMul,Nat.zero_mul,Nat.zero_add,Nat.reduceAdd] at bB);(try rw [show ((0:Int)).toNat=0 from rfl] at bG);(try simp only [Nat.reduceMul,Nat.zero_mul,Nat.zero_add,Nat.reduceAdd] at bG);(try rw [show ((0:Int)).toNat=0 from rfl] at bC);(try simp only [Nat.reduceMul,Nat.zero_mul,Nat.zero_add,Nat.reduceAdd] at bC);(try rw [show ((0:Int)).toNat=0 from rfl] at bH);(try simp only [Nat.reduceMul,Nat.zero_mul,Nat.zero_add,Nat.reduceAdd] at bH);(try rw [show ((0:Int)).toNat=0 from rfl] at bD);(try simp only [Nat.reduceMul,Nat.zero_mul,Nat.zero_add,Nat.reduceAdd] at bD);(try rw [show ((0:Int)).toNat=0 from rfl] at bI);(try simp only [Nat.reduceMul,Nat.zero_mul,Nat.zero_add,Nat.reduceAdd] at bI);(try rw [show ((0:Int)).toNat=0 from rfl] at bE);(try simp only [Nat.reduceMul,Nat.zero_mul,Nat.zero_add,Nat.reduceAdd] at bE);(try rw [show ((0:Int)).toNat=0 from rfl] at bJ);(try simp only [Nat.reduceMul,Nat.zero_mul,Nat.zero_add,Nat.reduceAdd] at bJ);replace dN:=eq_true dN;replace dO:=eq_true dO;have dC:=aM (show Kd.R k27 27 bn w.heap.size (fun _=>True) (.slice (some ⟨au,0,none⟩) ae.length dn) ae from (qR aa));obtain⟨fo,bU,dD,av,az⟩:=R_elem dC.out z27 (0:Int) (by omega) (by have h_:(0:Int) < ((ae.length:Int):Int):=qD;first|exact h_|(have e_:=(R_reads' aa.out).1;omega)|simpa using h_);obtain rfl:=ae4 dD;have bX:=R_seg dC.out (0:Int) (by omega) (by have h_:(0:Int) < ((ae.length:Int):Int):=qD;first|exact h_|(have e_:=(R_reads' aa.out).1;omega)|simpa using h_) (seg:=[iV 4,iV 0,iV 0,iV 0,iV (ae.length:Int)]) (j:=0) bU av (show 5<=5 from by decide) (x':=(⟨4,0,0,0,(ae.length:Int)⟩:S27)) (aaX _ _ _ (⟨4,0,0,0,(ae.length:Int)⟩:S27) ) (fun _ hk=>hk);have aK:=av 0 _ rfl;(try simp only [show (k27).sz=5 from rfl,Nat.mul_one,Nat.add_zero] at aK);(try rw [show ((0:Int)).toNat=0 from rfl] at aK);(try simp only [Nat.reduceMul,Nat.zero_mul,Nat.zero_add,Nat.reduceAdd] at aK);have aN:=az 0;(try simp only [show (k27).sz=5 from rfl,Nat.mul_one,Nat.add_zero] at aN);(try rw [show ((0:Int)).toNat=0 from rfl] at aN);(try simp only [Nat.reduceMul,Nat.zero_mul,Nat.zero_add,Nat.reduceAdd] at aN);have aQ:=av 1 _ rfl;(try simp only [show (k27).sz=5 from rfl,Nat.mul_one,Nat.add_zero] at aQ);(try rw [show ((0:Int)).toNat=0 from rfl] at aQ);(try simp only [Nat.reduceMul,Nat.zero_mul,Nat.zero_add,Nat.reduceAdd] at aQ);have aR:=az 1;(try simp only [show (k27).sz=5 from rfl,Nat.mul_one,Nat.add_zero] at aR);(try rw [show ((0:Int)).toNat=0 from rfl] at aR);(try simp only [Nat.reduceMul,Nat.zero_mul,Nat.zero_add,Nat.reduceAdd] at aR);have aT:=av 2 _ rfl;(try simp only [show (k27).sz=5 from rfl,Nat.mul_one,Nat.add_zero] at aT);(try rw [show ((0:Int)).toNat=0 from rfl] at aT);(try simp only [Nat.reduceMul,Nat.zero_mul,Nat.zero_add,Nat.reduceAdd] at aT);have aU:=az 2;(try simp only [show (k27).sz=5 from rfl,Nat.mul_one,Nat.add_zero] at aU);(try rw [show ((0:Int)).toNat=0 from rfl] at aU);(try simp only [Nat.reduceMul,Nat.zero_mul,Nat.zero_add,Nat.reduceAdd] at aU);have aV:=av 3 _ rfl;(try simp only [show (k27).sz=5 from rfl,Nat.mul_one,Nat.add_zero] at aV);(try rw [show ((0:Int)).toNat=0 from rfl] at aV);(try simp only [Nat.reduceMul,Nat.zero_mul,Nat.zero_add,Nat.reduceAdd] at aV);have aW:=az 3;(try simp only [show (k27).sz=5 from rfl,Nat.mul_one,Nat.add_zero] at aW);(try rw [show ((0:Int)).toNat=0 from rfl] at aW);(try simp only [Nat.reduceMul,Nat.zero_mul,Nat.zero_add,Nat.reduceAdd] at aW);have aX:=av 4 _ rfl;(try simp only [show (k27).sz=5 from rfl,Nat.mul_one,Nat.add_zero] at aX);(try rw [show ((0:Int)).toNat=0 from rfl] at aX);(try simp only [Nat.reduceMul,Nat.zero_mul,Nat.zero_add,Nat.reduceAdd] at aX);have aY:=az 4;(try simp only [show (k27).sz=5 from rfl,Nat.mul_one,Nat.add_zero] at aY);(try rw [show ((0:Int)).toNat=0 from rfl] at aY);(try simp only [Nat.reduceMul,Nat.zero_mul,Nat.zero_add,Nat.reduceAdd] at aY);clear bU av az dD)|((with_reducible refine aaC (t:=27) (p:=25) rfl ?_);refine aat (t:=27) (p:=25) (v:=?dQ) (w1:=(((((bn.setCell ⟨au,0,none⟩ (iV 4)).setCell ⟨au,1,none⟩ (iV 0)).setCell ⟨au,2,none⟩ (iV 0)).setCell ⟨au,3,none⟩ (iV 0)).setCell ⟨au,4,none⟩ (iV (ae.length:Int)))) ?hg ?ho ?hn ?hr ?_;(case ho=>rfl);(case hg=>rfl);(case hn=>rfl);(case hr=>first|(go_simp;done)|(go_simp;rfl));intro dR hw;have hg:bn.grownBy dR (some au):=(by rw [hw];exact bX.2);have hp_:Kd.R k27 27 dR w.heap.size (fun _=>True) (.slice (some ⟨au,0,none⟩) ae.length dn) di:=(by rw [hw,aJ.out];exact bX.1);clear bX;replace HI0:=aM (Saf.grown (qI HI0) hg (ac6 HI0.out aa.out (by decide)));replace HB:=aM ((by rw [hw];exact aae (aae (aae (aae (aae (HB.out) (Nat.le_trans HL.out bz.out)) (Nat.le_trans HL.out bz.out)) (Nat.le_trans HL.out bz.out)) (Nat.le_trans HL.out bz.out)) (Nat.le_trans HL.out bz.out):Below w0.heap.size w0 dR));replace HK:=aM (aa6.trans qH (aaQ hg g) (R_base2 aa.out));replace aa:=aM hp_;clear hg hw hp_))
  go_ret
  exact⟨_,qW,qR aa,qI HI0,qB,qH⟩
 replace H:=jE H;rcases H with ⟨dE,dF,H⟩ | ⟨c24,dE,dF,H⟩
 ·obtain⟨eD,aB⟩:=ky ([]:List S27)
  replace H:=kv aB H
  obtain⟨rfl,rfl⟩:=oJ2 H
  go_enter func33,ntmps33
  go_wp2_with (first|((with_reducible refine jc 51 5 ?_);refine jM func51 (adj k g aj aA ae ai w0 _ (qI HI0) qB A2.out) ?_;rintro aG fG ⟨ho0,hi,hb,hk⟩;have aa:=aM (R_lower ho0 kU);replace HK:=kI hk;replace HB:=aM hb;replace HI0:=aM hi;clear hb hk hi;(try clear ho0))|((with_reducible refine jc 52 7 ?_);refine jK func52 (aab k g aj ai 36 aC aD w0 _ (qI HI0) qB A3.out) ?_;rintro fH ⟨hi,hb,hk⟩;replace aa:=aM (R_mono (R_keep (Saf.apart (show Saf w0 _ g aj ai from qI HI0) (qR aa) (by decide)) hk (fun _ h=>h.2)) (fun _ h=>h.1));replace HK:=kI hk;replace HB:=aM hb;replace HI0:=aM hi;clear hb hk hi)|((with_reducible refine jd 28 ?_);refine jV k27 27 ([]:List S27) [] (aa9 _ _) ?_;intro eF fI bq hb;replace bq:=kr aB bq;have bY:=aM (R_lower (R_new' bq (R_lt (qR aa))) kU);replace aa:=kO aa bq hb;replace HI0:=aM (Saf.below (qI HI0) hb);replace HK:=kY hb;replace HB:=kH hb;clear hb bq))
  go_ret
  exact⟨_,qW,by (with_reducible repeat (first|apply R_alloc|apply R_drewN|apply R_drew));exact R_mono bY.out (fun _ hk=>trivial),qI HI0,qB,qH⟩
 obtain⟨rfl,rfl⟩:=oJ2 H
 go_enter func33,ntmps33
 go_wp2_with (first|((with_reducible refine jc 51 5 ?_);refine jM func51 (adj k g aj aA ae ai w0 _ (qI HI0) qB A2.out) ?_;rintro aG fJ ⟨ho0,hi,hb,hk⟩;have aa:=aM (R_lower ho0 kU);replace HK:=kI hk;replace HB:=aM hb;replace HI0:=aM hi;clear hb hk hi;(try clear ho0))|((with_reducible refine jc 52 7 ?_);refine jK func52 (aab k g aj ai 36 aC aD w0 _ (qI HI0) qB A3.out) ?_;rintro fK ⟨hi,hb,hk⟩;replace aa:=aM (R_mono (R_keep (Saf.apart (show Saf w0 _ g aj ai from qI HI0) (qR aa) (by decide)) hk (fun _ h=>h.2)) (fun _ h=>h.1));replace HK:=kI hk;replace HB:=aM hb;replace HI0:=aM hi;clear hb hk hi))
 go_ret
 exact⟨_,qW,qR aa,qI HI0,qB,qH⟩
end Go.Proofs.YtebpplallecogaaGreat.M
namespace Go.Proofs.YtebpplallecogaaGreat.M
open Go.Proofs.Tryz Go.RowKit Go.Proofs.YtebpplallecogaaGreatW.PrintWords Go.Proofs.YtebpplallecogaaGreatW.PrintLast Go.Proofs.YtebpplallecogaaGreatW.PrintMore
attribute [local go_sem] aak aai aay aax aad aac aaj aah
def alr (l0:List Int):Option (List Int × Int):=if (l0.length:Int) > 2000 then (if 2000<=(l0.length:Int) then (some (l0.take 2000,0)) else (none)) else (some (l0,0))
theorem als (A0:Option Addr) (c0:Nat) (l0 r1:List Int) (r2:Int) (w0 w:World) (hB:Below w0.heap.size w0 w) (hr0:Kd.C (Kd.int .u8) w0 A0 l0.length l0) (hc0:l0.length<=c0) (h:alr l0=some (r1,r2)) :
  Calls prog 34 #[.slice A0 l0.length c0] w fun e w'=>∃ g_:Nat,e = .returned (.pointer (some ⟨g_,0,none⟩))/\Saf w0 w' g_ r1 r2/\Below w0.heap.size w0 w'/\Below w.heap.size w w':=by
 have aG:=underlying71
 have aB:=aM hr0
 have aH:=aM hc0
 clear hr0 hc0
 have HBW:=jb_ w
 have HW0:=aM hB.size
 have HB:=aM hB
 clear hB
 have H:=h;unfold alr at H
 clear h
 by_cases c2:(l0.length:Int) > 2000
 ·rw [if_pos c2] at H
  have ay:=decide_eq_true c2
  have az:decide (2000 < l0.length)=true:=decide_eq_true (by omega)
  clear c2
  replace H:=jJ H;obtain⟨aI,aJ,H⟩:=H
  obtain⟨rfl,rfl⟩:=oJ2 H
  obtain⟨i04,av,_,ax,_⟩:=info_parts aqH
  obtain⟨aC,aD,aF⟩:=aha (P:=prog) (Value.int .u8) 0 22 5 .i64 underlying22 av ax A0 c0 l0 2000 (by omega) (qD) aH.out
  have af:=aM (Kd.C_of_reads (h1:=fun _=>rfl) (aD _ (Kd.reads_of_C aB.out)))
  have aA:=aM aF
  clear aD aF av ax
  go_enter func34,ntmps34
  go_wp2_with (first|((with_reducible refine jd 10 ?_);refine aeb ?hg (N:=10) ?hd (cs:=#[.slice A0 (l0.take 2000).length c0,iV 0]) (t:=71) ?hr ?_;(case hd=>rfl);(case hg=>rfl);(case hr=>first|(go_simp;done)|(go_simp;rfl));intro aa hg w5 hbox hb;have ag:=aM hbox;have ah:=aM ((by rw [hg];exact (aa4 (by repeat (first|(with_reducible first|exact HBW.out|apply aaD|apply aau|apply aan)|exact HBW.out))):w.heap.size<=aa));have ai:=aM ((Nat.le_trans HW0.out (by rw [hg];exact (aa4 (by repeat (first|(with_reducible first|exact HBW.out|apply aaD|apply aau|apply aan)|exact HBW.out))):w.heap.size<=aa):w0.heap.size<=aa));replace HBW:=aM (abR HBW.out hb);replace HB:=kH hb;clear hb hbox hg))
  go_ret
  exact⟨_,rfl,(show Saf w0 _ aa (l0.take 2000) 0 from ⟨_,_,qK ag,ai.out,af.out⟩),qB,by repeat (first|(with_reducible first|exact HBW.out|apply aaD|apply aau|apply aan|refine aae ?_ ah.out)|exact HBW.out)⟩
 rw [if_neg c2] at H
 have ay:=decide_eq_false c2
 have az:decide (2000 < l0.length)=false:=decide_eq_false (by omega)
 clear c2
 obtain⟨rfl,rfl⟩:=oJ2 H
 go_enter func34,ntmps34
 go_wp2_with (first|((with_reducible refine jd 10 ?_);refine jY _ 71 ?_;intro ae hg w6 aj hb;have ak:=aM ((by rw [hg];exact (aa4 (by repeat (first|(with_reducible first|exact HBW.out|apply aaD|apply aau|apply aan)|exact HBW.out))):w.heap.size<=ae));have au:=aM ((Nat.le_trans HW0.out (by rw [hg];exact (aa4 (by repeat (first|(with_reducible first|exact HBW.out|apply aaD|apply aau|apply aan)|exact HBW.out))):w.heap.size<=ae):w0.heap.size<=ae));replace HBW:=aM (abR HBW.out hb);replace HB:=kH hb;clear hb hg))
 go_ret
 exact⟨_,rfl,(show Saf w0 _ ae l0 0 from ⟨_,_,qK aj,au.out,aB.out⟩),qB,by repeat (first|(with_reducible first|exact HBW.out|apply aaD|apply aau|apply aan|refine aae ?_ ak.out)|exact HBW.out)⟩
def ami (k:Nat) (l0:List Int):Option ((List S27)):=(alr l0).bind fun aa=>((alK k aa.1 aa.2).bind fun ak=>(some ak.1))
theorem amj (k:Nat) (A0:Option Addr) (c0:Nat) (l0:List Int) (r:List S27) (w:World) (hr0:Kd.C (Kd.int .u8) w A0 l0.length l0) (hc0:l0.length<=c0) (h:ami k l0=some r) :
  Calls prog 19 #[.slice A0 l0.length c0] w fun e w'=>∃ az:Value,e = .returned (az)/\Kd.R k27 27 w' w.heap.size (fun _=>True) az r/\Below w.heap.size w w':=by
 have aB:=aM hr0
 have aC:=aM hc0
 clear hr0 hc0
 have HB:=jb_ w
 have H:=h;unfold ami at H
 clear h
 obtain⟨⟨ah,ai⟩,A2,H⟩:=qE H
 try dsimp only at H
 obtain⟨⟨av,ax⟩,A3,H⟩:=qE H
 try dsimp only at H
 obtain rfl:=oJ H
 go_enter func19,ntmps19
 go_wp2_with (first|((with_reducible refine jc 34 4 ?_);refine jM func34 (als _ _ l0 ah ai w _ qB aB.out aC.out A2.out) ?_;rintro aj w4 ⟨hi,hb,hb2⟩;have ag:=aM hi;replace HB:=aM hb;(try clear hb);(try clear hb2);(try clear hi))|((with_reducible refine jc 33 5 ?_);refine jM func33 (alL k aj ah ai av ax w _ (qI ag) qB A3.out) ?_;rintro aA w5 ⟨ho0,hi,hb,hk⟩;have au:=kL ho0;replace HB:=aM hb;replace ag:=aM hi;(try clear hb);(try clear hk);(try clear hi);(try clear ho0)))
 go_ret
 exact⟨_,qW,qR au,qB⟩
def aiS (a0 a1:Int):Option (Bool):=if 0<=a1 then (some ((Go.bits .and .u16 (shr .u16 a0 a1) 1) == 1)) else (none)
theorem ag5 (a0 a1:Int) (r:Bool) (w:World) (h:aiS a0 a1=some r) :
  Calls prog 53 #[.int .u16 a0,iV a1] w fun e w'=>e = .returned (.bool r)/\aar w w':=by
 have H:=h;unfold aiS at H
 clear h
 replace H:=jJ H;obtain⟨ah,ai,H⟩:=H
 obtain⟨ae,aa⟩:∃ j_:Int,(shr .u16 a0 a1)=j_:=⟨_,rfl⟩
 replace H:(some ((Go.bits .and .u16 (ae) 1) == 1))=some r:=by first|(rw [aa] at H;exact H)|(simp only [aa] at H ⊢;exact H)
 have af:(a0 / 2 ^ min a1.toNat 16)=ae:=aa
 have ag:a1<=16->(a0 / 2 ^ a1.toNat)=ae:=ahB aa
 obtain rfl:=oJ H
 go_enter func53,ntmps53
 go_wp2
 go_ret
 exact⟨by first|rfl|(simp;done)|(simp only [<- aa] <;> (first|rfl|simp))|(simp [*];done),by repeat (first|exact aaI _|apply aar.step)⟩
def af7:Nat->Int->List Bool->Int->Int->Option (List Bool)
 | 0,_,_,_,_=>none
 | k+1,x0,x3,x7,x8=>if x8 < x7 then ((aiS x0 x8).bind fun ai=>(if 0<=x8 then (if x8 < (x3.length:Int) then (af7 k x0 (x3.set (x8:Int).toNat ai) x7 (wrap64 (x8+1))) else (none)) else (none))) else (some x3)
def ak3 (k:Nat) (a0:Int):Option (List Bool):=if 12<=281474976710656 then ((some (List.replicate 12 false:List Bool)).bind fun af=>(af7 k a0 af (af.length:Int) 0)) else (none)
theorem ai9 (k:Nat) (a0:Int) (r:List Bool) (w:World) (h:ak3 k a0=some r) :
  Calls prog 42 #[.int .u16 a0] w fun e w'=>∃ aR:Value,e = .returned (aR)/\Kd.R Kd.bool 4 w' w.heap.size (fun _=>True) aR r/\Below w.heap.size w w':=by
 have HB:=jb_ w
 have H:=h;unfold ak3 at H
 clear h
 replace H:=jJ H;obtain⟨aG,aH,H⟩:=H
 obtain⟨af,ah⟩:=ky ((List.replicate 12 false):List Bool)
 replace H:=kv ah H
 have H':=aM H
 clear H
 go_enter func42,ntmps42
 go_wp2_with (first|((with_reducible refine jd 5 ?_);refine Kd.R_make Kd.bool _ 4 rfl (N:=5) rfl 37 _ _ rfl 12 rfl rfl underlying37 (.bool false) 1 akT rfl (by decide) (by omega) false (ok:=fun _=>True) (okp:=fun _=>True) rfl (fun _ hk=>hk) trivial (by omega) (by omega) (Below.refl _ _) (Nat.le_refl _) ?_;intro aS w3 aA hb hg_ hnew_;clear hg_ hnew_;replace aA:=kr ah aA;have au:=kL aA;replace HB:=kH hb;clear hb aA;obtain⟨aT,aI,bg⟩:=Kd.R_slice au.out;subst bg))
 go_loopg [8] k (fun kq v8 w'=>∃ (aj:List Bool) (aa:Int),v8 = iV aa/\aa1 (af7 kq a0 aj (af.length:Int) aa=some r)/\aa1 (kq<=k)/\aa1 (Kd.R Kd.bool 4 w' w.heap.size (fun _=>True) (.slice aT af.length aI) aj)/\aa1 (Below w.heap.size w w'))
 case atStart=>exact⟨(af),(0),qZ,H',⟨Nat.le_refl _⟩,⟨qR au⟩,⟨qB⟩⟩
 clear H'
 try clear aG;try clear aH
 obtain⟨aj,aa,rfl,HA,aU,ae,HB⟩:=hrel
 have ag:=(Kd.R_reads' ae.out).1
 rw [ag] at ae
 (try simp only [ag])
 rcases gk with _|k1
 ·exact absurd HA.out (by simp [af7])
 have H:=HA.out
 clear HA
 simp only [af7] at H
 by_cases c6:aa < (af.length:Int)
 ·rw [if_pos c6] at H
  have av:=decide_eq_true c6
  (try simp only [ag] at av)
  clear c6
  obtain⟨ai,A7,H⟩:=qE H
  try dsimp only at H
  replace H:=jI H;obtain⟨bi,H⟩:=H
  replace H:=jI H;obtain⟨bn,H⟩:=H
  obtain⟨aB,ak⟩:=ky ((aj.set (aa:Int).toNat ai):List Bool)
  replace H:=kv ak H
  have H':=aM H
  clear H
  go_wp2_with (first|((with_reducible refine jc 53 15 ?_);refine jG func53 #[.int .u16 a0,iV aa] ?_;refine (ag5 _ _ _ _ (aa1.out (by assumption))).mono ?_;rintro e w' ⟨rfl,⟨nd,rfl⟩⟩;refine⟨_,rfl,?_⟩;(try (rw [abm wr];generalize hq_:World.drewN wr _=wr;have aV:aa1 (Kd.R Kd.bool 4 wr w.heap.size (fun _=>True) (.slice aT aj.length aI) aj):=⟨by rw [<- hq_];exact (qR ae)⟩;have aW:aa1 (Below w.heap.size w wr):=⟨by rw [<- hq_];exact qB⟩;clear ae HB hq_;have ae:=aV;have HB:=aW;clear aV aW));have aJ:0<=(aa:Int):=qD;have aK:(aa:Int) < ((aj.length:Int):Int):=qD;obtain⟨ax,bq,aC,aD,aL,bu,aF⟩:=Kd.R_form ae.out (by omega);(first|cases aC|(injection aC with ea_ en_ ec_;(first|subst ea_|(injection ea_ with ea_;subst ea_));subst ec_;clear en_));have aN:=aM aD;have bv:=aM aF;clear aD aL aF;obtain⟨aO,aP⟩:=Kd.R_celln false ae.out (aa:Int) aJ aK;replace aJ:=eq_true aJ;replace aK:=eq_true aK;obtain⟨aX,aY⟩:=Kd.R_celln false ae.out (aa:Int) (qD) (qD);have ay:=Kd.R_putg ae.out (aa:Int) ai)|((with_reducible refine aaC (t:=4) (p:=16) rfl ?_);refine aat (t:=4) (p:=16) (v:=?aQ) (w1:=(wr.setCell ⟨ax,(aa:Int).toNat,none⟩ (.bool ai))) ?hg ?ho ?hn ?hr ?_;(case ho=>rfl);(case hg=>rfl);(case hn=>rfl);(case hr=>first|(go_simp;done)|(go_simp;rfl));intro az hw;have hg:wr.grownBy az (some ax):=(by rw [hw];exact ay.2);have hp_:Kd.R Kd.bool 4 az w.heap.size (fun _=>True) (.slice (some ⟨ax,0,none⟩) aj.length aI) aB:=(by rw [hw,ak.out];exact ay.1);clear ay;replace ae:=aM hp_;replace HB:=aM ((by rw [hw];exact aae (HB.out) aN.out:Below w.heap.size w az));clear hg hw hp_))
  (try simp only [<- ag])
  go_roundg k1
  case measure=>have:=aU.out;omega
  exact⟨_,_,qZ,H',⟨by have:=aU.out;omega⟩,⟨by (try simp only [ag]);(with_reducible repeat (first|apply Kd.R_alloc|apply Kd.R_drewN|apply Kd.R_drew));exact ae.out⟩,⟨qB⟩⟩
 rw [if_neg c6] at H
 have av:=decide_eq_false c6
 (try simp only [ag] at av)
 clear c6
 obtain rfl:=oJ H
 go_wp2
 go_ret
 exact⟨_,qW,qR ae,qB⟩
end Go.Proofs.YtebpplallecogaaGreat.M
namespace Go.Proofs.YtebpplallecogaaGreat.M
open Go.Proofs.Tryz Go.RowKit Go.Proofs.YtebpplallecogaaGreatW.PrintWords Go.Proofs.YtebpplallecogaaGreatW.PrintLast Go.Proofs.YtebpplallecogaaGreatW.PrintMore Kd
attribute [local go_sem] aak aai aay aax aad aac aaj aah
def afb:Nat->List (List Bool)->List Int->Int->Int->Option ((List (List Bool)))
 | 0,_,_,_,_=>none
 | k+1,x3,aN,aW,aD=>if aD < aW then (if 0<=aD then (if aD < (aN.length:Int) then ((ak3 k (rd aN aD)).bind fun af=>(if x3.length < 5864062014805 then (afb k (x3 ++ [af]) aN aW (wrap64 (aD+1))) else (none))) else (none)) else (none)) else (some x3)
def Sa2.f (k:Nat) (l0:List S27):Option ((List (List Bool))):=(Sa0.f k l0).bind fun aA=>(if aA=true then ((Sa9.f k l0).bind fun aa=>(afb k ([]:List (List Bool)) aa (aa.length:Int) 0)) else (some ([]:List (List Bool))))
theorem Sa2.calls (k:Nat) (A0:Option Addr) (c0:Nat) (l0:List S27) (r:List (List Bool)) (w:World) (hr0:Kd.C k27 w A0 l0.length l0) (hc0:l0.length<=c0) (h:Sa2.f k l0=some r) :
  Calls prog 20 #[.slice A0 l0.length c0] w fun e w'=>∃ aX:Value,e = .returned (aX)/\Kd.S (Kd.slice 4 Kd.bool) 37 w' w.heap.size (fun _=>True) aX r/\Below w.heap.size w w':=by
 have aQ:=aM hr0
 have aR:=aM hc0
 clear hr0 hc0
 have HB:=jb_ w
 have H:=h;unfold Sa2.f at H
 clear h
 obtain⟨aA,A2,H⟩:=qE H
 try dsimp only at H
 replace H:=jB H;rcases H with ⟨rfl,H⟩ | ⟨rfl,H⟩
 ·obtain⟨aa,A4,H⟩:=qE H
  try dsimp only at H
  have H':=aM H
  clear H
  go_enter func20,ntmps20
  go_wp2_with (first|((with_reducible refine jc 18 7 ?_);refine jK func18 (Sa0.calls k _ _ l0 true _ (kC aQ.out) aR.out A2.out) ?_;intro w5 hb;replace HB:=kH hb;clear hb)|((with_reducible refine jc 41 10 ?_);refine jM func41 (Sa9.calls k _ _ l0 aa _ (kb aQ HB) aR.out A4.out) ?_;rintro aY w6 ⟨ho0,hb⟩;have av:=kL ho0;replace HB:=kH hb;clear hb;(try clear ho0);obtain⟨bv,bz,bA⟩:=R_slice av.out;subst bA))
  go_loopg [3,12] k (fun kq v3 v12 w'=>∃ (ax:List (List Bool)) (ae:Int),v12 = iV ae/\aa1 (afb kq ax aa (aa.length:Int) ae=some r)/\aa1 (kq<=k)/\aa1 (Kd.S (Kd.slice 4 Kd.bool) 37 w' w.heap.size (fun _=>True) v3 ax)/\aa1 (Kd.R (Kd.int .u16) 60 w' w.heap.size (fun _=>True) (.slice bv aa.length bz) aa)/\aa1 (Below w.heap.size w w'))
  case atStart=>exact⟨(([]:List (List Bool))),(0),qZ,H',⟨Nat.le_refl _⟩,⟨by first|exact S_nil _ _ _ _ _|exact N_nil _ _ _ _ _|exact V_nil _ _ _ _ _|exact Q_nil _ _ _ _ _|exact R_nil _ _ _ _ _⟩,⟨qR av⟩,⟨qB⟩⟩
  clear H'
  obtain⟨ax,ae,rfl,HA,aZ,ak,ag,HB⟩:=hrel
  rcases gk with _|k1
  ·exact absurd HA.out (by simp [afb])
  have H:=HA.out
  clear HA
  simp only [afb] at H
  replace H:=jD H;rcases H with ⟨aT,H⟩ | ⟨aT,H⟩
  ·replace H:=jI H;obtain⟨bB,H⟩:=H
   replace H:=jI H;obtain⟨bg,H⟩:=H
   obtain⟨af,bF,H⟩:=qE H
   try dsimp only at H
   replace H:=jL H;obtain⟨aG,H⟩:=H
   obtain⟨bi,au⟩:=ky ((ax ++ [af]):List (List Bool))
   replace H:=kv au H
   have H':=aM H
   clear H
   have ay:0<=(ae:Int):=qD
   have az:ae < (aa.length:Int):=qD
   obtain⟨aU,aH,aI⟩:=Kd.at_int (R_reads' ag.out).2.2 ae ay az
   cases aH
   replace ay:=eq_true ay
   replace az:=eq_true az
   go_wp2_with (first|((with_reducible refine jc 42 18 ?_);refine jG func42 #[.int .u16 (rd aa ae)] ?_;refine (ai9 _ _ _ _ (aa1.out (by assumption))).mono ?_;rintro e bC ⟨bn,rfl,ho0,hb⟩;refine⟨_,rfl,?_⟩;have ah:=kL ho0;replace ak:=aM (S_elder' (qS ak) (R_base ho0) hb);replace ag:=kR ag hb;replace HB:=kH hb;clear hb;(try clear ho0);obtain⟨aJ,aK,aV⟩:=R_slice ah.out;subst aV)|((with_reducible refine aaa (b:=.append) (xs:=#[.tmp 16,.tmp 19]) rfl ?_);at_builtin;refine S_append (Kd.slice 4 Kd.bool) (w0:=w) w.heap.size rfl (.tmp 16) (.tmp 19) 33 37 (.slice none 0 0) 24 rfl underlying33 anI rfl (by decide) (by omega) u3 ax af [.slice aJ af.length aK] (fun _=>True) (fun k_=>some k_=(.slice aJ af.length aK:Value).ownBlock) rfl rfl ?aP (fun k_ hk_=>((R_mono (ok':=fun k_=>((fun _=>True)) k_/\some k_≠(u3:Value).ownBlock) (R_apart' (ah.out) (S_typed ak.out) (by decide)) (fun k_ hk=>⟨trivial,hk.2⟩))).1 k_ hk_.symm) ?aF ?aO ?aB ?aS ?aL ?_;(case aP=>exact M_row (R_mono (R_tight rfl (R_mono (ok':=fun k_=>((fun _=>True)) k_/\some k_≠(u3:Value).ownBlock) (R_apart' (ah.out) (S_typed ak.out) (by decide)) (fun k_ hk=>⟨trivial,hk.2⟩))) (fun _ h_=>h_)));(case aB=>exact qB);(case aF=>exact (fun _ _=>trivial));(case aO=>exact (by (with_reducible repeat (first|apply S_alloc|apply S_drewN|apply S_drew));exact S_mono ak.out (by first|exact fun k_ hk=>⟨trivial,fun e_=>hk.2 e_⟩|exact fun k_ hk=>hk)));(case aS=>exact (aa4 qB));(case aL=>have:=aG.out;omega);intro bq bD ho hb hg hat;rw [<- au.out] at ho;have aC:=aM ho;replace ag:=aM (R_over' (qR ag) (S_typed (qS ak)) (by decide) hg);replace HB:=aM hb;clear ak ah;clear ho hb hg hat))
   go_roundg k1
   case measure=>have:=aZ.out;omega
   exact⟨_,_,qZ,H',⟨by have:=aZ.out;omega⟩,⟨qS aC⟩,⟨qR ag⟩,⟨qB⟩⟩
  obtain rfl:=oJ H
  go_wp2
  go_ret
  exact⟨_,qW,qS ak,qB⟩
 obtain rfl:=oJ H
 go_enter func20,ntmps20
 go_wp2_with (first|((with_reducible refine jc 18 7 ?_);refine jK func18 (Sa0.calls k _ _ l0 false _ (kC aQ.out) aR.out A2.out) ?_;intro bE hb;replace HB:=kH hb;clear hb))
 go_ret
 exact⟨_,qW,by first|exact S_nil _ _ _ _ _|exact N_nil _ _ _ _ _|exact V_nil _ _ _ _ _|exact Q_nil _ _ _ _ _|exact R_nil _ _ _ _ _,qB⟩
end Go.Proofs.YtebpplallecogaaGreat.M
namespace Go.Proofs.YtebpplallecogaaGreat.M
open Go.Proofs.Tryz Go.RowKit Go.Proofs.YtebpplallecogaaGreatW.PrintWords Go.Proofs.YtebpplallecogaaGreatW.PrintLast Go.Proofs.YtebpplallecogaaGreatW.PrintMore
attribute [local go_sem] aak aai aay aax aad aac aaj aah
def aeV:Nat->List Bool->List Bool->Int->Option (Bool)
 | 0,_,_,_=>none
 | k+1,x0,x1,x5=>if x5 < (x0.length:Int) then (if 0<=x5 then (if x5 < (x1.length:Int) then (if ((ab7 false x0 x5) != (ab7 false x1 x5))=true then (some false) else (aeV k x0 x1 (wrap64 (x5+1)))) else (none)) else (none)) else (some true)
def SbN.f (k:Nat) (l0 l1:List Bool):Option (Bool):=if (l0.length:Int)=(l1.length:Int) then (aeV k l0 l1 0) else (some false)
theorem SbN.calls (k:Nat) (A0:Option Addr) (c0:Nat) (l0:List Bool) (A1:Option Addr) (c1:Nat) (l1:List Bool) (r:Bool) (w:World) (hr0:Kd.C Kd.bool w A0 l0.length l0) (hc0:l0.length<=c0) (hr1:Kd.C Kd.bool w A1 l1.length l1) (hc1:l1.length<=c1) (h:SbN.f k l0 l1=some r) :
  Calls prog 27 #[.slice A0 l0.length c0,.slice A1 l1.length c1] w fun e w'=>e = .returned (.bool r)/\aar w w':=by
 have aG:=aM hr0
 have aN:=aM hc0
 clear hr0 hc0
 have HR1:=aM hr1
 have aO:=aM hc1
 clear hr1 hc1
 have H:=h;unfold SbN.f at H
 clear h
 by_cases c3:(l0.length:Int)=(l1.length:Int)
 ·rw [if_pos c3] at H
  have ay:((l0.length:Int) == (l1.length:Int))=true:=beq_iff_eq.mpr c3
  have az:((l0.length:Int) != (l1.length:Int))=false:=bne_eq_false_iff_eq.mpr c3
  have aA:(l0.length == l1.length)=true:=by first|simpa using c3|(simp at c3 ⊢;omega)
  clear c3
  have H':=aM H
  clear H
  go_enter func27,ntmps27
  go_wp2
  repeat (go_quiet (fail);try go_wp2)
  go_loopg [5] k (fun kq v5 w'=>∃ (aa:Int),v5 = iV aa/\aa1 (aeV kq l0 l1 aa=some r)/\aa1 (kq<=k)/\aar w w')
  case atStart=>exact⟨(0),qZ,H',⟨Nat.le_refl _⟩,by repeat (first|exact aaI _|apply aar.step)⟩
  clear H'
  try clear c1;try clear c3;try clear ay;try clear az;try clear aA
  obtain⟨aa,rfl,HA,aH,⟨m1,rfl⟩⟩:=hrel
  rcases gk with _|k1
  ·exact absurd HA.out (by simp [aeV])
  have H:=HA.out
  clear HA
  simp only [aeV] at H
  replace H:=jD H;rcases H with ⟨aB,H⟩ | ⟨aB,H⟩
  ·replace H:=jI H;obtain⟨aJ,H⟩:=H
   replace H:=jI H;obtain⟨aK,H⟩:=H
   by_cases c7:((ab7 false l0 aa) != (ab7 false l1 aa))=true
   ·rw [if_pos c7] at H
    have aC:((ab7 false l0 aa) != (ab7 false l1 aa))=true:=c7
    (try (have aD:decide ((ab7 false l0 aa)=(ab7 false l1 aa))=false:=by simpa using c7))
    (try (have aF:((ab7 false l0 aa) == (ab7 false l1 aa))=false:=by simpa using c7))
    (try (have aL:¬ ((ab7 false l0 aa)=(ab7 false l1 aa)):=by simpa using c7))
    clear c7
    obtain rfl:=oJ H
    have ae:0<=(aa:Int):=qD
    have af:aa < (l0.length:Int):=qD
    obtain⟨av,ai,aj⟩:=Kd.at_bool aG.out aa ae af
    cases ai
    replace ae:=eq_true ae
    replace af:=eq_true af
    have ag:0<=(aa:Int):=qD
    have ah:aa < (l1.length:Int):=qD
    obtain⟨ax,ak,au⟩:=Kd.at_bool HR1.out aa ag ah
    cases ak
    replace ag:=eq_true ag
    replace ah:=eq_true ah
    go_wp2
    repeat (go_quiet (fail);try go_wp2)
    go_ret
    exact⟨qZ,qU⟩
   rw [if_neg c7] at H
   have aC:((ab7 false l0 aa) != (ab7 false l1 aa))=false:=by simpa using c7
   (try (have aD:decide ((ab7 false l0 aa)=(ab7 false l1 aa))=true:=by simpa using c7))
   (try (have aF:((ab7 false l0 aa) == (ab7 false l1 aa))=true:=by simpa using c7))
   clear c7
   have H':=aM H
   clear H
   have ae:0<=(aa:Int):=qD
   have af:aa < (l0.length:Int):=qD
   obtain⟨av,ai,aj⟩:=Kd.at_bool aG.out aa ae af
   cases ai
   replace ae:=eq_true ae
   replace af:=eq_true af
   have ag:0<=(aa:Int):=qD
   have ah:aa < (l1.length:Int):=qD
   obtain⟨ax,ak,au⟩:=Kd.at_bool HR1.out aa ag ah
   cases ak
   replace ag:=eq_true ag
   replace ah:=eq_true ah
   go_wp2
   repeat (go_quiet (fail);try go_wp2)
   go_roundg k1
   case measure=>have:=aH.out;omega
   exact⟨(wrap64 (aa+1)),qZ,H',⟨by have:=aH.out;omega⟩,by repeat (first|exact aaI _|apply aar.step)⟩
  obtain rfl:=oJ H
  go_wp2
  repeat (go_quiet (fail);try go_wp2)
  go_ret
  exact⟨qZ,qU⟩
 rw [if_neg c3] at H
 have ay:((l0.length:Int) == (l1.length:Int))=false:=beq_eq_false_iff_ne.mpr c3
 have az:((l0.length:Int) != (l1.length:Int))=true:=bne_iff_ne.mpr c3
 have aA:(l0.length == l1.length)=false:=by first|simpa using c3|(simp at c3 ⊢;omega)
 obtain rfl:=oJ H
 go_enter func27,ntmps27
 go_wp2
 repeat (go_quiet (fail);try go_wp2)
 go_ret
 exact⟨qZ,qU⟩
def aeU:Nat->List (List Bool)->List (List Bool)->Int->Option (Bool)
 | 0,_,_,_=>none
 | k+1,x0,x1,x5=>if x5 < (x0.length:Int) then (if 0<=x5 then (if x5 < (x1.length:Int) then ((SbN.f k (aaH x0 x5) (aaH x1 x5)).bind fun aO=>(if aO=true then (aeU k x0 x1 (wrap64 (x5+1))) else (some false))) else (none)) else (none)) else (some true)
def SbO.f (k:Nat) (l0:List (List Bool)) (l1:List (List Bool)):Option (Bool):=if (l0.length:Int)=(l1.length:Int) then (aeU k l0 l1 0) else (some false)
theorem SbO.calls (k:Nat) (A0:Option Addr) (c0:Nat) (l0:List (List Bool)) (A1:Option Addr) (c1:Nat) (l1:List (List Bool)) (r:Bool) (w:World) (hr0:Kd.C (Kd.slice 4 Kd.bool) w A0 l0.length l0) (hc0:l0.length<=c0) (hr1:Kd.C (Kd.slice 4 Kd.bool) w A1 l1.length l1) (hc1:l1.length<=c1) (h:SbO.f k l0 l1=some r) :
  Calls prog 22 #[.slice A0 l0.length c0,.slice A1 l1.length c1] w fun e w'=>e = .returned (.bool r)/\aar w w':=by
 have aV:=aM hr0
 have bg:=aM hc0
 clear hr0 hc0
 have HR1:=aM hr1
 have bi:=aM hc1
 clear hr1 hc1
 have H:=h;unfold SbO.f at H
 clear h
 by_cases c3:(l0.length:Int)=(l1.length:Int)
 ·rw [if_pos c3] at H
  have aR:((l0.length:Int) == (l1.length:Int))=true:=beq_iff_eq.mpr c3
  have aS:((l0.length:Int) != (l1.length:Int))=false:=bne_eq_false_iff_eq.mpr c3
  have aT:(l0.length == l1.length)=true:=by first|simpa using c3|(simp at c3 ⊢;omega)
  clear c3
  have H':=aM H
  clear H
  go_enter func22,ntmps22
  go_wp2
  repeat (go_quiet (fail);try go_wp2)
  go_loopg [5] k (fun kq v5 w'=>∃ (aa:Int),v5 = iV aa/\aa1 (aeU kq l0 l1 aa=some r)/\aa1 (kq<=k)/\aar w w')
  case atStart=>exact⟨(0),qZ,H',⟨Nat.le_refl _⟩,by repeat (first|exact aaI _|apply aar.step)⟩
  clear H'
  try clear c1;try clear c3;try clear aR;try clear aS;try clear aT
  obtain⟨aa,rfl,HA,aW,⟨m1,rfl⟩⟩:=hrel
  rcases gk with _|k1
  ·exact absurd HA.out (by simp [aeU])
  have H:=HA.out
  clear HA
  simp only [aeU] at H
  replace H:=jD H;rcases H with ⟨aU,H⟩ | ⟨aU,H⟩
  ·replace H:=jI H;obtain⟨aY,H⟩:=H
   replace H:=jI H;obtain⟨aZ,H⟩:=H
   obtain⟨aO,A7,H⟩:=qE H
   try dsimp only at H
   replace H:=jB H;rcases H with ⟨rfl,H⟩ | ⟨rfl,H⟩
   ·have H':=aM H
    clear H
    have aA:0<=(aa:Int):=qD
    have aB:aa < (l0.length:Int):=qD
    obtain⟨aP,aJ,aK,aF,aG,ai,aj⟩:=afg aV.out aa aA aB
    cases aF
    have ae:=aM aj
    have af:=aM ai
    clear aj ai
    replace aA:=eq_true aA
    replace aB:=eq_true aB
    have aC:0<=(aa:Int):=qD
    have aD:aa < (l1.length:Int):=qD
    obtain⟨aQ,aL,aN,aH,aI,ak,au⟩:=afg HR1.out aa aC aD
    cases aH
    have ag:=aM au
    have ah:=aM ak
    clear au ak
    replace aC:=eq_true aC
    replace aD:=eq_true aD
    go_wp2_with (first|(go_at_call 27;(with_reducible refine (SbN.calls k1 _ _ (aaH l0 aa) _ _ (aaH l1 aa) true _ ?av ?ax ?ay ?az A7.out).mono ?_);(case av=>exact kC ae.out);(case ax=>exact af.out);(case ay=>exact kC ag.out);(case az=>exact ah.out);rintro e w' ⟨rfl,⟨nd,rfl⟩⟩;(try first|exact⟨rfl,_,World.drewN_drewN _ _ _⟩|exact⟨rfl,_,Eq.trans (World.drewN_drewN _ _ _) (congrArg (World.drewN _) (Nat.add_assoc _ _ _))⟩)))
    repeat (go_quiet (first|(go_at_call 27;(with_reducible refine (SbN.calls k1 _ _ (aaH l0 aa) _ _ (aaH l1 aa) true _ ?av ?ax ?ay ?az A7.out).mono ?_);(case av=>exact kC ae.out);(case ax=>exact af.out);(case ay=>exact kC ag.out);(case az=>exact ah.out);rintro e w' ⟨rfl,⟨nd,rfl⟩⟩;(try first|exact⟨rfl,_,World.drewN_drewN _ _ _⟩|exact⟨rfl,_,Eq.trans (World.drewN_drewN _ _ _) (congrArg (World.drewN _) (Nat.add_assoc _ _ _))⟩)));try go_wp2_with (first|(go_at_call 27;(with_reducible refine (SbN.calls k1 _ _ (aaH l0 aa) _ _ (aaH l1 aa) true _ ?av ?ax ?ay ?az A7.out).mono ?_);(case av=>exact kC ae.out);(case ax=>exact af.out);(case ay=>exact kC ag.out);(case az=>exact ah.out);rintro e w' ⟨rfl,⟨nd,rfl⟩⟩;(try first|exact⟨rfl,_,World.drewN_drewN _ _ _⟩|exact⟨rfl,_,Eq.trans (World.drewN_drewN _ _ _) (congrArg (World.drewN _) (Nat.add_assoc _ _ _))⟩))))
    go_roundg k1
    case measure=>have:=aW.out;omega
    exact⟨_,qZ,H',⟨by have:=aW.out;omega⟩,by repeat (first|exact aaI _|apply aar.step)⟩
   obtain rfl:=oJ H
   have aA:0<=(aa:Int):=qD
   have aB:aa < (l0.length:Int):=qD
   obtain⟨aP,aJ,aK,aF,aG,ai,aj⟩:=afg aV.out aa aA aB
   cases aF
   have ae:=aM aj
   have af:=aM ai
   clear aj ai
   replace aA:=eq_true aA
   replace aB:=eq_true aB
   have aC:0<=(aa:Int):=qD
   have aD:aa < (l1.length:Int):=qD
   obtain⟨aQ,aL,aN,aH,aI,ak,au⟩:=afg HR1.out aa aC aD
   cases aH
   have ag:=aM au
   have ah:=aM ak
   clear au ak
   replace aC:=eq_true aC
   replace aD:=eq_true aD
   go_wp2_with (first|(go_at_call 27;(with_reducible refine (SbN.calls k1 _ _ (aaH l0 aa) _ _ (aaH l1 aa) false _ ?av ?ax ?ay ?az A7.out).mono ?_);(case av=>exact kC ae.out);(case ax=>exact af.out);(case ay=>exact kC ag.out);(case az=>exact ah.out);rintro e w' ⟨rfl,⟨nd,rfl⟩⟩;(try first|exact⟨rfl,_,World.drewN_drewN _ _ _⟩|exact⟨rfl,_,Eq.trans (World.drewN_drewN _ _ _) (congrArg (World.drewN _) (Nat.add_assoc _ _ _))⟩)))
   repeat (go_quiet (first|(go_at_call 27;(with_reducible refine (SbN.calls k1 _ _ (aaH l0 aa) _ _ (aaH l1 aa) false _ ?av ?ax ?ay ?az A7.out).mono ?_);(case av=>exact kC ae.out);(case ax=>exact af.out);(case ay=>exact kC ag.out);(case az=>exact ah.out);rintro e w' ⟨rfl,⟨nd,rfl⟩⟩;(try first|exact⟨rfl,_,World.drewN_drewN _ _ _⟩|exact⟨rfl,_,Eq.trans (World.drewN_drewN _ _ _) (congrArg (World.drewN _) (Nat.add_assoc _ _ _))⟩)));try go_wp2_with (first|(go_at_call 27;(with_reducible refine (SbN.calls k1 _ _ (aaH l0 aa) _ _ (aaH l1 aa) false _ ?av ?ax ?ay ?az A7.out).mono ?_);(case av=>exact kC ae.out);(case ax=>exact af.out);(case ay=>exact kC ag.out);(case az=>exact ah.out);rintro e w' ⟨rfl,⟨nd,rfl⟩⟩;(try first|exact⟨rfl,_,World.drewN_drewN _ _ _⟩|exact⟨rfl,_,Eq.trans (World.drewN_drewN _ _ _) (congrArg (World.drewN _) (Nat.add_assoc _ _ _))⟩))))
   go_ret
   exact⟨qZ,qU⟩
  obtain rfl:=oJ H
  go_wp2
  repeat (go_quiet (fail);try go_wp2)
  go_ret
  exact⟨qZ,qU⟩
 rw [if_neg c3] at H
 have aR:((l0.length:Int) == (l1.length:Int))=false:=beq_eq_false_iff_ne.mpr c3
 have aS:((l0.length:Int) != (l1.length:Int))=true:=bne_iff_ne.mpr c3
 have aT:(l0.length == l1.length)=false:=by first|simpa using c3|(simp at c3 ⊢;omega)
 obtain rfl:=oJ H
 go_enter func22,ntmps22
 go_wp2
 repeat (go_quiet (fail);try go_wp2)
 go_ret
 exact⟨qZ,qU⟩
def ag7:Nat->List S27->Int->Bool->Option (List Bool)
 | 0,_,_,_=>none
 | k+1,x0,x1,aN=>if aN=true then (some ([]:List Bool)) else ((Sa9.f k x0).bind fun ag=>((Saa.f k x0 ag x1).bind fun ah=>((ak3 k ah).bind fun au=>(some au))))
def amG (k:Nat) (l0:List S27) (a1:Int):Option (List Bool):=(Sa0.f k l0).bind fun av=>(if av=true then (if a1 < 0 then (ag7 k l0 a1 true) else (ag7 k l0 a1 (decide (a1>=(l0.length:Int))))) else (ag7 k l0 a1 true))
theorem aqs {G:Prop} (h:G:=by
  go_wp2_with (first|((with_reducible refine jc 18 6 ?_);refine jK func18 (Sa0.calls k _ _ l0 true _ (kb aA HB) aB.out A4.out) ?_;intro aC hb;replace HB:=kH hb;clear hb))
  go_meet
  exact⟨_,_,qZ,H',⟨by first|omega|exact Nat.le_refl _⟩,⟨qB⟩⟩):G:=h
theorem amH (k:Nat) (A0:Option Addr) (c0:Nat) (l0:List S27) (a1:Int) (r:List Bool) (w:World) (hr0:Kd.C k27 w A0 l0.length l0) (hc0:l0.length<=c0) (h:amG k l0 a1=some r) :
  Calls prog 24 #[.slice A0 l0.length c0,iV a1] w fun e w'=>∃ aI:Value,e = .returned (aI)/\Kd.R Kd.bool 4 w' w.heap.size (fun _=>True) aI r/\Below w.heap.size w w':=by
 have aA:=aM hr0
 have aB:=aM hc0
 clear hr0 hc0
 have HB:=jb_ w
 have H:=h;unfold amG at H
 clear h
 have aD:=aM H
 clear H
 go_enter func24,ntmps24
 go_upto_region 1 with (fail)
 go_cut [17] (fun v17 wc=>∃ (kq:Nat) (ai:Bool),v17 = .bool ai/\aa1 (ag7 kq l0 a1 ai=some r)/\aa1 (kq<=k)/\aa1 (Below w.heap.size w wc))
 case first =>
  have H:=aD.out
  clear aD
  obtain⟨av,A4,H⟩:=qE H
  try dsimp only at H
  replace H:=jB H;rcases H with ⟨rfl,H⟩ | ⟨rfl,H⟩
  ·replace H:=jD H;rcases H with ⟨aj,H⟩ | ⟨aj,H⟩
   ·(first|rw [aj]|(simp only [aaB,aaF];rw [aj])|skip)
    have H':=aM H
    clear H
    exact aqs
   (first|rw [aj]|(simp only [aaB,aaF];rw [aj])|skip)
   have H':=aM H
   clear H
   exact aqs
  have H':=aM H
  clear H
  go_wp2_with (first|((with_reducible refine jc 18 6 ?_);refine jK func18 (Sa0.calls k _ _ l0 false _ (kb aA HB) aB.out A4.out) ?_;intro aC hb;replace HB:=kH hb;clear hb))
  go_meet
  exact⟨_,_,qZ,H',⟨by first|omega|exact Nat.le_refl _⟩,⟨qB⟩⟩
 clear aD
 obtain⟨kq,ai,rfl,HA,HJ2,HB⟩:=hcut
 cases kq with
 | zero=>exact absurd HA.out (by simp [ag7])
 | succ aJ =>
  have H:=HA.out
  clear HA
  simp only [ag7] at H
  replace H:=jB H;rcases H with ⟨rfl,H⟩ | ⟨rfl,H⟩
  ·obtain rfl:=oJ H
   go_wp2
   go_ret
   exact⟨_,qW,by first|exact Kd.R_nil _ _ _ _ _|exact Kd.N_nil _ _ _ _ _|exact Kd.V_nil _ _ _ _ _|exact Kd.Q_nil _ _ _ _ _|exact Kd.S_nil _ _ _ _ _,qB⟩
  obtain⟨ag,aP,H⟩:=qE H
  try dsimp only at H
  obtain⟨ah,aQ,H⟩:=qE H
  try dsimp only at H
  obtain⟨au,aU,H⟩:=qE H
  try dsimp only at H
  obtain rfl:=oJ H
  go_wp2_with (first|((with_reducible refine jc 41 20 ?_);refine jM func41 (Sa9.calls aJ _ _ l0 ag _ (kb aA HB) aB.out aP.out) ?_;rintro aK aR ⟨ak,hb⟩;have aa:=kL ak;replace HB:=kH hb;clear hb;(try clear ak);obtain⟨aF,aG,aH⟩:=Kd.R_slice aa.out;subst aH)|((with_reducible refine jc 44 22 ?_);refine jK func44 (Saa.calls aJ _ _ l0 _ _ ag a1 ah _ (kb aA HB) aB.out (kJ aa) (kp aa) aQ.out) ?_;intro aS hb;replace aa:=kR aa hb;replace HB:=kH hb;clear hb)|((with_reducible refine jc 42 23 ?_);refine jG func42 #[.int .u16 ah] ?_;refine (ai9 _ _ _ _ (aa1.out (by assumption))).mono ?_;rintro e aT ⟨aL,rfl,ak,hb⟩;refine⟨_,rfl,?_⟩;have ax:=kL ak;replace aa:=kR aa hb;replace HB:=kH hb;clear hb;(try clear ak)))
  go_ret
  exact⟨_,qW,qR ax,qB⟩
def aej:Nat->List Int->Int->Int->Option (Bool)
 | 0,_,_,_=>none
 | k+1,x0,x1,x5=>if x5 < (x0.length:Int) then (if 0<=x5 then (if (rd x0 x5)=x1 then (some true) else (aej k x0 x1 (wrap64 (x5+1)))) else (none)) else (some false)
def SbM.f (k:Nat) (l0:List Int) (a1:Int):Option (Bool):=aej k l0 a1 0
theorem SbM.calls (k:Nat) (A0:Option Addr) (c0:Nat) (l0:List Int) (a1:Int) (r:Bool) (w:World) (hr0:Kd.C (Kd.int .i64) w A0 l0.length l0) (hc0:l0.length<=c0) (h:SbM.f k l0 a1=some r) :
  Calls prog 29 #[.slice A0 l0.length c0,iV a1] w fun e w'=>e = .returned (.bool r)/\aar w w':=by
 have av:=aM hr0
 have aA:=aM hc0
 clear hr0 hc0
 have H:(aej k l0 a1 0)=some r:=h
 clear h
 have H':=aM H
 clear H
 go_enter func29,ntmps29
 go_wp2
 go_loopg [5] k (fun kq v5 w'=>∃ (af:Int),v5 = iV af/\aa1 (aej kq l0 a1 af=some r)/\aa1 (kq<=k)/\aar w w')
 case atStart=>exact⟨(0),qZ,H',⟨Nat.le_refl _⟩,by repeat (first|exact aaI _|apply aar.step)⟩
 clear H'
 obtain⟨af,rfl,HA,ax,⟨m1,rfl⟩⟩:=hrel
 rcases gk with _|k1
 ·exact absurd HA.out (by simp [aej])
 have H:=HA.out
 clear HA
 simp only [aej] at H
 replace H:=jD H;rcases H with ⟨aj,H⟩ | ⟨aj,H⟩
 ·replace H:=jI H;obtain⟨az,H⟩:=H
  replace H:=jE H;rcases H with ⟨ak,au,H⟩ | ⟨c5,ak,au,H⟩
  ·obtain rfl:=oJ H
   have aa:0<=(af:Int):=qD
   have ae:af < (l0.length:Int):=qD
   obtain⟨ai,ag,ah⟩:=Kd.at_int av.out af aa ae
   cases ag
   replace aa:=eq_true aa
   replace ae:=eq_true ae
   go_wp2
   go_ret
   exact⟨qZ,qU⟩
  have H':=aM H
  clear H
  have aa:0<=(af:Int):=qD
  have ae:af < (l0.length:Int):=qD
  obtain⟨ai,ag,ah⟩:=Kd.at_int av.out af aa ae
  cases ag
  replace aa:=eq_true aa
  replace ae:=eq_true ae
  go_wp2
  go_roundg k1
  case measure=>have:=ax.out;omega
  exact⟨(wrap64 (af+1)),qZ,H',⟨by have:=ax.out;omega⟩,by repeat (first|exact aaI _|apply aar.step)⟩
 obtain rfl:=oJ H
 go_wp2
 go_ret
 exact⟨qZ,qU⟩
def adI:Nat->Int->List Int->Int->Option (List Int)
 | 0,_,_,_=>none
 | k+1,x0,x3,x5=>if x5 < 12 then ((aiS x0 x5).bind fun ah=>(if ah=true then (if x3.length < 17592186044416 then (adI k x0 (x3 ++ [x5]) (wrap64 (x5+1))) else (none)) else (adI k x0 x3 (wrap64 (x5+1))))) else (some x3)
def anq (k:Nat) (a0:Int):Option (List Int):=adI k a0 ([]:List Int) 0
theorem ams (k:Nat) (a0:Int) (r:List Int) (w:World) (h:anq k a0=some r) :
  Calls prog 49 #[.int .u16 a0] w fun e w'=>∃ av:Value,e = .returned (av)/\Kd.R (Kd.int .i64) 3 w' w.heap.size (fun _=>True) av r/\Below w.heap.size w w':=by
 have HB:=jb_ w
 have H:(adI k a0 ([]:List Int) 0)=some r:=h
 clear h
 have H':=aM H
 clear H
 go_enter func49,ntmps49
 go_wp2
 go_loopg [3,5] k (fun kq v3 v5 w'=>∃ (af:List Int) (aa:Int),v5 = iV aa/\aa1 (adI kq a0 af aa=some r)/\aa1 (kq<=k)/\aa1 (Kd.R (Kd.int .i64) 3 w' w.heap.size (fun _=>True) v3 af)/\aa1 (Below w.heap.size w w'))
 case atStart=>exact⟨(([]:List Int)),(0),qZ,H',⟨Nat.le_refl _⟩,⟨by first|exact Kd.R_nil _ _ _ _ _|exact Kd.N_nil _ _ _ _ _|exact Kd.V_nil _ _ _ _ _|exact Kd.Q_nil _ _ _ _ _|exact Kd.S_nil _ _ _ _ _⟩,⟨qB⟩⟩
 clear H'
 obtain⟨af,aa,rfl,HA,aj,ag,HB⟩:=hrel
 rcases gk with _|k1
 ·exact absurd HA.out (by simp [adI])
 have H:=HA.out
 clear HA
 simp only [adI] at H
 replace H:=jD H;rcases H with ⟨ak,H⟩ | ⟨ak,H⟩
 ·obtain⟨ah,A3,H⟩:=qE H
  try dsimp only at H
  replace H:=jB H;rcases H with ⟨rfl,H⟩ | ⟨rfl,H⟩
  ·replace H:=jL H;obtain⟨au,H⟩:=H
   obtain⟨ax,ae⟩:=ky ((af ++ [aa]):List Int)
   replace H:=kv ae H
   have H':=aM H
   clear H
   go_wp2_with (first|((with_reducible refine jc 53 10 ?_);refine jG func53 #[.int .u16 a0,iV aa] ?_;refine (ag5 _ _ _ _ (aa1.out (by assumption))).mono ?_;rintro e w' ⟨rfl,⟨nd,rfl⟩⟩;refine⟨_,rfl,?_⟩)|((with_reducible refine aaa (b:=.append) (xs:=#[.tmp 11,.tmp 13]) rfl ?_);at_builtin;refine Kd.R_append (Kd.int .i64) (w0:=w) w.heap.size rfl (.tmp 11) (.tmp 13) 43 3 (iV 0) 8 rfl underlying43 akU rfl (by decide) (by omega) u3 af aa [iV aa] (fun _=>True) (fun _=>False) rfl rfl ?aP (fun _ hk=>hk.elim) ?aF ?aO ?aB ?aS ?aL ?_;(case aP=>exact rfl);(case aB=>exact qB);(case aF=>exact (fun _ _=>trivial));(case aO=>exact (qR ag));(case aS=>exact (aa4 qB));(case aL=>have:=au.out;omega);intro ay aA ho hb hg hat;rw [<- ae.out] at ho;have ai:=aM ho;replace HB:=aM hb;clear ag;clear ho hb hg hat))
   go_roundg k1
   case measure=>have:=aj.out;omega
   exact⟨_,_,qZ,H',⟨by have:=aj.out;omega⟩,⟨qR ai⟩,⟨qB⟩⟩
  have H':=aM H
  clear H
  go_wp2_with (first|((with_reducible refine jc 53 10 ?_);refine jG func53 #[.int .u16 a0,iV aa] ?_;refine (ag5 _ _ _ _ (aa1.out (by assumption))).mono ?_;rintro e w' ⟨rfl,⟨nd,rfl⟩⟩;refine⟨_,rfl,?_⟩))
  go_roundg k1
  case measure=>have:=aj.out;omega
  exact⟨_,_,qZ,H',⟨by have:=aj.out;omega⟩,⟨qR ag⟩,⟨qB⟩⟩
 obtain rfl:=oJ H
 go_wp2
 go_ret
 exact⟨_,qW,qR ag,qB⟩
def ak7 (k:Nat) (ae af ag ah ai:Int):Option (List Int):=(ak6 ae af ag ah ai 600).bind fun au=>(if au=true then ((ai7 k ae af ag ah ai).bind fun aj=>((anq k aj).bind fun ak=>(some ak))) else (some ([]:List Int)))
theorem acG (k:Nat) (ae af ag ah ai:Int) (r:List Int) (w:World) (h:ak7 k ae af ag ah ai=some r) :
  Calls prog 30 #[.agg #[iV ae,iV af,iV ag,iV ah,iV ai]] w fun e w'=>∃ az:Value,e = .returned (az)/\Kd.R (Kd.int .i64) 3 w' w.heap.size (fun _=>True) az r/\Below w.heap.size w w':=by
 have aB:=underlying27
 have HB:=jb_ w
 have H:=h;unfold ak7 at H
 clear h
 obtain⟨au,A2,H⟩:=qE H
 try dsimp only at H
 replace H:=jB H;rcases H with ⟨rfl,H⟩ | ⟨rfl,H⟩
 ·obtain⟨aj,A4,H⟩:=qE H
  try dsimp only at H
  obtain⟨ak,A5,H⟩:=qE H
  try dsimp only at H
  obtain rfl:=oJ H
  go_enter func30,ntmps30
  go_wp2_with (first|((with_reducible refine jd 1 ?_);refine jY _ 27 ?_;intro av hg w6 aa hb;have ax:=kG hg;replace HB:=kH hb;clear hb hg;have aD:=jz5 aa)|((with_reducible refine jc 40 4 ?_);refine jK func40 (Sa7.calls ae af ag ah ai 600 true _ A2.out) ?_;intro w8 hb;replace aa:=kB aa hb;replace HB:=kH hb;clear hb;have aF:=jz5 aa)|((with_reducible refine jc 48 7 ?_);refine jK func48 (adl k ae af ag ah ai aj _ A4.out) ?_;intro aG hb;replace aa:=kB aa hb;replace HB:=kH hb;clear hb)|((with_reducible refine jc 49 8 ?_);refine jM func49 (ams k aj ak _ A5.out) ?_;rintro aA aH ⟨ho0,hb⟩;have ay:=kL ho0;replace aa:=kB aa hb;replace HB:=kH hb;clear hb;(try clear ho0)))
  go_ret
  exact⟨_,qW,qR ay,qB⟩
 obtain rfl:=oJ H
 go_enter func30,ntmps30
 go_wp2_with (first|((with_reducible refine jd 1 ?_);refine jY _ 27 ?_;intro av hg aI aa hb;have ax:=kG hg;replace HB:=kH hb;clear hb hg;have aC:=jz5 aa)|((with_reducible refine jc 40 4 ?_);refine jK func40 (Sa7.calls ae af ag ah ai 600 false _ A2.out) ?_;intro aJ hb;replace aa:=kB aa hb;replace HB:=kH hb;clear hb))
 go_ret
 exact⟨_,qW,by first|exact Kd.R_nil _ _ _ _ _|exact Kd.N_nil _ _ _ _ _|exact Kd.V_nil _ _ _ _ _|exact Kd.Q_nil _ _ _ _ _|exact Kd.S_nil _ _ _ _ _,qB⟩
def aiX (ae af ag ah ai:Int):Option (Int):=(ak6 ae af ag ah ai 600).bind fun aj=>(if aj=true then ((ai8 ae af ag ah ai).bind fun ak=>(some ak)) else (some (-1)))
theorem aqp {G:Prop} (h:G:=by
  go_enter func31,ntmps31
  go_wp2_with (first|((with_reducible refine jd 1 ?_);refine jY _ 27 ?_;intro au hg ax aa hb;have av:=kG hg;replace HB:=kH hb;clear hb hg;have ay:=jz5 aa)|((with_reducible refine jc 40 4 ?_);refine jG func40 #[.agg #[iV ae,iV af,iV ag,iV ah,iV ai],iV 600] ?_;refine (Sa7.calls _ _ _ _ _ _ _ _ (aa1.out (by assumption))).mono ?_;rintro e az ⟨rfl,hb⟩;refine⟨_,rfl,?_⟩;replace aa:=kB aa hb;replace HB:=kH hb;clear hb;have aA:=jz5 aa)|((with_reducible refine jc 50 7 ?_);refine jG func50 #[.agg #[iV ae,iV af,iV ag,iV ah,iV ai]] ?_;refine (Sag.calls _ _ _ _ _ _ _ (aa1.out (by assumption))).mono ?_;rintro e aB ⟨rfl,hb⟩;refine⟨_,rfl,?_⟩;replace aa:=kB aa hb;replace HB:=kH hb;clear hb))
  go_ret
  exact⟨qW,qB⟩):G:=h
theorem aif (ae af ag ah ai r:Int) (w:World) (h:aiX ae af ag ah ai=some r) :
  Calls prog 31 #[.agg #[iV ae,iV af,iV ag,iV ah,iV ai]] w fun e w'=>e = .returned (iV r)/\Below w.heap.size w w':=by
 have aC:=underlying27
 have HB:=jb_ w
 have H:=h;unfold aiX at H
 clear h
 obtain⟨aj,A2,H⟩:=qE H
 try dsimp only at H
 replace H:=jB H;rcases H with ⟨rfl,H⟩ | ⟨rfl,H⟩
 ·obtain⟨ak,A4,H⟩:=qE H
  try dsimp only at H
  obtain rfl:=oJ H
  exact aqp
 obtain rfl:=oJ H
 exact aqp
end Go.Proofs.YtebpplallecogaaGreat.M
namespace Go.Proofs.YtebpplallecogaaGreat.M
open Go.Proofs.Tryz Go.RowKit Go.Proofs.YtebpplallecogaaGreatW.PrintWords Go.Proofs.YtebpplallecogaaGreatW.PrintLast Go.Proofs.YtebpplallecogaaGreatW.PrintMore Kd
attribute [local go_sem] aak aai aay aax aad aac aaj aah
mutual
def afW:Nat->List Int->List Int->Bool->Option (Bool)
 | 0,_,_,_=>none
 | k+1,x0,x1,jQ=>if jQ=true then (some true) else ((ami k x0).bind fun ae=>((Sa2.f k ae).bind fun ag=>((Sau.f k ae).bind fun aQ=>((SbO.f k ag aQ).bind fun eY=>(if eY=true then (afV k x1 ae ag aQ ((ag.length:Int) == 0)) else (afV k x1 ae ag aQ true))))))
def afV:Nat->List Int->List S27->List (List Bool)->List (List Bool)->Bool->Option (Bool)
 | 0,_,_,_,_,_=>none
 | k+1,x1,x5,x6,x7,x34=>if x34=true then ((SbO.f k x6 x7).bind fun dA=>(some dA)) else (if (x5.length:Int)=0 then (none) else ((amG k x5 ((x1.length:Int) % (x5.length:Int))).bind fun aD=>(acf k x5 x6 ((x1.length:Int) % (x5.length:Int)) aD 0)))
def acf:Nat->List S27->List (List Bool)->Int->List Bool->Int->Option (Bool)
 | 0,_,_,_,_,_=>none
 | k+1,x5,x6,x8,x9,dn=>if dn < 12 then (if 0<=x8 then (if x8 < (x5.length:Int) then ((ak7 k ((aa0 x5 x8).f0) ((aa0 x5 x8).f1) ((aa0 x5 x8).f2) ((aa0 x5 x8).f3) ((aa0 x5 x8).f4)).bind fun aA=>((SbM.f k aA dn).bind fun dz=>(if dz=true then (if x8 < (x6.length:Int) then (if 0<=dn then (if dn < ((aaH x6 x8).length:Int) then (if (true != (ab7 false (aaH x6 x8) dn))=true then (some false) else (acf k x5 x6 x8 x9 (wrap64 (dn+1)))) else (none)) else (none)) else (none)) else (if 0<=dn then (if dn < (x9.length:Int) then (if ab7 false x9 dn=true then ((aiX ((aa0 x5 x8).f0) ((aa0 x5 x8).f1) ((aa0 x5 x8).f2) ((aa0 x5 x8).f3) ((aa0 x5 x8).f4)).bind fun aG=>(if x8 < (x6.length:Int) then (if dn < ((aaH x6 x8).length:Int) then (if ((aG != dn) != (ab7 false (aaH x6 x8) dn))=true then (some false) else (acf k x5 x6 x8 x9 (wrap64 (dn+1)))) else (none)) else (none))) else (if x8 < (x6.length:Int) then (if dn < ((aaH x6 x8).length:Int) then (if (false != (ab7 false (aaH x6 x8) dn))=true then (some false) else (acf k x5 x6 x8 x9 (wrap64 (dn+1)))) else (none)) else (none))) else (none)) else (none))))) else (none)) else (none)) else (some ((x6.length:Int) == (x5.length:Int)))
end
def SbL.f (k:Nat) (l0 l1:List Int):Option (Bool):=if (l0.length:Int) > 1048576 then (afW k l0 l1 true) else (afW k l0 l1 (decide ((l1.length:Int) > 1048576)))
theorem SbL.calls (k:Nat) (A0:Option Addr) (c0:Nat) (l0:List Int) (A1:Option Addr) (c1:Nat) (l1:List Int) (r:Bool) (w:World) (hr0:Kd.C (Kd.int .u8) w A0 l0.length l0) (hc0:l0.length<=c0) (hr1:Kd.C (Kd.int .u8) w A1 l1.length l1) (hc1:l1.length<=c1) (h:SbL.f k l0 l1=some r) :
  Calls prog 9 #[.slice A0 l0.length c0,.slice A1 l1.length c1] w fun e w'=>e = .returned (.bool r)/\Below w.heap.size w w':=by
 have jT:=underlying27
 have jW:=aM hr0
 have jZ:=aM hc0
 clear hr0 hc0
 have HR1:=aM hr1
 have lH:=aM hc1
 clear hr1 hc1
 have HB:=jb_ w
 have H:=h;unfold SbL.f at H
 clear h
 have gB:=aM H
 clear H
 go_enter func9,ntmps9
 go_upto_region 1 with (fail)
 go_cut [19] (fun v19 wc=>∃ (kq:Nat) (dB:Bool),v19 = .bool dB/\aa1 (afW kq l0 l1 dB=some r)/\aa1 (kq<=k)/\aa1 (Below w.heap.size w wc))
 case first =>
  have H:=gB.out
  clear gB
  by_cases c4:(l0.length:Int) > 1048576
  ·rw [if_pos c4] at H
   have dC:=decide_eq_true c4
   have gD:decide (1048576 < l0.length)=true:=decide_eq_true (by omega)
   clear c4
   (first|rw [dC]|(simp only [aaB,aaF];rw [dC])|skip)
   have H':=aM H
   clear H
   go_wp2
   go_meet
   exact⟨_,(true),qZ,H',⟨by first|omega|exact Nat.le_refl _⟩,⟨qB⟩⟩
  rw [if_neg c4] at H
  have dC:=decide_eq_false c4
  have gD:decide (1048576 < l0.length)=false:=decide_eq_false (by omega)
  clear c4
  (first|rw [dC]|(simp only [aaB,aaF];rw [dC])|skip)
  have H':=aM H
  clear H
  go_wp2
  go_meet
  exact⟨_,(decide ((l1.length:Int) > 1048576)),qZ,H',⟨by first|omega|exact Nat.le_refl _⟩,⟨qB⟩⟩
 clear gB
 try clear c1
 obtain⟨kq,dB,rfl,HA,HJ2,HB⟩:=hcut
 cases kq with
 | zero=>exact absurd HA.out (by simp [afW])
 | succ fG =>
  have H:=HA.out
  clear HA
  simp only [afW] at H
  replace H:=jB H;rcases H with ⟨rfl,H⟩ | ⟨rfl,H⟩
  ·obtain rfl:=oJ H
   go_wp2
   go_ret
   exact⟨qW,qB⟩
  obtain⟨ae,A6,H⟩:=qE H
  try dsimp only at H
  obtain⟨ag,A7,H⟩:=qE H
  try dsimp only at H
  obtain⟨aQ,A8,H⟩:=qE H
  try dsimp only at H
  have gF:=aM H
  clear H
  go_upto_region 6 with (first|((with_reducible refine jc 19 21 ?_);refine jM func19 (amj fG _ _ l0 ae _ (kb jW HB) jZ.out A6.out) ?_;rintro ja lI ⟨ho0,hb⟩;have aH:=kL ho0;replace HB:=kH hb;clear hb;(try clear ho0);obtain⟨dD,dE,gG⟩:=R_slice aH.out;subst gG)|((with_reducible refine jc 20 23 ?_);refine jM func20 (Sa2.calls fG _ _ ae ag _ (kJ aH) (kp aH) A7.out) ?_;rintro dF lJ ⟨ho0,hb⟩;have aI:=aM (S_lower ho0 (aa4 qB));replace aH:=kR aH hb;replace HB:=kH hb;clear hb;(try clear ho0))|((with_reducible refine jc 21 25 ?_);refine jM func21 (Sau.calls fG _ _ ae aQ _ (kJ aH) (kp aH) A8.out) ?_;rintro eZ lK ⟨ho0,hb⟩;have aR:=aM (S_lower (S_new' ho0 (S_lt (qS aI))) (aa4 qB));replace aH:=kR aH hb;replace aI:=aM (S_elder' (qS aI) (by first|exact S_base ho0|exact R_base ho0) hb);replace HB:=kH hb;clear hb;(try clear ho0)))
  (try simp only [Act.put,List.setIfInBounds_toArray,List.set_cons_zero,List.set_cons_succ])
  go_cut [34] (fun v34 wc=>∃ (kq:Nat) (dG:Bool),v34 = .bool dG/\aa1 (afV kq l1 ae ag aQ dG=some r)/\aa1 (kq<=fG)/\aa1 (Kd.R k27 27 wc w.heap.size (fun _=>True) (.slice dD ae.length dE) ae)/\aa1 (Kd.S (Kd.slice 4 Kd.bool) 37 wc w.heap.size (fun k_=>some k_≠(eZ:Value).ownBlock) dF ag)/\aa1 (Kd.S (Kd.slice 4 Kd.bool) 37 wc w.heap.size (fun k_=>some k_≠(dF:Value).ownBlock) eZ aQ)/\aa1 (Below w.heap.size w wc))
  case first =>
   have H:=gF.out
   clear gF
   obtain⟨eY,je,H⟩:=qE H
   try dsimp only at H
   replace H:=jB H;rcases H with ⟨rfl,H⟩ | ⟨rfl,H⟩
   ·have H':=aM H
    clear H
    obtain⟨gH,gI,gJ⟩:=S_slice aI.out
    subst gJ
    obtain⟨gK,gL,gM⟩:=S_slice aR.out
    subst gM
    go_wp2_with (first|((with_reducible refine jc 22 28 ?_);refine jK func22 (SbO.calls fG _ _ ag _ _ aQ true _ (kC (S_reads' aI.out).2.2) (S_reads' aI.out).2.1 (kC (S_reads' aR.out).2.2) (S_reads' aR.out).2.1 je.out) ?_;rintro w' ⟨nd,rfl⟩))
    go_meet
    exact⟨_,(((ag.length:Int) == 0)),qZ,H',⟨by have:=HJ2.out;first|omega|exact Nat.le_refl _⟩,⟨qR aH⟩,⟨by (with_reducible repeat (first|apply S_alloc|apply S_drewN|apply S_drew));exact S_mono aI.out (fun _ hk=>hk.2)⟩,⟨by (with_reducible repeat (first|apply S_alloc|apply S_drewN|apply S_drew));exact S_mono aR.out (fun _ hk=>hk.2)⟩,⟨qB⟩⟩
   have H':=aM H
   clear H
   obtain⟨gN,gP,gQ⟩:=S_slice aI.out
   subst gQ
   obtain⟨gT,gU,gV⟩:=S_slice aR.out
   subst gV
   go_wp2_with (first|((with_reducible refine jc 22 28 ?_);refine jK func22 (SbO.calls fG _ _ ag _ _ aQ false _ (kC (S_reads' aI.out).2.2) (S_reads' aI.out).2.1 (kC (S_reads' aR.out).2.2) (S_reads' aR.out).2.1 je.out) ?_;rintro w' ⟨nd,rfl⟩))
   go_meet
   exact⟨_,(true),qZ,H',⟨by have:=HJ2.out;first|omega|exact Nat.le_refl _⟩,⟨qR aH⟩,⟨by (with_reducible repeat (first|apply S_alloc|apply S_drewN|apply S_drew));exact S_mono aI.out (fun _ hk=>hk.2)⟩,⟨by (with_reducible repeat (first|apply S_alloc|apply S_drewN|apply S_drew));exact S_mono aR.out (fun _ hk=>hk.2)⟩,⟨qB⟩⟩
  clear gF
  try clear c1
  obtain⟨kq,dG,rfl,HA,fH,aB,ai,dH,HB⟩:=hcut
  cases kq with
  | zero=>exact absurd HA.out (by simp [afV])
  | succ gz =>
   have H:=HA.out
   clear HA
   simp only [afV] at H
   replace H:=jB H;rcases H with ⟨rfl,H⟩ | ⟨rfl,H⟩
   ·obtain⟨dA,j4,H⟩:=qE H
    try dsimp only at H
    obtain rfl:=oJ H
    obtain⟨gW,gX,gY⟩:=S_slice ai.out
    subst gY
    obtain⟨gZ,ib,ic⟩:=S_slice dH.out
    subst ic
    go_wp2_with (first|((with_reducible refine jc 22 37 ?_);refine jK func22 (SbO.calls gz _ _ ag _ _ aQ dA _ (kC (S_reads' ai.out).2.2) (S_reads' ai.out).2.1 (kC (S_reads' dH.out).2.2) (S_reads' dH.out).2.1 j4.out) ?_;rintro w' ⟨nd,rfl⟩))
    go_ret
    exact⟨qW,qB⟩
   by_cases c24:(ae.length:Int)=0
   ·rw [if_pos c24] at H
    exact absurd H (by simp)
   rw [if_neg c24] at H
   have fM:((ae.length:Int) == 0)=false:=beq_eq_false_iff_ne.mpr c24
   have fO:((ae.length:Int) != 0)=true:=bne_iff_ne.mpr c24
   have fP:¬ (ae=[]):=fun h_=>c24 (by rw [h_];rfl)
   obtain⟨aD,j5,H⟩:=qE H
   try dsimp only at H
   have H':=aM H
   clear H
   go_wp2_with (first|((with_reducible refine jc 24 45 ?_);refine jM func24 (amH gz _ _ ae ((l1.length:Int) % (ae.length:Int)) aD _ (kJ aB) (kp aB) j5.out) ?_;rintro fe lL ⟨ho0,hb⟩;have fo:=kL ho0;replace aB:=kR aB hb;replace ai:=aM (S_elder' (qS ai) (R_base ho0) hb);replace dH:=aM (S_elder' (qS dH) (R_base ho0) hb);replace HB:=kH hb;clear hb;(try clear ho0)))
   go_loopg [10] gz (fun kq v10 w'=>∃ (af:Int),v10 = iV af/\aa1 (acf kq ae ag ((l1.length:Int) % (ae.length:Int)) aD af=some r)/\aa1 (kq<=gz)/\aa1 (Kd.R k27 27 w' w.heap.size (fun _=>True) (.slice dD ae.length dE) ae)/\aa1 (Kd.S (Kd.slice 4 Kd.bool) 37 w' w.heap.size (fun k_=>some k_≠(fe:Value).ownBlock) dF ag)/\aa1 (Kd.R Kd.bool 4 w' w.heap.size (fun _=>True) fe aD)/\aa1 (Below w.heap.size w w'))
   case atStart=>exact⟨(0),qZ,H',⟨Nat.le_refl _⟩,⟨qR aB⟩,⟨by (with_reducible repeat (first|apply S_alloc|apply S_drewN|apply S_drew));exact S_mono ai.out (fun _ hk=>hk.2)⟩,⟨qR fo⟩,⟨qB⟩⟩
   clear H'
   try clear c1;try clear c24;try clear fM;try clear fO;try clear fP
   obtain⟨af,rfl,HA,fI,aB,ai,aC,HB⟩:=hrel
   rcases gk with _|k3
   ·exact absurd HA.out (by simp [acf])
   have H:=HA.out
   clear HA
   simp only [acf] at H
   replace H:=jD H;rcases H with ⟨fQ,H⟩ | ⟨fQ,H⟩
   ·obtain⟨aa,aF⟩:∃ j_:Int,((l1.length:Int) % (ae.length:Int))=j_:=⟨_,rfl⟩
    replace H:(if 0<=(aa) then (if (aa) < (ae.length:Int) then ((ak7 k3 ((aa0 ae (aa)).f0) ((aa0 ae (aa)).f1) ((aa0 ae (aa)).f2) ((aa0 ae (aa)).f3) ((aa0 ae (aa)).f4)).bind fun aA=>((SbM.f k3 aA af).bind fun dz=>(if dz=true then (if (aa) < (ag.length:Int) then (if 0<=af then (if af < ((aaH ag (aa)).length:Int) then (if (true != (ab7 false (aaH ag (aa)) af))=true then (some false) else (acf k3 ae ag (aa) aD (wrap64 (af+1)))) else (none)) else (none)) else (none)) else (if 0<=af then (if af < (aD.length:Int) then (if ab7 false aD af=true then ((aiX ((aa0 ae (aa)).f0) ((aa0 ae (aa)).f1) ((aa0 ae (aa)).f2) ((aa0 ae (aa)).f3) ((aa0 ae (aa)).f4)).bind fun aG=>(if (aa) < (ag.length:Int) then (if af < ((aaH ag (aa)).length:Int) then (if ((aG != af) != (ab7 false (aaH ag (aa)) af))=true then (some false) else (acf k3 ae ag (aa) aD (wrap64 (af+1)))) else (none)) else (none))) else (if (aa) < (ag.length:Int) then (if af < ((aaH ag (aa)).length:Int) then (if (false != (ab7 false (aaH ag (aa)) af))=true then (some false) else (acf k3 ae ag (aa) aD (wrap64 (af+1)))) else (none)) else (none))) else (none)) else (none))))) else (none)) else (none))=some r:=by first|(rw [aF] at H;exact H)|(simp only [aF] at H ⊢;exact H)
    replace H:=jI H;obtain⟨jf,H⟩:=H
    replace H:=jI H;obtain⟨jg,H⟩:=H
    obtain⟨aA,fJ,H⟩:=qE H
    try dsimp only at H
    obtain⟨dz,fK,H⟩:=qE H
    try dsimp only at H
    replace H:=jB H;rcases H with ⟨rfl,H⟩ | ⟨rfl,H⟩
    ·replace H:=jI H;obtain⟨jh,H⟩:=H
     replace H:=jI H;obtain⟨ji,H⟩:=H
     replace H:=jI H;obtain⟨jk,H⟩:=H
     by_cases c37:(true != (ab7 false (aaH ag (aa)) af))=true
     ·rw [if_pos c37] at H
      have fT:(true != (ab7 false (aaH ag (aa)) af))=true:=c37
      (try (have fU:decide (true=(ab7 false (aaH ag (aa)) af))=false:=by simpa using c37))
      (try (have fV:(true == (ab7 false (aaH ag (aa)) af))=false:=by simpa using c37))
      (try (have jl:¬ (true=(ab7 false (aaH ag (aa)) af)):=by simpa using c37))
      clear c37
      obtain rfl:=oJ H
      have au:0<=((aa):Int):=qD
      have av:(aa) < (ae.length:Int):=qD
      obtain⟨bu,aS,aT,aU,aV,aW,aX⟩:=aaO (R_reads' aB.out).2.2 (aa) au av
      cases aS
      replace au:=eq_true au
      replace av:=eq_true av
      go_wp2_with (first|((with_reducible refine ab9 (f:=30) rfl ?_);refine ac9 (some 54) rfl rfl func30 (by kernel_rfl) rfl #[.agg #[iV ((aa0 ae (aa)).f0),iV ((aa0 ae (aa)).f1),iV ((aa0 ae (aa)).f2),iV ((aa0 ae (aa)).f3),iV ((aa0 ae (aa)).f4)]] rfl (by (try simp only [List.map_toArray,List.map_cons,List.map_nil]);first|done|(simp only [aF];rfl)|rfl|(simp only [List.length_drop,List.length_take];rfl)) ?_;(with_reducible refine (acG k3 ((aa0 ae (aa)).f0) ((aa0 ae (aa)).f1) ((aa0 ae (aa)).f2) ((aa0 ae (aa)).f3) ((aa0 ae (aa)).f4) aA _ fJ.out).mono ?_);rintro e lM ⟨di,rfl,ho0,hb⟩;refine⟨_,rfl,?_⟩;have ah:=kL ho0;replace aB:=kR aB hb;replace ai:=kS ai hb;replace aC:=kR aC hb;replace HB:=kH hb;clear hb;(try clear ho0);obtain⟨ig,ik,il⟩:=R_slice ah.out;subst il)|((with_reducible refine jc 29 56 ?_);refine jK func29 (SbM.calls k3 _ _ aA af true _ (kJ ah) (kp ah) fK.out) ?_;rintro w' ⟨nd,rfl⟩;obtain⟨j6,kg,iq⟩:=S_slice ai.out;subst iq;have bv:0<=((aa):Int):=qD;have bz:(aa) < (ag.length:Int):=qD;obtain⟨fq,eG,eH,dI,bI,aY,aZ⟩:=afg (S_reads' ai.out).2.2 (aa) bv bz;cases dI;obtain⟨fu,bZ,cu,bA⟩:=S_get ai.out [] (aa) bv (by first|exact bz|exact qD|(have e_:=(S_reads' ai.out).1;omega));obtain⟨dJ,rfl,aJ⟩:=cu;have ax:=bA 0 _ rfl;rw [Nat.add_zero,show ((Kd.slice 4 Kd.bool)).sz=1 from rfl,Nat.mul_one] at ax;replace ax:=Option.some.inj (ax.symm.trans bI);rw [ax] at aJ;have dK:=aM (show Kd.R Kd.bool 4 _ _ _ _ (aaH ag (aa)) from aJ);clear ax aJ;clear bA bZ;have bJ:=aM aZ;have dL:=aM aY;clear aZ aY;replace bv:=eq_true bv;replace bz:=eq_true bz;have bK:0<=(af:Int):=qD;have bL:af < ((aaH ag (aa)).length:Int):=qD;obtain⟨fw,dM,dN⟩:=Kd.at_bool (kC bJ.out) af bK bL;cases dM;replace bK:=eq_true bK;replace bL:=eq_true bL))
      go_ret
      exact⟨by first|rfl|(simp [aaq,aap] <;> rfl)|(simp only [<- aF];first|rfl|(simp [aaq,aap] <;> rfl))|(simp [*,aaq,aap] <;> rfl),qB⟩
     rw [if_neg c37] at H
     have fT:(true != (ab7 false (aaH ag (aa)) af))=false:=by simpa using c37
     (try (have fU:decide (true=(ab7 false (aaH ag (aa)) af))=true:=by simpa using c37))
     (try (have fV:(true == (ab7 false (aaH ag (aa)) af))=true:=by simpa using c37))
     clear c37
     have H':=aM H
     clear H
     have au:0<=((aa):Int):=qD
     have av:(aa) < (ae.length:Int):=qD
     obtain⟨bu,aS,aT,aU,aV,aW,aX⟩:=aaO (R_reads' aB.out).2.2 (aa) au av
     cases aS
     replace au:=eq_true au
     replace av:=eq_true av
     go_wp2_with (first|((with_reducible refine ab9 (f:=30) rfl ?_);refine ac9 (some 54) rfl rfl func30 (by kernel_rfl) rfl #[.agg #[iV ((aa0 ae (aa)).f0),iV ((aa0 ae (aa)).f1),iV ((aa0 ae (aa)).f2),iV ((aa0 ae (aa)).f3),iV ((aa0 ae (aa)).f4)]] rfl (by (try simp only [List.map_toArray,List.map_cons,List.map_nil]);first|done|(simp only [aF];rfl)|rfl|(simp only [List.length_drop,List.length_take];rfl)) ?_;(with_reducible refine (acG k3 ((aa0 ae (aa)).f0) ((aa0 ae (aa)).f1) ((aa0 ae (aa)).f2) ((aa0 ae (aa)).f3) ((aa0 ae (aa)).f4) aA _ fJ.out).mono ?_);rintro e lN ⟨di,rfl,ho0,hb⟩;refine⟨_,rfl,?_⟩;have ah:=kL ho0;replace aB:=kR aB hb;replace ai:=kS ai hb;replace aC:=kR aC hb;replace HB:=kH hb;clear hb;(try clear ho0);obtain⟨iw,iy,iA⟩:=R_slice ah.out;subst iA)|((with_reducible refine jc 29 56 ?_);refine jK func29 (SbM.calls k3 _ _ aA af true _ (kJ ah) (kp ah) fK.out) ?_;rintro w' ⟨nd,rfl⟩;obtain⟨ko,ku,iB⟩:=S_slice ai.out;subst iB;have bv:0<=((aa):Int):=qD;have bz:(aa) < (ag.length:Int):=qD;obtain⟨fq,eG,eH,dI,bI,aY,aZ⟩:=afg (S_reads' ai.out).2.2 (aa) bv bz;cases dI;obtain⟨fu,bZ,cu,bA⟩:=S_get ai.out [] (aa) bv (by first|exact bz|exact qD|(have e_:=(S_reads' ai.out).1;omega));obtain⟨dJ,rfl,aJ⟩:=cu;have ax:=bA 0 _ rfl;rw [Nat.add_zero,show ((Kd.slice 4 Kd.bool)).sz=1 from rfl,Nat.mul_one] at ax;replace ax:=Option.some.inj (ax.symm.trans bI);rw [ax] at aJ;have dK:=aM (show Kd.R Kd.bool 4 _ _ _ _ (aaH ag (aa)) from aJ);clear ax aJ;clear bA bZ;have bJ:=aM aZ;have dL:=aM aY;clear aZ aY;replace bv:=eq_true bv;replace bz:=eq_true bz;have bK:0<=(af:Int):=qD;have bL:af < ((aaH ag (aa)).length:Int):=qD;obtain⟨fw,dM,dN⟩:=Kd.at_bool (kC bJ.out) af bK bL;cases dM;replace bK:=eq_true bK;replace bL:=eq_true bL))
     (try rw [<- aF])
     (try rw [<- aF] at H')
     go_roundg k3
     case measure=>have:=HJ2.out;have:=fH.out;have:=fI.out;omega
     exact⟨(wrap64 (af+1)),qZ,H',⟨by have:=HJ2.out;have:=fH.out;have:=fI.out;omega⟩,⟨qR aB⟩,⟨qS ai⟩,⟨qR aC⟩,⟨qB⟩⟩
    replace H:=jI H;obtain⟨jm,H⟩:=H
    replace H:=jI H;obtain⟨jo,H⟩:=H
    obtain⟨iC,dO⟩:∃ b_:Bool,b_=(ab7 false aD af):=⟨_,rfl⟩
    replace H:(if iC=true then ((aiX ((aa0 ae (aa)).f0) ((aa0 ae (aa)).f1) ((aa0 ae (aa)).f2) ((aa0 ae (aa)).f3) ((aa0 ae (aa)).f4)).bind fun aG=>(if (aa) < (ag.length:Int) then (if af < ((aaH ag (aa)).length:Int) then (if ((aG != af) != (ab7 false (aaH ag (aa)) af))=true then (some false) else (acf k3 ae ag (aa) aD (wrap64 (af+1)))) else (none)) else (none))) else (if (aa) < (ag.length:Int) then (if af < ((aaH ag (aa)).length:Int) then (if (false != (ab7 false (aaH ag (aa)) af))=true then (some false) else (acf k3 ae ag (aa) aD (wrap64 (af+1)))) else (none)) else (none)))=some r:=by rw [<- dO] at H;exact H
    have bH:=aM dO;clear dO
    replace H:=jB H;rcases H with ⟨rfl,H⟩ | ⟨rfl,H⟩
    ·obtain⟨aG,jr,H⟩:=qE H
     try dsimp only at H
     replace H:=jI H;obtain⟨jv,H⟩:=H
     replace H:=jI H;obtain⟨jw,H⟩:=H
     by_cases c51:((aG != af) != (ab7 false (aaH ag (aa)) af))=true
     ·rw [if_pos c51] at H
      have fZ:((aG != af) != (ab7 false (aaH ag (aa)) af))=true:=c51
      (try (have gm:decide ((aG != af)=(ab7 false (aaH ag (aa)) af))=false:=by simpa using c51))
      (try (have gp:((aG != af) == (ab7 false (aaH ag (aa)) af))=false:=by simpa using c51))
      (try (have jy:¬ ((aG != af)=(ab7 false (aaH ag (aa)) af)):=by simpa using c51))
      clear c51
      obtain rfl:=oJ H
      have au:0<=((aa):Int):=qD
      have av:(aa) < (ae.length:Int):=qD
      obtain⟨bu,aS,aT,aU,aV,aW,aX⟩:=aaO (R_reads' aB.out).2.2 (aa) au av
      cases aS
      replace au:=eq_true au
      replace av:=eq_true av
      go_wp2_with (first|((with_reducible refine ab9 (f:=30) rfl ?_);refine ac9 (some 54) rfl rfl func30 (by kernel_rfl) rfl #[.agg #[iV ((aa0 ae (aa)).f0),iV ((aa0 ae (aa)).f1),iV ((aa0 ae (aa)).f2),iV ((aa0 ae (aa)).f3),iV ((aa0 ae (aa)).f4)]] rfl (by (try simp only [List.map_toArray,List.map_cons,List.map_nil]);first|done|(simp only [aF];rfl)|rfl|(simp only [List.length_drop,List.length_take];rfl)) ?_;(with_reducible refine (acG k3 ((aa0 ae (aa)).f0) ((aa0 ae (aa)).f1) ((aa0 ae (aa)).f2) ((aa0 ae (aa)).f3) ((aa0 ae (aa)).f4) aA _ fJ.out).mono ?_);rintro e lQ ⟨di,rfl,ho0,hb⟩;refine⟨_,rfl,?_⟩;have ah:=kL ho0;replace aB:=kR aB hb;replace ai:=kS ai hb;replace aC:=kR aC hb;replace HB:=kH hb;clear hb;(try clear ho0);obtain⟨iD,iE,iF⟩:=R_slice ah.out;subst iF)|((with_reducible refine jc 29 56 ?_);refine jK func29 (SbM.calls k3 _ _ aA af false _ (kJ ah) (kp ah) fK.out) ?_;rintro w' ⟨nd,rfl⟩;obtain⟨kD,kE,iG⟩:=R_slice aC.out;subst iG;have aK:0<=(af:Int):=qD;have aL:af < (aD.length:Int):=qD;obtain⟨dw,bM,aN⟩:=Kd.at_bool (R_reads' aC.out).2.2 af aK aL;(try rw [<- bH.out] at aN);cases bM;replace aK:=eq_true aK;replace aL:=eq_true aL;have bN:0<=((aa):Int):=qD;have bO:(aa) < (ae.length:Int):=qD;obtain⟨dx,dP,dQ,dR,dS,dU,dV⟩:=aaO (R_reads' aB.out).2.2 (aa) bN bO;obtain rfl:bu=dx:=(by injection dP);replace bN:=eq_true bN;replace bO:=eq_true bO)|(go_at_call 31;(with_reducible refine (aif ((aa0 ae (aa)).f0) ((aa0 ae (aa)).f1) ((aa0 ae (aa)).f2) ((aa0 ae (aa)).f3) ((aa0 ae (aa)).f4) aG _ jr.out).mono ?_);rintro e lS ⟨rfl,hb⟩;replace aB:=kR aB hb;replace ai:=kS ai hb;replace aC:=kR aC hb;replace ah:=kR ah hb;replace HB:=kH hb;clear hb;obtain⟨kF,kP,iH⟩:=S_slice ai.out;subst iH;have bB:0<=((aa):Int):=qD;have bC:(aa) < (ag.length:Int):=qD;obtain⟨fA,eO,eP,dW,bP,bg,bi⟩:=afg (S_reads' ai.out).2.2 (aa) bB bC;cases dW;obtain⟨fB,cz,cB,bD⟩:=S_get ai.out [] (aa) bB (by first|exact bC|exact qD|(have e_:=(S_reads' ai.out).1;omega));obtain⟨dX,rfl,aO⟩:=cB;have ay:=bD 0 _ rfl;rw [Nat.add_zero,show ((Kd.slice 4 Kd.bool)).sz=1 from rfl,Nat.mul_one] at ay;replace ay:=Option.some.inj (ay.symm.trans bP);rw [ay] at aO;have dY:=aM (show Kd.R Kd.bool 4 _ _ _ _ (aaH ag (aa)) from aO);clear ay aO;clear bD cz;have bQ:=aM bi;have dZ:=aM bg;clear bi bg;replace bB:=eq_true bB;replace bC:=eq_true bC;have bR:0<=(af:Int):=qD;have bS:af < ((aaH ag (aa)).length:Int):=qD;obtain⟨fC,d9,bT⟩:=Kd.at_bool (kC bQ.out) af bR bS;(try rw [<- bH.out] at bT);cases d9;replace bR:=eq_true bR;replace bS:=eq_true bS))
      go_ret
      exact⟨by first|rfl|(simp [aaq,aap] <;> rfl)|(simp only [<- aF];first|rfl|(simp [aaq,aap] <;> rfl))|(simp [*,aaq,aap] <;> rfl),qB⟩
     rw [if_neg c51] at H
     have fZ:((aG != af) != (ab7 false (aaH ag (aa)) af))=false:=by simpa using c51
     (try (have gm:decide ((aG != af)=(ab7 false (aaH ag (aa)) af))=true:=by simpa using c51))
     (try (have gp:((aG != af) == (ab7 false (aaH ag (aa)) af))=true:=by simpa using c51))
     clear c51
     have H':=aM H
     clear H
     have au:0<=((aa):Int):=qD
     have av:(aa) < (ae.length:Int):=qD
     obtain⟨bu,aS,aT,aU,aV,aW,aX⟩:=aaO (R_reads' aB.out).2.2 (aa) au av
     cases aS
     replace au:=eq_true au
     replace av:=eq_true av
     go_wp2_with (first|((with_reducible refine ab9 (f:=30) rfl ?_);refine ac9 (some 54) rfl rfl func30 (by kernel_rfl) rfl #[.agg #[iV ((aa0 ae (aa)).f0),iV ((aa0 ae (aa)).f1),iV ((aa0 ae (aa)).f2),iV ((aa0 ae (aa)).f3),iV ((aa0 ae (aa)).f4)]] rfl (by (try simp only [List.map_toArray,List.map_cons,List.map_nil]);first|done|(simp only [aF];rfl)|rfl|(simp only [List.length_drop,List.length_take];rfl)) ?_;(with_reducible refine (acG k3 ((aa0 ae (aa)).f0) ((aa0 ae (aa)).f1) ((aa0 ae (aa)).f2) ((aa0 ae (aa)).f3) ((aa0 ae (aa)).f4) aA _ fJ.out).mono ?_);rintro e lT ⟨di,rfl,ho0,hb⟩;refine⟨_,rfl,?_⟩;have ah:=kL ho0;replace aB:=kR aB hb;replace ai:=kS ai hb;replace aC:=kR aC hb;replace HB:=kH hb;clear hb;(try clear ho0);obtain⟨iI,iJ,iK⟩:=R_slice ah.out;subst iK)|((with_reducible refine jc 29 56 ?_);refine jK func29 (SbM.calls k3 _ _ aA af false _ (kJ ah) (kp ah) fK.out) ?_;rintro w' ⟨nd,rfl⟩;obtain⟨kV,kX,iL⟩:=R_slice aC.out;subst iL;have aK:0<=(af:Int):=qD;have aL:af < (aD.length:Int):=qD;obtain⟨dw,bM,aN⟩:=Kd.at_bool (R_reads' aC.out).2.2 af aK aL;(try rw [<- bH.out] at aN);cases bM;replace aK:=eq_true aK;replace aL:=eq_true aL;have bN:0<=((aa):Int):=qD;have bO:(aa) < (ae.length:Int):=qD;obtain⟨dx,dP,dQ,dR,dS,dU,dV⟩:=aaO (R_reads' aB.out).2.2 (aa) bN bO;obtain rfl:bu=dx:=(by injection dP);replace bN:=eq_true bN;replace bO:=eq_true bO)|(go_at_call 31;(with_reducible refine (aif ((aa0 ae (aa)).f0) ((aa0 ae (aa)).f1) ((aa0 ae (aa)).f2) ((aa0 ae (aa)).f3) ((aa0 ae (aa)).f4) aG _ jr.out).mono ?_);rintro e lU ⟨rfl,hb⟩;replace aB:=kR aB hb;replace ai:=kS ai hb;replace aC:=kR aC hb;replace ah:=kR ah hb;replace HB:=kH hb;clear hb;obtain⟨kZ,lc,iM⟩:=S_slice ai.out;subst iM;have bB:0<=((aa):Int):=qD;have bC:(aa) < (ag.length:Int):=qD;obtain⟨fA,eO,eP,dW,bP,bg,bi⟩:=afg (S_reads' ai.out).2.2 (aa) bB bC;cases dW;obtain⟨fB,cz,cB,bD⟩:=S_get ai.out [] (aa) bB (by first|exact bC|exact qD|(have e_:=(S_reads' ai.out).1;omega));obtain⟨dX,rfl,aO⟩:=cB;have ay:=bD 0 _ rfl;rw [Nat.add_zero,show ((Kd.slice 4 Kd.bool)).sz=1 from rfl,Nat.mul_one] at ay;replace ay:=Option.some.inj (ay.symm.trans bP);rw [ay] at aO;have dY:=aM (show Kd.R Kd.bool 4 _ _ _ _ (aaH ag (aa)) from aO);clear ay aO;clear bD cz;have bQ:=aM bi;have dZ:=aM bg;clear bi bg;replace bB:=eq_true bB;replace bC:=eq_true bC;have bR:0<=(af:Int):=qD;have bS:af < ((aaH ag (aa)).length:Int):=qD;obtain⟨fC,d9,bT⟩:=Kd.at_bool (kC bQ.out) af bR bS;(try rw [<- bH.out] at bT);cases d9;replace bR:=eq_true bR;replace bS:=eq_true bS))
     (try rw [<- aF])
     (try rw [<- aF] at H')
     go_roundg k3
     case measure=>have:=HJ2.out;have:=fH.out;have:=fI.out;omega
     exact⟨(wrap64 (af+1)),qZ,H',⟨by have:=HJ2.out;have:=fH.out;have:=fI.out;omega⟩,⟨qR aB⟩,⟨qS ai⟩,⟨qR aC⟩,⟨qB⟩⟩
    replace H:=jI H;obtain⟨jA,H⟩:=H
    replace H:=jI H;obtain⟨jH,H⟩:=H
    by_cases c64:(false != (ab7 false (aaH ag (aa)) af))=true
    ·rw [if_pos c64] at H
     have gq:(false != (ab7 false (aaH ag (aa)) af))=true:=c64
     (try (have gu:decide (false=(ab7 false (aaH ag (aa)) af))=false:=by simpa using c64))
     (try (have gy:(false == (ab7 false (aaH ag (aa)) af))=false:=by simpa using c64))
     (try (have jN:¬ (false=(ab7 false (aaH ag (aa)) af)):=by simpa using c64))
     clear c64
     obtain rfl:=oJ H
     have au:0<=((aa):Int):=qD
     have av:(aa) < (ae.length:Int):=qD
     obtain⟨bu,aS,aT,aU,aV,aW,aX⟩:=aaO (R_reads' aB.out).2.2 (aa) au av
     cases aS
     replace au:=eq_true au
     replace av:=eq_true av
     go_wp2_with (first|((with_reducible refine ab9 (f:=30) rfl ?_);refine ac9 (some 54) rfl rfl func30 (by kernel_rfl) rfl #[.agg #[iV ((aa0 ae (aa)).f0),iV ((aa0 ae (aa)).f1),iV ((aa0 ae (aa)).f2),iV ((aa0 ae (aa)).f3),iV ((aa0 ae (aa)).f4)]] rfl (by (try simp only [List.map_toArray,List.map_cons,List.map_nil]);first|done|(simp only [aF];rfl)|rfl|(simp only [List.length_drop,List.length_take];rfl)) ?_;(with_reducible refine (acG k3 ((aa0 ae (aa)).f0) ((aa0 ae (aa)).f1) ((aa0 ae (aa)).f2) ((aa0 ae (aa)).f3) ((aa0 ae (aa)).f4) aA _ fJ.out).mono ?_);rintro e lV ⟨di,rfl,ho0,hb⟩;refine⟨_,rfl,?_⟩;have ah:=kL ho0;replace aB:=kR aB hb;replace ai:=kS ai hb;replace aC:=kR aC hb;replace HB:=kH hb;clear hb;(try clear ho0);obtain⟨iN,iO,iP⟩:=R_slice ah.out;subst iP)|((with_reducible refine jc 29 56 ?_);refine jK func29 (SbM.calls k3 _ _ aA af false _ (kJ ah) (kp ah) fK.out) ?_;rintro w' ⟨nd,rfl⟩;obtain⟨lg,lh,iQ⟩:=R_slice aC.out;subst iQ;have aK:0<=(af:Int):=qD;have aL:af < (aD.length:Int):=qD;obtain⟨dw,bM,aN⟩:=Kd.at_bool (R_reads' aC.out).2.2 af aK aL;(try rw [<- bH.out] at aN);cases bM;replace aK:=eq_true aK;replace aL:=eq_true aL;obtain⟨ll,lu,iR⟩:=S_slice ai.out;subst iR;have bE:0<=((aa):Int):=qD;have bF:(aa) < (ag.length:Int):=qD;obtain⟨fD,eQ,eT,ed,bU,bn,bq⟩:=afg (S_reads' ai.out).2.2 (aa) bE bF;cases ed;obtain⟨fE,cK,cO,bG⟩:=S_get ai.out [] (aa) bE (by first|exact bF|exact qD|(have e_:=(S_reads' ai.out).1;omega));obtain⟨ek,rfl,aP⟩:=cO;have az:=bG 0 _ rfl;rw [Nat.add_zero,show ((Kd.slice 4 Kd.bool)).sz=1 from rfl,Nat.mul_one] at az;replace az:=Option.some.inj (az.symm.trans bU);rw [az] at aP;have eu:=aM (show Kd.R Kd.bool 4 _ _ _ _ (aaH ag (aa)) from aP);clear az aP;clear bG cK;have bV:=aM bq;have eB:=aM bn;clear bq bn;replace bE:=eq_true bE;replace bF:=eq_true bF;have bW:0<=(af:Int):=qD;have bX:af < ((aaH ag (aa)).length:Int):=qD;obtain⟨fF,eD,bY⟩:=Kd.at_bool (kC bV.out) af bW bX;(try rw [<- bH.out] at bY);cases eD;replace bW:=eq_true bW;replace bX:=eq_true bX))
     go_ret
     exact⟨by first|rfl|(simp [aaq,aap] <;> rfl)|(simp only [<- aF];first|rfl|(simp [aaq,aap] <;> rfl))|(simp [*,aaq,aap] <;> rfl),qB⟩
    rw [if_neg c64] at H
    have gq:(false != (ab7 false (aaH ag (aa)) af))=false:=by simpa using c64
    (try (have gu:decide (false=(ab7 false (aaH ag (aa)) af))=true:=by simpa using c64))
    (try (have gy:(false == (ab7 false (aaH ag (aa)) af))=true:=by simpa using c64))
    clear c64
    have H':=aM H
    clear H
    have au:0<=((aa):Int):=qD
    have av:(aa) < (ae.length:Int):=qD
    obtain⟨bu,aS,aT,aU,aV,aW,aX⟩:=aaO (R_reads' aB.out).2.2 (aa) au av
    cases aS
    replace au:=eq_true au
    replace av:=eq_true av
    go_wp2_with (first|((with_reducible refine ab9 (f:=30) rfl ?_);refine ac9 (some 54) rfl rfl func30 (by kernel_rfl) rfl #[.agg #[iV ((aa0 ae (aa)).f0),iV ((aa0 ae (aa)).f1),iV ((aa0 ae (aa)).f2),iV ((aa0 ae (aa)).f3),iV ((aa0 ae (aa)).f4)]] rfl (by (try simp only [List.map_toArray,List.map_cons,List.map_nil]);first|done|(simp only [aF];rfl)|rfl|(simp only [List.length_drop,List.length_take];rfl)) ?_;(with_reducible refine (acG k3 ((aa0 ae (aa)).f0) ((aa0 ae (aa)).f1) ((aa0 ae (aa)).f2) ((aa0 ae (aa)).f3) ((aa0 ae (aa)).f4) aA _ fJ.out).mono ?_);rintro e lW ⟨di,rfl,ho0,hb⟩;refine⟨_,rfl,?_⟩;have ah:=kL ho0;replace aB:=kR aB hb;replace ai:=kS ai hb;replace aC:=kR aC hb;replace HB:=kH hb;clear hb;(try clear ho0);obtain⟨iT,iU,iW⟩:=R_slice ah.out;subst iW)|((with_reducible refine jc 29 56 ?_);refine jK func29 (SbM.calls k3 _ _ aA af false _ (kJ ah) (kp ah) fK.out) ?_;rintro w' ⟨nd,rfl⟩;obtain⟨lv,lw,iX⟩:=R_slice aC.out;subst iX;have aK:0<=(af:Int):=qD;have aL:af < (aD.length:Int):=qD;obtain⟨dw,bM,aN⟩:=Kd.at_bool (R_reads' aC.out).2.2 af aK aL;(try rw [<- bH.out] at aN);cases bM;replace aK:=eq_true aK;replace aL:=eq_true aL;obtain⟨lC,lD,iY⟩:=S_slice ai.out;subst iY;have bE:0<=((aa):Int):=qD;have bF:(aa) < (ag.length:Int):=qD;obtain⟨fD,eQ,eT,ed,bU,bn,bq⟩:=afg (S_reads' ai.out).2.2 (aa) bE bF;cases ed;obtain⟨fE,cK,cO,bG⟩:=S_get ai.out [] (aa) bE (by first|exact bF|exact qD|(have e_:=(S_reads' ai.out).1;omega));obtain⟨ek,rfl,aP⟩:=cO;have az:=bG 0 _ rfl;rw [Nat.add_zero,show ((Kd.slice 4 Kd.bool)).sz=1 from rfl,Nat.mul_one] at az;replace az:=Option.some.inj (az.symm.trans bU);rw [az] at aP;have eu:=aM (show Kd.R Kd.bool 4 _ _ _ _ (aaH ag (aa)) from aP);clear az aP;clear bG cK;have bV:=aM bq;have eB:=aM bn;clear bq bn;replace bE:=eq_true bE;replace bF:=eq_true bF;have bW:0<=(af:Int):=qD;have bX:af < ((aaH ag (aa)).length:Int):=qD;obtain⟨fF,eD,bY⟩:=Kd.at_bool (kC bV.out) af bW bX;(try rw [<- bH.out] at bY);cases eD;replace bW:=eq_true bW;replace bX:=eq_true bX))
    (try rw [<- aF])
    (try rw [<- aF] at H')
    go_roundg k3
    case measure=>have:=HJ2.out;have:=fH.out;have:=fI.out;omega
    exact⟨(wrap64 (af+1)),qZ,H',⟨by have:=HJ2.out;have:=fH.out;have:=fI.out;omega⟩,⟨qR aB⟩,⟨qS ai⟩,⟨qR aC⟩,⟨qB⟩⟩
   obtain rfl:=oJ H
   obtain⟨lF,lG,iZ⟩:=S_slice ai.out
   subst iZ
   go_wp2
   go_ret
   exact⟨qW,qB⟩
/-- THE ONE PURE STATEMENT of SbL: yours. -/
def SbL.Pure:Prop:=∀ (l0:List Int) (l1:List Int),l0.length<=maxLen->l0.length*1<=140737488351232->(∀ x∈l0,(Lit.int .u8 x).wf=true)->l1.length<=maxLen->l1.length*1<=140737488351232->(∀ x∈l1,(Lit.int .u8 x).wf=true)->∃ k,SbL.f k l0 l1=some true
theorem SbL.walk (P:SbL.Pure) (a0:Option Addr) (eU cap0:Nat) (z0:List Int) (a1:Option Addr) (eX eF:Nat) (z1:List Int) (w:World) (w0:(a0=none/\eU=0/\cap0=0/\z0=[])\/∃ x,a0=some x/\eU<=cap0/\cap0<=maxLen/\z0.length=cap0/\(∀ i,i < z0.length->w.cell? (x.add i)=some (.int .u8 (z0.getD i 0)))/\∀ n∈z0,(Lit.int .u8 n).wf=true) (y0:eU*1<=140737488351232) (w1:(a1=none/\eX=0/\eF=0/\z1=[])\/∃ x,a1=some x/\eX<=eF/\eF<=maxLen/\z1.length=eF/\(∀ i,i < z1.length->w.cell? (x.add i)=some (.int .u8 (z1.getD i 0)))/\∀ n∈z1,(Lit.int .u8 n).wf=true) (y1:eX*1<=140737488351232) :
  Calls prog 9 #[.slice a0 eU cap0,.slice a1 eX eF] w fun e w'=>e = .returned (.bool true)/\Below w.heap.size w w':=by
 obtain⟨l0,rfl,hr0,hm0,hw0,hc0⟩:=ado w0
 obtain⟨l1,rfl,hr1,hm1,hw1,hc1⟩:=ado w1
 obtain⟨k,h⟩:=P l0 l1 hm0 y0 hw0 hm1 y1 hw1
 refine (SbL.calls k _ _ l0 _ _ l1 true w (C_of_reads (d:=(0:Int)) (h1:=fun _=>rfl) hr0) hc0 (C_of_reads (d:=(0:Int)) (h1:=fun _=>rfl) hr1) hc1 h).mono ?_
 rintro e w' ⟨rfl,hd⟩
 exact⟨rfl,hd⟩
end Go.Proofs.YtebpplallecogaaGreat.M
namespace Go.Proofs.YtebpplallecogaaGreat.M
open Go.Proofs.Tryz Go.RowKit Go.Proofs.YtebpplallecogaaGreatW.PrintWords Go.Proofs.YtebpplallecogaaGreatW.PrintLast Go.Proofs.YtebpplallecogaaGreatW.PrintMore
attribute [local go_sem] aak aai aay aax aad aac aaj aah
def amg:Nat->List S27->Int->Bool->Option (List Bool)
 | 0,_,_,_=>none
 | k+1,x0,x1,aP=>if aP=true then (some (([]:List Bool))) else ((Sau.f k x0).bind fun ah=>((Sb0.f k x0 ah x1).bind fun aj=>(some aj)))
def aqa (k:Nat) (l0:List S27) (a1:Int):Option (List Bool):=(Sak.f k l0).bind fun av=>(if av=true then ((ady a1 0 (wrap64 ((l0.length:Int) - 1))).bind fun ai=>(amg k l0 a1 (!ai))) else (amg k l0 a1 true))
end Go.Proofs.YtebpplallecogaaGreat.M
namespace Go.Proofs.YtebpplallecogaaGreat.M
open Go.Proofs.Tryz Go.RowKit Go.Proofs.YtebpplallecogaaGreatW.PrintWords Go.Proofs.YtebpplallecogaaGreatW.PrintLast Go.Proofs.YtebpplallecogaaGreatW.PrintMore Kd
attribute [local go_sem] aak aai aay aax aad aac aaj aah
def afa:Nat->List S27->List Int->List Int->List S27->Int->Int->Option (List Int)
 | 0,_,_,_,_,_,_=>none
 | k+1,x0,x3,x4,aK,bg,aG=>if aG < bg then (if 0<=aG then (if aG < (aK.length:Int) then ((ai8 ((aa0 aK aG).f0) ((aa0 aK aG).f1) ((aa0 aK aG).f2) ((aa0 aK aG).f3) ((aa0 aK aG).f4)).bind fun aN=>(if aN>=0 then (if ((aa0 aK aG).f0)=7 then (afa k x0 x3 x4 aK bg (wrap64 (aG+1))) else ((Saa.f k x0 x4 aG).bind fun aJ=>((aiS aJ aN).bind fun aU=>(if aU=true then (afa k x0 x3 x4 aK bg (wrap64 (aG+1))) else (if x3.length < 17592186044416 then (afa k x0 (x3 ++ [aG]) x4 aK bg (wrap64 (aG+1))) else (none)))))) else (afa k x0 x3 x4 aK bg (wrap64 (aG+1))))) else (none)) else (none)) else (some x3)
def Sa8.f (k:Nat) (l0:List S27):Option (List Int):=(Sa9.f k l0).bind fun az=>(afa k l0 ([]:List Int) az l0 (l0.length:Int) 0)
end Go.Proofs.YtebpplallecogaaGreat.M
namespace Go.Proofs.YtebpplallecogaaGreat.M
open Go.Proofs.Tryz Go.RowKit Go.Proofs.YtebpplallecogaaGreatW.PrintWords Go.Proofs.YtebpplallecogaaGreatW.PrintLast Go.Proofs.YtebpplallecogaaGreatW.PrintMore
def aqr (l0:List S27):Option (List S27):=if l0.length < 3518437208883 then some l0 else none
end Go.Proofs.YtebpplallecogaaGreat.M
namespace Go.Proofs.YtebpplallecogaaGreat.M
open Go.Proofs.Tryz Go.RowKit Go.Proofs.YtebpplallecogaaGreatW.PrintWords Go.Proofs.YtebpplallecogaaGreatW.PrintLast Go.Proofs.YtebpplallecogaaGreatW.PrintMore Kd
attribute [local go_sem] aak aai aay aax aad aac aaj aah
def aig:Nat->List S27->List Int->Int->Int->Option ((List S27) × Bool)
 | 0,_,_,_,_=>none
 | k+1,x4,aY,bV,aH=>if aH < bV then (if 0<=aH then (if aH < (aY.length:Int) then (if 0<=(rd aY aH) then (if (rd aY aH) < (x4.length:Int) then (aig k (x4.set ((rd aY aH):Int).toNat (⟨4,0,0,0,wrap64 ((rd aY aH)+1)⟩:S27)) aY bV (wrap64 (aH+1))) else (none)) else (none)) else (none)) else (none)) else (some (x4,true))
def Sa1.f (k:Nat) (l0:List S27):Option ((List S27) × Bool):=(Sa0.f k l0).bind fun aI=>(if aI=true then ((aqr l0).bind fun aA=>((Sa8.f k l0).bind fun aa=>(aig k aA aa (aa.length:Int) 0))) else (some (([]:List S27),false)))
end Go.Proofs.YtebpplallecogaaGreat.M
namespace Go.Proofs.YtebpplallecogaaGreat.M
open Go.Proofs.Tryz Go.RowKit Go.Proofs.YtebpplallecogaaGreatW.PrintWords Go.Proofs.YtebpplallecogaaGreatW.PrintLast Go.Proofs.YtebpplallecogaaGreatW.PrintMore PM
theorem ajK {a b:Nat} (h:∀ r,a.testBit r=true->b.testBit r=true):a<=b:=by
 have e:a ||| b=b:=by
  apply Nat.eq_of_testBit_eq
  intro r
  rw [Nat.testBit_or]
  cases h1:a.testBit r
  ·rfl
  rw [h r h1]
  rfl
 rw [<- e]
 exact Nat.left_le_or
theorem sum_set:∀ (L:List Nat) (i x:Nat),i < L.length->(L.set i x).sum+L.getD i 0=L.sum+x
 | a :: L,0,x,h=>by simp;omega
 | a :: L,i+1,x,h=>by
  have:=sum_set L i x (by simpa using h)
  simp only [List.set_cons_succ,List.sum_cons,List.getD_cons_succ]
  omega
theorem anB:∀ (L:List Nat),(∀ x∈L,x < 4096)->L.sum<=4096*L.length
 | [],h=>by simp
 | a :: L,h=>by
  have:=anB L (fun x hx=>h x (List.mem_cons_of_mem _ hx))
  have:=h a List.mem_cons_self
  simp only [List.sum_cons,List.length_cons]
  omega
theorem aoo {n:Nat} {L:List Nat} (h:Tab n L):L.sum<=4096*n:=by
 rw [<- h.1]
 refine anB L fun x hx=>?_
 obtain⟨i,hi,e⟩:=List.getElem_of_mem hx
 have:=h.2 i
 rw [List.getD_eq_getElem?_getD,List.getElem?_eq_getElem hi] at this
 rw [<- e]
 exact this
theorem ahS {c:List SQ} (h:CV (qs c)) {L:List Nat} (hL:Tab c.length L) {i:Nat} (hi:i < c.length) (r:Nat):(bf c L i).testBit r=true↔((∃ j∈nx (q_ (qa c i)) i,(L.getD j 0).testBit r=true)/\sets (q_ (qa c i))≠r)\/uses (q_ (qa c i)) r:=by
 unfold bf
 rw [aoS (abF h hi) (agJ hL _ _)]
 unfold aft
 rw [afI]
 simp
/-- Below the next round,and within what is live. -/
structure Good (c:List SQ) (L:List Nat):Prop where
 tab:Tab c.length L
 up:∀ i,i < c.length->∀ r,(L.getD i 0).testBit r=true->(bf c L i).testBit r=true
 sound:∀ i,i < c.length->∀ r,(L.getD i 0).testBit r=true->Live (qs c) i r
theorem Good.step {c:List SQ} (h:CV (qs c)) {L:List Nat} (g:Good c L) {i:Nat} (hi:i < c.length):Good c (L.set i (bf c L i)):=by
 have hT:=g.tab.set i (bf c L i) (an4 h g.tab hi)
 have hget:∀ j,(L.set i (bf c L i)).getD j 0=if j=i then bf c L i else L.getD j 0:=fun j=>ac3 L i j _ 0 (by rw [g.tab.1];exact hi)
 have hmono:∀ j r,j < c.length->(L.getD j 0).testBit r=true->((L.set i (bf c L i)).getD j 0).testBit r=true:=by
  intro j r hj hb
  rw [hget]
  split
  ·rename_i e
   subst e
   exact g.up j hi r hb
  exact hb
 have hbf:∀ j r,j < c.length->(bf c L j).testBit r=true->(bf c (L.set i (bf c L i)) j).testBit r=true:=by
  intro j r hj hb
  rw [ahS h g.tab hj] at hb
  rw [ahS h hT hj]
  rcases hb with ⟨⟨t,ht,hb⟩,hs⟩|hb
  ·exact .inl ⟨⟨t,ht,hmono t r (aiv h hj t ht) hb⟩,hs⟩
  exact .inr hb
 refine⟨hT,fun j hj r hb=>?_,fun j hj r hb=>?_⟩
 ·rw [hget] at hb
  split at hb
  ·rename_i e
   subst e
   exact hbf j r hj hb
  exact hbf j r hj (g.up j hj r hb)
 rw [hget] at hb
 split at hb
 ·rename_i e
  subst e
  rw [ahS h g.tab hj] at hb
  rcases hb with ⟨⟨t,ht,hb⟩,hs⟩|hb
  ·exact Live.flow (by rw [aaY];exact hj) (by rw [abS];exact hs) (by rw [abS];exact ht) (g.sound t (aiv h hj t ht) r hb)
  exact Live.use (by rw [aaY];exact hj) (by rw [abS];exact hb)
 exact g.sound j hj r hb
theorem aj3 {c:List SQ} (h:CV (qs c)):∀ (i:Nat),i<=c.length->∀ (L:List Nat) (b:Bool),Good c L->Good c (rnd c i L b).1
 | 0,hi,L,b,g=>g
 | i+1,hi,L,b,g=>aj3 h i (by omega) _ _ (g.step h (by omega))
theorem ahD {c:List SQ}:∀ (i:Nat),i<=c.length->∀ (L:List Nat) (b:Bool),L.length=c.length->(rnd c i L b).2=false->b=false/\(rnd c i L b).1=L/\∀ j,j < i->bf c L j=L.getD j 0
 | 0,hi,L,b,hl,e=>⟨e,rfl,fun j hj=>by omega⟩
 | i+1,hi,L,b,hl,e=>by
  obtain⟨e1,e2,e3⟩:=ahD i (by omega) (L.set i (bf c L i)) _ (by rw [List.length_set];exact hl) e
  have f:=Bool.or_eq_false_iff.1 e1
  have f2:bf c L i=L.getD i 0:=by simpa using f.2
  have f3:L.set i (bf c L i)=L:=by rw [f2];exact afm (by omega)
  rw [f3] at e3
  refine⟨f.1,e2.trans f3,fun j hj=>?_⟩
  by_cases hji:j=i
  ·rw [hji]
   exact f2
  exact e3 j (by omega)
theorem akq {c:List SQ} (h:CV (qs c)):∀ (i:Nat),i<=c.length->∀ (L:List Nat) (b:Bool),Good c L->L.sum<=(rnd c i L b).1.sum/\((rnd c i L b).2=true->b=true\/L.sum < (rnd c i L b).1.sum)
 | 0,hi,L,b,g=>⟨Nat.le_refl _,fun e=>.inl e⟩
 | i+1,hi,L,b,g=>by
  obtain⟨h1,h2⟩:=akq h i (by omega) (L.set i (bf c L i)) (b || !decide (bf c L i=L.getD i 0)) (g.step h (i:=i) (by omega))
  have hs:=sum_set L i (bf c L i) (by rw [g.tab.1];omega)
  have hle:=ajK (g.up i (by omega))
  simp only [rnd]
  refine⟨by omega,fun e=>?_⟩
  rcases h2 e with e2|e2
  ·rcases Bool.or_eq_true_iff.1 e2 with e3|e3
   ·exact .inl e3
   have:bf c L i≠L.getD i 0:=by simpa using e3
   exact .inr (by omega)
  exact .inr (by omega)
/-- The table of what is live before each quad. -/
structure LT (c:List SQ) (L:List Nat):Prop where
 tab:Tab c.length L
 iff:∀ i,i < c.length->∀ r,(L.getD i 0).testBit r=true↔Live (qs c) i r
theorem ahJ {c:List SQ} (h:CV (qs c)):∀ (m:Nat) (L:List Nat),Good c L->4096*c.length < m+L.sum->∃ T,LT c T/\Ev (fun k=>aeq k c (rows L)) (rows T)/\Ev (fun k=>adn k c (ints L) true) (ints T)
 | 0,L,g,hm=>by
  have:=aoo g.tab
  omega
 | m+1,L,g,hm=>by
  have h6:=ab8 h
  have hw:wrap64 ((c.length:Int) - 1)=(c.length:Int) - 1:=aaR (by omega) (by omega)
  have hr:=Sb2.out h c.length (Nat.le_refl _) L false g.tab
  have hi:∀ v,Ev (fun k=>adn k c (ints (rnd c c.length L false).1) (rnd c c.length L false).2) v->Ev (fun k=>ac0 k c (ints L) false ((c.length:Int) - 1)) v:=fun v=>Sa9.out h c.length (Nat.le_refl _) L false g.tab
  cases e:(rnd c c.length L false).2 with
  | false =>
   obtain⟨_,e2,e3⟩:=ahD c.length (Nat.le_refl _) L false g.tab.1 e
   refine⟨L,⟨g.tab,fun i hi r=>?_⟩,?_,?_⟩
   ·refine live_of_closed (c:=qs c) (T:=fun i r=>i < c.length->(L.getD i 0).testBit r=true) (fun i r hi' ht=>g.sound i (by rwa [aaY] at hi') r (ht (by rwa [aaY] at hi'))) ?_ ?_ i r (by rw [aaY];exact hi) |>.symm.trans ⟨fun x=>x hi,fun x _=>x⟩ |>.symm
    ·intro i r _ hu hi
     rw [<- e3 i hi,ahS h g.tab hi]
     rw [abS] at hu
     exact .inr hu
    intro i j r _ hs hj ht hi
    rw [<- e3 i hi,ahS h g.tab hi]
    rw [abS] at hs hj
    exact .inl ⟨⟨j,hj,ht (aiv h hi j hj)⟩,hs⟩
   ·refine Ev.succ ?_
    simp only [aeq,Sb2.f,hw]
    refine Ev.bind hr ?_
    refine aa5 (Ev.eq Ev.pure ?_) ?_
    ·rw [e2]
    simp [e]
   refine Ev.succ ?_
   simp only [adn,hw]
   refine aa2 (hi _ ?_)
   rw [e,e2]
   refine Ev.succ ?_
   simp only [adn]
   exact aa5 Ev.pure
  | true =>
   have hs:=(akq h c.length (Nat.le_refl _) L false g).2 e
   have hs':L.sum < (rnd c c.length L false).1.sum:=by
    rcases hs with x|x
    ·cases x
    exact x
   obtain⟨T,t1,t2,t3⟩:=ahJ h m (rnd c c.length L false).1 (aj3 h c.length (Nat.le_refl _) L false g) (by omega)
   refine⟨T,t1,?_,?_⟩
   ·refine Ev.succ ?_
    simp only [aeq,Sb2.f,hw]
    refine Ev.bind hr (aa2 t2 ?_)
    exact e
   refine Ev.succ ?_
   simp only [adn,hw]
   refine aa2 (hi _ ?_)
   rw [e]
   exact t3
theorem akX {c:List SQ}:Good c (List.replicate c.length 0):=by
 have z:∀ i,(List.replicate c.length 0).getD i 0=0:=by
  intro i
  rw [List.getD_eq_getElem?_getD,List.getElem?_replicate]
  split <;> rfl
 refine⟨⟨by simp,fun i=>by rw [z];decide⟩,fun i hi r hb=>?_,fun i hi r hb=>?_⟩ <;>
 ·rw [z] at hb
  simp at hb
theorem ai4 {c:List SQ} (h6:c.length<=600) {v:List (List Bool)} (g:Ev (fun k=>aeq k c (rows (List.replicate c.length 0))) v):∀ (d p:Nat),p+d=c.length->Ev (fun k=>af1 k c (rows (List.replicate p 0)) (p:Int)) v
 | 0,p,hp=>by
  refine Ev.succ ?_
  simp only [af1]
  refine aa5 ?_
  rw [show p=c.length from by omega]
  exact g
 | d+1,p,hp=>by
  refine Ev.succ ?_
  simp only [af1,ac1,List.length_replicate,aao (show p < 9223372036854775807 by omega)]
  refine aa2 (aa2 (aa2 ?_))
  have:=ai4 h6 g d (p+1) (by omega)
  rw [List.replicate_succ',show rows (List.replicate p 0 ++ [0])=rows (List.replicate p 0) ++ [List.replicate 12 false] from by simp [rows,row_zero]] at this
  exact this
/-- Both answer one table: what is live. -/
theorem aiw {c:List SQ} (h:CV (qs c)):∃ T,LT c T/\Ev (fun k=>Sau.f k c) (rows T)/\Ev (fun k=>Sa9.f k c) (ints T):=by
 have h6:=ab8 h
 obtain⟨T,t1,t2,t3⟩:=ahJ h (4096*c.length+1) (List.replicate c.length 0) akX (by omega)
 refine⟨T,t1,?_,?_⟩
 ·simp only [Sau.f]
  refine aaG (Ev.bind (acs c) (aa2 ?_ (decide_eq_true h)))
  exact ai4 h6.2 t2 c.length 0 (by omega)
 simp only [Sa9.f,Int.toNat_natCast]
 refine aa2 (aa2 ?_)
 rw [show List.replicate c.length (0:Int)=ints (List.replicate c.length 0) from by simp [ints]]
 exact t3
theorem ahh {s r:Nat} (hs:s < 65536) (hr:r < 16):aiS (s:Int) (r:Int)=some (s.testBit r):=by
 unfold aiS
 rw [if_pos (by omega),aoQ hs hr]
/-- A quad is dead. -/
def dd (c:List SQ) (L:List Nat) (i:Nat):Bool:=((qa c i).f0 == 1 || (qa c i).f0 == 2 || (qa c i).f0 == 3) && !(aft (q_ (qa c i)) i L).testBit (qa c i).f1.toNat
def ahO (c:List SQ) (L:List Nat) (i:Nat):SQ:=if dd c L i=true then ⟨4,0,0,0,((i+1:Nat):Int)⟩ else qa c i
def ae7 (L:List Nat) (c:List SQ):List SQ:=(List.range c.length).map (ahO c L)
theorem abJ (L:List Nat) (c:List SQ):(ae7 L c).length=c.length:=by simp [ae7]
theorem ae6 (L:List Nat) {c:List SQ} {i:Nat} (h:i < c.length):qa (ae7 L c) i=ahO c L i:=by simp [ae7,qa,List.getD_eq_getElem?_getD,h]
theorem amQ {s:Nat} {r:Int} (h0:0<=r) (h1:r < 12):ab7 false (row s) r=s.testBit r.toNat:=by
 have:=abI false (row s) r.toNat
 rw [Int.toNat_of_nonneg h0] at this
 rw [this]
 exact acL _ _ (by omega)
theorem aqP {c:List SQ} (h:CV (qs c)) {i:Nat} (hi:i < c.length) (L:List Nat):alz (qa c i).f0 (qa c i).f1 (qa c i).f2 (qa c i).f3 (qa c i).f4 (row (aft (q_ (qa c i)) i L))=some (dd c L i):=by
 obtain⟨⟨d0,d1⟩,_⟩:=abD (abF h hi)
 simp only [q_] at d0 d1
 unfold alz dd
 rw [amQ d0 d1,abq]
 by_cases c1:(qa c i).f0=1
 ·rw [if_pos c1,if_pos d0,if_pos (show (qa c i).f1 < ((12:Nat):Int) by omega)]
  simp [c1]
 rw [if_neg c1]
 by_cases c2:(qa c i).f0=2
 ·rw [if_pos c2,if_pos d0,if_pos (show (qa c i).f1 < ((12:Nat):Int) by omega)]
  simp [c2]
 rw [if_neg c2]
 by_cases c3:(qa c i).f0=3
 ·rw [if_pos c3,if_pos d0,if_pos (show (qa c i).f1 < ((12:Nat):Int) by omega)]
  simp [c3]
 rw [if_neg c3]
 simp [c1,c2,c3]
theorem Sao.out {c:List SQ} (h:CV (qs c)) {L:List Nat} (hL:Tab c.length L):∀ (d p:Nat),p+d=c.length->Ev (fun k=>aer k c ((ae7 L c).take p) (rows L) (p:Int)) (ae7 L c,true)
 | 0,p,hp=>by
  refine Ev.succ ?_
  simp only [aer]
  refine aa5 (Ev.eq Ev.pure ?_)
  rw [List.take_of_length_le (by rw [abJ];omega)]
 | d+1,p,hp=>by
  have h6:=ab8 h
  have hi:p < c.length:=by omega
  refine Ev.succ ?_
  have lt:((ae7 L c).take p).length < 3518437208883:=by rw [List.length_take,abJ];omega
  have ih:=Sao.out h hL d (p+1) (by omega)
  have e:(ae7 L c).take p ++ [ahO c L p]=(ae7 L c).take (p+1):=by
   rw [<- ae6 L hi]
   exact abT _ (by rw [abJ];exact hi)
  rw [<- e] at ih
  simp only [aer,ac2,aao (show p < 9223372036854775807 by omega)]
  refine aa2 (aa2 (Ev.bind (amc h hL hi) ?_))
  rw [aqP h hi]
  refine aaG ?_
  by_cases g:dd c L p=true
  ·rw [ahO,if_pos g] at ih
   exact aa2 (aa2 ih lt)
  rw [ahO,if_neg g] at ih
  exact aa5 (aa2 ih lt)
/-- The dead quads from p on. -/
def ade (c:List SQ) (L:List Nat):List Nat:=(List.range c.length).filter (dd c L)
def upto (c:List SQ) (L:List Nat) (p:Nat):List Nat:=(List.range p).filter (dd c L)
theorem akh (c:List SQ) (L:List Nat) (p:Nat):upto c L (p+1)=upto c L p ++ (if dd c L p=true then [p] else []):=by
 unfold upto
 rw [List.range_succ,List.filter_append]
 congr 1
 by_cases h:dd c L p=true <;> simp [h]
theorem aiZ (c:List SQ) (L:List Nat) (p:Nat):(upto c L p).length<=p:=by
 have:=List.length_filter_le (dd c L) (List.range p)
 rwa [List.length_range] at this
theorem Sa8.out {c:List SQ} (h:CV (qs c)) {L:List Nat} (hL:Tab c.length L):∀ (d p:Nat),p+d=c.length->Ev (fun k=>afa k c (ints (upto c L p)) (ints L) c (c.length:Int) (p:Int)) (ints (ade c L))
 | 0,p,hp=>by
  refine Ev.succ ?_
  simp only [afa]
  refine aa5 (Ev.eq Ev.pure ?_)
  rw [show p=c.length from by omega]
  rfl
 | d+1,p,hp=>by
  have h6:=ab8 h
  have hi:p < c.length:=by omega
  have hs:ai8 (qa c p).f0 (qa c p).f1 (qa c p).f2 (qa c p).f3 (qa c p).f4=some (sets (q_ (qa c p))):=aoW (q_ (qa c p))
  have ih:=Sa8.out h hL d (p+1) (by omega)
  rw [akh] at ih
  have ha:=agJ hL (q_ (qa c p)) p
  obtain⟨⟨d0,d1⟩,_⟩:=abD (abF h hi)
  simp only [q_] at d0 d1
  refine Ev.succ ?_
  simp only [afa,ac2,hs,aao (show p < 9223372036854775807 by omega)]
  refine aa2 (aa2 (aa2 (aaG ?_)))
  by_cases g:(qa c p).f0=1\/(qa c p).f0=2\/(qa c p).f0=3
  ·have es:sets (q_ (qa c p))=(qa c p).f1:=by
    unfold sets
    exact if_pos (by show (qa c p).f0=1\/(qa c p).f0=2\/(qa c p).f0=3\/(qa c p).f0=7;omega)
   have gd:dd c L p = !(aft (q_ (qa c p)) p L).testBit (qa c p).f1.toNat:=by
    unfold dd
    rcases g with g|g|g <;> simp [g]
   rw [es]
   refine aa2 (aa5 (Ev.bind (amv h hL hi) ?_))
   have hb:=ahh (s:=aft (q_ (qa c p)) p L) (r:=(qa c p).f1.toNat) (by omega) (by omega)
   rw [Int.toNat_of_nonneg d0] at hb
   rw [hb]
   refine aaG ?_
   cases t:(aft (q_ (qa c p)) p L).testBit (qa c p).f1.toNat with
   | true =>
    refine aa2 ?_ rfl
    rw [gd,t] at ih
    simpa using ih
   | false =>
    refine aa5 (aa2 ?_ (by rw [aaU];have:=aiZ c L p;omega)) (by simp)
    rw [gd,t] at ih
    have e:ints (upto c L p) ++ [(p:Int)]=ints (upto c L p ++ [p]):=by simp [ints]
    rw [e]
    simpa using ih
  have gd:dd c L p=false:=by
   unfold dd
   have g1:(qa c p).f0≠1:=by omega
   have g2:(qa c p).f0≠2:=by omega
   have g3:(qa c p).f0≠3:=by omega
   simp [g1,g2,g3]
  rw [gd] at ih
  simp only [Bool.false_eq_true,if_false,List.append_nil] at ih
  by_cases g7:(qa c p).f0=7
  ·have es:sets (q_ (qa c p))=(qa c p).f1:=by
    unfold sets
    exact if_pos (.inr (.inr (.inr g7)))
   rw [es]
   exact aa2 (aa2 ih)
  have es:sets (q_ (qa c p)) = -1:=by
   unfold sets
   exact if_neg (by show ¬ ((qa c p).f0=1\/(qa c p).f0=2\/(qa c p).f0=3\/(qa c p).f0=7);omega)
  rw [es]
  exact aa5 ih
theorem Sa1.out {c:List SQ} (h:CV (qs c)) {L:List Nat}:∀ (d p:Nat),p+d=(ade c L).length->∀ x:List SQ,x.length=c.length->(∀ i,i < c.length->qa x i=if i∈(ade c L).take p then ⟨4,0,0,0,((i+1:Nat):Int)⟩ else qa c i)->Ev (fun k=>aig k x (ints (ade c L)) ((ade c L).length:Int) (p:Int)) (ae7 L c,true)
 | 0,p,hp,x,hx,hq=>by
  refine Ev.succ ?_
  simp only [aig]
  refine aa5 (Ev.eq Ev.pure ?_)
  have:x=ae7 L c:=by
   apply List.ext_getElem (by rw [hx,abJ])
   intro i h1 h2
   have e:=hq i (by omega)
   have e2:=ae6 L (c:=c) (i:=i) (by omega)
   rw [List.take_of_length_le (by omega)] at e
   have e3:qa x i=qa (ae7 L c) i:=by
    rw [e,e2,ahO]
    unfold ade
    by_cases g:dd c L i=true
    ·rw [if_pos (by simp [g];omega),if_pos g]
    rw [if_neg (by simp [g]),if_neg g]
   unfold qa at e3
   rwa [List.getD_eq_getElem?_getD,List.getD_eq_getElem?_getD,List.getElem?_eq_getElem h1,List.getElem?_eq_getElem h2] at e3
  rw [this]
 | d+1,p,hp,x,hx,hq=>by
  have h6:=ab8 h
  have hm:(ade c L).getD p 0∈ade c L:=acO (by omega)
  have hlt:(ade c L).getD p 0 < c.length:=by
   unfold ade at hm ⊢
   exact List.mem_range.1 (List.mem_filter.1 hm).1
  have hdl:(ade c L).length<=c.length:=aiZ c L c.length
  refine Ev.succ ?_
  simp only [aig,aaU,acy,hx,Int.toNat_natCast,aao (show p < 9223372036854775807 by omega),aao (show (ade c L).getD p 0 < 9223372036854775807 by omega)]
  refine aa2 (aa2 (aa2 (aa2 (aa2 ?_))))
  refine Sa1.out h d (p+1) (by omega) _ (by rw [List.length_set];exact hx) fun i hi=>?_
  unfold qa
  rw [ac3 x _ i _ _ (by omega),<- abT 0 (show p < (ade c L).length by omega)]
  by_cases e:i=(ade c L).getD p 0
  ·rw [if_pos e,if_pos (by simp [e]),e]
  rw [if_neg e]
  have:=hq i hi
  unfold qa at this
  rw [this]
  by_cases g:i∈(ade c L).take p
  ·rw [if_pos g,if_pos (by simp [g])]
  rw [if_neg g,if_neg]
  rw [List.mem_append,List.mem_singleton]
  exact fun y=>y.elim g e
theorem aiH {c:List SQ} (h:CV (qs c)) (L:List Nat):CV (qs (ae7 L c)):=by
 have h6:=ab8 h
 refine al5 (by rw [abJ];exact h6.1) (by rw [abJ];exact h6.2) (fun i hi=>?_) ?_
 ·rw [abJ] at hi ⊢
  rw [ae6 L hi,ahO]
  split
  ·rename_i g
   have lt:i+1 < c.length:=by
    have hl:=adO h
    have:i≠c.length - 1:=by
     intro e
     rw [<- e] at hl
     unfold dd at g
     rcases hl with hl|hl <;> simp [hl] at g
    omega
   exact .inr (.inr (.inr (.inl ⟨rfl,rfl,rfl,rfl,by show (0:Int)<=((i+1:Nat):Int);omega,by show ((i+1:Nat):Int) < (c.length:Int);omega⟩)))
  exact abF h hi
 rw [abJ,ae6 L (by omega),ahO]
 split
 ·exact .inr rfl
 exact adO h
/-- Both answer one code,and it is valid. -/
theorem aoR {c:List SQ} (h:CV (qs c)):∃ v,v.length=c.length/\CV (qs v)/\Ev (fun k=>Sao.f k c) (v,true)/\Ev (fun k=>Sa1.f k c) (v,true):=by
 have h6:=ab8 h
 obtain⟨L,hL,e1,e2⟩:=aiw h
 refine⟨ae7 L c,abJ L c,aiH h L,?_,?_⟩
 ·simp only [Sao.f]
  exact aaG (Ev.bind (acs c) (aa2 (Ev.bind e1 (Sao.out h hL.1 c.length 0 (Nat.zero_add _))) (decide_eq_true h)))
 simp only [Sa1.f,aqr]
 refine Ev.bind (ajz c) (aa2 (Ev.bind (abb (if_pos (by omega))) (Ev.bind (F:=fun k=>Sa8.f k c) (a:=ints (ade c L)) ?_ ?_)) (decide_eq_true h))
 ·simp only [Sa8.f]
  exact Ev.bind e2 (Sa8.out h hL.1 c.length 0 (Nat.zero_add _))
 rw [aaU]
 exact Sa1.out h (ade c L).length 0 (Nat.zero_add _) c rfl fun i hi=>by simp
end Go.Proofs.YtebpplallecogaaGreat.M
namespace Go.Proofs.YtebpplallecogaaGreat.M
open Go.Proofs.Tryz Go.RowKit Go.Proofs.YtebpplallecogaaGreatW.PrintWords Go.Proofs.YtebpplallecogaaGreatW.PrintLast Go.Proofs.YtebpplallecogaaGreatW.PrintMore
attribute [local go_sem] aak aai aay aax aad aac aaj aah
end Go.Proofs.YtebpplallecogaaGreat.M
namespace Go.Proofs.YtebpplallecogaaGreat.M
open Go.Proofs.Tryz Go.RowKit Go.Proofs.YtebpplallecogaaGreatW.PrintWords Go.Proofs.YtebpplallecogaaGreatW.PrintLast Go.Proofs.YtebpplallecogaaGreatW.PrintMore PM
abbrev SE:=S90
/-- With fuel enough,F answers what P says. -/
def An {α:Type} (F:Nat->Option α) (P:α->Prop):Prop:=∃ v,Ev F v/\P v
theorem amK {α:Type} {F:Nat->Option α} {P:α->Prop} {v:α} (e:Ev F v) (p:P v):An F P:=⟨v,e,p⟩
theorem aaf {α:Type} {P:α->Prop} {v:α} (p:P v):An (fun _=>Option.some v) P:=⟨v,Ev.pure,p⟩
theorem An.bind {α β:Type} {F:Nat->Option α} {G:Nat->α->Option β} {P:α->Prop} {Q:β->Prop} (h:An F P) (g:∀ a,P a->An (fun k=>G k a) Q):An (fun k=>(F k).bind (G k)) Q:=by
 obtain⟨a,e,p⟩:=h
 obtain⟨b,e',q⟩:=g a p
 exact⟨b,Ev.bind e e',q⟩
theorem aba {α β:Type} {a:α} {G:Nat->α->Option β} {Q:β->Prop} (g:An (fun k=>G k a) Q):An (fun k=>(Option.some a).bind (G k)) Q:=g
theorem aaM {α:Type} {F:Nat->Option α} {P:α->Prop} (h:An (fun k=>F (k+1)) P):An F P:=by
 obtain⟨v,e,p⟩:=h
 exact⟨v,Ev.succ e,p⟩
theorem aaE {α:Type} {c:Prop} [Decidable c] {A B:Nat->Option α} {P:α->Prop} (g:An A P) (h:c:=by first|assumption|omega|(simp;done)|(simp;omega)):An (fun k=>if c then A k else B k) P:=by
 simp only [if_pos h]
 exact g
theorem ab1 {α:Type} {c:Prop} [Decidable c] {A B:Nat->Option α} {P:α->Prop} (g:An B P) (h:¬ c:=by first|assumption|omega|(simp;done)|(simp;omega)):An (fun k=>if c then A k else B k) P:=by
 simp only [if_neg h]
 exact g
theorem aaL {α:Type} {c:Prop} [Decidable c] {A B:Nat->Option α} {P:α->Prop} (g:c->An A P) (g':¬ c->An B P):An (fun k=>if c then A k else B k) P:=by
 by_cases h:c
 ·exact aaE (g h) h
 exact ab1 (g' h) h
theorem An.mono {α:Type} {F:Nat->Option α} {P Q:α->Prop} (h:An F P) (g:∀ v,P v->Q v):An F Q:=by
 obtain⟨v,e,p⟩:=h
 exact⟨v,e,g v p⟩
def Bt (b:List Int):Prop:=b.length<=2000/\∀ x∈b,0<=x/\x < 256
theorem Bt.at_ {b:List Int} (h:Bt b) {i:Int} (h0:0<=i) (h1:i < b.length):0<=rd b i/\rd b i < 256:=by
 unfold rd
 have hi:i.toNat < b.length:=by omega
 have e:b.getD i.toNat 0=b[i.toNat]:=by simp [hi]
 rw [e]
 exact h.2 _ (List.getElem_mem _)
theorem ajB {x n:Int} (hx:0<=x) (hn:1<=n):0<=x.tmod n/\x.tmod n < n:=by
 rw [Int.tmod_eq_emod_of_nonneg hx]
 exact⟨Int.emod_nonneg _ (by omega),Int.emod_lt_of_pos _ (by omega)⟩
theorem aoi (x y:Int) (h0:0<=x) (h1:x < 2 ^ 62) (h2:0<=y) (h3:y < 2 ^ 62):0<=Go.bits .xor .i64 x y:=by
 obtain⟨a,rfl⟩:=Int.eq_ofNat_of_zero_le h0
 obtain⟨b,rfl⟩:=Int.eq_ofNat_of_zero_le h2
 have ha:a < 2 ^ 62:=by exact_mod_cast h1
 have hb:b < 2 ^ 62:=by exact_mod_cast h3
 have hp:(2:Nat) ^ 62<=2 ^ IntKind.i64.bits:=by decide
 have ha':a % 2 ^ IntKind.i64.bits=a:=Nat.mod_eq_of_lt (Nat.lt_of_lt_of_le ha hp)
 have hb':b % 2 ^ IntKind.i64.bits=b:=Nat.mod_eq_of_lt (Nat.lt_of_lt_of_le hb hp)
 have hx:a ^^^ b < 2 ^ 62:=Nat.xor_lt_two_pow ha hb
 simp only [Go.bits,BitVec.ofInt_natCast,BitVec.toNat_xor,BitVec.toNat_ofNat,ha',hb']
 rw [IntKind.wrap_i64]
 omega
theorem aoD (y z q d:Int) (hy:0<=y) (hy1:y < 256) (hz:0<=z) (hz1:z < 256) (hq:0<=q) (hq1:q<=1000000) (hd:0<=d) (hd1:d<=q) :
  0<=Go.bits .xor .i64 (wrap64 ((wrap64 ((wrap64 ((wrap64 ((wrap64 y)*131))+(wrap64 ((wrap64 z)*1117))))+(wrap64 (q*29))))+(wrap64 ((wrap64 d)*53)))) (wrap64 (Int.tdiv (wrap64 ((wrap64 ((wrap64 ((wrap64 ((wrap64 y)*131))+(wrap64 ((wrap64 z)*1117))))+(wrap64 (q*29))))+(wrap64 ((wrap64 d)*53)))) 64)):=by
 have e:wrap64 ((wrap64 ((wrap64 ((wrap64 ((wrap64 y)*131))+(wrap64 ((wrap64 z)*1117))))+(wrap64 (q*29))))+(wrap64 ((wrap64 d)*53)))=y*131+z*1117+q*29+d*53:=by unfold wrap64;omega
 rw [e]
 have h0:0<=y*131+z*1117+q*29+d*53:=by omega
 have h1:y*131+z*1117+q*29+d*53 < 1000000000000:=by omega
 generalize y*131+z*1117+q*29+d*53=X at h0 h1
 have h2:wrap64 (X.tdiv 64)=X / 64:=by rw [Int.tdiv_eq_ediv_of_nonneg h0];unfold wrap64;omega
 rw [h2]
 exact aoi X (X / 64) h0 (by omega) (by omega) (by omega)
theorem aoz {b:List Int} (hb:Bt b) {p n:Int} (h:0<=p/\p+1<=1000000):An (fun k=>ab0 k b p n) (fun v=>0<=v.1/\(1<=n->v.1 < n)/\v.2=p+1):=by
 obtain⟨h0,h1⟩:=h
 have e1:wrap64 (p+1)=p+1:=aaR (by omega) (by omega)
 have e2:wrap64 (p+1 - 1)=p:=by rw [aaR (by omega) (by omega)];omega
 have t:An (fun k=>aeT k n true b (p+1)) (fun v=>0<=v.1/\(1<=n->v.1 < n)/\v.2=p+1)\/1<=n:=by
  by_cases c:1<=n
  ·exact Or.inr c
  refine Or.inl (aaM ?_)
  simp only [aeT]
  exact aaE (aaf ⟨by simp,fun h=>absurd h c,rfl⟩)
 simp only [ab0,e1]
 refine aaL (fun c=>t.resolve_right (by omega)) (fun c=>?_)
 refine aaM ?_
 simp only [aeT,e2]
 refine aaL (fun c'=>aaf ⟨by simp,fun h=>by simp only;omega,rfl⟩) (fun c'=>?_)
 have hl:1<=(b.length:Int):=by
  have:(b.length:Int)≠0:=by simpa using c'
  omega
 have hl2:=hb.1
 refine aaL (fun d=>?_) (fun d=>?_)
 ·refine aaE (ab1 (aaf ?_))
  obtain⟨r0,r1⟩:=hb.at_ h0 d
  rw [aaR (by omega) (by omega)]
  exact⟨(ajB r0 (by omega)).1,fun h=>(ajB r0 h).2,rfl⟩
 obtain⟨i0,i1⟩:=ajB (x:=p) h0 hl
 have e3:wrap64 (wrap64 (p*7)+3)=p*7+3:=by unfold wrap64;omega
 obtain⟨j0,j1⟩:=ajB (x:=p*7+3) (by omega) hl
 obtain⟨y0,y1⟩:=hb.at_ i0 i1
 obtain⟨z0,z1⟩:=hb.at_ j0 j1
 simp only [e3]
 refine ab1 (aaE (aaE (aaE (aaE (ab1 (aaf ?_))))))
 have d0:0<=p.tdiv b.length:=Int.tdiv_nonneg h0 (by omega)
 have d1:p.tdiv b.length<=p:=by rw [Int.tdiv_eq_ediv_of_nonneg h0];exact Int.ediv_le_self _ h0
 have m:=aoD _ _ p _ y0 y1 z0 z1 h0 (by omega) d0 d1
 exact⟨(ajB m (by omega)).1,fun h=>(ajB m h).2,rfl⟩
theorem aav {b:List Int} (hb:Bt b) {p:Int} (n:Int) (h:0<=p/\p+1<=1000000) (hn:1<=n:=by omega):An (fun k=>ab0 k b p n) (fun v=>0<=v.1/\v.1 < n/\v.2=p+1) :=
 (aoz hb h).mono fun v h=>⟨h.1,h.2.1 hn,h.2.2⟩
theorem abz {b:List Int} (hb:Bt b) {p:Int} (h:0<=p/\p+1<=1000000):An (fun k=>aek k b p) (fun v=>v.2=p+1):=by
 simp only [aek]
 exact An.bind (aav hb 6 h) fun v h=>aaf h.2.2
theorem ajh {b:List Int} (hb:Bt b) {p:Int} (h:0<=p/\p+1<=1000000):An (fun k=>ajV k b p) (fun v=>1<=v.1/\v.1<=12/\v.2=p+1):=by
 simp only [ajV]
 refine An.bind (aav hb 12 h) fun v h=>aaf ?_
 rw [aaR (by omega) (by omega)]
 simp only
 omega
theorem aka (n:Int):∃ v,aeO n=some v:=by
 unfold aeO
 split
 ·exact⟨_,rfl⟩
 split <;> exact⟨_,rfl⟩
theorem ajO {b:List Int} (hb:Bt b) {p:Int} (h:0<=p/\p+5<=1000000):An (fun k=>alm k b p) (fun v=>p<=v.2/\v.2<=p+5):=by
 simp only [alm]
 refine An.bind (aav hb 6 (by omega)) fun v h1=>?_
 refine aaL (fun c=>aba (An.bind (aav hb 8 (by omega)) fun u h2=>aaE (aaE (aaf (by simp only;omega)) (by simp only [List.length_cons,List.length_nil];omega)))) (fun c=>aaL (fun c=>?_) (fun c=>aaL (fun c=>An.bind (aav hb 200 (by omega)) fun u h2=>aaf (by simp only;omega)) (fun c=>An.bind (aav hb 20 (by omega)) fun u h2=>aaf (by simp only;omega))))
 refine An.bind (aav hb 256 (by omega)) fun v1 h1=>An.bind (aav hb 256 (by omega)) fun v2 h2=>An.bind (aav hb 256 (by omega)) fun v3 h3=>An.bind (aav hb 200 (by omega)) fun v4 h4=>?_
 obtain⟨x,hx⟩:=aka (wrap64 ((wrap64 ((wrap64 ((wrap64 (v1.1*65536))+(wrap64 (v2.1*256))))+v3.1))*(wrap64 (1+v4.1))))
 simp only [hx]
 exact aba (aaf (by simp only;omega))
def okE:Nat->SE->Prop
 | 0,_=>False
 | d+1,e=>(e.f0=0/\0<=e.f1/\e.f1<=99999/\e.f2=[])\/(e.f0=13/\0<=e.f1/\e.f1<=3/\e.f2=[])\/(1<=e.f0/\e.f0<=12/\e.f1=0/\∃ a b,e.f2=[a,b]/\okE d a/\okE d b)
theorem akC:∀ {d:Nat} {e:SE},okE d e->okE (d+1) e
 | 0,_,h=>h.elim
 | d+1,e,h=>by
  rcases h with h|h | ⟨h1,h2,h3,a,b,h4,h5,h6⟩
  ·exact Or.inl h
  ·exact Or.inr (Or.inl h)
  exact Or.inr (Or.inr ⟨h1,h2,h3,a,b,h4,akC h5,akC h6⟩)
theorem ahH {d d':Nat} {e:SE} (h:okE d e) (hd:d<=d'):okE d' e:=by
 induction hd with
 | refl=>exact h
 | step _ ih=>exact akC ih
theorem agA {b:List Int} (hb:Bt b) {p:Int} (h:0<=p/\p+2<=1000000):An (fun k=>alo k b p) (fun v=>okE 1 ⟨v.1,v.2.1,v.2.2.1⟩/\p<=v.2.2.2/\v.2.2.2<=p+2):=by
 simp only [alo,afi]
 refine An.bind (aav hb 4 (by omega)) fun v h1=>?_
 refine aaL (fun c=>An.bind (aav hb 4 (by omega)) fun u h2=>aba (aaf ⟨Or.inl ⟨rfl,h2.1,by simp only;omega,rfl⟩,by simp only;omega⟩)) (fun c=>aaL (fun c=>?_) (fun c=>An.bind (aav hb 4 (by omega)) fun u h2=>aba (aaf ⟨Or.inr (Or.inl ⟨rfl,h2.1,by simp only;omega,rfl⟩),by simp only;omega⟩)))
 refine aba (An.bind (aav hb 8 (by omega)) fun u h2=>aaE (aaE (aba (aaf ⟨Or.inl ⟨rfl,?_⟩,by simp only;omega⟩)) (by simp only [List.length_cons,List.length_nil];omega)))
 obtain⟨u1,u2⟩:=u
 obtain⟨m,rfl⟩:=Int.eq_ofNat_of_zero_le h2.1
 have hm:m < 8:=by have:=h2.2.1;simp only at this;omega
 simp only [aj5]
 match m,hm with
 | 0,_=>simp
 | 1,_=>simp
 | 2,_=>simp
 | 3,_=>simp
 | 4,_=>simp
 | 5,_=>simp
 | 6,_=>simp
 | 7,_=>simp
def cE:Nat->Int
 | 0=>2
 | d+1=>2+2*cE d
theorem anO:∀ d,2<=cE d
 | 0=>by simp [cE]
 | d+1=>by have:=anO d;simp only [cE];omega
theorem aeI {b:List Int} (hb:Bt b):∀ (d:Nat) (p:Int),d<=100->0<=p/\p+cE d<=1000000->An (fun k=>adf k b p ((d+1:Nat):Int)) (fun v=>okE (d+1) ⟨v.1,v.2.1,v.2.2.1⟩/\p<=v.2.2.2/\v.2.2.2<=p+cE d)
 | 0,p,_,h=>by
  refine aaM ?_
  simp only [adf]
  refine aaE (aaM ?_)
  simp only [afT]
  exact aaE (An.bind (agA hb h) fun v h=>aaf h)
 | d+1,p,hd,h=>by
  have c2:=anO d
  simp only [cE] at h ⊢
  refine aaM ?_
  simp only [adf]
  refine ab1 (An.bind (aav hb 3 (by omega)) fun v h1=>aaM ?_)
  simp only [afT]
  refine aaL (fun c=>An.bind (agA hb (by omega)) fun u h2=>aaf ⟨ahH h2.1 (by omega),by simp only;omega⟩) (fun c=>?_)
  have e:wrap64 (((d+1+1:Nat):Int) - 1)=((d+1:Nat):Int):=by rw [aaR (by omega) (by omega)];omega
  refine An.bind (ajh hb (by omega)) fun o h3=>?_
  simp only [e]
  refine An.bind (aeI hb d o.2 (by omega) (by omega)) fun x h4=>?_
  refine An.bind (aeI hb d x.2.2.2 (by omega) (by omega)) fun y h5=>?_
  simp only [ahW]
  exact aba (aaf ⟨Or.inr (Or.inr ⟨h3.1,h3.2.1,rfl,_,_,rfl,h4.1,h5.1⟩),by simp only;omega⟩)
/-- One more than what was picked is a depth. -/
theorem adq {b:List Int} (hb:Bt b) {p x:Int} (hx:0<=x/\x < 3) (h:0<=p/\p+14<=1000000):An (fun k=>adf k b p (wrap64 (1+x))) (fun v=>okE 3 ⟨v.1,v.2.1,v.2.2.1⟩/\p<=v.2.2.2/\v.2.2.2<=p+14):=by
 obtain⟨m,rfl⟩:=Int.eq_ofNat_of_zero_le hx.1
 rw [aaR (by omega) (by omega),show (1:Int)+(m:Int)=((m+1:Nat):Int) by omega]
 have hc:cE m<=14:=by
  match m,hx with
  | 0,_=>decide
  | 1,_=>decide
  | 2,_=>decide
  | m+3,h=>omega
 exact (aeI hb m p (by omega) (by omega)).mono fun v h=>⟨ahH h.1 (by omega),by omega⟩
abbrev ST:=S92
def anC (x:ST):Prop:=x.f4=[]/\x.f5=[]/\((x.f0=1/\0<=x.f1/\x.f1<=3/\x.f2=0/\okE 3 x.f3)\/(x.f0=4/\x.f1=0/\0<=x.f2/\x.f2<=2/\okE 3 x.f3)\/(x.f0=5/\0<=x.f1/\x.f1<=3/\0<=x.f2/\x.f2<=2/\x.f3=⟨0,0,[]⟩)\/(x.f0=6/\x.f1=0/\x.f2=0/\x.f3=⟨0,0,[]⟩)\/(x.f0=7/\x.f1=0/\x.f2=0/\okE 3 x.f3))
def okS:Nat->ST->Prop
 | 0,x=>anC x
 | n+1,x=>anC x\/((x.f0=2\/x.f0=3/\x.f5=[])/\x.f1=0/\x.f2=0/\okE 3 x.f3/\x.f4.length<=5/\x.f5.length<=5/\(∀ y∈x.f4,okS n y)/\(∀ y∈x.f5,okS n y))
theorem ada {n:Nat} {x:ST} (h:anC x):okS n x:=by
 cases n with
 | zero=>exact h
 | succ n=>exact Or.inl h
/-- What a draw of a statement answers,as a statement;the reader behind it. -/
def tS (v:Int × Int × Int × Int × Int × List SE × List ST × List ST × Int):ST:=⟨v.1,v.2.1,v.2.2.1,⟨v.2.2.2.1,v.2.2.2.2.1,v.2.2.2.2.2.1⟩,v.2.2.2.2.2.2.1,v.2.2.2.2.2.2.2.1⟩
theorem afE {b:List Int} (hb:Bt b) {p:Int} (h:0<=p/\p+16<=1000000):An (fun k=>ajZ k b p) (fun v=>anC (tS v)/\p<=v.2.2.2.2.2.2.2.2/\v.2.2.2.2.2.2.2.2<=p+16):=by
 simp only [ajZ]
 refine An.bind (aav hb 3 (by omega)) fun v h1=>An.bind (aav hb 3 (by omega)) fun u h2=>An.bind (adq hb (by omega) (by omega)) fun e h3=>aaf ?_
 exact⟨⟨rfl,rfl,Or.inl ⟨rfl,h1.1,by simp only [tS];omega,rfl,h3.1⟩⟩,by simp only;omega⟩
theorem agz {b:List Int} (hb:Bt b) {p x:Int} (hx:x<=3) (h:0<=p/\p+18<=1000000):An (fun k=>alM k b p x) (fun v=>anC (tS v)/\p<=v.2.2.2.2.2.2.2.2/\v.2.2.2.2.2.2.2.2<=p+18):=by
 simp only [alM]
 refine aaL (fun c=>An.bind (afE hb (by omega)) fun v h1=>aaf ⟨h1.1,by simp only;omega⟩) (fun c=>?_)
 refine An.bind (aav hb x (by omega)) fun v h1=>An.bind (aav hb 2 (by omega)) fun u h2=>aaL (fun c=>?_) (fun c=>?_)
 ·refine An.bind (aav hb 3 (by omega)) fun y h3=>An.bind (adq hb (by omega) (by omega)) fun e h4=>aaf ?_
  exact⟨⟨rfl,rfl,Or.inr (Or.inl ⟨rfl,rfl,h1.1,by simp only [tS];omega,h4.1⟩)⟩,by simp only;omega⟩
 refine An.bind (aav hb 3 (by omega)) fun y h3=>aaf ?_
 exact⟨⟨rfl,rfl,Or.inr (Or.inr (Or.inl ⟨rfl,h3.1,by simp only [tS];omega,h1.1,by simp only [tS];omega,rfl⟩))⟩,by simp only;omega⟩
def cS:Nat->Int
 | 0=>19
 | n+1=>18+4*cS n
theorem agH:∀ n,19<=cS n
 | 0=>by simp [cS]
 | n+1=>by have:=agH n;simp only [cS];omega
/-- What is drawn for one statement of a nest n. -/
def agL (b:List Int) (n:Nat):Prop:=∀ (x:Int),x<=3->∀ (l:Bool) (p:Int),0<=p/\p+cS n<=1000000->An (fun k=>ajY k b p x (n:Int) l) (fun v=>v.1.length<=2/\(∀ y∈v.1,okS n y)/\p<=v.2/\v.2<=p+cS n)
theorem ahQ {b:List Int} {n:Nat} (hs:agL b n) {x:Int} (hx:x<=3) (l:Bool) {m:Nat} (hm:m<=10):∀ (d i:Nat),i+d=m->∀ (o:List ST) (p:Int),o.length<=2*i->(∀ y∈o,okS n y)->0<=p/\p+(d:Int)*cS n<=1000000->An (fun k=>aec k x (n:Int) (m:Int) l o (i:Int) b p) (fun v=>v.1.length<=2*m/\(∀ y∈v.1,okS n y)/\p<=v.2/\v.2<=p+(d:Int)*cS n)
 | 0,i,hi,o,p,ho,hy,h=>by
  refine aaM ?_
  simp only [aec]
  exact ab1 (aaf ⟨by simp only;omega,hy,by simp only;omega⟩)
 | d+1,i,hi,o,p,ho,hy,h=>by
  have c2:=agH n
  have e:((d+1:Nat):Int)*cS n=(d:Int)*cS n+cS n:=by rw [show ((d+1:Nat):Int)=(d:Int)+1 from rfl,Int.add_mul,Int.one_mul]
  have e0:0<=(d:Int)*cS n:=Int.mul_nonneg (by omega) (by omega)
  rw [e] at h ⊢
  refine aaM ?_
  simp only [aec,aao (show i < 9223372036854775807 by omega)]
  refine aaE (An.bind (hs x hx l p (by omega)) fun v h1=>?_)
  refine aaE ?_
  refine (ahQ hs hx l hm d (i+1) (by omega) (o ++ v.1) v.2 (by simp;omega) (by
   intro y hy'
   rcases List.mem_append.1 hy' with q|q
   ·exact hy y q
   exact h1.2.1 y q) (by omega)).mono fun u h2=>⟨h2.1,h2.2.1,by omega⟩
theorem ajq {b:List Int} {n:Nat} (hs:agL b n) {x:Int} (hx:x<=3) (l:Bool) {m:Int} (hm:0<=m/\m<=10) (p:Int) (h:0<=p/\p+m*cS n<=1000000):An (fun k=>afh k b p x (n:Int) m l) (fun v=>(v.1.length:Int)<=2*m/\(∀ y∈v.1,okS n y)/\p<=v.2/\v.2<=p+m*cS n):=by
 obtain⟨m,rfl⟩:=Int.eq_ofNat_of_zero_le hm.1
 refine aaM ?_
 simp only [afh]
 exact (ahQ hs hx l (by omega) m 0 (Nat.zero_add _) [] p (by simp) (by simp) h).mono fun u h2=>⟨by omega,h2.2⟩
/-- A block of at most two. -/
theorem afR {b:List Int} {n:Nat} (hs:agL b n) {x:Int} (hx:x<=3) (l:Bool) {m:Int} (hm:0<=m/\m < 3) (p:Int) (h:0<=p/\p+2*cS n<=1000000):An (fun k=>afh k b p x (n:Int) m l) (fun v=>v.1.length<=4/\(∀ y∈v.1,okS n y)/\p<=v.2/\v.2<=p+2*cS n):=by
 have e:m*cS n<=2*cS n:=Int.mul_le_mul_of_nonneg_right (by omega) (by have:=agH n;omega)
 exact (ajq hs hx l (by omega) p (by omega)).mono fun u h2=>⟨by omega,h2.2.1,by omega⟩
theorem aqI {b:List Int} (hb:Bt b) {n:Nat} (hn:n<=1000) (hs:agL b n) {x:Int} (hx:x<=3) (l:Bool) (p:Int) (h:0<=p/\p+17+4*cS n<=1000000):An (fun k=>ajU k b p x ((n+1:Nat):Int) l) (fun v=>okS (n+1) (tS v)/\p<=v.2.2.2.2.2.2.2.2/\v.2.2.2.2.2.2.2.2<=p+17+4*cS n):=by
 have c2:=agH n
 have e:wrap64 (((n+1:Nat):Int) - 1)=(n:Int):=by rw [aaR (by omega) (by omega)];omega
 refine aaM ?_
 simp only [ajU,e]
 refine An.bind (aav hb 2 (by omega)) fun v h1=>An.bind (adq hb (by omega) (by omega)) fun q h2=>An.bind (aav hb 3 (by omega)) fun u h3=>An.bind (afR hs hx l (by omega) _ (by omega)) fun c h4=>An.bind (aav hb 3 (by omega)) fun u' h5=>An.bind (afR hs hx l (by omega) _ (by omega)) fun c' h6=>aaf ?_
 exact⟨Or.inr ⟨Or.inl rfl,rfl,rfl,h2.1,Nat.le_trans h4.1 (by omega),Nat.le_trans h6.1 (by omega),h4.2.1,h6.2.1⟩,by simp only;omega⟩
theorem aiu {x:Int} (h:0<=x/\x<=99999):okE 1 ⟨0,x,[]⟩:=Or.inl ⟨rfl,h.1,h.2,rfl⟩
theorem akB:okE 1 ⟨13,3,[]⟩:=Or.inr (Or.inl ⟨rfl,by decide,by decide,rfl⟩)
theorem aoF {b:List Int} (hb:Bt b) {n:Nat} (hn:n<=1000) (hs:agL b n) {x:Int} (hx:x<=3) (p:Int) (h:0<=p/\p+17+4*cS n<=1000000):An (fun k=>ak0 k b p x ((n+1:Nat):Int)) (fun v=>v.1.length<=2/\(∀ y∈v.1,okS (n+1) y)/\p<=v.2/\v.2<=p+17+4*cS n):=by
 have c2:=agH n
 have e:wrap64 (((n+1:Nat):Int) - 1)=(n:Int):=by rw [aaR (by omega) (by omega)];omega
 refine aaM ?_
 simp only [ak0,afi,ahW,e]
 refine An.bind (aav hb 3 (by omega)) fun v h1=>An.bind (afR hs hx false (by omega) _ (by omega)) fun c h2=>?_
 refine aba (aba (aba (aba (An.bind (aav hb 3 (by omega)) fun u h3=>aba (aba (aba ?_))))))
 refine aaE (aba (aaf ⟨by simp,?_,by simp only;omega⟩)) (by simp only [List.length_cons,List.length_nil];omega)
 have hw:wrap64 (1+u.1)=1+u.1:=aaR (by omega) (by omega)
 intro y hy
 rcases List.mem_cons.1 hy with rfl|hy
 ·exact Or.inl ⟨rfl,rfl,Or.inl ⟨rfl,by simp,by simp,rfl,ahH (aiu (x:=0) (by decide)) (by omega)⟩⟩
 rcases List.mem_cons.1 hy with rfl|hy
 ·refine Or.inr ⟨Or.inr ⟨rfl,rfl⟩,rfl,rfl,?_,?_,by simp,?_,by simp⟩
  ·exact ahH (d:=2) (Or.inr (Or.inr ⟨by simp only;omega,by simp only;omega,rfl,_,_,rfl,akB,by rw [hw];exact aiu (x:=1+u.1) (by omega)⟩)) (by omega)
  ·simp only [List.length_append,List.length_cons,List.length_nil]
   omega
  intro z hz
  rcases List.mem_append.1 hz with q|q
  ·exact h2.2.1 z q
  obtain rfl:=List.mem_singleton.1 q
  exact ada ⟨rfl,rfl,Or.inl ⟨rfl,by simp,by simp,rfl,ahH (d:=2) (Or.inr (Or.inr ⟨by simp only;omega,by simp only;omega,rfl,_,_,rfl,akB,aiu (x:=1) (by decide)⟩)) (by omega)⟩⟩
 cases hy
theorem ad9 {n:Nat} {x:ST} (h:okS n x):∀ y∈[x],okS n y:=fun y hy=>by rw [List.mem_singleton.1 hy];exact h
theorem adZ {b:List Int} (hb:Bt b) {n:Nat} {p:Int} (h:0<=p/\p+15<=1000000):An (fun k=>(ab0 k b p 3).bind fun t=>(adf k b t.2 (wrap64 (1+t.1))).bind fun e=>some ([(⟨7,0,0,⟨e.1,e.2.1,e.2.2.1⟩,[],[]⟩:ST)],e.2.2.2)) (fun v=>v.1.length<=2/\(∀ y∈v.1,okS n y)/\p<=v.2/\v.2<=p+15):=by
 refine An.bind (aav hb 3 (by omega)) fun v h1=>An.bind (adq hb (by omega) (by omega)) fun e h2=>aaf ?_
 exact⟨by simp,ad9 (ada ⟨rfl,rfl,Or.inr (Or.inr (Or.inr (Or.inr ⟨rfl,rfl,rfl,h2.1⟩)))⟩),by simp only;omega⟩
theorem aop {b:List Int} (hb:Bt b):∀ n,n<=1000->agL b n:=by
 intro n hn
 induction n with
 | zero=>?_
 | succ n ih=>?_
 all_goals
  intro x hx l p h
  refine aaM ?_
  simp only [ajY]
  simp only [cS] at h ⊢
 ·refine An.bind (aav hb 10 (by omega)) fun v h1=>?_
  have j2:∀ c,An (fun k=>adE k x v.1 c b v.2) (fun u=>u.1.length<=2/\(∀ y∈u.1,okS 0 y)/\p<=u.2/\u.2<=p+19):=by
   intro c
   refine aaM ?_
   simp only [adE]
   refine aaL (fun c=>An.bind (agz hb hx (by omega)) fun t h2=>aaf ⟨by simp,ad9 (ada h2.1),by simp only;omega⟩) (fun c=>aaL (fun c=>aaf ⟨by simp,ad9 (ada ⟨rfl,rfl,Or.inr (Or.inr (Or.inr (Or.inl ⟨rfl,rfl,rfl,rfl⟩)))⟩),by simp only;omega⟩) (fun c=>?_))
   exact (adZ hb (n:=0) (by omega)).mono fun u h=>⟨h.1,h.2.1,by omega⟩
  have j1:An (fun k=>ael k x ((0:Nat):Int) false b v.2) (fun u=>u.1.length<=2/\(∀ y∈u.1,okS 0 y)/\p<=u.2/\u.2<=p+19):=by
   refine aaM ?_
   simp only [ael]
   exact ab1 ((adZ hb (n:=0) (by omega)).mono fun u h=>⟨h.1,h.2.1,by omega⟩)
  have j0:∀ c,An (fun k=>adk k x ((0:Nat):Int) l v.1 c b v.2) (fun u=>u.1.length<=2/\(∀ y∈u.1,okS 0 y)/\p<=u.2/\u.2<=p+19):=by
   intro c
   refine aaM ?_
   simp only [adk]
   refine aaL (fun c=>An.bind (afE hb (by omega)) fun t h2=>aaf ⟨by simp,ad9 (ada h2.1),by simp only;omega⟩) (fun c=>aaL (fun c=>ab1 ((adZ hb (n:=0) (by omega)).mono fun u h=>⟨h.1,h.2.1,by omega⟩)) (fun c=>aaL (fun c=>ab1 j1) (fun c=>aaL (fun c=>j2 _) (fun c=>aaL (fun c=>j2 _) (fun c=>j2 _)))))
  exact aaL (fun c=>j0 _) (fun c=>j0 _)
 have ih:=ih (by omega)
 have c2:=agH n
 refine An.bind (aav hb 10 (by omega)) fun v h1=>?_
 have j2:∀ c,An (fun k=>adE k x v.1 c b v.2) (fun u=>u.1.length<=2/\(∀ y∈u.1,okS (n+1) y)/\p<=u.2/\u.2<=p+(18+4*cS n)):=by
  intro c
  refine aaM ?_
  simp only [adE]
  refine aaL (fun c=>An.bind (agz hb hx (by omega)) fun t h2=>aaf ⟨by simp,ad9 (ada h2.1),by simp only;omega⟩) (fun c=>aaL (fun c=>aaf ⟨by simp,ad9 (ada ⟨rfl,rfl,Or.inr (Or.inr (Or.inr (Or.inl ⟨rfl,rfl,rfl,rfl⟩)))⟩),by simp only;omega⟩) (fun c=>?_))
  exact (adZ hb (n:=n+1) (by omega)).mono fun u h=>⟨h.1,h.2.1,by omega⟩
 have j1:∀ c,An (fun k=>ael k x ((n+1:Nat):Int) c b v.2) (fun u=>u.1.length<=2/\(∀ y∈u.1,okS (n+1) y)/\p<=u.2/\u.2<=p+(18+4*cS n)):=by
  intro c
  refine aaM ?_
  simp only [ael]
  refine aaL (fun c=>An.bind (aoF hb (by omega) ih hx _ (by omega)) fun u h=>aaf ⟨h.1,h.2.1,by simp only;omega⟩) (fun c=>?_)
  exact (adZ hb (n:=n+1) (by omega)).mono fun u h=>⟨h.1,h.2.1,by omega⟩
 have j0:∀ c,An (fun k=>adk k x ((n+1:Nat):Int) l v.1 c b v.2) (fun u=>u.1.length<=2/\(∀ y∈u.1,okS (n+1) y)/\p<=u.2/\u.2<=p+(18+4*cS n)):=by
  intro c
  refine aaM ?_
  simp only [adk]
  refine aaL (fun c=>An.bind (afE hb (by omega)) fun t h2=>aaf ⟨by simp,ad9 (ada h2.1),by simp only;omega⟩) (fun c=>aaL (fun c=>aaE (An.bind (aqI hb (by omega) ih hx l _ (by omega)) fun t h2=>aaf ⟨by simp,ad9 h2.1,by simp only;omega⟩)) (fun c=>aaL (fun c=>aaE (j1 _)) (fun c=>aaL (fun c=>j2 _) (fun c=>aaL (fun c=>j2 _) (fun c=>j2 _)))))
 exact aaL (fun c=>j0 _) (fun c=>j0 _)
set_option maxRecDepth 100000
theorem aov (l:List ST) (i:Nat):aal l (i:Int)=l.getD i z92:=by simp [aal]
theorem akm {l:List ST} {i:Nat} (h:i < l.length):l.getD i z92∈l:=by
 rw [show l.getD i z92=l[i] by simp [h]]
 exact List.getElem_mem _
def cW:Nat->Int
 | 0=>1
 | n+1=>1+10*cW n
theorem anN:∀ n,1<=cW n
 | 0=>by simp [cW]
 | n+1=>by have:=anN n;simp only [cW];omega
theorem aqN {n:Nat} (h:n<=3):cW n<=1111:=by
 match n,h with
 | 0,_=>decide
 | 1,_=>decide
 | 2,_=>decide
 | 3,_=>decide
theorem ahP {l:List ST} (hl:l.length<=12) {B:Int} (hB:0<=B/\B<=6000) (hc:∀ x∈l,An (fun k=>SaH.f k x.f4) (fun c=>0<=c/\c<=B)/\An (fun k=>SaH.f k x.f5) (fun c=>0<=c/\c<=B)) :
  ∀ (d i:Nat),i+d=l.length->∀ t:Int,0<=t->t<=(i:Int)*12001->An (fun k=>aez k l t (i:Int)) (fun c=>t<=c/\c<=t+(d:Int)*(1+2*B))
 | 0,i,hi,t,h0,h1=>by
  refine aaM ?_
  simp only [aez]
  exact ab1 (aaf ⟨by omega,by omega⟩)
 | d+1,i,hi,t,h0,h1=>by
  have e:((d+1:Nat):Int)*(1+2*B)=(d:Int)*(1+2*B)+(1+2*B):=by rw [show ((d+1:Nat):Int)=(d:Int)+1 from rfl,Int.add_mul,Int.one_mul]
  rw [e]
  obtain⟨h4,h5⟩:=hc _ (akm (show i < l.length by omega))
  refine aaM ?_
  simp only [aez,aov,aao (show i < 9223372036854775807 by omega)]
  refine aaE (aaE (An.bind h4 fun c k4=>An.bind h5 fun c' k5=>?_))
  have e1:wrap64 (wrap64 (wrap64 (t+1)+c)+c')=t+1+c+c':=by unfold wrap64;omega
  rw [e1]
  exact (ahP hl hB hc d (i+1) (by omega) (t+1+c+c') (by omega) (by omega)).mono fun u h=>⟨by omega,by omega⟩
theorem afO {l:List ST} (hl:l.length<=12) {B:Int} (hB:0<=B/\B<=6000) (hc:∀ x∈l,An (fun k=>SaH.f k x.f4) (fun c=>0<=c/\c<=B)/\An (fun k=>SaH.f k x.f5) (fun c=>0<=c/\c<=B)):An (fun k=>SaH.f k l) (fun c=>0<=c/\c<=(l.length:Int)*(1+2*B)):=by
 refine aaM ?_
 simp only [SaH.f]
 exact (ahP hl hB hc l.length 0 (Nat.zero_add _) 0 (by omega) (by omega)).mono fun u h=>⟨h.1,by omega⟩
theorem ae8 {B:Int} (h:0<=B):An (fun k=>SaH.f k []) (fun c=>0<=c/\c<=B) :=
 (afO (l:=[]) (by simp) (B:=0) (by omega) (by simp)).mono fun u h'=>⟨h'.1,by simp at h';omega⟩
theorem ahk:∀ n,n<=3->∀ l:List ST,(∀ x∈l,okS n x)->l.length<=12->An (fun k=>SaH.f k l) (fun c=>0<=c/\c<=(l.length:Int)*cW n)
 | 0,_,l,h,hl=>by
  refine (afO hl (B:=0) (by omega) fun x hx=>?_).mono fun u h'=>⟨h'.1,by simp only [cW];omega⟩
  obtain⟨e4,e5,_⟩:anC x:=h x hx
  rw [e4,e5]
  exact⟨ae8 (by omega),ae8 (by omega)⟩
 | n+1,hn,l,h,hl=>by
  have w0:=anN n
  have w1:=aqN (n:=n) (by omega)
  refine (afO hl (B:=5*cW n) (by omega) fun x hx=>?_).mono fun u h'=>⟨h'.1,by rw [show cW (n+1)=1+2*(5*cW n) by simp only [cW];omega];exact h'.2⟩
  rcases h x hx with ⟨e4,e5,_⟩ | ⟨_,_,_,_,l4,l5,h4,h5⟩
  ·rw [e4,e5]
   exact⟨ae8 (by omega),ae8 (by omega)⟩
  have m4:(x.f4.length:Int)*cW n<=5*cW n:=Int.mul_le_mul_of_nonneg_right (by omega) (by omega)
  have m5:(x.f5.length:Int)*cW n<=5*cW n:=Int.mul_le_mul_of_nonneg_right (by omega) (by omega)
  exact⟨(ahk n (by omega) x.f4 h4 (by omega)).mono fun u k=>⟨k.1,by omega⟩,(ahk n (by omega) x.f5 h5 (by omega)).mono fun u k=>⟨k.1,by omega⟩⟩
/-- What aa answers. -/
def okL (l:List ST):Prop:=l.length<=12/\(∀ x∈l,okS 3 x)/\∃ c:Int,c<=16/\Ev (fun k=>SaH.f k l) c
theorem api {b:List Int} (p:Int):∀ (d:Nat) (o:List ST),o.length=d->d<=12->(∀ x∈o,okS 3 x)->An (fun k=>aeY k o b p) (fun v=>okL v.1/\v.2=p):=by
 intro d
 induction d with
 | zero=>?_
 | succ d ih=>?_
 all_goals
  intro o ho hd h
  obtain⟨c,e,c0,c1⟩:=ahk 3 (by omega) o h (by omega)
  refine aaM ?_
  simp only [aeY]
  refine An.bind (amK (P:=fun u=>u=c) e rfl) fun u hu=>?_
  subst hu
  refine aaL (fun g=>?_) (fun g=>aaf ⟨⟨by show o.length<=12;omega,h,u,by omega,e⟩,rfl⟩)
 ·rw [ho] at c1
  simp at c1
  omega
 have e1:wrap64 ((o.length:Int) - 1)=(d:Int):=by rw [ho,aaR (by omega) (by omega)];omega
 rw [e1]
 refine aaE (aaE ?_)
 rw [Int.toNat_natCast]
 exact ih (o.take d) (by rw [List.length_take];omega) (by omega) fun x hx=>h x (List.mem_of_mem_take hx)
theorem aiz {b:List Int} (hb:Bt b) {x p:Int} (hx:x<=3) (h:0<=p/\p+9600<=1000000):An (fun k=>alO k b p x) (fun v=>okL v.1/\p<=v.2/\v.2<=p+9600):=by
 have e3:cS 3=1594:=by decide
 simp only [alO]
 refine An.bind (aav hb 6 (by omega)) fun v h1=>?_
 have e1:wrap64 (1+v.1)=1+v.1:=aaR (by omega) (by omega)
 have e2:(1+v.1)*cS 3<=6*cS 3:=Int.mul_le_mul_of_nonneg_right (by omega) (by omega)
 rw [e1]
 refine An.bind (ajq (n:=3) (aop hb 3 (by omega)) hx true (m:=1+v.1) (by omega) v.2 (by omega)) fun c h2=>?_
 exact (api c.2 c.1.length c.1 rfl (by omega) h2.2.1).mono fun u h3=>⟨h3.1,by omega,by omega⟩
theorem aiA:∀ (d:Nat) (e:SE),okE d e->∀ a:Int,d<=a->a<=5->Ev (fun k=>ahs k e.f0 e.f1 e.f2 a) true
 | 0,_,h,_,_,_=>h.elim
 | d+1,⟨f0,f1,f2⟩,h,a,ha,ha'=>by
  refine Ev.succ ?_
  simp only [ahs,ahr,aiP]
  refine aa5 ?_
  rcases h with ⟨q0,q1,q2,q3⟩ | ⟨q0,q1,q2,q3⟩ | ⟨q0,q1,q2,x,y,q3,q4,q5⟩
  ·simp only at q0 q1 q2 q3
   subst q0;subst q3
   exact aa2 (aaG (aa2 (Ev.pure.eq rfl) (by simp;omega)))
  ·simp only at q0 q1 q2 q3
   subst q0;subst q3
   exact aa5 (aa2 (aaG (aa2 (Ev.pure.eq rfl) (by simp;omega))))
  simp only at q0 q1 q2 q3
  subst q2;subst q3
  have ew:wrap64 (a - 1)=a - 1:=aaR (by omega) (by omega)
  have i1:=aiA d x q4 (a - 1) (by omega) (by omega)
  have i2:=aiA d y q5 (a - 1) (by omega) (by omega)
  rw [ew]
  refine aa5 (aa5 (aaG (aa2 (aa2 (aa2 (aa2 (Ev.bind i1 (aa2 (aa2 (Ev.bind i2 Ev.pure) (by simp)) rfl)) (by simp)) (by simp)) rfl) (by simp;omega))))
theorem afk {d:Nat} {e:SE} (h:okE d e) (hd:d<=5):Ev (fun k=>aiQ k e.f0 e.f1 e.f2) true:=by
 simp only [aiQ]
 exact Ev.bind (aiA d e h 5 (by omega) (by omega)) Ev.pure
theorem ahA {x:ST} (h:anC x) (k0:Int):Ev (fun k=>agr k x.f0 x.f1 x.f2 x.f3.f0 x.f3.f1 x.f3.f2 x.f4 x.f5 k0) true:=by
 obtain⟨f0,f1,f2,f3,f4,f5⟩:=x
 obtain⟨e4,e5,h⟩:=h
 simp only at e4 e5 h
 subst e4;subst e5
 have h2:f0≠2:=by omega
 have h3:f0≠3:=by omega
 refine Ev.succ ?_
 simp only [agr]
 refine aa5 (Ev.succ ?_)
 simp only [adJ]
 refine aa2 (Ev.bind ?_ Ev.pure) (by simp [h3])
 simp only [anv]
 refine aa5 (Ev.succ ?_)
 simp only [agW,agq,ags,ahr,amC]
 refine aa5 ?_
 rcases h with ⟨rfl,q1,q2,q3,q4⟩ | ⟨rfl,q1,q2,q3,q4⟩ | ⟨rfl,q1,q2,q3,q4,q5⟩ | ⟨rfl,q1,q2,q3⟩ | ⟨rfl,q1,q2,q3⟩
 ·refine aa2 (Ev.bind (a:=true) (aa2 (aaG (Ev.pure.eq (by simp;omega)))) (aa2 (Ev.bind (a:=true) (aa5 (Ev.pure.eq (by simp;omega))) (aa2 (Ev.bind (afk q4 (by omega)) Ev.pure) rfl)) rfl))
 ·refine aa5 (aa2 (Ev.bind (a:=true) (aa5 (Ev.pure.eq (by simp;omega))) (aa2 (Ev.bind (a:=true) (aa2 (aaG (Ev.pure.eq (by simp;omega)))) (aa2 (Ev.bind (afk q4 (by omega)) Ev.pure) rfl)) rfl)))
 ·subst q5
  exact aa5 (aa5 (aa2 (Ev.bind (a:=true) (aa2 (aaG (Ev.pure.eq (by simp;omega)))) (aa2 (Ev.bind (a:=true) (aa2 (aaG (Ev.pure.eq (by simp;omega)))) (aa2 (Ev.bind (a:=true) (aa2 (aa2 (Ev.pure.eq rfl) rfl) rfl) Ev.pure) rfl)) rfl))))
 ·subst q3
  exact aa5 (aa5 (aa5 (aa2 (Ev.bind (a:=true) (aa5 (Ev.pure.eq (by simp;omega))) (aa2 (Ev.bind (a:=true) (aa5 (Ev.pure.eq (by simp;omega))) (aa2 (Ev.bind (a:=true) (aa2 (aa2 (Ev.pure.eq rfl) rfl) rfl) Ev.pure) rfl)) rfl)))))
 exact aa5 (aa5 (aa5 (aa5 (aa2 (Ev.bind (a:=true) (aa5 (Ev.pure.eq (by simp;omega))) (aa2 (Ev.bind (a:=true) (aa5 (Ev.pure.eq (by simp;omega))) (aa2 (Ev.bind (afk q3 (by omega)) Ev.pure) rfl)) rfl))))))
theorem agI {l:List ST} (hl:l.length<=12) {a:Int} (hx:∀ x∈l,Ev (fun k=>agr k x.f0 x.f1 x.f2 x.f3.f0 x.f3.f1 x.f3.f2 x.f4 x.f5 a) true):∀ (d i:Nat),i+d=l.length->Ev (fun k=>aeA k l a (i:Int)) true
 | 0,i,hi=>by
  refine Ev.succ ?_
  simp only [aeA]
  exact aa5 Ev.pure
 | d+1,i,hi=>by
  refine Ev.succ ?_
  simp only [aeA,aov,aao (show i < 9223372036854775807 by omega)]
  exact aa2 (aa2 (Ev.bind (hx _ (akm (by omega))) (aa2 (agI hl hx d (i+1) (by omega)) rfl)))
theorem aeM {l:List ST} (hl:l.length<=12) {a:Int} (hx:∀ x∈l,Ev (fun k=>agr k x.f0 x.f1 x.f2 x.f3.f0 x.f3.f1 x.f3.f2 x.f4 x.f5 a) true):Ev (fun k=>SaF.f k l a) true:=by
 refine Ev.succ ?_
 simp only [SaF.f]
 exact agI hl hx l.length 0 (Nat.zero_add _)
theorem aoB:∀ (n:Nat),n<=3->∀ x:ST,okS n x->Ev (fun k=>agr k x.f0 x.f1 x.f2 x.f3.f0 x.f3.f1 x.f3.f2 x.f4 x.f5 (n:Int)) true
 | 0,_,x,h=>ahA h _
 | n+1,hn,x,h=>by
  rcases h with h | ⟨q0,q1,q2,q3,l4,l5,h4,h5⟩
  ·exact ahA h _
  have b4:=aeM (l:=x.f4) (by omega) fun y hy=>aoB n (by omega) y (h4 y hy)
  have b5:=aeM (l:=x.f5) (by omega) fun y hy=>aoB n (by omega) y (h5 y hy)
  have e:wrap64 (((n+1:Nat):Int) - 1)=(n:Int):=by rw [aaR (by omega) (by omega)];omega
  have j1:Ev (fun k=>af9 k ((n+1:Nat):Int) false x.f0 x.f1 x.f2 x.f3.f0 x.f3.f1 x.f3.f2 x.f4 x.f5) true:=by
   refine Ev.succ ?_
   simp only [af9,agq,ags,ahr,q1,q2,e]
   exact aa5 (Ev.bind (a:=true) (aa5 (Ev.pure.eq rfl)) (aa2 (Ev.bind (a:=true) (aa5 (Ev.pure.eq rfl)) (aa2 (Ev.bind (afk q3 (by omega)) (aa2 (Ev.bind b4 (aa2 (Ev.bind b5 Ev.pure) rfl)) rfl)) rfl)) rfl))
  refine Ev.succ ?_
  simp only [agr]
  rcases q0 with q0 | ⟨q0,q5⟩
  ·refine aa2 (Ev.succ ?_) q0
   simp only [adJ]
   exact aa5 (aa5 (aa5 j1))
  refine aa5 (Ev.succ ?_)
  simp only [adJ]
  refine aa5 (aa5 (aa2 ?_ q0)) (by simp [q0])
  rw [q5] at j1 ⊢
  exact j1
theorem ah5 {l:List ST} (h:okL l):Ev (fun k=>amE k l) true:=by
 obtain⟨h1,h2,c,h3,h4⟩:=h
 simp only [amE]
 exact Ev.bind (aeM h1 fun x hx=>aoB 3 (by omega) x (h2 x hx)) (aa2 (Ev.bind h4 (Ev.pure.eq (by simpa using h3))) rfl)
/-- Valid quads whose targets are t at most. -/
def upQ (t:Int) (c:List SQ):Prop:=∀ q∈c,∀ m:Int,t < m->QV (q_ q) m
theorem r4:rg 4:=by decide
theorem upQ.le {t u:Int} {c:List SQ} (h:upQ t c) (hu:t<=u):upQ u c:=fun q hq m hm=>h q hq m (by omega)
theorem upQ.app {t:Int} {c d:List SQ} (h:upQ t c) (h':upQ t d):upQ t (c ++ d):=fun q hq=>(List.mem_append.1 hq).elim (h q) (h' q)
theorem upQ.one {t:Int} {q:SQ} (h:∀ m:Int,t < m->QV (q_ q) m):upQ t [q]:=fun x hx=>by rw [List.mem_singleton.1 hx];exact h
theorem apf (x y:SE):aaN [x,y] 0=x:=rfl
theorem ape (x y:SE):aaN [x,y] 1=y:=rfl
def cX:Nat->Nat
 | 0=>0
 | d+1=>2*cX d+1
theorem aqM {d:Nat} (h:d<=3):cX d<=7:=by
 match d,h with
 | 0,_=>decide
 | 1,_=>decide
 | 2,_=>decide
 | 3,_=>decide
theorem apg {c:List SQ} {i:Nat} (h:i < c.length):qa c i∈c:=by
 unfold qa
 rw [show c.getD i z27=c[i] by simp [h]]
 exact List.getElem_mem _
theorem aeJ:∀ (d:Nat),d<=3->∀ (e:SE),okE d e->∀ a:Int,0<=a->a+d<=12->An (fun k=>adP k e.f0 e.f1 e.f2 a) (fun c=>1<=c.length/\c.length<=cX d/\upQ (-1) c)
 | 0,_,_,h,_,_,_=>h.elim
 | d+1,hd,⟨f0,f1,f2⟩,h,a,ha,ha'=>by
  have c7:=aqM (d:=d) (by omega)
  refine aaM ?_
  simp only [adP]
  rcases h with ⟨q0,q1,q2,q3⟩ | ⟨q0,q1,q2,q3⟩ | ⟨q0,q1,q2,x,y,q3,q4,q5⟩
  ·simp only at q0 q1 q2
   exact aaE (aaf ⟨by simp,by simp [cX],upQ.one fun m hm=>Or.inl ⟨rfl,⟨ha,by simp only [q_];omega⟩,rfl,rfl,by simp only [q_];omega,by simp only [q_];omega⟩⟩)
  ·simp only at q0 q1 q2
   exact ab1 (aaE (aaf ⟨by simp,by simp [cX],upQ.one fun m hm=>Or.inr (Or.inl ⟨rfl,⟨ha,by simp only [q_];omega⟩,⟨q1,by simp only [q_];omega⟩,rfl,rfl⟩)⟩))
  simp only at q0 q1 q2 q3
  subst q3
  have hd0:1<=d:=by
   cases d with
   | zero=>exact q4.elim
   | succ d=>omega
  have ew:wrap64 (a+1)=a+1:=aaR (by omega) (by omega)
  simp only [ew,apf,ape]
  refine ab1 (ab1 (aaE (An.bind (aeJ d (by omega) x q4 a ha (by omega)) fun c h1=>aaE (An.bind (aeJ d (by omega) y q5 (a+1) (by omega) (by omega)) fun c' h2=>aaE (aba (aaE (aaf ?_) ?_))) (by simp)) (by simp)))
  ·refine⟨by simp;omega,by simp [cX];omega,upQ.app (upQ.app h1.2.2 h2.2.2) (upQ.one fun m hm=>Or.inr (Or.inr (Or.inl ⟨rfl,⟨ha,by simp only [q_];omega⟩,⟨ha,by simp only [q_];omega⟩,⟨by simp only [q_];omega,by simp only [q_];omega⟩,q0,q1⟩)))⟩
  simp only [List.length_append]
  omega
theorem adN {e:SE} (h:okE 3 e):An (fun k=>adP k e.f0 e.f1 e.f2 4) (fun c=>1<=c.length/\c.length<=7/\upQ (-1) c):=aeJ 3 (by omega) e h 4 (by omega) (by omega)
theorem ahN:An (fun k=>adP k 0 0 [] 4) (fun c=>1<=c.length/\c.length<=7/\upQ (-1) c):=adN (e:=⟨0,0,[]⟩) (Or.inl ⟨rfl,by simp,by simp,rfl⟩)
def cZ:Nat->Nat
 | 0=>8
 | n+1=>9+10*cZ n
theorem aqL {n:Nat} (h:n<=3):cZ n<=8999/\8<=cZ n:=by
 match n,h with
 | 0,_=>decide
 | 1,_=>decide
 | 2,_=>decide
 | 3,_=>decide
/-- The code of a statement that begins at a. -/
def ajA (Z:Nat) (A:Int) (x:ST):Prop:=∀ a:Int,0<=a->a<=A->An (fun k=>aiT k x.f0 x.f1 x.f2 x.f3.f0 x.f3.f1 x.f3.f2 x.f4 x.f5 a) (fun c=>c.length<=Z/\upQ (a+c.length) c)
theorem aje {l:List ST} (hl:l.length<=12) {Z:Nat} (hZ:Z<=9000) {A:Int} (hA:A<=1000000) (hx:∀ x∈l,ajA Z A x) {a:Int} (ha:0<=a) (ha':a+108000<=A):∀ (d i:Nat),i+d=l.length->∀ o:List SQ,o.length<=i*Z->upQ (a+o.length) o->An (fun k=>aex k l a o (i:Int)) (fun c=>c.length<=l.length*Z/\upQ (a+c.length) c)
 | 0,i,hi,o,ho,hu=>by
  refine aaM ?_
  simp only [aex]
  exact ab1 (aaf ⟨by rw [show l.length=i by omega];exact ho,hu⟩)
 | d+1,i,hi,o,ho,hu=>by
  have m1:i*Z<=12*9000:=Nat.mul_le_mul (by omega) hZ
  refine aaM ?_
  simp only [aex,aov,aao (show i < 9223372036854775807 by omega)]
  have ew:wrap64 (a+(o.length:Int))=a+o.length:=aaR (by omega) (by omega)
  rw [ew]
  refine aaE (aaE (An.bind (hx _ (akm (by omega)) (a+o.length) (by omega) (by omega)) fun c h1=>aaE (aje hl hZ hA hx ha ha' d (i+1) (by omega) (o ++ c) ?_ ?_)))
  ·rw [List.length_append,Nat.add_mul,Nat.one_mul]
   omega
  rw [List.length_append]
  exact upQ.app (hu.le (by omega)) (h1.2.le (by omega))
theorem aix {l:List ST} (hl:l.length<=12) {Z:Nat} (hZ:Z<=9000) {A:Int} (hA:A<=1000000) (hx:∀ x∈l,ajA Z A x) {a:Int} (ha:0<=a) (ha':a+108000<=A):An (fun k=>SaQ.f k l a) (fun c=>c.length<=l.length*Z/\upQ (a+c.length) c):=by
 refine aaM ?_
 simp only [SaQ.f]
 exact aje hl hZ hA hx ha ha' l.length 0 (Nat.zero_add _) [] (by simp) (fun q hq=>by cases hq)
theorem ajp {x:ST} (h:anC x) (A:Int):ajA 8 A x:=by
 intro a ha ha'
 obtain⟨f0,f1,f2,f3,f4,f5⟩:=x
 obtain⟨_,_,h⟩:=h
 simp only at h ⊢
 refine aaM ?_
 simp only [aiT]
 rcases h with ⟨rfl,q1,q2,q3,q4⟩ | ⟨rfl,q1,q2,q3,q4⟩ | ⟨rfl,q1,q2,q3,q4,rfl⟩ | ⟨rfl,q1,q2,rfl⟩ | ⟨rfl,q1,q2,q3⟩
 ·refine An.bind (adN q4) fun c h1=>ab1 (ab1 (aaE (aaE (aaf ⟨by simp;omega,upQ.app (h1.2.2.le (by omega)) (upQ.one fun m hm=>Or.inr (Or.inl ⟨rfl,⟨q1,by simp only [q_];omega⟩,r4,rfl,rfl⟩))⟩))))
 ·refine An.bind (adN q4) fun c h1=>ab1 (ab1 (ab1 (aaE (aaE (aaf ⟨by simp;omega,upQ.app (h1.2.2.le (by omega)) (upQ.one fun m hm=>Or.inr (Or.inr (Or.inr (Or.inr (Or.inr (Or.inl ⟨rfl,rfl,r4,rfl,q2,q3⟩))))))⟩)))))
 ·refine An.bind ahN fun c h1=>ab1 (ab1 (ab1 (ab1 (ab1 (aaE (aaf ⟨by simp,upQ.one fun m hm=>Or.inr (Or.inr (Or.inr (Or.inr (Or.inr (Or.inr (Or.inl ⟨rfl,⟨q1,by simp only [q_];omega⟩,rfl,rfl,q3,q4⟩))))))⟩))))))
 ·refine An.bind ahN fun c h1=>ab1 (ab1 (ab1 (ab1 (ab1 (ab1 (aaf ⟨by simp,upQ.one fun m hm=>Or.inr (Or.inr (Or.inr (Or.inr (Or.inr (Or.inr (Or.inr (Or.inr ⟨Or.inl rfl,rfl,rfl,rfl,rfl⟩)))))))⟩))))))
 refine An.bind (adN q3) fun c h1=>ab1 (ab1 (ab1 (ab1 (aaE (aaE (aaf ⟨by simp;omega,upQ.app (h1.2.2.le (by omega)) (upQ.one fun m hm=>Or.inr (Or.inr (Or.inr (Or.inr (Or.inr (Or.inr (Or.inr (Or.inl ⟨rfl,rfl,r4,rfl,rfl⟩))))))))⟩))))))
theorem akt {n m:Int} (h:0<=n) (h':n < m):QV (q_ ⟨4,0,0,0,n⟩) m:=Or.inr (Or.inr (Or.inr (Or.inl ⟨rfl,rfl,rfl,rfl,h,h'⟩)))
theorem air {n m:Int} (h:0<=n) (h':n < m):QV (q_ ⟨5,0,4,0,n⟩) m:=Or.inr (Or.inr (Or.inr (Or.inr (Or.inl ⟨rfl,rfl,r4,rfl,h,h'⟩))))
theorem aiK:∀ n,n<=3->∀ x:ST,okS n x->ajA (cZ n) (1000000 - 200000*n) x
 | 0,_,x,h=>ajp h _
 | n+1,hn,x,h=>by
  obtain⟨z1,z0⟩:=aqL (n:=n) (by omega)
  rcases h with h | ⟨q0,q1,q2,q3,l4,l5,h4,h5⟩
  ·intro a ha ha'
   exact (ajp h _ a ha ha').mono fun c hc=>⟨by simp only [cZ];omega,hc.2⟩
  intro a ha ha'
  have m4:x.f4.length*cZ n<=5*cZ n:=Nat.mul_le_mul_right _ l4
  have m5:x.f5.length*cZ n<=5*cZ n:=Nat.mul_le_mul_right _ l5
  have c4:∀ u:Int,0<=u->u<=a+10->An (fun k=>SaQ.f k x.f4 u) (fun c=>c.length<=x.f4.length*cZ n/\upQ (u+c.length) c):=fun u hu hu'=>aix (by omega) (by omega) (A:=1000000 - 200000*n) (by omega) (fun y hy=>aiK n (by omega) y (h4 y hy)) hu (by omega)
  have c5:∀ u:Int,0<=u->u<=a+50000->An (fun k=>SaQ.f k x.f5 u) (fun c=>c.length<=x.f5.length*cZ n/\upQ (u+c.length) c):=fun u hu hu'=>aix (by omega) (by omega) (A:=1000000 - 200000*n) (by omega) (fun y hy=>aiK n (by omega) y (h5 y hy)) hu (by omega)
  refine aaM ?_
  simp only [aiT]
  refine An.bind (adN q3) fun _ _=>?_
  rcases q0 with q0 | ⟨q0,q5⟩
  ·refine aaE (An.bind (aaM ?_) fun c hc=>aaf hc) q0
   simp only [ak5]
   refine An.bind (adN q3) fun e h1=>?_
   have w1:wrap64 (wrap64 (a+(e.length:Int))+1)=a+e.length+1:=by unfold wrap64;omega
   simp only [w1]
   refine An.bind (c4 _ (by omega) (by omega)) fun b h2=>?_
   have w2:wrap64 (a+(e.length:Int)+1+(b.length:Int))=a+e.length+1+b.length:=by unfold wrap64;omega
   have w3:wrap64 (a+(e.length:Int)+1+(b.length:Int)+1)=a+e.length+1+b.length+1:=by unfold wrap64;omega
   simp only [w2,w3]
   refine aaL (fun z=>?_) (fun z=>?_)
   ·refine aaE (aba (aaE (aaf ⟨?_,?_⟩) ?_))
    ·simp only [List.length_append,List.length_cons,List.length_nil,cZ]
     omega
    ·simp only [List.length_append,List.length_cons,List.length_nil]
     exact upQ.app (upQ.app (h1.2.2.le (by omega)) (upQ.one fun m hm=>air (by omega) (by omega))) (h2.2.le (by omega))
    simp only [List.length_append,List.length_cons,List.length_nil]
    omega
   refine An.bind (c5 _ (by omega) (by omega)) fun d h3=>?_
   have w4:wrap64 (a+(e.length:Int)+1+(b.length:Int)+1+(d.length:Int))=a+e.length+1+b.length+1+d.length:=by unfold wrap64;omega
   simp only [w4]
   refine aaE (aba (aaE (aba (aaE (aba (aaE (aaf ⟨?_,?_⟩) ?_)) ?_)) ?_))
   ·simp only [List.length_append,List.length_cons,List.length_nil,cZ]
    omega
   ·simp only [List.length_append,List.length_cons,List.length_nil]
    exact upQ.app (upQ.app (upQ.app (upQ.app (h1.2.2.le (by omega)) (upQ.one fun m hm=>air (by omega) (by omega))) (h2.2.le (by omega))) (upQ.one fun m hm=>akt (by omega) (by omega))) (h3.2.le (by omega))
   all_goals
    simp only [List.length_append,List.length_cons,List.length_nil]
    omega
  refine ab1 (aaE (An.bind (aaM ?_) fun c hc=>aaf hc) q0)
  simp only [ak4]
  refine An.bind (adN q3) fun e h1=>?_
  have w1:wrap64 (wrap64 (a+(e.length:Int))+1)=a+e.length+1:=by unfold wrap64;omega
  simp only [w1]
  refine An.bind (c4 _ (by omega) (by omega)) fun b h2=>?_
  have w2:wrap64 (wrap64 (a+(e.length:Int)+1+(b.length:Int))+1)=a+e.length+1+b.length+1:=by unfold wrap64;omega
  simp only [w2]
  refine aaE (aba (aaE (aba (aaE (aaf ⟨?_,?_⟩) ?_)) ?_))
  ·simp only [List.length_append,List.length_cons,List.length_nil,cZ]
   omega
  ·simp only [List.length_append,List.length_cons,List.length_nil]
   exact upQ.app (upQ.app (upQ.app (h1.2.2.le (by omega)) (upQ.one fun m hm=>air (by omega) (by omega))) (h2.2.le (by omega))) (upQ.one fun m hm=>akt (by omega) (by omega))
  all_goals
   simp only [List.length_append,List.length_cons,List.length_nil]
   omega
theorem agn {l:List ST} (h:okL l):An (fun k=>aml k l) (fun v=>v.1.length<=600->CV (qs v.1)):=by
 have m1:l.length*cZ 3<=12*9000:=Nat.mul_le_mul h.1 (by decide)
 simp only [aml]
 refine An.bind (amK (P:=fun u=>u=true) (ah5 h) rfl) fun u hu=>aaE (An.bind (aix (Z:=cZ 3) (A:=1000000 - 200000*(3:Nat)) (by have:=h.1;omega) (by decide) (by decide) (fun y hy=>aiK 3 (by omega) y (h.2.1 y hy)) (a:=0) (by omega) (by decide)) fun c h1=>aaE (aaf ?_)) hu
 intro h6
 refine⟨by simp [qs],by simpa [qs] using h6,?_,?_⟩
 ·rw [aaY]
  intro i hi
  rw [abS]
  have hm:qa (c ++ [(⟨10,0,0,0,0⟩:SQ)]) i∈c ++ [(⟨10,0,0,0,0⟩:SQ)]:=apg hi
  rcases List.mem_append.1 hm with q|q
  ·exact h1.2 _ q _ (by simp;omega)
  rw [List.mem_singleton.1 q]
  exact Or.inr (Or.inr (Or.inr (Or.inr (Or.inr (Or.inr (Or.inr (Or.inr ⟨Or.inr rfl,rfl,rfl,rfl,rfl⟩)))))))
 refine Or.inl ?_
 rw [aaY,abS]
 simp [qa,q_]
/-- One pass of the five answers v for c. -/
def Step:Nat->List SQ->List SQ->Prop
 | 0,c,v=>Ev (fun k=>Sas.f k c) (v,true)
 | 1,c,v=>Ev (fun k=>San.f k c) (v,true)
 | 2,c,v=>Ev (fun k=>Sat.f k c) (v,true)
 | 3,c,v=>Ev (fun k=>Sao.f k c) (v,true)
 | _,c,v=>Ev (fun k=>SaB.f k c) (v,true)
theorem step0 {c:List SQ} (h:CV (qs c)):∃ v,CV (qs v)/\Step 0 c v:=by
 obtain⟨U,hU,e⟩:=aqc h
 exact⟨_,aiD h hU.1.1,e⟩
theorem step1 {c:List SQ} (h:CV (qs c)):∃ v,CV (qs v)/\Step 1 c v:=by
 obtain⟨U,hU,e⟩:=aqf h
 exact⟨_,aiJ h hU.1.1,e⟩
theorem step2 {c:List SQ} (h:CV (qs c)):∃ v,CV (qs v)/\Step 2 c v:=⟨_,aiB h,aqb h⟩
theorem aqC {c:List SQ} (h:CV (qs c)):∃ v,CV (qs v)/\Step 3 c v:=by
 obtain⟨v,_,hv,e,_⟩:=aoR h
 exact⟨v,hv,e⟩
theorem aqB {c:List SQ} (h:CV (qs c)):∃ v,CV (qs v)/\Step 4 c v:=by
 obtain⟨U,hU,e⟩:=aof h
 exact⟨_,akn h hU,e⟩
/-- The first j passes lead from c to y. -/
def aqW:Nat->List SQ->List SQ->Prop
 | 0,c,y=>y=c
 | j+1,c,y=>∃ x,aqW j c x/\Step j x y
theorem akL {c y:List SQ} (h:aqW 5 c y):Ev (fun k=>aiN k c) y:=by
 obtain⟨x4,⟨x3,⟨x2,⟨x1,⟨x0,rfl,s0⟩,s1⟩,s2⟩,s3⟩,s4⟩:=h
 simp only [aiN]
 exact Ev.bind s0 (Ev.bind s1 (Ev.bind s2 (Ev.bind s3 (Ev.bind s4 Ev.pure))))
theorem apD {c:List SQ} (h:CV (qs c)):∃ v,CV (qs v)/\Ev (fun k=>aiN k c) v:=by
 obtain⟨x1,h1,s1⟩:=step0 h
 obtain⟨x2,h2,s2⟩:=step1 h1
 obtain⟨x3,h3,s3⟩:=step2 h2
 obtain⟨x4,h4,s4⟩:=aqC h3
 obtain⟨x5,h5,s5⟩:=aqB h4
 exact⟨x5,h5,akL ⟨_,⟨_,⟨_,⟨_,⟨_,rfl,s1⟩,s2⟩,s3⟩,s4⟩,s5⟩⟩
theorem ann (t:Int) (x:List SQ):Ev (fun k=>acU k t x t) (x,true):=by
 refine Ev.succ ?_
 simp only [acU]
 exact aa5 Ev.pure
theorem anm {t:Int} (ht:t<=4) {r:Nat} (hr:(r:Int) < t) {x y:List SQ} (h:Ev (fun k=>aiN k x) y) {z:List SQ × Bool} (hz:Ev (fun k=>acU k t y ((r+1:Nat):Int)) z):Ev (fun k=>acU k t x (r:Int)) z:=by
 refine Ev.succ ?_
 simp only [acU,aao (show r < 9223372036854775807 by omega)]
 exact aa2 (Ev.bind h hz)
theorem Sax.out {t:Nat} (ht:t<=4):∀ (d r:Nat),r+d=t->∀ {x:List SQ},CV (qs x)->∃ v,CV (qs v)/\Ev (fun k=>acU k (t:Int) x (r:Int)) (v,true)
 | 0,r,hr,x,h=>⟨x,h,by rw [show r=t from by omega];exact ann _ _⟩
 | d+1,r,hr,x,h=>by
  obtain⟨y,hy,e⟩:=apD h
  obtain⟨v,hv,e2⟩:=Sax.out ht d (r+1) (by omega) hy
  exact⟨v,hv,anm (by omega) (by omega) e e2⟩
/-- A code and how often: what is asked of both. -/
def okT (c:List SQ) (t:Int):Prop:=CV (qs c)/\0<=t/\t<=4
theorem amf {c:List SQ} {t:Int} (h:okT c t) {z:List SQ × Bool} (hz:Ev (fun k=>acU k t c 0) z):Ev (fun k=>Sax.f k c t) z:=by
 have h6:=ab8 h.1
 simp only [Sax.f,ahr]
 refine Ev.bind (acs c) (aa2 (aaG ?_) (decide_eq_true h.1))
 rw [decide_eq_true h.2]
 refine Ev.succ ?_
 simp only [agO]
 refine aa5 (aaG (aa2 hz ?_)) (by simp)
 simp only [List.length_nil]
 omega
theorem aq9 {c:List SQ} {t:Int} (h:okT c t):∃ v,CV (qs v)/\Ev (fun k=>Sax.f k c t) (v,true):=by
 obtain⟨v,hv,e⟩:=Sax.out (t:=t.toNat) (by have:=h.2;omega) t.toNat 0 (Nat.zero_add _) h.1
 rw [Int.toNat_of_nonneg h.2.1] at e
 exact⟨v,hv,amf h e⟩
theorem ajL {b:List Int} (hb:Bt b) {p n:Int} (hn:1<=n) (h:0<=p/\p+8<=1000000):An (fun k=>alH k b p n) (fun v=>p<=v.2.2.2.2.2/\v.2.2.2.2.2<=p+8):=by
 have j2:∀ x c q,p<=q->q<=p+1->An (fun k=>aeX k n x c b q) (fun v=>p<=v.2.2.2.2.2/\v.2.2.2.2.2<=p+8):=by
  intro x c q hq hq'
  refine aaM ?_
  simp only [aeX]
  refine aaL (fun _=>An.bind (abz hb (by omega)) fun v h1=>An.bind (abz hb (by omega)) fun v h2=>An.bind (abz hb (by omega)) fun v h3=>An.bind (ajh hb (by omega)) fun v h4=>aaf (by simp only;omega)) (fun _=>?_)
  refine aaL (fun _=>An.bind (aav hb n (by omega)) fun v h1=>aaf (by simp only;omega)) (fun _=>?_)
  refine aaL (fun _=>An.bind (abz hb (by omega)) fun v h1=>An.bind (aav hb n (by omega)) fun v h2=>aaf (by simp only;omega)) (fun _=>?_)
  refine aaL (fun _=>An.bind (abz hb (by omega)) fun v h1=>An.bind (aav hb 2 (by omega)) fun v h2=>aaf (by simp only;omega)) (fun _=>?_)
  refine aaL (fun _=>An.bind (abz hb (by omega)) fun v h1=>An.bind (aav hb 2 (by omega)) fun v h2=>aaf (by simp only;omega)) (fun _=>?_)
  exact An.bind (aav hb 4 (by omega)) fun v h1=>aaL (fun _=>aaf (by simp only;omega)) (fun _=>An.bind (abz hb (by omega)) fun v h2=>aaf (by simp only;omega))
 have j1:∀ x c q,p<=q->q<=p+1->An (fun k=>afX k n x c b q) (fun v=>p<=v.2.2.2.2.2/\v.2.2.2.2.2<=p+8):=by
  intro x c q hq hq'
  refine aaM ?_
  simp only [afX]
  refine aaL (fun _=>An.bind (abz hb (by omega)) fun v h1=>An.bind (abz hb (by omega)) fun v h2=>aaf (by simp only;omega)) (fun _=>aaL (fun _=>j2 _ _ _ hq hq') (fun _=>aaL (fun _=>j2 _ _ _ hq hq') (fun _=>j2 _ _ _ hq hq')))
 have j0:∀ x c q,p<=q->q<=p+1->An (fun k=>afY k n x c b q) (fun v=>p<=v.2.2.2.2.2/\v.2.2.2.2.2<=p+8):=by
  intro x c q hq hq'
  refine aaM ?_
  simp only [afY]
  refine aaL (fun _=>An.bind (abz hb (by omega)) fun v h1=>An.bind (ajO hb (by omega)) fun v h2=>aba (An.bind (aav hb 4 (by omega)) fun v h3=>aaE (aaE (aaf (by simp only;omega)) (by simp only [List.length_cons,List.length_nil];omega)))) (fun _=>aaL (fun _=>j1 _ _ _ hq hq') (fun _=>j1 _ _ _ hq hq'))
 simp only [alH]
 exact An.bind (aav hb 12 (by omega)) fun v h1=>aaL (fun _=>j0 _ _ _ (by omega) (by omega)) (fun _=>j0 _ _ _ (by omega) (by omega))
theorem agx {b:List Int} (hb:Bt b) {m:Nat} (hm:m<=14):∀ (d i:Nat),i+1+d=m->∀ (o:List SQ) (p:Int),o.length=i->0<=p/\p+8*(d:Int)+2<=1000000->An (fun k=>aeW k (m:Int) o (i:Int) b p) (fun v=>1<=v.1.length/\v.1.length<=14/\p<=v.2/\v.2<=p+8*(d:Int)+2)
 | 0,i,hi,o,p,ho,h=>by
  refine aaM ?_
  simp only [aeW,aao (show i < 9223372036854775807 by omega)]
  refine ab1 (An.bind (aav hb 3 (by omega)) fun v h1=>aaL (fun _=>An.bind (aav hb (m:Int) (by omega)) fun u h2=>aaE (aaf ?_)) (fun _=>aaE (aaf ?_)))
  ·simp only [List.length_append,List.length_cons,List.length_nil];omega
  simp only [List.length_append,List.length_cons,List.length_nil];omega
 | d+1,i,hi,o,p,ho,h=>by
  refine aaM ?_
  simp only [aeW,aao (show i < 9223372036854775807 by omega)]
  refine aaE (An.bind (ajL hb (by omega) (by omega)) fun v h1=>aaE ?_)
  exact (agx hb hm d (i+1) (by omega) _ v.2.2.2.2.2 (by simp [ho]) (by omega)).mono fun u h2=>⟨h2.1,h2.2.1,by omega,by omega⟩
theorem aeS {b:List Int} (hb:Bt b) {p:Int} (h:0<=p/\p+120<=1000000):An (fun k=>ajX k b p) (fun v=>1<=v.1.length/\v.1.length<=14/\p<=v.2/\v.2<=p+120):=by
 simp only [ajX]
 refine An.bind (aav hb 14 (by omega)) fun v h1=>?_
 obtain⟨v1,v2⟩:=v
 obtain⟨m,rfl⟩:=Int.eq_ofNat_of_zero_le h1.1
 have hm:(m:Int) < 14:=h1.2.1
 have hp:v2=p+1:=h1.2.2
 have e:wrap64 (1+(m:Int))=((m+1:Nat):Int):=by rw [aaR (by omega) (by omega)];omega
 simp only [e]
 exact (agx hb (m:=m+1) (by omega) m 0 (by omega) [] v2 rfl (by omega)).mono fun u h2=>⟨h2.1,h2.2.1,by omega,by omega⟩
theorem ajM {b:List Int} (hb:Bt b) {p:Int} (h:0<=p/\p+9800<=1000000):An (fun k=>alJ k b p) (fun v=>1<=v.1.length/\v.1.length<=600/\p<=v.2/\v.2<=p+9800):=by
 simp only [alJ]
 refine An.bind (aav hb 2 (by omega)) fun v h1=>aaL (fun _=>An.bind (aeS hb (by omega)) fun u h2=>aaf ⟨h2.1,by show u.1.length<=600;omega,by simp only;omega⟩) (fun _=>?_)
 refine An.bind (aiz hb (by omega) (by omega)) fun s h2=>An.bind (agn h2.1) fun c h3=>aaL (fun _=>An.bind (aeS hb (by omega)) fun u h4=>aaf ⟨h4.1,by show u.1.length<=600;omega,by simp only;omega⟩) (fun g=>?_)
 refine An.bind (aav hb 3 (by omega)) fun t h4=>?_
 have e1:Int.tdiv t.1 2=t.1 / 2:=Int.tdiv_eq_ediv_of_nonneg h4.1
 have e2:wrap64 (Int.tdiv t.1 2)=t.1 / 2:=by rw [e1,aaR (by omega) (by omega)]
 rw [e2]
 obtain⟨r,hr,er⟩:=aq9 (c:=c.1) (t:=t.1 / 2) ⟨h3 (by omega),by omega,by omega⟩
 have h6:=ab8 hr
 exact An.bind (amK (P:=fun u=>u=(r,true)) er rfl) fun u hu=>aaf (by subst hu;exact⟨h6.1,h6.2,by simp only;omega,by simp only;omega⟩)
theorem ajN {b:List Int} (hb:Bt b) {p:Int} (h:0<=p/\p+9900<=1000000):An (fun k=>alK k b p) (fun v=>v.1.length<=601/\p<=v.2/\v.2<=p+9900):=by
 simp only [alK]
 refine An.bind (ajM hb (by omega)) fun c h1=>An.bind (aav hb 36 (by omega)) fun v h2=>?_
 refine aaL (fun _=>aaE (aaf ?_)) (fun _=>aaL (fun _=>aaE (aaf ?_)) (fun _=>aaL (fun _=>aaE (aaf ?_)) (fun _=>aaL (fun _=>aaf ?_) (fun _=>aaf ?_))))
 all_goals
  simp only [List.length_set,List.length_append,List.length_cons,List.length_nil]
  omega
theorem al8 {x:Int} (h:(Lit.int .u8 x).wf=true):0<=x/\x < 256:=by
 simp [Lit.wf,IntKind.min,IntKind.max,IntKind.bits,IntKind.signed] at h
 omega
theorem akN {l:List Int} (h:∀ x∈l,(Lit.int .u8 x).wf=true):An (fun _=>alr l) (fun v=>Bt v.1/\v.2=0):=by
 simp only [alr]
 refine aaL (fun c=>aaE (aaf ⟨⟨by simp;omega,fun x hx=>al8 (h x (List.mem_of_mem_take hx))⟩,rfl⟩)) (fun c=>aaf ⟨⟨by show l.length<=2000;omega,fun x hx=>al8 (h x hx)⟩,rfl⟩)
theorem ahj {l:List Int} (h:∀ x∈l,(Lit.int .u8 x).wf=true):An (fun k=>ami k l) (fun v=>v.length<=601):=by
 simp only [ami]
 exact An.bind (akN h) fun v h1=>An.bind (ajN h1.1 (by omega)) fun c h2=>aaf h2.1
theorem amN {T:List Bool} {s:Nat} (h:T.length=12) (hb:∀ r,r < 12->T.getD r false=s.testBit r):T=row s:=by
 apply List.ext_getElem (by rw [h,abq])
 intro i h1 h2
 have e1:=hb i (by omega)
 have e2:=acL s i (by omega)
 simp [h1] at e1
 simp [h2] at e2
 rw [e1,e2]
theorem ahK {s:Nat} (hs:s < 65536):∀ (d p:Nat),p+d=12->∀ T:List Bool,T.length=12->(∀ r,r < p->T.getD r false=s.testBit r)->Ev (fun k=>af7 k (s:Int) T 12 (p:Int)) (row s)
 | 0,p,hp,T,hT,hb=>by
  refine Ev.succ ?_
  simp only [af7]
  exact aa5 (Ev.pure.eq (amN hT fun r hr=>hb r (by omega)))
 | d+1,p,hp,T,hT,hb=>by
  refine Ev.succ ?_
  simp only [af7,ahh hs (show p < 16 by omega),aao (show p < 9223372036854775807 by omega)]
  refine aa2 (aaG (aa2 (aa2 (ahK hs d (p+1) (by omega) _ (by simpa using hT) fun r hr=>?_))))
  rw [Int.toNat_natCast,ac3 _ _ _ _ _ (by omega)]
  by_cases e:r=p
  ·rw [if_pos e,e]
  rw [if_neg e]
  exact hb r (by omega)
theorem ajm {s:Nat} (hs:s < 65536):Ev (fun k=>ak3 k (s:Int)) (row s):=by
 simp only [ak3]
 exact aa2 (aaG (ahK hs 12 0 rfl _ (by simp) fun r hr=>absurd hr (by omega))) (by decide)
theorem akp (L:List Nat) {p:Nat} (h:p < L.length):rows (L.take (p+1))=rows (L.take p) ++ [row (L.getD p 0)]:=by
 have e:L.getD p 0=L[p]:=by simp [h]
 have t:L.take (p+1)=L.take p ++ [L[p]]:=by rw [List.take_add_one,List.getElem?_eq_getElem h];rfl
 unfold rows
 rw [e,t,List.map_append]
 rfl
theorem agy {L:List Nat} {n:Nat} (hL:Tab n L) (hn:n<=600):∀ (d p:Nat),p+d=n->Ev (fun k=>afb k (rows (L.take p)) (ints L) (n:Int) (p:Int)) (rows L)
 | 0,p,hp=>by
  refine Ev.succ ?_
  simp only [afb]
  refine aa5 (Ev.pure.eq ?_)
  rw [List.take_of_length_le (by have:=hL.1;omega)]
 | d+1,p,hp=>by
  have hl:=hL.1
  have ih:=agy hL hn d (p+1) (by omega)
  rw [akp L (by omega)] at ih
  refine Ev.succ ?_
  simp only [afb,acy,aaU,ac1,List.length_take,aao (show p < 9223372036854775807 by omega)]
  exact aa2 (aa2 (aa2 (Ev.bind (ajm (Nat.lt_of_lt_of_le (hL.2 p) (by decide))) (aa2 ih))))
theorem akK {c:List SQ} (h:CV (qs c)):∃ L,LT c L/\Ev (fun k=>Sau.f k c) (rows L)/\Ev (fun k=>Sa2.f k c) (rows L):=by
 obtain⟨L,hL,e1,e2⟩:=aiw h
 refine⟨L,hL,e1,?_⟩
 simp only [Sa2.f]
 refine Ev.bind (ajz c) (aa2 (Ev.bind e2 ?_) (decide_eq_true h))
 rw [aaU,hL.tab.1]
 exact agy hL.tab (ab8 h).2 c.length 0 (Nat.zero_add _)
theorem ajJ {c:List SQ} (h:¬ CV (qs c)):Ev (fun k=>Sau.f k c) []/\Ev (fun k=>Sa2.f k c) []:=by
 refine⟨?_,?_⟩
 ·simp only [Sau.f]
  exact aaG (Ev.bind (acs c) (aa5 Ev.pure (by simpa [cvB] using h)))
 simp only [Sa2.f]
 exact Ev.bind (ajz c) (aa5 Ev.pure (by simpa [cvB] using h))
theorem adW (v:List Bool) (h:v.length<=1000):∀ (d p:Nat),p+d=v.length->Ev (fun k=>aeV k v v (p:Int)) true
 | 0,p,hp=>by
  refine Ev.succ ?_
  simp only [aeV]
  exact aa5 Ev.pure
 | d+1,p,hp=>by
  refine Ev.succ ?_
  simp only [aeV,aao (show p < 9223372036854775807 by omega)]
  exact aa2 (aa2 (aa2 (aa5 (adW v h d (p+1) (by omega)))))
theorem agi (v:List Bool) (h:v.length<=1000):Ev (fun k=>SbN.f k v v) true:=by
 simp only [SbN.f]
 exact aa2 (adW v h v.length 0 (Nat.zero_add _))
theorem adV {L:List Nat} (h:L.length<=1000):∀ (d p:Nat),p+d=L.length->Ev (fun k=>aeU k (rows L) (rows L) (p:Int)) true
 | 0,p,hp=>by
  have hl:=ac1 L
  refine Ev.succ ?_
  simp only [aeU]
  exact aa5 Ev.pure
 | d+1,p,hp=>by
  have hl:=ac1 L
  refine Ev.succ ?_
  simp only [aeU,ah9 (show p < L.length by omega),aao (show p < 9223372036854775807 by omega)]
  exact aa2 (aa2 (aa2 (Ev.bind (agi _ (by rw [abq];omega)) (aa2 (adV h d (p+1) (by omega)) rfl))))
theorem acx {L:List Nat} (h:L.length<=1000):Ev (fun k=>SbO.f k (rows L) (rows L)) true:=by
 simp only [SbO.f]
 exact aa2 (adV h L.length 0 (Nat.zero_add _))
end Go.Proofs.YtebpplallecogaaGreat.M
namespace Go.Proofs.YtebpplallecogaaGreat.M
open Go.Proofs.Tryz Go.RowKit Go.Proofs.YtebpplallecogaaGreatW.PrintWords Go.Proofs.YtebpplallecogaaGreatW.PrintLast Go.Proofs.YtebpplallecogaaGreatW.PrintMore
attribute [local go_sem] aak aai aay aax aad aac aaj aah
theorem aqJ (d:Nat) (w:World) (x0 y0 x1 y1 x2 y2 x3 y3 x4 y4:Int) :
  (Op.equalIn (d+2) 27 (.agg #[iV x0,iV x1,iV x2,iV x3,iV x4]) (.agg #[iV y0,iV y1,iV y2,iV y3,iV y4])).run prog w = .ok (x0 == y0 && (x1 == y1 && (x2 == y2 && (x3 == y3 && (x4 == y4))))) w:=by
 refine anL underlying27 (by kernel_rfl) ?_
 refine ae5 (by rfl) (by go_simp;rfl) (by go_simp;rfl) (by go_simp) ?_
 refine ae5 (by rfl) (by go_simp;rfl) (by go_simp;rfl) (by go_simp) ?_
 refine ae5 (by rfl) (by go_simp;rfl) (by go_simp;rfl) (by go_simp) ?_
 refine ae5 (by rfl) (by go_simp;rfl) (by go_simp;rfl) (by go_simp) ?_
 exact ajo (by rfl) (by go_simp;rfl) (by go_simp;rfl) (by go_simp)
attribute [local go_sem high] aqJ
end Go.Proofs.YtebpplallecogaaGreat.M
namespace Go.Proofs.YtebpplallecogaaGreat.M
open Go.Proofs.Tryz Go.RowKit Go.Proofs.YtebpplallecogaaGreatW.PrintWords Go.Proofs.YtebpplallecogaaGreatW.PrintLast Go.Proofs.YtebpplallecogaaGreatW.PrintMore PM
theorem LT.uniq {c:List SQ} {L M:List Nat} (h:LT c L) (g:LT c M):L=M:=by
 have l1:=h.tab.1
 have l2:=g.tab.1
 apply List.ext_getElem (by omega)
 intro i h1 h2
 have e:=Nat.eq_of_testBit_eq fun r=>Bool.eq_iff_iff.2 ((h.iff i (by omega) r).trans (g.iff i (by omega) r).symm)
 simpa [h1,h2] using e
theorem ajI {c:List SQ} (h:CV (qs c)) {i:Nat} (hi:i < c.length):∃ L,LT c L/\Ev (fun k=>aqa k c (i:Int)) (row (aft (q_ (qa c i)) i L))/\Ev (fun k=>amG k c (i:Int)) (row (aft (q_ (qa c i)) i L)):=by
 have h6:=ab8 h
 obtain⟨L,hL,e1,e2⟩:=aiw h
 have e3:wrap64 ((c.length:Int) - 1)=(c.length:Int) - 1:=aaR (by omega) (by omega)
 refine⟨L,hL,?_,?_⟩
 ·simp only [aqa,ahr,e3]
  refine Ev.bind (acs c) (aa2 (aaG (Ev.succ ?_)) (decide_eq_true h))
  simp only [amg]
  exact aa5 (Ev.bind e1 (Ev.bind (amc h hL.tab hi) Ev.pure)) (by simp;omega)
 simp only [amG]
 refine Ev.bind (ajz c) (aa2 (aa5 (Ev.succ ?_)) (decide_eq_true h))
 simp only [ag7]
 have ha:=agJ hL.tab (q_ (qa c i)) i
 exact aa5 (Ev.bind e2 (Ev.bind (amv h hL.tab hi) (Ev.bind (ajm (by omega)) Ev.pure))) (by simp;omega)
theorem an5 {c:List SQ} (h:CV (qs c)) {L:List Nat} (hL:LT c L) {i:Nat} (hi:i < c.length) (r:Nat):(aft (q_ (qa c i)) i L).testBit r=true↔∃ j∈nx (q_ (qa c i)) i,(L.getD j 0).testBit r=true:=by
 unfold aft
 rw [afI]
 simp
def aeN (s p:Nat):List Nat:=(List.range p).filter fun r=>s.testBit r
theorem ajR (s p:Nat):aeN s (p+1)=aeN s p ++ (if s.testBit p=true then [p] else []):=by
 unfold aeN
 rw [List.range_succ,List.filter_append]
 congr 1
 by_cases h:s.testBit p=true <;> simp [h]
theorem ahR (s p:Nat):(aeN s p).length<=p:=by
 have:=List.length_filter_le (fun r=>s.testBit r) (List.range p)
 rwa [List.length_range] at this
theorem alc (s p r:Nat):r∈aeN s p↔r < p/\s.testBit r=true:=by simp [aeN]
theorem afy {s:Nat} (hs:s < 65536):∀ (d p:Nat),p+d=12->Ev (fun k=>adI k (s:Int) (ints (aeN s p)) (p:Int)) (ints (aeN s 12))
 | 0,p,hp=>by
  refine Ev.succ ?_
  simp only [adI]
  rw [show p=12 by omega]
  exact aa5 Ev.pure
 | d+1,p,hp=>by
  have ih:=afy hs d (p+1) (by omega)
  have hl:=ahR s p
  rw [ajR] at ih
  refine Ev.succ ?_
  simp only [adI,ahh hs (show p < 16 by omega),aao (show p < 9223372036854775807 by omega)]
  refine aa2 (aaG ?_)
  by_cases b:s.testBit p=true
  ·rw [if_pos b] at ih
   have e:ints (aeN s p) ++ [(p:Int)]=ints (aeN s p ++ [p]):=by simp [ints]
   refine aa2 (aa2 ?_ (by rw [aaU];omega)) b
   rw [e]
   exact ih
  rw [if_neg b,List.append_nil] at ih
  exact aa5 ih b
theorem ajD {s:Nat} (hs:s < 65536):Ev (fun k=>anq k (s:Int)) (ints (aeN s 12)):=by
 simp only [anq]
 exact afy hs 12 0 rfl
theorem anE {q:Q} {m:Int} (h:QV q m) (hm:m<=600):QV q 600:=aks h hm
theorem ais {q:Q} {m:Int} (h:QV q m) (hm:m<=600):Ev (fun k=>ak7 k q.op q.dst q.a q.b q.n) (ints (aeN (acZ q) 12)):=by
 have hu:=ah3 h
 simp only [ak7,ap2]
 exact aaG (aa2 (Ev.bind (amn h) (Ev.bind (ajD (by omega)) Ev.pure)) (decide_eq_true (anE h hm)))
theorem ajG {q:Q} {m:Int} (h:QV q m) (hm:m<=600):aiX q.op q.dst q.a q.b q.n=some (sets q):=by
 simp only [aiX,ap2,aoW,qvB,decide_eq_true (anE h hm)]
 rfl
theorem agD (N:List Nat) (hl:N.length<=1000) (r:Nat):∀ (d p:Nat),p+d=N.length->Ev (fun k=>aej k (ints N) (r:Int) (p:Int)) (decide (r∈N.drop p))
 | 0,p,hp=>by
  have li:=aaU N
  refine Ev.succ ?_
  simp only [aej]
  rw [List.drop_of_length_le (by omega)]
  exact aa5 (Ev.pure.eq (by simp))
 | d+1,p,hp=>by
  have hp':p < N.length:=by omega
  have li:=aaU N
  have ih:=agD N hl r d (p+1) (by omega)
  have e:N.drop p=N[p] :: N.drop (p+1):=List.drop_eq_getElem_cons hp'
  have eg:N.getD p 0=N[p]:=by simp [hp']
  refine Ev.succ ?_
  simp only [aej,acy,eg,aao (show p < 9223372036854775807 by omega)]
  rw [e]
  refine aa2 (aa2 ?_)
  by_cases g:N[p]=r
  ·exact aa2 (Ev.pure.eq (by rw [g];simp)) (by omega)
  refine aa5 (ih.eq ?_) (by omega)
  have g':r≠N[p]:=fun x=>g x.symm
  rw [Bool.eq_iff_iff,decide_eq_true_eq,decide_eq_true_eq,List.mem_cons]
  exact⟨.inr,fun x=>x.resolve_left g'⟩
theorem akW (N:List Nat) (hl:N.length<=1000) (r:Nat):Ev (fun k=>SbM.f k (ints N) (r:Int)) (decide (r∈N)):=by
 simp only [SbM.f]
 exact agD N hl r N.length 0 (Nat.zero_add _)
theorem akV {q:Q} {m:Int} (h:QV q m) {r:Nat} (hr:r < 12):Ev (fun k=>SbM.f k (ints (aeN (acZ q) 12)) (r:Int)) (decide (uses q r)):=by
 have hl:=ahR (acZ q) 12
 refine (akW _ (by omega) r).eq ?_
 rw [Bool.eq_iff_iff,decide_eq_true_eq,decide_eq_true_eq,alc,ahz h,decide_eq_true_eq]
 exact⟨fun x=>x.2,fun x=>⟨hr,x⟩⟩
theorem akJ {c:List SQ} (h:CV (qs c)) {L:List Nat} (hL:LT c L) {n:Nat} (hn:n < c.length) (r:Nat):(L.getD n 0).testBit r=true↔uses (q_ (qa c n)) r\/((aft (q_ (qa c n)) n L).testBit r=true/\sets (q_ (qa c n))≠r):=by
 rw [hL.iff n hn r,an5 h hL hn r]
 constructor
 ·intro hl
  cases hl with
  | use hi u=>exact .inl (by rwa [abS] at u)
  | flow hi hs hj hl' =>
   rw [abS] at hs hj
   exact .inr ⟨⟨_,hj,(hL.iff _ (aiv h hn _ hj) r).2 hl'⟩,hs⟩
 rintro (u | ⟨⟨j,hj,b⟩,hs⟩)
 ·exact Live.use (by rw [aaY];exact hn) (by rw [abS];exact u)
 exact Live.flow (by rw [aaY];exact hn) (by rw [abS];exact hs) (by rw [abS];exact hj) ((hL.iff j (aiv h hn j hj) r).1 b)
theorem agF {c:List SQ} (h:CV (qs c)) {L:List Nat} (hL:LT c L) {n:Nat} (hn:n < c.length):∀ (d p:Nat),p+d=12->Ev (fun k=>acf k c (rows L) (n:Int) (row (aft (q_ (qa c n)) n L)) (p:Int)) true
 | 0,p,hp=>by
  have hl:=hL.tab.1
  have lr:=ac1 L
  refine Ev.succ ?_
  simp only [acf]
  exact aa5 (Ev.pure.eq (by simp;omega))
 | d+1,p,hp=>by
  have ih:=agF h hL hn d (p+1) (by omega)
  have h6:=(ab8 h).2
  have hl:=hL.tab.1
  have lr:=ac1 L
  have st:=akJ h hL hn p
  have q6:(c.length:Int)<=600:=by omega
  have hr:p < 12:=by omega
  refine Ev.succ ?_
  simp only [acf,ac2,ah9 (show n < L.length by omega),abq,abI,acL _ _ hr,aao (show p < 9223372036854775807 by omega)]
  refine aa2 (aa2 (aa2 (Ev.bind (ais (abF h hn) q6) (Ev.bind (akV (abF h hn) hr) ?_))))
  by_cases u:uses (q_ (qa c n)) p
  ·have e:(L.getD n 0).testBit p=true:=st.2 (.inl u)
   exact aa2 (aa2 (aa2 (aa2 (aa5 ih (by rw [e];simp))))) (decide_eq_true u)
  refine aa5 (aa2 (aa2 ?_)) (by simpa using u)
  have sq:=ajG (abF h hn) q6
  simp only [q_] at sq
  by_cases a:(aft (q_ (qa c n)) n L).testBit p=true
  ·refine aa2 ?_ a
   simp only [sq]
   have e:(L.getD n 0).testBit p=(sets (q_ (qa c n)) != (p:Int)):=by
    rw [Bool.eq_iff_iff,st]
    simp [u,a]
   simp only [q_] at e
   exact aaG (aa2 (aa2 (aa5 ih (by rw [e];simp))))
  have e:(L.getD n 0).testBit p=false:=by
   rw [Bool.eq_false_iff]
   intro x
   rcases st.1 x with y|y
   ·exact u y
   exact a y.1
  exact aa5 (aa2 (aa2 (aa5 ih (by rw [e];simp)))) a
theorem al0 {l m:List Int} (hw:∀ x∈l,(Lit.int .u8 x).wf=true):An (fun k=>SbL.f k l m) (fun v=>v=true):=by
 have j:∀ b,An (fun k=>afW k l m b) (fun v=>v=true):=by
  intro b
  refine aaM ?_
  simp only [afW]
  refine aaL (fun _=>aaf rfl) (fun _=>An.bind (ahj hw) fun c hc=>?_)
  by_cases h:CV (qs c)
  ·obtain⟨L,hL,e1,e2⟩:=akK h
   have h6:=ab8 h
   have hl:=hL.tab.1
   have lr:=ac1 L
   have hn:m.length % c.length < c.length:=Nat.mod_lt _ (by omega)
   have en:(m.length:Int) % (c.length:Int)=((m.length % c.length:Nat):Int):=(Int.natCast_emod _ _).symm
   generalize m.length % c.length=n at hn en
   obtain⟨M,hM,o1,o2⟩:=ajI h hn
   obtain rfl:=hL.uniq hM
   refine amK (Ev.bind e2 (Ev.bind e1 (Ev.bind (acx (L:=L) (by omega)) (aa2 (Ev.succ ?_) rfl)))) rfl
   simp only [afV,en]
   exact aa5 (aa5 (Ev.bind o2 (agF h hL hn 12 0 rfl))) (by rw [beq_iff_eq];omega)
  obtain⟨e1,e2⟩:=ajJ h
  refine amK (Ev.bind e2 (Ev.bind e1 (Ev.bind (acx (L:=[]) (by simp)) (aa2 (Ev.succ ?_) rfl)))) rfl
  simp only [afV]
  exact aa2 (Ev.bind (acx (L:=[]) (by simp)) Ev.pure) (by simp)
 simp only [SbL.f]
 exact aaL (fun _=>j _) (fun _=>j _)
end Go.Proofs.YtebpplallecogaaGreat.M
namespace Go.Proofs.YtebpplallecogaaGreat.Pure
open Go.Proofs.YtebpplallecogaaGreat.M
theorem FnLive:SbL.Pure:=by
 intro l m _ _ hw _ _ _
 obtain⟨v,e,h⟩:=al0 (m:=m) hw
 subst h
 exact e.get
end Go.Proofs.YtebpplallecogaaGreat.Pure
namespace Go.Proofs.YtebpplallecogaaGreat.fnLive
open Go.ChangeShapes Go.WideShapes Go.ChangeAt Go.RowKit
open Go.ChangeMaps (open_string shut_string)
theorem own : ownKnob Tryz.prog.godebug = none := by kernel_rfl
theorem laidOut : laidOutB Tryz.prog = true := by kernel_rfl
def IsRow (k : IntKind) (w : World) (a : Option Addr) (len cap : Nat) (zs : List Int) : Prop :=
  (a = none ∧ len = 0 ∧ cap = 0 ∧ zs = []) ∨
  ∃ x, a = some x ∧ len ≤ cap ∧ cap ≤ maxLen ∧ zs.length = cap ∧ (∀ i, i < zs.length → w.cell? (x.add i) = some (.int k (zs.getD i 0))) ∧ ∀ n ∈ zs, (Lit.int k n).wf = true
theorem lifted (os : Os) (started : os.Started) (H : Type) (enc : TypeId × Value → H) :
    ReturnsInHanded {} Tryz.checked os 9 .any (Rows.fnLiveSpec.pre6 enc Tryz.prog Tryz.f9 Rows.fnLiveRow.domain false) (Rows.fnLiveSpec.post enc Tryz.prog Tryz.f9 false true false false) := by
  refine returnsInHanded_of_change_sized (C := Tryz.checked) own started (by kernel_rfl) Tryz.func9
    (ChangeSpec.witness6 (enc := enc) (C := Tryz.checked) false ⟨#[], #[.slice none 0 0, .slice none 0 0], []⟩ 8 (by kernel_rfl) (by kernel_rfl) (by kernel_rfl) (by kernel_rfl)) ?_
  intro W base args ds gs before hval0 hW hcnd hsz0 _
  have hsz : (DataW.weightsEach Tryz.prog (Tryz.f9.params.toList ++ Rows.fnLiveSpec.plain.varTypes Tryz.prog) (ds ++ gs)).all (· ≤ reachBytes) = true := hsz0
  have hval : ∀ (j : Nat) t v, Tryz.f9.params[j]? = some t → args[j]? = some v → Value.okWide Tryz.prog W .any base t v := hval0
  have hW' := hW
  obtain ⟨p, q, hA0, hV, rfl, hfz, hnd⟩ := hW
  have hA : DataW.TrodAll enc Tryz.prog W 0 (fun _ => true) true Tryz.f9.params.toList args.toList ds p := hA0
  rw [Tryz.params9] at hA hval hsz
  obtain ⟨v0, vs0, d0, ds0, p0, q0, hargs, rfl, rfl, h0, r0⟩ := trodAll_cons hA
  obtain ⟨v1, vs1, d1, ds1, p1, q1, rfl, rfl, rfl, h1, r1⟩ := trodAll_cons r0
  obtain ⟨rfl, rfl, rfl⟩ := trodAll_nil r1
  obtain rfl : args = #[v0, v1] := by cases args; simp_all
  obtain ⟨rfl, rfl⟩ := trodVars_none hV
  obtain ⟨a0, len0, cap0, rfl⟩ := okWide_slice Tryz.underlying22 (hval 0 22 v0 rfl rfl)
  have k0 := h0
  have lt0 : ∀ x ∈ p0, x.block < W.heap.size := by obtain ⟨m, hm⟩ := k0; exact DataW.trod_lt m _ _ _ hm
  obtain ⟨z0, w0⟩ : ∃ zs, IsRow .u8 W a0 len0 cap0 zs := by
    obtain ⟨fuel, hf⟩ := h0
    rcases open_ints Tryz.underlying22 Tryz.underlying5 (by kernel_rfl) hf with ⟨hcs, _⟩ | ⟨x, l, c, zs, hcs, _, hl, hm, hz, _, hcell, hwz⟩
    · simp [Value.cells] at hcs
      obtain ⟨rfl, rfl, rfl⟩ := hcs
      exact ⟨[], .inl ⟨rfl, rfl, rfl, rfl⟩⟩
    · simp [Value.cells] at hcs
      obtain ⟨rfl, rfl, rfl⟩ := hcs
      exact ⟨zs, .inr ⟨_, rfl, hl, hm, by simpa using hz, hcell, hwz⟩⟩
  have y0 : len0 * 1 ≤ 140737488351232 := Go.Proofs.YtebpplallecogaaGreatW.PrintWords.sized_ints hsz (j := 0) (t := 22) rfl rfl Tryz.underlying22 Tryz.underlying5 (by kernel_rfl) (by kernel_rfl) h0
  obtain ⟨a1, len1, cap1, rfl⟩ := okWide_slice Tryz.underlying22 (hval 1 22 v1 rfl rfl)
  have k1 := h1
  have lt1 : ∀ x ∈ p1, x.block < W.heap.size := by obtain ⟨m, hm⟩ := k1; exact DataW.trod_lt m _ _ _ hm
  obtain ⟨z1, w1⟩ : ∃ zs, IsRow .u8 W a1 len1 cap1 zs := by
    obtain ⟨fuel, hf⟩ := h1
    rcases open_ints Tryz.underlying22 Tryz.underlying5 (by kernel_rfl) hf with ⟨hcs, _⟩ | ⟨x, l, c, zs, hcs, _, hl, hm, hz, _, hcell, hwz⟩
    · simp [Value.cells] at hcs
      obtain ⟨rfl, rfl, rfl⟩ := hcs
      exact ⟨[], .inl ⟨rfl, rfl, rfl, rfl⟩⟩
    · simp [Value.cells] at hcs
      obtain ⟨rfl, rfl, rfl⟩ := hcs
      exact ⟨zs, .inr ⟨_, rfl, hl, hm, by simpa using hz, hcell, hwz⟩⟩
  have y1 : len1 * 1 ≤ 140737488351232 := Go.Proofs.YtebpplallecogaaGreatW.PrintWords.sized_ints hsz (j := 1) (t := 22) rfl rfl Tryz.underlying22 Tryz.underlying5 (by kernel_rfl) (by kernel_rfl) h1
  clear hA0 hval0 hsz0 hsz
  refine (M.SbL.walk Pure.FnLive a0 len0 cap0 z0 a1 len1 cap1 z1 W w0 y0 w1 y1).mono fun e W' ⟨he, bel⟩ => ?_
  subst he
  exact ⟨_, rfl, _, _, _, [], _, [], hW', trodAll_mk1 (shut_bool Tryz.underlying4 _), (trodAll_cons_mk (Below.trod laidOut (by kernel_rfl) (of_decide_eq_true (by kernel_rfl)) k0 bel lt0) (trodAll_cons_mk (Below.trod laidOut (by kernel_rfl) (of_decide_eq_true (by kernel_rfl)) k1 bel lt1) trodAll_mk0)), rfl, bel.frame _, fun h => by cases h⟩
theorem over : Rows.fnLiveRow.holds Tryz.pinned (OpenSpec.ofChange Rows.fnLiveSpec) :=
  OpenClaim.holds_of_wide 9 Tryz.f9 rfl rfl rfl rfl rfl rfl rfl ⟨rfl, rfl, rfl, rfl, rfl⟩ rfl rfl rfl rfl rfl (by kernel_rfl) Tryz.func9 (by kernel_rfl)
    (of_decide_eq_true (by kernel_rfl)) (by unfold Func.isWrapper; first | (rw [if_pos (by decide +kernel)]; kernel_rfl) | (rw [if_neg (by decide +kernel)]; exact ⟨rfl, rfl⟩))
    (fun os started H enc _ => lifted os started H enc)
theorem proved : Rows.FnLiveSaid := over
#print axioms proved
end Go.Proofs.YtebpplallecogaaGreat.fnLive
namespace Go.Proofs.YtebpplallecogaaGreat
/-- The row, under a short name, for the claim. -/
theorem fnLive_holds : Rows.FnLiveSaid := fnLive.proved
end Go.Proofs.YtebpplallecogaaGreat
