/- A function as plain Lean and its contract: written by a program of this session's, turned from the kit's print. -/
import Derived.Test.YtebpplallecogaaGreatDE4
import Derived.WalkSpells
import Derived.Test.YtebpplallecogaaGreatRows
import Derived.WalkKit
import Derived.ProofKit
import Derived.OpenShut
import Derived.ShutString
import Derived.ChangeOld
import Derived.Below
import Derived.SizedLaws
import Derived.Test.YtebpplallecogaaGreatDEWSized
set_option linter.unusedVariables false
set_option linter.unusedSimpArgs false
set_option maxHeartbeats 8000000
set_option maxRecDepth 100000
namespace Go.Proofs.YtebpplallecogaaGreat.M
open Go.Proofs.Tryz Go.RowKit Go.Proofs.YtebpplallecogaaGreatW.PrintWords Go.Proofs.YtebpplallecogaaGreatW.PrintLast Go.Proofs.YtebpplallecogaaGreatW.PrintMore Kd
attribute [local go_sem] aan aal aay aax aaf aae aam aak
def alS (k:Nat) (ax:List Int) (aO:Int):Option ((List S27) × Int × Int):=(alR k ax aO).bind fun aH=>((aaW k ax aH.2 30).bind fun aN=>(if aN.1=0 then ((some (([(-1),(aH.1.length:Int)]:List Int):List Int)).bind fun ay=>((aaW k ax aN.2 2).bind fun aK=>(if 0<=aK.1 then (if aK.1 < (ay.length:Int) then (some (aH.1,rd ay aK.1,aK.2)) else (none)) else (none)))) else ((aaW k ax aN.2 (aH.1.length:Int)).bind fun aP=>(some (aH.1,aP.1,aP.2)))))
def ao8:Bool × List (List Nat × List Nat):=(true,[([],[]),([],[]),([1],[1]),([2],[2]),([],[]),([4],[4]),([3,5],[3,5]),([6],[6]),([0,5,0],[0]),([7,8,0,1,2,3,4,5,6,7,8],[7])])
def apX:List Nat:=[0,0,2,6,0,16,62,126,49,511]
theorem ann:abL .any (opsOf f45 3)=ao8:=by kernel_rfl
theorem alU:ab0 ao8.2 apX=true:=by kernel_rfl
theorem alT (k g:Nat) (ax:List Int) (aO:Int) (r1:List S27) (r2 r3:Int) (w0 w:World) (hI:Sad w0 w g ax aO) (hB:Below w0.heap.size w0 w) (h:alS k ax aO=some (r1,r2,r3)) :
  Calls prog 45 #[.pointer (some ⟨g,0,none⟩)] w fun e w'=>∃ bQ:Value,e = .returned (.tuple #[bQ,iV r2])/\Kd.R k27 27 w' w.heap.size (fun _=>True) bQ r1/\Sad w0 w' g ax r3/\Below w0.heap.size w0 w'/\aa6 w w' g none:=by
 have HI0:=aM hI
 have HK:=aM (aaG w g none)
 have HL:=aM hB.size
 clear hI
 have HW0:=aM hB.size
 have HB:=aM hB
 clear hB
 have H:=h;unfold alS at H
 clear h
 obtain⟨⟨ak,aJ⟩,A2,H⟩:=qE H
 try dsimp only at H
 obtain⟨⟨aX,aF⟩,A3,H⟩:=qE H
 try dsimp only at H
 replace H:=jE H;rcases H with ⟨bJ,bK,H⟩ | ⟨c4,bJ,bK,H⟩
 ·obtain⟨ay,aI⟩:=ky ((([(-1),(ak.length:Int)]:List Int)):List Int)
  replace H:=kv aI H
  obtain⟨⟨av,aQ⟩,A5,H⟩:=qE H
  try dsimp only at H
  replace H:=jI H;obtain⟨bV,H⟩:=H
  replace H:=jI H;obtain⟨bW,H⟩:=H
  obtain⟨rfl,rfl,rfl⟩:=oJ3 H
  go_enter func45,ntmps45
  try go_wp2_with (first|((with_reducible refine jc 33 6 ?_);refine jM func33 (aia k g ax aO ak aJ w0 _ (qI HI0) qB A2.out) ?_;rintro bq w8 ⟨ho0,hi,hb,hk⟩;have ae:=aM (R_lower ho0 kU);replace HK:=kI hk;replace HB:=aM hb;replace HI0:=aM hi;clear hb hk hi;(try clear ho0))|((with_reducible refine jc 52 8 ?_);refine jK func52 (aab k g ax aJ 30 aX aF w0 _ (qI HI0) qB A3.out) ?_;rintro w9 ⟨hi,hb,hk⟩;replace ae:=aM (R_mono (R_keep (Sad.apart (show Sad w0 _ g ax aJ from qI HI0) (qR ae) (by decide)) hk (fun _ h=>h.2)) (fun _ h=>h.1));replace HK:=kI hk;replace HB:=aM hb;replace HI0:=aM hi;clear hb hk hi))
  have aZ:(0<=(av:Int))=True:=eq_true (qD)
  have bg:(av < (ay.length:Int))=True:=eq_true (qD)
  replace ae:=aM (R_drew ae.out)
  replace HI0:=aM (Sad.drew HI0.out)
  replace HK:=aM (adf HK.out)
  replace HB:=aM (aai HB.out)
  obtain⟨aR,aS,bu⟩:=R_slice ae.out
  (first|subst bu|(injection bu with bR bX bS;have bY:=bR.symm;have bZ:=bS.symm;clear bR bX bS;subst bY;subst bZ))
  refine abF (n:=10) (S:=fun w'=>True) (ds:=[]) (jb 10 0) (by kernel_rfl) rfl rfl trivial (fun hHeld=>?_);refine aaZ ann alU (fun HT_ HW_=>?_)
  generalize w9.drew=df at ae HI0 HK HB hHeld ⊢
  refine jp 0 10 (jb 10 1) ?_
  refine jp 1 11 (jb 10 3) ?_
  refine jp 4 14 (jb 10 19) ?_
  refine apD [2,3,5,6,7,8,9] (fun a0_ b a w'=>∃ (aj:Value) (af:Addr) (aL:Value),a=aby a0_ b [(2,12,iV (ak.length:Int)),(3,13,aj),(5,15,iV av),(6,16,aL),(7,17,iV (rd ay av)),(8,2,.slice aR ak.length aS),(9,3,iV (rd ay av))]/\(Kd.R k27 27 w' w.heap.size (fun _=>True) (.slice aR ak.length aS) ak)/\(b 5=false->Sad w0 w' g ax aF)/\(aa6 w w' g none)/\(Below w0.heap.size w0 w')/\(b 3=true->Kd.R (Kd.int .i64) 3 w' w.heap.size (fun _=>True) aj ay)/\(b 3=true->∃ c_,(aj:Value) = .slice (some af) ay.length c_)/\(b 5=true->Sad w0 w' g ax aQ)/\(b 6=true->(aL:Value) = .pointer (some (af.add (av).toNat)))) HT_.out HW_.out (by kernel_rfl) (by kernel_rfl) ?_ ?_ ?_
  ·exact⟨.bool false,⟨0,0,none⟩,.bool false,by simp only [aby,Bool.false_eq_true,if_false],ae.out,fun _=>HI0.out,HK.out,HB.out,fun h_=>absurd h_ (by decide),fun h_=>absurd h_ (by decide),fun h_=>absurd h_ (by decide),fun h_=>absurd h_ (by decide)⟩
  ·skip
   clear HB HI0 HK ae
   refine abK ?_ ?_
   ·rintro b a w' ⟨aj,af,aL,ha,ag,az,Q_HK,Q_HB,ai,aa,ah,aA⟩ hb_ hon hoff
    refine⟨_,rfl,fun K hK=>?_⟩
    have e11:a.tmps[11]?=some (.slice aR ak.length aS):=by rw [ha];exact (ac7 rfl).trans rfl
    replace ha:=aM ha
    have ae:=aM ag
    have HK:=aM Q_HK
    have HB:=aM Q_HB
    refine afF (w1:=w') (v:=iV (ak.length:Int)) (by rfl) rfl ?_ ?_
    ·go_simp
     (try simp only [aau])
     try rfl
    refine hK.out _ _ ⟨aj,af,aL,(by rw [ha.out];exact abM 0 hb_ rfl rfl rfl),ag,az,Q_HK,Q_HB,fun aG=>absurd ((hoff 3 (by kernel_rfl)).symm.trans aG) (by decide),fun aG=>absurd ((hoff 3 (by kernel_rfl)).symm.trans aG) (by decide),ah,fun aG=>absurd ((hoff 6 (by kernel_rfl)).symm.trans aG) (by decide)⟩
   refine abK ?_ ?_
   ·rintro b a w' ⟨aj,af,aL,ha,ag,az,Q_HK,Q_HB,ai,aa,ah,aA⟩ hb_ hon hoff
    refine⟨_,rfl,fun K hK=>?_⟩
    have e12:a.tmps[12]?=some (iV (ak.length:Int)):=by rw [ha];exact acJ (e:=(2,12,iV (ak.length:Int))) 0 rfl rfl (hon 2 (by kernel_rfl)) rfl
    replace ha:=aM ha
    have ae:=aM ag
    have HK:=aM Q_HK
    have HB:=aM Q_HB
    refine R_lit_step (Kd.int .i64) _ 3 ?hg (N:=13) ?hd (xs:=([(-1),(ak.length:Int)]:List Int)) (inner:=[iV (-1),iV (ak.length:Int)]) (ok:=fun _=>True) (okp:=fun _=>True) ?hr ?hp (fun _ hk=>hk) trivial (Below.refl _ _) (Nat.le_refl _) (by simp) ?_;(case hd=>rfl);(case hg=>rfl);(case hr=>first|(go_simp;done)|(go_simp;rfl));(case hp=>exact (aat.one (show Kd.M (Kd.int .i64) _ _ _ (-1) [iV (-1)] from rfl) (aat.one (show Kd.M (Kd.int .i64) _ _ _ (ak.length:Int) [iV (ak.length:Int)] from rfl) (aa9 _ _))))
    intro aj bI aT hb hg_ hnew_
    clear hg_ hnew_
    replace aT:=kr aI aT
    have bv:=aM (R_below (qR ae) hb)
    have bz:=aM (R_lower aT kU)
    have bA:=kY hb
    have bT:=aM (abH qB hb)
    have bB:=fun (aG:b 5=false)=>(show Sad w0 bI g ax aF from by first|exact (Sad.below (by repeat (first|(with_reducible first|exact (az aG)|apply Sad.alloc|apply Sad.drewN|apply Sad.drew|apply age)|exact (az aG))) hb))
    have aU:=fun (aG:b 5=true)=>(show Sad w0 bI g ax aQ from by first|exact (Sad.below (by repeat (first|(with_reducible first|exact (ah aG)|apply Sad.alloc|apply Sad.drewN|apply Sad.drew|apply age)|exact (ah aG))) hb))
    clear ae
    clear HK
    clear HB
    have ae:=bv
    have aD:=bz
    have HK:=bA
    have HB:=bT
    clear bv bz bA bT
    clear hb aT
    obtain⟨cu,bL,bM⟩:=R_slice aD.out
    subst bM
    obtain⟨aY,bN,_⟩:=Kd.at_int (R_reads' aD.out).2.2 0 (by decide) (by rw [aI.out];simp)
    cases bN
    refine hK.out _ _ ⟨.slice (some aY) ay.length bL,aY,aL,(by rw [ha.out];exact abM 1 hb_ rfl rfl rfl),(qR ae),bB,qH,qB,fun _=>(qR aD),fun _=>⟨_,rfl⟩,aU,fun aG=>absurd ((hoff 6 (by kernel_rfl)).symm.trans aG) (by decide)⟩
   refine abK ?_ ?_
   ·rintro b a w' ⟨aj,af,aL,ha,ag,az,Q_HK,Q_HB,ai,aa,ah,aA⟩ hb_ hon hoff
    refine⟨_,rfl,fun K hK=>?_⟩
    have e14:a.tmps[14]?=some (.pointer (some ⟨g,0,none⟩)):=by rw [ha];exact (ac7 rfl).trans rfl
    replace ha:=aM ha
    have ae:=aM ag
    have HI0:=aM (az hb_)
    have HK:=aM Q_HK
    have HB:=aM Q_HB
    refine abn func52 (by kernel_rfl) rfl #[.pointer (some ⟨g,0,none⟩),iV 2] (by rfl) rfl rfl (by first|(simp only [List.map_toArray,List.map_cons,List.map_nil,Act.eval,Array.getD_eq_getD_getElem?,Option.getD_some,e14];done)|(simp only [List.map_toArray,List.map_cons,List.map_nil,Act.eval,Array.getD_eq_getD_getElem?,Option.getD_some,e14];rfl)) ?_
    with_reducible refine (aab k g ax aF 2 av aQ w0 _ ?aB ?aC A5.out).mono ?_
    (case aB=>exact qI HI0)
    (case aC=>exact qB)
    rintro e bI ⟨rfl,hi,hb,hk⟩
    refine⟨_,rfl,?_⟩
    have bv:=aM (R_mono (R_keep (Sad.apart (show Sad w0 _ g ax aF from qI HI0) (qR ae) (by decide)) hk (fun _ h=>h.2)) (fun _ h=>h.1))
    have bz:=aM (aa6.trans qH hk (.inl rfl))
    have bU:=aM hb
    have bA:=aM hi
    have aV:=fun (aG:b 3=true)=>(show Kd.R (Kd.int .i64) 3 bI w.heap.size (fun _=>True) aj ay from by first|exact (R_mono (R_keep (Sad.apart (show Sad w0 _ g ax aF from qI HI0) (by (with_reducible repeat (first|apply R_alloc|apply R_drewN|apply R_drew));exact (ai aG)) (by decide)) hk (fun _ h=>h.2)) (fun _ h=>h.1))|exact R_mono (R_mono (R_keep (Sad.apart (show Sad w0 _ g ax aF from qI HI0) (by (with_reducible repeat (first|apply R_alloc|apply R_drewN|apply R_drew));exact (ai aG)) (by decide)) hk (fun _ h=>h.2)) (fun _ h=>h.1)) (fun _ h_=>by first|trivial|exact h_|exact h_.1))
    clear ae
    clear HK
    clear HB
    clear HI0
    have ae:=bv
    have HK:=bz
    have HB:=bU
    have HI0:=bA
    clear bv bz bU bA
    (try clear hb)
    (try clear hb2)
    (try clear hk)
    (try clear hi)
    refine hK.out _ _ ⟨aj,af,aL,(by rw [ha.out];exact abM 2 hb_ rfl rfl rfl),(qR ae),fun aG=>absurd ((afG b 5).symm.trans aG) (by decide),qH,qB,aV,aa,fun _=>(qI HI0),fun aG=>absurd ((hoff 6 (by kernel_rfl)).symm.trans aG) (by decide)⟩
   refine abK ?_ ?_
   ·rintro b a w' ⟨aj,af,aL,ha,ag,az,Q_HK,Q_HB,ai,aa,ah,aA⟩ hb_ hon hoff
    refine⟨_,rfl,fun K hK=>?_⟩
    have e13:a.tmps[13]?=some (aj):=by rw [ha];exact acJ (e:=(3,13,aj)) 1 rfl rfl (hon 3 (by kernel_rfl)) rfl
    have e15:a.tmps[15]?=some (iV av):=by rw [ha];exact acJ (e:=(5,15,iV av)) 2 rfl rfl (hon 5 (by kernel_rfl)) rfl
    replace ha:=aM ha
    have ae:=aM ag
    have HK:=aM Q_HK
    have HB:=aM Q_HB
    have aD:=aM (ai (hon 3 (by kernel_rfl)))
    have au:=aM (aa (hon 3 (by kernel_rfl)))
    have HI0:=aM (ah (hon 5 (by kernel_rfl)))
    obtain⟨c_,hv_⟩:=au.out
    rw [hv_] at e13
    refine afF (w1:=w') (v:=.pointer (some (af.add (av).toNat))) (by rfl) rfl ?_ ?_
    ·go_simp
     (try simp only [aau])
     try rfl
    refine hK.out _ _ ⟨aj,af,(.pointer (some (af.add (av).toNat))),(by rw [ha.out];exact abM 3 hb_ rfl rfl rfl),ag,fun aG=>absurd ((hon 5 (by kernel_rfl)).symm.trans aG) (by decide),Q_HK,Q_HB,ai,aa,ah,fun _=>rfl⟩
   refine abK ?_ ?_
   ·rintro b a w' ⟨aj,af,aL,ha,ag,az,Q_HK,Q_HB,ai,aa,ah,aA⟩ hb_ hon hoff
    refine⟨_,rfl,fun K hK=>?_⟩
    have e16:a.tmps[16]?=some (aL):=by rw [ha];exact acJ (e:=(6,16,aL)) 3 rfl rfl (hon 6 (by kernel_rfl)) rfl
    rw [aA (hon 6 (by kernel_rfl))] at e16
    replace ha:=aM ha
    have ae:=aM ag
    have HK:=aM Q_HK
    have HB:=aM Q_HB
    have aD:=aM (ai (hon 3 (by kernel_rfl)))
    have au:=aM (aa (hon 3 (by kernel_rfl)))
    have HI0:=aM (ah (hon 5 (by kernel_rfl)))
    obtain⟨c_,hv_⟩:=au.out
    have hF_:=aD.out
    rw [hv_] at hF_
    obtain⟨ad_,ea_,hx_⟩:=Kd.at_int (R_reads' hF_).2.2 av (of_eq_true aZ) (of_eq_true bg)
    cases ea_
    refine afF (w1:=w') (v:=iV (rd ay av)) (by rfl) rfl ?_ ?_
    ·go_simp
     (try simp only [aau])
     try rfl
    refine hK.out _ _ ⟨aj,af,aL,(by rw [ha.out];exact abM 4 hb_ rfl rfl rfl),ag,fun aG=>absurd ((hon 5 (by kernel_rfl)).symm.trans aG) (by decide),Q_HK,Q_HB,ai,aa,ah,aA⟩
   refine abK ?_ ?_
   ·rintro b a w' ⟨aj,af,aL,ha,ag,az,Q_HK,Q_HB,ai,aa,ah,aA⟩ hb_ hon hoff
    refine⟨_,rfl,fun K hK=>?_⟩
    have e10:a.tmps[10]?=some (.slice aR ak.length aS):=by rw [ha];exact (ac7 rfl).trans rfl
    replace ha:=aM ha
    have ae:=aM ag
    have HK:=aM Q_HK
    have HB:=aM Q_HB
    have HI0:=aM (ah (hon 5 (by kernel_rfl)))
    refine afF (w1:=w') (v:=.slice aR ak.length aS) (by rfl) rfl ?_ ?_
    ·go_simp
     (try simp only [aau])
     try rfl
    refine hK.out _ _ ⟨aj,af,aL,(by rw [ha.out];exact abM 5 hb_ rfl rfl rfl),ag,fun aG=>absurd ((hon 5 (by kernel_rfl)).symm.trans aG) (by decide),Q_HK,Q_HB,ai,aa,ah,aA⟩
   refine abK ?_ ?_
   ·rintro b a w' ⟨aj,af,aL,ha,ag,az,Q_HK,Q_HB,ai,aa,ah,aA⟩ hb_ hon hoff
    refine⟨_,rfl,fun K hK=>?_⟩
    have e17:a.tmps[17]?=some (iV (rd ay av)):=by rw [ha];exact acJ (e:=(7,17,iV (rd ay av))) 4 rfl rfl (hon 7 (by kernel_rfl)) rfl
    replace ha:=aM ha
    have ae:=aM ag
    have HK:=aM Q_HK
    have HB:=aM Q_HB
    have aD:=aM (ai (hon 3 (by kernel_rfl)))
    have au:=aM (aa (hon 3 (by kernel_rfl)))
    have HI0:=aM (ah (hon 5 (by kernel_rfl)))
    refine afF (w1:=w') (v:=iV (rd ay av)) (by rfl) rfl ?_ ?_
    ·go_simp
     (try simp only [aau])
     try rfl
    refine hK.out _ _ ⟨aj,af,aL,(by rw [ha.out];exact abM 6 hb_ rfl rfl rfl),ag,fun aG=>absurd ((hon 5 (by kernel_rfl)).symm.trans aG) (by decide),Q_HK,Q_HB,ai,aa,ah,aA⟩
   exact aky
  rintro b a w16 hall ⟨aj,af,aL,ha,ag,az,Q_HK,Q_HB,ai,aa,ah,aA⟩
  clear HB HI0 HK ae
  have bC:=hall 2 (by kernel_rfl)
  have aW:=hall 3 (by kernel_rfl)
  have bi:=hall 5 (by kernel_rfl)
  have bn:=hall 6 (by kernel_rfl)
  have bD:=hall 7 (by kernel_rfl)
  have bE:=hall 8 (by kernel_rfl)
  have bF:=hall 9 (by kernel_rfl)
  subst ha
  obtain rfl:=aA bn
  simp only [aby,bC,aW,bi,bn,bD,bE,bF,if_true,Act.put,List.setIfInBounds_toArray,List.set_cons_zero,List.set_cons_succ]
  have ae:=aM ag
  clear ag
  clear az
  have HK:=aM Q_HK
  clear Q_HK
  have HB:=aM Q_HB
  clear Q_HB
  have aD:=aM (ai aW)
  clear ai
  have au:=aM (aa aW)
  clear aa
  have HI0:=aM (ah bi)
  clear ah
  clear hall bC aW bi bn bD bE bF
  obtain⟨cz,bO⟩:=au.out
  clear au
  subst bO
  try go_wp2
  go_ret2
  exact⟨_,qW,qR ae,qI HI0,qB,qH⟩
 obtain⟨⟨bG,bH⟩,cB,H⟩:=qE H
 try dsimp only at H
 obtain⟨rfl,rfl,rfl⟩:=oJ3 H
 go_enter func45,ntmps45
 go_wp2_with (first|((with_reducible refine jc 33 6 ?_);refine jM func33 (aia k g ax aO ak aJ w0 _ (qI HI0) qB A2.out) ?_;rintro bq dh ⟨ho0,hi,hb,hk⟩;have ae:=aM (R_lower ho0 kU);replace HK:=kI hk;replace HB:=aM hb;replace HI0:=aM hi;clear hb hk hi;(try clear ho0))|((with_reducible refine jc 52 8 ?_);refine jK func52 (aab k g ax aJ 30 aX aF w0 _ (qI HI0) qB A3.out) ?_;rintro di ⟨hi,hb,hk⟩;replace ae:=aM (R_mono (R_keep (Sad.apart (show Sad w0 _ g ax aJ from qI HI0) (qR ae) (by decide)) hk (fun _ h=>h.2)) (fun _ h=>h.1));replace HK:=kI hk;replace HB:=aM hb;replace HI0:=aM hi;clear hb hk hi;obtain⟨cK,cO,bP⟩:=R_slice ae.out;subst bP)|((with_reducible refine jc 52 22 ?_);refine jK func52 (aab k g ax aF (ak.length:Int) bG bH w0 _ (qI HI0) qB cB.out) ?_;rintro dn ⟨hi,hb,hk⟩;replace ae:=aM (R_mono (R_keep (Sad.apart (show Sad w0 _ g ax aF from qI HI0) (qR ae) (by decide)) hk (fun _ h=>h.2)) (fun _ h=>h.1));replace HK:=kI hk;replace HB:=aM hb;replace HI0:=aM hi;clear hb hk hi))
 go_ret2
 exact⟨_,qW,qR ae,qI HI0,qB,qH⟩
end Go.Proofs.YtebpplallecogaaGreat.M
namespace Go.Proofs.YtebpplallecogaaGreat.M
open Go.Proofs.Tryz Go.RowKit Go.Proofs.YtebpplallecogaaGreatW.PrintWords Go.Proofs.YtebpplallecogaaGreatW.PrintLast Go.Proofs.YtebpplallecogaaGreatW.PrintMore
attribute [local go_sem] aan aal aay aax aaf aae aam aak
def amq (k:Nat) (l0:List Int):Option ((List S27) × Int):=(alB l0).bind fun aa=>((alS k aa.1 aa.2).bind fun ae=>(some (ae.1,ae.2.1)))
theorem amr (k:Nat) (A0:Option Addr) (c0:Nat) (l0:List Int) (r1:List S27) (r2:Int) (w:World) (hr0:Kd.C (Kd.int .u8) w A0 l0.length l0) (hc0:l0.length<=c0) (h:amq k l0=some (r1,r2)) :
  Calls prog 25 #[.slice A0 l0.length c0] w fun e w'=>∃ aA:Value,e = .returned (.tuple #[aA,iV r2])/\Kd.R k27 27 w' w.heap.size (fun _=>True) aA r1/\Below w.heap.size w w':=by
 have aC:=aM hr0
 have aD:=aM hc0
 clear hr0 hc0
 have HB:=jb_ w
 have H:=h;unfold amq at H
 clear h
 obtain⟨⟨ai,aj⟩,A2,H⟩:=qE H
 try dsimp only at H
 obtain⟨⟨av,ax,ay⟩,A3,H⟩:=qE H
 try dsimp only at H
 obtain⟨rfl,rfl⟩:=oJ2 H
 go_enter func25,ntmps25
 go_wp2_with (first|((with_reducible refine jc 34 5 ?_);refine jM func34 (alC _ _ l0 ai aj w _ qB aC.out aD.out A2.out) ?_;rintro ak w4 ⟨hi,hb,hb2⟩;have ah:=aM hi;replace HB:=aM hb;(try clear hb);(try clear hb2);(try clear hi))|((with_reducible refine jc 45 6 ?_);refine jM func45 (alT k ak ai aj av ax ay w _ (qI ah) qB A3.out) ?_;rintro aB w5 ⟨ho0,hi,hb,hk⟩;have au:=kL ho0;replace HB:=aM hb;replace ah:=aM hi;(try clear hb);(try clear hk);(try clear hi);(try clear ho0)))
 go_ret2
 exact⟨_,qW,qR au,qB⟩
def af8:Nat->List S27->Int->Bool->Option (List Bool)
 | 0,_,_,_=>none
 | k+1,x0,x1,aP=>if aP=true then (some (([]:List Bool))) else ((Sas.f k x0).bind fun ah=>((SaY.f k x0 ah x1).bind fun aj=>(some aj)))
def aj1 (k:Nat) (l0:List S27) (a1:Int):Option (List Bool):=(Sai.f k l0).bind fun av=>(if av=true then ((adA a1 0 (wrap64 ((l0.length:Int) - 1))).bind fun ai=>(af8 k l0 a1 (!ai))) else (af8 k l0 a1 true))
theorem amn (k:Nat) (A0:Option Addr) (c0:Nat) (l0:List S27) (a1:Int) (r:List Bool) (w:World) (hr0:Kd.C k27 w A0 l0.length l0) (hc0:l0.length<=c0) (h:aj1 k l0 a1=some r) :
  Calls prog 26 #[.slice A0 l0.length c0,iV a1] w fun e w'=>∃ aI:Value,e = .returned (aI)/\Kd.R Kd.bool 4 w' w.heap.size (fun _=>True) aI r/\Below w.heap.size w w':=by
 have aB:=aM hr0
 have aC:=aM hc0
 clear hr0 hc0
 have HB:=jb_ w
 have H:=h;unfold aj1 at H
 clear h
 have aD:=aM H
 clear H
 go_enter func26,ntmps26
 go_upto_region 1 with (fail)
 go_cut [15] (fun v15 wc=>∃ (kq:Nat) (ak:Bool),v15 = .bool ak/\aa1 (af8 kq l0 a1 ak=some r)/\aa1 (kq<=k)/\aa1 (Below w.heap.size w wc))
 case first =>
  have H:=aD.out
  clear aD
  obtain⟨av,A4,H⟩:=qE H
  try dsimp only at H
  replace H:=jB H;rcases H with ⟨rfl,H⟩ | ⟨rfl,H⟩
  ·obtain⟨ai,A6,H⟩:=qE H
   try dsimp only at H
   have H':=aM H
   clear H
   go_wp2_with (first|((with_reducible refine jc 36 6 ?_);refine jK func36 (Sai.calls k _ _ l0 true _ (kb aB HB) aC.out A4.out) ?_;intro w7 hb;replace HB:=kH hb;clear hb)|(go_at_call 46;(with_reducible refine (Sbp.calls a1 0 (wrap64 ((l0.length:Int) - 1)) ai _ A6.out).mono ?_);rintro e w' ⟨rfl,⟨nd,rfl⟩⟩))
   go_meet
   exact⟨_,(!ai),qZ,H',⟨by first|omega|exact Nat.le_refl _⟩,⟨qB⟩⟩
  have H':=aM H
  clear H
  go_wp2_with (first|((with_reducible refine jc 36 6 ?_);refine jK func36 (Sai.calls k _ _ l0 false _ (kb aB HB) aC.out A4.out) ?_;intro w8 hb;replace HB:=kH hb;clear hb))
  go_meet
  exact⟨_,(true),qZ,H',⟨by first|omega|exact Nat.le_refl _⟩,⟨qB⟩⟩
 clear aD
 obtain⟨kq,ak,rfl,HA,HJ2,HB⟩:=hcut
 cases kq with
 | zero=>exact absurd HA.out (by simp [af8])
 | succ aJ =>
  have H:=HA.out
  clear HA
  simp only [af8] at H
  replace H:=jB H;rcases H with ⟨rfl,H⟩ | ⟨rfl,H⟩
  ·obtain⟨aK,ag⟩:=ky ([]:List Bool)
   replace H:=kv ag H
   obtain rfl:=oJ H
   go_wp2_with (first|((with_reducible refine jd 16 ?_);(try (refine aah (by rfl) ?_;dsimp only));refine jV Kd.bool 4 ([]:List Bool) [] (aa9 _ _) ?_;intro aL aT au hb;replace au:=kr ag au;have ax:=kL au;replace HB:=kH hb;clear hb au))
   go_ret
   exact⟨_,qW,qR ax,qB⟩
  obtain⟨ah,aR,H⟩:=qE H
  try dsimp only at H
  obtain⟨aj,aS,H⟩:=qE H
  try dsimp only at H
  obtain rfl:=oJ H
  go_wp2_with (first|((with_reducible refine jc 21 19 ?_);refine jM func21 (Sas.calls aJ _ _ l0 ah _ (kb aB HB) aC.out aR.out) ?_;rintro aN aU ⟨ho0,hb⟩;have af:=aM (Kd.S_lower ho0 (aa4 qB));replace HB:=kH hb;clear hb;(try clear ho0);obtain⟨aF,aG,aH⟩:=Kd.S_slice af.out;subst aH)|((with_reducible refine jc 38 21 ?_);refine jM func38 (SaY.calls aJ _ _ l0 _ _ ah a1 aj _ (kb aB HB) aC.out (kC (Kd.S_reads' af.out).2.2) (Kd.S_reads' af.out).2.1 aS.out) ?_;rintro aO w16 ⟨ho0,hb⟩;have ay:=kL ho0;replace af:=aM (Kd.S_elder' (qS af) (Kd.R_base ho0) hb);replace HB:=kH hb;clear hb;(try clear ho0)))
  go_ret
  exact⟨_,qW,qR ay,qB⟩
def amM (k:Nat) (l0:List S27) (a1:Int):Option (List Int):=(Sa1.f k l0).bind fun av=>(if av=true then (if a1 < 0 then (some ([]:List Int)) else (if a1>=(l0.length:Int) then (some ([]:List Int)) else (if 0<=a1 then (if a1 < (l0.length:Int) then ((akh k ((aa0 l0 a1).f0) ((aa0 l0 a1).f1) ((aa0 l0 a1).f2) ((aa0 l0 a1).f3) ((aa0 l0 a1).f4) a1).bind fun ax=>(some ax)) else (none)) else (none)))) else (some ([]:List Int)))
theorem aqF {G:Prop} (h:G:=by
  go_enter func28,ntmps28
  go_wp2_with (first|((with_reducible refine jc 18 6 ?_);refine jK func18 (Sa1.calls k _ _ l0 true _ (kC aC.out) aD.out A3.out) ?_;intro az hb;replace HB:=kH hb;clear hb))
  go_ret
  exact⟨_,qW,by first|exact Kd.R_nil _ _ _ _ _|exact Kd.N_nil _ _ _ _ _|exact Kd.V_nil _ _ _ _ _|exact Kd.Q_nil _ _ _ _ _|exact Kd.S_nil _ _ _ _ _,qB⟩):G:=h
theorem amN (k:Nat) (A0:Option Addr) (c0:Nat) (l0:List S27) (a1:Int) (r:List Int) (w:World) (hr0:Kd.C k27 w A0 l0.length l0) (hc0:l0.length<=c0) (h:amM k l0 a1=some r) :
  Calls prog 28 #[.slice A0 l0.length c0,iV a1] w fun e w'=>∃ aI:Value,e = .returned (aI)/\Kd.R (Kd.int .i64) 3 w' w.heap.size (fun _=>True) aI r/\Below w.heap.size w w':=by
 have aL:=underlying27
 have aC:=aM hr0
 have aD:=aM hc0
 clear hr0 hc0
 have HB:=jb_ w
 have H:=h;unfold amM at H
 clear h
 obtain⟨av,A3,H⟩:=qE H
 try dsimp only at H
 replace H:=jB H;rcases H with ⟨rfl,H⟩ | ⟨rfl,H⟩
 ·replace H:=jD H;rcases H with ⟨aF,H⟩ | ⟨aF,H⟩
  ·obtain rfl:=oJ H
   exact aqF
  replace H:=jD H;rcases H with ⟨aG,H⟩ | ⟨aG,H⟩
  ·obtain rfl:=oJ H
   exact aqF
  replace H:=jI H;obtain⟨aN,H⟩:=H
  replace H:=jI H;obtain⟨aJ,H⟩:=H
  obtain⟨ax,aP,H⟩:=qE H
  try dsimp only at H
  obtain rfl:=oJ H
  go_enter func28,ntmps28
  go_wp2_with (first|((with_reducible refine jc 18 6 ?_);refine jK func18 (Sa1.calls k _ _ l0 true _ (kC aC.out) aD.out A3.out) ?_;intro az hb;replace HB:=kH hb;clear hb;have ak:0<=(a1:Int):=qD;have au:a1 < (l0.length:Int):=qD;obtain⟨aH,aA,af,ag,ah,ai,aj⟩:=ab2 aC.out a1 ak au;cases aA;replace af:=kx HB af;replace ag:=kx HB ag;replace ah:=kx HB ah;replace ai:=kx HB ai;replace aj:=kx HB aj;replace ak:=eq_true ak;replace au:=eq_true au)|((with_reducible refine jc 47 23 ?_);refine jG func47 #[.agg #[iV ((aa0 l0 a1).f0),iV ((aa0 l0 a1).f1),iV ((aa0 l0 a1).f2),iV ((aa0 l0 a1).f3),iV ((aa0 l0 a1).f4)],iV a1] ?_;refine (aih _ _ _ _ _ _ _ _ _ (aa1.out (by assumption))).mono ?_;rintro e aO ⟨aK,rfl,aB,hb⟩;refine⟨_,rfl,?_⟩;have ay:=kL aB;replace HB:=kH hb;clear hb;(try clear aB)))
  go_ret
  exact⟨_,qW,qR ay,qB⟩
 obtain rfl:=oJ H
 go_enter func28,ntmps28
 go_wp2_with (first|((with_reducible refine jc 18 6 ?_);refine jK func18 (Sa1.calls k _ _ l0 false _ (kC aC.out) aD.out A3.out) ?_;intro az hb;replace HB:=kH hb;clear hb))
 go_ret
 exact⟨_,qW,by first|exact Kd.R_nil _ _ _ _ _|exact Kd.N_nil _ _ _ _ _|exact Kd.V_nil _ _ _ _ _|exact Kd.Q_nil _ _ _ _ _|exact Kd.S_nil _ _ _ _ _,qB⟩
end Go.Proofs.YtebpplallecogaaGreat.M
namespace Go.Proofs.YtebpplallecogaaGreat.M
open Go.Proofs.Tryz Go.RowKit Go.Proofs.YtebpplallecogaaGreatW.PrintWords Go.Proofs.YtebpplallecogaaGreatW.PrintLast Go.Proofs.YtebpplallecogaaGreatW.PrintMore Kd
attribute [local go_sem] aan aal aay aax aaf aae aam aak
mutual
def ag6:Nat->List S27->Int->List Bool->List Bool->Bool->Option (Bool)
 | 0,_,_,_,_,_=>none
 | k+1,x3,x4,x5,x6,x34=>if x34=true then ((SbL.f k x5 x6).bind fun aW=>(some aW)) else ((Sa3.f k x3).bind fun ay=>((amM k x3 x4).bind fun ae=>(aep k x5 ay ae 0)))
def aep:Nat->List Bool->List (List Bool)->List Int->Int->Option (Bool)
 | 0,_,_,_,_=>none
 | k+1,x5,x7,x8,x9=>if x9 < 12 then (aeo k x5 x7 x8 x9 false 0) else (some ((x5.length:Int) == 12))
def aeo:Nat->List Bool->List (List Bool)->List Int->Int->Bool->Int->Option (Bool)
 | 0,_,_,_,_,_,_=>none
 | k+1,x5,x7,x8,x9,ed,bF=>if bF < (x8.length:Int) then (if ed=true then (aeo k x5 x7 x8 x9 true (wrap64 (bF+1))) else (if 0<=bF then (if 0<=(rd x8 bF) then (if (rd x8 bF) < (x7.length:Int) then (if 0<=x9 then (if x9 < ((abX x7 (rd x8 bF)).length:Int) then (aeo k x5 x7 x8 x9 (abo false (abX x7 (rd x8 bF)) x9) (wrap64 (bF+1))) else (none)) else (none)) else (none)) else (none)) else (none))) else (if 0<=x9 then (if x9 < (x5.length:Int) then (if (ed != (abo false x5 x9))=true then (some false) else (aep k x5 x7 x8 (wrap64 (x9+1)))) else (none)) else (none))
end
def SbK.f (k:Nat) (l0:List Int):Option (Bool):=if (l0.length:Int) > 1048576 then (some true) else ((amq k l0).bind fun az=>((aj9 k az.1 az.2).bind fun aa=>((aj1 k az.1 az.2).bind fun au=>((SbL.f k aa au).bind fun bG=>(if bG=true then (ag6 k az.1 az.2 aa au ((aa.length:Int) == 0)) else (ag6 k az.1 az.2 aa au true))))))
theorem SbK.calls (k:Nat) (A0:Option Addr) (c0:Nat) (l0:List Int) (r:Bool) (w:World) (hr0:Kd.C (Kd.int .u8) w A0 l0.length l0) (hc0:l0.length<=c0) (h:SbK.f k l0=some r) :
  Calls prog 7 #[.slice A0 l0.length c0] w fun e w'=>e = .returned (.bool r)/\Below w.heap.size w w':=by
 have eU:=aM hr0
 have eX:=aM hc0
 clear hr0 hc0
 have HB:=jb_ w
 have H:=h;unfold SbK.f at H
 clear h
 by_cases c2:(l0.length:Int) > 1048576
 ·rw [if_pos c2] at H
  have bA:=decide_eq_true c2
  have bB:decide (1048576 < l0.length)=true:=decide_eq_true (by omega)
  clear c2
  obtain rfl:=oJ H
  go_enter func7,ntmps7
  go_wp2
  go_ret
  exact⟨qW,qB⟩
 rw [if_neg c2] at H
 have bA:=decide_eq_false c2
 have bB:decide (1048576 < l0.length)=false:=decide_eq_false (by omega)
 clear c2
 obtain⟨⟨ax,aD⟩,A3,H⟩:=qE H
 try dsimp only at H
 obtain⟨aa,A4,H⟩:=qE H
 try dsimp only at H
 obtain⟨au,A5,H⟩:=qE H
 try dsimp only at H
 have di:=aM H
 clear H
 go_enter func7,ntmps7
 go_upto_region 6 with (first|((with_reducible refine jc 25 17 ?_);refine jM func25 (amr k _ _ l0 ax aD _ (kC eU.out) eX.out A3.out) ?_;rintro ek w7 ⟨ho0,hb⟩;have ah:=kL ho0;replace HB:=kH hb;clear hb;(try clear ho0);obtain⟨bQ,bR,eY⟩:=R_slice ah.out;subst eY)|((with_reducible refine jc 24 22 ?_);refine jM func24 (amL k _ _ ax aD aa _ (kJ ah) (kp ah) A4.out) ?_;rintro aJ w9 ⟨ho0,hb⟩;have ai:=kL ho0;replace ah:=kR ah hb;replace HB:=kH hb;clear hb;(try clear ho0))|((with_reducible refine jc 26 25 ?_);refine jM func26 (amn k _ _ ax aD au _ (kJ ah) (kp ah) A5.out) ?_;rintro bH fP ⟨ho0,hb⟩;have aA:=aM (R_lower (R_new' ho0 (R_lt (qR ai))) (aa4 qB));replace ah:=kR ah hb;replace ai:=kO ai ho0 hb;replace HB:=kH hb;clear hb;(try clear ho0)))
 (try simp only [Act.put,List.setIfInBounds_toArray,List.set_cons_zero,List.set_cons_succ])
 go_cut [34] (fun v34 wc=>∃ (kq:Nat) (aX:Bool),v34 = .bool aX/\aa1 (ag6 kq ax aD aa au aX=some r)/\aa1 (kq<=k)/\aa1 (Kd.R k27 27 wc w.heap.size (fun _=>True) (.slice bQ ax.length bR) ax)/\aa1 (Kd.R Kd.bool 4 wc w.heap.size (fun k_=>some k_≠(bH:Value).ownBlock) aJ aa)/\aa1 (Kd.R Kd.bool 4 wc w.heap.size (fun k_=>some k_≠(aJ:Value).ownBlock) bH au)/\aa1 (Below w.heap.size w wc))
 case first =>
  have H:=di.out
  clear di
  obtain⟨bG,eu,H⟩:=qE H
  try dsimp only at H
  replace H:=jB H;rcases H with ⟨rfl,H⟩ | ⟨rfl,H⟩
  ·have H':=aM H
   clear H
   obtain⟨dn,dw,dx⟩:=R_slice ai.out
   subst dx
   obtain⟨dz,dA,dB⟩:=R_slice aA.out
   subst dB
   go_wp2_with (first|((with_reducible refine jc 27 28 ?_);refine jK func27 (SbL.calls k _ _ aa _ _ au true _ (kJ ai) (kp ai) (kJ aA) (kp aA) eu.out) ?_;rintro w' ⟨nd,rfl⟩))
   go_meet
   exact⟨_,_,qZ,H',⟨by first|omega|exact Nat.le_refl _⟩,⟨qR ah⟩,⟨by (with_reducible repeat (first|apply R_alloc|apply R_drewN|apply R_drew));exact R_mono ai.out (fun _ hk=>hk.2)⟩,⟨by (with_reducible repeat (first|apply R_alloc|apply R_drewN|apply R_drew));exact R_mono aA.out (fun _ hk=>hk.2)⟩,⟨qB⟩⟩
  have H':=aM H
  clear H
  obtain⟨dC,dD,dE⟩:=R_slice ai.out
  subst dE
  obtain⟨dF,dG,dH⟩:=R_slice aA.out
  subst dH
  go_wp2_with (first|((with_reducible refine jc 27 28 ?_);refine jK func27 (SbL.calls k _ _ aa _ _ au false _ (kJ ai) (kp ai) (kJ aA) (kp aA) eu.out) ?_;rintro w' ⟨nd,rfl⟩))
  go_meet
  exact⟨_,_,qZ,H',⟨by first|omega|exact Nat.le_refl _⟩,⟨qR ah⟩,⟨by (with_reducible repeat (first|apply R_alloc|apply R_drewN|apply R_drew));exact R_mono ai.out (fun _ hk=>hk.2)⟩,⟨by (with_reducible repeat (first|apply R_alloc|apply R_drewN|apply R_drew));exact R_mono aA.out (fun _ hk=>hk.2)⟩,⟨qB⟩⟩
 clear di
 try clear c2;try clear bA;try clear bB
 obtain⟨kq,aX,rfl,HA,bN,aO,av,aP,HB⟩:=hcut
 cases kq with
 | zero=>exact absurd HA.out (by simp [ag6])
 | succ bS =>
  have H:=HA.out
  clear HA
  simp only [ag6] at H
  replace H:=jB H;rcases H with ⟨rfl,H⟩ | ⟨rfl,H⟩
  ·obtain⟨aW,eZ,H⟩:=qE H
   try dsimp only at H
   obtain rfl:=oJ H
   obtain⟨dI,dJ,dK⟩:=R_slice av.out
   subst dK
   obtain⟨dL,dM,dN⟩:=R_slice aP.out
   subst dN
   go_wp2_with (first|((with_reducible refine jc 27 37 ?_);refine jK func27 (SbL.calls bS _ _ aa _ _ au aW _ (kJ av) (kp av) (kJ aP) (kp aP) eZ.out) ?_;rintro w' ⟨nd,rfl⟩))
   go_ret
   exact⟨qW,qB⟩
  obtain⟨ay,fe,H⟩:=qE H
  try dsimp only at H
  obtain⟨ae,fo,H⟩:=qE H
  try dsimp only at H
  have H':=aM H
  clear H
  go_wp2_with (first|((with_reducible refine jc 20 39 ?_);refine jM func20 (Sa3.calls bS _ _ ax ay _ (kJ aO) (kp aO) fe.out) ?_;rintro bI fQ ⟨ho0,hb⟩;have aS:=aM (S_lower (S_new' (S_new' ho0 (R_lt (qR av))) (R_lt (qR aP))) (aa4 qB));replace aO:=kR aO hb;replace av:=kR av hb;replace aP:=kR aP hb;replace HB:=kH hb;clear hb;(try clear ho0))|((with_reducible refine jc 28 42 ?_);refine jM func28 (amN bS _ _ ax aD ae _ (kJ aO) (kp aO) fo.out) ?_;rintro bJ fT ⟨ho0,hb⟩;have bL:=kL ho0;replace aO:=kR aO hb;replace av:=kR av hb;replace aP:=kR aP hb;replace aS:=kS aS hb;replace HB:=kH hb;clear hb;(try clear ho0)))
  go_loopg [9] bS (fun kq v9 w'=>∃ (aj:Int),v9 = iV aj/\aa1 (aep kq aa ay ae aj=some r)/\aa1 (kq<=bS)/\aa1 (Kd.R Kd.bool 4 w' w.heap.size (fun _=>True) aJ aa)/\aa1 (Kd.S (Kd.slice 4 Kd.bool) 37 w' w.heap.size (fun k_=>some k_≠(aJ:Value).ownBlock) bI ay)/\aa1 (Kd.R (Kd.int .i64) 3 w' w.heap.size (fun _=>True) bJ ae)/\aa1 (Below w.heap.size w w'))
  case atStart=>exact⟨(0),qZ,H',⟨Nat.le_refl _⟩,⟨by (with_reducible repeat (first|apply R_alloc|apply R_drewN|apply R_drew));exact R_mono av.out (fun _ hk=>trivial)⟩,⟨by (with_reducible repeat (first|apply S_alloc|apply S_drewN|apply S_drew));exact S_mono aS.out (fun _ hk=>hk.1.2)⟩,⟨qR bL⟩,⟨qB⟩⟩
  clear H'
  try clear c2;try clear bA;try clear bB
  obtain⟨aj,rfl,HA,bO,av,aK,aI,HB⟩:=hrel
  rcases gk with _|k2
  ·exact absurd HA.out (by simp [aep])
  have H:=HA.out
  clear HA
  simp only [aep] at H
  replace H:=jD H;rcases H with ⟨bK,H⟩ | ⟨bK,H⟩
  ·have H':=aM H
   clear H
   go_wp2
   go_loopg [10,11] k2 (fun kq v10 v11 w'=>∃ (aB:Bool) (ak:Int),v10 = .bool aB/\v11 = iV ak/\aa1 (aeo kq aa ay ae aj aB ak=some r)/\aa1 (kq<=k2)/\aa1 (Kd.R Kd.bool 4 w' w.heap.size (fun _=>True) aJ aa)/\aa1 (Kd.S (Kd.slice 4 Kd.bool) 37 w' w.heap.size (fun k_=>some k_≠(aJ:Value).ownBlock) bI ay)/\aa1 (Kd.R (Kd.int .i64) 3 w' w.heap.size (fun _=>True) bJ ae)/\aa1 (Below w.heap.size w w'))
   case atStart=>exact⟨(false),(0),qZ,qZ,H',⟨Nat.le_refl _⟩,⟨qR av⟩,⟨qS aK⟩,⟨qR aI⟩,⟨qB⟩⟩
   clear H'
   try clear c2;try clear bA;try clear bB;try clear bK
   obtain⟨aB,ak,rfl,rfl,HA,bP,av,aK,aI,HB⟩:=hrel
   rcases gk with _|k3
   ·exact absurd HA.out (by simp [aeo])
   have H:=HA.out
   clear HA
   simp only [aeo] at H
   replace H:=jD H;rcases H with ⟨bT,H⟩ | ⟨bT,H⟩
   ·replace H:=jB H;rcases H with ⟨rfl,H⟩ | ⟨rfl,H⟩
    ·have H':=aM H
     clear H
     obtain⟨fq,fu,dO⟩:=R_slice aI.out
     subst dO
     go_wp2
     go_roundg k3
     case measure=>have:=bN.out;have:=bO.out;have:=bP.out;omega
     exact⟨(true),(wrap64 (ak+1)),qZ,qZ,H',⟨by have:=bN.out;have:=bO.out;have:=bP.out;omega⟩,⟨qR av⟩,⟨qS aK⟩,⟨qR aI⟩,⟨qB⟩⟩
    replace H:=jI H;obtain⟨eB,H⟩:=H
    replace H:=jI H;obtain⟨eD,H⟩:=H
    replace H:=jI H;obtain⟨eF,H⟩:=H
    replace H:=jI H;obtain⟨eG,H⟩:=H
    replace H:=jI H;obtain⟨eH,H⟩:=H
    have H':=aM H
    clear H
    obtain⟨fw,fA,dP⟩:=R_slice aI.out
    subst dP
    have aY:0<=(ak:Int):=qD
    have aZ:ak < (ae.length:Int):=qD
    obtain⟨dQ,bU,bV⟩:=Kd.at_int (R_reads' aI.out).2.2 ak aY aZ
    cases bU
    replace aY:=eq_true aY
    replace aZ:=eq_true aZ
    obtain⟨fB,fC,dR⟩:=S_slice aK.out
    subst dR
    have aT:0<=((rd ae ak):Int):=qD
    have aU:(rd ae ak) < (ay.length:Int):=qD
    obtain⟨dS,df,dh,bW,bg,aQ,aR⟩:=ap4 (S_reads' aK.out).2.2 (rd ae ak) aT aU
    cases bW
    obtain⟨dU,bC,bD,aV⟩:=S_get aK.out [] (rd ae ak) aT (by first|exact aU|exact qD|(have e_:=(S_reads' aK.out).1;omega))
    obtain⟨bX,rfl,aF⟩:=bD
    have aC:=aV 0 _ rfl
    rw [Nat.add_zero,show ((Kd.slice 4 Kd.bool)).sz=1 from rfl,Nat.mul_one] at aC
    replace aC:=Option.some.inj (aC.symm.trans bg)
    rw [aC] at aF
    have bY:=aM (show Kd.R Kd.bool 4 _ _ _ _ (abX ay (rd ae ak)) from aF)
    clear aC aF
    clear aV bC
    have bi:=aM aR
    have bZ:=aM aQ
    clear aR aQ
    replace aT:=eq_true aT
    replace aU:=eq_true aU
    have bn:0<=(aj:Int):=qD
    have bq:aj < ((abX ay (rd ae ak)).length:Int):=qD
    obtain⟨dV,cu,cz⟩:=Kd.at_bool (kC bi.out) aj bn bq
    cases cu
    replace bn:=eq_true bn
    replace bq:=eq_true bq
    go_wp2
    go_roundg k3
    case measure=>have:=bN.out;have:=bO.out;have:=bP.out;omega
    exact⟨(abo false (abX ay (rd ae ak)) aj),(wrap64 (ak+1)),qZ,qZ,H',⟨by have:=bN.out;have:=bO.out;have:=bP.out;omega⟩,⟨qR av⟩,⟨qS aK⟩,⟨qR aI⟩,⟨qB⟩⟩
   replace H:=jI H;obtain⟨eO,H⟩:=H
   replace H:=jI H;obtain⟨eP,H⟩:=H
   by_cases bu:(aB != (abo false aa aj))=true
   ·rw [if_pos bu] at H
    have cB:(aB != (abo false aa aj))=true:=bu
    (try (have cK:decide (aB=(abo false aa aj))=false:=by simpa using bu))
    (try (have cO:(aB == (abo false aa aj))=false:=by simpa using bu))
    (try (have eQ:¬ (aB=(abo false aa aj)):=by simpa using bu))
    clear bu
    obtain rfl:=oJ H
    obtain⟨fD,fE,dW⟩:=R_slice aI.out
    subst dW
    obtain⟨fF,fG,dX⟩:=R_slice av.out
    subst dX
    have aG:0<=(aj:Int):=qD
    have aH:aj < (aa.length:Int):=qD
    obtain⟨bM,bv,bz⟩:=Kd.at_bool (R_reads' av.out).2.2 aj aG aH
    cases bv
    replace aG:=eq_true aG
    replace aH:=eq_true aH
    go_wp2
    go_ret
    exact⟨qW,qB⟩
   rw [if_neg bu] at H
   have cB:(aB != (abo false aa aj))=false:=by simpa using bu
   (try (have cK:decide (aB=(abo false aa aj))=true:=by simpa using bu))
   (try (have cO:(aB == (abo false aa aj))=true:=by simpa using bu))
   clear bu
   have H':=aM H
   clear H
   obtain⟨fH,fI,dY⟩:=R_slice aI.out
   subst dY
   obtain⟨fJ,fK,dZ⟩:=R_slice av.out
   subst dZ
   have aG:0<=(aj:Int):=qD
   have aH:aj < (aa.length:Int):=qD
   obtain⟨bM,bv,bz⟩:=Kd.at_bool (R_reads' av.out).2.2 aj aG aH
   cases bv
   replace aG:=eq_true aG
   replace aH:=eq_true aH
   go_wp2
   go_roundg k3
   case measure=>have:=bN.out;have:=bO.out;have:=bP.out;omega
   exact⟨(wrap64 (aj+1)),qZ,H',⟨by have:=bN.out;have:=bO.out;have:=bP.out;omega⟩,⟨qR av⟩,⟨qS aK⟩,⟨qR aI⟩,⟨qB⟩⟩
  obtain rfl:=oJ H
  obtain⟨fM,fO,d9⟩:=R_slice av.out
  subst d9
  go_wp2
  go_ret
  exact⟨qW,qB⟩
/-- THE ONE PURE STATEMENT of SbK: yours. -/
def SbK.Pure:Prop:=∀ (l0:List Int),l0.length<=maxLen->l0.length*1<=140737488351232->(∀ x∈l0,(Lit.int .u8 x).wf=true)->∃ k,SbK.f k l0=some true
theorem SbK.walk (P:SbK.Pure) (a0:Option Addr) (bE cap0:Nat) (z0:List Int) (w:World) (w0:(a0=none/\bE=0/\cap0=0/\z0=[])\/∃ x,a0=some x/\bE<=cap0/\cap0<=maxLen/\z0.length=cap0/\(∀ i,i < z0.length->w.cell? (x.add i)=some (.int .u8 (z0.getD i 0)))/\∀ n∈z0,(Lit.int .u8 n).wf=true) (y0:bE*1<=140737488351232) :
  Calls prog 7 #[.slice a0 bE cap0] w fun e w'=>e = .returned (.bool true)/\Below w.heap.size w w':=by
 obtain⟨l0,rfl,hr0,hm0,hw0,hc0⟩:=agj w0
 obtain⟨k,h⟩:=P l0 hm0 y0 hw0
 refine (SbK.calls k _ _ l0 true w (C_of_reads (d:=(0:Int)) (h1:=fun _=>rfl) hr0) hc0 h).mono ?_
 rintro e w' ⟨rfl,hd⟩
 exact⟨rfl,hd⟩
end Go.Proofs.YtebpplallecogaaGreat.M
namespace Go.Proofs.YtebpplallecogaaGreat.M
open Go.Proofs.Tryz Go.RowKit Go.Proofs.YtebpplallecogaaGreatW.PrintWords Go.Proofs.YtebpplallecogaaGreatW.PrintLast Go.Proofs.YtebpplallecogaaGreatW.PrintMore
attribute [local go_sem] aan aal aay aax aaf aae aam aak
end Go.Proofs.YtebpplallecogaaGreat.M
namespace Go.Proofs.YtebpplallecogaaGreat.M
open Go.Proofs.Tryz Go.RowKit Go.Proofs.YtebpplallecogaaGreatW.PrintWords Go.Proofs.YtebpplallecogaaGreatW.PrintLast Go.Proofs.YtebpplallecogaaGreatW.PrintMore Kd
attribute [local go_sem] aan aal aay aax aaf aae aam aak
def afj:Nat->List S27->List Int->List Int->List S27->Int->Int->Option (List Int)
 | 0,_,_,_,_,_,_=>none
 | k+1,x0,x3,x4,aK,bg,aG=>if aG < bg then (if 0<=aG then (if aG < (aK.length:Int) then ((aj4 ((aa0 aK aG).f0) ((aa0 aK aG).f1) ((aa0 aK aG).f2) ((aa0 aK aG).f3) ((aa0 aK aG).f4)).bind fun aN=>(if aN>=0 then (if ((aa0 aK aG).f0)=7 then (afj k x0 x3 x4 aK bg (wrap64 (aG+1))) else ((Sa9.f k x0 x4 aG).bind fun aJ=>((akf aJ aN).bind fun aU=>(if aU=true then (afj k x0 x3 x4 aK bg (wrap64 (aG+1))) else (if x3.length < 17592186044416 then (afj k x0 (x3 ++ [aG]) x4 aK bg (wrap64 (aG+1))) else (none)))))) else (afj k x0 x3 x4 aK bg (wrap64 (aG+1))))) else (none)) else (none)) else (some x3)
def Sa7.f (k:Nat) (l0:List S27):Option (List Int):=(Sa8.f k l0).bind fun az=>(afj k l0 ([]:List Int) az l0 (l0.length:Int) 0)
end Go.Proofs.YtebpplallecogaaGreat.M
namespace Go.Proofs.YtebpplallecogaaGreat.M
open Go.Proofs.Tryz Go.RowKit Go.Proofs.YtebpplallecogaaGreatW.PrintWords Go.Proofs.YtebpplallecogaaGreatW.PrintLast Go.Proofs.YtebpplallecogaaGreatW.PrintMore
def aqC (l0:List S27):Option (List S27):=if l0.length < 3518437208883 then some l0 else none
end Go.Proofs.YtebpplallecogaaGreat.M
namespace Go.Proofs.YtebpplallecogaaGreat.M
open Go.Proofs.Tryz Go.RowKit Go.Proofs.YtebpplallecogaaGreatW.PrintWords Go.Proofs.YtebpplallecogaaGreatW.PrintLast Go.Proofs.YtebpplallecogaaGreatW.PrintMore Kd
attribute [local go_sem] aan aal aay aax aaf aae aam aak
def ain:Nat->List S27->List Int->Int->Int->Option ((List S27) × Bool)
 | 0,_,_,_,_=>none
 | k+1,x4,aY,bV,aH=>if aH < bV then (if 0<=aH then (if aH < (aY.length:Int) then (if 0<=(rd aY aH) then (if (rd aY aH) < (x4.length:Int) then (ain k (x4.set ((rd aY aH):Int).toNat (⟨4,0,0,0,wrap64 ((rd aY aH)+1)⟩:S27)) aY bV (wrap64 (aH+1))) else (none)) else (none)) else (none)) else (none)) else (some (x4,true))
def Sa2.f (k:Nat) (l0:List S27):Option ((List S27) × Bool):=(Sa1.f k l0).bind fun aI=>(if aI=true then ((aqC l0).bind fun aA=>((Sa7.f k l0).bind fun aa=>(ain k aA aa (aa.length:Int) 0))) else (some (([]:List S27),false)))
end Go.Proofs.YtebpplallecogaaGreat.M
namespace Go.Proofs.YtebpplallecogaaGreat.M
open Go.Proofs.Tryz Go.RowKit Go.Proofs.YtebpplallecogaaGreatW.PrintWords Go.Proofs.YtebpplallecogaaGreatW.PrintLast Go.Proofs.YtebpplallecogaaGreatW.PrintMore PM
theorem ajX {a b:Nat} (h:∀ r,a.testBit r=true->b.testBit r=true):a<=b:=by
 have e:a ||| b=b:=by
  apply Nat.eq_of_testBit_eq
  intro r
  rw [Nat.testBit_or]
  cases h1:a.testBit r
  ·rfl
  rw [h r h1]
  rfl
 rw [<- e]
 exact Nat.left_le_or
theorem sum_set:∀ (L:List Nat) (i x:Nat),i < L.length->(L.set i x).sum+L.getD i 0=L.sum+x
 | a :: L,0,x,h=>by simp;omega
 | a :: L,i+1,x,h=>by
  have:=sum_set L i x (by simpa using h)
  simp only [List.set_cons_succ,List.sum_cons,List.getD_cons_succ]
  omega
theorem anJ:∀ (L:List Nat),(∀ x∈L,x < 4096)->L.sum<=4096*L.length
 | [],h=>by simp
 | a :: L,h=>by
  have:=anJ L (fun x hx=>h x (List.mem_cons_of_mem _ hx))
  have:=h a List.mem_cons_self
  simp only [List.sum_cons,List.length_cons]
  omega
theorem aoy {n:Nat} {L:List Nat} (h:Tab n L):L.sum<=4096*n:=by
 rw [<- h.1]
 refine anJ L fun x hx=>?_
 obtain⟨i,hi,e⟩:=List.getElem_of_mem hx
 have:=h.2 i
 rw [List.getD_eq_getElem?_getD,List.getElem?_eq_getElem hi] at this
 rw [<- e]
 exact this
theorem ahY {c:List SQ} (h:CV (qs c)) {L:List Nat} (hL:Tab c.length L) {i:Nat} (hi:i < c.length) (r:Nat):(bf c L i).testBit r=true↔((∃ j∈nx (q_ (qa c i)) i,(L.getD j 0).testBit r=true)/\sets (q_ (qa c i))≠r)\/uses (q_ (qa c i)) r:=by
 unfold bf
 rw [ap3 (abU h hi) (agS hL _ _)]
 unfold aft
 rw [afR]
 simp
/-- Below the next round,and within what is live. -/
structure Good (c:List SQ) (L:List Nat):Prop where
 tab:Tab c.length L
 up:∀ i,i < c.length->∀ r,(L.getD i 0).testBit r=true->(bf c L i).testBit r=true
 sound:∀ i,i < c.length->∀ r,(L.getD i 0).testBit r=true->Live (qs c) i r
theorem Good.step {c:List SQ} (h:CV (qs c)) {L:List Nat} (g:Good c L) {i:Nat} (hi:i < c.length):Good c (L.set i (bf c L i)):=by
 have hT:=g.tab.set i (bf c L i) (anc h g.tab hi)
 have hget:∀ j,(L.set i (bf c L i)).getD j 0=if j=i then bf c L i else L.getD j 0:=fun j=>ac5 L i j _ 0 (by rw [g.tab.1];exact hi)
 have hmono:∀ j r,j < c.length->(L.getD j 0).testBit r=true->((L.set i (bf c L i)).getD j 0).testBit r=true:=by
  intro j r hj hb
  rw [hget]
  split
  ·rename_i e
   subst e
   exact g.up j hi r hb
  exact hb
 have hbf:∀ j r,j < c.length->(bf c L j).testBit r=true->(bf c (L.set i (bf c L i)) j).testBit r=true:=by
  intro j r hj hb
  rw [ahY h g.tab hj] at hb
  rw [ahY h hT hj]
  rcases hb with ⟨⟨t,ht,hb⟩,hs⟩|hb
  ·exact .inl ⟨⟨t,ht,hmono t r (ajU h hj t ht) hb⟩,hs⟩
  exact .inr hb
 refine⟨hT,fun j hj r hb=>?_,fun j hj r hb=>?_⟩
 ·rw [hget] at hb
  split at hb
  ·rename_i e
   subst e
   exact hbf j r hj hb
  exact hbf j r hj (g.up j hj r hb)
 rw [hget] at hb
 split at hb
 ·rename_i e
  subst e
  rw [ahY h g.tab hj] at hb
  rcases hb with ⟨⟨t,ht,hb⟩,hs⟩|hb
  ·exact Live.flow (by rw [ab1];exact hj) (by rw [acr];exact hs) (by rw [acr];exact ht) (g.sound t (ajU h hj t ht) r hb)
  exact Live.use (by rw [ab1];exact hj) (by rw [acr];exact hb)
 exact g.sound j hj r hb
theorem ajh {c:List SQ} (h:CV (qs c)):∀ (i:Nat),i<=c.length->∀ (L:List Nat) (b:Bool),Good c L->Good c (rnd c i L b).1
 | 0,hi,L,b,g=>g
 | i+1,hi,L,b,g=>ajh h i (by omega) _ _ (g.step h (by omega))
theorem ahH {c:List SQ}:∀ (i:Nat),i<=c.length->∀ (L:List Nat) (b:Bool),L.length=c.length->(rnd c i L b).2=false->b=false/\(rnd c i L b).1=L/\∀ j,j < i->bf c L j=L.getD j 0
 | 0,hi,L,b,hl,e=>⟨e,rfl,fun j hj=>by omega⟩
 | i+1,hi,L,b,hl,e=>by
  obtain⟨e1,e2,e3⟩:=ahH i (by omega) (L.set i (bf c L i)) _ (by rw [List.length_set];exact hl) e
  have f:=Bool.or_eq_false_iff.1 e1
  have f2:bf c L i=L.getD i 0:=by simpa using f.2
  have f3:L.set i (bf c L i)=L:=by rw [f2];exact afv (by omega)
  rw [f3] at e3
  refine⟨f.1,e2.trans f3,fun j hj=>?_⟩
  by_cases hji:j=i
  ·rw [hji]
   exact f2
  exact e3 j (by omega)
theorem akD {c:List SQ} (h:CV (qs c)):∀ (i:Nat),i<=c.length->∀ (L:List Nat) (b:Bool),Good c L->L.sum<=(rnd c i L b).1.sum/\((rnd c i L b).2=true->b=true\/L.sum < (rnd c i L b).1.sum)
 | 0,hi,L,b,g=>⟨Nat.le_refl _,fun e=>.inl e⟩
 | i+1,hi,L,b,g=>by
  obtain⟨h1,h2⟩:=akD h i (by omega) (L.set i (bf c L i)) (b || !decide (bf c L i=L.getD i 0)) (g.step h (i:=i) (by omega))
  have hs:=sum_set L i (bf c L i) (by rw [g.tab.1];omega)
  have hle:=ajX (g.up i (by omega))
  simp only [rnd]
  refine⟨by omega,fun e=>?_⟩
  rcases h2 e with e2|e2
  ·rcases Bool.or_eq_true_iff.1 e2 with e3|e3
   ·exact .inl e3
   have:bf c L i≠L.getD i 0:=by simpa using e3
   exact .inr (by omega)
  exact .inr (by omega)
/-- The table of what is live before each quad. -/
structure LT (c:List SQ) (L:List Nat):Prop where
 tab:Tab c.length L
 iff:∀ i,i < c.length->∀ r,(L.getD i 0).testBit r=true↔Live (qs c) i r
theorem ahP {c:List SQ} (h:CV (qs c)):∀ (m:Nat) (L:List Nat),Good c L->4096*c.length < m+L.sum->∃ T,LT c T/\Ev (fun k=>aev k c (rows L)) (rows T)/\Ev (fun k=>adq k c (ints L) true) (ints T)
 | 0,L,g,hm=>by
  have:=aoy g.tab
  omega
 | m+1,L,g,hm=>by
  have h6:=ab9 h
  have hw:wrap64 ((c.length:Int) - 1)=(c.length:Int) - 1:=aaN (by omega) (by omega)
  have hr:=Sb0.out h c.length (Nat.le_refl _) L false g.tab
  have hi:∀ v,Ev (fun k=>adq k c (ints (rnd c c.length L false).1) (rnd c c.length L false).2) v->Ev (fun k=>ac3 k c (ints L) false ((c.length:Int) - 1)) v:=fun v=>Sa8.out h c.length (Nat.le_refl _) L false g.tab
  cases e:(rnd c c.length L false).2 with
  | false =>
   obtain⟨_,e2,e3⟩:=ahH c.length (Nat.le_refl _) L false g.tab.1 e
   refine⟨L,⟨g.tab,fun i hi r=>?_⟩,?_,?_⟩
   ·refine live_of_closed (c:=qs c) (T:=fun i r=>i < c.length->(L.getD i 0).testBit r=true) (fun i r hi' ht=>g.sound i (by rwa [ab1] at hi') r (ht (by rwa [ab1] at hi'))) ?_ ?_ i r (by rw [ab1];exact hi) |>.symm.trans ⟨fun x=>x hi,fun x _=>x⟩ |>.symm
    ·intro i r _ hu hi
     rw [<- e3 i hi,ahY h g.tab hi]
     rw [acr] at hu
     exact .inr hu
    intro i j r _ hs hj ht hi
    rw [<- e3 i hi,ahY h g.tab hi]
    rw [acr] at hs hj
    exact .inl ⟨⟨j,hj,ht (ajU h hi j hj)⟩,hs⟩
   ·refine Ev.succ ?_
    simp only [aev,Sb0.f,hw]
    refine Ev.bind hr ?_
    refine aa5 (aaX Ev.pure ?_) ?_
    ·rw [e2]
    simp [e]
   refine Ev.succ ?_
   simp only [adq,hw]
   refine aa2 (hi _ ?_)
   rw [e,e2]
   refine Ev.succ ?_
   simp only [adq]
   exact aa5 Ev.pure
  | true =>
   have hs:=(akD h c.length (Nat.le_refl _) L false g).2 e
   have hs':L.sum < (rnd c c.length L false).1.sum:=by
    rcases hs with x|x
    ·cases x
    exact x
   obtain⟨T,t1,t2,t3⟩:=ahP h m (rnd c c.length L false).1 (ajh h c.length (Nat.le_refl _) L false g) (by omega)
   refine⟨T,t1,?_,?_⟩
   ·refine Ev.succ ?_
    simp only [aev,Sb0.f,hw]
    refine Ev.bind hr (aa2 t2 ?_)
    exact e
   refine Ev.succ ?_
   simp only [adq,hw]
   refine aa2 (hi _ ?_)
   rw [e]
   exact t3
theorem al6 {c:List SQ}:Good c (List.replicate c.length 0):=by
 have z:∀ i,(List.replicate c.length 0).getD i 0=0:=by
  intro i
  rw [List.getD_eq_getElem?_getD,List.getElem?_replicate]
  split <;> rfl
 refine⟨⟨by simp,fun i=>by rw [z];decide⟩,fun i hi r hb=>?_,fun i hi r hb=>?_⟩ <;>
 ·rw [z] at hb
  simp at hb
theorem aid {c:List SQ} (h6:c.length<=600) {v:List (List Bool)} (g:Ev (fun k=>aev k c (rows (List.replicate c.length 0))) v):∀ (d p:Nat),p+d=c.length->Ev (fun k=>af9 k c (rows (List.replicate p 0)) (p:Int)) v
 | 0,p,hp=>by
  refine Ev.succ ?_
  simp only [af9]
  refine aa5 ?_
  rw [show p=c.length from by omega]
  exact g
 | d+1,p,hp=>by
  refine Ev.succ ?_
  simp only [af9,ae1,List.length_replicate,aap (show p < 9223372036854775807 by omega)]
  refine aa2 (aa2 (aa2 ?_))
  have:=aid h6 g d (p+1) (by omega)
  rw [List.replicate_succ',show rows (List.replicate p 0 ++ [0])=rows (List.replicate p 0) ++ [List.replicate 12 false] from by simp [rows,row_zero]] at this
  exact this
/-- Both answer one table: what is live. -/
theorem aiE {c:List SQ} (h:CV (qs c)):∃ T,LT c T/\Ev (fun k=>Sas.f k c) (rows T)/\Ev (fun k=>Sa8.f k c) (ints T):=by
 have h6:=ab9 h
 obtain⟨T,t1,t2,t3⟩:=ahP h (4096*c.length+1) (List.replicate c.length 0) al6 (by omega)
 refine⟨T,t1,?_,?_⟩
 ·simp only [Sas.f]
  refine aaH (Ev.bind (acx c) (aa2 ?_ (decide_eq_true h)))
  exact aid h6.2 t2 c.length 0 (by omega)
 simp only [Sa8.f,Int.toNat_natCast]
 refine aa2 (aa2 ?_)
 rw [show List.replicate c.length (0:Int)=ints (List.replicate c.length 0) from by simp [ints]]
 exact t3
theorem ajz {s r:Nat} (hs:s < 65536) (hr:r < 16):akf (s:Int) (r:Int)=some (s.testBit r):=by
 unfold akf
 rw [if_pos (by omega),ap1 hs hr]
/-- A quad is dead. -/
def dd (c:List SQ) (L:List Nat) (i:Nat):Bool:=((qa c i).f0 == 1 || (qa c i).f0 == 2 || (qa c i).f0 == 3) && !(aft (q_ (qa c i)) i L).testBit (qa c i).f1.toNat
def ahV (c:List SQ) (L:List Nat) (i:Nat):SQ:=if dd c L i=true then ⟨4,0,0,0,((i+1:Nat):Int)⟩ else qa c i
def aec (L:List Nat) (c:List SQ):List SQ:=(List.range c.length).map (ahV c L)
theorem abJ (L:List Nat) (c:List SQ):(aec L c).length=c.length:=by simp [aec]
theorem aeb (L:List Nat) {c:List SQ} {i:Nat} (h:i < c.length):qa (aec L c) i=ahV c L i:=by simp [aec,qa,List.getD_eq_getElem?_getD,h]
theorem amW {s:Nat} {r:Int} (h0:0<=r) (h1:r < 12):abo false (row s) r=s.testBit r.toNat:=by
 have:=abD false (row s) r.toNat
 rw [Int.toNat_of_nonneg h0] at this
 rw [this]
 exact acC _ _ (by omega)
theorem ar1 {c:List SQ} (h:CV (qs c)) {i:Nat} (hi:i < c.length) (L:List Nat):alH (qa c i).f0 (qa c i).f1 (qa c i).f2 (qa c i).f3 (qa c i).f4 (row (aft (q_ (qa c i)) i L))=some (dd c L i):=by
 obtain⟨⟨d0,d1⟩,_⟩:=abE (abU h hi)
 simp only [q_] at d0 d1
 unfold alH dd
 rw [amW d0 d1,abq]
 by_cases c1:(qa c i).f0=1
 ·rw [if_pos c1,if_pos d0,if_pos (show (qa c i).f1 < ((12:Nat):Int) by omega)]
  simp [c1]
 rw [if_neg c1]
 by_cases c2:(qa c i).f0=2
 ·rw [if_pos c2,if_pos d0,if_pos (show (qa c i).f1 < ((12:Nat):Int) by omega)]
  simp [c2]
 rw [if_neg c2]
 by_cases c3:(qa c i).f0=3
 ·rw [if_pos c3,if_pos d0,if_pos (show (qa c i).f1 < ((12:Nat):Int) by omega)]
  simp [c3]
 rw [if_neg c3]
 simp [c1,c2,c3]
theorem Sam.out {c:List SQ} (h:CV (qs c)) {L:List Nat} (hL:Tab c.length L):∀ (d p:Nat),p+d=c.length->Ev (fun k=>aew k c ((aec L c).take p) (rows L) (p:Int)) (aec L c,true)
 | 0,p,hp=>by
  refine Ev.succ ?_
  simp only [aew]
  refine aa5 (aaX Ev.pure ?_)
  rw [List.take_of_length_le (by rw [abJ];omega)]
 | d+1,p,hp=>by
  have h6:=ab9 h
  have hi:p < c.length:=by omega
  refine Ev.succ ?_
  have lt:((aec L c).take p).length < 3518437208883:=by rw [List.length_take,abJ];omega
  have ih:=Sam.out h hL d (p+1) (by omega)
  have e:(aec L c).take p ++ [ahV c L p]=(aec L c).take (p+1):=by
   rw [<- aeb L hi]
   exact abV _ (by rw [abJ];exact hi)
  rw [<- e] at ih
  simp only [aew,ac4,aap (show p < 9223372036854775807 by omega)]
  refine aa2 (aa2 (Ev.bind (amA h hL hi) ?_))
  rw [ar1 h hi]
  refine aaH ?_
  by_cases g:dd c L p=true
  ·rw [ahV,if_pos g] at ih
   exact aa2 (aa2 ih lt)
  rw [ahV,if_neg g] at ih
  exact aa5 (aa2 ih lt)
/-- The dead quads from p on. -/
def adh (c:List SQ) (L:List Nat):List Nat:=(List.range c.length).filter (dd c L)
def upto (c:List SQ) (L:List Nat) (p:Nat):List Nat:=(List.range p).filter (dd c L)
theorem aku (c:List SQ) (L:List Nat) (p:Nat):upto c L (p+1)=upto c L p ++ (if dd c L p=true then [p] else []):=by
 unfold upto
 rw [List.range_succ,List.filter_append]
 congr 1
 by_cases h:dd c L p=true <;> simp [h]
theorem ajc (c:List SQ) (L:List Nat) (p:Nat):(upto c L p).length<=p:=by
 have:=List.length_filter_le (dd c L) (List.range p)
 rwa [List.length_range] at this
theorem Sa7.out {c:List SQ} (h:CV (qs c)) {L:List Nat} (hL:Tab c.length L):∀ (d p:Nat),p+d=c.length->Ev (fun k=>afj k c (ints (upto c L p)) (ints L) c (c.length:Int) (p:Int)) (ints (adh c L))
 | 0,p,hp=>by
  refine Ev.succ ?_
  simp only [afj]
  refine aa5 (aaX Ev.pure ?_)
  rw [show p=c.length from by omega]
  rfl
 | d+1,p,hp=>by
  have h6:=ab9 h
  have hi:p < c.length:=by omega
  have hs:aj4 (qa c p).f0 (qa c p).f1 (qa c p).f2 (qa c p).f3 (qa c p).f4=some (sets (q_ (qa c p))):=aqv (q_ (qa c p))
  have ih:=Sa7.out h hL d (p+1) (by omega)
  rw [aku] at ih
  have ha:=agS hL (q_ (qa c p)) p
  obtain⟨⟨d0,d1⟩,_⟩:=abE (abU h hi)
  simp only [q_] at d0 d1
  refine Ev.succ ?_
  simp only [afj,ac4,hs,aap (show p < 9223372036854775807 by omega)]
  refine aa2 (aa2 (aa2 (aaH ?_)))
  by_cases g:(qa c p).f0=1\/(qa c p).f0=2\/(qa c p).f0=3
  ·have es:sets (q_ (qa c p))=(qa c p).f1:=by
    unfold sets
    exact if_pos (by show (qa c p).f0=1\/(qa c p).f0=2\/(qa c p).f0=3\/(qa c p).f0=7;omega)
   have gd:dd c L p = !(aft (q_ (qa c p)) p L).testBit (qa c p).f1.toNat:=by
    unfold dd
    rcases g with g|g|g <;> simp [g]
   rw [es]
   refine aa2 (aa5 (Ev.bind (amK h hL hi) ?_))
   have hb:=ajz (s:=aft (q_ (qa c p)) p L) (r:=(qa c p).f1.toNat) (by omega) (by omega)
   rw [Int.toNat_of_nonneg d0] at hb
   rw [hb]
   refine aaH ?_
   cases t:(aft (q_ (qa c p)) p L).testBit (qa c p).f1.toNat with
   | true =>
    refine aa2 ?_ rfl
    rw [gd,t] at ih
    simpa using ih
   | false =>
    refine aa5 (aa2 ?_ (by rw [aaV];have:=ajc c L p;omega)) (by simp)
    rw [gd,t] at ih
    have e:ints (upto c L p) ++ [(p:Int)]=ints (upto c L p ++ [p]):=by simp [ints]
    rw [e]
    simpa using ih
  have gd:dd c L p=false:=by
   unfold dd
   have g1:(qa c p).f0≠1:=by omega
   have g2:(qa c p).f0≠2:=by omega
   have g3:(qa c p).f0≠3:=by omega
   simp [g1,g2,g3]
  rw [gd] at ih
  simp only [Bool.false_eq_true,if_false,List.append_nil] at ih
  by_cases g7:(qa c p).f0=7
  ·have es:sets (q_ (qa c p))=(qa c p).f1:=by
    unfold sets
    exact if_pos (.inr (.inr (.inr g7)))
   rw [es]
   exact aa2 (aa2 ih)
  have es:sets (q_ (qa c p)) = -1:=by
   unfold sets
   exact if_neg (by show ¬ ((qa c p).f0=1\/(qa c p).f0=2\/(qa c p).f0=3\/(qa c p).f0=7);omega)
  rw [es]
  exact aa5 ih
theorem Sa2.out {c:List SQ} (h:CV (qs c)) {L:List Nat}:∀ (d p:Nat),p+d=(adh c L).length->∀ x:List SQ,x.length=c.length->(∀ i,i < c.length->qa x i=if i∈(adh c L).take p then ⟨4,0,0,0,((i+1:Nat):Int)⟩ else qa c i)->Ev (fun k=>ain k x (ints (adh c L)) ((adh c L).length:Int) (p:Int)) (aec L c,true)
 | 0,p,hp,x,hx,hq=>by
  refine Ev.succ ?_
  simp only [ain]
  refine aa5 (aaX Ev.pure ?_)
  have:x=aec L c:=by
   apply List.ext_getElem (by rw [hx,abJ])
   intro i h1 h2
   have e:=hq i (by omega)
   have e2:=aeb L (c:=c) (i:=i) (by omega)
   rw [List.take_of_length_le (by omega)] at e
   have e3:qa x i=qa (aec L c) i:=by
    rw [e,e2,ahV]
    unfold adh
    by_cases g:dd c L i=true
    ·rw [if_pos (by simp [g];omega),if_pos g]
    rw [if_neg (by simp [g]),if_neg g]
   unfold qa at e3
   rwa [List.getD_eq_getElem?_getD,List.getD_eq_getElem?_getD,List.getElem?_eq_getElem h1,List.getElem?_eq_getElem h2] at e3
  rw [this]
 | d+1,p,hp,x,hx,hq=>by
  have h6:=ab9 h
  have hm:(adh c L).getD p 0∈adh c L:=acS (by omega)
  have hlt:(adh c L).getD p 0 < c.length:=by
   unfold adh at hm ⊢
   exact List.mem_range.1 (List.mem_filter.1 hm).1
  have hdl:(adh c L).length<=c.length:=ajc c L c.length
  refine Ev.succ ?_
  simp only [ain,aaV,acE,hx,Int.toNat_natCast,aap (show p < 9223372036854775807 by omega),aap (show (adh c L).getD p 0 < 9223372036854775807 by omega)]
  refine aa2 (aa2 (aa2 (aa2 (aa2 ?_))))
  refine Sa2.out h d (p+1) (by omega) _ (by rw [List.length_set];exact hx) fun i hi=>?_
  unfold qa
  rw [ac5 x _ i _ _ (by omega),<- abV 0 (show p < (adh c L).length by omega)]
  by_cases e:i=(adh c L).getD p 0
  ·rw [if_pos e,if_pos (by simp [e]),e]
  rw [if_neg e]
  have:=hq i hi
  unfold qa at this
  rw [this]
  by_cases g:i∈(adh c L).take p
  ·rw [if_pos g,if_pos (by simp [g])]
  rw [if_neg g,if_neg]
  rw [List.mem_append,List.mem_singleton]
  exact fun y=>y.elim g e
theorem aiQ {c:List SQ} (h:CV (qs c)) (L:List Nat):CV (qs (aec L c)):=by
 have h6:=ab9 h
 refine ald (by rw [abJ];exact h6.1) (by rw [abJ];exact h6.2) (fun i hi=>?_) ?_
 ·rw [abJ] at hi ⊢
  rw [aeb L hi,ahV]
  split
  ·rename_i g
   have lt:i+1 < c.length:=by
    have hl:=adR h
    have:i≠c.length - 1:=by
     intro e
     rw [<- e] at hl
     unfold dd at g
     rcases hl with hl|hl <;> simp [hl] at g
    omega
   exact .inr (.inr (.inr (.inl ⟨rfl,rfl,rfl,rfl,by show (0:Int)<=((i+1:Nat):Int);omega,by show ((i+1:Nat):Int) < (c.length:Int);omega⟩)))
  exact abU h hi
 rw [abJ,aeb L (by omega),ahV]
 split
 ·exact .inr rfl
 exact adR h
/-- Both answer one code,and it is valid. -/
theorem ap2 {c:List SQ} (h:CV (qs c)):∃ v,v.length=c.length/\CV (qs v)/\Ev (fun k=>Sam.f k c) (v,true)/\Ev (fun k=>Sa2.f k c) (v,true):=by
 have h6:=ab9 h
 obtain⟨L,hL,e1,e2⟩:=aiE h
 refine⟨aec L c,abJ L c,aiQ h L,?_,?_⟩
 ·simp only [Sam.f]
  exact aaH (Ev.bind (acx c) (aa2 (Ev.bind e1 (Sam.out h hL.1 c.length 0 (Nat.zero_add _))) (decide_eq_true h)))
 simp only [Sa2.f,aqC]
 refine Ev.bind (aio c) (aa2 (Ev.bind (aba (if_pos (by omega))) (Ev.bind (F:=fun k=>Sa7.f k c) (a:=ints (adh c L)) ?_ ?_)) (decide_eq_true h))
 ·simp only [Sa7.f]
  exact Ev.bind e2 (Sa7.out h hL.1 c.length 0 (Nat.zero_add _))
 rw [aaV]
 exact Sa2.out h (adh c L).length 0 (Nat.zero_add _) c rfl fun i hi=>by simp
end Go.Proofs.YtebpplallecogaaGreat.M
namespace Go.Proofs.YtebpplallecogaaGreat.M
open Go.Proofs.Tryz Go.RowKit Go.Proofs.YtebpplallecogaaGreatW.PrintWords Go.Proofs.YtebpplallecogaaGreatW.PrintLast Go.Proofs.YtebpplallecogaaGreatW.PrintMore
attribute [local go_sem] aan aal aay aax aaf aae aam aak
end Go.Proofs.YtebpplallecogaaGreat.M
namespace Go.Proofs.YtebpplallecogaaGreat.M
open Go.Proofs.Tryz Go.RowKit Go.Proofs.YtebpplallecogaaGreatW.PrintWords Go.Proofs.YtebpplallecogaaGreatW.PrintLast Go.Proofs.YtebpplallecogaaGreatW.PrintMore PM
abbrev SE:=S90
/-- With fuel enough,F answers what P says. -/
def An {α:Type} (F:Nat->Option α) (P:α->Prop):Prop:=∃ v,Ev F v/\P v
theorem amQ {α:Type} {F:Nat->Option α} {P:α->Prop} {v:α} (e:Ev F v) (p:P v):An F P:=⟨v,e,p⟩
theorem aac {α:Type} {P:α->Prop} {v:α} (p:P v):An (fun _=>Option.some v) P:=⟨v,Ev.pure,p⟩
theorem An.bind {α β:Type} {F:Nat->Option α} {G:Nat->α->Option β} {P:α->Prop} {Q:β->Prop} (h:An F P) (g:∀ a,P a->An (fun k=>G k a) Q):An (fun k=>(F k).bind (G k)) Q:=by
 obtain⟨a,e,p⟩:=h
 obtain⟨b,e',q⟩:=g a p
 exact⟨b,Ev.bind e e',q⟩
theorem ab8 {α β:Type} {a:α} {G:Nat->α->Option β} {Q:β->Prop} (g:An (fun k=>G k a) Q):An (fun k=>(Option.some a).bind (G k)) Q:=g
theorem aaL {α:Type} {F:Nat->Option α} {P:α->Prop} (h:An (fun k=>F (k+1)) P):An F P:=by
 obtain⟨v,e,p⟩:=h
 exact⟨v,Ev.succ e,p⟩
theorem aaC {α:Type} {c:Prop} [Decidable c] {A B:Nat->Option α} {P:α->Prop} (g:An A P) (h:c:=by first|assumption|omega|(simp;done)|(simp;omega)):An (fun k=>if c then A k else B k) P:=by
 simp only [if_pos h]
 exact g
theorem ab3 {α:Type} {c:Prop} [Decidable c] {A B:Nat->Option α} {P:α->Prop} (g:An B P) (h:¬ c:=by first|assumption|omega|(simp;done)|(simp;omega)):An (fun k=>if c then A k else B k) P:=by
 simp only [if_neg h]
 exact g
theorem aaJ {α:Type} {c:Prop} [Decidable c] {A B:Nat->Option α} {P:α->Prop} (g:c->An A P) (g':¬ c->An B P):An (fun k=>if c then A k else B k) P:=by
 by_cases h:c
 ·exact aaC (g h) h
 exact ab3 (g' h) h
theorem An.mono {α:Type} {F:Nat->Option α} {P Q:α->Prop} (h:An F P) (g:∀ v,P v->Q v):An F Q:=by
 obtain⟨v,e,p⟩:=h
 exact⟨v,e,g v p⟩
def Bt (b:List Int):Prop:=b.length<=2000/\∀ x∈b,0<=x/\x < 256
theorem Bt.at_ {b:List Int} (h:Bt b) {i:Int} (h0:0<=i) (h1:i < b.length):0<=rd b i/\rd b i < 256:=by
 unfold rd
 have hi:i.toNat < b.length:=by omega
 have e:b.getD i.toNat 0=b[i.toNat]:=by simp [hi]
 rw [e]
 exact h.2 _ (List.getElem_mem _)
theorem ajP {x n:Int} (hx:0<=x) (hn:1<=n):0<=x.tmod n/\x.tmod n < n:=by
 rw [Int.tmod_eq_emod_of_nonneg hx]
 exact⟨Int.emod_nonneg _ (by omega),Int.emod_lt_of_pos _ (by omega)⟩
theorem aos (x y:Int) (h0:0<=x) (h1:x < 2 ^ 62) (h2:0<=y) (h3:y < 2 ^ 62):0<=Go.bits .xor .i64 x y:=by
 obtain⟨a,rfl⟩:=Int.eq_ofNat_of_zero_le h0
 obtain⟨b,rfl⟩:=Int.eq_ofNat_of_zero_le h2
 have ha:a < 2 ^ 62:=by exact_mod_cast h1
 have hb:b < 2 ^ 62:=by exact_mod_cast h3
 have hp:(2:Nat) ^ 62<=2 ^ IntKind.i64.bits:=by decide
 have ha':a % 2 ^ IntKind.i64.bits=a:=Nat.mod_eq_of_lt (Nat.lt_of_lt_of_le ha hp)
 have hb':b % 2 ^ IntKind.i64.bits=b:=Nat.mod_eq_of_lt (Nat.lt_of_lt_of_le hb hp)
 have hx:a ^^^ b < 2 ^ 62:=Nat.xor_lt_two_pow ha hb
 simp only [Go.bits,BitVec.ofInt_natCast,BitVec.toNat_xor,BitVec.toNat_ofNat,ha',hb']
 rw [IntKind.wrap_i64]
 omega
theorem aoN (y z q d:Int) (hy:0<=y) (hy1:y < 256) (hz:0<=z) (hz1:z < 256) (hq:0<=q) (hq1:q<=1000000) (hd:0<=d) (hd1:d<=q) :
  0<=Go.bits .xor .i64 (wrap64 ((wrap64 ((wrap64 ((wrap64 ((wrap64 y)*131))+(wrap64 ((wrap64 z)*1117))))+(wrap64 (q*29))))+(wrap64 ((wrap64 d)*53)))) (wrap64 (Int.tdiv (wrap64 ((wrap64 ((wrap64 ((wrap64 ((wrap64 y)*131))+(wrap64 ((wrap64 z)*1117))))+(wrap64 (q*29))))+(wrap64 ((wrap64 d)*53)))) 64)):=by
 have e:wrap64 ((wrap64 ((wrap64 ((wrap64 ((wrap64 y)*131))+(wrap64 ((wrap64 z)*1117))))+(wrap64 (q*29))))+(wrap64 ((wrap64 d)*53)))=y*131+z*1117+q*29+d*53:=by unfold wrap64;omega
 rw [e]
 have h0:0<=y*131+z*1117+q*29+d*53:=by omega
 have h1:y*131+z*1117+q*29+d*53 < 1000000000000:=by omega
 generalize y*131+z*1117+q*29+d*53=X at h0 h1
 have h2:wrap64 (X.tdiv 64)=X / 64:=by rw [Int.tdiv_eq_ediv_of_nonneg h0];unfold wrap64;omega
 rw [h2]
 exact aos X (X / 64) h0 (by omega) (by omega) (by omega)
theorem akI {b:List Int} (hb:Bt b) {p n:Int} (h:0<=p/\p+1<=1000000):An (fun k=>aaW k b p n) (fun v=>0<=v.1/\(1<=n->v.1 < n)/\v.2=p+1):=by
 obtain⟨h0,h1⟩:=h
 have e1:wrap64 (p+1)=p+1:=aaN (by omega) (by omega)
 have e2:wrap64 (p+1 - 1)=p:=by rw [aaN (by omega) (by omega)];omega
 have t:An (fun k=>af2 k n true b (p+1)) (fun v=>0<=v.1/\(1<=n->v.1 < n)/\v.2=p+1)\/1<=n:=by
  by_cases c:1<=n
  ·exact Or.inr c
  refine Or.inl (aaL ?_)
  simp only [af2]
  exact aaC (aac ⟨by simp,fun h=>absurd h c,rfl⟩)
 simp only [aaW,e1]
 refine aaJ (fun c=>t.resolve_right (by omega)) (fun c=>?_)
 refine aaL ?_
 simp only [af2,e2]
 refine aaJ (fun c'=>aac ⟨by simp,fun h=>by simp only;omega,rfl⟩) (fun c'=>?_)
 have hl:1<=(b.length:Int):=by
  have:(b.length:Int)≠0:=by simpa using c'
  omega
 have hl2:=hb.1
 refine aaJ (fun d=>?_) (fun d=>?_)
 ·refine aaC (ab3 (aac ?_))
  obtain⟨r0,r1⟩:=hb.at_ h0 d
  rw [aaN (by omega) (by omega)]
  exact⟨(ajP r0 (by omega)).1,fun h=>(ajP r0 h).2,rfl⟩
 obtain⟨i0,i1⟩:=ajP (x:=p) h0 hl
 have e3:wrap64 (wrap64 (p*7)+3)=p*7+3:=by unfold wrap64;omega
 obtain⟨j0,j1⟩:=ajP (x:=p*7+3) (by omega) hl
 obtain⟨y0,y1⟩:=hb.at_ i0 i1
 obtain⟨z0,z1⟩:=hb.at_ j0 j1
 simp only [e3]
 refine ab3 (aaC (aaC (aaC (aaC (ab3 (aac ?_))))))
 have d0:0<=p.tdiv b.length:=Int.tdiv_nonneg h0 (by omega)
 have d1:p.tdiv b.length<=p:=by rw [Int.tdiv_eq_ediv_of_nonneg h0];exact Int.ediv_le_self _ h0
 have m:=aoN _ _ p _ y0 y1 z0 z1 h0 (by omega) d0 d1
 exact⟨(ajP m (by omega)).1,fun h=>(ajP m h).2,rfl⟩
theorem aao {b:List Int} (hb:Bt b) {p:Int} (n:Int) (h:0<=p/\p+1<=1000000) (hn:1<=n:=by omega):An (fun k=>aaW k b p n) (fun v=>0<=v.1/\v.1 < n/\v.2=p+1) :=
 (akI hb h).mono fun v h=>⟨h.1,h.2.1 hn,h.2.2⟩
theorem abz {b:List Int} (hb:Bt b) {p:Int} (h:0<=p/\p+1<=1000000):An (fun k=>aeq k b p) (fun v=>v.2=p+1):=by
 simp only [aeq]
 exact An.bind (aao hb 6 h) fun v h=>aac h.2.2
theorem aju {b:List Int} (hb:Bt b) {p:Int} (h:0<=p/\p+1<=1000000):An (fun k=>ak9 k b p) (fun v=>1<=v.1/\v.1<=12/\v.2=p+1):=by
 simp only [ak9]
 refine An.bind (aao hb 12 h) fun v h=>aac ?_
 rw [aaN (by omega) (by omega)]
 simp only
 omega
theorem akm (n:Int):∃ v,aeW n=some v:=by
 unfold aeW
 split
 ·exact⟨_,rfl⟩
 split <;> exact⟨_,rfl⟩
theorem ak1 {b:List Int} (hb:Bt b) {p:Int} (h:0<=p/\p+5<=1000000):An (fun k=>alv k b p) (fun v=>p<=v.2/\v.2<=p+5):=by
 simp only [alv]
 refine An.bind (aao hb 6 (by omega)) fun v h1=>?_
 refine aaJ (fun c=>ab8 (An.bind (aao hb 8 (by omega)) fun u h2=>aaC (aaC (aac (by simp only;omega)) (by simp only [List.length_cons,List.length_nil];omega)))) (fun c=>aaJ (fun c=>?_) (fun c=>aaJ (fun c=>An.bind (aao hb 200 (by omega)) fun u h2=>aac (by simp only;omega)) (fun c=>An.bind (aao hb 20 (by omega)) fun u h2=>aac (by simp only;omega))))
 refine An.bind (aao hb 256 (by omega)) fun v1 h1=>An.bind (aao hb 256 (by omega)) fun v2 h2=>An.bind (aao hb 256 (by omega)) fun v3 h3=>An.bind (aao hb 200 (by omega)) fun v4 h4=>?_
 obtain⟨x,hx⟩:=akm (wrap64 ((wrap64 ((wrap64 ((wrap64 (v1.1*65536))+(wrap64 (v2.1*256))))+v3.1))*(wrap64 (1+v4.1))))
 simp only [hx]
 exact ab8 (aac (by simp only;omega))
def okE:Nat->SE->Prop
 | 0,_=>False
 | d+1,e=>(e.f0=0/\0<=e.f1/\e.f1<=99999/\e.f2=[])\/(e.f0=13/\0<=e.f1/\e.f1<=3/\e.f2=[])\/(1<=e.f0/\e.f0<=12/\e.f1=0/\∃ a b,e.f2=[a,b]/\okE d a/\okE d b)
theorem akP:∀ {d:Nat} {e:SE},okE d e->okE (d+1) e
 | 0,_,h=>h.elim
 | d+1,e,h=>by
  rcases h with h|h | ⟨h1,h2,h3,a,b,h4,h5,h6⟩
  ·exact Or.inl h
  ·exact Or.inr (Or.inl h)
  exact Or.inr (Or.inr ⟨h1,h2,h3,a,b,h4,akP h5,akP h6⟩)
theorem ahM {d d':Nat} {e:SE} (h:okE d e) (hd:d<=d'):okE d' e:=by
 induction hd with
 | refl=>exact h
 | step _ ih=>exact akP ih
theorem agL {b:List Int} (hb:Bt b) {p:Int} (h:0<=p/\p+2<=1000000):An (fun k=>aly k b p) (fun v=>okE 1 ⟨v.1,v.2.1,v.2.2.1⟩/\p<=v.2.2.2/\v.2.2.2<=p+2):=by
 simp only [aly,afq]
 refine An.bind (aao hb 4 (by omega)) fun v h1=>?_
 refine aaJ (fun c=>An.bind (aao hb 4 (by omega)) fun u h2=>ab8 (aac ⟨Or.inl ⟨rfl,h2.1,by simp only;omega,rfl⟩,by simp only;omega⟩)) (fun c=>aaJ (fun c=>?_) (fun c=>An.bind (aao hb 4 (by omega)) fun u h2=>ab8 (aac ⟨Or.inr (Or.inl ⟨rfl,h2.1,by simp only;omega,rfl⟩),by simp only;omega⟩)))
 refine ab8 (An.bind (aao hb 8 (by omega)) fun u h2=>aaC (aaC (ab8 (aac ⟨Or.inl ⟨rfl,?_⟩,by simp only;omega⟩)) (by simp only [List.length_cons,List.length_nil];omega)))
 obtain⟨u1,u2⟩:=u
 obtain⟨m,rfl⟩:=Int.eq_ofNat_of_zero_le h2.1
 have hm:m < 8:=by have:=h2.2.1;simp only at this;omega
 simp only [ajj]
 match m,hm with
 | 0,_=>simp
 | 1,_=>simp
 | 2,_=>simp
 | 3,_=>simp
 | 4,_=>simp
 | 5,_=>simp
 | 6,_=>simp
 | 7,_=>simp
def cE:Nat->Int
 | 0=>2
 | d+1=>2+2*cE d
theorem anV:∀ d,2<=cE d
 | 0=>by simp [cE]
 | d+1=>by have:=anV d;simp only [cE];omega
theorem aeR {b:List Int} (hb:Bt b):∀ (d:Nat) (p:Int),d<=100->0<=p/\p+cE d<=1000000->An (fun k=>adj k b p ((d+1:Nat):Int)) (fun v=>okE (d+1) ⟨v.1,v.2.1,v.2.2.1⟩/\p<=v.2.2.2/\v.2.2.2<=p+cE d)
 | 0,p,_,h=>by
  refine aaL ?_
  simp only [adj]
  refine aaC (aaL ?_)
  simp only [ag4]
  exact aaC (An.bind (agL hb h) fun v h=>aac h)
 | d+1,p,hd,h=>by
  have c2:=anV d
  simp only [cE] at h ⊢
  refine aaL ?_
  simp only [adj]
  refine ab3 (An.bind (aao hb 3 (by omega)) fun v h1=>aaL ?_)
  simp only [ag4]
  refine aaJ (fun c=>An.bind (agL hb (by omega)) fun u h2=>aac ⟨ahM h2.1 (by omega),by simp only;omega⟩) (fun c=>?_)
  have e:wrap64 (((d+1+1:Nat):Int) - 1)=((d+1:Nat):Int):=by rw [aaN (by omega) (by omega)];omega
  refine An.bind (aju hb (by omega)) fun o h3=>?_
  simp only [e]
  refine An.bind (aeR hb d o.2 (by omega) (by omega)) fun x h4=>?_
  refine An.bind (aeR hb d x.2.2.2 (by omega) (by omega)) fun y h5=>?_
  simp only [ai5]
  exact ab8 (aac ⟨Or.inr (Or.inr ⟨h3.1,h3.2.1,rfl,_,_,rfl,h4.1,h5.1⟩),by simp only;omega⟩)
/-- One more than what was picked is a depth. -/
theorem ads {b:List Int} (hb:Bt b) {p x:Int} (hx:0<=x/\x < 3) (h:0<=p/\p+14<=1000000):An (fun k=>adj k b p (wrap64 (1+x))) (fun v=>okE 3 ⟨v.1,v.2.1,v.2.2.1⟩/\p<=v.2.2.2/\v.2.2.2<=p+14):=by
 obtain⟨m,rfl⟩:=Int.eq_ofNat_of_zero_le hx.1
 rw [aaN (by omega) (by omega),show (1:Int)+(m:Int)=((m+1:Nat):Int) by omega]
 have hc:cE m<=14:=by
  match m,hx with
  | 0,_=>decide
  | 1,_=>decide
  | 2,_=>decide
  | m+3,h=>omega
 exact (aeR hb m p (by omega) (by omega)).mono fun v h=>⟨ahM h.1 (by omega),by omega⟩
abbrev ST:=S92
def anK (x:ST):Prop:=x.f4=[]/\x.f5=[]/\((x.f0=1/\0<=x.f1/\x.f1<=3/\x.f2=0/\okE 3 x.f3)\/(x.f0=4/\x.f1=0/\0<=x.f2/\x.f2<=2/\okE 3 x.f3)\/(x.f0=5/\0<=x.f1/\x.f1<=3/\0<=x.f2/\x.f2<=2/\x.f3=⟨0,0,[]⟩)\/(x.f0=6/\x.f1=0/\x.f2=0/\x.f3=⟨0,0,[]⟩)\/(x.f0=7/\x.f1=0/\x.f2=0/\okE 3 x.f3))
def okS:Nat->ST->Prop
 | 0,x=>anK x
 | n+1,x=>anK x\/((x.f0=2\/x.f0=3/\x.f5=[])/\x.f1=0/\x.f2=0/\okE 3 x.f3/\x.f4.length<=5/\x.f5.length<=5/\(∀ y∈x.f4,okS n y)/\(∀ y∈x.f5,okS n y))
theorem adc {n:Nat} {x:ST} (h:anK x):okS n x:=by
 cases n with
 | zero=>exact h
 | succ n=>exact Or.inl h
/-- What a draw of a statement answers,as a statement;the reader behind it. -/
def tS (v:Int × Int × Int × Int × Int × List SE × List ST × List ST × Int):ST:=⟨v.1,v.2.1,v.2.2.1,⟨v.2.2.2.1,v.2.2.2.2.1,v.2.2.2.2.2.1⟩,v.2.2.2.2.2.2.1,v.2.2.2.2.2.2.2.1⟩
theorem afN {b:List Int} (hb:Bt b) {p:Int} (h:0<=p/\p+16<=1000000):An (fun k=>ak6 k b p) (fun v=>anK (tS v)/\p<=v.2.2.2.2.2.2.2.2/\v.2.2.2.2.2.2.2.2<=p+16):=by
 simp only [ak6]
 refine An.bind (aao hb 3 (by omega)) fun v h1=>An.bind (aao hb 3 (by omega)) fun u h2=>An.bind (ads hb (by omega) (by omega)) fun e h3=>aac ?_
 exact⟨⟨rfl,rfl,Or.inl ⟨rfl,h1.1,by simp only [tS];omega,rfl,h3.1⟩⟩,by simp only;omega⟩
theorem agK {b:List Int} (hb:Bt b) {p x:Int} (hx:x<=3) (h:0<=p/\p+18<=1000000):An (fun k=>alV k b p x) (fun v=>anK (tS v)/\p<=v.2.2.2.2.2.2.2.2/\v.2.2.2.2.2.2.2.2<=p+18):=by
 simp only [alV]
 refine aaJ (fun c=>An.bind (afN hb (by omega)) fun v h1=>aac ⟨h1.1,by simp only;omega⟩) (fun c=>?_)
 refine An.bind (aao hb x (by omega)) fun v h1=>An.bind (aao hb 2 (by omega)) fun u h2=>aaJ (fun c=>?_) (fun c=>?_)
 ·refine An.bind (aao hb 3 (by omega)) fun y h3=>An.bind (ads hb (by omega) (by omega)) fun e h4=>aac ?_
  exact⟨⟨rfl,rfl,Or.inr (Or.inl ⟨rfl,rfl,h1.1,by simp only [tS];omega,h4.1⟩)⟩,by simp only;omega⟩
 refine An.bind (aao hb 3 (by omega)) fun y h3=>aac ?_
 exact⟨⟨rfl,rfl,Or.inr (Or.inr (Or.inl ⟨rfl,h3.1,by simp only [tS];omega,h1.1,by simp only [tS];omega,rfl⟩))⟩,by simp only;omega⟩
def cS:Nat->Int
 | 0=>19
 | n+1=>18+4*cS n
theorem agQ:∀ n,19<=cS n
 | 0=>by simp [cS]
 | n+1=>by have:=agQ n;simp only [cS];omega
/-- What is drawn for one statement of a nest n. -/
def agU (b:List Int) (n:Nat):Prop:=∀ (x:Int),x<=3->∀ (l:Bool) (p:Int),0<=p/\p+cS n<=1000000->An (fun k=>akc k b p x (n:Int) l) (fun v=>v.1.length<=2/\(∀ y∈v.1,okS n y)/\p<=v.2/\v.2<=p+cS n)
theorem ahX {b:List Int} {n:Nat} (hs:agU b n) {x:Int} (hx:x<=3) (l:Bool) {m:Nat} (hm:m<=10):∀ (d i:Nat),i+d=m->∀ (o:List ST) (p:Int),o.length<=2*i->(∀ y∈o,okS n y)->0<=p/\p+(d:Int)*cS n<=1000000->An (fun k=>aeh k x (n:Int) (m:Int) l o (i:Int) b p) (fun v=>v.1.length<=2*m/\(∀ y∈v.1,okS n y)/\p<=v.2/\v.2<=p+(d:Int)*cS n)
 | 0,i,hi,o,p,ho,hy,h=>by
  refine aaL ?_
  simp only [aeh]
  exact ab3 (aac ⟨by simp only;omega,hy,by simp only;omega⟩)
 | d+1,i,hi,o,p,ho,hy,h=>by
  have c2:=agQ n
  have e:((d+1:Nat):Int)*cS n=(d:Int)*cS n+cS n:=by rw [show ((d+1:Nat):Int)=(d:Int)+1 from rfl,Int.add_mul,Int.one_mul]
  have e0:0<=(d:Int)*cS n:=Int.mul_nonneg (by omega) (by omega)
  rw [e] at h ⊢
  refine aaL ?_
  simp only [aeh,aap (show i < 9223372036854775807 by omega)]
  refine aaC (An.bind (hs x hx l p (by omega)) fun v h1=>?_)
  refine aaC ?_
  refine (ahX hs hx l hm d (i+1) (by omega) (o ++ v.1) v.2 (by simp;omega) (by
   intro y hy'
   rcases List.mem_append.1 hy' with q|q
   ·exact hy y q
   exact h1.2.1 y q) (by omega)).mono fun u h2=>⟨h2.1,h2.2.1,by omega⟩
theorem ajE {b:List Int} {n:Nat} (hs:agU b n) {x:Int} (hx:x<=3) (l:Bool) {m:Int} (hm:0<=m/\m<=10) (p:Int) (h:0<=p/\p+m*cS n<=1000000):An (fun k=>afp k b p x (n:Int) m l) (fun v=>(v.1.length:Int)<=2*m/\(∀ y∈v.1,okS n y)/\p<=v.2/\v.2<=p+m*cS n):=by
 obtain⟨m,rfl⟩:=Int.eq_ofNat_of_zero_le hm.1
 refine aaL ?_
 simp only [afp]
 exact (ahX hs hx l (by omega) m 0 (Nat.zero_add _) [] p (by simp) (by simp) h).mono fun u h2=>⟨by omega,h2.2⟩
/-- A block of at most two. -/
theorem ag1 {b:List Int} {n:Nat} (hs:agU b n) {x:Int} (hx:x<=3) (l:Bool) {m:Int} (hm:0<=m/\m < 3) (p:Int) (h:0<=p/\p+2*cS n<=1000000):An (fun k=>afp k b p x (n:Int) m l) (fun v=>v.1.length<=4/\(∀ y∈v.1,okS n y)/\p<=v.2/\v.2<=p+2*cS n):=by
 have e:m*cS n<=2*cS n:=Int.mul_le_mul_of_nonneg_right (by omega) (by have:=agQ n;omega)
 exact (ajE hs hx l (by omega) p (by omega)).mono fun u h2=>⟨by omega,h2.2.1,by omega⟩
theorem aqU {b:List Int} (hb:Bt b) {n:Nat} (hn:n<=1000) (hs:agU b n) {x:Int} (hx:x<=3) (l:Bool) (p:Int) (h:0<=p/\p+17+4*cS n<=1000000):An (fun k=>ak8 k b p x ((n+1:Nat):Int) l) (fun v=>okS (n+1) (tS v)/\p<=v.2.2.2.2.2.2.2.2/\v.2.2.2.2.2.2.2.2<=p+17+4*cS n):=by
 have c2:=agQ n
 have e:wrap64 (((n+1:Nat):Int) - 1)=(n:Int):=by rw [aaN (by omega) (by omega)];omega
 refine aaL ?_
 simp only [ak8,e]
 refine An.bind (aao hb 2 (by omega)) fun v h1=>An.bind (ads hb (by omega) (by omega)) fun q h2=>An.bind (aao hb 3 (by omega)) fun u h3=>An.bind (ag1 hs hx l (by omega) _ (by omega)) fun c h4=>An.bind (aao hb 3 (by omega)) fun u' h5=>An.bind (ag1 hs hx l (by omega) _ (by omega)) fun c' h6=>aac ?_
 exact⟨Or.inr ⟨Or.inl rfl,rfl,rfl,h2.1,Nat.le_trans h4.1 (by omega),Nat.le_trans h6.1 (by omega),h4.2.1,h6.2.1⟩,by simp only;omega⟩
theorem aiD {x:Int} (h:0<=x/\x<=99999):okE 1 ⟨0,x,[]⟩:=Or.inl ⟨rfl,h.1,h.2,rfl⟩
theorem akO:okE 1 ⟨13,3,[]⟩:=Or.inr (Or.inl ⟨rfl,by decide,by decide,rfl⟩)
theorem aoP {b:List Int} (hb:Bt b) {n:Nat} (hn:n<=1000) (hs:agU b n) {x:Int} (hx:x<=3) (p:Int) (h:0<=p/\p+17+4*cS n<=1000000):An (fun k=>ak7 k b p x ((n+1:Nat):Int)) (fun v=>v.1.length<=2/\(∀ y∈v.1,okS (n+1) y)/\p<=v.2/\v.2<=p+17+4*cS n):=by
 have c2:=agQ n
 have e:wrap64 (((n+1:Nat):Int) - 1)=(n:Int):=by rw [aaN (by omega) (by omega)];omega
 refine aaL ?_
 simp only [ak7,afq,ai5,e]
 refine An.bind (aao hb 3 (by omega)) fun v h1=>An.bind (ag1 hs hx false (by omega) _ (by omega)) fun c h2=>?_
 refine ab8 (ab8 (ab8 (ab8 (An.bind (aao hb 3 (by omega)) fun u h3=>ab8 (ab8 (ab8 ?_))))))
 refine aaC (ab8 (aac ⟨by simp,?_,by simp only;omega⟩)) (by simp only [List.length_cons,List.length_nil];omega)
 have hw:wrap64 (1+u.1)=1+u.1:=aaN (by omega) (by omega)
 intro y hy
 rcases List.mem_cons.1 hy with rfl|hy
 ·exact Or.inl ⟨rfl,rfl,Or.inl ⟨rfl,by simp,by simp,rfl,ahM (aiD (x:=0) (by decide)) (by omega)⟩⟩
 rcases List.mem_cons.1 hy with rfl|hy
 ·refine Or.inr ⟨Or.inr ⟨rfl,rfl⟩,rfl,rfl,?_,?_,by simp,?_,by simp⟩
  ·exact ahM (d:=2) (Or.inr (Or.inr ⟨by simp only;omega,by simp only;omega,rfl,_,_,rfl,akO,by rw [hw];exact aiD (x:=1+u.1) (by omega)⟩)) (by omega)
  ·simp only [List.length_append,List.length_cons,List.length_nil]
   omega
  intro z hz
  rcases List.mem_append.1 hz with q|q
  ·exact h2.2.1 z q
  obtain rfl:=List.mem_singleton.1 q
  exact adc ⟨rfl,rfl,Or.inl ⟨rfl,by simp,by simp,rfl,ahM (d:=2) (Or.inr (Or.inr ⟨by simp only;omega,by simp only;omega,rfl,_,_,rfl,akO,aiD (x:=1) (by decide)⟩)) (by omega)⟩⟩
 cases hy
theorem adb {n:Nat} {x:ST} (h:okS n x):∀ y∈[x],okS n y:=fun y hy=>by rw [List.mem_singleton.1 hy];exact h
theorem ae3 {b:List Int} (hb:Bt b) {n:Nat} {p:Int} (h:0<=p/\p+15<=1000000):An (fun k=>(aaW k b p 3).bind fun t=>(adj k b t.2 (wrap64 (1+t.1))).bind fun e=>some ([(⟨7,0,0,⟨e.1,e.2.1,e.2.2.1⟩,[],[]⟩:ST)],e.2.2.2)) (fun v=>v.1.length<=2/\(∀ y∈v.1,okS n y)/\p<=v.2/\v.2<=p+15):=by
 refine An.bind (aao hb 3 (by omega)) fun v h1=>An.bind (ads hb (by omega) (by omega)) fun e h2=>aac ?_
 exact⟨by simp,adb (adc ⟨rfl,rfl,Or.inr (Or.inr (Or.inr (Or.inr ⟨rfl,rfl,rfl,h2.1⟩)))⟩),by simp only;omega⟩
theorem aoz {b:List Int} (hb:Bt b):∀ n,n<=1000->agU b n:=by
 intro n hn
 induction n with
 | zero=>?_
 | succ n ih=>?_
 all_goals
  intro x hx l p h
  refine aaL ?_
  simp only [akc]
  simp only [cS] at h ⊢
 ·refine An.bind (aao hb 10 (by omega)) fun v h1=>?_
  have j2:∀ c,An (fun k=>adG k x v.1 c b v.2) (fun u=>u.1.length<=2/\(∀ y∈u.1,okS 0 y)/\p<=u.2/\u.2<=p+19):=by
   intro c
   refine aaL ?_
   simp only [adG]
   refine aaJ (fun c=>An.bind (agK hb hx (by omega)) fun t h2=>aac ⟨by simp,adb (adc h2.1),by simp only;omega⟩) (fun c=>aaJ (fun c=>aac ⟨by simp,adb (adc ⟨rfl,rfl,Or.inr (Or.inr (Or.inr (Or.inl ⟨rfl,rfl,rfl,rfl⟩)))⟩),by simp only;omega⟩) (fun c=>?_))
   exact (ae3 hb (n:=0) (by omega)).mono fun u h=>⟨h.1,h.2.1,by omega⟩
  have j1:An (fun k=>aer k x ((0:Nat):Int) false b v.2) (fun u=>u.1.length<=2/\(∀ y∈u.1,okS 0 y)/\p<=u.2/\u.2<=p+19):=by
   refine aaL ?_
   simp only [aer]
   exact ab3 ((ae3 hb (n:=0) (by omega)).mono fun u h=>⟨h.1,h.2.1,by omega⟩)
  have j0:∀ c,An (fun k=>ado k x ((0:Nat):Int) l v.1 c b v.2) (fun u=>u.1.length<=2/\(∀ y∈u.1,okS 0 y)/\p<=u.2/\u.2<=p+19):=by
   intro c
   refine aaL ?_
   simp only [ado]
   refine aaJ (fun c=>An.bind (afN hb (by omega)) fun t h2=>aac ⟨by simp,adb (adc h2.1),by simp only;omega⟩) (fun c=>aaJ (fun c=>ab3 ((ae3 hb (n:=0) (by omega)).mono fun u h=>⟨h.1,h.2.1,by omega⟩)) (fun c=>aaJ (fun c=>ab3 j1) (fun c=>aaJ (fun c=>j2 _) (fun c=>aaJ (fun c=>j2 _) (fun c=>j2 _)))))
  exact aaJ (fun c=>j0 _) (fun c=>j0 _)
 have ih:=ih (by omega)
 have c2:=agQ n
 refine An.bind (aao hb 10 (by omega)) fun v h1=>?_
 have j2:∀ c,An (fun k=>adG k x v.1 c b v.2) (fun u=>u.1.length<=2/\(∀ y∈u.1,okS (n+1) y)/\p<=u.2/\u.2<=p+(18+4*cS n)):=by
  intro c
  refine aaL ?_
  simp only [adG]
  refine aaJ (fun c=>An.bind (agK hb hx (by omega)) fun t h2=>aac ⟨by simp,adb (adc h2.1),by simp only;omega⟩) (fun c=>aaJ (fun c=>aac ⟨by simp,adb (adc ⟨rfl,rfl,Or.inr (Or.inr (Or.inr (Or.inl ⟨rfl,rfl,rfl,rfl⟩)))⟩),by simp only;omega⟩) (fun c=>?_))
  exact (ae3 hb (n:=n+1) (by omega)).mono fun u h=>⟨h.1,h.2.1,by omega⟩
 have j1:∀ c,An (fun k=>aer k x ((n+1:Nat):Int) c b v.2) (fun u=>u.1.length<=2/\(∀ y∈u.1,okS (n+1) y)/\p<=u.2/\u.2<=p+(18+4*cS n)):=by
  intro c
  refine aaL ?_
  simp only [aer]
  refine aaJ (fun c=>An.bind (aoP hb (by omega) ih hx _ (by omega)) fun u h=>aac ⟨h.1,h.2.1,by simp only;omega⟩) (fun c=>?_)
  exact (ae3 hb (n:=n+1) (by omega)).mono fun u h=>⟨h.1,h.2.1,by omega⟩
 have j0:∀ c,An (fun k=>ado k x ((n+1:Nat):Int) l v.1 c b v.2) (fun u=>u.1.length<=2/\(∀ y∈u.1,okS (n+1) y)/\p<=u.2/\u.2<=p+(18+4*cS n)):=by
  intro c
  refine aaL ?_
  simp only [ado]
  refine aaJ (fun c=>An.bind (afN hb (by omega)) fun t h2=>aac ⟨by simp,adb (adc h2.1),by simp only;omega⟩) (fun c=>aaJ (fun c=>aaC (An.bind (aqU hb (by omega) ih hx l _ (by omega)) fun t h2=>aac ⟨by simp,adb h2.1,by simp only;omega⟩)) (fun c=>aaJ (fun c=>aaC (j1 _)) (fun c=>aaJ (fun c=>j2 _) (fun c=>aaJ (fun c=>j2 _) (fun c=>j2 _)))))
 exact aaJ (fun c=>j0 _) (fun c=>j0 _)
set_option maxRecDepth 100000
theorem aoF (l:List ST) (i:Nat):aaj l (i:Int)=l.getD i z92:=by simp [aaj]
theorem akz {l:List ST} {i:Nat} (h:i < l.length):l.getD i z92∈l:=by
 rw [show l.getD i z92=l[i] by simp [h]]
 exact List.getElem_mem _
def cW:Nat->Int
 | 0=>1
 | n+1=>1+10*cW n
theorem anU:∀ n,1<=cW n
 | 0=>by simp [cW]
 | n+1=>by have:=anU n;simp only [cW];omega
theorem aqZ {n:Nat} (h:n<=3):cW n<=1111:=by
 match n,h with
 | 0,_=>decide
 | 1,_=>decide
 | 2,_=>decide
 | 3,_=>decide
theorem ahW {l:List ST} (hl:l.length<=12) {B:Int} (hB:0<=B/\B<=6000) (hc:∀ x∈l,An (fun k=>SaF.f k x.f4) (fun c=>0<=c/\c<=B)/\An (fun k=>SaF.f k x.f5) (fun c=>0<=c/\c<=B)) :
  ∀ (d i:Nat),i+d=l.length->∀ t:Int,0<=t->t<=(i:Int)*12001->An (fun k=>aeG k l t (i:Int)) (fun c=>t<=c/\c<=t+(d:Int)*(1+2*B))
 | 0,i,hi,t,h0,h1=>by
  refine aaL ?_
  simp only [aeG]
  exact ab3 (aac ⟨by omega,by omega⟩)
 | d+1,i,hi,t,h0,h1=>by
  have e:((d+1:Nat):Int)*(1+2*B)=(d:Int)*(1+2*B)+(1+2*B):=by rw [show ((d+1:Nat):Int)=(d:Int)+1 from rfl,Int.add_mul,Int.one_mul]
  rw [e]
  obtain⟨h4,h5⟩:=hc _ (akz (show i < l.length by omega))
  refine aaL ?_
  simp only [aeG,aoF,aap (show i < 9223372036854775807 by omega)]
  refine aaC (aaC (An.bind h4 fun c k4=>An.bind h5 fun c' k5=>?_))
  have e1:wrap64 (wrap64 (wrap64 (t+1)+c)+c')=t+1+c+c':=by unfold wrap64;omega
  rw [e1]
  exact (ahW hl hB hc d (i+1) (by omega) (t+1+c+c') (by omega) (by omega)).mono fun u h=>⟨by omega,by omega⟩
theorem afX {l:List ST} (hl:l.length<=12) {B:Int} (hB:0<=B/\B<=6000) (hc:∀ x∈l,An (fun k=>SaF.f k x.f4) (fun c=>0<=c/\c<=B)/\An (fun k=>SaF.f k x.f5) (fun c=>0<=c/\c<=B)):An (fun k=>SaF.f k l) (fun c=>0<=c/\c<=(l.length:Int)*(1+2*B)):=by
 refine aaL ?_
 simp only [SaF.f]
 exact (ahW hl hB hc l.length 0 (Nat.zero_add _) 0 (by omega) (by omega)).mono fun u h=>⟨h.1,by omega⟩
theorem aed {B:Int} (h:0<=B):An (fun k=>SaF.f k []) (fun c=>0<=c/\c<=B) :=
 (afX (l:=[]) (by simp) (B:=0) (by omega) (by simp)).mono fun u h'=>⟨h'.1,by simp at h';omega⟩
theorem ahq:∀ n,n<=3->∀ l:List ST,(∀ x∈l,okS n x)->l.length<=12->An (fun k=>SaF.f k l) (fun c=>0<=c/\c<=(l.length:Int)*cW n)
 | 0,_,l,h,hl=>by
  refine (afX hl (B:=0) (by omega) fun x hx=>?_).mono fun u h'=>⟨h'.1,by simp only [cW];omega⟩
  obtain⟨e4,e5,_⟩:anK x:=h x hx
  rw [e4,e5]
  exact⟨aed (by omega),aed (by omega)⟩
 | n+1,hn,l,h,hl=>by
  have w0:=anU n
  have w1:=aqZ (n:=n) (by omega)
  refine (afX hl (B:=5*cW n) (by omega) fun x hx=>?_).mono fun u h'=>⟨h'.1,by rw [show cW (n+1)=1+2*(5*cW n) by simp only [cW];omega];exact h'.2⟩
  rcases h x hx with ⟨e4,e5,_⟩ | ⟨_,_,_,_,l4,l5,h4,h5⟩
  ·rw [e4,e5]
   exact⟨aed (by omega),aed (by omega)⟩
  have m4:(x.f4.length:Int)*cW n<=5*cW n:=Int.mul_le_mul_of_nonneg_right (by omega) (by omega)
  have m5:(x.f5.length:Int)*cW n<=5*cW n:=Int.mul_le_mul_of_nonneg_right (by omega) (by omega)
  exact⟨(ahq n (by omega) x.f4 h4 (by omega)).mono fun u k=>⟨k.1,by omega⟩,(ahq n (by omega) x.f5 h5 (by omega)).mono fun u k=>⟨k.1,by omega⟩⟩
/-- What aa answers. -/
def okL (l:List ST):Prop:=l.length<=12/\(∀ x∈l,okS 3 x)/\∃ c:Int,c<=16/\Ev (fun k=>SaF.f k l) c
theorem apt {b:List Int} (p:Int):∀ (d:Nat) (o:List ST),o.length=d->d<=12->(∀ x∈o,okS 3 x)->An (fun k=>af6 k o b p) (fun v=>okL v.1/\v.2=p):=by
 intro d
 induction d with
 | zero=>?_
 | succ d ih=>?_
 all_goals
  intro o ho hd h
  obtain⟨c,e,c0,c1⟩:=ahq 3 (by omega) o h (by omega)
  refine aaL ?_
  simp only [af6]
  refine An.bind (amQ (P:=fun u=>u=c) e rfl) fun u hu=>?_
  subst hu
  refine aaJ (fun g=>?_) (fun g=>aac ⟨⟨by show o.length<=12;omega,h,u,by omega,e⟩,rfl⟩)
 ·rw [ho] at c1
  simp at c1
  omega
 have e1:wrap64 ((o.length:Int) - 1)=(d:Int):=by rw [ho,aaN (by omega) (by omega)];omega
 rw [e1]
 refine aaC (aaC ?_)
 rw [Int.toNat_natCast]
 exact ih (o.take d) (by rw [List.length_take];omega) (by omega) fun x hx=>h x (List.mem_of_mem_take hx)
theorem aiI {b:List Int} (hb:Bt b) {x p:Int} (hx:x<=3) (h:0<=p/\p+9600<=1000000):An (fun k=>alX k b p x) (fun v=>okL v.1/\p<=v.2/\v.2<=p+9600):=by
 have e3:cS 3=1594:=by decide
 simp only [alX]
 refine An.bind (aao hb 6 (by omega)) fun v h1=>?_
 have e1:wrap64 (1+v.1)=1+v.1:=aaN (by omega) (by omega)
 have e2:(1+v.1)*cS 3<=6*cS 3:=Int.mul_le_mul_of_nonneg_right (by omega) (by omega)
 rw [e1]
 refine An.bind (ajE (n:=3) (aoz hb 3 (by omega)) hx true (m:=1+v.1) (by omega) v.2 (by omega)) fun c h2=>?_
 exact (apt c.2 c.1.length c.1 rfl (by omega) h2.2.1).mono fun u h3=>⟨h3.1,by omega,by omega⟩
theorem aiJ:∀ (d:Nat) (e:SE),okE d e->∀ a:Int,d<=a->a<=5->Ev (fun k=>ahx k e.f0 e.f1 e.f2 a) true
 | 0,_,h,_,_,_=>h.elim
 | d+1,⟨f0,f1,f2⟩,h,a,ha,ha'=>by
  refine Ev.succ ?_
  simp only [ahx,agz,aj0]
  refine aa5 ?_
  rcases h with ⟨q0,q1,q2,q3⟩ | ⟨q0,q1,q2,q3⟩ | ⟨q0,q1,q2,x,y,q3,q4,q5⟩
  ·simp only at q0 q1 q2 q3
   subst q0;subst q3
   exact aa2 (aaH (aa2 (aaX Ev.pure rfl) (by simp;omega)))
  ·simp only at q0 q1 q2 q3
   subst q0;subst q3
   exact aa5 (aa2 (aaH (aa2 (aaX Ev.pure rfl) (by simp;omega))))
  simp only at q0 q1 q2 q3
  subst q2;subst q3
  have ew:wrap64 (a - 1)=a - 1:=aaN (by omega) (by omega)
  have i1:=aiJ d x q4 (a - 1) (by omega) (by omega)
  have i2:=aiJ d y q5 (a - 1) (by omega) (by omega)
  rw [ew]
  refine aa5 (aa5 (aaH (aa2 (aa2 (aa2 (aa2 (Ev.bind i1 (aa2 (aa2 (Ev.bind i2 Ev.pure) (by simp)) rfl)) (by simp)) (by simp)) rfl) (by simp;omega))))
theorem afs {d:Nat} {e:SE} (h:okE d e) (hd:d<=5):Ev (fun k=>aj2 k e.f0 e.f1 e.f2) true:=by
 simp only [aj2]
 exact Ev.bind (aiJ d e h 5 (by omega) (by omega)) Ev.pure
theorem ahE {x:ST} (h:anK x) (k0:Int):Ev (fun k=>agC k x.f0 x.f1 x.f2 x.f3.f0 x.f3.f1 x.f3.f2 x.f4 x.f5 k0) true:=by
 obtain⟨f0,f1,f2,f3,f4,f5⟩:=x
 obtain⟨e4,e5,h⟩:=h
 simp only at e4 e5 h
 subst e4;subst e5
 have h2:f0≠2:=by omega
 have h3:f0≠3:=by omega
 refine Ev.succ ?_
 simp only [agC]
 refine aa5 (Ev.succ ?_)
 simp only [adL]
 refine aa2 (Ev.bind ?_ Ev.pure) (by simp [h3])
 simp only [anE]
 refine aa5 (Ev.succ ?_)
 simp only [ah6,agB,agD,agz,amH]
 refine aa5 ?_
 rcases h with ⟨rfl,q1,q2,q3,q4⟩ | ⟨rfl,q1,q2,q3,q4⟩ | ⟨rfl,q1,q2,q3,q4,q5⟩ | ⟨rfl,q1,q2,q3⟩ | ⟨rfl,q1,q2,q3⟩
 ·refine aa2 (Ev.bind (a:=true) (aa2 (aaH (aaX Ev.pure (by simp;omega)))) (aa2 (Ev.bind (a:=true) (aa5 (aaX Ev.pure (by simp;omega))) (aa2 (Ev.bind (afs q4 (by omega)) Ev.pure) rfl)) rfl))
 ·refine aa5 (aa2 (Ev.bind (a:=true) (aa5 (aaX Ev.pure (by simp;omega))) (aa2 (Ev.bind (a:=true) (aa2 (aaH (aaX Ev.pure (by simp;omega)))) (aa2 (Ev.bind (afs q4 (by omega)) Ev.pure) rfl)) rfl)))
 ·subst q5
  exact aa5 (aa5 (aa2 (Ev.bind (a:=true) (aa2 (aaH (aaX Ev.pure (by simp;omega)))) (aa2 (Ev.bind (a:=true) (aa2 (aaH (aaX Ev.pure (by simp;omega)))) (aa2 (Ev.bind (a:=true) (aa2 (aa2 (aaX Ev.pure rfl) rfl) rfl) Ev.pure) rfl)) rfl))))
 ·subst q3
  exact aa5 (aa5 (aa5 (aa2 (Ev.bind (a:=true) (aa5 (aaX Ev.pure (by simp;omega))) (aa2 (Ev.bind (a:=true) (aa5 (aaX Ev.pure (by simp;omega))) (aa2 (Ev.bind (a:=true) (aa2 (aa2 (aaX Ev.pure rfl) rfl) rfl) Ev.pure) rfl)) rfl)))))
 exact aa5 (aa5 (aa5 (aa5 (aa2 (Ev.bind (a:=true) (aa5 (aaX Ev.pure (by simp;omega))) (aa2 (Ev.bind (a:=true) (aa5 (aaX Ev.pure (by simp;omega))) (aa2 (Ev.bind (afs q3 (by omega)) Ev.pure) rfl)) rfl))))))
theorem agR {l:List ST} (hl:l.length<=12) {a:Int} (hx:∀ x∈l,Ev (fun k=>agC k x.f0 x.f1 x.f2 x.f3.f0 x.f3.f1 x.f3.f2 x.f4 x.f5 a) true):∀ (d i:Nat),i+d=l.length->Ev (fun k=>aeH k l a (i:Int)) true
 | 0,i,hi=>by
  refine Ev.succ ?_
  simp only [aeH]
  exact aa5 Ev.pure
 | d+1,i,hi=>by
  refine Ev.succ ?_
  simp only [aeH,aoF,aap (show i < 9223372036854775807 by omega)]
  exact aa2 (aa2 (Ev.bind (hx _ (akz (by omega))) (aa2 (agR hl hx d (i+1) (by omega)) rfl)))
theorem aeV {l:List ST} (hl:l.length<=12) {a:Int} (hx:∀ x∈l,Ev (fun k=>agC k x.f0 x.f1 x.f2 x.f3.f0 x.f3.f1 x.f3.f2 x.f4 x.f5 a) true):Ev (fun k=>SaD.f k l a) true:=by
 refine Ev.succ ?_
 simp only [SaD.f]
 exact agR hl hx l.length 0 (Nat.zero_add _)
theorem aoL:∀ (n:Nat),n<=3->∀ x:ST,okS n x->Ev (fun k=>agC k x.f0 x.f1 x.f2 x.f3.f0 x.f3.f1 x.f3.f2 x.f4 x.f5 (n:Int)) true
 | 0,_,x,h=>ahE h _
 | n+1,hn,x,h=>by
  rcases h with h | ⟨q0,q1,q2,q3,l4,l5,h4,h5⟩
  ·exact ahE h _
  have b4:=aeV (l:=x.f4) (by omega) fun y hy=>aoL n (by omega) y (h4 y hy)
  have b5:=aeV (l:=x.f5) (by omega) fun y hy=>aoL n (by omega) y (h5 y hy)
  have e:wrap64 (((n+1:Nat):Int) - 1)=(n:Int):=by rw [aaN (by omega) (by omega)];omega
  have j1:Ev (fun k=>afh k ((n+1:Nat):Int) false x.f0 x.f1 x.f2 x.f3.f0 x.f3.f1 x.f3.f2 x.f4 x.f5) true:=by
   refine Ev.succ ?_
   simp only [afh,agB,agD,agz,q1,q2,e]
   exact aa5 (Ev.bind (a:=true) (aa5 (aaX Ev.pure rfl)) (aa2 (Ev.bind (a:=true) (aa5 (aaX Ev.pure rfl)) (aa2 (Ev.bind (afs q3 (by omega)) (aa2 (Ev.bind b4 (aa2 (Ev.bind b5 Ev.pure) rfl)) rfl)) rfl)) rfl))
  refine Ev.succ ?_
  simp only [agC]
  rcases q0 with q0 | ⟨q0,q5⟩
  ·refine aa2 (Ev.succ ?_) q0
   simp only [adL]
   exact aa5 (aa5 (aa5 j1))
  refine aa5 (Ev.succ ?_)
  simp only [adL]
  refine aa5 (aa5 (aa2 ?_ q0)) (by simp [q0])
  rw [q5] at j1 ⊢
  exact j1
theorem ahd {l:List ST} (h:okL l):Ev (fun k=>amJ k l) true:=by
 obtain⟨h1,h2,c,h3,h4⟩:=h
 simp only [amJ]
 exact Ev.bind (aeV h1 fun x hx=>aoL 3 (by omega) x (h2 x hx)) (aa2 (Ev.bind h4 (aaX Ev.pure (by simpa using h3))) rfl)
/-- Valid quads whose targets are t at most. -/
def upQ (t:Int) (c:List SQ):Prop:=∀ q∈c,∀ m:Int,t < m->QV (q_ q) m
theorem r4:rg 4:=by decide
theorem upQ.le {t u:Int} {c:List SQ} (h:upQ t c) (hu:t<=u):upQ u c:=fun q hq m hm=>h q hq m (by omega)
theorem upQ.app {t:Int} {c d:List SQ} (h:upQ t c) (h':upQ t d):upQ t (c ++ d):=fun q hq=>(List.mem_append.1 hq).elim (h q) (h' q)
theorem upQ.one {t:Int} {q:SQ} (h:∀ m:Int,t < m->QV (q_ q) m):upQ t [q]:=fun x hx=>by rw [List.mem_singleton.1 hx];exact h
theorem apq (x y:SE):aaK [x,y] 0=x:=rfl
theorem apo (x y:SE):aaK [x,y] 1=y:=rfl
def cX:Nat->Nat
 | 0=>0
 | d+1=>2*cX d+1
theorem aqY {d:Nat} (h:d<=3):cX d<=7:=by
 match d,h with
 | 0,_=>decide
 | 1,_=>decide
 | 2,_=>decide
 | 3,_=>decide
theorem apr {c:List SQ} {i:Nat} (h:i < c.length):qa c i∈c:=by
 unfold qa
 rw [show c.getD i z27=c[i] by simp [h]]
 exact List.getElem_mem _
theorem aeS:∀ (d:Nat),d<=3->∀ (e:SE),okE d e->∀ a:Int,0<=a->a+d<=12->An (fun k=>adS k e.f0 e.f1 e.f2 a) (fun c=>1<=c.length/\c.length<=cX d/\upQ (-1) c)
 | 0,_,_,h,_,_,_=>h.elim
 | d+1,hd,⟨f0,f1,f2⟩,h,a,ha,ha'=>by
  have c7:=aqY (d:=d) (by omega)
  refine aaL ?_
  simp only [adS]
  rcases h with ⟨q0,q1,q2,q3⟩ | ⟨q0,q1,q2,q3⟩ | ⟨q0,q1,q2,x,y,q3,q4,q5⟩
  ·simp only at q0 q1 q2
   exact aaC (aac ⟨by simp,by simp [cX],upQ.one fun m hm=>Or.inl ⟨rfl,⟨ha,by simp only [q_];omega⟩,rfl,rfl,by simp only [q_];omega,by simp only [q_];omega⟩⟩)
  ·simp only at q0 q1 q2
   exact ab3 (aaC (aac ⟨by simp,by simp [cX],upQ.one fun m hm=>Or.inr (Or.inl ⟨rfl,⟨ha,by simp only [q_];omega⟩,⟨q1,by simp only [q_];omega⟩,rfl,rfl⟩)⟩))
  simp only at q0 q1 q2 q3
  subst q3
  have hd0:1<=d:=by
   cases d with
   | zero=>exact q4.elim
   | succ d=>omega
  have ew:wrap64 (a+1)=a+1:=aaN (by omega) (by omega)
  simp only [ew,apq,apo]
  refine ab3 (ab3 (aaC (An.bind (aeS d (by omega) x q4 a ha (by omega)) fun c h1=>aaC (An.bind (aeS d (by omega) y q5 (a+1) (by omega) (by omega)) fun c' h2=>aaC (ab8 (aaC (aac ?_) ?_))) (by simp)) (by simp)))
  ·refine⟨by simp;omega,by simp [cX];omega,upQ.app (upQ.app h1.2.2 h2.2.2) (upQ.one fun m hm=>Or.inr (Or.inr (Or.inl ⟨rfl,⟨ha,by simp only [q_];omega⟩,⟨ha,by simp only [q_];omega⟩,⟨by simp only [q_];omega,by simp only [q_];omega⟩,q0,q1⟩)))⟩
  simp only [List.length_append]
  omega
theorem adQ {e:SE} (h:okE 3 e):An (fun k=>adS k e.f0 e.f1 e.f2 4) (fun c=>1<=c.length/\c.length<=7/\upQ (-1) c):=aeS 3 (by omega) e h 4 (by omega) (by omega)
theorem ahU:An (fun k=>adS k 0 0 [] 4) (fun c=>1<=c.length/\c.length<=7/\upQ (-1) c):=adQ (e:=⟨0,0,[]⟩) (Or.inl ⟨rfl,by simp,by simp,rfl⟩)
def cZ:Nat->Nat
 | 0=>8
 | n+1=>9+10*cZ n
theorem aqX {n:Nat} (h:n<=3):cZ n<=8999/\8<=cZ n:=by
 match n,h with
 | 0,_=>decide
 | 1,_=>decide
 | 2,_=>decide
 | 3,_=>decide
/-- The code of a statement that begins at a. -/
def ajO (Z:Nat) (A:Int) (x:ST):Prop:=∀ a:Int,0<=a->a<=A->An (fun k=>aj6 k x.f0 x.f1 x.f2 x.f3.f0 x.f3.f1 x.f3.f2 x.f4 x.f5 a) (fun c=>c.length<=Z/\upQ (a+c.length) c)
theorem ajr {l:List ST} (hl:l.length<=12) {Z:Nat} (hZ:Z<=9000) {A:Int} (hA:A<=1000000) (hx:∀ x∈l,ajO Z A x) {a:Int} (ha:0<=a) (ha':a+108000<=A):∀ (d i:Nat),i+d=l.length->∀ o:List SQ,o.length<=i*Z->upQ (a+o.length) o->An (fun k=>aeE k l a o (i:Int)) (fun c=>c.length<=l.length*Z/\upQ (a+c.length) c)
 | 0,i,hi,o,ho,hu=>by
  refine aaL ?_
  simp only [aeE]
  exact ab3 (aac ⟨by rw [show l.length=i by omega];exact ho,hu⟩)
 | d+1,i,hi,o,ho,hu=>by
  have m1:i*Z<=12*9000:=Nat.mul_le_mul (by omega) hZ
  refine aaL ?_
  simp only [aeE,aoF,aap (show i < 9223372036854775807 by omega)]
  have ew:wrap64 (a+(o.length:Int))=a+o.length:=aaN (by omega) (by omega)
  rw [ew]
  refine aaC (aaC (An.bind (hx _ (akz (by omega)) (a+o.length) (by omega) (by omega)) fun c h1=>aaC (ajr hl hZ hA hx ha ha' d (i+1) (by omega) (o ++ c) ?_ ?_)))
  ·rw [List.length_append,Nat.add_mul,Nat.one_mul]
   omega
  rw [List.length_append]
  exact upQ.app (hu.le (by omega)) (h1.2.le (by omega))
theorem aiG {l:List ST} (hl:l.length<=12) {Z:Nat} (hZ:Z<=9000) {A:Int} (hA:A<=1000000) (hx:∀ x∈l,ajO Z A x) {a:Int} (ha:0<=a) (ha':a+108000<=A):An (fun k=>SaO.f k l a) (fun c=>c.length<=l.length*Z/\upQ (a+c.length) c):=by
 refine aaL ?_
 simp only [SaO.f]
 exact ajr hl hZ hA hx ha ha' l.length 0 (Nat.zero_add _) [] (by simp) (fun q hq=>by cases hq)
theorem ajD {x:ST} (h:anK x) (A:Int):ajO 8 A x:=by
 intro a ha ha'
 obtain⟨f0,f1,f2,f3,f4,f5⟩:=x
 obtain⟨_,_,h⟩:=h
 simp only at h ⊢
 refine aaL ?_
 simp only [aj6]
 rcases h with ⟨rfl,q1,q2,q3,q4⟩ | ⟨rfl,q1,q2,q3,q4⟩ | ⟨rfl,q1,q2,q3,q4,rfl⟩ | ⟨rfl,q1,q2,rfl⟩ | ⟨rfl,q1,q2,q3⟩
 ·refine An.bind (adQ q4) fun c h1=>ab3 (ab3 (aaC (aaC (aac ⟨by simp;omega,upQ.app (h1.2.2.le (by omega)) (upQ.one fun m hm=>Or.inr (Or.inl ⟨rfl,⟨q1,by simp only [q_];omega⟩,r4,rfl,rfl⟩))⟩))))
 ·refine An.bind (adQ q4) fun c h1=>ab3 (ab3 (ab3 (aaC (aaC (aac ⟨by simp;omega,upQ.app (h1.2.2.le (by omega)) (upQ.one fun m hm=>Or.inr (Or.inr (Or.inr (Or.inr (Or.inr (Or.inl ⟨rfl,rfl,r4,rfl,q2,q3⟩))))))⟩)))))
 ·refine An.bind ahU fun c h1=>ab3 (ab3 (ab3 (ab3 (ab3 (aaC (aac ⟨by simp,upQ.one fun m hm=>Or.inr (Or.inr (Or.inr (Or.inr (Or.inr (Or.inr (Or.inl ⟨rfl,⟨q1,by simp only [q_];omega⟩,rfl,rfl,q3,q4⟩))))))⟩))))))
 ·refine An.bind ahU fun c h1=>ab3 (ab3 (ab3 (ab3 (ab3 (ab3 (aac ⟨by simp,upQ.one fun m hm=>Or.inr (Or.inr (Or.inr (Or.inr (Or.inr (Or.inr (Or.inr (Or.inr ⟨Or.inl rfl,rfl,rfl,rfl,rfl⟩)))))))⟩))))))
 refine An.bind (adQ q3) fun c h1=>ab3 (ab3 (ab3 (ab3 (aaC (aaC (aac ⟨by simp;omega,upQ.app (h1.2.2.le (by omega)) (upQ.one fun m hm=>Or.inr (Or.inr (Or.inr (Or.inr (Or.inr (Or.inr (Or.inr (Or.inl ⟨rfl,rfl,r4,rfl,rfl⟩))))))))⟩))))))
theorem akF {n m:Int} (h:0<=n) (h':n < m):QV (q_ ⟨4,0,0,0,n⟩) m:=Or.inr (Or.inr (Or.inr (Or.inl ⟨rfl,rfl,rfl,rfl,h,h'⟩)))
theorem aiB {n m:Int} (h:0<=n) (h':n < m):QV (q_ ⟨5,0,4,0,n⟩) m:=Or.inr (Or.inr (Or.inr (Or.inr (Or.inl ⟨rfl,rfl,r4,rfl,h,h'⟩))))
theorem aiT:∀ n,n<=3->∀ x:ST,okS n x->ajO (cZ n) (1000000 - 200000*n) x
 | 0,_,x,h=>ajD h _
 | n+1,hn,x,h=>by
  obtain⟨z1,z0⟩:=aqX (n:=n) (by omega)
  rcases h with h | ⟨q0,q1,q2,q3,l4,l5,h4,h5⟩
  ·intro a ha ha'
   exact (ajD h _ a ha ha').mono fun c hc=>⟨by simp only [cZ];omega,hc.2⟩
  intro a ha ha'
  have m4:x.f4.length*cZ n<=5*cZ n:=Nat.mul_le_mul_right _ l4
  have m5:x.f5.length*cZ n<=5*cZ n:=Nat.mul_le_mul_right _ l5
  have c4:∀ u:Int,0<=u->u<=a+10->An (fun k=>SaO.f k x.f4 u) (fun c=>c.length<=x.f4.length*cZ n/\upQ (u+c.length) c):=fun u hu hu'=>aiG (by omega) (by omega) (A:=1000000 - 200000*n) (by omega) (fun y hy=>aiT n (by omega) y (h4 y hy)) hu (by omega)
  have c5:∀ u:Int,0<=u->u<=a+50000->An (fun k=>SaO.f k x.f5 u) (fun c=>c.length<=x.f5.length*cZ n/\upQ (u+c.length) c):=fun u hu hu'=>aiG (by omega) (by omega) (A:=1000000 - 200000*n) (by omega) (fun y hy=>aiT n (by omega) y (h5 y hy)) hu (by omega)
  refine aaL ?_
  simp only [aj6]
  refine An.bind (adQ q3) fun _ _=>?_
  rcases q0 with q0 | ⟨q0,q5⟩
  ·refine aaC (An.bind (aaL ?_) fun c hc=>aac hc) q0
   simp only [akj]
   refine An.bind (adQ q3) fun e h1=>?_
   have w1:wrap64 (wrap64 (a+(e.length:Int))+1)=a+e.length+1:=by unfold wrap64;omega
   simp only [w1]
   refine An.bind (c4 _ (by omega) (by omega)) fun b h2=>?_
   have w2:wrap64 (a+(e.length:Int)+1+(b.length:Int))=a+e.length+1+b.length:=by unfold wrap64;omega
   have w3:wrap64 (a+(e.length:Int)+1+(b.length:Int)+1)=a+e.length+1+b.length+1:=by unfold wrap64;omega
   simp only [w2,w3]
   refine aaJ (fun z=>?_) (fun z=>?_)
   ·refine aaC (ab8 (aaC (aac ⟨?_,?_⟩) ?_))
    ·simp only [List.length_append,List.length_cons,List.length_nil,cZ]
     omega
    ·simp only [List.length_append,List.length_cons,List.length_nil]
     exact upQ.app (upQ.app (h1.2.2.le (by omega)) (upQ.one fun m hm=>aiB (by omega) (by omega))) (h2.2.le (by omega))
    simp only [List.length_append,List.length_cons,List.length_nil]
    omega
   refine An.bind (c5 _ (by omega) (by omega)) fun d h3=>?_
   have w4:wrap64 (a+(e.length:Int)+1+(b.length:Int)+1+(d.length:Int))=a+e.length+1+b.length+1+d.length:=by unfold wrap64;omega
   simp only [w4]
   refine aaC (ab8 (aaC (ab8 (aaC (ab8 (aaC (aac ⟨?_,?_⟩) ?_)) ?_)) ?_))
   ·simp only [List.length_append,List.length_cons,List.length_nil,cZ]
    omega
   ·simp only [List.length_append,List.length_cons,List.length_nil]
    exact upQ.app (upQ.app (upQ.app (upQ.app (h1.2.2.le (by omega)) (upQ.one fun m hm=>aiB (by omega) (by omega))) (h2.2.le (by omega))) (upQ.one fun m hm=>akF (by omega) (by omega))) (h3.2.le (by omega))
   all_goals
    simp only [List.length_append,List.length_cons,List.length_nil]
    omega
  refine ab3 (aaC (An.bind (aaL ?_) fun c hc=>aac hc) q0)
  simp only [aki]
  refine An.bind (adQ q3) fun e h1=>?_
  have w1:wrap64 (wrap64 (a+(e.length:Int))+1)=a+e.length+1:=by unfold wrap64;omega
  simp only [w1]
  refine An.bind (c4 _ (by omega) (by omega)) fun b h2=>?_
  have w2:wrap64 (wrap64 (a+(e.length:Int)+1+(b.length:Int))+1)=a+e.length+1+b.length+1:=by unfold wrap64;omega
  simp only [w2]
  refine aaC (ab8 (aaC (ab8 (aaC (aac ⟨?_,?_⟩) ?_)) ?_))
  ·simp only [List.length_append,List.length_cons,List.length_nil,cZ]
   omega
  ·simp only [List.length_append,List.length_cons,List.length_nil]
   exact upQ.app (upQ.app (upQ.app (h1.2.2.le (by omega)) (upQ.one fun m hm=>aiB (by omega) (by omega))) (h2.2.le (by omega))) (upQ.one fun m hm=>akF (by omega) (by omega))
  all_goals
   simp only [List.length_append,List.length_cons,List.length_nil]
   omega
theorem agy {l:List ST} (h:okL l):An (fun k=>amt k l) (fun v=>v.1.length<=600->CV (qs v.1)):=by
 have m1:l.length*cZ 3<=12*9000:=Nat.mul_le_mul h.1 (by decide)
 simp only [amt]
 refine An.bind (amQ (P:=fun u=>u=true) (ahd h) rfl) fun u hu=>aaC (An.bind (aiG (Z:=cZ 3) (A:=1000000 - 200000*(3:Nat)) (by have:=h.1;omega) (by decide) (by decide) (fun y hy=>aiT 3 (by omega) y (h.2.1 y hy)) (a:=0) (by omega) (by decide)) fun c h1=>aaC (aac ?_)) hu
 intro h6
 refine⟨by simp [qs],by simpa [qs] using h6,?_,?_⟩
 ·rw [ab1]
  intro i hi
  rw [acr]
  have hm:qa (c ++ [(⟨10,0,0,0,0⟩:SQ)]) i∈c ++ [(⟨10,0,0,0,0⟩:SQ)]:=apr hi
  rcases List.mem_append.1 hm with q|q
  ·exact h1.2 _ q _ (by simp;omega)
  rw [List.mem_singleton.1 q]
  exact Or.inr (Or.inr (Or.inr (Or.inr (Or.inr (Or.inr (Or.inr (Or.inr ⟨Or.inr rfl,rfl,rfl,rfl,rfl⟩)))))))
 refine Or.inl ?_
 rw [ab1,acr]
 simp [qa,q_]
/-- One pass of the five answers v for c. -/
def Step:Nat->List SQ->List SQ->Prop
 | 0,c,v=>Ev (fun k=>Saq.f k c) (v,true)
 | 1,c,v=>Ev (fun k=>Sal.f k c) (v,true)
 | 2,c,v=>Ev (fun k=>Sar.f k c) (v,true)
 | 3,c,v=>Ev (fun k=>Sam.f k c) (v,true)
 | _,c,v=>Ev (fun k=>Saz.f k c) (v,true)
theorem step0 {c:List SQ} (h:CV (qs c)):∃ v,CV (qs v)/\Step 0 c v:=by
 obtain⟨U,hU,e⟩:=aqn h
 exact⟨_,aiM h hU.1.1,e⟩
theorem step1 {c:List SQ} (h:CV (qs c)):∃ v,CV (qs v)/\Step 1 c v:=by
 obtain⟨U,hU,e⟩:=aqr h
 exact⟨_,aiS h hU.1.1,e⟩
theorem step2 {c:List SQ} (h:CV (qs c)):∃ v,CV (qs v)/\Step 2 c v:=⟨_,aiK h,aqm h⟩
theorem aqO {c:List SQ} (h:CV (qs c)):∃ v,CV (qs v)/\Step 3 c v:=by
 obtain⟨v,_,hv,e,_⟩:=ap2 h
 exact⟨v,hv,e⟩
theorem aqN {c:List SQ} (h:CV (qs c)):∃ v,CV (qs v)/\Step 4 c v:=by
 obtain⟨U,hU,e⟩:=aog h
 exact⟨_,akA h hU,e⟩
/-- The first j passes lead from c to y. -/
def ar9:Nat->List SQ->List SQ->Prop
 | 0,c,y=>y=c
 | j+1,c,y=>∃ x,ar9 j c x/\Step j x y
theorem akX {c y:List SQ} (h:ar9 5 c y):Ev (fun k=>aiX k c) y:=by
 obtain⟨x4,⟨x3,⟨x2,⟨x1,⟨x0,rfl,s0⟩,s1⟩,s2⟩,s3⟩,s4⟩:=h
 simp only [aiX]
 exact Ev.bind s0 (Ev.bind s1 (Ev.bind s2 (Ev.bind s3 (Ev.bind s4 Ev.pure))))
theorem apQ {c:List SQ} (h:CV (qs c)):∃ v,CV (qs v)/\Ev (fun k=>aiX k c) v:=by
 obtain⟨x1,h1,s1⟩:=step0 h
 obtain⟨x2,h2,s2⟩:=step1 h1
 obtain⟨x3,h3,s3⟩:=step2 h2
 obtain⟨x4,h4,s4⟩:=aqO h3
 obtain⟨x5,h5,s5⟩:=aqN h4
 exact⟨x5,h5,akX ⟨_,⟨_,⟨_,⟨_,⟨_,rfl,s1⟩,s2⟩,s3⟩,s4⟩,s5⟩⟩
theorem anx (t:Int) (x:List SQ):Ev (fun k=>acY k t x t) (x,true):=by
 refine Ev.succ ?_
 simp only [acY]
 exact aa5 Ev.pure
theorem anw {t:Int} (ht:t<=4) {r:Nat} (hr:(r:Int) < t) {x y:List SQ} (h:Ev (fun k=>aiX k x) y) {z:List SQ × Bool} (hz:Ev (fun k=>acY k t y ((r+1:Nat):Int)) z):Ev (fun k=>acY k t x (r:Int)) z:=by
 refine Ev.succ ?_
 simp only [acY,aap (show r < 9223372036854775807 by omega)]
 exact aa2 (Ev.bind h hz)
theorem Sav.out {t:Nat} (ht:t<=4):∀ (d r:Nat),r+d=t->∀ {x:List SQ},CV (qs x)->∃ v,CV (qs v)/\Ev (fun k=>acY k (t:Int) x (r:Int)) (v,true)
 | 0,r,hr,x,h=>⟨x,h,by rw [show r=t from by omega];exact anx _ _⟩
 | d+1,r,hr,x,h=>by
  obtain⟨y,hy,e⟩:=apQ h
  obtain⟨v,hv,e2⟩:=Sav.out ht d (r+1) (by omega) hy
  exact⟨v,hv,anw (by omega) (by omega) e e2⟩
/-- A code and how often: what is asked of both. -/
def okT (c:List SQ) (t:Int):Prop:=CV (qs c)/\0<=t/\t<=4
theorem amm {c:List SQ} {t:Int} (h:okT c t) {z:List SQ × Bool} (hz:Ev (fun k=>acY k t c 0) z):Ev (fun k=>Sav.f k c t) z:=by
 have h6:=ab9 h.1
 simp only [Sav.f,agz]
 refine Ev.bind (acx c) (aa2 (aaH ?_) (decide_eq_true h.1))
 rw [decide_eq_true h.2]
 refine Ev.succ ?_
 simp only [agY]
 refine aa5 (aaH (aa2 hz ?_)) (by simp)
 simp only [List.length_nil]
 omega
theorem aql {c:List SQ} {t:Int} (h:okT c t):∃ v,CV (qs v)/\Ev (fun k=>Sav.f k c t) (v,true):=by
 obtain⟨v,hv,e⟩:=Sav.out (t:=t.toNat) (by have:=h.2;omega) t.toNat 0 (Nat.zero_add _) h.1
 rw [Int.toNat_of_nonneg h.2.1] at e
 exact⟨v,hv,amm h e⟩
theorem ajY {b:List Int} (hb:Bt b) {p n:Int} (hn:1<=n) (h:0<=p/\p+8<=1000000):An (fun k=>alO k b p n) (fun v=>p<=v.2.2.2.2.2/\v.2.2.2.2.2<=p+8):=by
 have j2:∀ x c q,p<=q->q<=p+1->An (fun k=>af5 k n x c b q) (fun v=>p<=v.2.2.2.2.2/\v.2.2.2.2.2<=p+8):=by
  intro x c q hq hq'
  refine aaL ?_
  simp only [af5]
  refine aaJ (fun _=>An.bind (abz hb (by omega)) fun v h1=>An.bind (abz hb (by omega)) fun v h2=>An.bind (abz hb (by omega)) fun v h3=>An.bind (aju hb (by omega)) fun v h4=>aac (by simp only;omega)) (fun _=>?_)
  refine aaJ (fun _=>An.bind (aao hb n (by omega)) fun v h1=>aac (by simp only;omega)) (fun _=>?_)
  refine aaJ (fun _=>An.bind (abz hb (by omega)) fun v h1=>An.bind (aao hb n (by omega)) fun v h2=>aac (by simp only;omega)) (fun _=>?_)
  refine aaJ (fun _=>An.bind (abz hb (by omega)) fun v h1=>An.bind (aao hb 2 (by omega)) fun v h2=>aac (by simp only;omega)) (fun _=>?_)
  refine aaJ (fun _=>An.bind (abz hb (by omega)) fun v h1=>An.bind (aao hb 2 (by omega)) fun v h2=>aac (by simp only;omega)) (fun _=>?_)
  exact An.bind (aao hb 4 (by omega)) fun v h1=>aaJ (fun _=>aac (by simp only;omega)) (fun _=>An.bind (abz hb (by omega)) fun v h2=>aac (by simp only;omega))
 have j1:∀ x c q,p<=q->q<=p+1->An (fun k=>ag7 k n x c b q) (fun v=>p<=v.2.2.2.2.2/\v.2.2.2.2.2<=p+8):=by
  intro x c q hq hq'
  refine aaL ?_
  simp only [ag7]
  refine aaJ (fun _=>An.bind (abz hb (by omega)) fun v h1=>An.bind (abz hb (by omega)) fun v h2=>aac (by simp only;omega)) (fun _=>aaJ (fun _=>j2 _ _ _ hq hq') (fun _=>aaJ (fun _=>j2 _ _ _ hq hq') (fun _=>j2 _ _ _ hq hq')))
 have j0:∀ x c q,p<=q->q<=p+1->An (fun k=>ag8 k n x c b q) (fun v=>p<=v.2.2.2.2.2/\v.2.2.2.2.2<=p+8):=by
  intro x c q hq hq'
  refine aaL ?_
  simp only [ag8]
  refine aaJ (fun _=>An.bind (abz hb (by omega)) fun v h1=>An.bind (ak1 hb (by omega)) fun v h2=>ab8 (An.bind (aao hb 4 (by omega)) fun v h3=>aaC (aaC (aac (by simp only;omega)) (by simp only [List.length_cons,List.length_nil];omega)))) (fun _=>aaJ (fun _=>j1 _ _ _ hq hq') (fun _=>j1 _ _ _ hq hq'))
 simp only [alO]
 exact An.bind (aao hb 12 (by omega)) fun v h1=>aaJ (fun _=>j0 _ _ _ (by omega) (by omega)) (fun _=>j0 _ _ _ (by omega) (by omega))
theorem agI {b:List Int} (hb:Bt b) {m:Nat} (hm:m<=14):∀ (d i:Nat),i+1+d=m->∀ (o:List SQ) (p:Int),o.length=i->0<=p/\p+8*(d:Int)+2<=1000000->An (fun k=>af4 k (m:Int) o (i:Int) b p) (fun v=>1<=v.1.length/\v.1.length<=14/\p<=v.2/\v.2<=p+8*(d:Int)+2)
 | 0,i,hi,o,p,ho,h=>by
  refine aaL ?_
  simp only [af4,aap (show i < 9223372036854775807 by omega)]
  refine ab3 (An.bind (aao hb 3 (by omega)) fun v h1=>aaJ (fun _=>An.bind (aao hb (m:Int) (by omega)) fun u h2=>aaC (aac ?_)) (fun _=>aaC (aac ?_)))
  ·simp only [List.length_append,List.length_cons,List.length_nil];omega
  simp only [List.length_append,List.length_cons,List.length_nil];omega
 | d+1,i,hi,o,p,ho,h=>by
  refine aaL ?_
  simp only [af4,aap (show i < 9223372036854775807 by omega)]
  refine aaC (An.bind (ajY hb (by omega) (by omega)) fun v h1=>aaC ?_)
  exact (agI hb hm d (i+1) (by omega) _ v.2.2.2.2.2 (by simp [ho]) (by omega)).mono fun u h2=>⟨h2.1,h2.2.1,by omega,by omega⟩
theorem af0 {b:List Int} (hb:Bt b) {p:Int} (h:0<=p/\p+120<=1000000):An (fun k=>akb k b p) (fun v=>1<=v.1.length/\v.1.length<=14/\p<=v.2/\v.2<=p+120):=by
 simp only [akb]
 refine An.bind (aao hb 14 (by omega)) fun v h1=>?_
 obtain⟨v1,v2⟩:=v
 obtain⟨m,rfl⟩:=Int.eq_ofNat_of_zero_le h1.1
 have hm:(m:Int) < 14:=h1.2.1
 have hp:v2=p+1:=h1.2.2
 have e:wrap64 (1+(m:Int))=((m+1:Nat):Int):=by rw [aaN (by omega) (by omega)];omega
 simp only [e]
 exact (agI hb (m:=m+1) (by omega) m 0 (by omega) [] v2 rfl (by omega)).mono fun u h2=>⟨h2.1,h2.2.1,by omega,by omega⟩
theorem ajZ {b:List Int} (hb:Bt b) {p:Int} (h:0<=p/\p+9800<=1000000):An (fun k=>alQ k b p) (fun v=>1<=v.1.length/\v.1.length<=600/\p<=v.2/\v.2<=p+9800):=by
 simp only [alQ]
 refine An.bind (aao hb 2 (by omega)) fun v h1=>aaJ (fun _=>An.bind (af0 hb (by omega)) fun u h2=>aac ⟨h2.1,by show u.1.length<=600;omega,by simp only;omega⟩) (fun _=>?_)
 refine An.bind (aiI hb (by omega) (by omega)) fun s h2=>An.bind (agy h2.1) fun c h3=>aaJ (fun _=>An.bind (af0 hb (by omega)) fun u h4=>aac ⟨h4.1,by show u.1.length<=600;omega,by simp only;omega⟩) (fun g=>?_)
 refine An.bind (aao hb 3 (by omega)) fun t h4=>?_
 have e1:Int.tdiv t.1 2=t.1 / 2:=Int.tdiv_eq_ediv_of_nonneg h4.1
 have e2:wrap64 (Int.tdiv t.1 2)=t.1 / 2:=by rw [e1,aaN (by omega) (by omega)]
 rw [e2]
 obtain⟨r,hr,er⟩:=aql (c:=c.1) (t:=t.1 / 2) ⟨h3 (by omega),by omega,by omega⟩
 have h6:=ab9 hr
 exact An.bind (amQ (P:=fun u=>u=(r,true)) er rfl) fun u hu=>aac (by subst hu;exact⟨h6.1,h6.2,by simp only;omega,by simp only;omega⟩)
theorem ak0 {b:List Int} (hb:Bt b) {p:Int} (h:0<=p/\p+9900<=1000000):An (fun k=>alR k b p) (fun v=>v.1.length<=601/\p<=v.2/\v.2<=p+9900):=by
 simp only [alR]
 refine An.bind (ajZ hb (by omega)) fun c h1=>An.bind (aao hb 36 (by omega)) fun v h2=>?_
 refine aaJ (fun _=>aaC (aac ?_)) (fun _=>aaJ (fun _=>aaC (aac ?_)) (fun _=>aaJ (fun _=>aaC (aac ?_)) (fun _=>aaJ (fun _=>aac ?_) (fun _=>aac ?_))))
 all_goals
  simp only [List.length_set,List.length_append,List.length_cons,List.length_nil]
  omega
theorem alg {x:Int} (h:(Lit.int .u8 x).wf=true):0<=x/\x < 256:=by
 simp [Lit.wf,IntKind.min,IntKind.max,IntKind.bits,IntKind.signed] at h
 omega
theorem akZ {l:List Int} (h:∀ x∈l,(Lit.int .u8 x).wf=true):An (fun _=>alB l) (fun v=>Bt v.1/\v.2=0):=by
 simp only [alB]
 refine aaJ (fun c=>aaC (aac ⟨⟨by simp;omega,fun x hx=>alg (h x (List.mem_of_mem_take hx))⟩,rfl⟩)) (fun c=>aac ⟨⟨by show l.length<=2000;omega,fun x hx=>alg (h x hx)⟩,rfl⟩)
theorem amT {T:List Bool} {s:Nat} (h:T.length=12) (hb:∀ r,r < 12->T.getD r false=s.testBit r):T=row s:=by
 apply List.ext_getElem (by rw [h,abq])
 intro i h1 h2
 have e1:=hb i (by omega)
 have e2:=acC s i (by omega)
 simp [h1] at e1
 simp [h2] at e2
 rw [e1,e2]
theorem ahR {s:Nat} (hs:s < 65536):∀ (d p:Nat),p+d=12->∀ T:List Bool,T.length=12->(∀ r,r < p->T.getD r false=s.testBit r)->Ev (fun k=>aff k (s:Int) T 12 (p:Int)) (row s)
 | 0,p,hp,T,hT,hb=>by
  refine Ev.succ ?_
  simp only [aff]
  exact aa5 (aaX Ev.pure (amT hT fun r hr=>hb r (by omega)))
 | d+1,p,hp,T,hT,hb=>by
  refine Ev.succ ?_
  simp only [aff,ajz hs (show p < 16 by omega),aap (show p < 9223372036854775807 by omega)]
  refine aa2 (aaH (aa2 (aa2 (ahR hs d (p+1) (by omega) _ (by simpa using hT) fun r hr=>?_))))
  rw [Int.toNat_natCast,ac5 _ _ _ _ _ (by omega)]
  by_cases e:r=p
  ·rw [if_pos e,e]
  rw [if_neg e]
  exact hb r (by omega)
theorem ajA {s:Nat} (hs:s < 65536):Ev (fun k=>akg k (s:Int)) (row s):=by
 simp only [akg]
 exact aa2 (aaH (ahR hs 12 0 rfl _ (by simp) fun r hr=>absurd hr (by omega))) (by decide)
theorem akC (L:List Nat) {p:Nat} (h:p < L.length):rows (L.take (p+1))=rows (L.take p) ++ [row (L.getD p 0)]:=by
 have e:L.getD p 0=L[p]:=by simp [h]
 have t:L.take (p+1)=L.take p ++ [L[p]]:=by rw [List.take_add_one,List.getElem?_eq_getElem h];rfl
 unfold rows
 rw [e,t,List.map_append]
 rfl
theorem agJ {L:List Nat} {n:Nat} (hL:Tab n L) (hn:n<=600):∀ (d p:Nat),p+d=n->Ev (fun k=>afk k (rows (L.take p)) (ints L) (n:Int) (p:Int)) (rows L)
 | 0,p,hp=>by
  refine Ev.succ ?_
  simp only [afk]
  refine aa5 (aaX Ev.pure ?_)
  rw [List.take_of_length_le (by have:=hL.1;omega)]
 | d+1,p,hp=>by
  have hl:=hL.1
  have ih:=agJ hL hn d (p+1) (by omega)
  rw [akC L (by omega)] at ih
  refine Ev.succ ?_
  simp only [afk,acE,aaV,ae1,List.length_take,aap (show p < 9223372036854775807 by omega)]
  exact aa2 (aa2 (aa2 (Ev.bind (ajA (Nat.lt_of_lt_of_le (hL.2 p) (by decide))) (aa2 ih))))
theorem akW {c:List SQ} (h:CV (qs c)):∃ L,LT c L/\Ev (fun k=>Sas.f k c) (rows L)/\Ev (fun k=>Sa3.f k c) (rows L):=by
 obtain⟨L,hL,e1,e2⟩:=aiE h
 refine⟨L,hL,e1,?_⟩
 simp only [Sa3.f]
 refine Ev.bind (aio c) (aa2 (Ev.bind e2 ?_) (decide_eq_true h))
 rw [aaV,hL.tab.1]
 exact agJ hL.tab (ab9 h).2 c.length 0 (Nat.zero_add _)
theorem adY (v:List Bool) (h:v.length<=1000):∀ (d p:Nat),p+d=v.length->Ev (fun k=>af3 k v v (p:Int)) true
 | 0,p,hp=>by
  refine Ev.succ ?_
  simp only [af3]
  exact aa5 Ev.pure
 | d+1,p,hp=>by
  refine Ev.succ ?_
  simp only [af3,aap (show p < 9223372036854775807 by omega)]
  exact aa2 (aa2 (aa2 (aa5 (adY v h d (p+1) (by omega)))))
theorem acB (v:List Bool) (h:v.length<=1000):Ev (fun k=>SbL.f k v v) true:=by
 simp only [SbL.f]
 exact aa2 (adY v h v.length 0 (Nat.zero_add _))
end Go.Proofs.YtebpplallecogaaGreat.M
namespace Go.Proofs.YtebpplallecogaaGreat.M
open Go.Proofs.Tryz Go.RowKit Go.Proofs.YtebpplallecogaaGreatW.PrintWords Go.Proofs.YtebpplallecogaaGreatW.PrintLast Go.Proofs.YtebpplallecogaaGreatW.PrintMore
attribute [local go_sem] aan aal aay aax aaf aae aam aak
theorem aqV (d:Nat) (w:World) (x0 y0 x1 y1 x2 y2 x3 y3 x4 y4:Int) :
  (Op.equalIn (d+2) 27 (.agg #[iV x0,iV x1,iV x2,iV x3,iV x4]) (.agg #[iV y0,iV y1,iV y2,iV y3,iV y4])).run prog w = .ok (x0 == y0 && (x1 == y1 && (x2 == y2 && (x3 == y3 && (x4 == y4))))) w:=by
 refine anS underlying27 (by kernel_rfl) ?_
 refine aea (by rfl) (by go_simp;rfl) (by go_simp;rfl) (by go_simp) ?_
 refine aea (by rfl) (by go_simp;rfl) (by go_simp;rfl) (by go_simp) ?_
 refine aea (by rfl) (by go_simp;rfl) (by go_simp;rfl) (by go_simp) ?_
 refine aea (by rfl) (by go_simp;rfl) (by go_simp;rfl) (by go_simp) ?_
 exact ajC (by rfl) (by go_simp;rfl) (by go_simp;rfl) (by go_simp)
attribute [local go_sem high] aqV
end Go.Proofs.YtebpplallecogaaGreat.M
namespace Go.Proofs.YtebpplallecogaaGreat.M
open Go.Proofs.Tryz Go.RowKit Go.Proofs.YtebpplallecogaaGreatW.PrintWords Go.Proofs.YtebpplallecogaaGreatW.PrintLast Go.Proofs.YtebpplallecogaaGreatW.PrintMore PM
theorem LT.uniq {c:List SQ} {L M:List Nat} (h:LT c L) (g:LT c M):L=M:=by
 have l1:=h.tab.1
 have l2:=g.tab.1
 apply List.ext_getElem (by omega)
 intro i h1 h2
 have e:=Nat.eq_of_testBit_eq fun r=>Bool.eq_iff_iff.2 ((h.iff i (by omega) r).trans (g.iff i (by omega) r).symm)
 simpa [h1,h2] using e
theorem ajW {c:List SQ} (h:CV (qs c)) {i:Nat} (hi:i < c.length):∃ L,LT c L/\Ev (fun k=>aj1 k c (i:Int)) (row (aft (q_ (qa c i)) i L))/\Ev (fun k=>aj9 k c (i:Int)) (row (aft (q_ (qa c i)) i L)):=by
 have h6:=ab9 h
 obtain⟨L,hL,e1,e2⟩:=aiE h
 have e3:wrap64 ((c.length:Int) - 1)=(c.length:Int) - 1:=aaN (by omega) (by omega)
 refine⟨L,hL,?_,?_⟩
 ·simp only [aj1,agz,e3]
  refine Ev.bind (acx c) (aa2 (aaH (Ev.succ ?_)) (decide_eq_true h))
  simp only [af8]
  exact aa5 (Ev.bind e1 (Ev.bind (amA h hL.tab hi) Ev.pure)) (by simp;omega)
 simp only [aj9]
 refine Ev.bind (aio c) (aa2 (aa5 (Ev.succ ?_)) (decide_eq_true h))
 simp only [aeI]
 have ha:=agS hL.tab (q_ (qa c i)) i
 exact aa5 (Ev.bind e2 (Ev.bind (amK h hL.tab hi) (Ev.bind (ajA (by omega)) Ev.pure))) (by simp;omega)
theorem aiF {c:List SQ} {i:Int} (h:¬ (CV (qs c)/\0<=i/\i < c.length)):Ev (fun k=>aj1 k c i) []/\Ev (fun k=>aj9 k c i) []:=by
 refine⟨?_,?_⟩
 ·simp only [aj1,agz]
  refine Ev.bind (acx c) ?_
  by_cases g:CV (qs c)
  ·have h6:=ab9 g
   have e3:wrap64 ((c.length:Int) - 1)=(c.length:Int) - 1:=aaN (by omega) (by omega)
   refine aa2 (aaH (Ev.succ ?_)) (decide_eq_true g)
   simp only [af8,e3]
   refine aa2 Ev.pure ?_
   have:¬ (0<=i/\i < c.length):=fun x=>h ⟨g,x⟩
   simp
   omega
  refine aa5 (Ev.succ ?_) (by simpa [cvB] using g)
  simp only [af8]
  exact aa2 Ev.pure
 simp only [aj9]
 refine Ev.bind (aio c) ?_
 have j:∀ b,b=true->Ev (fun k=>aeI k c i b) []:=by
  intro b hb
  refine Ev.succ ?_
  simp only [aeI]
  exact aa2 Ev.pure hb
 by_cases g:CV (qs c)
 ·refine aa2 ?_ (decide_eq_true g)
  by_cases g0:i < 0
  ·exact aa2 (j _ rfl) g0
  refine aa5 (j _ ?_) g0
  have:¬ (0<=i/\i < c.length):=fun x=>h ⟨g,x⟩
  simp
  omega
 exact aa5 (j _ rfl) (by simpa [cvB] using g)
theorem ane {c:List SQ} (h:CV (qs c)) {L:List Nat} (hL:LT c L) {i:Nat} (hi:i < c.length) (r:Nat):(aft (q_ (qa c i)) i L).testBit r=true↔∃ j∈nx (q_ (qa c i)) i,(L.getD j 0).testBit r=true:=by
 unfold aft
 rw [afR]
 simp
theorem aiU {c:List SQ} (h:CV (qs c)) {i:Nat} (hi:i < c.length):Ev (fun k=>amM k c (i:Int)) (ints (nx (q_ (qa c i)) i)):=by
 simp only [amM,ac4]
 exact Ev.bind (aio c) (aa2 (aa5 (aa5 (aa2 (aa2 (Ev.bind (aol h hi) Ev.pure))))) (decide_eq_true h))
theorem an3 {b:List Int} (hb:Bt b) {p:Int} (h:0<=p/\p+9910<=1000000):An (fun k=>alS k b p) (fun v=>v.1.length<=601):=by
 simp only [alS]
 refine An.bind (ak0 hb (by omega)) fun c h1=>An.bind (aao hb 30 (by omega)) fun v h2=>?_
 refine aaJ (fun _=>ab8 (An.bind (aao hb 2 (by omega)) fun u h3=>aaC (aaC (aac h1.1) (by simp;omega)))) (fun _=>An.bind (akI hb (by omega)) fun u h3=>aac h1.1)
theorem agw {l:List Int} (h:∀ x∈l,(Lit.int .u8 x).wf=true):An (fun k=>amq k l) (fun v=>v.1.length<=601):=by
 simp only [amq]
 exact An.bind (akZ h) fun v h1=>An.bind (an3 h1.1 (by omega)) fun c h2=>aac h2
theorem af1 {V:List Bool} {L N:List Nat} (hN:∀ j∈N,j < L.length) (hl:N.length<=2) (hV:V.length=12) {r:Nat} (hr:r < 12) (k0:Ev (fun k=>aep k V (rows L) (ints N) (((r+1:Nat)):Int)) true):∀ (d p:Nat),p+d=N.length->∀ b:Bool,(b || (N.drop p).any fun j=>(L.getD j 0).testBit r)=V.getD r false->Ev (fun k=>aeo k V (rows L) (ints N) (r:Int) b (p:Int)) true
 | 0,p,hp,b,hb=>by
  rw [List.drop_of_length_le (by omega)] at hb
  have e:b=V.getD r false:=by simpa using hb
  have li:=aaV N
  refine Ev.succ ?_
  simp only [aeo,abD,aap (show r < 9223372036854775807 by omega)]
  exact aa5 (aa2 (aa2 (aa5 k0 (by rw [e];simp))))
 | d+1,p,hp,b,hb=>by
  have hp':p < N.length:=by omega
  have ih:=af1 hN hl hV hr k0 d (p+1) (by omega)
  have li:=aaV N
  have lr:=ae1 L
  have e:N.drop p=N[p] :: N.drop (p+1):=List.drop_eq_getElem_cons hp'
  have eg:N.getD p 0=N[p]:=by simp [hp']
  have hj:=hN _ (List.getElem_mem hp')
  rw [e,List.any_cons] at hb
  refine Ev.succ ?_
  simp only [aeo,acE,eg,aiA hj,abq,abD,acC _ _ hr,aap (show p < 9223372036854775807 by omega)]
  refine aa2 ?_
  cases b with
  | true=>exact aa2 (ih true (by simpa only [Bool.true_or] using hb)) rfl
  | false=>exact aa5 (aa2 (aa2 (aa2 (aa2 (aa2 (ih _ (by simpa only [Bool.false_or] using hb))))))) (by simp)
theorem ae9 {V:List Bool} {L N:List Nat} (hN:∀ j∈N,j < L.length) (hl:N.length<=2) (hV:V.length=12) (hb:∀ r,r < 12->(N.any fun j=>(L.getD j 0).testBit r)=V.getD r false):∀ (d p:Nat),p+d=12->Ev (fun k=>aep k V (rows L) (ints N) (p:Int)) true
 | 0,p,hp=>by
  refine Ev.succ ?_
  simp only [aep]
  exact aa5 (aaX Ev.pure (by rw [hV];rfl))
 | d+1,p,hp=>by
  refine Ev.succ ?_
  simp only [aep]
  exact aa2 (af1 hN hl hV (by omega) (ae9 hN hl hV hb d (p+1) (by omega)) N.length 0 (Nat.zero_add _) false (by simpa using hb p (by omega)))
theorem ahQ {l:List Int} (hw:∀ x∈l,(Lit.int .u8 x).wf=true):An (fun k=>SbK.f k l) (fun v=>v=true):=by
 simp only [SbK.f]
 refine aaJ (fun _=>aac rfl) (fun _=>An.bind (agw hw) fun v hc=>?_)
 obtain⟨c,i⟩:=v
 by_cases h:CV (qs c)/\0<=i/\i < c.length
 ·obtain⟨h,i0,i1⟩:=h
  obtain⟨n,rfl⟩:=Int.eq_ofNat_of_zero_le i0
  have hn:n < c.length:=by omega
  obtain⟨L,hL,e1,e2⟩:=ajW h hn
  obtain⟨M,hM,_,m2⟩:=akW h
  obtain rfl:=hL.uniq hM
  have hl:=hL.tab.1
  have rl:=abq (aft (q_ (qa c n)) n L)
  refine amQ (Ev.bind e2 (Ev.bind e1 (Ev.bind (acB _ (by omega)) (aa2 (Ev.succ ?_) rfl)))) rfl
  simp only [ag6]
  refine aa5 (Ev.bind m2 (Ev.bind (aiU h hn) (ae9 (fun j hj=>by rw [hl];exact ajU h hn j hj) (ahN _ _) rl (fun r hr=>?_) 12 0 rfl))) (by simp [rl])
  rw [acC _ _ hr,Bool.eq_iff_iff,ane h hL hn r,List.any_eq_true]
 obtain⟨e1,e2⟩:=aiF h
 refine amQ (Ev.bind e2 (Ev.bind e1 (Ev.bind (acB [] (by simp)) (aa2 (Ev.succ ?_) rfl)))) rfl
 simp only [ag6]
 exact aa2 (Ev.bind (acB [] (by simp)) Ev.pure) (by simp)
end Go.Proofs.YtebpplallecogaaGreat.M
namespace Go.Proofs.YtebpplallecogaaGreat.Pure
open Go.Proofs.YtebpplallecogaaGreat.M
theorem FnLiveOut:SbK.Pure:=by
 intro l _ _ hw
 obtain⟨v,e,h⟩:=ahQ hw
 subst h
 exact e.get
end Go.Proofs.YtebpplallecogaaGreat.Pure
namespace Go.Proofs.YtebpplallecogaaGreat.fnLiveOut
open Go.ChangeShapes Go.WideShapes Go.ChangeAt Go.RowKit
open Go.ChangeMaps (open_string shut_string)
theorem own : ownKnob Tryz.prog.godebug = none := by kernel_rfl
theorem laidOut : laidOutB Tryz.prog = true := by kernel_rfl
def IsRow (k : IntKind) (w : World) (a : Option Addr) (len cap : Nat) (zs : List Int) : Prop :=
  (a = none ∧ len = 0 ∧ cap = 0 ∧ zs = []) ∨
  ∃ x, a = some x ∧ len ≤ cap ∧ cap ≤ maxLen ∧ zs.length = cap ∧ (∀ i, i < zs.length → w.cell? (x.add i) = some (.int k (zs.getD i 0))) ∧ ∀ n ∈ zs, (Lit.int k n).wf = true
theorem lifted (os : Os) (started : os.Started) (H : Type) (enc : TypeId × Value → H) :
    ReturnsInHanded {} Tryz.checked os 7 .any (Rows.fnLiveOutSpec.pre6 enc Tryz.prog Tryz.f7 Rows.fnLiveOutRow.domain false) (Rows.fnLiveOutSpec.post enc Tryz.prog Tryz.f7 false true false false) := by
  refine returnsInHanded_of_change_sized (C := Tryz.checked) own started (by kernel_rfl) Tryz.func7
    (ChangeSpec.witness6 (enc := enc) (C := Tryz.checked) false ⟨#[], #[.slice none 0 0], []⟩ 8 (by kernel_rfl) (by kernel_rfl) (by kernel_rfl) (by kernel_rfl)) ?_
  intro W base args ds gs before hval0 hW hcnd hsz0 _
  have hsz : (DataW.weightsEach Tryz.prog (Tryz.f7.params.toList ++ Rows.fnLiveOutSpec.plain.varTypes Tryz.prog) (ds ++ gs)).all (· ≤ reachBytes) = true := hsz0
  have hval : ∀ (j : Nat) t v, Tryz.f7.params[j]? = some t → args[j]? = some v → Value.okWide Tryz.prog W .any base t v := hval0
  have hW' := hW
  obtain ⟨p, q, hA0, hV, rfl, hfz, hnd⟩ := hW
  have hA : DataW.TrodAll enc Tryz.prog W 0 (fun _ => true) true Tryz.f7.params.toList args.toList ds p := hA0
  rw [Tryz.params7] at hA hval hsz
  obtain ⟨v0, vs0, d0, ds0, p0, q0, hargs, rfl, rfl, h0, r0⟩ := trodAll_cons hA
  obtain ⟨rfl, rfl, rfl⟩ := trodAll_nil r0
  obtain rfl : args = #[v0] := by cases args; simp_all
  obtain ⟨rfl, rfl⟩ := trodVars_none hV
  obtain ⟨a0, len0, cap0, rfl⟩ := okWide_slice Tryz.underlying22 (hval 0 22 v0 rfl rfl)
  have k0 := h0
  have lt0 : ∀ x ∈ p0, x.block < W.heap.size := by obtain ⟨m, hm⟩ := k0; exact DataW.trod_lt m _ _ _ hm
  obtain ⟨z0, w0⟩ : ∃ zs, IsRow .u8 W a0 len0 cap0 zs := by
    obtain ⟨fuel, hf⟩ := h0
    rcases open_ints Tryz.underlying22 Tryz.underlying5 (by kernel_rfl) hf with ⟨hcs, _⟩ | ⟨x, l, c, zs, hcs, _, hl, hm, hz, _, hcell, hwz⟩
    · simp [Value.cells] at hcs
      obtain ⟨rfl, rfl, rfl⟩ := hcs
      exact ⟨[], .inl ⟨rfl, rfl, rfl, rfl⟩⟩
    · simp [Value.cells] at hcs
      obtain ⟨rfl, rfl, rfl⟩ := hcs
      exact ⟨zs, .inr ⟨_, rfl, hl, hm, by simpa using hz, hcell, hwz⟩⟩
  have y0 : len0 * 1 ≤ 140737488351232 := Go.Proofs.YtebpplallecogaaGreatW.PrintWords.sized_ints hsz (j := 0) (t := 22) rfl rfl Tryz.underlying22 Tryz.underlying5 (by kernel_rfl) (by kernel_rfl) h0
  clear hA0 hval0 hsz0 hsz
  refine (M.SbK.walk Pure.FnLiveOut a0 len0 cap0 z0 W w0 y0).mono fun e W' ⟨he, bel⟩ => ?_
  subst he
  exact ⟨_, rfl, _, _, _, [], _, [], hW', trodAll_mk1 (shut_bool Tryz.underlying4 _), (trodAll_cons_mk (Below.trod laidOut (by kernel_rfl) (of_decide_eq_true (by kernel_rfl)) k0 bel lt0) trodAll_mk0), rfl, bel.frame _, fun h => by cases h⟩
theorem over : Rows.fnLiveOutRow.holds Tryz.pinned (OpenSpec.ofChange Rows.fnLiveOutSpec) :=
  OpenClaim.holds_of_wide 7 Tryz.f7 rfl rfl rfl rfl rfl rfl rfl ⟨rfl, rfl, rfl, rfl, rfl⟩ rfl rfl rfl rfl rfl (by kernel_rfl) Tryz.func7 (by kernel_rfl)
    (of_decide_eq_true (by kernel_rfl)) (by unfold Func.isWrapper; first | (rw [if_pos (by decide +kernel)]; kernel_rfl) | (rw [if_neg (by decide +kernel)]; exact ⟨rfl, rfl⟩))
    (fun os started H enc _ => lifted os started H enc)
theorem proved : Rows.FnLiveOutSaid := over
#print axioms proved
end Go.Proofs.YtebpplallecogaaGreat.fnLiveOut
namespace Go.Proofs.YtebpplallecogaaGreat
/-- The row, under a short name, for the claim. -/
theorem fnLiveOut_holds : Rows.FnLiveOutSaid := fnLiveOut.proved
end Go.Proofs.YtebpplallecogaaGreat
