/- Part 2 of the proof: A function as plain Lean and its contract: written by a program of this session's, turned from the kit's print. -/
import Derived.Test.YtebpplallecogaaGreatDI1
set_option linter.unusedVariables false
set_option linter.unusedSimpArgs false
set_option maxHeartbeats 8000000
set_option maxRecDepth 100000
namespace Go.Proofs.YtebpplallecogaaGreat.M
open Go.Proofs.Tryz Go.RowKit Go.Proofs.YtebpplallecogaaGreatW.PrintWords Go.Proofs.YtebpplallecogaaGreatW.PrintLast Go.Proofs.YtebpplallecogaaGreatW.PrintMore Kd
attribute [local go_sem] aal aaj aaz aay aae aad aak aai
mutual
def ajQ:Nat->Int->Int->Int->Int->Int->List S90->List S92->List S92->Int->Option ((List S27))
 | 0,_,_,_,_,_,_,_,_,_=>none
 | k+1,az,av,ax,af,ag,ae,ah,aj,a1=>(adT k af ag ae 4).bind fun aA=>((SaM.f k ah (wrap64 ((wrap64 (a1+(aA.length:Int)))+1))).bind fun ay=>(if (aj.length:Int)=0 then (if aA.length < 3518437208883 then ((some (aA ++ [(⟨5,0,4,0,wrap64 ((wrap64 ((wrap64 (a1+(aA.length:Int)))+1))+(ay.length:Int))⟩:S27)]:List S27)).bind fun bN=>(if bN.length+ay.length < 3518437208883 then (some (bN ++ ay)) else (none))) else (none)) else ((SaM.f k aj (wrap64 ((wrap64 ((wrap64 ((wrap64 (a1+(aA.length:Int)))+1))+(ay.length:Int)))+1))).bind fun bu=>(if aA.length < 3518437208883 then ((some (aA ++ [(⟨5,0,4,0,wrap64 ((wrap64 ((wrap64 ((wrap64 (a1+(aA.length:Int)))+1))+(ay.length:Int)))+1)⟩:S27)]:List S27)).bind fun bO=>(if bO.length+ay.length < 3518437208883 then ((some (bO ++ ay:List S27)).bind fun bP=>(if bP.length < 3518437208883 then ((some (bP ++ [(⟨4,0,0,0,wrap64 ((wrap64 ((wrap64 ((wrap64 ((wrap64 (a1+(aA.length:Int)))+1))+(ay.length:Int)))+1))+(bu.length:Int))⟩:S27)]:List S27)).bind fun bQ=>(if bQ.length+bu.length < 3518437208883 then (some (bQ ++ bu)) else (none))) else (none))) else (none))) else (none)))))
def ajP:Nat->Int->Int->Int->Int->Int->List S90->List S92->List S92->Int->Option ((List S27))
 | 0,_,_,_,_,_,_,_,_,_=>none
 | k+1,az,av,ax,af,ag,ae,ah,aj,a1=>(adT k af ag ae 4).bind fun bq=>((SaM.f k ah (wrap64 ((wrap64 (a1+(bq.length:Int)))+1))).bind fun bv=>(if bq.length < 3518437208883 then ((some (bq ++ [(⟨5,0,4,0,wrap64 ((wrap64 ((wrap64 ((wrap64 (a1+(bq.length:Int)))+1))+(bv.length:Int)))+1)⟩:S27)]:List S27)).bind fun bR=>(if bR.length+bv.length < 3518437208883 then ((some (bR ++ bv:List S27)).bind fun bS=>(if bS.length < 3518437208883 then (some (bS ++ [(⟨4,0,0,0,a1⟩:S27)])) else (none))) else (none))) else (none)))
def aiH:Nat->Int->Int->Int->Int->Int->List S90->List S92->List S92->Int->Option ((List S27))
 | 0,_,_,_,_,_,_,_,_,_=>none
 | k+1,az,av,ax,af,ag,ae,ah,aj,a1=>(adT k af ag ae 4).bind fun aQ=>(if az=2 then ((ajQ k az av ax af ag ae ah aj a1).bind fun dO=>(some dO)) else (if az=3 then ((ajP k az av ax af ag ae ah aj a1).bind fun dP=>(some dP)) else (if az=1 then (if aQ.length < 3518437208883 then (some (aQ ++ [(⟨2,av,4,0,0⟩:S27)])) else (none)) else (if az=4 then (if aQ.length < 3518437208883 then (some (aQ ++ [(⟨6,0,4,0,ax⟩:S27)])) else (none)) else (if az=7 then (if aQ.length < 3518437208883 then (some (aQ ++ [(⟨9,0,4,0,0⟩:S27)])) else (none)) else (if az=5 then (some (([(⟨7,av,0,0,ax⟩:S27)]:List S27))) else (some (([(⟨8,0,0,0,0⟩:S27)]:List S27)))))))))
def aez:Nat->List S92->Int->List S27->Int->Option ((List S27))
 | 0,_,_,_,_=>none
 | k+1,x0,x1,x5,x6=>if x6 < (x0.length:Int) then (if 0<=x6 then ((aiH k ((aao x0 x6).f0) ((aao x0 x6).f1) ((aao x0 x6).f2) ((aao x0 x6).f3.f0) ((aao x0 x6).f3.f1) ((aao x0 x6).f3.f2) ((aao x0 x6).f4) ((aao x0 x6).f5) (wrap64 (x1+(x5.length:Int)))).bind fun cK=>(if x5.length+cK.length < 3518437208883 then (aez k x0 x1 (x5 ++ cK) (wrap64 (x6+1))) else (none))) else (none)) else (some x5)
def SaM.f:Nat->List S92->Int->Option ((List S27))
 | 0,_,_=>none
 | k+1,l0,a1=>aez k l0 a1 (([]:List S27)) 0
end
@[reducible] def adA (k:Nat):Prop:=∀ (az:Int) (av:Int) (ax:Int) (af:Int) (ag:Int) (aH:Option Addr) (aI:Nat) (ae:List S90) (aJ:Option Addr) (aK:Nat) (ah:List S92) (aU:Option Addr) (aV:Nat) (aj:List S92) (a1:Int) (r:List S27) (w:World) (bz:Kd.C k90 w aH ae.length ae) (bA:ae.length<=aI) (bB:Kd.C k92 w aJ ah.length ah) (bC:ah.length<=aK) (bD:Kd.C k92 w aU aj.length aj) (bE:aj.length<=aV) (h:ajQ k az av ax af ag ae ah aj a1=some r),
  Calls prog 90 #[.agg #[iV az,iV av,iV ax,iV af,iV ag,.slice aH ae.length aI,.slice aJ ah.length aK,.slice aU aj.length aV],iV a1] w fun e w'=>∃ dQ:Value,e = .returned (dQ)/\Kd.R k27 27 w' w.heap.size (fun _=>True) dQ r/\Below w.heap.size w w'
@[reducible] def ady (k:Nat):Prop:=∀ (az:Int) (av:Int) (ax:Int) (af:Int) (ag:Int) (aH:Option Addr) (aI:Nat) (ae:List S90) (aJ:Option Addr) (aK:Nat) (ah:List S92) (aU:Option Addr) (aV:Nat) (aj:List S92) (a1:Int) (r:List S27) (w:World) (bz:Kd.C k90 w aH ae.length ae) (bA:ae.length<=aI) (bB:Kd.C k92 w aJ ah.length ah) (bC:ah.length<=aK) (bD:Kd.C k92 w aU aj.length aj) (bE:aj.length<=aV) (h:ajP k az av ax af ag ae ah aj a1=some r),
  Calls prog 91 #[.agg #[iV az,iV av,iV ax,iV af,iV ag,.slice aH ae.length aI,.slice aJ ah.length aK,.slice aU aj.length aV],iV a1] w fun e w'=>∃ dQ:Value,e = .returned (dQ)/\Kd.R k27 27 w' w.heap.size (fun _=>True) dQ r/\Below w.heap.size w w'
@[reducible] def adz (k:Nat):Prop:=∀ (az:Int) (av:Int) (ax:Int) (af:Int) (ag:Int) (aH:Option Addr) (aI:Nat) (ae:List S90) (aJ:Option Addr) (aK:Nat) (ah:List S92) (aU:Option Addr) (aV:Nat) (aj:List S92) (a1:Int) (r:List S27) (w:World) (bz:Kd.C k90 w aH ae.length ae) (bA:ae.length<=aI) (bB:Kd.C k92 w aJ ah.length ah) (bC:ah.length<=aK) (bD:Kd.C k92 w aU aj.length aj) (bE:aj.length<=aV) (h:aiH k az av ax af ag ae ah aj a1=some r),
  Calls prog 81 #[.agg #[iV az,iV av,iV ax,iV af,iV ag,.slice aH ae.length aI,.slice aJ ah.length aK,.slice aU aj.length aV],iV a1] w fun e w'=>∃ dQ:Value,e = .returned (dQ)/\Kd.R k27 27 w' w.heap.size (fun _=>True) dQ r/\Below w.heap.size w w'
@[reducible] def SaM.stmt (k:Nat):Prop:=∀ (A0:Option Addr) (c0:Nat) (l0:List S92) (a1:Int) (r:List S27) (w:World) (hr0:Kd.C k92 w A0 l0.length l0) (hc0:l0.length<=c0) (h:SaM.f k l0 a1=some r),
  Calls prog 72 #[.slice A0 l0.length c0,iV a1] w fun e w'=>∃ dQ:Value,e = .returned (dQ)/\Kd.R k27 27 w' w.heap.size (fun _=>True) dQ r/\Below w.heap.size w w'
theorem SaL.step (k:Nat) (aC:∀ m_,m_ < k->SaM.stmt m_) (aW:∀ m_,m_ < k->adz m_) (ih:∀ m_,m_ < k->adA m_) (aT:∀ m_,m_ < k->ady m_):adA k:=by
 intro az av ax af ag aH aI ae aJ aK ah aU aV aj a1 r w bz bA bB bC bD bE h
 cases k with
 | zero=>exact absurd h (by simp [ajQ])
 | succ k =>
 simp only [ajQ] at h
 have fA:=underlying92
 have fV:=underlying90
 have fZ:=underlying27
 have aZ:=aM bz
 have bg:=aM bA
 clear bz bA
 have bH:=aM bB
 have bI:=aM bC
 clear bB bC
 have bT:=aM bD
 have bU:=aM bE
 clear bD bE
 have HB:=jb_ w
 have H:((adT k af ag ae 4).bind fun aA=>((SaM.f k ah (wrap64 ((wrap64 (a1+(aA.length:Int)))+1))).bind fun ay=>(if (aj.length:Int)=0 then (if aA.length < 3518437208883 then ((some (aA ++ [(⟨5,0,4,0,wrap64 ((wrap64 ((wrap64 (a1+(aA.length:Int)))+1))+(ay.length:Int))⟩:S27)]:List S27)).bind fun bN=>(if bN.length+ay.length < 3518437208883 then (some (bN ++ ay)) else (none))) else (none)) else ((SaM.f k aj (wrap64 ((wrap64 ((wrap64 ((wrap64 (a1+(aA.length:Int)))+1))+(ay.length:Int)))+1))).bind fun bu=>(if aA.length < 3518437208883 then ((some (aA ++ [(⟨5,0,4,0,wrap64 ((wrap64 ((wrap64 ((wrap64 (a1+(aA.length:Int)))+1))+(ay.length:Int)))+1)⟩:S27)]:List S27)).bind fun bO=>(if bO.length+ay.length < 3518437208883 then ((some (bO ++ ay:List S27)).bind fun bP=>(if bP.length < 3518437208883 then ((some (bP ++ [(⟨4,0,0,0,wrap64 ((wrap64 ((wrap64 ((wrap64 ((wrap64 (a1+(aA.length:Int)))+1))+(ay.length:Int)))+1))+(bu.length:Int))⟩:S27)]:List S27)).bind fun bQ=>(if bQ.length+bu.length < 3518437208883 then (some (bQ ++ bu)) else (none))) else (none))) else (none))) else (none))))))=some r:=h
 clear h
 obtain⟨aA,A3,H⟩:=qE H
 try dsimp only at H
 obtain⟨ay,A4,H⟩:=qE H
 try dsimp only at H
 replace H:=jE H;rcases H with ⟨fB,ik,H⟩ | ⟨c5,fB,ik,H⟩
 ·replace H:=jL H;obtain⟨fC,H⟩:=H
  obtain⟨bN,dR⟩:=ky ((aA ++ [(⟨5,0,4,0,wrap64 ((wrap64 ((wrap64 (a1+(aA.length:Int)))+1))+(ay.length:Int))⟩:S27)]):List S27)
  replace H:=kv dR H
  replace H:=jL H;obtain⟨fD,H⟩:=H
  obtain⟨jf,dS⟩:=ky ((bN ++ ay):List S27)
  replace H:=kv dS H
  obtain rfl:=oJ H
  go_enter func90,ntmps90
  go_wp2_with (first|((with_reducible refine jd 2 ?_);refine jY _ 92 ?_;intro bJ hg w8 ai hb;have gm:=kG hg;replace HB:=kH hb;clear hb hg;have iW:=jz8 ai)|((with_reducible refine jc 89 11 ?_);refine jM func89 (abE k af ag _ _ ae 4 aA _ (kb aZ HB) bg.out A3.out) ?_;rintro il iX ⟨ho0,hb⟩;have aN:=kL ho0;replace ai:=kB ai hb;replace HB:=kH hb;clear hb;(try clear ho0);have iq:=jz8 ai;obtain⟨fE,fF,fG⟩:=R_slice aN.out;subst fG)|((with_reducible refine jc 72 19 ?_);refine jM func72 (aC k (by omega) _ _ ah (wrap64 ((wrap64 (a1+(aA.length:Int)))+1)) ay _ (kb bH HB) bI.out A4.out) ?_;rintro iw iY ⟨ho0,hb⟩;have aG:=aM (R_lower (R_new' ho0 (R_lt (qR aN))) (aa4 qB));replace aN:=kO aN ho0 hb;replace ai:=kB ai hb;replace HB:=kH hb;clear hb;(try clear ho0);obtain⟨dK,dL,fH⟩:=R_slice aG.out;subst fH;have jg:=jz8 ai)|((with_reducible refine aaa (b:=.append) (xs:=#[.tmp 32,.tmp 35]) rfl ?_);at_builtin;refine R_append k27 (w0:=w) w.heap.size rfl (.tmp 32) (.tmp 35) 23 27 (.agg #[(iV 0),(iV 0),(iV 0),(iV 0),(iV 0)]) 40 rfl underlying23 aba rfl (by decide) (by omega) (.slice fE aA.length fF) aA (⟨5,0,4,0,wrap64 ((wrap64 ((wrap64 (a1+(aA.length:Int)))+1))+(ay.length:Int))⟩:S27) [iV 5,iV 0,iV 4,iV 0,iV (wrap64 ((wrap64 ((wrap64 (a1+(aA.length:Int)))+1))+(ay.length:Int)))] (fun k_=>some k_≠(.slice dK ay.length dL:Value).ownBlock) (fun _=>False) rfl rfl ?aP (fun _ hk=>hk.elim) ?aF ?aO ?aB ?aS ?aL ?_;(case aP=>exact aaV _ _ _ (⟨5,0,4,0,wrap64 ((wrap64 ((wrap64 (a1+(aA.length:Int)))+1))+(ay.length:Int))⟩:S27));(case aB=>exact qB);(case aF=>exact (fun k_ hk=>Kd.fresh' (R_lt (qR aG)) k_ hk));(case aO=>exact (by (with_reducible repeat (first|apply R_alloc|apply R_drewN|apply R_drew));exact R_mono aN.out (fun _ hk=>hk.2)));(case aS=>exact (aa4 qB));(case aL=>have:=fC.out;omega);intro iy w16 ho hb hg hat;rw [<- dR.out] at ho;have dU:=aM ho;replace ai:=aM (aaq (g:=bJ) (qK ai) hg (R_ne aN.out ai.out (by decide)));replace aG:=aM (R_after (ok:=(fun _=>True)) (qR aG) hg hat);replace HB:=aM hb;clear aN;clear ho hb hg hat)|((with_reducible refine aaa (b:=.append) (xs:=#[.tmp 37,.tmp 38]) rfl ?_);at_builtin;refine R_append_rows k27 (w0:=w) w.heap.size rfl (.tmp 37) (.tmp 38) 23 27 (.agg #[(iV 0),(iV 0),(iV 0),(iV 0),(iV 0)]) 40 rfl underlying23 aba rfl (by decide) (by omega) iy bN ay _ _ _ (fun k_=>some k_≠(.slice dK ay.length dL:Value).ownBlock) (fun _=>False) rfl rfl ?aO ?aR (fun _ _ h=>h) (fun _ h=>h.elim) ?aF ?aB ?aS ?aL ?_;(case aR=>exact kJ aG);(case aB=>exact qB);(case aF=>exact (fun k_ hk=>Kd.fresh' (R_lt (qR aG)) k_ hk));(case aO=>exact (qR dU));(case aS=>exact (aa4 qB));(case aL=>have:=fD.out;omega);intro jh iZ ho hb hg hat;rw [<- dS.out] at ho;have gp:=aM ho;replace ai:=aM (aaq (g:=bJ) (qK ai) hg (R_ne dU.out ai.out (by decide)));replace aG:=aM (R_after (ok:=(fun _=>True)) (qR aG) hg hat);replace HB:=aM hb;clear dU;clear ho hb hg hat))
  go_ret
  exact⟨_,qW,by (with_reducible repeat (first|apply R_alloc|apply R_drewN|apply R_drew));exact R_mono gp.out (fun _ hk=>trivial),qB⟩
 have ji:¬ (aj=[]):=fun h_=>c5 (by rw [h_];rfl)
 obtain⟨bu,jk,H⟩:=qE H
 try dsimp only at H
 replace H:=jL H;obtain⟨dV,H⟩:=H
 obtain⟨bO,dW⟩:=ky ((aA ++ [(⟨5,0,4,0,wrap64 ((wrap64 ((wrap64 ((wrap64 (a1+(aA.length:Int)))+1))+(ay.length:Int)))+1)⟩:S27)]):List S27)
 replace H:=kv dW H
 replace H:=jL H;obtain⟨gq,H⟩:=H
 obtain⟨bP,dX⟩:=ky ((bO ++ ay):List S27)
 replace H:=kv dX H
 replace H:=jL H;obtain⟨gu,H⟩:=H
 obtain⟨bQ,dY⟩:=ky ((bP ++ [(⟨4,0,0,0,wrap64 ((wrap64 ((wrap64 ((wrap64 ((wrap64 (a1+(aA.length:Int)))+1))+(ay.length:Int)))+1))+(bu.length:Int))⟩:S27)]):List S27)
 replace H:=kv dY H
 replace H:=jL H;obtain⟨gy,H⟩:=H
 obtain⟨jl,dZ⟩:=ky ((bQ ++ bu):List S27)
 replace H:=kv dZ H
 obtain rfl:=oJ H
 go_enter func90,ntmps90
 go_wp2_with (first|((with_reducible refine jd 2 ?_);refine jY _ 92 ?_;intro bJ hg lT ai hb;have gm:=kG hg;replace HB:=kH hb;clear hb hg;have jm:=jz8 ai)|((with_reducible refine jc 89 11 ?_);refine jM func89 (abE k af ag _ _ ae 4 aA _ (kb aZ HB) bg.out A3.out) ?_;rintro il lU ⟨ho0,hb⟩;have aN:=kL ho0;replace ai:=kB ai hb;replace HB:=kH hb;clear hb;(try clear ho0);have jo:=jz8 ai;obtain⟨iA,iB,iC⟩:=R_slice aN.out;subst iC)|((with_reducible refine jc 72 19 ?_);refine jM func72 (aC k (by omega) _ _ ah (wrap64 ((wrap64 (a1+(aA.length:Int)))+1)) ay _ (kb bH HB) bI.out A4.out) ?_;rintro iw lV ⟨ho0,hb⟩;have aG:=aM (R_lower (R_new' ho0 (R_lt (qR aN))) (aa4 qB));replace aN:=kO aN ho0 hb;replace ai:=kB ai hb;replace HB:=kH hb;clear hb;(try clear ho0);obtain⟨bV,bW,iD⟩:=R_slice aG.out;subst iD;have iE:=jz8 ai)|((with_reducible refine jc 72 44 ?_);refine jM func72 (aC k (by omega) _ _ aj (wrap64 ((wrap64 ((wrap64 ((wrap64 (a1+(aA.length:Int)))+1))+(ay.length:Int)))+1)) bu _ (kb bT HB) bU.out jk.out) ?_;rintro eU jr ⟨ho0,hb⟩;have bi:=aM (R_lower (R_new' (R_new' ho0 (R_lt (qR aN))) (R_lt (qR aG))) (aa4 qB));replace aN:=kO aN ho0 hb;replace aG:=kO aG ho0 hb;replace ai:=kB ai hb;replace HB:=kH hb;clear hb;(try clear ho0))|((with_reducible refine aaa (b:=.append) (xs:=#[.tmp 45,.tmp 49]) rfl ?_);at_builtin;refine R_append k27 (w0:=w) w.heap.size rfl (.tmp 45) (.tmp 49) 23 27 (.agg #[(iV 0),(iV 0),(iV 0),(iV 0),(iV 0)]) 40 rfl underlying23 aba rfl (by decide) (by omega) (.slice iA aA.length iB) aA (⟨5,0,4,0,wrap64 ((wrap64 ((wrap64 ((wrap64 (a1+(aA.length:Int)))+1))+(ay.length:Int)))+1)⟩:S27) [iV 5,iV 0,iV 4,iV 0,iV (wrap64 ((wrap64 ((wrap64 ((wrap64 (a1+(aA.length:Int)))+1))+(ay.length:Int)))+1))] (fun k_=>some k_≠(.slice bV ay.length bW:Value).ownBlock/\some k_≠(eU:Value).ownBlock) (fun _=>False) rfl rfl ?aP (fun _ hk=>hk.elim) ?aF ?aO ?aB ?aS ?aL ?_;(case aP=>exact aaV _ _ _ (⟨5,0,4,0,wrap64 ((wrap64 ((wrap64 ((wrap64 (a1+(aA.length:Int)))+1))+(ay.length:Int)))+1)⟩:S27));(case aB=>exact qB);(case aF=>exact (fun k_ hk=>⟨Kd.fresh' (R_lt (qR aG)) k_ hk,Kd.fresh' (R_lt (qR bi)) k_ hk⟩));(case aO=>exact (by (with_reducible repeat (first|apply R_alloc|apply R_drewN|apply R_drew));exact R_mono aN.out (fun _ hk=>⟨hk.1.2,hk.2⟩)));(case aS=>exact (aa4 qB));(case aL=>have:=dV.out;omega);intro iF w32 ho hb hg hat;rw [<- dW.out] at ho;have d9:=aM ho;replace ai:=aM (aaq (g:=bJ) (qK ai) hg (R_ne aN.out ai.out (by decide)));replace aG:=aM (R_after (ok:=(fun k_=>some k_≠(eU:Value).ownBlock)) (by (with_reducible repeat (first|apply R_alloc|apply R_drewN|apply R_drew));exact R_mono aG.out (fun _ hk=>⟨hk.2,hk.1.2⟩)) hg hat);replace bi:=aM (R_after (ok:=(fun k_=>some k_≠(.slice bV ay.length bW:Value).ownBlock)) (by (with_reducible repeat (first|apply R_alloc|apply R_drewN|apply R_drew));exact R_mono bi.out (fun _ hk=>⟨hk.2,hk.1.2⟩)) hg hat);replace HB:=aM hb;clear aN;clear ho hb hg hat)|((with_reducible refine aaa (b:=.append) (xs:=#[.tmp 51,.tmp 52]) rfl ?_);at_builtin;refine R_append_rows k27 (w0:=w) w.heap.size rfl (.tmp 51) (.tmp 52) 23 27 (.agg #[(iV 0),(iV 0),(iV 0),(iV 0),(iV 0)]) 40 rfl underlying23 aba rfl (by decide) (by omega) iF bO ay _ _ _ (fun k_=>some k_≠(.slice bV ay.length bW:Value).ownBlock/\some k_≠(eU:Value).ownBlock) (fun _=>False) rfl rfl ?aO ?aR (fun _ _ h=>h) (fun _ h=>h.elim) ?aF ?aB ?aS ?aL ?_;(case aR=>exact kJ aG);(case aB=>exact qB);(case aF=>exact (fun k_ hk=>⟨Kd.fresh' (R_lt (qR aG)) k_ hk,Kd.fresh' (R_lt (qR bi)) k_ hk⟩));(case aO=>exact (qR d9));(case aS=>exact (aa4 qB));(case aL=>have:=gq.out;omega);intro iG lW ho hb hg hat;rw [<- dX.out] at ho;have ed:=aM ho;replace ai:=aM (aaq (g:=bJ) (qK ai) hg (R_ne d9.out ai.out (by decide)));replace aG:=aM (R_after (ok:=(fun k_=>some k_≠(eU:Value).ownBlock)) (qR aG) hg hat);replace bi:=aM (R_after (ok:=(fun k_=>some k_≠(.slice bV ay.length bW:Value).ownBlock)) (qR bi) hg hat);replace HB:=aM hb;clear d9;clear ho hb hg hat;obtain⟨eX,eY,iH⟩:=R_slice bi.out;subst iH)|((with_reducible refine aaa (b:=.append) (xs:=#[.tmp 54,.tmp 61]) rfl ?_);at_builtin;refine R_append k27 (w0:=w) w.heap.size rfl (.tmp 54) (.tmp 61) 23 27 (.agg #[(iV 0),(iV 0),(iV 0),(iV 0),(iV 0)]) 40 rfl underlying23 aba rfl (by decide) (by omega) iG bP (⟨4,0,0,0,wrap64 ((wrap64 ((wrap64 ((wrap64 ((wrap64 (a1+(aA.length:Int)))+1))+(ay.length:Int)))+1))+(bu.length:Int))⟩:S27) [iV 4,iV 0,iV 0,iV 0,iV (wrap64 ((wrap64 ((wrap64 ((wrap64 ((wrap64 (a1+(aA.length:Int)))+1))+(ay.length:Int)))+1))+(bu.length:Int)))] (fun k_=>some k_≠(.slice bV ay.length bW:Value).ownBlock/\some k_≠(.slice eX bu.length eY:Value).ownBlock) (fun _=>False) rfl rfl ?aP (fun _ hk=>hk.elim) ?aF ?aO ?aB ?aS ?aL ?_;(case aP=>exact aaV _ _ _ (⟨4,0,0,0,wrap64 ((wrap64 ((wrap64 ((wrap64 ((wrap64 (a1+(aA.length:Int)))+1))+(ay.length:Int)))+1))+(bu.length:Int))⟩:S27));(case aB=>exact qB);(case aF=>exact (fun k_ hk=>⟨Kd.fresh' (R_lt (qR aG)) k_ hk,Kd.fresh' (R_lt (qR bi)) k_ hk⟩));(case aO=>exact (qR ed));(case aS=>exact (aa4 qB));(case aL=>have:=gu.out;omega);intro iI lX ho hb hg hat;rw [<- dY.out] at ho;have ek:=aM ho;replace ai:=aM (aaq (g:=bJ) (qK ai) hg (R_ne ed.out ai.out (by decide)));replace aG:=aM (R_after (ok:=(fun k_=>some k_≠(.slice eX bu.length eY:Value).ownBlock)) (qR aG) hg hat);replace bi:=aM (R_after (ok:=(fun k_=>some k_≠(.slice bV ay.length bW:Value).ownBlock)) (qR bi) hg hat);replace HB:=aM hb;clear ed;clear ho hb hg hat)|((with_reducible refine aaa (b:=.append) (xs:=#[.tmp 63,.tmp 64]) rfl ?_);at_builtin;refine R_append_rows k27 (w0:=w) w.heap.size rfl (.tmp 63) (.tmp 64) 23 27 (.agg #[(iV 0),(iV 0),(iV 0),(iV 0),(iV 0)]) 40 rfl underlying23 aba rfl (by decide) (by omega) iI bQ bu _ _ _ (fun k_=>some k_≠(.slice bV ay.length bW:Value).ownBlock/\some k_≠(.slice eX bu.length eY:Value).ownBlock) (fun _=>False) rfl rfl ?aO ?aR (fun _ _ h=>h) (fun _ h=>h.elim) ?aF ?aB ?aS ?aL ?_;(case aR=>exact kJ bi);(case aB=>exact qB);(case aF=>exact (fun k_ hk=>⟨Kd.fresh' (R_lt (qR aG)) k_ hk,Kd.fresh' (R_lt (qR bi)) k_ hk⟩));(case aO=>exact (qR ek));(case aS=>exact (aa4 qB));(case aL=>have:=gy.out;omega);intro jv jw ho hb hg hat;rw [<- dZ.out] at ho;have gz:=aM ho;replace ai:=aM (aaq (g:=bJ) (qK ai) hg (R_ne ek.out ai.out (by decide)));replace aG:=aM (R_after (ok:=(fun k_=>some k_≠(.slice eX bu.length eY:Value).ownBlock)) (qR aG) hg hat);replace bi:=aM (R_after (ok:=(fun k_=>some k_≠(.slice bV ay.length bW:Value).ownBlock)) (qR bi) hg hat);replace HB:=aM hb;clear ek;clear ho hb hg hat))
 go_ret
 exact⟨_,qW,by (with_reducible repeat (first|apply R_alloc|apply R_drewN|apply R_drew));exact R_mono gz.out (fun _ hk=>trivial),qB⟩
theorem SaO.step (k:Nat) (aC:∀ m_,m_ < k->SaM.stmt m_) (aW:∀ m_,m_ < k->adz m_) (bn:∀ m_,m_ < k->adA m_) (ih:∀ m_,m_ < k->ady m_):ady k:=by
 intro az av ax af ag aH aI ae aJ aK ah aU aV aj a1 r w bz bA bB bC bD bE h
 cases k with
 | zero=>exact absurd h (by simp [ajP])
 | succ k =>
 simp only [ajP] at h
 have fA:=underlying92
 have fV:=underlying90
 have fZ:=underlying27
 have aZ:=aM bz
 have bg:=aM bA
 clear bz bA
 have bH:=aM bB
 have bI:=aM bC
 clear bB bC
 have bT:=aM bD
 have bU:=aM bE
 clear bD bE
 have HB:=jb_ w
 have H:((adT k af ag ae 4).bind fun bq=>((SaM.f k ah (wrap64 ((wrap64 (a1+(bq.length:Int)))+1))).bind fun bv=>(if bq.length < 3518437208883 then ((some (bq ++ [(⟨5,0,4,0,wrap64 ((wrap64 ((wrap64 ((wrap64 (a1+(bq.length:Int)))+1))+(bv.length:Int)))+1)⟩:S27)]:List S27)).bind fun bR=>(if bR.length+bv.length < 3518437208883 then ((some (bR ++ bv:List S27)).bind fun bS=>(if bS.length < 3518437208883 then (some (bS ++ [(⟨4,0,0,0,a1⟩:S27)])) else (none))) else (none))) else (none))))=some r:=h
 clear h
 obtain⟨bq,A3,H⟩:=qE H
 try dsimp only at H
 obtain⟨bv,A4,H⟩:=qE H
 try dsimp only at H
 replace H:=jL H;obtain⟨iJ,H⟩:=H
 obtain⟨bR,eu⟩:=ky ((bq ++ [(⟨5,0,4,0,wrap64 ((wrap64 ((wrap64 ((wrap64 (a1+(bq.length:Int)))+1))+(bv.length:Int)))+1)⟩:S27)]):List S27)
 replace H:=kv eu H
 replace H:=jL H;obtain⟨fC,H⟩:=H
 obtain⟨bS,eB⟩:=ky ((bR ++ bv):List S27)
 replace H:=kv eB H
 replace H:=jL H;obtain⟨fD,H⟩:=H
 obtain⟨jy,eD⟩:=ky ((bS ++ [(⟨4,0,0,0,a1⟩:S27)]):List S27)
 replace H:=kv eD H
 obtain rfl:=oJ H
 go_enter func91,ntmps91
 go_wp2_with (first|((with_reducible refine jd 2 ?_);refine jY _ 92 ?_;intro eF hg w8 aX hb;have ja:=kG hg;replace HB:=kH hb;clear hb hg;have iW:=jz8 aX)|((with_reducible refine jc 89 9 ?_);refine jM func89 (abE k af ag _ _ ae 4 bq _ (kb aZ HB) bg.out A3.out) ?_;rintro jA iX ⟨ho0,hb⟩;have bK:=kL ho0;replace aX:=kB aX hb;replace HB:=kH hb;clear hb;(try clear ho0);have iq:=jz8 aX;obtain⟨fE,fF,fG⟩:=R_slice bK.out;subst fG)|((with_reducible refine jc 72 17 ?_);refine jM func72 (aC k (by omega) _ _ ah (wrap64 ((wrap64 (a1+(bq.length:Int)))+1)) bv _ (kb bH HB) bI.out A4.out) ?_;rintro jH iY ⟨ho0,hb⟩;have bF:=aM (R_lower (R_new' ho0 (R_lt (qR bK))) (aa4 qB));replace bK:=kO bK ho0 hb;replace aX:=kB aX hb;replace HB:=kH hb;clear hb;(try clear ho0);obtain⟨dK,dL,fH⟩:=R_slice bF.out;subst fH)|((with_reducible refine aaa (b:=.append) (xs:=#[.tmp 18,.tmp 29]) rfl ?_);at_builtin;refine R_append k27 (w0:=w) w.heap.size rfl (.tmp 18) (.tmp 29) 23 27 (.agg #[(iV 0),(iV 0),(iV 0),(iV 0),(iV 0)]) 40 rfl underlying23 aba rfl (by decide) (by omega) (.slice fE bq.length fF) bq (⟨5,0,4,0,wrap64 ((wrap64 ((wrap64 ((wrap64 (a1+(bq.length:Int)))+1))+(bv.length:Int)))+1)⟩:S27) [iV 5,iV 0,iV 4,iV 0,iV (wrap64 ((wrap64 ((wrap64 ((wrap64 (a1+(bq.length:Int)))+1))+(bv.length:Int)))+1))] (fun k_=>some k_≠(.slice dK bv.length dL:Value).ownBlock) (fun _=>False) rfl rfl ?aP (fun _ hk=>hk.elim) ?aF ?aO ?aB ?aS ?aL ?_;(case aP=>exact aaV _ _ _ (⟨5,0,4,0,wrap64 ((wrap64 ((wrap64 ((wrap64 (a1+(bq.length:Int)))+1))+(bv.length:Int)))+1)⟩:S27));(case aB=>exact qB);(case aF=>exact (fun k_ hk=>Kd.fresh' (R_lt (qR bF)) k_ hk));(case aO=>exact (by (with_reducible repeat (first|apply R_alloc|apply R_drewN|apply R_drew));exact R_mono bK.out (fun _ hk=>hk.2)));(case aS=>exact (aa4 qB));(case aL=>have:=iJ.out;omega);intro iK jN ho hb hg hat;rw [<- eu.out] at ho;have eG:=aM ho;replace aX:=aM (aaq (g:=eF) (qK aX) hg (R_ne bK.out aX.out (by decide)));replace bF:=aM (R_after (ok:=(fun _=>True)) (qR bF) hg hat);replace HB:=aM hb;clear bK;clear ho hb hg hat)|((with_reducible refine aaa (b:=.append) (xs:=#[.tmp 31,.tmp 32]) rfl ?_);at_builtin;refine R_append_rows k27 (w0:=w) w.heap.size rfl (.tmp 31) (.tmp 32) 23 27 (.agg #[(iV 0),(iV 0),(iV 0),(iV 0),(iV 0)]) 40 rfl underlying23 aba rfl (by decide) (by omega) iK bR bv _ _ _ (fun k_=>some k_≠(.slice dK bv.length dL:Value).ownBlock) (fun _=>False) rfl rfl ?aO ?aR (fun _ _ h=>h) (fun _ h=>h.elim) ?aF ?aB ?aS ?aL ?_;(case aR=>exact kJ bF);(case aB=>exact qB);(case aF=>exact (fun k_ hk=>Kd.fresh' (R_lt (qR bF)) k_ hk));(case aO=>exact (qR eG));(case aS=>exact (aa4 qB));(case aL=>have:=fC.out;omega);intro iL w16 ho hb hg hat;rw [<- eB.out] at ho;have eH:=aM ho;replace aX:=aM (aaq (g:=eF) (qK aX) hg (R_ne eG.out aX.out (by decide)));replace bF:=aM (R_after (ok:=(fun _=>True)) (qR bF) hg hat);replace HB:=aM hb;clear eG;clear ho hb hg hat)|((with_reducible refine aaa (b:=.append) (xs:=#[.tmp 34,.tmp 37]) rfl ?_);at_builtin;refine R_append k27 (w0:=w) w.heap.size rfl (.tmp 34) (.tmp 37) 23 27 (.agg #[(iV 0),(iV 0),(iV 0),(iV 0),(iV 0)]) 40 rfl underlying23 aba rfl (by decide) (by omega) iL bS (⟨4,0,0,0,a1⟩:S27) [iV 4,iV 0,iV 0,iV 0,iV a1] (fun k_=>some k_≠(.slice dK bv.length dL:Value).ownBlock) (fun _=>False) rfl rfl ?aP (fun _ hk=>hk.elim) ?aF ?aO ?aB ?aS ?aL ?_;(case aP=>exact aaV _ _ _ (⟨4,0,0,0,a1⟩:S27));(case aB=>exact qB);(case aF=>exact (fun k_ hk=>Kd.fresh' (R_lt (qR bF)) k_ hk));(case aO=>exact (qR eH));(case aS=>exact (aa4 qB));(case aL=>have:=fD.out;omega);intro jQ iZ ho hb hg hat;rw [<- eD.out] at ho;have gB:=aM ho;replace aX:=aM (aaq (g:=eF) (qK aX) hg (R_ne eH.out aX.out (by decide)));replace bF:=aM (R_after (ok:=(fun _=>True)) (qR bF) hg hat);replace HB:=aM hb;clear eH;clear ho hb hg hat))
 go_ret
 exact⟨_,qW,by (with_reducible repeat (first|apply R_alloc|apply R_drewN|apply R_drew));exact R_mono gB.out (fun _ hk=>trivial),qB⟩
theorem SaN.step (k:Nat) (aC:∀ m_,m_ < k->SaM.stmt m_) (ih:∀ m_,m_ < k->adz m_) (bn:∀ m_,m_ < k->adA m_) (aT:∀ m_,m_ < k->ady m_):adz k:=by
 intro az av ax af ag aH aI ae aJ aK ah aU aV aj a1 r w bz bA bB bC bD bE h
 cases k with
 | zero=>exact absurd h (by simp [aiH])
 | succ k =>
 simp only [aiH] at h
 have fA:=underlying92
 have fV:=underlying90
 have fZ:=underlying27
 have aZ:=aM bz
 have bg:=aM bA
 clear bz bA
 have bH:=aM bB
 have bI:=aM bC
 clear bB bC
 have bT:=aM bD
 have bU:=aM bE
 clear bD bE
 have HB:=jb_ w
 have H:((adT k af ag ae 4).bind fun aQ=>(if az=2 then ((ajQ k az av ax af ag ae ah aj a1).bind fun dO=>(some dO)) else (if az=3 then ((ajP k az av ax af ag ae ah aj a1).bind fun dP=>(some dP)) else (if az=1 then (if aQ.length < 3518437208883 then (some (aQ ++ [(⟨2,av,4,0,0⟩:S27)])) else (none)) else (if az=4 then (if aQ.length < 3518437208883 then (some (aQ ++ [(⟨6,0,4,0,ax⟩:S27)])) else (none)) else (if az=7 then (if aQ.length < 3518437208883 then (some (aQ ++ [(⟨9,0,4,0,0⟩:S27)])) else (none)) else (if az=5 then (some (([(⟨7,av,0,0,ax⟩:S27)]:List S27))) else (some (([(⟨8,0,0,0,0⟩:S27)]:List S27))))))))))=some r:=h
 clear h
 obtain⟨aQ,A3,H⟩:=qE H
 try dsimp only at H
 replace H:=jE H;rcases H with ⟨iM,iN,H⟩ | ⟨c4,iM,iN,H⟩
 ·obtain⟨dO,A5,H⟩:=qE H
  try dsimp only at H
  obtain rfl:=oJ H
  go_enter func81,ntmps81
  go_wp2_with (first|((with_reducible refine jd 2 ?_);refine jY _ 92 ?_;intro bG hg w6 aa hb;have bL:=kG hg;replace HB:=kH hb;clear hb hg;have lY:=jz8 aa)|((with_reducible refine jc 89 8 ?_);refine jM func89 (abE k af ag _ _ ae 4 aQ _ (kb aZ HB) bg.out A3.out) ?_;rintro bM w8 ⟨ho0,hb⟩;have aD:=kL ho0;replace aa:=kB aa hb;replace HB:=kH hb;clear hb;(try clear ho0);have iW:=jz8 aa)|((with_reducible refine jc 90 15 ?_);refine jM func90 (bn k (by omega) az av ax af ag _ _ ae _ _ ah _ _ aj a1 dO _ (kb aZ HB) bg.out (kb bH HB) bI.out (kb bT HB) bU.out A5.out) ?_;rintro jS iX ⟨ho0,hb⟩;have gD:=aM (R_lower (R_new' ho0 (R_lt (qR aD))) (aa4 qB));replace aD:=kO aD ho0 hb;replace aa:=kB aa hb;replace HB:=kH hb;clear hb;(try clear ho0)))
  go_ret
  exact⟨_,qW,by (with_reducible repeat (first|apply R_alloc|apply R_drewN|apply R_drew));exact R_mono gD.out (fun _ hk=>trivial),qB⟩
 replace H:=jE H;rcases H with ⟨gF,gG,H⟩ | ⟨c11,gF,gG,H⟩
 ·obtain⟨dP,jT,H⟩:=qE H
  try dsimp only at H
  obtain rfl:=oJ H
  go_enter func81,ntmps81
  go_wp2_with (first|((with_reducible refine jd 2 ?_);refine jY _ 92 ?_;intro bG hg iY aa hb;have bL:=kG hg;replace HB:=kH hb;clear hb hg;have jW:=jz8 aa)|((with_reducible refine jc 89 8 ?_);refine jM func89 (abE k af ag _ _ ae 4 aQ _ (kb aZ HB) bg.out A3.out) ?_;rintro bM jN ⟨ho0,hb⟩;have aD:=kL ho0;replace aa:=kB aa hb;replace HB:=kH hb;clear hb;(try clear ho0);have jZ:=jz8 aa)|((with_reducible refine jc 91 20 ?_);refine jM func91 (aT k (by omega) az av ax af ag _ _ ae _ _ ah _ _ aj a1 dP _ (kb aZ HB) bg.out (kb bH HB) bI.out (kb bT HB) bU.out jT.out) ?_;rintro j4 iZ ⟨ho0,hb⟩;have gH:=aM (R_lower (R_new' ho0 (R_lt (qR aD))) (aa4 qB));replace aD:=kO aD ho0 hb;replace aa:=kB aa hb;replace HB:=kH hb;clear hb;(try clear ho0)))
  go_ret
  exact⟨_,qW,by (with_reducible repeat (first|apply R_alloc|apply R_drewN|apply R_drew));exact R_mono gH.out (fun _ hk=>trivial),qB⟩
 replace H:=jE H;rcases H with ⟨gI,gJ,H⟩ | ⟨c18,gI,gJ,H⟩
 ·replace H:=jL H;obtain⟨dV,H⟩:=H
  obtain⟨j5,eO⟩:=ky ((aQ ++ [(⟨2,av,4,0,0⟩:S27)]):List S27)
  replace H:=kv eO H
  obtain rfl:=oJ H
  go_enter func81,ntmps81
  go_wp2_with (first|((with_reducible refine jd 2 ?_);refine jY _ 92 ?_;intro bG hg lZ aa hb;have bL:=kG hg;replace HB:=kH hb;clear hb hg;have j6:=jz8 aa)|((with_reducible refine jc 89 8 ?_);refine jM func89 (abE k af ag _ _ ae 4 aQ _ (kb aZ HB) bg.out A3.out) ?_;rintro bM l8 ⟨ho0,hb⟩;have aD:=kL ho0;replace aa:=kB aa hb;replace HB:=kH hb;clear hb;(try clear ho0);have kg:=jz8 aa)|((with_reducible refine aaa (b:=.append) (xs:=#[.tmp 23,.tmp 27]) rfl ?_);at_builtin;refine R_append k27 (w0:=w) w.heap.size rfl (.tmp 23) (.tmp 27) 23 27 (.agg #[(iV 0),(iV 0),(iV 0),(iV 0),(iV 0)]) 40 rfl underlying23 aba rfl (by decide) (by omega) bM aQ (⟨2,av,4,0,0⟩:S27) [iV 2,iV av,iV 4,iV 0,iV 0] (fun _=>True) (fun _=>False) rfl rfl ?aP (fun _ hk=>hk.elim) ?aF ?aO ?aB ?aS ?aL ?_;(case aP=>exact aaV _ _ _ (⟨2,av,4,0,0⟩:S27));(case aB=>exact qB);(case aF=>exact (fun _ _=>trivial));(case aO=>exact (qR aD));(case aS=>exact (aa4 qB));(case aL=>have:=dV.out;omega);intro ko l9 ho hb hg hat;rw [<- eO.out] at ho;have gK:=aM ho;replace aa:=aM (aaq (g:=bG) (qK aa) hg (R_ne aD.out aa.out (by decide)));replace HB:=aM hb;clear aD;clear ho hb hg hat))
  go_ret
  exact⟨_,qW,qR gK,qB⟩
 replace H:=jE H;rcases H with ⟨gL,gM,H⟩ | ⟨ma,gL,gM,H⟩
 ·replace H:=jL H;obtain⟨gN,H⟩:=H
  obtain⟨ku,eP⟩:=ky ((aQ ++ [(⟨6,0,4,0,ax⟩:S27)]):List S27)
  replace H:=kv eP H
  obtain rfl:=oJ H
  go_enter func81,ntmps81
  go_wp2_with (first|((with_reducible refine jd 2 ?_);refine jY _ 92 ?_;intro bG hg mf aa hb;have bL:=kG hg;replace HB:=kH hb;clear hb hg;have kD:=jz8 aa)|((with_reducible refine jc 89 8 ?_);refine jM func89 (abE k af ag _ _ ae 4 aQ _ (kb aZ HB) bg.out A3.out) ?_;rintro bM mg ⟨ho0,hb⟩;have aD:=kL ho0;replace aa:=kB aa hb;replace HB:=kH hb;clear hb;(try clear ho0);have iE:=jz8 aa)|((with_reducible refine aaa (b:=.append) (xs:=#[.tmp 31,.tmp 35]) rfl ?_);at_builtin;refine R_append k27 (w0:=w) w.heap.size rfl (.tmp 31) (.tmp 35) 23 27 (.agg #[(iV 0),(iV 0),(iV 0),(iV 0),(iV 0)]) 40 rfl underlying23 aba rfl (by decide) (by omega) bM aQ (⟨6,0,4,0,ax⟩:S27) [iV 6,iV 0,iV 4,iV 0,iV ax] (fun _=>True) (fun _=>False) rfl rfl ?aP (fun _ hk=>hk.elim) ?aF ?aO ?aB ?aS ?aL ?_;(case aP=>exact aaV _ _ _ (⟨6,0,4,0,ax⟩:S27));(case aB=>exact qB);(case aF=>exact (fun _ _=>trivial));(case aO=>exact (qR aD));(case aS=>exact (aa4 qB));(case aL=>have:=gN.out;omega);intro kE jr ho hb hg hat;rw [<- eP.out] at ho;have gP:=aM ho;replace aa:=aM (aaq (g:=bG) (qK aa) hg (R_ne aD.out aa.out (by decide)));replace HB:=aM hb;clear aD;clear ho hb hg hat))
  go_ret
  exact⟨_,qW,qR gP,qB⟩
 replace H:=jE H;rcases H with ⟨gQ,gT,H⟩ | ⟨c32,gQ,gT,H⟩
 ·replace H:=jL H;obtain⟨gU,H⟩:=H
  obtain⟨kF,eQ⟩:=ky ((aQ ++ [(⟨9,0,4,0,0⟩:S27)]):List S27)
  replace H:=kv eQ H
  obtain rfl:=oJ H
  go_enter func81,ntmps81
  go_wp2_with (first|((with_reducible refine jd 2 ?_);refine jY _ 92 ?_;intro bG hg mh aa hb;have bL:=kG hg;replace HB:=kH hb;clear hb hg;have kP:=jz8 aa)|((with_reducible refine jc 89 8 ?_);refine jM func89 (abE k af ag _ _ ae 4 aQ _ (kb aZ HB) bg.out A3.out) ?_;rintro bM jw ⟨ho0,hb⟩;have aD:=kL ho0;replace aa:=kB aa hb;replace HB:=kH hb;clear hb;(try clear ho0);have kV:=jz8 aa)|((with_reducible refine aaa (b:=.append) (xs:=#[.tmp 39,.tmp 41]) rfl ?_);at_builtin;refine R_append k27 (w0:=w) w.heap.size rfl (.tmp 39) (.tmp 41) 23 27 (.agg #[(iV 0),(iV 0),(iV 0),(iV 0),(iV 0)]) 40 rfl underlying23 aba rfl (by decide) (by omega) bM aQ (⟨9,0,4,0,0⟩:S27) [iV 9,iV 0,iV 4,iV 0,iV 0] (fun _=>True) (fun _=>False) rfl rfl ?aP (fun _ hk=>hk.elim) ?aF ?aO ?aB ?aS ?aL ?_;(case aP=>exact aaV _ _ _ (⟨9,0,4,0,0⟩:S27));(case aB=>exact qB);(case aF=>exact (fun _ _=>trivial));(case aO=>exact (qR aD));(case aS=>exact (aa4 qB));(case aL=>have:=gU.out;omega);intro kX mi ho hb hg hat;rw [<- eQ.out] at ho;have gV:=aM ho;replace aa:=aM (aaq (g:=bG) (qK aa) hg (R_ne aD.out aa.out (by decide)));replace HB:=aM hb;clear aD;clear ho hb hg hat))
  go_ret
  exact⟨_,qW,qR gV,qB⟩
 replace H:=jE H;rcases H with ⟨gW,gX,H⟩ | ⟨mo,gW,gX,H⟩
 ·obtain⟨kZ,df⟩:=ky ((([(⟨7,av,0,0,ax⟩:S27)]:List S27)):List S27)
  replace H:=kv df H
  obtain rfl:=oJ H
  go_enter func81,ntmps81
  go_wp2_with (first|((with_reducible refine jd 2 ?_);refine jY _ 92 ?_;intro bG hg mq aa hb;have bL:=kG hg;replace HB:=kH hb;clear hb hg;have lc:=jz8 aa)|((with_reducible refine jc 89 8 ?_);refine jM func89 (abE k af ag _ _ ae 4 aQ _ (kb aZ HB) bg.out A3.out) ?_;rintro bM mr ⟨ho0,hb⟩;have aD:=kL ho0;replace aa:=kB aa hb;replace HB:=kH hb;clear hb;(try clear ho0);have lg:=jz8 aa)|((with_reducible refine jd 50 ?_);refine jV k27 27 ([(⟨7,av,0,0,ax⟩:S27)]:List S27) [iV 7,iV av,iV 0,iV 0,iV ax] (ahp (show Kd.M k27 _ _ _ (⟨7,av,0,0,ax⟩:S27) [iV 7,iV av,iV 0,iV 0,iV ax] from (aaV _ _ _ (⟨7,av,0,0,ax⟩:S27) )) (aa9 _ _)) ?_;intro lh mD dM hb;replace dM:=kr df dM;have gY:=aM (R_lower (R_new' dM (R_lt (qR aD))) (aa4 qB));replace aD:=kO aD dM hb;replace aa:=kB aa hb;replace HB:=kH hb;clear hb dM))
  go_ret
  exact⟨_,qW,by (with_reducible repeat (first|apply R_alloc|apply R_drewN|apply R_drew));exact R_mono gY.out (fun _ hk=>trivial),qB⟩
 obtain⟨ll,dh⟩:=ky ((([(⟨8,0,0,0,0⟩:S27)]:List S27)):List S27)
 replace H:=kv dh H
 obtain rfl:=oJ H
 go_enter func81,ntmps81
 go_wp2_with (first|((with_reducible refine jd 2 ?_);refine jY _ 92 ?_;intro bG hg mE aa hb;have bL:=kG hg;replace HB:=kH hb;clear hb hg;have lu:=jz8 aa)|((with_reducible refine jc 89 8 ?_);refine jM func89 (abE k af ag _ _ ae 4 aQ _ (kb aZ HB) bg.out A3.out) ?_;rintro bM mF ⟨ho0,hb⟩;have aD:=kL ho0;replace aa:=kB aa hb;replace HB:=kH hb;clear hb;(try clear ho0);have lv:=jz8 aa)|((with_reducible refine jd 52 ?_);refine jV k27 27 ([(⟨8,0,0,0,0⟩:S27)]:List S27) [iV 8,iV 0,iV 0,iV 0,iV 0] (ahp (show Kd.M k27 _ _ _ (⟨8,0,0,0,0⟩:S27) [iV 8,iV 0,iV 0,iV 0,iV 0] from (aaV _ _ _ (⟨8,0,0,0,0⟩:S27) )) (aa9 _ _)) ?_;intro lw mG dN hb;replace dN:=kr dh dN;have gZ:=aM (R_lower (R_new' dN (R_lt (qR aD))) (aa4 qB));replace aD:=kO aD dN hb;replace aa:=kB aa hb;replace HB:=kH hb;clear hb dN))
 go_ret
 exact⟨_,qW,by (with_reducible repeat (first|apply R_alloc|apply R_drewN|apply R_drew));exact R_mono gZ.out (fun _ hk=>trivial),qB⟩
theorem SaM.step (k:Nat) (ih:∀ m_,m_ < k->SaM.stmt m_) (aW:∀ m_,m_ < k->adz m_) (bn:∀ m_,m_ < k->adA m_) (aT:∀ m_,m_ < k->ady m_):SaM.stmt k:=by
 intro A0 c0 l0 a1 r w hr0 hc0 h
 cases k with
 | zero=>exact absurd h (by simp [SaM.f])
 | succ k =>
 simp only [SaM.f] at h
 have fA:=underlying92
 have lC:=aM hr0
 have mH:=aM hc0
 clear hr0 hc0
 have HB:=jb_ w
 have H:(aez k l0 a1 (([]:List S27)) 0)=some r:=h
 clear h
 obtain⟨iO,di⟩:=ky ([]:List S27)
 replace H:=kv di H
 have H':=aM H
 clear H
 go_enter func72,ntmps72
 go_wp2_with (first|((with_reducible refine jd 7 ?_);refine jV k27 27 ([]:List S27) [] (aa9 _ _) ?_;intro lD w3 ib hb;replace ib:=kr di ib;have ic:=kL ib;replace HB:=kH hb;clear hb ib))
 go_loopg [5,6] k (fun kq v5 v6 w'=>∃ (cz:List S27) (aY:Int),v6 = iV aY/\aa1 (aez kq l0 a1 cz aY=some r)/\aa1 (kq<=k)/\aa1 (Kd.R k27 27 w' w.heap.size (fun _=>True) v5 cz)/\aa1 (Below w.heap.size w w'))
 case atStart=>exact⟨(iO),(0),qZ,H',⟨Nat.le_refl _⟩,⟨qR ic⟩,⟨qB⟩⟩
 clear H'
 obtain⟨cz,aY,rfl,HA,iP,cO,HB⟩:=hrel
 rcases gk with _|k1
 ·exact absurd HA.out (by simp [aez])
 have H:=HA.out
 clear HA
 simp only [aez] at H
 replace H:=jD H;rcases H with ⟨fB,H⟩ | ⟨fB,H⟩
 ·replace H:=jI H;obtain⟨lF,H⟩:=H
  obtain⟨cK,A7,H⟩:=qE H
  try dsimp only at H
  replace H:=jL H;obtain⟨iQ,H⟩:=H
  obtain⟨lG,eT⟩:=ky ((cz ++ cK):List S27)
  replace H:=kv eT H
  have H':=aM H
  clear H
  have fI:0<=(aY:Int):=qD
  have fJ:aY < (l0.length:Int):=qD
  obtain⟨je,fK,fM,fO,fP,fQ,fT,e336,dn,dw,dx,dz,dA,dB,dC,dD,dE,dF,dG,dH,dI,dJ⟩:=ahM lC.out aY fI fJ
  cases e336
  replace dn:=kx HB dn
  replace dw:=kx HB dw
  replace dx:=kx HB dx
  replace dz:=kx HB dz
  replace dA:=kx HB dA
  replace dB:=kx HB dB
  replace dC:=kx HB dC
  replace dD:=kx HB dD
  have eZ:=aM dF
  have fe:=aM dE
  clear dF dE
  have fo:=aM dH
  have fq:=aM dG
  clear dH dG
  have fu:=aM dJ
  have fw:=aM dI
  clear dJ dI
  replace fI:=eq_true fI
  replace fJ:=eq_true fJ
  obtain⟨lH,lI,lJ⟩:=R_slice cO.out
  subst lJ
  go_wp2_with (first|((with_reducible refine jc 81 23 ?_);refine jM func81 (aW k1 (by have:=iP.out;omega) ((aao l0 aY).f0) ((aao l0 aY).f1) ((aao l0 aY).f2) ((aao l0 aY).f3.f0) ((aao l0 aY).f3.f1) _ _ ((aao l0 aY).f3.f2) _ _ ((aao l0 aY).f4) _ _ ((aao l0 aY).f5) (wrap64 (a1+(cz.length:Int))) cK _ (kb eZ HB) fe.out (kb fo HB) fq.out (kb fu HB) fw.out A7.out) ?_;rintro lL lK ⟨fU,hb⟩;have cB:=aM (R_lower (R_new' fU (R_lt (qR cO))) (aa4 qB));replace cO:=kO cO fU hb;replace HB:=kH hb;clear hb;(try clear fU);obtain⟨iR,iT,iU⟩:=R_slice cB.out;subst iU)|((with_reducible refine aaa (b:=.append) (xs:=#[.tmp 14,.tmp 23]) rfl ?_);at_builtin;refine R_append_rows k27 (w0:=w) w.heap.size rfl (.tmp 14) (.tmp 23) 23 27 (.agg #[(iV 0),(iV 0),(iV 0),(iV 0),(iV 0)]) 40 rfl underlying23 aba rfl (by decide) (by omega) (.slice lH cz.length lI) cz cK _ _ _ (fun k_=>some k_≠(.slice iR cK.length iT:Value).ownBlock) (fun _=>False) rfl rfl ?aO ?aR (fun _ _ h=>h) (fun _ h=>h.elim) ?aF ?aB ?aS ?aL ?_;(case aR=>exact kJ cB);(case aB=>exact qB);(case aF=>exact (fun k_ hk=>Kd.fresh' (R_lt (qR cB)) k_ hk));(case aO=>exact (by (with_reducible repeat (first|apply R_alloc|apply R_drewN|apply R_drew));exact R_mono cO.out (fun _ hk=>hk.2)));(case aS=>exact (aa4 qB));(case aL=>have:=iQ.out;omega);intro lM lN ho hb hg hat;rw [<- eT.out] at ho;have ig:=aM ho;replace cB:=aM (R_after (ok:=(fun _=>True)) (qR cB) hg hat);replace HB:=aM hb;clear cO;clear ho hb hg hat))
  go_roundg k1
  case measure=>have:=iP.out;omega
  exact⟨_,_,qZ,H',⟨by have:=iP.out;omega⟩,⟨by (with_reducible repeat (first|apply R_alloc|apply R_drewN|apply R_drew));exact R_mono ig.out (fun _ hk=>trivial)⟩,⟨qB⟩⟩
 obtain rfl:=oJ H
 go_wp2
 go_ret
 exact⟨_,qW,qR cO,qB⟩
theorem SaL.grp.calls (k:Nat):adA k/\ady k/\adz k/\SaM.stmt k:=by
 induction k using Nat.strongRecOn with
 | _ k ih=>exact⟨SaL.step k (fun m_ h_=>(ih m_ h_).2.2.2) (fun m_ h_=>(ih m_ h_).2.2.1) (fun m_ h_=>(ih m_ h_).1) (fun m_ h_=>(ih m_ h_).2.1),SaO.step k (fun m_ h_=>(ih m_ h_).2.2.2) (fun m_ h_=>(ih m_ h_).2.2.1) (fun m_ h_=>(ih m_ h_).1) (fun m_ h_=>(ih m_ h_).2.1),SaN.step k (fun m_ h_=>(ih m_ h_).2.2.2) (fun m_ h_=>(ih m_ h_).2.2.1) (fun m_ h_=>(ih m_ h_).1) (fun m_ h_=>(ih m_ h_).2.1),SaM.step k (fun m_ h_=>(ih m_ h_).2.2.2) (fun m_ h_=>(ih m_ h_).2.2.1) (fun m_ h_=>(ih m_ h_).1) (fun m_ h_=>(ih m_ h_).2.1)⟩
theorem amf (k:Nat):SaM.stmt k:=(SaL.grp.calls k).2.2.2
end Go.Proofs.YtebpplallecogaaGreat.M
namespace Go.Proofs.YtebpplallecogaaGreat.M
open Go.Proofs.Tryz Go.RowKit Go.Proofs.YtebpplallecogaaGreatW.PrintWords Go.Proofs.YtebpplallecogaaGreatW.PrintLast Go.Proofs.YtebpplallecogaaGreatW.PrintMore
attribute [local go_sem] aal aaj aaz aay aae aad aak aai
def am3 (k:Nat) (l0:List S92):Option ((List S27) × Bool):=(alT k l0).bind fun ak=>(if ak=true then ((SaM.f k l0 0).bind fun ag=>(if ag.length < 3518437208883 then (some ((ag ++ [(⟨10,0,0,0,0⟩:S27)]),true)) else (none))) else (some ((([]:List S27)),false)))
theorem ai1 (k:Nat) (A0:Option Addr) (c0:Nat) (l0:List S92) (r1:List S27) (r2:Bool) (w:World) (hr0:Kd.C k92 w A0 l0.length l0) (hc0:l0.length<=c0) (h:am3 k l0=some (r1,r2)) :
  Calls prog 62 #[.slice A0 l0.length c0] w fun e w'=>∃ aC:Value,e = .returned (.tuple #[aC,.bool r2])/\Kd.R k27 27 w' w.heap.size (fun _=>True) aC r1/\Below w.heap.size w w':=by
 have aD:=underlying27
 have ax:=aM hr0
 have ay:=aM hc0
 clear hr0 hc0
 have HB:=jb_ w
 have H:=h;unfold am3 at H
 clear h
 obtain⟨ak,A2,H⟩:=qE H
 try dsimp only at H
 replace H:=jB H;rcases H with ⟨rfl,H⟩ | ⟨rfl,H⟩
 ·obtain⟨ag,A4,H⟩:=qE H
  try dsimp only at H
  replace H:=jL H;obtain⟨az,H⟩:=H
  obtain⟨aG,ah⟩:=ky ((ag ++ [(⟨10,0,0,0,0⟩:S27)]):List S27)
  replace H:=kv ah H
  obtain⟨rfl,rfl⟩:=oJ2 H
  go_enter func62,ntmps62
  go_wp2_with (first|((with_reducible refine jc 71 5 ?_);refine jK func71 (ahY k _ _ l0 true _ (kC ax.out) ay.out A2.out) ?_;intro w6 hb;replace HB:=kH hb;clear hb)|((with_reducible refine jc 72 9 ?_);refine jM func72 (amf k _ _ l0 0 ag _ (kb ax HB) ay.out A4.out) ?_;rintro aA w7 ⟨ho0,hb⟩;have aj:=kL ho0;replace HB:=kH hb;clear hb;(try clear ho0))|((with_reducible refine aaa (b:=.append) (xs:=#[.tmp 9,.tmp 11]) rfl ?_);at_builtin;refine Kd.R_append k27 (w0:=w) w.heap.size rfl (.tmp 9) (.tmp 11) 23 27 (.agg #[(iV 0),(iV 0),(iV 0),(iV 0),(iV 0)]) 40 rfl underlying23 aba rfl (by decide) (by omega) aA ag (⟨10,0,0,0,0⟩:S27) [iV 10,iV 0,iV 0,iV 0,iV 0] (fun _=>True) (fun _=>False) rfl rfl ?aP (fun _ hk=>hk.elim) ?aF ?aO ?aB ?aS ?aL ?_;(case aP=>exact aaV _ _ _ (⟨10,0,0,0,0⟩:S27));(case aB=>exact qB);(case aF=>exact (fun _ _=>trivial));(case aO=>exact (qR aj));(case aS=>exact (aa4 qB));(case aL=>have:=az.out;omega);intro aH w8 ho hb hg hat;rw [<- ah.out] at ho;have au:=aM ho;replace HB:=aM hb;clear aj;clear ho hb hg hat))
  go_ret2
  exact⟨_,qW,qR au,qB⟩
 obtain⟨aI,af⟩:=ky ([]:List S27)
 replace H:=kv af H
 obtain⟨rfl,rfl⟩:=oJ2 H
 go_enter func62,ntmps62
 go_wp2_with (first|((with_reducible refine jc 71 5 ?_);refine jK func71 (ahY k _ _ l0 false _ (kC ax.out) ay.out A2.out) ?_;intro w9 hb;replace HB:=kH hb;clear hb)|((with_reducible refine jd 7 ?_);refine jV k27 27 ([]:List S27) [] (aa9 _ _) ?_;intro aJ aK ai hb;replace ai:=kr af ai;have av:=kL ai;replace HB:=kH hb;clear hb ai))
 go_ret2
 exact⟨_,qW,qR av,qB⟩
end Go.Proofs.YtebpplallecogaaGreat.M
namespace Go.Proofs.YtebpplallecogaaGreat.M
open Go.Proofs.Tryz Go.RowKit Go.Proofs.YtebpplallecogaaGreatW.PrintWords Go.Proofs.YtebpplallecogaaGreatW.PrintLast Go.Proofs.YtebpplallecogaaGreatW.PrintMore Kd
attribute [local go_sem] aal aaj aaz aay aae aad aak aai
def ahR (a0 ay az:Int) (au:List S90) (aA aB:Int) (av:List S90):Option (Int × Int × (List S90)):=some (a0,0,(([(⟨ay,az,au⟩:S90),(⟨aA,aB,av⟩:S90)]:List S90)))
theorem ahS (a0 ay az:Int) (af:Nat->Prop) (aG:Option Addr) (aH:Nat) (au:List S90) (aA aB:Int) (ag:Nat->Prop) (aI:Option Addr) (aJ:Nat) (av:List S90) (r1 r2:Int) (r3:List S90) (w:World) (aS:Kd.V k90 90 w w.heap.size (fun k_=>af k_) (.slice aG au.length aH) au) (aT:Kd.V k90 90 w w.heap.size (fun k_=>ag k_) (.slice aI av.length aJ) av) (h:ahR a0 ay az au aA aB av=some (r1,r2,r3)) :
  Calls prog 109 #[iV a0,.agg #[iV ay,iV az,.slice aG au.length aH],.agg #[iV aA,iV aB,.slice aI av.length aJ]] w fun e w'=>∃ aY:Value,e = .returned (.agg #[iV r1,iV r2,aY])/\Kd.N k90 90 w' w.heap.size (fun k_=>((af k_\/ag k_)\/w.heap.size<=k_)) aY r3/\Below w.heap.size w w':=by
 have bu:=underlying90
 have ah:=aM (show Kd.V k90 90 w w.heap.size (fun k_=>((af k_\/ag k_)\/w.heap.size<=k_)) (.slice aG au.length aH) au from V_mono aS (fun k_ hk=>.inl (.inl hk)))
 have ai:=aM (show Kd.V k90 90 w w.heap.size (fun k_=>((af k_\/ag k_)\/w.heap.size<=k_)) (.slice aI av.length aJ) av from V_mono aT (fun k_ hk=>.inl (.inr hk)))
 have HB:=jb_ w
 have H:=h;unfold ahR at H
 clear h
 obtain⟨aU,aF⟩:=ky ((([(⟨ay,az,au⟩:S90),(⟨aA,aB,av⟩:S90)]:List S90)):List S90)
 replace H:=kv aF H
 obtain⟨rfl,rfl,rfl⟩:=oJ3 H
 go_enter func109,ntmps109
 go_wp2_with (first|((with_reducible refine jd 4 ?_);refine jY _ 90 ?_;intro aj hg w4 ae hb;have aZ:=kG hg;replace ah:=aM (V_below (V_elderB (qV ah) aj (Nat.le_of_eq hg.symm)) hb);replace ai:=aM (V_below (V_elderB (qV ai) aj (Nat.le_of_eq hg.symm)) hb);replace HB:=kH hb;clear hb hg)|((with_reducible refine jd 5 ?_);refine jY _ 90 ?_;intro ak hg w5 ax hb;have bg:=kG hg;have aK:=kN hg ae;have aL:=kM hg ae;replace ah:=aM (V_below (V_elderB (qV ah) ak (Nat.le_of_eq hg.symm)) hb);replace ai:=aM (V_below (V_elderB (qV ai) ak (Nat.le_of_eq hg.symm)) hb);replace ae:=kB ae hb;replace HB:=kH hb;clear hb hg)|((with_reducible refine jd 6 ?_);refine jY _ 90 ?_;intro aa hg w6 aD hb;have bi:=kG hg;have aN:=kN hg ae;have aO:=kM hg ae;have aP:=kN hg ax;have aQ:=kM hg ax;replace ah:=aM (V_below (V_elderB (qV ah) aa (Nat.le_of_eq hg.symm)) hb);replace ai:=aM (V_below (V_elderB (qV ai) aa (Nat.le_of_eq hg.symm)) hb);replace ae:=kB ae hb;replace ax:=kB ax hb;replace HB:=kH hb;clear hb hg;have bv:=aK.out;have bz:=aL.out;have bA:=aN.out;have bB:=aO.out;have bF:=jz3 ae;have bn:=aP.out;have bq:=aQ.out;have bC:=jz3 ax)|((with_reducible refine jd 10 ?_);refine N_lit k90 _ 90 ?hg (N':=10) ?hd (xs:=([(⟨ay,az,au⟩:S90),(⟨aA,aB,av⟩:S90)]:List S90)) (inner:=[iV ay,iV az,.slice aG au.length aH,iV aA,iV aB,.slice aI av.length aJ]) (ok:=(fun k_=>((af k_\/ag k_)\/w.heap.size<=k_)/\k_≠aj/\k_≠ak/\k_≠aa)) (okp:=(fun k_=>((af k_\/ag k_)\/w.heap.size<=k_)/\k_≠aj/\k_≠ak/\k_≠aa)) ?hr ?hp (fun _ hk=>hk) ((show ∀ k_,w6.heap.size<=k_->(fun k_=>((af k_\/ag k_)\/w.heap.size<=k_)/\k_≠aj/\k_≠ak/\k_≠aa) k_ from fun k_ hk=>⟨(.inr (Nat.le_trans (aa4 qB) hk)),Kd.freshB (g:=aj) (o:=.cells #[iV ay,iV az,.slice aG au.length aH] 90 (0,0)) (qK ae) k_ hk,Kd.freshB (g:=ak) (o:=.cells #[iV aA,iV aB,.slice aI av.length aJ] 90 (0,0)) (qK ax) k_ hk,Kd.freshB (g:=aa) (o:=.cells #[iV 0,iV 0,.slice none 0 0] 90 (0,0)) (qK aD) k_ hk⟩) _ (Nat.le_refl _)) (Below.refl _ _) (Nat.le_refl _) (by simp) ?_;(case hd=>rfl);(case hg=>rfl);(case hr=>first|(go_simp;done)|(go_simp;rfl));(case hp=>exact (ams (show Kd.FK k90 _ _ (⟨ay,az,au⟩:S90) [iV ay,iV az,.slice aG au.length aH] from (akw _ _ (⟨ay,az,au⟩:S90) (V_reads' (V_mono (ok':=(fun k_=>((af k_\/ag k_)\/w.heap.size<=k_)/\k_≠aj/\k_≠ak/\k_≠aa)) (ah.out) (fun k_ hk=>⟨hk.1.1.1,⟨hk.1.1.2,⟨hk.1.2,hk.2⟩⟩⟩))).2.1 (V_F (V_mono (ok':=(fun k_=>((af k_\/ag k_)\/w.heap.size<=k_)/\k_≠aj/\k_≠ak/\k_≠aa)) (ah.out) (fun k_ hk=>⟨hk.1.1.1,⟨hk.1.1.2,⟨hk.1.2,hk.2⟩⟩⟩))))) (ams (show Kd.FK k90 _ _ (⟨aA,aB,av⟩:S90) [iV aA,iV aB,.slice aI av.length aJ] from (akw _ _ (⟨aA,aB,av⟩:S90) (V_reads' (V_mono (ok':=(fun k_=>((af k_\/ag k_)\/w.heap.size<=k_)/\k_≠aj/\k_≠ak/\k_≠aa)) (ai.out) (fun k_ hk=>⟨hk.1.1.1,⟨hk.1.1.2,⟨hk.1.2,hk.2⟩⟩⟩))).2.1 (V_F (V_mono (ok':=(fun k_=>((af k_\/ag k_)\/w.heap.size<=k_)/\k_≠aj/\k_≠ak/\k_≠aa)) (ai.out) (fun k_ hk=>⟨hk.1.1.1,⟨hk.1.1.2,⟨hk.1.2,hk.2⟩⟩⟩))))) (aa9 _ _))));intro bD bG aC hb hg_ hnew_;clear hg_ hnew_;replace aC:=kr aF aC;have aR:=aM (N_lower aC (aa4 qB));replace ah:=aM (V_elder' (qV ah) (by first|exact N_base aC|exact R_base aC) hb);replace ai:=aM (V_elder' (qV ai) (by first|exact N_base aC|exact R_base aC) hb);replace ae:=kB ae hb;replace ax:=kB ax hb;replace aD:=kB aD hb;replace HB:=kH hb;clear hb aC;obtain⟨aV,aW,aX⟩:=N_slice aR.out;subst aX;have bE:=jz3 aD))
 refine bodyPost_ret (results_cell_row rfl _ _ aa 90 #[iV a0,iV 0,.slice aV aU.length aW] (0,0) _ rfl (qF aD) underlying90 rfl (by kernel_rfl)) rfl ?_
 exact⟨_,qW,by (with_reducible repeat (first|apply N_alloc|apply N_drewN|apply N_drew));exact N_mono (N_far (p:=⟨aa,2,none⟩) (N_far (p:=⟨aa,1,none⟩) (N_far (p:=⟨aa,0,none⟩) (N_mono aR.out (fun k_ hk=>(⟨hk,hk.2.2.2⟩:_/\k_≠aa))) (fun _ hk=>hk.2) (iV a0)) (fun _ hk=>hk.2) (iV 0)) (fun _ hk=>hk.2) (.slice aV aU.length aW)) (fun _ hk=>hk.1.1),qB⟩
end Go.Proofs.YtebpplallecogaaGreat.M
namespace Go.Proofs.YtebpplallecogaaGreat.M
open Go.Proofs.Tryz Go.RowKit Go.Proofs.YtebpplallecogaaGreatW.PrintWords Go.Proofs.YtebpplallecogaaGreatW.PrintLast Go.Proofs.YtebpplallecogaaGreatW.PrintMore
attribute [local go_sem] aal aaj aaz aay aae aad aak aai
def afj (a0 a1:Int):Option (Int × Int × (List S90)):=some (a0,a1,(([]:List S90)))
theorem aee (a0 a1 r1 r2:Int) (r3:List S90) (w:World) (h:afj a0 a1=some (r1,r2,r3)) :
  Calls prog 110 #[iV a0,iV a1] w fun e w'=>∃ aj:Value,e = .returned (.agg #[iV r1,iV r2,aj])/\Kd.R k90 90 w' w.heap.size (fun _=>True) aj r3/\Below w.heap.size w w':=by
 have ax:=underlying90
 have HB:=jb_ w
 have H:(some (a0,a1,(([]:List S90))))=some (r1,r2,r3):=h
 clear h
 obtain⟨ah,af⟩:=ky ([]:List S90)
 replace H:=kv af H
 obtain⟨rfl,rfl,rfl⟩:=oJ3 H
 go_enter func110,ntmps110
 go_wp2_with (first|((with_reducible refine jd 4 ?_);refine jY _ 90 ?_;intro aa hg w3 ae hb;have ak:=kG hg;replace HB:=kH hb;clear hb hg)|((with_reducible refine jd 7 ?_);refine jV k90 90 ([]:List S90) [] (aa9 _ _) ?_;intro ay w4 ai hb;replace ai:=kr af ai;have ag:=aM (Kd.R_lower (Kd.R_newB ai (g:=aa) (o:=.cells #[iV 0,iV 0,.slice none 0 0] 90 (0,0)) (qK ae)) (aa4 qB));replace ae:=kB ae hb;replace HB:=kH hb;clear hb ai;obtain⟨au,av,az⟩:=Kd.R_slice ag.out;subst az;have aA:=jz3 ae))
 refine bodyPost_ret (results_cell_row rfl _ _ aa 90 #[iV a0,iV a1,.slice au ah.length av] (0,0) _ rfl (qF ae) underlying90 rfl (by kernel_rfl)) rfl ?_
 exact⟨_,qW,by (with_reducible repeat (first|apply Kd.R_alloc|apply Kd.R_drewN|apply Kd.R_drew));exact Kd.R_mono (Kd.R_far (p:=⟨aa,2,none⟩) (Kd.R_far (p:=⟨aa,1,none⟩) (Kd.R_far (p:=⟨aa,0,none⟩) (Kd.R_mono ag.out (fun k_ hk=>(⟨hk,hk.2⟩:_/\k_≠aa))) (fun _ hk=>hk.2) (iV a0)) (fun _ hk=>hk.2) (iV a1)) (fun _ hk=>hk.2) (.slice au ah.length av)) (fun _ hk=>trivial),qB⟩
end Go.Proofs.YtebpplallecogaaGreat.M
namespace Go.Proofs.YtebpplallecogaaGreat.M
open Go.Proofs.Tryz Go.RowKit Go.Proofs.YtebpplallecogaaGreatW.PrintWords Go.Proofs.YtebpplallecogaaGreatW.PrintLast Go.Proofs.YtebpplallecogaaGreatW.PrintMore Kd
abbrev eV (x y:Int) (A:Option Addr) (z:List S90) (c:Nat):Value:=.agg #[iV x,iV y,.slice A z.length c]
abbrev Z8:Array Value:=#[iV 0,iV 0,iV 0,iV 0,iV 0,.slice none 0 0,.slice none 0 0,.slice none 0 0]
theorem nrm {p:Prop} (h:p:=by first|(simp only [abg,Act.put,List.setIfInBounds_toArray,List.set_cons_zero,List.set_cons_succ,eV];done)|(simp only [abg,Act.put,List.setIfInBounds_toArray,List.set_cons_zero,List.set_cons_succ,eV];rfl)):p:=h
theorem qR9 {p:Prop} (h:p:=by first|(go_simp;done)|(go_simp;rfl)):p:=h
theorem ake {p:Prop} (h:p:=by first|(go_simp;done)|(go_simp;rfl)):p:=h
theorem aqi {W:World} {b:Nat} {t:TypeId} {a0 a1 a2 a3 a4 a5 a6 a7:Value} (h:W.heap[b]?=some (.cells #[a0,a1,a2,a3,a4,a5,a6,a7] t (0,0))):W.cell? ⟨b,0,none⟩=some a0/\W.cell? ⟨b,1,none⟩=some a1/\W.cell? ⟨b,2,none⟩=some a2/\W.cell? ⟨b,3,none⟩=some a3/\W.cell? ⟨b,4,none⟩=some a4/\W.cell? ⟨b,5,none⟩=some a5/\W.cell? ⟨b,6,none⟩=some a6/\W.cell? ⟨b,7,none⟩=some a7/\W.frozen? ⟨b,0,none⟩=false/\W.frozen? ⟨b,1,none⟩=false/\W.frozen? ⟨b,2,none⟩=false/\W.frozen? ⟨b,3,none⟩=false/\W.frozen? ⟨b,4,none⟩=false/\W.frozen? ⟨b,5,none⟩=false/\W.frozen? ⟨b,6,none⟩=false/\W.frozen? ⟨b,7,none⟩=false :=
 ⟨(aa3 h 0).trans rfl,(aa3 h 1).trans rfl,(aa3 h 2).trans rfl,(aa3 h 3).trans rfl,(aa3 h 4).trans rfl,(aa3 h 5).trans rfl,(aa3 h 6).trans rfl,(aa3 h 7).trans rfl,aa7 h 0,aa7 h 1,aa7 h 2,aa7 h 3,aa7 h 4,aa7 h 5,aa7 h 6,aa7 h 7⟩
def okB (w:World) (g:Nat) (B:List (Nat × Array Value)) (k:Nat):Prop:=w.heap.size<=k/\k≠g/\∀ b∈B,k≠b.1
structure LX (w0 w:World) (g:Nat) (s0:List Int) (v:Value) (tb:List S92) (B:List (Nat × Array Value)) (L:List (Value × List S90)) (M:List (Value × List S92)) (p:Int) (W:World):Prop where
 body:Kd.N k92 92 W w.heap.size (okB w g B) v tb
 es:∀ x∈L,Kd.N k90 90 W w.heap.size (fun k=>okB w g B k/\some k≠v.ownBlock) x.1 x.2
 ms:∀ x∈M,Kd.N k92 92 W w.heap.size (fun k=>okB w g B k/\some k≠v.ownBlock) x.1 x.2
 bx:∀ b∈B,W.heap[b.1]?=some (.cells b.2 92 (0,0))/\w.heap.size<=b.1/\b.1≠g
 nd:(B.map (fun b=>b.1)).Nodup
 rd:Sab w0 W g s0 p
 kp:aa6 w W g none
 bl:Below w0.heap.size w0 W
 ws:w0.heap.size<=w.heap.size
section
variable {w0 w W W':World} {g:Nat} {s0:List Int} {v:Value} {tb:List S92} {B:List (Nat × Array Value)} {L:List (Value × List S90)} {M:List (Value × List S92)} {p:Int}
theorem LX.below (h:LX w0 w g s0 v tb B L M p W) (hb:Below W.heap.size W W'):LX w0 w g s0 v tb B L M p W' :=
 ⟨N_below h.body hb,fun x hx=>N_below (h.es x hx) hb,fun x hx=>N_below (h.ms x hx) hb,fun b hx=>⟨abC (h.bx b hx).1 hb,(h.bx b hx).2⟩,h.nd,Sab.below h.rd hb,h.kp.trans (acY hb g none) (.inl rfl),abS h.bl hb,h.ws⟩
theorem LX.size (h:LX w0 w g s0 v tb B L M p W):w.heap.size<=W.heap.size:=ae4 h.kp
theorem LX.fresh (h:LX w0 w g s0 v tb B L M p W) {k:Nat} (hk:W.heap.size<=k):okB w g B k/\some k≠v.ownBlock :=
 ⟨⟨Nat.le_trans h.size hk,Sab.fresh h.rd k hk,fun b hx e=>by have:=acC (h.bx b hx).1;omega⟩,Kd.fresh' (N_lt h.body) k hk⟩
theorem LX.tail {x:Value × List S90} (h:LX w0 w g s0 v tb B (x :: L) M p W):LX w0 w g s0 v tb B L M p W:=⟨h.body,fun y hy=>h.es y (List.mem_cons_of_mem _ hy),h.ms,h.bx,h.nd,h.rd,h.kp,h.bl,h.ws⟩
theorem LX.expr (h:LX w0 w g s0 v tb B L M p W) (hb:Below W.heap.size W W') {base:Nat} {ok:Nat->Prop} {u:Value} {t:List S90} (ho:Kd.N k90 90 W' base ok u t) (hbase:w.heap.size<=base) (hok:∀ k,ok k->okB w g B k/\some k≠v.ownBlock):LX w0 w g s0 v tb B ((u,t) :: L) M p W':=by
 have h':=h.below hb
 exact⟨h'.body,fun x hx=>(List.mem_cons.1 hx).elim (fun e=>by subst e;exact N_lower (N_mono ho hok) hbase) (h'.es x),h'.ms,h'.bx,h'.nd,h'.rd,h'.kp,h'.bl,h'.ws⟩
theorem ack (h:LX w0 w g s0 v tb B L M p W) {a b x y:Int} {z:List S90} (A:afj a b=some (x,y,z)) {R:Value->World->Prop} (hc:∀ A c W',LX w0 w g s0 v tb B ((.slice A z.length c,z) :: L) M p W'->R (.agg #[iV x,iV y,.slice A z.length c]) W') :
  Calls prog 110 #[iV a,iV b] W fun e W'=>∃ v,e = .returned v/\R v W':=by
 refine (aee a b x y z W A).mono ?_
 rintro e W' ⟨u,rfl,ho,hb⟩
 have ho:=R_N (R_bound ho)
 obtain⟨A',c',rfl⟩:=N_slice ho
 exact⟨_,rfl,hc A' c' W' (h.expr hb ho h.size fun k hk=>h.fresh hk.2.1)⟩
theorem aga (h:LX w0 w g s0 v tb B L M p W) {o a1 a2 b1 b2 x y:Int} {l1 l2 z:List S90} {A1 A2:Option Addr} {c1 c2:Nat} (h1:(.slice A1 l1.length c1,l1)∈L) (h2:(.slice A2 l2.length c2,l2)∈L) (A:ahR o a1 a2 l1 b1 b2 l2=some (x,y,z)) {R:Value->World->Prop} (hc:∀ A c W',LX w0 w g s0 v tb B ((.slice A z.length c,z) :: L) M p W'->R (.agg #[iV x,iV y,.slice A z.length c]) W') :
  Calls prog 109 #[iV o,.agg #[iV a1,iV a2,.slice A1 l1.length c1],.agg #[iV b1,iV b2,.slice A2 l2.length c2]] W fun e W'=>∃ v,e = .returned v/\R v W':=by
 refine (ahS o a1 a2 _ A1 c1 l1 b1 b2 _ A2 c2 l2 x y z W (N_V (h.es _ h1)) (N_V (h.es _ h2)) A).mono ?_
 rintro e W' ⟨u,rfl,ho,hb⟩
 obtain⟨A',c',rfl⟩:=N_slice ho
 exact⟨_,rfl,hc A' c' W' (h.expr hb ho h.size fun k hk=>hk.elim (fun hk=>hk.elim id id) (fun hk=>h.fresh hk))⟩
theorem LX.pick (h:LX w0 w g s0 v tb B L M p W) {k:Nat} {n x q:Int} (A:aaZ k s0 p n=some (x,q)) {R:Value->World->Prop} (hc:∀ W',LX w0 w g s0 v tb B L M q W'->R (iV x) W') :
  Calls prog 52 #[.pointer (some ⟨g,0,none⟩),iV n] W fun e W'=>∃ v,e = .returned v/\R v W':=by
 refine (aab k g s0 p n x q w0 W h.rd h.bl A).mono ?_
 rintro e W' ⟨rfl,hi,hb,hk⟩
 exact⟨_,rfl,hc W' ⟨N_keep h.body hk (fun _ q=>q.2.1),fun x hx=>N_keep (h.es x hx) hk (fun _ q=>q.1.2.1),fun x hx=>N_keep (h.ms x hx) hk (fun _ q=>q.1.2.1),fun b hx=>⟨acR hk (h.bx b hx).1 (h.bx b hx).2.2 (by simp),(h.bx b hx).2⟩,h.nd,hi,h.kp.trans hk (.inl rfl),hb,h.ws⟩⟩
/-- A new box. -/
theorem LX.box (h:LX w0 w g s0 v tb B L M p W) {b:Nat} (hg:b=W.heap.size) {cs:Array Value} (hbox:W'.heap[b]?=some (.cells cs 92 (0,0))) (hb:Below W.heap.size W W'):LX w0 w g s0 v tb ((b,cs) :: B) L M p W':=by
 have hf:=(h.fresh (k:=b) (by omega)).1
 have e:∀ k,okB w g B k/\k≠b->okB w g ((b,cs) :: B) k:=fun k hk=>⟨hk.1.1,hk.1.2.1,fun x hx=>(List.mem_cons.1 hx).elim (fun e=>by subst e;exact hk.2) (hk.1.2.2 x)⟩
 exact⟨N_mono (N_below (N_elderB h.body b (Nat.le_of_eq hg.symm)) hb) e,
  fun x hx=>N_mono (N_below (N_elderB (h.es x hx) b (Nat.le_of_eq hg.symm)) hb) fun k hk=>⟨e k ⟨hk.1.1,hk.2⟩,hk.1.2⟩,
  fun x hx=>N_mono (N_below (N_elderB (h.ms x hx) b (Nat.le_of_eq hg.symm)) hb) fun k hk=>⟨e k ⟨hk.1.1,hk.2⟩,hk.1.2⟩,
  fun x hx=>(List.mem_cons.1 hx).elim (fun e=>by subst e;exact⟨hbox,hf.1,hf.2.1⟩) (fun hx=>⟨abC (h.bx x hx).1 hb,(h.bx x hx).2⟩),
  List.nodup_cons.2 ⟨fun hm=>by obtain⟨x,hx,e⟩:=List.mem_map.1 hm;exact hf.2.2 x hx e.symm,h.nd⟩,
  (h.below hb).rd,(h.below hb).kp,(h.below hb).bl,h.ws⟩
/-- A cell of the youngest box is set. -/
theorem LX.put {b:Nat} {cs:Array Value} (h:LX w0 w g s0 v tb ((b,cs) :: B) L M p W) (j:Nat) (u:Value) {ds:Array Value} (hd:cs.setIfInBounds j u=ds):LX w0 w g s0 v tb ((b,ds) :: B) L M p (W.setCell ⟨b,j,none⟩ u):=by
 obtain⟨hb1,hb2,hb3⟩:=h.bx _ (List.mem_cons_self ..)
 have e:∀ k,okB w g ((b,cs) :: B) k->okB w g ((b,ds) :: B) k:=fun k hk=>⟨hk.1,hk.2.1,fun x hx=>(List.mem_cons.1 hx).elim (fun e=>by subst e;exact hk.2.2 (b,cs) (List.mem_cons_self ..)) (fun hx=>hk.2.2 x (List.mem_cons_of_mem _ hx))⟩
 have n:∀ k,okB w g ((b,cs) :: B) k->k≠b:=fun k hk=>hk.2.2 _ (List.mem_cons_self ..)
 have nd:=List.nodup_cons.1 h.nd
 exact⟨N_mono (N_far (p:=⟨b,j,none⟩) h.body n u) e,fun x hx=>N_mono (N_far (p:=⟨b,j,none⟩) (h.es x hx) (fun k hk=>n k hk.1) u) fun k hk=>⟨e k hk.1,hk.2⟩,
  fun x hx=>N_mono (N_far (p:=⟨b,j,none⟩) (h.ms x hx) (fun k hk=>n k hk.1) u) fun k hk=>⟨e k hk.1,hk.2⟩,
  fun x hx=>(List.mem_cons.1 hx).elim (fun e=>by subst e;exact⟨akQ hb1 j u hd,hb2,hb3⟩) (fun hx=>⟨akS (h.bx x (List.mem_cons_of_mem _ hx)).1 (fun e=>nd.1 (List.mem_map.2 ⟨x,hx,e⟩)) u,(h.bx x (List.mem_cons_of_mem _ hx)).2⟩),
  h.nd,am7 h.rd (fun e=>hb3 e.symm) u,ahc h.kp hb2 u,aac h.bl (Nat.le_trans h.ws hb2),h.ws⟩
theorem LX.row (h:LX w0 w g s0 v tb B L M p W) {ok:Nat->Prop} {u:Value} {t:List S92} (hb:Below W.heap.size W W') {base:Nat} (ho:Kd.N k92 92 W' base ok u t) (hbase:w.heap.size<=base) (hok:∀ k,ok k->okB w g B k/\some k≠v.ownBlock):LX w0 w g s0 v tb B L ((u,t) :: M) p W':=by
 have h':=h.below hb
 exact⟨h'.body,h'.es,fun x hx=>(List.mem_cons.1 hx).elim (fun e=>by subst e;exact N_lower (N_mono ho hok) hbase) (h'.ms x),h'.bx,h'.nd,h'.rd,h'.kp,h'.bl,h'.ws⟩
theorem LX.drew (h:LX w0 w g s0 v tb B L M p W):LX w0 w g s0 v tb B L M p W.drew:=h.below (ac4 (Below.refl _ _))
theorem LX.at_ {W:World} (h:LX w0 w g s0 v tb B L M p W) {b:Nat} {cs:Array Value} (hb:(b,cs)∈B:=by simp):W.heap[b]?=some (.cells cs 92 (0,0))/\True:=⟨(h.bx _ hb).1,trivial⟩
theorem ani {W:World} {p0:Int} (hk0:aa6 w W g none) (hi0:Sab w0 W g s0 p0) (hw:w0.heap.size<=w.heap.size) (ho:Kd.N k92 92 W' W.heap.size (fun k=>W.heap.size<=k) v tb) (hi:Sab w0 W' g s0 p) (hb:Below w0.heap.size w0 W') (hk:aa6 W W' g none):LX w0 w g s0 v tb [] [] [] p W' :=
 ⟨N_lower (N_mono ho fun k h=>⟨Nat.le_trans (ae4 hk0) h,Sab.fresh hi0 k h,fun _ hb=>(by cases hb)⟩) (ae4 hk0),fun _ h=>(by cases h),fun _ h=>(by cases h),fun _ h=>(by cases h),List.nodup_nil,hi,hk0.trans hk (.inl rfl),hb,hw⟩
theorem LX.one (h:LX w0 w g s0 v tb B L M p W) {A:Option Addr} {c:Nat} {x y:Int} {z:List S90} (hm:(.slice A z.length c,z)∈L):aax (Kd.FK k92 W (fun k=>okB w g B k/\some k≠v.ownBlock)) k92.sz [(⟨1,3,0,(⟨x,y,z⟩:S90),[],[]⟩:S92)] [iV 1,iV 3,iV 0,iV x,iV y,.slice A z.length c,.slice none 0 0,.slice none 0 0] :=
 acx (acw _ _ (⟨1,3,0,(⟨x,y,z⟩:S90),[],[]⟩:S92) (N_reads' (h.es _ hm)).2.1 (N_F (h.es _ hm)) (Nat.le_refl _) (F_nil _ _ _) (Nat.le_refl _) (F_nil _ _ _)) (aa9 _ _)
theorem aqh {A0:Option Addr} {c0:Nat} (h:LX w0 w g s0 (.slice A0 tb.length c0) tb B L M p W) {A A':Option Addr} {c c':Nat} {x y x' y':Int} {z z':List S90} (hm:(.slice A z.length c,z)∈L) (hm':(.slice A' z'.length c',z')∈L):aax (Kd.FK k92 W (okB w g B)) k92.sz [(⟨1,3,0,(⟨x,y,z⟩:S90),[],[]⟩:S92),(⟨3,0,0,(⟨x',y',z'⟩:S90),tb,[]⟩:S92)] [iV 1,iV 3,iV 0,iV x,iV y,.slice A z.length c,.slice none 0 0,.slice none 0 0,iV 3,iV 0,iV 0,iV x',iV y',.slice A' z'.length c',.slice A0 tb.length c0,.slice none 0 0] :=
 acx (acw _ _ (⟨1,3,0,(⟨x,y,z⟩:S90),[],[]⟩:S92) (N_reads' (h.es _ hm)).2.1 (N_F (N_mono (h.es _ hm) fun _ hk=>hk.1)) (Nat.le_refl _) (F_nil _ _ _) (Nat.le_refl _) (F_nil _ _ _))
  (acx (acw _ _ (⟨3,0,0,(⟨x',y',z'⟩:S90),tb,[]⟩:S92) (N_reads' (h.es _ hm')).2.1 (N_F (N_mono (h.es _ hm') fun _ hk=>hk.1)) (N_reads' h.body).2.1 (N_F h.body) (Nat.le_refl _) (F_nil _ _ _)) (aa9 _ _))
theorem LX.put8 {b:Nat} {a0 a1 a2 a3 a4 a5 a6 a7:Value} (u0 u1 u2 u3 u4 u5 u6 u7:Value) (h:LX w0 w g s0 v tb ((b,#[a0,a1,a2,a3,a4,a5,a6,a7]) :: B) L M p W):LX w0 w g s0 v tb ((b,#[u0,u1,u2,u3,u4,u5,u6,u7]) :: B) L M p ((((((((W.setCell ⟨b,0,none⟩ u0).setCell ⟨b,1,none⟩ u1).setCell ⟨b,2,none⟩ u2).setCell ⟨b,3,none⟩ u3).setCell ⟨b,4,none⟩ u4).setCell ⟨b,5,none⟩ u5).setCell ⟨b,6,none⟩ u6).setCell ⟨b,7,none⟩ u7) :=
 (LX.put (ds:=#[u0,u1,u2,u3,u4,u5,u6,u7]) (LX.put (ds:=#[u0,u1,u2,u3,u4,u5,u6,a7]) (LX.put (ds:=#[u0,u1,u2,u3,u4,u5,a6,a7]) (LX.put (ds:=#[u0,u1,u2,u3,u4,a5,a6,a7]) (LX.put (ds:=#[u0,u1,u2,u3,a4,a5,a6,a7]) (LX.put (ds:=#[u0,u1,u2,a3,a4,a5,a6,a7]) (LX.put (ds:=#[u0,u1,a2,a3,a4,a5,a6,a7]) (LX.put (ds:=#[u0,a1,a2,a3,a4,a5,a6,a7]) h 0 u0 rfl) 1 u1 rfl) 2 u2 rfl) 3 u3 rfl) 4 u4 rfl) 5 u5 rfl) 6 u6 rfl) 7 u7 rfl)
variable {ops:Array Oper} {o:Oper} {a:Act} {Q:Exit->Act->World->Prop} {Kc:Act->World->Prop}
/-- A literal of one statement that sets. -/
theorem adO (h:LX w0 w g s0 v tb B L M p W) (hw:Region.wanted o (yielded ops a.tmps)=true) {N:Tmp} (hd:o.dst=some N) {inner:List Value} {xs ys:List S92} (hy:ys=xs)
  (hrun:(execOp a.eval o).run prog W = .ok (.value (.slice (some ⟨W.heap.size,0,none⟩) xs.length xs.length)) (W.alloc (.cells inner.toArray 92 (0,0))))
  (hrep:aax (Kd.FK k92 W (fun k=>okB w g B k/\some k≠v.ownBlock)) k92.sz xs inner) (hm:xs.length<=9223372036854775807)
  (hc:∀ A c W',LX w0 w g s0 v tb B L ((.slice A ys.length c,ys) :: M) p W'->Kc (a.put (some N) (.slice A ys.length c)) W'):if Region.wanted o (yielded ops a.tmps)=true then Oper.wp prog o a W Kc Q else Kc (a.put o.dst undef) W:=by
 subst hy
 refine N_lit_step k92 W.heap.size 92 hw hd hrun hrep (fun _ hk=>hk) (h.fresh (Nat.le_refl _)) (Below.refl _ _) (Nat.le_refl _) hm ?_
 intro v1 W1 hN hb _ _
 obtain⟨A,c,rfl⟩:=N_slice hN
 rw [hd]
 exact hc A c W1 (h.row hb hN h.size fun k hk=>hk)
theorem LX.lit2 (h:LX w0 w g s0 v tb B L M p W) (hw:Region.wanted o (yielded ops a.tmps)=true) {N:Tmp} (hd:o.dst=some N) {inner:List Value} {xs:List S92}
  (hrun:(execOp a.eval o).run prog W = .ok (.value (.slice (some ⟨W.heap.size,0,none⟩) xs.length xs.length)) (W.alloc (.cells inner.toArray 92 (0,0))))
  (hrep:aax (Kd.FK k92 W (okB w g B)) k92.sz xs inner) (hm:xs.length<=9223372036854775807)
  (hc:∀ v1 W',Kd.N k92 92 W' w.heap.size (okB w g B) v1 xs->LX w0 w g s0 v tb B L M p W'->Kc (a.put (some N) v1) W'):if Region.wanted o (yielded ops a.tmps)=true then Oper.wp prog o a W Kc Q else Kc (a.put o.dst undef) W:=by
 refine N_lit_step k92 W.heap.size 92 hw hd hrun hrep (fun _ hk=>hk) (h.fresh (Nat.le_refl _)).1 (Below.refl _ _) (Nat.le_refl _) hm ?_
 intro v1 W1 hN hb _ _
 rw [hd]
 exact hc v1 W1 (N_lower hN h.size) (h.below hb)
/-- A row is appended to the row of statements. -/
theorem LX.app {A1:Option Addr} {c1:Nat} (h:LX w0 w g s0 (.slice A1 tb.length c1) tb B L M p W) (hw:Region.wanted o (yielded ops a.tmps)=true) {N:Tmp} (hd:o.dst=some N) (s x:Operand)
  (ho:o.op = .call { callee:=.builtin .append,args:=#[s,x],argTypes:=#[75,75] }) {A2:Option Addr} {c2:Nat} {ys yt:List S92} (hy:yt=tb ++ ys) (hs:a.eval s = .slice A1 tb.length c1) (hx:a.eval x = .slice A2 ys.length c2) (hys:(.slice A2 ys.length c2,ys)∈M)
  (hl:tb.length+ys.length < 1256584717458) (hc:∀ A c W',LX w0 w g s0 (.slice A yt.length c) yt B L [] p W'->Kc (a.put (some N) (.slice A yt.length c)) W'):if Region.wanted o (yielded ops a.tmps)=true then Oper.wp prog o a W Kc Q else Kc (a.put o.dst undef) W:=by
 subst hy
 refine N_append_rows_step k92 w.heap.size hw s x 75 92 (.agg #[(iV 0),(iV 0),(iV 0),(iV 0),(iV 0),(.slice none 0 0),(.slice none 0 0),(.slice none 0 0)]) 112 ho underlying75 akB rfl (by decide) (by omega) (.slice A1 tb.length c1) tb ys A2 ys.length c2 (okB w g B) (fun k=>okB w g B k/\some k≠(.slice A1 tb.length c1:Value).ownBlock) hs hx h.body (N_F (h.ms _ hys)) (fun _ hk=>hk) (fun k hk=>(h.fresh hk).1) (Below.refl _ _) h.size (by omega) ?_
 intro v1 W1 hN hb hg hat
 obtain⟨A,c,rfl⟩:=N_slice hN
 rw [hd]
 exact hc A c W1 ⟨hN,fun y hy=>N_afterv (h.es y hy) hg hat,fun y hy=>(by cases hy),
  fun b hb'=>⟨aaq (h.bx b hb').1 hg (N_away h.body fun k hk=>hk.2.2 b hb'),(h.bx b hb').2⟩,h.nd,Sab.grown h.rd hg (N_away h.body fun k hk=>hk.2.1),h.kp.trans (aaQ hg g) (N_base2 h.body),abG h.bl h.ws hb,h.ws⟩
theorem aby (h:LX w0 w g s0 v tb B L M p W) (hw:Region.wanted o (yielded ops a.tmps)=true) {N:Tmp} (hd:o.dst=some N) {cs:Array Value}
  (hrun:(execOp a.eval o).run prog W = .ok (.value (.pointer (some ⟨W.heap.size,0,none⟩))) (W.alloc (.cells cs 92 (0,0))))
  (hc:∀ b W',LX w0 w g s0 v tb ((b,cs) :: B) L M p W'->Kc (a.put (some N) (.pointer (some ⟨b,0,none⟩))) W'):if Region.wanted o (yielded ops a.tmps)=true then Oper.wp prog o a W Kc Q else Kc (a.put o.dst undef) W:=by
 refine ahh hw hd hrun ?_
 intro b hg W1 hbox hb
 rw [hd]
 exact hc b W1 (h.box hg hbox hb)
end
end Go.Proofs.YtebpplallecogaaGreat.M
namespace Go.Proofs.YtebpplallecogaaGreat.M
open Go.Proofs.Tryz Go.RowKit Go.Proofs.YtebpplallecogaaGreatW.PrintWords Go.Proofs.YtebpplallecogaaGreatW.PrintLast Go.Proofs.YtebpplallecogaaGreatW.PrintMore Kd
attribute [local go_sem] aal aaj aaz aay aae aad aak aai
def al5 (k:Nat) (ag:List Int) (ak:Int):Option (Int × Int × (List S90) × Int):=(aaZ k ag ak 4).bind fun av=>(if av.1=0 then ((aaZ k ag av.2 4).bind fun aH=>((afj 0 aH.1).bind fun aC=>(some (aC.1,aC.2.1,aC.2.2,aH.2)))) else (if av.1=1 then ((some (([5,31,32,100,2047,2048,65536,99999]:List Int):List Int)).bind fun aA=>((aaZ k ag av.2 8).bind fun ay=>(if 0<=ay.1 then (if ay.1 < (aA.length:Int) then ((afj 0 (rd aA ay.1)).bind fun aD=>(some (aD.1,aD.2.1,aD.2.2,ay.2))) else (none)) else (none)))) else ((aaZ k ag av.2 4).bind fun aI=>((afj 13 aI.1).bind fun aF=>(some (aF.1,aF.2.1,aF.2.2,aI.2))))))
theorem al6 (k g:Nat) (ag:List Int) (ak r1 r2:Int) (r3:List S90) (r4:Int) (w0 w:World) (hI:Sab w0 w g ag ak) (hB:Below w0.heap.size w0 w) (h:al5 k ag ak=some (r1,r2,r3,r4)) :
  Calls prog 111 #[.pointer (some ⟨g,0,none⟩)] w fun e w'=>∃ bP:Value,e = .returned (.agg #[iV r1,iV r2,bP])/\Kd.R k90 90 w' w.heap.size (fun _=>True) bP r3/\Sab w0 w' g ag r4/\Below w0.heap.size w0 w'/\aa6 w w' g none:=by
 have bZ:=underlying90
 have HI0:=aM hI
 have HK:=aM (aaJ w g none)
 have HL:=aM hB.size
 clear hI
 have HW0:=aM hB.size
 have HB:=aM hB
 clear hB
 have H:=h;unfold al5 at H
 clear h
 obtain⟨⟨aP,ax⟩,A2,H⟩:=qE H
 try dsimp only at H
 replace H:=jE H;rcases H with ⟨bF,bG,H⟩ | ⟨c3,bF,bG,H⟩
 ·obtain⟨⟨aQ,bH⟩,A4,H⟩:=qE H
  try dsimp only at H
  obtain⟨⟨aR,aS,aT⟩,A5,H⟩:=qE H
  try dsimp only at H
  obtain⟨rfl,rfl,rfl,rfl⟩:=oJ4 H
  go_enter func111,ntmps111
  go_wp2_with (first|((with_reducible refine jd 2 ?_);refine jY _ 90 ?_;intro aa hg w6 ae hb;have aJ:=aM ((by rw [hg];exact kU:w.heap.size<=aa));have aK:=aM ((Nat.le_trans HW0.out (by rw [hg];exact kU:w.heap.size<=aa):w0.heap.size<=aa));have aj:=aM ((by rw [hg];exact Nat.ne_of_lt (abt (show Sab w0 _ g ag ak from qI HI0)):g≠aa));have af:=aM ((by rw [hg];exact Nat.ne_of_gt (abt (show Sab w0 _ g ag ak from qI HI0)):aa≠g));replace HI0:=aM (Sab.below (qI HI0) hb);replace HK:=kY hb;replace HB:=kH hb;clear hb hg)|((with_reducible refine jc 52 4 ?_);refine jK func52 (aab k g ag ak 4 aP ax w0 _ (qI HI0) qB A2.out) ?_;rintro w7 ⟨hi,hb,hk⟩;replace ae:=kw hk ae af;replace HK:=kI hk;replace HB:=aM hb;replace HI0:=aM hi;clear hb hk hi)|((with_reducible refine jc 52 8 ?_);refine jK func52 (aab k g ag ax 4 aQ bH w0 _ (qI HI0) qB A4.out) ?_;rintro w8 ⟨hi,hb,hk⟩;replace ae:=kw hk ae af;replace HK:=kI hk;replace HB:=aM hb;replace HI0:=aM hi;clear hb hk hi)|((with_reducible refine jc 110 9 ?_);refine jM func110 (aee 0 aQ aR aS aT _ A5.out) ?_;rintro cu w9 ⟨ho0,hb⟩;have aL:=aM (R_lower (R_newB ho0 (g:=aa) (o:=.cells #[iV 0,iV 0,.slice none 0 0] 90 (0,0)) (qK ae)) kU);replace HI0:=aM (Sab.below (qI HI0) hb);replace ae:=kB ae hb;replace HK:=kY hb;replace HB:=kH hb;clear hb;(try clear ho0);have bQ:=af.out;have bR:=aj.out;have cz:=jz3 ae;obtain⟨bq,bu,bI⟩:=R_slice aL.out;subst bI))
  refine bodyPost_ret (results_cell_row rfl _ _ aa 90 #[iV aR,iV aS,.slice bq aT.length bu] (0,0) _ rfl (qF ae) underlying90 rfl (by kernel_rfl)) rfl ?_
  exact⟨_,qW,by (with_reducible repeat (first|apply R_alloc|apply R_drewN|apply R_drew));exact R_mono (R_far (p:=⟨aa,2,none⟩) (R_far (p:=⟨aa,1,none⟩) (R_far (p:=⟨aa,0,none⟩) (R_mono aL.out (fun k_ hk=>(⟨hk,hk.2⟩:_/\k_≠aa))) (fun _ hk=>hk.2) (iV aR)) (fun _ hk=>hk.2) (iV aS)) (fun _ hk=>hk.2) (.slice bq aT.length bu)) (fun _ hk=>trivial),qI HI0,qB,qH⟩
 replace H:=jE H;rcases H with ⟨bv,bz,H⟩ | ⟨c13,bv,bz,H⟩
 ·obtain⟨aA,az⟩:=ky ((([5,31,32,100,2047,2048,65536,99999]:List Int)):List Int)
  replace H:=kv az H
  obtain⟨⟨aB,bJ⟩,cB,H⟩:=qE H
  try dsimp only at H
  replace H:=jI H;obtain⟨bS,H⟩:=H
  replace H:=jI H;obtain⟨bT,H⟩:=H
  obtain⟨⟨aU,aV,aW⟩,cK,H⟩:=qE H
  try dsimp only at H
  obtain⟨rfl,rfl,rfl,rfl⟩:=oJ4 H
  go_enter func111,ntmps111
  go_wp2_with (first|((with_reducible refine jd 2 ?_);refine jY _ 90 ?_;intro aa hg dB ae hb;have aJ:=aM ((by rw [hg];exact kU:w.heap.size<=aa));have aK:=aM ((Nat.le_trans HW0.out (by rw [hg];exact kU:w.heap.size<=aa):w0.heap.size<=aa));have aj:=aM ((by rw [hg];exact Nat.ne_of_lt (abt (show Sab w0 _ g ag ak from qI HI0)):g≠aa));have af:=aM ((by rw [hg];exact Nat.ne_of_gt (abt (show Sab w0 _ g ag ak from qI HI0)):aa≠g));replace HI0:=aM (Sab.below (qI HI0) hb);replace HK:=kY hb;replace HB:=kH hb;clear hb hg)|((with_reducible refine jc 52 4 ?_);refine jK func52 (aab k g ag ak 4 aP ax w0 _ (qI HI0) qB A2.out) ?_;rintro dC ⟨hi,hb,hk⟩;replace ae:=kw hk ae af;replace HK:=kI hk;replace HB:=aM hb;replace HI0:=aM hi;clear hb hk hi)|((with_reducible refine jd 12 ?_);refine jV (Kd.int .i64) 3 ([5,31,32,100,2047,2048,65536,99999]:List Int) [iV 5,iV 31,iV 32,iV 100,iV 2047,iV 2048,iV 65536,iV 99999] (aax.one (show Kd.M (Kd.int .i64) _ _ _ 5 [iV 5] from rfl) (aax.one (show Kd.M (Kd.int .i64) _ _ _ 31 [iV 31] from rfl) (aax.one (show Kd.M (Kd.int .i64) _ _ _ 32 [iV 32] from rfl) (aax.one (show Kd.M (Kd.int .i64) _ _ _ 100 [iV 100] from rfl) (aax.one (show Kd.M (Kd.int .i64) _ _ _ 2047 [iV 2047] from rfl) (aax.one (show Kd.M (Kd.int .i64) _ _ _ 2048 [iV 2048] from rfl) (aax.one (show Kd.M (Kd.int .i64) _ _ _ 65536 [iV 65536] from rfl) (aax.one (show Kd.M (Kd.int .i64) _ _ _ 99999 [iV 99999] from rfl) (aa9 _ _))))))))) ?_;intro cO dD aG hb;replace aG:=kr az aG;have au:=aM (R_lower aG kU);replace HI0:=aM (Sab.below (qI HI0) hb);replace ae:=kB ae hb;replace HK:=kY hb;replace HB:=kH hb;clear hb aG)|((with_reducible refine jc 52 14 ?_);refine jK func52 (aab k g ag ax 8 aB bJ w0 _ (qI HI0) qB cB.out) ?_;rintro dE ⟨hi,hb,hk⟩;replace ae:=kw hk ae af;replace au:=aM (R_mono (R_keep (Sab.apart (show Sab w0 _ g ag ax from qI HI0) (qR au) (by decide)) hk (fun _ h=>h.2)) (fun _ h=>h.1));replace HK:=kI hk;replace HB:=aM hb;replace HI0:=aM hi;clear hb hk hi;obtain⟨df,dh,bK⟩:=R_slice au.out;subst bK;have aX:0<=(aB:Int):=qD;have aY:aB < (aA.length:Int):=qD;obtain⟨bU,bL,bE⟩:=Kd.at_int (R_reads' au.out).2.2 aB aX aY;cases bL;replace aX:=eq_true aX;replace aY:=eq_true aY)|((with_reducible refine jc 110 17 ?_);refine jM func110 (aee 0 (rd aA aB) aU aV aW _ cK.out) ?_;rintro di dF ⟨ho0,hb⟩;have aN:=aM (R_lower (R_newB ho0 (g:=aa) (o:=.cells #[iV 0,iV 0,.slice none 0 0] 90 (0,0)) (qK ae)) kU);replace au:=kR au hb;replace HI0:=aM (Sab.below (qI HI0) hb);replace ae:=kB ae hb;replace HK:=kY hb;replace HB:=kH hb;clear hb;(try clear ho0);have bV:=af.out;have bW:=aj.out;have dn:=jz3 ae;obtain⟨bA,bB,bM⟩:=R_slice aN.out;subst bM))
  refine bodyPost_ret (results_cell_row rfl _ _ aa 90 #[iV aU,iV aV,.slice bA aW.length bB] (0,0) _ rfl (qF ae) underlying90 rfl (by kernel_rfl)) rfl ?_
  exact⟨_,qW,by (with_reducible repeat (first|apply R_alloc|apply R_drewN|apply R_drew));exact R_mono (R_far (p:=⟨aa,2,none⟩) (R_far (p:=⟨aa,1,none⟩) (R_far (p:=⟨aa,0,none⟩) (R_mono aN.out (fun k_ hk=>(⟨hk,hk.2⟩:_/\k_≠aa))) (fun _ hk=>hk.2) (iV aU)) (fun _ hk=>hk.2) (iV aV)) (fun _ hk=>hk.2) (.slice bA aW.length bB)) (fun _ hk=>trivial),qI HI0,qB,qH⟩
 obtain⟨⟨aZ,bN⟩,dw,H⟩:=qE H
 try dsimp only at H
 obtain⟨⟨bg,bi,bn⟩,dx,H⟩:=qE H
 try dsimp only at H
 obtain⟨rfl,rfl,rfl,rfl⟩:=oJ4 H
 go_enter func111,ntmps111
 go_wp2_with (first|((with_reducible refine jd 2 ?_);refine jY _ 90 ?_;intro aa hg dG ae hb;have aJ:=aM ((by rw [hg];exact kU:w.heap.size<=aa));have aK:=aM ((Nat.le_trans HW0.out (by rw [hg];exact kU:w.heap.size<=aa):w0.heap.size<=aa));have aj:=aM ((by rw [hg];exact Nat.ne_of_lt (abt (show Sab w0 _ g ag ak from qI HI0)):g≠aa));have af:=aM ((by rw [hg];exact Nat.ne_of_gt (abt (show Sab w0 _ g ag ak from qI HI0)):aa≠g));replace HI0:=aM (Sab.below (qI HI0) hb);replace HK:=kY hb;replace HB:=kH hb;clear hb hg)|((with_reducible refine jc 52 4 ?_);refine jK func52 (aab k g ag ak 4 aP ax w0 _ (qI HI0) qB A2.out) ?_;rintro dH ⟨hi,hb,hk⟩;replace ae:=kw hk ae af;replace HK:=kI hk;replace HB:=aM hb;replace HI0:=aM hi;clear hb hk hi)|((with_reducible refine jc 52 19 ?_);refine jK func52 (aab k g ag ax 4 aZ bN w0 _ (qI HI0) qB dw.out) ?_;rintro w32 ⟨hi,hb,hk⟩;replace ae:=kw hk ae af;replace HK:=kI hk;replace HB:=aM hb;replace HI0:=aM hi;clear hb hk hi)|((with_reducible refine jc 110 20 ?_);refine jM func110 (aee 13 aZ bg bi bn _ dx.out) ?_;rintro dz dI ⟨ho0,hb⟩;have aO:=aM (R_lower (R_newB ho0 (g:=aa) (o:=.cells #[iV 0,iV 0,.slice none 0 0] 90 (0,0)) (qK ae)) kU);replace HI0:=aM (Sab.below (qI HI0) hb);replace ae:=kB ae hb;replace HK:=kY hb;replace HB:=kH hb;clear hb;(try clear ho0);have bX:=af.out;have bY:=aj.out;have dA:=jz3 ae;obtain⟨bC,bD,bO⟩:=R_slice aO.out;subst bO))
 refine bodyPost_ret (results_cell_row rfl _ _ aa 90 #[iV bg,iV bi,.slice bC bn.length bD] (0,0) _ rfl (qF ae) underlying90 rfl (by kernel_rfl)) rfl ?_
 exact⟨_,qW,by (with_reducible repeat (first|apply R_alloc|apply R_drewN|apply R_drew));exact R_mono (R_far (p:=⟨aa,2,none⟩) (R_far (p:=⟨aa,1,none⟩) (R_far (p:=⟨aa,0,none⟩) (R_mono aO.out (fun k_ hk=>(⟨hk,hk.2⟩:_/\k_≠aa))) (fun _ hk=>hk.2) (iV bg)) (fun _ hk=>hk.2) (iV bi)) (fun _ hk=>hk.2) (.slice bC bn.length bD)) (fun _ hk=>trivial),qI HI0,qB,qH⟩
mutual
def afT:Nat->Int->Bool->List Int->Int->Option (Int × Int × (List S90) × Int)
 | 0,_,_,_,_=>none
 | k+1,x1,dM,x1000,aT=>if dM=true then ((al5 k x1000 aT).bind fun aG=>(some (aG.1,aG.2.1,aG.2.2.1,aG.2.2.2))) else ((ajJ k x1000 aT).bind fun aU=>((adi k x1000 aU.2 (wrap64 (x1 - 1))).bind fun aH=>((adi k x1000 aH.2.2.2 (wrap64 (x1 - 1))).bind fun aI=>((ahR aU.1 aH.1 aH.2.1 aH.2.2.1 aI.1 aI.2.1 aI.2.2.1).bind fun aL=>(some (aL.1,aL.2.1,aL.2.2,aI.2.2.2))))))
def adi:Nat->List Int->Int->Int->Option (Int × Int × (List S90) × Int)
 | 0,_,_,_=>none
 | k+1,aj,aF,a1=>if a1 < 2 then (afT k a1 true aj aF) else ((aaZ k aj aF 3).bind fun aV=>(afT k a1 (aV.1 == 0) aj aV.2))
end
def anC:Bool × List (List Nat × List Nat):=(true,[([],[]),([],[]),([],[]),([],[]),([3],[3]),([2,4],[2,4]),([0,1,5,5],[0,1,5]),([6,6,0,1,2,3,4,5,6],[6])])
def aps:List Nat:=[0,0,0,0,8,28,63,127]
theorem amV:acz .any (opsOf f96 5)=anC:=by kernel_rfl
theorem al7:ab9 anC.2 aps=true:=by kernel_rfl
theorem acD (k:Nat):∀ (g:Nat) (aj:List Int) (aF:Int) (a1:Int) (r1:Int) (r2:Int) (r3:List S90) (r4:Int) (w0 w:World) (hI:Sab w0 w g aj aF) (hB:Below w0.heap.size w0 w) (h:adi k aj aF a1=some (r1,r2,r3,r4)),
  Calls prog 96 #[.pointer (some ⟨g,0,none⟩),iV a1] w fun e w'=>∃ dA:Value,e = .returned (.agg #[iV r1,iV r2,dA])/\Kd.N k90 90 w' w.heap.size (fun k_=>(w.heap.size<=k_)) dA r3/\Sab w0 w' g aj r4/\Below w0.heap.size w0 w'/\aa6 w w' g none:=by
 induction k using Nat.strongRecOn with
 | _ k ih =>
 intro g aj aF a1 r1 r2 r3 r4 w0 w hI hB h
 cases k with
 | zero=>exact absurd h (by simp [adi])
 | succ k =>
 simp only [adi] at h
 have dN:=underlying90
 have HI0:=aM hI
 have HK:=aM (aaJ w g none)
 have HL:=aM hB.size
 clear hI
 have HW0:=aM hB.size
 have HB:=aM hB
 clear hB
 have H:=h
 clear h
 have bU:=aM H
 clear H
 go_enter func96,ntmps96
 go_upto_region 1 with (first|((with_reducible refine jd 4 ?_);refine jY _ 90 ?_;intro aa hg w4 af hb;have dB:=aM ((by rw [hg];exact kU:w.heap.size<=aa));have dC:=aM ((Nat.le_trans HW0.out (by rw [hg];exact kU:w.heap.size<=aa):w0.heap.size<=aa));have aQ:=aM ((by rw [hg];exact Nat.ne_of_lt (abt (show Sab w0 _ g aj aF from qI HI0)):g≠aa));have az:=aM ((by rw [hg];exact Nat.ne_of_gt (abt (show Sab w0 _ g aj aF from qI HI0)):aa≠g));replace HI0:=aM (Sab.below (qI HI0) hb);replace HK:=kY hb;replace HB:=kH hb;clear hb hg))
 (try simp only [Act.put,List.setIfInBounds_toArray,List.set_cons_zero,List.set_cons_succ])
 go_cut [13] (fun v13 wc=>∃ (kq:Nat) (aN:Bool) (aD:Int),v13 = .bool aN/\aa1 (afT kq a1 aN aj aD=some (r1,r2,r3,r4))/\aa1 (kq<=k)/\aa1 (wc.heap[aa]?=some (.cells #[iV 0,iV 0,(.slice none 0 0)] 90 (0,0)))/\aa1 (Sab w0 wc g aj aD)/\aa1 (aa6 w wc g none)/\aa1 (Below w0.heap.size w0 wc))
 case first =>
  have H:=bU.out
  clear bU
  replace H:=jD H;rcases H with ⟨aO,H⟩ | ⟨aO,H⟩
  ·(first|rw [aO]|(simp only [aas,aaw];rw [aO])|skip)
   have H':=aM H
   clear H
   go_wp2
   go_meet
   exact⟨_,(true),(aF),qZ,H',⟨by first|omega|exact Nat.le_refl _⟩,⟨qK af⟩,⟨qI HI0⟩,⟨qH⟩,⟨qB⟩⟩
  (first|rw [aO]|(simp only [aas,aaw];rw [aO])|skip)
  obtain⟨⟨bV,bW⟩,A6,H⟩:=qE H
  try dsimp only at H
  have H':=aM H
  clear H
  go_wp2_with (first|(go_at_call 52;(with_reducible refine (aab k g aj aF 3 bV bW w0 _ ?au ?av A6.out).mono ?_);(case au=>exact qI HI0);(case av=>exact qB);rintro e dO ⟨rfl,hi,hb,hk⟩;replace af:=kw hk af az;replace HK:=kI hk;replace HB:=aM hb;replace HI0:=aM hi;clear hb hk hi))
  go_meet
  exact⟨_,_,_,qZ,H',⟨by first|omega|exact Nat.le_refl _⟩,⟨qK af⟩,⟨qI HI0⟩,⟨qH⟩,⟨qB⟩⟩
 clear bU
 obtain⟨kq,aN,aD,rfl,HA,HJ2,af,HI0,HK,HB⟩:=hcut
 cases kq with
 | zero=>exact absurd HA.out (by simp [afT])
 | succ bN =>
  have H:=HA.out
  clear HA
  simp only [afT] at H
  replace H:=jB H;rcases H with ⟨rfl,H⟩ | ⟨rfl,H⟩
  ·obtain⟨⟨aY,aZ,bg,bX⟩,A9,H⟩:=qE H
   try dsimp only at H
   obtain⟨rfl,rfl,rfl,rfl⟩:=oJ4 H
   go_wp2_with (first|((with_reducible refine jc 111 15 ?_);refine jM func111 (al6 bN g aj aD aY aZ bg bX w0 _ (qI HI0) qB A9.out) ?_;rintro dQ dP ⟨bB,hi,hb,hk⟩;have aW:=aM (N_lower (N_mono (ok':=fun k_=>(w.heap.size<=k_)/\k_≠aa/\k_≠g) (R_N (R_bound bB)) (fun k_ hk_=>⟨(Nat.le_trans kU hk_.2.1),(Kd.freshB (g:=aa) (o:=.cells #[iV 0,iV 0,.slice none 0 0] 90 (0,0)) (qK af) k_ hk_.2.1),(Sab.fresh (qI HI0) k_ hk_.2.1)⟩)) kU);replace af:=kw hk af az;replace HK:=kI hk;replace HB:=aM hb;replace HI0:=aM hi;clear hb hk hi;(try clear bB);have dR:=az.out;have dS:=aQ.out;have dU:=jz3 af;obtain⟨bC,bD,bY⟩:=N_slice aW.out;subst bY))
   refine bodyPost_ret (results_cell_row rfl _ _ aa 90 #[iV aY,iV aZ,.slice bC bg.length bD] (0,0) _ rfl (qF af) underlying90 rfl (by kernel_rfl)) rfl ?_
   exact⟨_,qW,by (with_reducible repeat (first|apply N_alloc|apply N_drewN|apply N_drew));exact N_mono (N_far (p:=⟨aa,2,none⟩) (N_far (p:=⟨aa,1,none⟩) (N_far (p:=⟨aa,0,none⟩) (N_mono aW.out (fun k_ hk=>(⟨hk,hk.2.1⟩:_/\k_≠aa))) (fun _ hk=>hk.2) (iV aY)) (fun _ hk=>hk.2) (iV aZ)) (fun _ hk=>hk.2) (.slice bC bg.length bD)) (fun _ hk=>hk.1.1),qI HI0,qB,qH⟩
  obtain⟨⟨bi,bE⟩,dV,H⟩:=qE H
  try dsimp only at H
  obtain⟨⟨aB,aC,ak,aP⟩,dW,H⟩:=qE H
  try dsimp only at H
  obtain⟨⟨bn,bq,aR,bZ⟩,dX,H⟩:=qE H
  try dsimp only at H
  obtain⟨⟨bu,bv,bz⟩,dY,H⟩:=qE H
  try dsimp only at H
  obtain⟨rfl,rfl,rfl,rfl⟩:=oJ4 H
  try go_wp2_with (first|((with_reducible refine jc 79 17 ?_);refine jK func79 (ahQ bN g aj aD bi bE w0 _ (qI HI0) qB dV.out) ?_;rintro eG ⟨hi,hb,hk⟩;replace af:=kw hk af az;replace HK:=kI hk;replace HB:=aM hb;replace HI0:=aM hi;clear hb hk hi)|((with_reducible refine jc 96 21 ?_);refine jM func96 (ih bN (by have:=HJ2.out;omega) g aj bE (wrap64 (a1 - 1)) aB aC ak aP w0 _ (qI HI0) qB dW.out) ?_;rintro dZ eH ⟨ho0,hi,hb,hk⟩;have ai:=aM (N_lower (N_mono (ok':=fun k_=>(w.heap.size<=k_)/\k_≠aa/\k_≠g) ho0 (fun k_ hk_=>⟨(Nat.le_trans kU hk_),(Kd.freshB (g:=aa) (o:=.cells #[iV 0,iV 0,.slice none 0 0] 90 (0,0)) (qK af) k_ hk_),(Sab.fresh (qI HI0) k_ hk_)⟩)) kU);replace af:=kw hk af az;replace HK:=kI hk;replace HB:=aM hb;replace HI0:=aM hi;clear hb hk hi;(try clear ho0))|((with_reducible refine jd 6 ?_);refine jY _ 90 ?_;intro ae hg bA ah hb;have dD:=aM ((by rw [hg];exact kU:w.heap.size<=ae));have dE:=aM ((Nat.le_trans HW0.out (by rw [hg];exact kU:w.heap.size<=ae):w0.heap.size<=ae));have aA:=kN hg af;have ag:=kM hg af;have aS:=aM ((by rw [hg];exact Nat.ne_of_lt (abt (show Sab w0 _ g aj aP from qI HI0)):g≠ae));have aJ:=aM ((by rw [hg];exact Nat.ne_of_gt (abt (show Sab w0 _ g aj aP from qI HI0)):ae≠g));replace ai:=aM (N_below (N_elderB (qN ai) ae (Nat.le_of_eq hg.symm)) hb);replace af:=kB af hb;replace HI0:=aM (Sab.below (qI HI0) hb);replace HK:=kY hb;replace HB:=kH hb;clear hb hg;have dF:=ag.out;have dG:=aA.out;have dH:=aJ.out;have dI:=aS.out;have d9:=jz3 ah;obtain⟨ax,ay,cu⟩:=N_slice ai.out;subst cu))
  have cz:aa1 (Kd.N k90 90 (((bA.setCell ⟨ae,0,none⟩ (iV aB)).setCell ⟨ae,1,none⟩ (iV aC)).setCell ⟨ae,2,none⟩ (.slice ax ak.length ay)) w.heap.size (fun k_=>(w.heap.size<=k_)/\k_≠aa/\k_≠g/\k_≠ae) (.slice ax ak.length ay) ak):=⟨by (with_reducible repeat (first|apply N_alloc|apply N_drewN|apply N_drew));exact N_mono (N_far (p:=⟨ae,2,none⟩) (N_far (p:=⟨ae,1,none⟩) (N_far (p:=⟨ae,0,none⟩) (N_mono ai.out (fun k_ hk=>(⟨hk,hk.2⟩:_/\k_≠ae))) (fun _ hk=>hk.2) (iV aB)) (fun _ hk=>hk.2) (iV aC)) (fun _ hk=>hk.2) (.slice ax ak.length ay)) (fun _ hk=>⟨hk.1.1.1,⟨hk.1.1.2.1,⟨hk.1.1.2.2,hk.1.2⟩⟩⟩)⟩
  have cB:aa1 ((((bA.setCell ⟨ae,0,none⟩ (iV aB)).setCell ⟨ae,1,none⟩ (iV aC)).setCell ⟨ae,2,none⟩ (.slice ax ak.length ay)).heap[aa]?=some (.cells #[iV 0,iV 0,.slice none 0 0] 90 (0,0))):=⟨qL af⟩
  have cK:aa1 ((((bA.setCell ⟨ae,0,none⟩ (iV aB)).setCell ⟨ae,1,none⟩ (iV aC)).setCell ⟨ae,2,none⟩ (.slice ax ak.length ay)).heap[ae]?=some (.cells #[iV aB,iV aC,.slice ax ak.length ay] 90 (0,0))):=⟨qF ah⟩
  have cO:aa1 (Sab w0 (((bA.setCell ⟨ae,0,none⟩ (iV aB)).setCell ⟨ae,1,none⟩ (iV aC)).setCell ⟨ae,2,none⟩ (.slice ax ak.length ay)) g aj aP):=⟨qI HI0⟩
  have df:aa1 (aa6 w (((bA.setCell ⟨ae,0,none⟩ (iV aB)).setCell ⟨ae,1,none⟩ (iV aC)).setCell ⟨ae,2,none⟩ (.slice ax ak.length ay)) g none):=⟨qH⟩
  have dh:aa1 (Below w0.heap.size w0 (((bA.setCell ⟨ae,0,none⟩ (iV aB)).setCell ⟨ae,1,none⟩ (iV aC)).setCell ⟨ae,2,none⟩ (.slice ax ak.length ay))):=⟨qB⟩
  (try clear ai)
  (try clear af)
  (try clear ah)
  (try clear HI0)
  (try clear HK)
  (try clear HB)
  generalize (((bA.setCell ⟨ae,0,none⟩ (iV aB)).setCell ⟨ae,1,none⟩ (iV aC)).setCell ⟨ae,2,none⟩ (.slice ax ak.length ay))=ed at cz cB cK cO df dh ⊢
  have ai:=cz
  have af:=cB
  have ah:=cK
  have HI0:=cO
  have HK:=df
  have HB:=dh
  clear cz cB cK cO df dh
  replace ai:=aM (N_drew ai.out)
  replace af:=aM (ab2 af.out)
  replace ah:=aM (ab2 ah.out)
  replace HI0:=aM (Sab.drew HI0.out)
  replace HK:=aM (ae5 HK.out)
  replace HB:=aM (aaf HB.out)
  refine abl (n:=8) (S:=fun w'=>w'.cell? ⟨ae,0,none⟩=some (iV aB)/\w'.cell? ⟨ae,1,none⟩=some (iV aC)/\w'.cell? ⟨ae,2,none⟩=some (.slice ax ak.length ay)) (ds:=[]) (jb 8 0) (by kernel_rfl) rfl rfl ⟨(aa3 ah.out 0).trans rfl,(aa3 ah.out 1).trans rfl,(aa3 ah.out 2).trans rfl⟩ (fun hHeld=>?_);refine aaL amV al7 (fun HT_ HW_=>?_)
  generalize ed.drew=eO at ai af ah HI0 HK HB hHeld ⊢
  refine jp 0 22 (jb 8 1) ?_
  refine jp 2 24 (jb 8 5) ?_
  refine jp 3 25 (jb 8 13) ?_
  refine jp 4 26 (jb 8 29) ?_
  refine jt 1 23 (jb 8 31) ?_
  refine acK (i:=5) (N:=some 27) (jb 8 63) rfl rfl (aaR HT_.out (by kernel_rfl)) (by decide) (fun K hK=>?_)
  refine abn func96 (by kernel_rfl) rfl #[.pointer (some ⟨g,0,none⟩),iV (wrap64 (a1 - 1))] (by rfl) rfl rfl qM ?_
  with_reducible refine (ih bN (by have:=HJ2.out;omega) g aj aP (wrap64 (a1 - 1)) bn bq aR bZ w0 _ ?au ?av dX.out).mono ?_
  (case au=>exact qI HI0)
  (case av=>exact qB)
  rintro e eP ⟨ek,rfl,ho0,hi,hb,hk⟩
  refine⟨_,rfl,?_⟩
  have aK:=aM (N_lower (N_mono (ok':=fun k_=>(w.heap.size<=k_)/\some k_≠(.slice ax ak.length ay:Value).ownBlock/\k_≠aa/\k_≠ae/\k_≠g) ho0 (fun k_ hk_=>⟨(Nat.le_trans kU hk_),(Kd.fresh' (N_lt (qN ai)) k_ hk_),(Kd.freshB (g:=aa) (o:=.cells #[iV 0,iV 0,.slice none 0 0] 90 (0,0)) (qK af) k_ hk_),(Kd.freshB (g:=ae) (o:=.cells #[iV aB,iV aC,.slice ax ak.length ay] 90 (0,0)) (qK ah) k_ hk_),(Sab.fresh (qI HI0) k_ hk_)⟩)) kU)
  replace af:=kw hk af az
  replace ai:=aM (N_mono (N_told (N_oldK (N_mono (ok:=fun k_=>(((w.heap.size<=k_))/\(k_≠aa/\(k_≠g/\k_≠ae)))) (qN ai) (fun k_ hk_=>(⟨hk_,hk_.2.2.1⟩:_/\k_≠g))) hk) (by first|exact N_base ho0|exact R_base ho0)) (fun _ h_=>h_.1))
  replace ah:=kw hk ah aJ
  replace HK:=kI hk
  replace HB:=aM hb
  replace HI0:=aM hi
  (try clear hb)
  (try clear hb2)
  (try clear hk)
  (try clear hi)
  (try clear ho0)
  obtain⟨bF,bG,bH⟩:=N_slice aK.out
  (first|subst bH|(injection bH with bI di bJ;have dn:=bI.symm;have dw:=bJ.symm;clear bI di bJ;subst dn;subst dw))
  refine hK.out _ _ ⟨(aa3 ah.out 0).trans rfl,(aa3 ah.out 1).trans rfl,(aa3 ah.out 2).trans rfl⟩ (fun hHeld=>?_)
  clear hK K
  refine aaA (a':=?_) ?_ ?_
  rotate_left
  ·show Act.put _ (some 27) _=_
   simp only [Act.put,List.setIfInBounds_toArray,List.set_cons_zero,List.set_cons_succ,aas,aaw]
   rfl
  refine acK (i:=6) (N:=some 28) (jb 8 127) rfl rfl (aaR HT_.out (by kernel_rfl)) (by decide) (fun K hK=>?_)
  refine abn func109 (by kernel_rfl) rfl #[iV bi,.agg #[iV aB,iV aC,.slice ax ak.length ay],.agg #[iV bn,iV bq,.slice bF aR.length bG]] (by rfl) rfl rfl qM ?_
  with_reducible refine (ahS bi aB aC (fun k_=>(((w.heap.size<=k_)/\(k_≠aa/\(k_≠g/\k_≠ae)))/\some k_≠(.slice bF aR.length bG:Value).ownBlock)) _ _ ak bn bq (fun k_=>((w.heap.size<=k_)/\(some k_≠(.slice ax ak.length ay:Value).ownBlock/\(k_≠aa/\(k_≠ae/\k_≠g))))) _ _ aR bu bv bz _ ?au ?av dY.out).mono ?_
  (case au=>exact N_V (ai.out))
  (case av=>exact N_V (aK.out))
  rintro e dx ⟨eu,rfl,ho0,hb⟩
  refine⟨_,rfl,?_⟩
  have aX:=aM (N_lower (N_mono (ok':=fun k_=>(w.heap.size<=k_)/\k_≠aa/\k_≠ae/\k_≠g) ho0 (fun k_ hk_=>⟨Or.elim hk_ (fun hs_=>Or.elim hs_ (fun hs_=>hs_.1.1) (fun hs_=>hs_.1)) (fun hn_=>(Nat.le_trans kU hn_)),Or.elim hk_ (fun hs_=>Or.elim hs_ (fun hs_=>hs_.1.2.1) (fun hs_=>hs_.2.2.1)) (fun hn_=>(Kd.freshB (g:=aa) (o:=.cells #[iV 0,iV 0,.slice none 0 0] 90 (0,0)) (qK af) k_ hn_)),Or.elim hk_ (fun hs_=>Or.elim hs_ (fun hs_=>hs_.1.2.2.2) (fun hs_=>hs_.2.2.2.1)) (fun hn_=>(Kd.freshB (g:=ae) (o:=.cells #[iV aB,iV aC,.slice ax ak.length ay] 90 (0,0)) (qK ah) k_ hn_)),Or.elim hk_ (fun hs_=>Or.elim hs_ (fun hs_=>hs_.1.2.2.1) (fun hs_=>hs_.2.2.2.2)) (fun hn_=>(Sab.fresh (qI HI0) k_ hn_))⟩)) kU)
  replace ai:=aM (N_elder' (qN ai) (by first|exact N_base ho0|exact R_base ho0) hb)
  replace aK:=aM (N_elder' (qN aK) (by first|exact N_base ho0|exact R_base ho0) hb)
  replace af:=kB af hb
  replace HI0:=aM (Sab.below (qI HI0) hb)
  replace ah:=kB ah hb
  replace HK:=kY hb
  replace HB:=kH hb
  (try clear hb)
  (try clear hb2)
  (try clear hk)
  (try clear hi)
  (try clear ho0)
  obtain⟨bK,bL,bM⟩:=N_slice aX.out
  (first|subst bM|(injection bM with bI di bJ;have dn:=bI.symm;have dw:=bJ.symm;clear bI di bJ;subst dn;subst dw))
  refine hK.out _ _ ⟨(aa3 ah.out 0).trans rfl,(aa3 ah.out 1).trans rfl,(aa3 ah.out 2).trans rfl⟩ (fun hHeld=>?_)
  clear hK K
  refine aaA (a':=?_) ?_ ?_
  rotate_left
  ·show Act.put _ (some 28) _=_
   simp only [Act.put,List.setIfInBounds_toArray,List.set_cons_zero,List.set_cons_succ,aas,aaw]
   rfl
  refine acK (i:=7) (N:=none) (jb 8 255) rfl rfl (aaR HT_.out (by kernel_rfl)) (by decide) (fun K hK=>?_)
  have eB:dx.cell? ⟨aa,0,none⟩=some (iV 0):=(aa3 af.out 0).trans rfl
  have dJ:=aa7 af.out 0
  have bO:=ag.out
  have bP:=aA.out
  have eD:dx.cell? ⟨aa,1,none⟩=some (iV 0):=(aa3 af.out 1).trans rfl
  have dK:=aa7 af.out 1
  have bQ:=ag.out
  have bR:=aA.out
  have eF:dx.cell? ⟨aa,2,none⟩=some (.slice none 0 0):=(aa3 af.out 2).trans rfl
  have dL:=aa7 af.out 2
  have bS:=ag.out
  have bT:=aA.out
  refine ah3 (w1:=?_) (by rfl) rfl ?_ ?_
  rotate_left
  ·go_simp
   rfl
  refine hK.out _ _ ⟨((cell_far (p:=⟨aa,_,none⟩) ag.out _).trans (((cell_far (p:=⟨aa,_,none⟩) ag.out _).trans (((cell_far (p:=⟨aa,_,none⟩) ag.out _).trans (hHeld.1)))))),((cell_far (p:=⟨aa,_,none⟩) ag.out _).trans (((cell_far (p:=⟨aa,_,none⟩) ag.out _).trans (((cell_far (p:=⟨aa,_,none⟩) ag.out _).trans (hHeld.2.1)))))),((cell_far (p:=⟨aa,_,none⟩) ag.out _).trans (((cell_far (p:=⟨aa,_,none⟩) ag.out _).trans (((cell_far (p:=⟨aa,_,none⟩) ag.out _).trans (hHeld.2.2))))))⟩ (fun hHeld=>?_)
  clear hK K
  refine abI (ab5 HT_.out (by kernel_rfl)) ?_
  try go_wp2
  refine bodyPost_ret (results_cell_row rfl _ _ aa 90 #[iV bu,iV bv,.slice bK bz.length bL] (0,0) _ rfl (qF af) underlying90 rfl (by kernel_rfl)) rfl ?_
  exact⟨_,qW,by (with_reducible repeat (first|apply N_alloc|apply N_drewN|apply N_drew));exact N_mono (N_far (p:=⟨aa,2,none⟩) (N_far (p:=⟨aa,1,none⟩) (N_far (p:=⟨aa,0,none⟩) (N_mono aX.out (fun k_ hk=>(⟨hk,hk.2.1⟩:_/\k_≠aa))) (fun _ hk=>hk.2) (iV bu)) (fun _ hk=>hk.2) (iV bv)) (fun _ hk=>hk.2) (.slice bK bz.length bL)) (fun _ hk=>hk.1.1),qI HI0,qB,qH⟩
def ajG (k:Nat) (af:List Int) (aj:Int):Option (Int × Int × Int × Int × Int × (List S90) × (List S92) × (List S92) × Int):=(aaZ k af aj 3).bind fun av=>((aaZ k af av.2 3).bind fun ax=>((adi k af ax.2 (wrap64 (1+ax.1))).bind fun ak=>(some (1,av.1,0,ak.1,ak.2.1,ak.2.2.1,([]:List S92),([]:List S92),ak.2.2.2))))
theorem ahP (k g:Nat) (af:List Int) (aj r1 r2 r3 r4 r5:Int) (r6:List S90) (r7 r8:List S92) (r9:Int) (w0 w:World) (hI:Sab w0 w g af aj) (hB:Below w0.heap.size w0 w) (h:ajG k af aj=some (r1,r2,r3,r4,r5,r6,r7,r8,r9)) :
  Calls prog 92 #[.pointer (some ⟨g,0,none⟩)] w fun e w'=>∃ aH aI aJ:Value,e = .returned (.agg #[iV r1,iV r2,iV r3,iV r4,iV r5,aH,aI,aJ])/\Kd.N k90 90 w' w.heap.size (fun k_=>(w.heap.size<=k_)/\some k_≠(aI:Value).ownBlock/\some k_≠(aJ:Value).ownBlock) aH r6/\Kd.N k92 92 w' w.heap.size (fun k_=>(w.heap.size<=k_)/\some k_≠(aH:Value).ownBlock/\some k_≠(aJ:Value).ownBlock) aI r7/\Kd.N k92 92 w' w.heap.size (fun k_=>(w.heap.size<=k_)/\some k_≠(aH:Value).ownBlock/\some k_≠(aI:Value).ownBlock) aJ r8/\Sab w0 w' g af r9/\Below w0.heap.size w0 w'/\aa6 w w' g none:=by
 have aS:=underlying92
 have HI0:=aM hI
 have HK:=aM (aaJ w g none)
 have HL:=aM hB.size
 clear hI
 have HW0:=aM hB.size
 have HB:=aM hB
 clear hB
 have H:=h;unfold ajG at H
 clear h
 obtain⟨⟨az,aF⟩,A2,H⟩:=qE H
 try dsimp only at H
 obtain⟨⟨aA,aG⟩,A3,H⟩:=qE H
 try dsimp only at H
 obtain⟨⟨aB,aC,aD,aK⟩,A4,H⟩:=qE H
 try dsimp only at H
 obtain⟨rfl,rfl,rfl,rfl,rfl,rfl,rfl,rfl,rfl⟩:=oJ9 H
 go_enter func92,ntmps92
 go_wp2_with (first|((with_reducible refine jd 2 ?_);refine jY _ 92 ?_;intro aa hg w5 ae hb;have aL:=aM ((by rw [hg];exact kU:w.heap.size<=aa));have aN:=aM ((Nat.le_trans HW0.out (by rw [hg];exact kU:w.heap.size<=aa):w0.heap.size<=aa));have au:=aM ((by rw [hg];exact Nat.ne_of_lt (abt (show Sab w0 _ g af aj from qI HI0)):g≠aa));have ag:=aM ((by rw [hg];exact Nat.ne_of_gt (abt (show Sab w0 _ g af aj from qI HI0)):aa≠g));replace HI0:=aM (Sab.below (qI HI0) hb);replace HK:=kY hb;replace HB:=kH hb;clear hb hg)|((with_reducible refine jc 52 5 ?_);refine jK func52 (aab k g af aj 3 az aF w0 _ (qI HI0) qB A2.out) ?_;rintro w6 ⟨hi,hb,hk⟩;replace ae:=kw hk ae ag;replace HK:=kI hk;replace HB:=aM hb;replace HI0:=aM hi;clear hb hk hi)|((with_reducible refine jc 52 9 ?_);refine jK func52 (aab k g af aF 3 aA aG w0 _ (qI HI0) qB A3.out) ?_;rintro w7 ⟨hi,hb,hk⟩;replace ae:=kw hk ae ag;replace HK:=kI hk;replace HB:=aM hb;replace HI0:=aM hi;clear hb hk hi)|((with_reducible refine jc 96 11 ?_);refine jM func96 (acD k g af aG (wrap64 (1+aA)) aB aC aD aK w0 _ (qI HI0) qB A4.out) ?_;rintro aT w8 ⟨ho0,hi,hb,hk⟩;have ay:=aM (N_lower (N_mono (ok':=fun k_=>(w.heap.size<=k_)/\k_≠aa/\k_≠g) ho0 (fun k_ hk_=>⟨(Nat.le_trans kU hk_),(Kd.freshB (g:=aa) (o:=.cells #[iV 0,iV 0,iV 0,iV 0,iV 0,.slice none 0 0,.slice none 0 0,.slice none 0 0] 92 (0,0)) (qK ae) k_ hk_),(Sab.fresh (qI HI0) k_ hk_)⟩)) kU);replace ae:=kw hk ae ag;replace HK:=kI hk;replace HB:=aM hb;replace HI0:=aM hi;clear hb hk hi;(try clear ho0);obtain⟨aO,aP,aU⟩:=N_slice ay.out;subst aU;have aQ:=ag.out;have aR:=au.out;have aV:=jz8 ae))
 refine bodyPost_ret (results_cell_row rfl _ _ aa 92 #[iV 1,iV az,iV 0,iV aB,iV aC,.slice aO aD.length aP,.slice none 0 0,.slice none 0 0] (0,0) _ rfl (qF ae) underlying92 rfl (by kernel_rfl)) rfl ?_
 exact⟨_,_,_,qW,by (with_reducible repeat (first|apply N_alloc|apply N_drewN|apply N_drew));exact N_mono (N_far (p:=⟨aa,7,none⟩) (N_far (p:=⟨aa,6,none⟩) (N_far (p:=⟨aa,5,none⟩) (N_far (p:=⟨aa,4,none⟩) (N_far (p:=⟨aa,3,none⟩) (N_far (p:=⟨aa,2,none⟩) (N_far (p:=⟨aa,1,none⟩) (N_far (p:=⟨aa,0,none⟩) (N_mono ay.out (fun k_ hk=>(⟨hk,hk.2.1⟩:_/\k_≠aa))) (fun _ hk=>hk.2) (iV 1)) (fun _ hk=>hk.2) (iV az)) (fun _ hk=>hk.2) (iV 0)) (fun _ hk=>hk.2) (iV aB)) (fun _ hk=>hk.2) (iV aC)) (fun _ hk=>hk.2) (.slice aO aD.length aP)) (fun _ hk=>hk.2) (.slice none 0 0)) (fun _ hk=>hk.2) (.slice none 0 0)) (fun _ hk=>⟨hk.1.1,⟨(by simp [Value.ownBlock]),(by simp [Value.ownBlock])⟩⟩),by first|exact R_nil _ _ _ _ _|exact N_nil _ _ _ _ _|exact V_nil _ _ _ _ _|exact Q_nil _ _ _ _ _|exact S_nil _ _ _ _ _,by first|exact R_nil _ _ _ _ _|exact N_nil _ _ _ _ _|exact V_nil _ _ _ _ _|exact Q_nil _ _ _ _ _|exact S_nil _ _ _ _ _,qI HI0,qB,qH⟩
def alv (k:Nat) (ag:List Int) (aj a1:Int):Option (Int × Int × Int × Int × Int × (List S90) × (List S92) × (List S92) × Int):=if a1 < 1 then ((ajG k ag aj).bind fun ak=>(some (ak.1,ak.2.1,ak.2.2.1,ak.2.2.2.1,ak.2.2.2.2.1,ak.2.2.2.2.2.1,ak.2.2.2.2.2.2.1,ak.2.2.2.2.2.2.2.1,ak.2.2.2.2.2.2.2.2))) else ((aaZ k ag aj a1).bind fun ax=>((aaZ k ag ax.2 2).bind fun ay=>(if ay.1=0 then ((aaZ k ag ay.2 3).bind fun aQ=>((adi k ag aQ.2 (wrap64 (1+aQ.1))).bind fun av=>(some (4,0,ax.1,av.1,av.2.1,av.2.2.1,([]:List S92),([]:List S92),av.2.2.2)))) else ((aaZ k ag ay.2 3).bind fun aR=>(some (5,aR.1,ax.1,0,0,([]:List S90),([]:List S92),([]:List S92),aR.2))))))
theorem alx (k g:Nat) (ag:List Int) (aj a1 r1 r2 r3 r4 r5:Int) (r6:List S90) (r7 r8:List S92) (r9:Int) (w0 w:World) (hI:Sab w0 w g ag aj) (hB:Below w0.heap.size w0 w) (h:alv k ag aj a1=some (r1,r2,r3,r4,r5,r6,r7,r8,r9)) :
  Calls prog 95 #[.pointer (some ⟨g,0,none⟩),iV a1] w fun e w'=>∃ bF bG bH:Value,e = .returned (.agg #[iV r1,iV r2,iV r3,iV r4,iV r5,bF,bG,bH])/\Kd.N k90 90 w' w.heap.size (fun k_=>(w.heap.size<=k_)/\some k_≠(bG:Value).ownBlock/\some k_≠(bH:Value).ownBlock) bF r6/\Kd.N k92 92 w' w.heap.size (fun k_=>(w.heap.size<=k_)/\some k_≠(bF:Value).ownBlock/\some k_≠(bH:Value).ownBlock) bG r7/\Kd.N k92 92 w' w.heap.size (fun k_=>(w.heap.size<=k_)/\some k_≠(bF:Value).ownBlock/\some k_≠(bG:Value).ownBlock) bH r8/\Sab w0 w' g ag r9/\Below w0.heap.size w0 w'/\aa6 w w' g none:=by
 have bX:=underlying92
 have HI0:=aM hI
 have HK:=aM (aaJ w g none)
 have HL:=aM hB.size
 clear hI
 have HW0:=aM hB.size
 have HB:=aM hB
 clear hB
 have H:=h;unfold alv at H
 clear h
 replace H:=jD H;rcases H with ⟨bK,H⟩ | ⟨bK,H⟩
 ·obtain⟨⟨az,aA,aB,aC,aD,aF,aG,aH,bL⟩,A4,H⟩:=qE H
  try dsimp only at H
  obtain⟨rfl,rfl,rfl,rfl,rfl,rfl,rfl,rfl,rfl⟩:=oJ9 H
  go_enter func95,ntmps95
  go_wp2_with (first|((with_reducible refine jd 4 ?_);refine jY _ 92 ?_;intro aa hg w5 ae hb;have aS:=aM ((by rw [hg];exact kU:w.heap.size<=aa));have aT:=aM ((Nat.le_trans HW0.out (by rw [hg];exact kU:w.heap.size<=aa):w0.heap.size<=aa));have au:=aM ((by rw [hg];exact Nat.ne_of_lt (abt (show Sab w0 _ g ag aj from qI HI0)):g≠aa));have af:=aM ((by rw [hg];exact Nat.ne_of_gt (abt (show Sab w0 _ g ag aj from qI HI0)):aa≠g));replace HI0:=aM (Sab.below (qI HI0) hb);replace HK:=kY hb;replace HB:=kH hb;clear hb hg)|((with_reducible refine jc 92 9 ?_);refine jO func92 (ahP k g ag aj az aA aB aC aD aF aG aH bL w0 _ (qI HI0) qB A4.out) ?_;rintro e w6 ⟨bn,bq,bu,rfl,ho0,ho1,ho2,hi,hb,hk⟩;refine⟨_,rfl,?_⟩;have aU:=aM (N_lower (N_mono (ok':=fun k_=>(w.heap.size<=k_)/\some k_≠(bq:Value).ownBlock/\some k_≠(bu:Value).ownBlock/\k_≠aa/\k_≠g) ho0 (fun k_ hk_=>⟨(Nat.le_trans kU hk_.1),hk_.2.1,hk_.2.2,(Kd.freshB (g:=aa) (o:=.cells #[iV 0,iV 0,iV 0,iV 0,iV 0,.slice none 0 0,.slice none 0 0,.slice none 0 0] 92 (0,0)) (qK ae) k_ hk_.1),(Sab.fresh (qI HI0) k_ hk_.1)⟩)) kU);have aV:=aM (N_lower (N_mono (ok':=fun k_=>(w.heap.size<=k_)/\some k_≠(bn:Value).ownBlock/\some k_≠(bu:Value).ownBlock/\k_≠aa/\k_≠g) ho1 (fun k_ hk_=>⟨(Nat.le_trans kU hk_.1),hk_.2.1,hk_.2.2,(Kd.freshB (g:=aa) (o:=.cells #[iV 0,iV 0,iV 0,iV 0,iV 0,.slice none 0 0,.slice none 0 0,.slice none 0 0] 92 (0,0)) (qK ae) k_ hk_.1),(Sab.fresh (qI HI0) k_ hk_.1)⟩)) kU);have aW:=aM (N_lower (N_mono (ok':=fun k_=>(w.heap.size<=k_)/\some k_≠(bn:Value).ownBlock/\some k_≠(bq:Value).ownBlock/\k_≠aa/\k_≠g) ho2 (fun k_ hk_=>⟨(Nat.le_trans kU hk_.1),hk_.2.1,hk_.2.2,(Kd.freshB (g:=aa) (o:=.cells #[iV 0,iV 0,iV 0,iV 0,iV 0,.slice none 0 0,.slice none 0 0,.slice none 0 0] 92 (0,0)) (qK ae) k_ hk_.1),(Sab.fresh (qI HI0) k_ hk_.1)⟩)) kU);replace ae:=kw hk ae af;replace HK:=kI hk;replace HB:=aM hb;replace HI0:=aM hi;clear hb hk hi;(try clear ho0);(try clear ho1);(try clear ho2);have bY:=af.out;have bZ:=au.out;have di:=jz8 ae;obtain⟨bI,bJ,cu⟩:=N_slice aU.out;subst cu;obtain⟨aJ,aK,bM⟩:=N_slice aV.out;subst bM;obtain⟨aL,aN,bN⟩:=N_slice aW.out;subst bN))
  refine bodyPost_ret (results_cell_row rfl _ _ aa 92 #[iV az,iV aA,iV aB,iV aC,iV aD,.slice bI aF.length bJ,.slice aJ aG.length aK,.slice aL aH.length aN] (0,0) _ rfl (qF ae) underlying92 rfl (by kernel_rfl)) rfl ?_
  exact⟨_,_,_,qW,by (with_reducible repeat (first|apply N_alloc|apply N_drewN|apply N_drew));exact N_mono (N_far (p:=⟨aa,7,none⟩) (N_far (p:=⟨aa,6,none⟩) (N_far (p:=⟨aa,5,none⟩) (N_far (p:=⟨aa,4,none⟩) (N_far (p:=⟨aa,3,none⟩) (N_far (p:=⟨aa,2,none⟩) (N_far (p:=⟨aa,1,none⟩) (N_far (p:=⟨aa,0,none⟩) (N_mono aU.out (fun k_ hk=>(⟨hk,hk.2.2.2.1⟩:_/\k_≠aa))) (fun _ hk=>hk.2) (iV az)) (fun _ hk=>hk.2) (iV aA)) (fun _ hk=>hk.2) (iV aB)) (fun _ hk=>hk.2) (iV aC)) (fun _ hk=>hk.2) (iV aD)) (fun _ hk=>hk.2) (.slice bI aF.length bJ)) (fun _ hk=>hk.2) (.slice aJ aG.length aK)) (fun _ hk=>hk.2) (.slice aL aH.length aN)) (fun _ hk=>⟨hk.1.1,⟨hk.1.2.1,hk.1.2.2.1⟩⟩),by (with_reducible repeat (first|apply N_alloc|apply N_drewN|apply N_drew));exact N_mono (N_far (p:=⟨aa,7,none⟩) (N_far (p:=⟨aa,6,none⟩) (N_far (p:=⟨aa,5,none⟩) (N_far (p:=⟨aa,4,none⟩) (N_far (p:=⟨aa,3,none⟩) (N_far (p:=⟨aa,2,none⟩) (N_far (p:=⟨aa,1,none⟩) (N_far (p:=⟨aa,0,none⟩) (N_mono aV.out (fun k_ hk=>(⟨hk,hk.2.2.2.1⟩:_/\k_≠aa))) (fun _ hk=>hk.2) (iV az)) (fun _ hk=>hk.2) (iV aA)) (fun _ hk=>hk.2) (iV aB)) (fun _ hk=>hk.2) (iV aC)) (fun _ hk=>hk.2) (iV aD)) (fun _ hk=>hk.2) (.slice bI aF.length bJ)) (fun _ hk=>hk.2) (.slice aJ aG.length aK)) (fun _ hk=>hk.2) (.slice aL aH.length aN)) (fun _ hk=>⟨hk.1.1,⟨hk.1.2.1,hk.1.2.2.1⟩⟩),by (with_reducible repeat (first|apply N_alloc|apply N_drewN|apply N_drew));exact N_mono (N_far (p:=⟨aa,7,none⟩) (N_far (p:=⟨aa,6,none⟩) (N_far (p:=⟨aa,5,none⟩) (N_far (p:=⟨aa,4,none⟩) (N_far (p:=⟨aa,3,none⟩) (N_far (p:=⟨aa,2,none⟩) (N_far (p:=⟨aa,1,none⟩) (N_far (p:=⟨aa,0,none⟩) (N_mono aW.out (fun k_ hk=>(⟨hk,hk.2.2.2.1⟩:_/\k_≠aa))) (fun _ hk=>hk.2) (iV az)) (fun _ hk=>hk.2) (iV aA)) (fun _ hk=>hk.2) (iV aB)) (fun _ hk=>hk.2) (iV aC)) (fun _ hk=>hk.2) (iV aD)) (fun _ hk=>hk.2) (.slice bI aF.length bJ)) (fun _ hk=>hk.2) (.slice aJ aG.length aK)) (fun _ hk=>hk.2) (.slice aL aH.length aN)) (fun _ hk=>⟨hk.1.1,⟨hk.1.2.1,hk.1.2.2.1⟩⟩),qI HI0,qB,qH⟩
 obtain⟨⟨aI,aO⟩,bR,H⟩:=qE H
 try dsimp only at H
 obtain⟨⟨bv,aP⟩,bS,H⟩:=qE H
 try dsimp only at H
 replace H:=jE H;rcases H with ⟨bz,bA,H⟩ | ⟨c14,bz,bA,H⟩
 ·obtain⟨⟨aY,bB⟩,cz,H⟩:=qE H
  try dsimp only at H
  obtain⟨⟨aZ,bg,bi,bO⟩,cB,H⟩:=qE H
  try dsimp only at H
  obtain⟨rfl,rfl,rfl,rfl,rfl,rfl,rfl,rfl,rfl⟩:=oJ9 H
  go_enter func95,ntmps95
  go_wp2_with (first|((with_reducible refine jd 4 ?_);refine jY _ 92 ?_;intro aa hg dn ae hb;have aS:=aM ((by rw [hg];exact kU:w.heap.size<=aa));have aT:=aM ((Nat.le_trans HW0.out (by rw [hg];exact kU:w.heap.size<=aa):w0.heap.size<=aa));have au:=aM ((by rw [hg];exact Nat.ne_of_lt (abt (show Sab w0 _ g ag aj from qI HI0)):g≠aa));have af:=aM ((by rw [hg];exact Nat.ne_of_gt (abt (show Sab w0 _ g ag aj from qI HI0)):aa≠g));replace HI0:=aM (Sab.below (qI HI0) hb);replace HK:=kY hb;replace HB:=kH hb;clear hb hg)|((with_reducible refine jc 52 12 ?_);refine jK func52 (aab k g ag aj a1 aI aO w0 _ (qI HI0) qB bR.out) ?_;rintro dw ⟨hi,hb,hk⟩;replace ae:=kw hk ae af;replace HK:=kI hk;replace HB:=aM hb;replace HI0:=aM hi;clear hb hk hi)|((with_reducible refine jc 52 14 ?_);refine jK func52 (aab k g ag aO 2 bv aP w0 _ (qI HI0) qB bS.out) ?_;rintro dx ⟨hi,hb,hk⟩;replace ae:=kw hk ae af;replace HK:=kI hk;replace HB:=aM hb;replace HI0:=aM hi;clear hb hk hi)|((with_reducible refine jc 52 19 ?_);refine jK func52 (aab k g ag aP 3 aY bB w0 _ (qI HI0) qB cz.out) ?_;rintro dz ⟨hi,hb,hk⟩;replace ae:=kw hk ae af;replace HK:=kI hk;replace HB:=aM hb;replace HI0:=aM hi;clear hb hk hi)|((with_reducible refine jc 96 21 ?_);refine jM func96 (acD k g ag bB (wrap64 (1+aY)) aZ bg bi bO w0 _ (qI HI0) qB cB.out) ?_;rintro cK dA ⟨ho0,hi,hb,hk⟩;have aX:=aM (N_lower (N_mono (ok':=fun k_=>(w.heap.size<=k_)/\k_≠aa/\k_≠g) ho0 (fun k_ hk_=>⟨(Nat.le_trans kU hk_),(Kd.freshB (g:=aa) (o:=.cells #[iV 0,iV 0,iV 0,iV 0,iV 0,.slice none 0 0,.slice none 0 0,.slice none 0 0] 92 (0,0)) (qK ae) k_ hk_),(Sab.fresh (qI HI0) k_ hk_)⟩)) kU);replace ae:=kw hk ae af;replace HK:=kI hk;replace HB:=aM hb;replace HI0:=aM hi;clear hb hk hi;(try clear ho0);obtain⟨bC,bD,bP⟩:=N_slice aX.out;subst bP;have bT:=af.out;have bU:=au.out;have cO:=jz8 ae))
  refine bodyPost_ret (results_cell_row rfl _ _ aa 92 #[iV 4,iV 0,iV aI,iV aZ,iV bg,.slice bC bi.length bD,.slice none 0 0,.slice none 0 0] (0,0) _ rfl (qF ae) underlying92 rfl (by kernel_rfl)) rfl ?_
  exact⟨_,_,_,qW,by (with_reducible repeat (first|apply N_alloc|apply N_drewN|apply N_drew));exact N_mono (N_far (p:=⟨aa,7,none⟩) (N_far (p:=⟨aa,6,none⟩) (N_far (p:=⟨aa,5,none⟩) (N_far (p:=⟨aa,4,none⟩) (N_far (p:=⟨aa,3,none⟩) (N_far (p:=⟨aa,2,none⟩) (N_far (p:=⟨aa,1,none⟩) (N_far (p:=⟨aa,0,none⟩) (N_mono aX.out (fun k_ hk=>(⟨hk,hk.2.1⟩:_/\k_≠aa))) (fun _ hk=>hk.2) (iV 4)) (fun _ hk=>hk.2) (iV 0)) (fun _ hk=>hk.2) (iV aI)) (fun _ hk=>hk.2) (iV aZ)) (fun _ hk=>hk.2) (iV bg)) (fun _ hk=>hk.2) (.slice bC bi.length bD)) (fun _ hk=>hk.2) (.slice none 0 0)) (fun _ hk=>hk.2) (.slice none 0 0)) (fun _ hk=>⟨hk.1.1,⟨(by simp [Value.ownBlock]),(by simp [Value.ownBlock])⟩⟩),by first|exact R_nil _ _ _ _ _|exact N_nil _ _ _ _ _|exact V_nil _ _ _ _ _|exact Q_nil _ _ _ _ _|exact S_nil _ _ _ _ _,by first|exact R_nil _ _ _ _ _|exact N_nil _ _ _ _ _|exact V_nil _ _ _ _ _|exact Q_nil _ _ _ _ _|exact S_nil _ _ _ _ _,qI HI0,qB,qH⟩
 obtain⟨⟨bE,bQ⟩,df,H⟩:=qE H
 try dsimp only at H
 obtain⟨rfl,rfl,rfl,rfl,rfl,rfl,rfl,rfl,rfl⟩:=oJ9 H
 go_enter func95,ntmps95
 go_wp2_with (first|((with_reducible refine jd 4 ?_);refine jY _ 92 ?_;intro aa hg dB ae hb;have aS:=aM ((by rw [hg];exact kU:w.heap.size<=aa));have aT:=aM ((Nat.le_trans HW0.out (by rw [hg];exact kU:w.heap.size<=aa):w0.heap.size<=aa));have au:=aM ((by rw [hg];exact Nat.ne_of_lt (abt (show Sab w0 _ g ag aj from qI HI0)):g≠aa));have af:=aM ((by rw [hg];exact Nat.ne_of_gt (abt (show Sab w0 _ g ag aj from qI HI0)):aa≠g));replace HI0:=aM (Sab.below (qI HI0) hb);replace HK:=kY hb;replace HB:=kH hb;clear hb hg)|((with_reducible refine jc 52 12 ?_);refine jK func52 (aab k g ag aj a1 aI aO w0 _ (qI HI0) qB bR.out) ?_;rintro dC ⟨hi,hb,hk⟩;replace ae:=kw hk ae af;replace HK:=kI hk;replace HB:=aM hb;replace HI0:=aM hi;clear hb hk hi)|((with_reducible refine jc 52 14 ?_);refine jK func52 (aab k g ag aO 2 bv aP w0 _ (qI HI0) qB bS.out) ?_;rintro dD ⟨hi,hb,hk⟩;replace ae:=kw hk ae af;replace HK:=kI hk;replace HB:=aM hb;replace HI0:=aM hi;clear hb hk hi)|((with_reducible refine jc 52 25 ?_);refine jK func52 (aab k g ag aP 3 bE bQ w0 _ (qI HI0) qB df.out) ?_;rintro dE ⟨hi,hb,hk⟩;replace ae:=kw hk ae af;replace HK:=kI hk;replace HB:=aM hb;replace HI0:=aM hi;clear hb hk hi;have bV:=af.out;have bW:=au.out;have dh:=jz8 ae))
 refine bodyPost_ret (results_cell_row rfl _ _ aa 92 #[iV 5,iV bE,iV aI,iV 0,iV 0,.slice none 0 0,.slice none 0 0,.slice none 0 0] (0,0) _ rfl (qF ae) underlying92 rfl (by kernel_rfl)) rfl ?_
 exact⟨_,_,_,qW,by first|exact R_nil _ _ _ _ _|exact N_nil _ _ _ _ _|exact V_nil _ _ _ _ _|exact Q_nil _ _ _ _ _|exact S_nil _ _ _ _ _,by first|exact R_nil _ _ _ _ _|exact N_nil _ _ _ _ _|exact V_nil _ _ _ _ _|exact Q_nil _ _ _ _ _|exact S_nil _ _ _ _ _,by first|exact R_nil _ _ _ _ _|exact N_nil _ _ _ _ _|exact V_nil _ _ _ _ _|exact Q_nil _ _ _ _ _|exact S_nil _ _ _ _ _,qI HI0,qB,qH⟩
mutual
def ajI:Nat->List Int->Int->Int->Int->Bool->Option (Int × Int × Int × Int × Int × (List S90) × (List S92) × (List S92) × Int)
 | 0,_,_,_,_,_=>none
 | k+1,af,ax,a1,a2,a3=>(aaZ k af ax 2).bind fun bF=>((adi k af bF.2 (wrap64 (1+bF.1))).bind fun aW=>((aaZ k af aW.2.2.2 3).bind fun bG=>((afi k af bG.2 a1 (wrap64 (a2 - 1)) bG.1 a3).bind fun bH=>((aaZ k af bH.2 3).bind fun bI=>((afi k af bI.2 a1 (wrap64 (a2 - 1)) bI.1 a3).bind fun bJ=>(some (2,0,0,aW.1,aW.2.1,aW.2.2.1,bH.1,bJ.1,bJ.2)))))))
def ajH:Nat->List Int->Int->Int->Int->Option ((List S92) × Int)
 | 0,_,_,_,_=>none
 | k+1,af,ax,a1,a2=>(aaZ k af ax 3).bind fun gG=>((afi k af gG.2 a1 (wrap64 (a2 - 1)) gG.1 false).bind fun eT=>((afj 13 3).bind fun eU=>((afj 0 1).bind fun eX=>((ahR 8 eU.1 eU.2.1 eU.2.2 eX.1 eX.2.1 eX.2.2).bind fun eY=>((afj 13 3).bind fun eZ=>((aaZ k af eT.2 3).bind fun gH=>((afj 0 (wrap64 (1+gH.1))).bind fun fe=>((ahR 5 eZ.1 eZ.2.1 eZ.2.2 fe.1 fe.2.1 fe.2.2).bind fun fo=>((some (([(⟨1,3,0,(⟨eY.1,eY.2.1,eY.2.2⟩:S90),([]:List S92),([]:List S92)⟩:S92)]:List S92):List S92)).bind fun iI=>(if eT.1.length+iI.length < 1256584717458 then ((afj 0 0).bind fun fq=>(some ((([(⟨1,3,0,(⟨fq.1,fq.2.1,fq.2.2⟩:S90),([]:List S92),([]:List S92)⟩:S92),(⟨3,0,0,(⟨fo.1,fo.2.1,fo.2.2⟩:S90),(eT.1 ++ iI),([]:List S92)⟩:S92)]:List S92)),gH.2))) else (none)))))))))))
def adh:Nat->Int->Int->Bool->Int->Bool->List Int->Int->Option ((List S92) × Int)
 | 0,_,_,_,_,_,_,_=>none
 | k+1,x1,x2,x3,eQ,iJ,x1000,aA=>if iJ=true then ((ajG k x1000 aA).bind fun aX=>(some ((([(⟨aX.1,aX.2.1,aX.2.2.1,(⟨aX.2.2.2.1,aX.2.2.2.2.1,aX.2.2.2.2.2.1⟩:S90),aX.2.2.2.2.2.2.1,aX.2.2.2.2.2.2.2.1⟩:S92)]:List S92)),aX.2.2.2.2.2.2.2.2))) else (if eQ=2 then (if x2 > 0 then ((ajI k x1000 aA x1 x2 x3).bind fun aY=>(some ((([(⟨aY.1,aY.2.1,aY.2.2.1,(⟨aY.2.2.2.1,aY.2.2.2.2.1,aY.2.2.2.2.2.1⟩:S90),aY.2.2.2.2.2.2.1,aY.2.2.2.2.2.2.2.1⟩:S92)]:List S92)),aY.2.2.2.2.2.2.2.2))) else ((aaZ k x1000 aA 3).bind fun gI=>((adi k x1000 gI.2 (wrap64 (1+gI.1))).bind fun dM=>(some ((([(⟨7,0,0,(⟨dM.1,dM.2.1,dM.2.2.1⟩:S90),([]:List S92),([]:List S92)⟩:S92)]:List S92)),dM.2.2.2))))) else (if eQ=3 then (if x2 > 0 then (aec k x1 x2 x3 x1000 aA) else (aec k x1 x2 false x1000 aA)) else (if eQ=4 then (adG k x1 eQ (eQ == 4) x1000 aA) else (if eQ=5 then (adG k x1 eQ (eQ == 5) x1000 aA) else (adG k x1 eQ (eQ == 6) x1000 aA)))))
def aec:Nat->Int->Int->Bool->List Int->Int->Option ((List S92) × Int)
 | 0,_,_,_,_,_=>none
 | k+1,x1,x2,pu,x1000,aA=>if pu=true then ((ajH k x1000 aA x1 x2).bind fun gJ=>(some (gJ.1,gJ.2))) else ((aaZ k x1000 aA 3).bind fun gK=>((adi k x1000 gK.2 (wrap64 (1+gK.1))).bind fun dN=>(some ((([(⟨7,0,0,(⟨dN.1,dN.2.1,dN.2.2.1⟩:S90),([]:List S92),([]:List S92)⟩:S92)]:List S92)),dN.2.2.2))))
def adG:Nat->Int->Int->Bool->List Int->Int->Option ((List S92) × Int)
 | 0,_,_,_,_,_=>none
 | k+1,x1,eQ,x38,x1000,aA=>if x38=true then ((alv k x1000 aA x1).bind fun aZ=>(some ((([(⟨aZ.1,aZ.2.1,aZ.2.2.1,(⟨aZ.2.2.2.1,aZ.2.2.2.2.1,aZ.2.2.2.2.2.1⟩:S90),aZ.2.2.2.2.2.2.1,aZ.2.2.2.2.2.2.2.1⟩:S92)]:List S92)),aZ.2.2.2.2.2.2.2.2))) else (if eQ=7 then (some ((([(⟨6,0,0,(⟨0,0,([]:List S90)⟩:S90),([]:List S92),([]:List S92)⟩:S92)]:List S92)),aA)) else ((aaZ k x1000 aA 3).bind fun gL=>((adi k x1000 gL.2 (wrap64 (1+gL.1))).bind fun dO=>(some ((([(⟨7,0,0,(⟨dO.1,dO.2.1,dO.2.2.1⟩:S90),([]:List S92),([]:List S92)⟩:S92)]:List S92)),dO.2.2.2)))))
def ajF:Nat->List Int->Int->Int->Int->Bool->Option ((List S92) × Int)
 | 0,_,_,_,_,_=>none
 | k+1,af,ax,a1,a2,a3=>(aaZ k af ax 10).bind fun aG=>(if aG.1=0 then (adh k a1 a2 a3 aG.1 (aG.1 == 0) af aG.2) else (adh k a1 a2 a3 aG.1 (aG.1 == 1) af aG.2))
def aed:Nat->Int->Int->Int->Bool->List S92->Int->List Int->Int->Option ((List S92) × Int)
 | 0,_,_,_,_,_,_,_,_=>none
 | k+1,x1,x2,x3,x4,iJ,oI,x1000,aA=>if oI < x3 then ((ajF k x1000 aA x1 x2 x4).bind fun fu=>(if iJ.length+fu.1.length < 1256584717458 then (aed k x1 x2 x3 x4 (iJ ++ fu.1) (wrap64 (oI+1)) x1000 fu.2) else (none))) else (some (iJ,aA))
def afi:Nat->List Int->Int->Int->Int->Int->Bool->Option ((List S92) × Int)
 | 0,_,_,_,_,_,_=>none
 | k+1,af,ax,a1,a2,a3,a4=>aed k a1 a2 a3 a4 (([]:List S92)) 0 af ax
end
@[reducible] def adv (k:Nat):Prop:=∀ (g:Nat) (af:List Int) (ax:Int) (a1:Int) (a2:Int) (a3:Bool) (r1:Int) (r2:Int) (r3:Int) (r4:Int) (r5:Int) (r6:List S90) (r7:List S92) (r8:List S92) (r9:Int) (w0 w:World) (hI:Sab w0 w g af ax) (hB:Below w0.heap.size w0 w) (h:ajI k af ax a1 a2 a3=some (r1,r2,r3,r4,r5,r6,r7,r8,r9)),
  Calls prog 93 #[.pointer (some ⟨g,0,none⟩),iV a1,iV a2,.bool a3] w fun e w'=>∃ ma mf mg:Value,e = .returned (.agg #[iV r1,iV r2,iV r3,iV r4,iV r5,ma,mf,mg])/\Kd.N k90 90 w' w.heap.size (fun k_=>(w.heap.size<=k_)/\some k_≠(mf:Value).ownBlock/\some k_≠(mg:Value).ownBlock) ma r6/\Kd.N k92 92 w' w.heap.size (fun k_=>(w.heap.size<=k_)/\some k_≠(ma:Value).ownBlock/\some k_≠(mg:Value).ownBlock) mf r7/\Kd.N k92 92 w' w.heap.size (fun k_=>(w.heap.size<=k_)/\some k_≠(ma:Value).ownBlock/\some k_≠(mf:Value).ownBlock) mg r8/\Sab w0 w' g af r9/\Below w0.heap.size w0 w'/\aa6 w w' g none
@[reducible] def adu (k:Nat):Prop:=∀ (g:Nat) (af:List Int) (ax:Int) (a1:Int) (a2:Int) (r1:List S92) (r2:Int) (w0 w:World) (hI:Sab w0 w g af ax) (hB:Below w0.heap.size w0 w) (h:ajH k af ax a1 a2=some (r1,r2)),
  Calls prog 94 #[.pointer (some ⟨g,0,none⟩),iV a1,iV a2] w fun e w'=>∃ gM:Value,e = .returned (gM)/\Kd.N k92 92 w' w.heap.size (fun k_=>(w.heap.size<=k_)) gM r1/\Sab w0 w' g af r2/\Below w0.heap.size w0 w'/\aa6 w w' g none
@[reducible] def adt (k:Nat):Prop:=∀ (g:Nat) (af:List Int) (ax:Int) (a1:Int) (a2:Int) (a3:Bool) (r1:List S92) (r2:Int) (w0 w:World) (hI:Sab w0 w g af ax) (hB:Below w0.heap.size w0 w) (h:ajF k af ax a1 a2 a3=some (r1,r2)),
  Calls prog 82 #[.pointer (some ⟨g,0,none⟩),iV a1,iV a2,.bool a3] w fun e w'=>∃ gM:Value,e = .returned (gM)/\Kd.N k92 92 w' w.heap.size (fun k_=>(w.heap.size<=k_)) gM r1/\Sab w0 w' g af r2/\Below w0.heap.size w0 w'/\aa6 w w' g none
@[reducible] def acQ (k:Nat):Prop:=∀ (g:Nat) (af:List Int) (ax:Int) (a1:Int) (a2:Int) (a3:Int) (a4:Bool) (r1:List S92) (r2:Int) (w0 w:World) (hI:Sab w0 w g af ax) (hB:Below w0.heap.size w0 w) (h:afi k af ax a1 a2 a3 a4=some (r1,r2)),
  Calls prog 73 #[.pointer (some ⟨g,0,none⟩),iV a1,iV a2,iV a3,.bool a4] w fun e w'=>∃ gM:Value,e = .returned (gM)/\Kd.N k92 92 w' w.heap.size (fun k_=>(w.heap.size<=k_)) gM r1/\Sab w0 w' g af r2/\Below w0.heap.size w0 w'/\aa6 w w' g none
def anB:Bool × List (List Nat × List Nat):=(true,[([],[]),([],[]),([],[]),([],[]),([],[]),([4],[4]),([],[]),([6],[6]),([],[]),([2,3,5,7,8,7],[2,3,5,7,8]),([0,1,9],[0,1,9]),([10,9,0,1,2,3,4,5,6,7,8,9,10],[10])])
def apr:List Nat:=[0,0,0,0,0,16,0,64,0,508,1023,2047]
theorem amT:acz .any (opsOf f93 3)=anB:=by kernel_rfl
theorem al1:ab9 anB.2 apr=true:=by kernel_rfl
theorem Sbv.step (k:Nat) (aj:∀ m_,m_ < k->acQ m_) (aC:∀ m_,m_ < k->adt m_) (ih:∀ m_,m_ < k->adv m_) (aD:∀ m_,m_ < k->adu m_):adv k:=by
 intro g af ax a1 a2 a3 r1 r2 r3 r4 r5 r6 r7 r8 r9 w0 w hI hB h
 cases k with
 | zero=>exact absurd h (by simp [ajI])
 | succ k =>
 simp only [ajI] at h
 have mV:=underlying92
 have pz:=underlying90
 have HI0:=aM hI
 have HK:=aM (aaJ w g none)
 have HL:=aM hB.size
 clear hI
 have HW0:=aM hB.size
 have HB:=aM hB
 clear hB
 have H:((aaZ k af ax 2).bind fun bF=>((adi k af bF.2 (wrap64 (1+bF.1))).bind fun aW=>((aaZ k af aW.2.2.2 3).bind fun bG=>((afi k af bG.2 a1 (wrap64 (a2 - 1)) bG.1 a3).bind fun bH=>((aaZ k af bH.2 3).bind fun bI=>((afi k af bI.2 a1 (wrap64 (a2 - 1)) bI.1 a3).bind fun bJ=>(some (2,0,0,aW.1,aW.2.1,aW.2.2.1,bH.1,bJ.1,bJ.2))))))))=some (r1,r2,r3,r4,r5,r6,r7,r8,r9):=h
 clear h
 obtain⟨⟨ig,iK⟩,A5,H⟩:=qE H
 try dsimp only at H
 obtain⟨⟨bn,bq,aP,gq⟩,A6,H⟩:=qE H
 try dsimp only at H
 obtain⟨⟨ik,iL⟩,A7,H⟩:=qE H
 try dsimp only at H
 obtain⟨⟨fw,iM⟩,A8,H⟩:=qE H
 try dsimp only at H
 obtain⟨⟨il,iN⟩,A9,H⟩:=qE H
 try dsimp only at H
 obtain⟨⟨fA,mW⟩,iO,H⟩:=qE H
 try dsimp only at H
 obtain⟨rfl,rfl,rfl,rfl,rfl,rfl,rfl,rfl,rfl⟩:=oJ9 H
 go_enter func93,ntmps93
 try go_wp2_with (first|((with_reducible refine jd 8 ?_);refine jY _ 92 ?_;intro aa hg oK ag hb;have oL:=aM ((by rw [hg];exact kU:w.heap.size<=aa));have oM:=aM ((Nat.le_trans HW0.out (by rw [hg];exact kU:w.heap.size<=aa):w0.heap.size<=aa));have mh:=aM ((by rw [hg];exact Nat.ne_of_lt (abt (show Sab w0 _ g af ax from qI HI0)):g≠aa));have aQ:=aM ((by rw [hg];exact Nat.ne_of_gt (abt (show Sab w0 _ g af ax from qI HI0)):aa≠g));replace HI0:=aM (Sab.below (qI HI0) hb);replace HK:=kY hb;replace HB:=kH hb;clear hb hg)|((with_reducible refine jc 52 13 ?_);refine jK func52 (aab k g af ax 2 ig iK w0 _ (qI HI0) qB A5.out) ?_;rintro rT ⟨hi,hb,hk⟩;replace ag:=kw hk ag aQ;replace HK:=aM (aa6.trans (w:=w) qH hk (.inl rfl));replace HB:=aM hb;replace HI0:=aM hi;clear hb hk hi)|((with_reducible refine jc 96 15 ?_);refine jM func96 (acD k g af iK (wrap64 (1+ig)) bn bq aP gq w0 _ (qI HI0) qB A6.out) ?_;rintro pE rU ⟨ho0,hi,hb,hk⟩;have aB:=aM (N_lower (N_mono (ok':=fun k_=>(w.heap.size<=k_)/\k_≠aa/\k_≠g) ho0 (fun k_ hk_=>⟨(Nat.le_trans kU hk_),(Kd.freshB (g:=aa) (o:=.cells #[iV 0,iV 0,iV 0,iV 0,iV 0,.slice none 0 0,.slice none 0 0,.slice none 0 0] 92 (0,0)) (qK ag) k_ hk_),(Sab.fresh (qI HI0) k_ hk_)⟩)) kU);replace ag:=kw hk ag aQ;replace HK:=aM (aa6.trans (w:=w) qH hk (.inl rfl));replace HB:=aM hb;replace HI0:=aM hi;clear hb hk hi;(try clear ho0))|((with_reducible refine jd 9 ?_);refine jY _ 90 ?_;intro ak hg rV au hb;have oN:=aM ((by rw [hg];exact kU:w.heap.size<=ak));have oO:=aM ((Nat.le_trans HW0.out (by rw [hg];exact kU:w.heap.size<=ak):w0.heap.size<=ak));have av:=kN hg ag;have ae:=kM hg ag;have gu:=aM ((by rw [hg];exact Nat.ne_of_lt (abt (show Sab w0 _ g af gq from qI HI0)):g≠ak));have bg:=aM ((by rw [hg];exact Nat.ne_of_gt (abt (show Sab w0 _ g af gq from qI HI0)):ak≠g));replace aB:=aM (N_below (N_elderB (qN aB) ak (Nat.le_of_eq hg.symm)) hb);replace HI0:=aM (Sab.below (qI HI0) hb);replace ag:=kB ag hb;replace HK:=kY hb;replace HB:=kH hb;clear hb hg;have oP:=ae.out;have oQ:=av.out;have oU:=bg.out;have oV:=gu.out;have pF:=jz3 au;obtain⟨aT,aU,mX⟩:=N_slice aB.out;subst mX)|((with_reducible refine jc 52 21 ?_);refine jK func52 (aab k g af gq 3 ik iL w0 _ (qI HI0) qB A7.out) ?_;rintro rW ⟨hi,hb,hk⟩;replace ag:=aM (acR hk (g':=aa) (qL ag) aQ.out (by simp));replace aB:=aM (N_mono (N_keep (N_mono (ok:=fun k_=>((((w.heap.size<=k_))/\(k_≠aa/\k_≠g))/\k_≠ak)) (by (with_reducible repeat (first|apply N_alloc|apply N_drewN|apply N_drew));exact (N_mono (N_far (p:=⟨ak,2,none⟩) (N_far (p:=⟨ak,1,none⟩) (N_far (p:=⟨ak,0,none⟩) (N_mono aB.out (fun k_ hk=>(⟨hk,hk.2⟩:_/\k_≠ak))) (fun _ hk=>hk.2) (iV bn)) (fun _ hk=>hk.2) (iV bq)) (fun _ hk=>hk.2) (.slice aT aP.length aU)) (fun _ h_=>h_.1))) (fun k_ hk_=>(⟨hk_,hk_.1.2.2⟩:_/\k_≠g))) hk (fun _ h=>h.2)) (fun _ h=>h.1));replace au:=aM (acR hk (g':=ak) (qF au) bg.out (by simp));replace HK:=aM (aa6.trans (w:=w) qH hk (.inl rfl));replace HB:=aM hb;replace HI0:=aM hi;clear hb hk hi)|((with_reducible refine jc 73 23 ?_);refine jM func73 (aj k (by omega) g af iL a1 (wrap64 (a2 - 1)) ik a3 fw iM w0 _ (qI HI0) qB A8.out) ?_;rintro iq mY ⟨ho0,hi,hb,hk⟩;have aV:=aM (N_lower (N_mono (ok':=fun k_=>(w.heap.size<=k_)/\some k_≠(.slice aT aP.length aU:Value).ownBlock/\k_≠aa/\k_≠ak/\k_≠g) ho0 (fun k_ hk_=>⟨(Nat.le_trans kU hk_),(Kd.fresh' (N_lt (qN aB)) k_ hk_),(Kd.freshB (g:=aa) (o:=.cells #[iV 0,iV 0,iV 0,iV 0,iV 0,.slice none 0 0,.slice none 0 0,.slice none 0 0] 92 (0,0)) (qK ag) k_ hk_),(Kd.freshB (g:=ak) (o:=.cells #[iV bn,iV bq,.slice aT aP.length aU] 90 (0,0)) (qK au) k_ hk_),(Sab.fresh (qI HI0) k_ hk_)⟩)) kU);replace ag:=kw hk ag aQ;replace aB:=aM (N_mono (N_told (N_oldK (N_mono (ok:=fun k_=>((((w.heap.size<=k_))/\(k_≠aa/\k_≠g))/\k_≠ak)) (qN aB) (fun k_ hk_=>(⟨hk_,hk_.1.2.2⟩:_/\k_≠g))) hk) (by first|exact N_base ho0|exact R_base ho0)) (fun _ h_=>h_.1));replace au:=kw hk au bg;replace HK:=aM (aa6.trans (w:=w) qH hk (.inl rfl));replace HB:=aM hb;replace HI0:=aM hi;clear hb hk hi;(try clear ho0)))
 replace aB:=aM (N_drew aB.out)
 replace aV:=aM (N_drew aV.out)
 replace ag:=aM (ab2 ag.out)
 replace au:=aM (ab2 au.out)
 replace HI0:=aM (Sab.drew HI0.out)
 replace HK:=aM (ae5 HK.out)
 replace HB:=aM (aaf HB.out)
 refine abl (n:=12) (S:=fun w'=>w'.cell? ⟨ak,0,none⟩=some (iV bn)/\w'.cell? ⟨ak,1,none⟩=some (iV bq)/\w'.cell? ⟨ak,2,none⟩=some (.slice aT aP.length aU)) (ds:=[]) (jb 12 0) (by kernel_rfl) rfl rfl ⟨(aa3 au.out 0).trans rfl,(aa3 au.out 1).trans rfl,(aa3 au.out 2).trans rfl⟩ (fun hHeld=>?_);refine aaL amT al1 (fun HT_ HW_=>?_)
 generalize mY.drew=rX at aB aV ag au HI0 HK HB hHeld ⊢
 refine jp 1 25 (jb 12 2) ?_
 refine jp 2 26 (jb 12 6) ?_
 refine jp 3 27 (jb 12 14) ?_
 refine jp 4 28 (jb 12 30) ?_
 refine jp 5 29 (jb 12 62) ?_
 refine jp 6 30 (jb 12 126) ?_
 refine jp 8 32 (jb 12 382) ?_
 refine jt 0 24 (jb 12 383) ?_
 refine acK (i:=7) (N:=some 31) (jb 12 511) rfl rfl (aaR HT_.out (by kernel_rfl)) (by decide) (fun K hK=>?_)
 refine abn func52 (by kernel_rfl) rfl #[.pointer (some ⟨g,0,none⟩),iV 3] (by rfl) rfl rfl qM ?_
 with_reducible refine (aab k g af iM 3 il iN w0 _ ?ah ?ai A9.out).mono ?_
 (case ah=>exact qI HI0)
 (case ai=>exact qB)
 rintro e rY ⟨rfl,hi,hb,hk⟩
 refine⟨_,rfl,?_⟩
 replace ag:=kw hk ag aQ
 replace aB:=aM (N_mono (N_keep (N_mono (ok:=fun k_=>(((((w.heap.size<=k_))/\(k_≠aa/\k_≠g))/\k_≠ak)/\some k_≠(iq:Value).ownBlock)) (qN aB) (fun k_ hk_=>(⟨hk_,hk_.1.1.2.2⟩:_/\k_≠g))) hk (fun _ h=>h.2)) (fun _ h=>h.1))
 replace au:=kw hk au bg
 replace aV:=aM (N_mono (N_keep (N_mono (ok:=fun k_=>(((w.heap.size<=k_))/\(some k_≠(.slice aT aP.length aU:Value).ownBlock/\(k_≠aa/\(k_≠ak/\k_≠g))))) (qN aV) (fun k_ hk_=>(⟨hk_,hk_.2.2.2.2⟩:_/\k_≠g))) hk (fun _ h=>h.2)) (fun _ h=>h.1))
 replace HK:=aM (aa6.trans (w:=w) qH hk (.inl rfl))
 replace HB:=aM hb
 replace HI0:=aM hi
 (try clear hb)
 (try clear hb2)
 (try clear hk)
 (try clear hi)
 refine hK.out _ _ ⟨(aa3 au.out 0).trans rfl,(aa3 au.out 1).trans rfl,(aa3 au.out 2).trans rfl⟩ (fun hHeld=>?_)
 clear hK K
 refine aaA (a':=?_) ?_ ?_
 rotate_left
 ·show Act.put _ (some 31) _=_
  simp only [Act.put,List.setIfInBounds_toArray,List.set_cons_zero,List.set_cons_succ,aas,aaw]
  rfl
 refine acK (i:=9) (N:=some 33) (jb 12 1023) rfl rfl (aaR HT_.out (by kernel_rfl)) (by decide) (fun K hK=>?_)
 refine abn func73 (by kernel_rfl) rfl #[.pointer (some ⟨g,0,none⟩),iV a1,iV (wrap64 (a2 - 1)),iV il,.bool a3] (by rfl) rfl rfl qM ?_
 with_reducible refine (aj k (by omega) g af iN a1 (wrap64 (a2 - 1)) il a3 fA mW w0 _ ?ah ?ai iO.out).mono ?_
 (case ah=>exact qI HI0)
 (case ai=>exact qB)
 rintro e gN ⟨pG,rfl,ho0,hi,hb,hk⟩
 refine⟨_,rfl,?_⟩
 have gP:=aM (N_lower (N_mono (ok':=fun k_=>(w.heap.size<=k_)/\some k_≠(.slice aT aP.length aU:Value).ownBlock/\some k_≠(iq:Value).ownBlock/\k_≠aa/\k_≠ak/\k_≠g) ho0 (fun k_ hk_=>⟨(Nat.le_trans kU hk_),(Kd.fresh' (N_lt (qN aB)) k_ hk_),(Kd.fresh' (N_lt (qN aV)) k_ hk_),(Kd.freshB (g:=aa) (o:=.cells #[iV 0,iV 0,iV 0,iV 0,iV 0,.slice none 0 0,.slice none 0 0,.slice none 0 0] 92 (0,0)) (qK ag) k_ hk_),(Kd.freshB (g:=ak) (o:=.cells #[iV bn,iV bq,.slice aT aP.length aU] 90 (0,0)) (qK au) k_ hk_),(Sab.fresh (qI HI0) k_ hk_)⟩)) kU)
 replace ag:=kw hk ag aQ
 replace aB:=aM (N_mono (N_told (N_oldK (N_mono (ok:=fun k_=>(((((w.heap.size<=k_))/\(k_≠aa/\k_≠g))/\k_≠ak)/\some k_≠(iq:Value).ownBlock)) (qN aB) (fun k_ hk_=>(⟨hk_,hk_.1.1.2.2⟩:_/\k_≠g))) hk) (by first|exact N_base ho0|exact R_base ho0)) (fun _ h_=>h_.1))
 replace au:=kw hk au bg
 replace aV:=aM (N_mono (N_told (N_oldK (N_mono (ok:=fun k_=>(((w.heap.size<=k_))/\(some k_≠(.slice aT aP.length aU:Value).ownBlock/\(k_≠aa/\(k_≠ak/\k_≠g))))) (qN aV) (fun k_ hk_=>(⟨hk_,hk_.2.2.2.2⟩:_/\k_≠g))) hk) (by first|exact N_base ho0|exact R_base ho0)) (fun _ h_=>h_.1))
 replace HK:=aM (aa6.trans (w:=w) qH hk (.inl rfl))
 replace HB:=aM hb
 replace HI0:=aM hi
 (try clear hb)
 (try clear hb2)
 (try clear hk)
 (try clear hi)
 (try clear ho0)
 obtain⟨gy,gz,iP⟩:=N_slice gP.out
 (first|subst iP|(injection iP with iQ mZ iR;have ng:=iQ.symm;have ni:=iR.symm;clear iQ mZ iR;subst ng;subst ni))
 obtain⟨gB,gD,iT⟩:=N_slice aV.out
 (first|subst iT|(injection iT with iQ mZ iR;have ng:=iQ.symm;have ni:=iR.symm;clear iQ mZ iR;subst ng;subst ni))
 refine hK.out _ _ ⟨(aa3 au.out 0).trans rfl,(aa3 au.out 1).trans rfl,(aa3 au.out 2).trans rfl⟩ (fun hHeld=>?_)
 clear hK K
 refine aaA (a':=?_) ?_ ?_
 rotate_left
 ·show Act.put _ (some 33) _=_
  simp only [Act.put,List.setIfInBounds_toArray,List.set_cons_zero,List.set_cons_succ,aas,aaw]
  rfl
 refine jp 10 34 (jb 12 2047) ?_
 refine acK (i:=11) (N:=none) (jb 12 4095) rfl rfl (aaR HT_.out (by kernel_rfl)) (by decide) (fun K hK=>?_)
 have pI:gN.cell? ⟨aa,0,none⟩=some (iV 0):=(aa3 ag.out 0).trans rfl
 have oW:=aa7 ag.out 0
 have mi:=ae.out
 have mo:=av.out
 have pJ:gN.cell? ⟨aa,1,none⟩=some (iV 0):=(aa3 ag.out 1).trans rfl
 have oZ:=aa7 ag.out 1
 have mq:=ae.out
 have mr:=av.out
 have pK:gN.cell? ⟨aa,2,none⟩=some (iV 0):=(aa3 ag.out 2).trans rfl
 have o5:=aa7 ag.out 2
 have mD:=ae.out
 have mE:=av.out
 have pM:gN.cell? ⟨aa,3,none⟩=some (iV 0):=(aa3 ag.out 3).trans rfl
 have o6:=aa7 ag.out 3
 have mF:=ae.out
 have mG:=av.out
 have pO:gN.cell? ⟨aa,4,none⟩=some (iV 0):=(aa3 ag.out 4).trans rfl
 have o7:=aa7 ag.out 4
 have mH:=ae.out
 have mI:=av.out
 have pQ:gN.cell? ⟨aa,5,none⟩=some (.slice none 0 0):=(aa3 ag.out 5).trans rfl
 have o8:=aa7 ag.out 5
 have mJ:=ae.out
 have mK:=av.out
 have pR:gN.cell? ⟨aa,6,none⟩=some (.slice none 0 0):=(aa3 ag.out 6).trans rfl
 have o9:=aa7 ag.out 6
 have mO:=ae.out
 have mQ:=av.out
 have pU:gN.cell? ⟨aa,7,none⟩=some (.slice none 0 0):=(aa3 ag.out 7).trans rfl
 have pg:=aa7 ag.out 7
 have mR:=ae.out
 have mU:=av.out
 refine ah3 (w1:=?_) (by rfl) rfl ?_ ?_
 rotate_left
 ·go_simp
  rfl
 refine hK.out _ _ ⟨((cell_far (p:=⟨aa,_,none⟩) ae.out _).trans (((cell_far (p:=⟨aa,_,none⟩) ae.out _).trans (((cell_far (p:=⟨aa,_,none⟩) ae.out _).trans (((cell_far (p:=⟨aa,_,none⟩) ae.out _).trans (((cell_far (p:=⟨aa,_,none⟩) ae.out _).trans (((cell_far (p:=⟨aa,_,none⟩) ae.out _).trans (((cell_far (p:=⟨aa,_,none⟩) ae.out _).trans (((cell_far (p:=⟨aa,_,none⟩) ae.out _).trans (hHeld.1)))))))))))))))),((cell_far (p:=⟨aa,_,none⟩) ae.out _).trans (((cell_far (p:=⟨aa,_,none⟩) ae.out _).trans (((cell_far (p:=⟨aa,_,none⟩) ae.out _).trans (((cell_far (p:=⟨aa,_,none⟩) ae.out _).trans (((cell_far (p:=⟨aa,_,none⟩) ae.out _).trans (((cell_far (p:=⟨aa,_,none⟩) ae.out _).trans (((cell_far (p:=⟨aa,_,none⟩) ae.out _).trans (((cell_far (p:=⟨aa,_,none⟩) ae.out _).trans (hHeld.2.1)))))))))))))))),((cell_far (p:=⟨aa,_,none⟩) ae.out _).trans (((cell_far (p:=⟨aa,_,none⟩) ae.out _).trans (((cell_far (p:=⟨aa,_,none⟩) ae.out _).trans (((cell_far (p:=⟨aa,_,none⟩) ae.out _).trans (((cell_far (p:=⟨aa,_,none⟩) ae.out _).trans (((cell_far (p:=⟨aa,_,none⟩) ae.out _).trans (((cell_far (p:=⟨aa,_,none⟩) ae.out _).trans (((cell_far (p:=⟨aa,_,none⟩) ae.out _).trans (hHeld.2.2))))))))))))))))⟩ (fun hHeld=>?_)
 clear hK K
 refine abI (ab5 HT_.out (by kernel_rfl)) ?_
 try go_wp2
 refine bodyPost_ret (results_cell_row rfl _ _ aa 92 #[iV 2,iV 0,iV 0,iV bn,iV bq,.slice aT aP.length aU,.slice gB fw.length gD,.slice gy fA.length gz] (0,0) _ rfl (qF ag) underlying92 rfl (by kernel_rfl)) rfl ?_
 exact⟨_,_,_,qW,by (with_reducible repeat (first|apply N_alloc|apply N_drewN|apply N_drew));exact N_mono (N_far (p:=⟨aa,7,none⟩) (N_far (p:=⟨aa,6,none⟩) (N_far (p:=⟨aa,5,none⟩) (N_far (p:=⟨aa,4,none⟩) (N_far (p:=⟨aa,3,none⟩) (N_far (p:=⟨aa,2,none⟩) (N_far (p:=⟨aa,1,none⟩) (N_far (p:=⟨aa,0,none⟩) (N_mono aB.out (fun k_ hk=>(⟨hk,hk.1.1.1.2.1⟩:_/\k_≠aa))) (fun _ hk=>hk.2) (iV 2)) (fun _ hk=>hk.2) (iV 0)) (fun _ hk=>hk.2) (iV 0)) (fun _ hk=>hk.2) (iV bn)) (fun _ hk=>hk.2) (iV bq)) (fun _ hk=>hk.2) (.slice aT aP.length aU)) (fun _ hk=>hk.2) (.slice gB fw.length gD)) (fun _ hk=>hk.2) (.slice gy fA.length gz)) (fun _ hk=>⟨hk.1.1.1.1.1,⟨hk.1.1.2,hk.1.2⟩⟩),by (with_reducible repeat (first|apply N_alloc|apply N_drewN|apply N_drew));exact N_mono (N_far (p:=⟨aa,7,none⟩) (N_far (p:=⟨aa,6,none⟩) (N_far (p:=⟨aa,5,none⟩) (N_far (p:=⟨aa,4,none⟩) (N_far (p:=⟨aa,3,none⟩) (N_far (p:=⟨aa,2,none⟩) (N_far (p:=⟨aa,1,none⟩) (N_far (p:=⟨aa,0,none⟩) (N_mono aV.out (fun k_ hk=>(⟨hk,hk.1.2.2.1⟩:_/\k_≠aa))) (fun _ hk=>hk.2) (iV 2)) (fun _ hk=>hk.2) (iV 0)) (fun _ hk=>hk.2) (iV 0)) (fun _ hk=>hk.2) (iV bn)) (fun _ hk=>hk.2) (iV bq)) (fun _ hk=>hk.2) (.slice aT aP.length aU)) (fun _ hk=>hk.2) (.slice gB fw.length gD)) (fun _ hk=>hk.2) (.slice gy fA.length gz)) (fun _ hk=>⟨hk.1.1.1,⟨hk.1.1.2.1,hk.1.2⟩⟩),by (with_reducible repeat (first|apply N_alloc|apply N_drewN|apply N_drew));exact N_mono (N_far (p:=⟨aa,7,none⟩) (N_far (p:=⟨aa,6,none⟩) (N_far (p:=⟨aa,5,none⟩) (N_far (p:=⟨aa,4,none⟩) (N_far (p:=⟨aa,3,none⟩) (N_far (p:=⟨aa,2,none⟩) (N_far (p:=⟨aa,1,none⟩) (N_far (p:=⟨aa,0,none⟩) (N_mono gP.out (fun k_ hk=>(⟨hk,hk.2.2.2.1⟩:_/\k_≠aa))) (fun _ hk=>hk.2) (iV 2)) (fun _ hk=>hk.2) (iV 0)) (fun _ hk=>hk.2) (iV 0)) (fun _ hk=>hk.2) (iV bn)) (fun _ hk=>hk.2) (iV bq)) (fun _ hk=>hk.2) (.slice aT aP.length aU)) (fun _ hk=>hk.2) (.slice gB fw.length gD)) (fun _ hk=>hk.2) (.slice gy fA.length gz)) (fun _ hk=>⟨hk.1.1,⟨hk.1.2.1,hk.1.2.2.1⟩⟩),qI HI0,qB,qH⟩
def anA:Bool × List (List Nat × List Nat):=(true,[([],[]),([0],[0]),([],[]),([2,1],[2]),([3],[3]),([4,3],[4]),([1,5,5],[1,5]),([],[]),([],[]),([8],[8]),([7,9,6],[7,9]),([6,10],[6,10]),([],[]),([12,11,10,0,1,2,3,4,5,6,7,8,9,10,11,12],[11,12])])
def apq:List Nat:=[0,1,0,7,15,31,63,0,0,256,1023,2047,0,8191]
theorem amS:acz .any (opsOf f94 4)=anA:=by kernel_rfl
theorem al0:ab9 anA.2 apq=true:=by kernel_rfl
theorem Sbw.step (k:Nat) (aj:∀ m_,m_ < k->acQ m_) (aC:∀ m_,m_ < k->adt m_) (aJ:∀ m_,m_ < k->adv m_) (ih:∀ m_,m_ < k->adu m_):adu k:=by
 intro g af ax a1 a2 r1 r2 w0 w hI hB H
 cases k with
 | zero=>exact absurd H (by simp [ajH])
 | succ k =>
 simp only [ajH] at H
 have HI0:=aM hI
 have HK:=aM (aaJ w g none)
 have HW0:=aM hB.size
 have HB:=aM hB
 clear hB hI
 obtain⟨⟨n1,p1⟩,A1,H⟩:=qE H
 try dsimp only at H
 obtain⟨⟨tb,p2⟩,A2,H⟩:=qE H
 try dsimp only at H
 obtain⟨⟨x1,y1,z1⟩,A3,H⟩:=qE H
 try dsimp only at H
 obtain⟨⟨x2,y2,z2⟩,A4,H⟩:=qE H
 try dsimp only at H
 obtain⟨⟨x3,y3,z3⟩,A5,H⟩:=qE H
 try dsimp only at H
 obtain⟨⟨x4,y4,z4⟩,A6,H⟩:=qE H
 try dsimp only at H
 obtain⟨⟨n2,p3⟩,A7,H⟩:=qE H
 try dsimp only at H
 obtain⟨⟨x5,y5,z5⟩,A8,H⟩:=qE H
 try dsimp only at H
 obtain⟨⟨x6,y6,z6⟩,A9,H⟩:=qE H
 try dsimp only at H
 obtain⟨ys,Hy⟩:∃ ys:List S92,aa1 (ys=[(⟨1,3,0,(⟨x3,y3,z3⟩:S90),[],[]⟩:S92)]):=⟨_,⟨rfl⟩⟩
 rw [Option.bind_some,<- Hy.out] at H
 replace H:=jU H;obtain⟨c13,H⟩:=H
 obtain⟨⟨x7,y7,z7⟩,iO,H⟩:=qE H
 obtain⟨yt,Hyt⟩:∃ yt:List S92,aa1 (yt=tb ++ ys):=⟨_,⟨rfl⟩⟩
 simp only [Option.some.injEq,Prod.mk.injEq] at H
 rw [<- Hyt.out] at H
 obtain⟨rfl,rfl⟩:=H
 go_enter func94,ntmps94
 go_wp2_with (first|((with_reducible refine jc 52 16 ?_);refine jK func52 (aab k g af ax 3 n1 p1 w0 _ (qI HI0) qB A1.out) ?_;rintro w1 ⟨hi,hb,hk⟩;replace HK:=aM (aa6.trans (w:=w) qH hk (.inl rfl));replace HB:=aM hb;replace HI0:=aM hi;clear hi hb hk)|((with_reducible refine jc 73 17 ?_);refine jM func73 (aj k (by omega) g af p1 a1 (wrap64 (a2 - 1)) n1 false tb p2 w0 _ (qI HI0) qB A2.out) ?_;rintro v1 w2 ⟨ho,hi,hb,hk⟩;obtain⟨bB,bC,rfl⟩:=N_slice ho;have HX:=aM (ani (w:=w) qH (qI HI0) HW0.out ho hi hb hk);clear hi hb hk ho HI0 HB HK)|((with_reducible refine jc 110 20 ?_);refine jG func110 #[iV 13,iV 3] ?_;refine ack HX.out A3.out (fun nk nu w3 hx=>?_);replace HX:=aM hx;clear hx)|((with_reducible refine jc 110 21 ?_);refine jG func110 #[iV 0,iV 1] ?_;refine ack HX.out A4.out (fun ny nz w3 hx=>?_);replace HX:=aM hx;clear hx)|((with_reducible refine jc 109 22 ?_);refine jG func109 #[iV 8,eV x1 y1 nk z1 nu,eV x2 y2 ny z2 nz] ?_;refine aga HX.out (by simp) (by simp) A5.out (fun bD bE w3 hx=>?_);replace HX:=aM hx;clear hx)|((with_reducible refine jd 9 ?_);refine jX _ 92 ?_;intro b1 hg w4 hbox hb;replace HX:=aM (LX.box HX.out hg hbox hb);obtain⟨iU,iW,iX,iY,iZ,ja,je,jf,nA,nC,nD,nE,nG,nH,nI,nJ⟩:=aqi hbox;clear hb hbox hg))
 replace HX:=aM (show LX w0 w g af (.slice bB tb.length bC) tb [(b1,#[iV 1,iV 3,iV 0,iV x3,iV y3,.slice bD z3.length bE,.slice none 0 0,.slice none 0 0])] [(.slice bD z3.length bE,z3),(.slice ny z2.length nz,z2),(.slice nk z1.length nu,z1)] [] p2 _ from LX.put8 (iV 1) (iV 3) (iV 0) (iV x3) (iV y3) (.slice bD z3.length bE) (.slice none 0 0) (.slice none 0 0) HX.out)
 obtain⟨B1,HB1,m1⟩:∃ B:List (Nat × Array Value),aa1 (B=[(b1,#[iV 1,iV 3,iV 0,iV x3,iV y3,.slice bD z3.length bE,.slice none 0 0,.slice none 0 0])])/\(b1,#[iV 1,iV 3,iV 0,iV x3,iV y3,.slice bD z3.length bE,.slice none 0 0,.slice none 0 0])∈B:=⟨_,⟨rfl⟩,List.mem_cons_self ..⟩
 obtain⟨L1,pV,m3⟩:∃ L:List (Value × List S90),aa1 (L=[(.slice bD z3.length bE,z3),(.slice ny z2.length nz,z2),(.slice nk z1.length nu,z1)])/\(.slice bD z3.length bE,z3)∈L:=⟨_,⟨rfl⟩,List.mem_cons_self ..⟩
 rw [<- HB1.out,<- pV.out] at HX
 replace HX:=aM HX.out.drew
 refine abl (n:=14) (S:=fun W=>W.heap[b1]?=some (.cells #[iV 1,iV 3,iV 0,iV x3,iV y3,.slice bD z3.length bE,.slice none 0 0,.slice none 0 0] 92 (0,0))) (ds:=[]) (jb 14 0) (by kernel_rfl) rfl rfl (HX.out.bx _ m1).1 (fun hHeld=>?_);refine aaL amS al0 (fun HT_ HW_=>?_)
 clear iU iW iX iY iZ ja je jf nA nC nD nE nG nH nI nJ
 refine jp 0 24 (jb 14 1) ?_
 refine jp 2 26 (jb 14 5) ?_
 refine jp 7 31 (jb 14 133) ?_
 refine take_ (i:=8) (N:=some 32) (v:=?_) (a':=?_) (jb 14 389) rfl rfl (aiN HT_.out HW_.out (by kernel_rfl)) (fun _ _ _ h=>h) (Or.inl ⟨by rfl,?_⟩) hHeld ?_ ?_
 rotate_left
 ·rintro w' hs
  obtain⟨iU,iW,iX,iY,iZ,ja,je,jf,_⟩:=aqi hs
  go_simp
  with_reducible rfl
 rotate_left
 ·simp only [Act.put,List.setIfInBounds_toArray,List.set_cons_zero,List.set_cons_succ,aas,aaw]
  rfl
 refine acl (σ:=Option Addr × Nat × Option Addr × Nat × Option Addr × Nat × Option Addr × Nat × Option Addr × Nat × Nat) 1 (jb 14 8191) (fun s_=>[(25,eV x4 y4 s_.1 z4 s_.2.1),(27,iV n2),(28,iV (wrap64 (1+n2))),(29,eV x5 y5 s_.2.2.1 z5 s_.2.2.2.1),(30,eV x6 y6 s_.2.2.2.2.1 z6 s_.2.2.2.2.2.1),(33,.slice s_.2.2.2.2.2.2.1 ys.length s_.2.2.2.2.2.2.2.1),(34,.slice s_.2.2.2.2.2.2.2.2.1 yt.length s_.2.2.2.2.2.2.2.2.2.1),(35,.agg #[iV 3,iV 0,iV 0,iV x6,iV y6,.slice s_.2.2.2.2.1 z6.length s_.2.2.2.2.2.1,.slice s_.2.2.2.2.2.2.2.2.1 yt.length s_.2.2.2.2.2.2.2.2.2.1,.slice none 0 0]),(10,.pointer (some ⟨s_.2.2.2.2.2.2.2.2.2.2,0,none⟩))]) (fun s_ w_=>LX w0 w g af (.slice s_.2.2.2.2.2.2.2.2.1 yt.length s_.2.2.2.2.2.2.2.2.2.1) yt ((s_.2.2.2.2.2.2.2.2.2.2,Z8) :: B1) ((.slice s_.2.2.2.2.1 z6.length s_.2.2.2.2.2.1,z6) :: (.slice s_.2.2.1 z5.length s_.2.2.2.1,z5) :: (.slice s_.1 z4.length s_.2.1,z4) :: L1) [] p3 w_) ?_ (fun gQ=>?_)
 ·rintro⟨ay,az,aK,aN,bv,bz,aH,aI,fB,fC,x⟩ w5 h5
  try dsimp only at h5
  refine aaA (a':=?_) ?_ ?_
  rotate_left
  ·simp only [abg,Act.put,List.setIfInBounds_toArray,List.set_cons_zero,List.set_cons_succ,eV]
   rfl
  refine acK (i:=13) (N:=none) (jb 14 16383) rfl rfl (aaR HT_.out (by kernel_rfl)) (by decide) (fun K hK=>?_)
  obtain⟨iU,iW,iX,iY,iZ,ja,je,jf,nA,nC,nD,nE,nG,nH,nI,nJ⟩:=aqi (h5.bx _ (List.mem_cons_self ..)).1
  refine ah3 (w1:=?_) (by rfl) rfl ?_ ?_
  rotate_left
  ·go_simp
   rfl
  have h6:=(show LX w0 w g af (.slice fB yt.length fC) yt ((x,#[iV 3,iV 0,iV 0,iV x6,iV y6,.slice bv z6.length bz,.slice fB yt.length fC,.slice none 0 0]) :: B1) ((.slice bv z6.length bz,z6) :: (.slice aK z5.length aN,z5) :: (.slice ay z4.length az,z4) :: L1) [] p3 _ from LX.put8 (iV 3) (iV 0) (iV 0) (iV x6) (iV y6) (.slice bv z6.length bz) (.slice fB yt.length fC) (.slice none 0 0) h5)
  refine hK.out _ _ (h6.bx _ (.tail _ m1)).1 (fun _=>?_)
  clear hK K
  refine abI (ab5 HT_.out (by kernel_rfl)) ?_
  try go_wp2
  have h7:=h6.drew
  refine abl (n:=6) (S:=fun W=>W.heap[x]?=some (.cells #[iV 3,iV 0,iV 0,iV x6,iV y6,.slice bv z6.length bz,.slice fB yt.length fC,.slice none 0 0] 92 (0,0))) (ds:=[]) (jb 6 0) (by kernel_rfl) rfl rfl (h7.bx _ (List.mem_cons_self ..)).1 (fun hHeld=>?_)
  clear iU iW iX iY iZ ja je jf nA nC nD nE nG nH nI nJ h5 h6
  refine acZ (i:=0) (N:=some 36) (v:=?_) (a':=?_) (jb 6 1) rfl rfl (by kernel_rfl) (fun _ _ _ h=>h) (Or.inl ⟨by rfl,?_⟩) ?_ ?_
  rotate_left
  ·intro w'
   go_simp
   with_reducible rfl
  rotate_left
  ·simp only [Act.put,List.setIfInBounds_toArray,List.set_cons_zero,List.set_cons_succ,aas,aaw]
   rfl
  refine take_ (i:=3) (N:=some 39) (v:=?_) (a':=?_) (jb 6 9) rfl rfl (by kernel_rfl) (fun _ _ _ h=>h) (Or.inl ⟨by rfl,?_⟩) hHeld ?_ ?_
  rotate_left
  ·rintro w' hs
   obtain⟨iU,iW,iX,iY,iZ,ja,je,jf,_⟩:=aqi hs
   go_simp
   with_reducible rfl
  rotate_left
  ·simp only [Act.put,List.setIfInBounds_toArray,List.set_cons_zero,List.set_cons_succ,aas,aaw]
   rfl
  refine acK (i:=1) (N:=some 37) (jb 6 11) rfl rfl (by kernel_rfl) (by decide) (fun K hK=>?_)
  refine abn func110 (by kernel_rfl) rfl #[iV 0,iV 0] (by rfl) rfl rfl qM (ack h7 iO.out (fun pW pX w6 h8=>?_))
  refine hK.out _ _ (h8.bx _ (List.mem_cons_self ..)).1 (fun _=>?_)
  clear hK K
  refine aaA (a':=?_) ?_ ?_
  rotate_left
  ·show Act.put _ (some 37) _=_
   simp only [Act.put,List.setIfInBounds_toArray,List.set_cons_zero,List.set_cons_succ,aas,aaw]
   rfl
  refine acZ (i:=2) (N:=some 38) (v:=?_) (a':=?_) (jb 6 15) rfl rfl (by kernel_rfl) (fun _ _ _ h=>h) (Or.inl ⟨by rfl,?_⟩) ?_ ?_
  rotate_left
  ·intro w'
   go_simp
   with_reducible rfl
  rotate_left
  ·simp only [Act.put,List.setIfInBounds_toArray,List.set_cons_zero,List.set_cons_succ,aas,aaw]
   rfl
  refine acK (i:=4) (N:=some 40) (jb 6 31) rfl rfl (by kernel_rfl) (by decide) (fun K hK=>?_)
  refine LX.lit2 h8 (by rfl) rfl (inner:=[iV 1,iV 3,iV 0,iV x7,iV y7,.slice pW z7.length pX,.slice none 0 0,.slice none 0 0,iV 3,iV 0,iV 0,iV x6,iV y6,.slice bv z6.length bz,.slice fB yt.length fC,.slice none 0 0]) (xs:=[(⟨1,3,0,(⟨x7,y7,z7⟩:S90),[],[]⟩:S92),(⟨3,0,0,(⟨x6,y6,z6⟩:S90),yt,[]⟩:S92)]) qR9 (aqh h8 (by simp) (by simp)) (by simp) (fun v9 w7 hn h9=>?_)
  refine hK.out _ _ (h9.bx _ (List.mem_cons_self ..)).1 (fun _=>?_)
  clear hK K
  refine aaA (a':=?_) ?_ ?_
  rotate_left
  ·show Act.put _ (some 40) _=_
   simp only [Act.put,List.setIfInBounds_toArray,List.set_cons_zero,List.set_cons_succ,aas,aaw]
   rfl
  refine acZ (i:=5) (N:=some 6) (v:=?_) (a':=?_) (jb 6 63) rfl rfl (by kernel_rfl) (fun _ _ _ h=>h) (Or.inl ⟨by rfl,?_⟩) ?_ ?_
  rotate_left
  ·intro w'
   go_simp
   with_reducible rfl
  rotate_left
  ·simp only [Act.put,List.setIfInBounds_toArray,List.set_cons_zero,List.set_cons_succ,aas,aaw]
   rfl
  refine abI (by kernel_rfl) ?_
  try go_wp2
  go_ret
  exact⟨_,rfl,N_mono hn (fun _ hk=>hk.1),h9.rd,h9.bl,h9.kp⟩
 refine acl (σ:=Option Addr × Nat × Option Addr × Nat × Option Addr × Nat × Option Addr × Nat × Option Addr × Nat) 2 (jb 14 4095) (fun s_=>[(25,eV x4 y4 s_.1 z4 s_.2.1),(27,iV n2),(28,iV (wrap64 (1+n2))),(29,eV x5 y5 s_.2.2.1 z5 s_.2.2.2.1),(30,eV x6 y6 s_.2.2.2.2.1 z6 s_.2.2.2.2.2.1),(33,.slice s_.2.2.2.2.2.2.1 ys.length s_.2.2.2.2.2.2.2.1),(34,.slice s_.2.2.2.2.2.2.2.2.1 yt.length s_.2.2.2.2.2.2.2.2.2),(35,.agg #[iV 3,iV 0,iV 0,iV x6,iV y6,.slice s_.2.2.2.2.1 z6.length s_.2.2.2.2.2.1,.slice s_.2.2.2.2.2.2.2.2.1 yt.length s_.2.2.2.2.2.2.2.2.2,.slice none 0 0])]) (fun s_ w_=>LX w0 w g af (.slice s_.2.2.2.2.2.2.2.2.1 yt.length s_.2.2.2.2.2.2.2.2.2) yt B1 ((.slice s_.2.2.2.2.1 z6.length s_.2.2.2.2.2.1,z6) :: (.slice s_.2.2.1 z5.length s_.2.2.2.1,z5) :: (.slice s_.1 z4.length s_.2.1,z4) :: L1) [] p3 w_) ?_ (fun jg=>?_)
 ·rintro⟨ay,az,aK,aN,bv,bz,aH,aI,fB,fC⟩ w5 h5
  try dsimp only at h5
  refine aaA (a':=?_) ?_ ?_
  rotate_left
  ·simp only [abg,Act.put,List.setIfInBounds_toArray,List.set_cons_zero,List.set_cons_succ,eV]
   rfl
  refine acK (i:=12) (N:=some 10) (jb 14 8191) rfl rfl (aaR HT_.out (by kernel_rfl)) (by decide) (fun K hK=>?_)
  ·exact aby h5 (by rfl) rfl (cs:=Z8) ake (fun x w5 hx=>hK.out _ _ (hx.bx _ (.tail _ m1)).1 (fun _=>aaA nrm (gQ (ay,az,aK,aN,bv,bz,aH,aI,fB,fC,x) _ hx)))
 refine acl (σ:=Option Addr × Nat × Option Addr × Nat × Option Addr × Nat × Option Addr × Nat × Nat) 3 (jb 14 5119) (fun s_=>[(25,eV x4 y4 s_.1 z4 s_.2.1),(27,iV n2),(28,iV (wrap64 (1+n2))),(29,eV x5 y5 s_.2.2.1 z5 s_.2.2.2.1),(30,eV x6 y6 s_.2.2.2.2.1 z6 s_.2.2.2.2.2.1),(33,.slice s_.2.2.2.2.2.2.1 ys.length s_.2.2.2.2.2.2.2.1),(10,.pointer (some ⟨s_.2.2.2.2.2.2.2.2,0,none⟩))]) (fun s_ w_=>LX w0 w g af (.slice bB tb.length bC) tb ((s_.2.2.2.2.2.2.2.2,Z8) :: B1) ((.slice s_.2.2.2.2.1 z6.length s_.2.2.2.2.2.1,z6) :: (.slice s_.2.2.1 z5.length s_.2.2.2.1,z5) :: (.slice s_.1 z4.length s_.2.1,z4) :: L1) [(.slice s_.2.2.2.2.2.2.1 ys.length s_.2.2.2.2.2.2.2.1,ys)] p3 w_) ?_ (fun fD=>?_)
 ·rintro⟨ay,az,aK,aN,bv,bz,aH,aI,x⟩ w5 h5
  try dsimp only at h5
  refine aaA (a':=?_) ?_ ?_
  rotate_left
  ·simp only [abg,Act.put,List.setIfInBounds_toArray,List.set_cons_zero,List.set_cons_succ,eV]
   rfl
  refine acK (i:=10) (N:=some 34) (jb 14 6143) rfl rfl (aaR HT_.out (by kernel_rfl)) (by decide) (fun K hK=>?_)
  ·refine LX.app h5 (by rfl) rfl (.tmp 31) (.tmp 33) rfl Hyt.out rfl rfl (by simp) c13 (fun fB fC w5 hx=>?_)
   refine hK.out _ _ (hx.bx _ (.tail _ m1)).1 (fun _=>?_)
   clear hK K
   refine aaA (a':=?_) ?_ ?_
   rotate_left
   ·show Act.put _ (some 34) _=_
    simp only [Act.put,List.setIfInBounds_toArray,List.set_cons_zero,List.set_cons_succ,aas,aaw]
    rfl
   refine jp 11 35 (jb 14 8191) ?_
   exact aaA nrm (gQ (ay,az,aK,aN,bv,bz,aH,aI,fB,fC,x) _ hx)
 refine acl (σ:=Option Addr × Nat × Option Addr × Nat × Option Addr × Nat × Nat) 4 (jb 14 5055) (fun s_=>[(25,eV x4 y4 s_.1 z4 s_.2.1),(27,iV n2),(28,iV (wrap64 (1+n2))),(29,eV x5 y5 s_.2.2.1 z5 s_.2.2.2.1),(33,.slice s_.2.2.2.2.1 ys.length s_.2.2.2.2.2.1),(10,.pointer (some ⟨s_.2.2.2.2.2.2,0,none⟩))]) (fun s_ w_=>LX w0 w g af (.slice bB tb.length bC) tb ((s_.2.2.2.2.2.2,Z8) :: B1) ((.slice s_.2.2.1 z5.length s_.2.2.2.1,z5) :: (.slice s_.1 z4.length s_.2.1,z4) :: L1) [(.slice s_.2.2.2.2.1 ys.length s_.2.2.2.2.2.1,ys)] p3 w_) ?_ (fun fE=>?_)
 ·rintro⟨ay,az,aK,aN,aH,aI,x⟩ w5 h5
  try dsimp only at h5
  refine aaA (a':=?_) ?_ ?_
  rotate_left
  ·simp only [abg,Act.put,List.setIfInBounds_toArray,List.set_cons_zero,List.set_cons_succ,eV]
   rfl
  refine acK (i:=6) (N:=some 30) (jb 14 5119) rfl rfl (aaR HT_.out (by kernel_rfl)) (by decide) (fun K hK=>?_)
  ·exact abn func109 (by kernel_rfl) rfl #[iV 5,eV x4 y4 ay z4 az,eV x5 y5 aK z5 aN] (by rfl) rfl rfl qM (aga h5 (by simp) (by simp) A9.out (fun bv bz w5 hx=>hK.out _ _ (hx.bx _ (.tail _ m1)).1 (fun _=>aaA nrm (fD (ay,az,aK,aN,bv,bz,aH,aI,x) _ hx))))
 refine acl (σ:=Option Addr × Nat × Option Addr × Nat × Option Addr × Nat × Nat) 4 (jb 14 4607) (fun s_=>[(25,eV x4 y4 s_.1 z4 s_.2.1),(27,iV n2),(28,iV (wrap64 (1+n2))),(29,eV x5 y5 s_.2.2.1 z5 s_.2.2.2.1),(30,eV x6 y6 s_.2.2.2.2.1 z6 s_.2.2.2.2.2.1),(10,.pointer (some ⟨s_.2.2.2.2.2.2,0,none⟩))]) (fun s_ w_=>LX w0 w g af (.slice bB tb.length bC) tb ((s_.2.2.2.2.2.2,Z8) :: B1) ((.slice s_.2.2.2.2.1 z6.length s_.2.2.2.2.2.1,z6) :: (.slice s_.2.2.1 z5.length s_.2.2.2.1,z5) :: (.slice s_.1 z4.length s_.2.1,z4) :: L1) [] p3 w_) ?_ (fun gT=>?_)
 ·rintro⟨ay,az,aK,aN,bv,bz,x⟩ w5 h5
  try dsimp only at h5
  refine aaA (a':=?_) ?_ ?_
  rotate_left
  ·simp only [abg,Act.put,List.setIfInBounds_toArray,List.set_cons_zero,List.set_cons_succ,eV]
   rfl
  refine acK (i:=9) (N:=some 33) (jb 14 5119) rfl rfl (aaR HT_.out (by kernel_rfl)) (by decide) (fun K hK=>?_)
  ·exact adO h5 (by rfl) rfl (inner:=[iV 1,iV 3,iV 0,iV x3,iV y3,.slice bD z3.length bE,.slice none 0 0,.slice none 0 0]) (xs:=[(⟨1,3,0,(⟨x3,y3,z3⟩:S90),[],[]⟩:S92)]) Hy.out qR9 (LX.one h5 (by simp [m3])) (by simp) (fun aH aI w5 hx=>hK.out _ _ (hx.bx _ (.tail _ m1)).1 (fun _=>aaA nrm (fD (ay,az,aK,aN,bv,bz,aH,aI,x) _ hx)))
 refine acl (σ:=Option Addr × Nat × Option Addr × Nat × Option Addr × Nat × Option Addr × Nat) 4 (jb 14 1023) (fun s_=>[(25,eV x4 y4 s_.1 z4 s_.2.1),(27,iV n2),(28,iV (wrap64 (1+n2))),(29,eV x5 y5 s_.2.2.1 z5 s_.2.2.2.1),(30,eV x6 y6 s_.2.2.2.2.1 z6 s_.2.2.2.2.2.1),(33,.slice s_.2.2.2.2.2.2.1 ys.length s_.2.2.2.2.2.2.2)]) (fun s_ w_=>LX w0 w g af (.slice bB tb.length bC) tb B1 ((.slice s_.2.2.2.2.1 z6.length s_.2.2.2.2.2.1,z6) :: (.slice s_.2.2.1 z5.length s_.2.2.2.1,z5) :: (.slice s_.1 z4.length s_.2.1,z4) :: L1) [(.slice s_.2.2.2.2.2.2.1 ys.length s_.2.2.2.2.2.2.2,ys)] p3 w_) ?_ (fun gU=>?_)
 ·rintro⟨ay,az,aK,aN,bv,bz,aH,aI⟩ w5 h5
  try dsimp only at h5
  refine aaA (a':=?_) ?_ ?_
  rotate_left
  ·simp only [abg,Act.put,List.setIfInBounds_toArray,List.set_cons_zero,List.set_cons_succ,eV]
   rfl
  refine ak3 (i:=10) (j:=12) (Ni:=some 34) (Nj:=some 10) (jb 14 2047) (jb 14 5119) rfl rfl rfl rfl (ad3 HT_.out (by kernel_rfl)) (by decide) (by decide) (fun K hK=>?_) (fun K hK=>?_)
  ·refine LX.app h5 (by rfl) rfl (.tmp 31) (.tmp 33) rfl Hyt.out rfl rfl (by simp) c13 (fun fB fC w5 hx=>?_)
   refine hK.out _ _ (hx.bx _ m1).1 (fun _=>?_)
   clear hK K
   refine aaA (a':=?_) ?_ ?_
   rotate_left
   ·show Act.put _ (some 34) _=_
    simp only [Act.put,List.setIfInBounds_toArray,List.set_cons_zero,List.set_cons_succ,aas,aaw]
    rfl
   refine jp 11 35 (jb 14 4095) ?_
   exact aaA nrm (jg (ay,az,aK,aN,bv,bz,aH,aI,fB,fC) _ hx)
  exact aby h5 (by rfl) rfl (cs:=Z8) ake (fun x w5 hx=>hK.out _ _ (hx.bx _ (.tail _ m1)).1 (fun _=>aaA nrm (fD (ay,az,aK,aN,bv,bz,aH,aI,x) _ hx)))
 refine acl (σ:=Option Addr × Nat × Option Addr × Nat × Nat) 5 (jb 14 5023) (fun s_=>[(25,eV x4 y4 s_.1 z4 s_.2.1),(27,iV n2),(28,iV (wrap64 (1+n2))),(33,.slice s_.2.2.1 ys.length s_.2.2.2.1),(10,.pointer (some ⟨s_.2.2.2.2,0,none⟩))]) (fun s_ w_=>LX w0 w g af (.slice bB tb.length bC) tb ((s_.2.2.2.2,Z8) :: B1) ((.slice s_.1 z4.length s_.2.1,z4) :: L1) [(.slice s_.2.2.1 ys.length s_.2.2.2.1,ys)] p3 w_) ?_ (fun fF=>?_)
 ·rintro⟨ay,az,aH,aI,x⟩ w5 h5
  try dsimp only at h5
  refine aaA (a':=?_) ?_ ?_
  rotate_left
  ·simp only [abg,Act.put,List.setIfInBounds_toArray,List.set_cons_zero,List.set_cons_succ,eV]
   rfl
  refine acK (i:=5) (N:=some 29) (jb 14 5055) rfl rfl (aaR HT_.out (by kernel_rfl)) (by decide) (fun K hK=>?_)
  ·exact abn func110 (by kernel_rfl) rfl #[iV 0,iV (wrap64 (1+n2))] (by rfl) rfl rfl qM (ack h5 A8.out (fun aK aN w5 hx=>hK.out _ _ (hx.bx _ (.tail _ m1)).1 (fun _=>aaA nrm (fE (ay,az,aK,aN,aH,aI,x) _ hx))))
 refine acl (σ:=Option Addr × Nat × Option Addr × Nat × Nat) 5 (jb 14 4543) (fun s_=>[(25,eV x4 y4 s_.1 z4 s_.2.1),(27,iV n2),(28,iV (wrap64 (1+n2))),(29,eV x5 y5 s_.2.2.1 z5 s_.2.2.2.1),(10,.pointer (some ⟨s_.2.2.2.2,0,none⟩))]) (fun s_ w_=>LX w0 w g af (.slice bB tb.length bC) tb ((s_.2.2.2.2,Z8) :: B1) ((.slice s_.2.2.1 z5.length s_.2.2.2.1,z5) :: (.slice s_.1 z4.length s_.2.1,z4) :: L1) [] p3 w_) ?_ (fun gV=>?_)
 ·rintro⟨ay,az,aK,aN,x⟩ w5 h5
  try dsimp only at h5
  refine aaA (a':=?_) ?_ ?_
  rotate_left
  ·simp only [abg,Act.put,List.setIfInBounds_toArray,List.set_cons_zero,List.set_cons_succ,eV]
   rfl
  refine ak3 (i:=6) (j:=9) (Ni:=some 30) (Nj:=some 33) (jb 14 4607) (jb 14 5055) rfl rfl rfl rfl (ad3 HT_.out (by kernel_rfl)) (by decide) (by decide) (fun K hK=>?_) (fun K hK=>?_)
  ·exact abn func109 (by kernel_rfl) rfl #[iV 5,eV x4 y4 ay z4 az,eV x5 y5 aK z5 aN] (by rfl) rfl rfl qM (aga h5 (by simp) (by simp) A9.out (fun bv bz w5 hx=>hK.out _ _ (hx.bx _ (.tail _ m1)).1 (fun _=>aaA nrm (gT (ay,az,aK,aN,bv,bz,x) _ hx))))
  exact adO h5 (by rfl) rfl (inner:=[iV 1,iV 3,iV 0,iV x3,iV y3,.slice bD z3.length bE,.slice none 0 0,.slice none 0 0]) (xs:=[(⟨1,3,0,(⟨x3,y3,z3⟩:S90),[],[]⟩:S92)]) Hy.out qR9 (LX.one h5 (by simp [m3])) (by simp) (fun aH aI w5 hx=>hK.out _ _ (hx.bx _ (.tail _ m1)).1 (fun _=>aaA nrm (fE (ay,az,aK,aN,aH,aI,x) _ hx)))
 refine acl (σ:=Option Addr × Nat × Option Addr × Nat × Option Addr × Nat) 5 (jb 14 959) (fun s_=>[(25,eV x4 y4 s_.1 z4 s_.2.1),(27,iV n2),(28,iV (wrap64 (1+n2))),(29,eV x5 y5 s_.2.2.1 z5 s_.2.2.2.1),(33,.slice s_.2.2.2.2.1 ys.length s_.2.2.2.2.2)]) (fun s_ w_=>LX w0 w g af (.slice bB tb.length bC) tb B1 ((.slice s_.2.2.1 z5.length s_.2.2.2.1,z5) :: (.slice s_.1 z4.length s_.2.1,z4) :: L1) [(.slice s_.2.2.2.2.1 ys.length s_.2.2.2.2.2,ys)] p3 w_) ?_ (fun gW=>?_)
 ·rintro⟨ay,az,aK,aN,aH,aI⟩ w5 h5
  try dsimp only at h5
  refine aaA (a':=?_) ?_ ?_
  rotate_left
  ·simp only [abg,Act.put,List.setIfInBounds_toArray,List.set_cons_zero,List.set_cons_succ,eV]
   rfl
  refine ak3 (i:=6) (j:=12) (Ni:=some 30) (Nj:=some 10) (jb 14 1023) (jb 14 5055) rfl rfl rfl rfl (ad3 HT_.out (by kernel_rfl)) (by decide) (by decide) (fun K hK=>?_) (fun K hK=>?_)
  ·exact abn func109 (by kernel_rfl) rfl #[iV 5,eV x4 y4 ay z4 az,eV x5 y5 aK z5 aN] (by rfl) rfl rfl qM (aga h5 (by simp) (by simp) A9.out (fun bv bz w5 hx=>hK.out _ _ (hx.bx _ m1).1 (fun _=>aaA nrm (gU (ay,az,aK,aN,bv,bz,aH,aI) _ hx))))
  exact aby h5 (by rfl) rfl (cs:=Z8) ake (fun x w5 hx=>hK.out _ _ (hx.bx _ (.tail _ m1)).1 (fun _=>aaA nrm (fE (ay,az,aK,aN,aH,aI,x) _ hx)))
 refine acl (σ:=Option Addr × Nat × Option Addr × Nat × Option Addr × Nat) 5 (jb 14 511) (fun s_=>[(25,eV x4 y4 s_.1 z4 s_.2.1),(27,iV n2),(28,iV (wrap64 (1+n2))),(29,eV x5 y5 s_.2.2.1 z5 s_.2.2.2.1),(30,eV x6 y6 s_.2.2.2.2.1 z6 s_.2.2.2.2.2)]) (fun s_ w_=>LX w0 w g af (.slice bB tb.length bC) tb B1 ((.slice s_.2.2.2.2.1 z6.length s_.2.2.2.2.2,z6) :: (.slice s_.2.2.1 z5.length s_.2.2.2.1,z5) :: (.slice s_.1 z4.length s_.2.1,z4) :: L1) [] p3 w_) ?_ (fun jh=>?_)
 ·rintro⟨ay,az,aK,aN,bv,bz⟩ w5 h5
  try dsimp only at h5
  refine aaA (a':=?_) ?_ ?_
  rotate_left
  ·simp only [abg,Act.put,List.setIfInBounds_toArray,List.set_cons_zero,List.set_cons_succ,eV]
   rfl
  refine ak3 (i:=9) (j:=12) (Ni:=some 33) (Nj:=some 10) (jb 14 1023) (jb 14 4607) rfl rfl rfl rfl (ad3 HT_.out (by kernel_rfl)) (by decide) (by decide) (fun K hK=>?_) (fun K hK=>?_)
  ·exact adO h5 (by rfl) rfl (inner:=[iV 1,iV 3,iV 0,iV x3,iV y3,.slice bD z3.length bE,.slice none 0 0,.slice none 0 0]) (xs:=[(⟨1,3,0,(⟨x3,y3,z3⟩:S90),[],[]⟩:S92)]) Hy.out qR9 (LX.one h5 (by simp [m3])) (by simp) (fun aH aI w5 hx=>hK.out _ _ (hx.bx _ m1).1 (fun _=>aaA nrm (gU (ay,az,aK,aN,bv,bz,aH,aI) _ hx)))
  exact aby h5 (by rfl) rfl (cs:=Z8) ake (fun x w5 hx=>hK.out _ _ (hx.bx _ (.tail _ m1)).1 (fun _=>aaA nrm (gT (ay,az,aK,aN,bv,bz,x) _ hx)))
 refine acl (σ:=Option Addr × Nat × Nat) 6 (jb 14 4511) (fun s_=>[(25,eV x4 y4 s_.1 z4 s_.2.1),(27,iV n2),(28,iV (wrap64 (1+n2))),(10,.pointer (some ⟨s_.2.2,0,none⟩))]) (fun s_ w_=>LX w0 w g af (.slice bB tb.length bC) tb ((s_.2.2,Z8) :: B1) ((.slice s_.1 z4.length s_.2.1,z4) :: L1) [] p3 w_) ?_ (fun gX=>?_)
 ·rintro⟨ay,az,x⟩ w5 h5
  try dsimp only at h5
  refine aaA (a':=?_) ?_ ?_
  rotate_left
  ·simp only [abg,Act.put,List.setIfInBounds_toArray,List.set_cons_zero,List.set_cons_succ,eV]
   rfl
  refine ak3 (i:=5) (j:=9) (Ni:=some 29) (Nj:=some 33) (jb 14 4543) (jb 14 5023) rfl rfl rfl rfl (ad3 HT_.out (by kernel_rfl)) (by decide) (by decide) (fun K hK=>?_) (fun K hK=>?_)
  ·exact abn func110 (by kernel_rfl) rfl #[iV 0,iV (wrap64 (1+n2))] (by rfl) rfl rfl qM (ack h5 A8.out (fun aK aN w5 hx=>hK.out _ _ (hx.bx _ (.tail _ m1)).1 (fun _=>aaA nrm (gV (ay,az,aK,aN,x) _ hx))))
  exact adO h5 (by rfl) rfl (inner:=[iV 1,iV 3,iV 0,iV x3,iV y3,.slice bD z3.length bE,.slice none 0 0,.slice none 0 0]) (xs:=[(⟨1,3,0,(⟨x3,y3,z3⟩:S90),[],[]⟩:S92)]) Hy.out qR9 (LX.one h5 (by simp [m3])) (by simp) (fun aH aI w5 hx=>hK.out _ _ (hx.bx _ (.tail _ m1)).1 (fun _=>aaA nrm (fF (ay,az,aH,aI,x) _ hx)))
 refine acl (σ:=Option Addr × Nat × Option Addr × Nat) 6 (jb 14 927) (fun s_=>[(25,eV x4 y4 s_.1 z4 s_.2.1),(27,iV n2),(28,iV (wrap64 (1+n2))),(33,.slice s_.2.2.1 ys.length s_.2.2.2)]) (fun s_ w_=>LX w0 w g af (.slice bB tb.length bC) tb B1 ((.slice s_.1 z4.length s_.2.1,z4) :: L1) [(.slice s_.2.2.1 ys.length s_.2.2.2,ys)] p3 w_) ?_ (fun gY=>?_)
 ·rintro⟨ay,az,aH,aI⟩ w5 h5
  try dsimp only at h5
  refine aaA (a':=?_) ?_ ?_
  rotate_left
  ·simp only [abg,Act.put,List.setIfInBounds_toArray,List.set_cons_zero,List.set_cons_succ,eV]
   rfl
  refine ak3 (i:=5) (j:=12) (Ni:=some 29) (Nj:=some 10) (jb 14 959) (jb 14 5023) rfl rfl rfl rfl (ad3 HT_.out (by kernel_rfl)) (by decide) (by decide) (fun K hK=>?_) (fun K hK=>?_)
  ·exact abn func110 (by kernel_rfl) rfl #[iV 0,iV (wrap64 (1+n2))] (by rfl) rfl rfl qM (ack h5 A8.out (fun aK aN w5 hx=>hK.out _ _ (hx.bx _ m1).1 (fun _=>aaA nrm (gW (ay,az,aK,aN,aH,aI) _ hx))))
  exact aby h5 (by rfl) rfl (cs:=Z8) ake (fun x w5 hx=>hK.out _ _ (hx.bx _ (.tail _ m1)).1 (fun _=>aaA nrm (fF (ay,az,aH,aI,x) _ hx)))
 refine acl (σ:=Option Addr × Nat × Option Addr × Nat) 6 (jb 14 447) (fun s_=>[(25,eV x4 y4 s_.1 z4 s_.2.1),(27,iV n2),(28,iV (wrap64 (1+n2))),(29,eV x5 y5 s_.2.2.1 z5 s_.2.2.2)]) (fun s_ w_=>LX w0 w g af (.slice bB tb.length bC) tb B1 ((.slice s_.2.2.1 z5.length s_.2.2.2,z5) :: (.slice s_.1 z4.length s_.2.1,z4) :: L1) [] p3 w_) ?_ (fun ji=>?_)
 ·rintro⟨ay,az,aK,aN⟩ w5 h5
  try dsimp only at h5
  refine aaA (a':=?_) ?_ ?_
  rotate_left
  ·simp only [abg,Act.put,List.setIfInBounds_toArray,List.set_cons_zero,List.set_cons_succ,eV]
   rfl
  refine aiM (i:=6) (j:=9) (k:=12) (Ni:=some 30) (Nj:=some 33) (Nk:=some 10) (jb 14 511) (jb 14 959) (jb 14 4543) rfl rfl rfl rfl rfl rfl (afm HT_.out (by kernel_rfl)) (by decide) (by decide) (by decide) (fun K hK=>?_) (fun K hK=>?_) (fun K hK=>?_)
  ·exact abn func109 (by kernel_rfl) rfl #[iV 5,eV x4 y4 ay z4 az,eV x5 y5 aK z5 aN] (by rfl) rfl rfl qM (aga h5 (by simp) (by simp) A9.out (fun bv bz w5 hx=>hK.out _ _ (hx.bx _ m1).1 (fun _=>aaA nrm (jh (ay,az,aK,aN,bv,bz) _ hx))))
  ·exact adO h5 (by rfl) rfl (inner:=[iV 1,iV 3,iV 0,iV x3,iV y3,.slice bD z3.length bE,.slice none 0 0,.slice none 0 0]) (xs:=[(⟨1,3,0,(⟨x3,y3,z3⟩:S90),[],[]⟩:S92)]) Hy.out qR9 (LX.one h5 (by simp [m3])) (by simp) (fun aH aI w5 hx=>hK.out _ _ (hx.bx _ m1).1 (fun _=>aaA nrm (gW (ay,az,aK,aN,aH,aI) _ hx)))
  exact aby h5 (by rfl) rfl (cs:=Z8) ake (fun x w5 hx=>hK.out _ _ (hx.bx _ (.tail _ m1)).1 (fun _=>aaA nrm (gV (ay,az,aK,aN,x) _ hx)))
 refine acl (σ:=Option Addr × Nat × Option Addr × Nat × Nat) 7 (jb 14 4999) (fun s_=>[(25,eV x4 y4 s_.1 z4 s_.2.1),(33,.slice s_.2.2.1 ys.length s_.2.2.2.1),(10,.pointer (some ⟨s_.2.2.2.2,0,none⟩))]) (fun s_ w_=>LX w0 w g af (.slice bB tb.length bC) tb ((s_.2.2.2.2,Z8) :: B1) ((.slice s_.1 z4.length s_.2.1,z4) :: L1) [(.slice s_.2.2.1 ys.length s_.2.2.2.1,ys)] p2 w_) ?_ (fun fG=>?_)
 ·rintro⟨ay,az,aH,aI,x⟩ w5 h5
  try dsimp only at h5
  refine aaA (a':=?_) ?_ ?_
  rotate_left
  ·simp only [abg,Act.put,List.setIfInBounds_toArray,List.set_cons_zero,List.set_cons_succ,eV]
   rfl
  refine acK (i:=3) (N:=some 27) (jb 14 5007) rfl rfl (aaR HT_.out (by kernel_rfl)) (by decide) (fun K hK=>?_)
  ·refine abn func52 (by kernel_rfl) rfl #[.pointer (some ⟨g,0,none⟩),iV 3] (by rfl) rfl rfl qM (LX.pick h5 A7.out (fun w5 hx=>?_))
   refine hK.out _ _ (hx.bx _ (.tail _ m1)).1 (fun _=>?_)
   clear hK K
   refine aaA (a':=?_) ?_ ?_
   rotate_left
   ·show Act.put _ (some 27) _=_
    simp only [Act.put,List.setIfInBounds_toArray,List.set_cons_zero,List.set_cons_succ,aas,aaw]
    rfl
   refine jp 4 28 (jb 14 5023) ?_
   exact aaA nrm (fF (ay,az,aH,aI,x) _ hx)
 refine acl (σ:=Option Addr × Nat) 7 (jb 14 415) (fun s_=>[(25,eV x4 y4 s_.1 z4 s_.2),(27,iV n2),(28,iV (wrap64 (1+n2)))]) (fun s_ w_=>LX w0 w g af (.slice bB tb.length bC) tb B1 ((.slice s_.1 z4.length s_.2,z4) :: L1) [] p3 w_) ?_ (fun jk=>?_)
 ·rintro⟨ay,az⟩ w5 h5
  try dsimp only at h5
  refine aaA (a':=?_) ?_ ?_
  rotate_left
  ·simp only [abg,Act.put,List.setIfInBounds_toArray,List.set_cons_zero,List.set_cons_succ,eV]
   rfl
  refine aiM (i:=5) (j:=9) (k:=12) (Ni:=some 29) (Nj:=some 33) (Nk:=some 10) (jb 14 447) (jb 14 927) (jb 14 4511) rfl rfl rfl rfl rfl rfl (afm HT_.out (by kernel_rfl)) (by decide) (by decide) (by decide) (fun K hK=>?_) (fun K hK=>?_) (fun K hK=>?_)
  ·exact abn func110 (by kernel_rfl) rfl #[iV 0,iV (wrap64 (1+n2))] (by rfl) rfl rfl qM (ack h5 A8.out (fun aK aN w5 hx=>hK.out _ _ (hx.bx _ m1).1 (fun _=>aaA nrm (ji (ay,az,aK,aN) _ hx))))
  ·exact adO h5 (by rfl) rfl (inner:=[iV 1,iV 3,iV 0,iV x3,iV y3,.slice bD z3.length bE,.slice none 0 0,.slice none 0 0]) (xs:=[(⟨1,3,0,(⟨x3,y3,z3⟩:S90),[],[]⟩:S92)]) Hy.out qR9 (LX.one h5 (by simp [m3])) (by simp) (fun aH aI w5 hx=>hK.out _ _ (hx.bx _ m1).1 (fun _=>aaA nrm (gY (ay,az,aH,aI) _ hx)))
  exact aby h5 (by rfl) rfl (cs:=Z8) ake (fun x w5 hx=>hK.out _ _ (hx.bx _ (.tail _ m1)).1 (fun _=>aaA nrm (gX (ay,az,x) _ hx)))
 refine acl (σ:=Option Addr × Nat × Nat) 8 (jb 14 4997) (fun s_=>[(33,.slice s_.1 ys.length s_.2.1),(10,.pointer (some ⟨s_.2.2,0,none⟩))]) (fun s_ w_=>LX w0 w g af (.slice bB tb.length bC) tb ((s_.2.2,Z8) :: B1) L1 [(.slice s_.1 ys.length s_.2.1,ys)] p2 w_) ?_ (fun gZ=>?_)
 ·rintro⟨aH,aI,x⟩ w5 h5
  try dsimp only at h5
  refine aaA (a':=?_) ?_ ?_
  rotate_left
  ·simp only [abg,Act.put,List.setIfInBounds_toArray,List.set_cons_zero,List.set_cons_succ,eV]
   rfl
  refine acK (i:=1) (N:=some 25) (jb 14 4999) rfl rfl (aaR HT_.out (by kernel_rfl)) (by decide) (fun K hK=>?_)
  ·exact abn func110 (by kernel_rfl) rfl #[iV 13,iV 3] (by rfl) rfl rfl qM (ack h5 A6.out (fun ay az w5 hx=>hK.out _ _ (hx.bx _ (.tail _ m1)).1 (fun _=>aaA nrm (fG (ay,az,aH,aI,x) _ hx))))
 refine acl (σ:=Option Addr × Nat × Nat) 8 (jb 14 4487) (fun s_=>[(25,eV x4 y4 s_.1 z4 s_.2.1),(10,.pointer (some ⟨s_.2.2,0,none⟩))]) (fun s_ w_=>LX w0 w g af (.slice bB tb.length bC) tb ((s_.2.2,Z8) :: B1) ((.slice s_.1 z4.length s_.2.1,z4) :: L1) [] p2 w_) ?_ (fun ib=>?_)
 ·rintro⟨ay,az,x⟩ w5 h5
  try dsimp only at h5
  refine aaA (a':=?_) ?_ ?_
  rotate_left
  ·simp only [abg,Act.put,List.setIfInBounds_toArray,List.set_cons_zero,List.set_cons_succ,eV]
   rfl
  refine ak3 (i:=3) (j:=9) (Ni:=some 27) (Nj:=some 33) (jb 14 4495) (jb 14 4999) rfl rfl rfl rfl (ad3 HT_.out (by kernel_rfl)) (by decide) (by decide) (fun K hK=>?_) (fun K hK=>?_)
  ·refine abn func52 (by kernel_rfl) rfl #[.pointer (some ⟨g,0,none⟩),iV 3] (by rfl) rfl rfl qM (LX.pick h5 A7.out (fun w5 hx=>?_))
   refine hK.out _ _ (hx.bx _ (.tail _ m1)).1 (fun _=>?_)
   clear hK K
   refine aaA (a':=?_) ?_ ?_
   rotate_left
   ·show Act.put _ (some 27) _=_
    simp only [Act.put,List.setIfInBounds_toArray,List.set_cons_zero,List.set_cons_succ,aas,aaw]
    rfl
   refine jp 4 28 (jb 14 4511) ?_
   exact aaA nrm (gX (ay,az,x) _ hx)
  exact adO h5 (by rfl) rfl (inner:=[iV 1,iV 3,iV 0,iV x3,iV y3,.slice bD z3.length bE,.slice none 0 0,.slice none 0 0]) (xs:=[(⟨1,3,0,(⟨x3,y3,z3⟩:S90),[],[]⟩:S92)]) Hy.out qR9 (LX.one h5 (by simp [m3])) (by simp) (fun aH aI w5 hx=>hK.out _ _ (hx.bx _ (.tail _ m1)).1 (fun _=>aaA nrm (fG (ay,az,aH,aI,x) _ hx)))
 refine acl (σ:=Option Addr × Nat × Option Addr × Nat) 8 (jb 14 903) (fun s_=>[(25,eV x4 y4 s_.1 z4 s_.2.1),(33,.slice s_.2.2.1 ys.length s_.2.2.2)]) (fun s_ w_=>LX w0 w g af (.slice bB tb.length bC) tb B1 ((.slice s_.1 z4.length s_.2.1,z4) :: L1) [(.slice s_.2.2.1 ys.length s_.2.2.2,ys)] p2 w_) ?_ (fun ic=>?_)
 ·rintro⟨ay,az,aH,aI⟩ w5 h5
  try dsimp only at h5
  refine aaA (a':=?_) ?_ ?_
  rotate_left
  ·simp only [abg,Act.put,List.setIfInBounds_toArray,List.set_cons_zero,List.set_cons_succ,eV]
   rfl
  refine ak3 (i:=3) (j:=12) (Ni:=some 27) (Nj:=some 10) (jb 14 911) (jb 14 4999) rfl rfl rfl rfl (ad3 HT_.out (by kernel_rfl)) (by decide) (by decide) (fun K hK=>?_) (fun K hK=>?_)
  ·refine abn func52 (by kernel_rfl) rfl #[.pointer (some ⟨g,0,none⟩),iV 3] (by rfl) rfl rfl qM (LX.pick h5 A7.out (fun w5 hx=>?_))
   refine hK.out _ _ (hx.bx _ m1).1 (fun _=>?_)
   clear hK K
   refine aaA (a':=?_) ?_ ?_
   rotate_left
   ·show Act.put _ (some 27) _=_
    simp only [Act.put,List.setIfInBounds_toArray,List.set_cons_zero,List.set_cons_succ,aas,aaw]
    rfl
   refine jp 4 28 (jb 14 927) ?_
   exact aaA nrm (gY (ay,az,aH,aI) _ hx)
  exact aby h5 (by rfl) rfl (cs:=Z8) ake (fun x w5 hx=>hK.out _ _ (hx.bx _ (.tail _ m1)).1 (fun _=>aaA nrm (fG (ay,az,aH,aI,x) _ hx)))
 refine acl (σ:=Nat) 9 (jb 14 4485) (fun s_=>[(10,.pointer (some ⟨s_,0,none⟩))]) (fun s_ w_=>LX w0 w g af (.slice bB tb.length bC) tb ((s_,Z8) :: B1) L1 [] p2 w_) ?_ (fun jl=>?_)
 ·rintro x w5 h5
  try dsimp only at h5
  refine aaA (a':=?_) ?_ ?_
  rotate_left
  ·simp only [abg,Act.put,List.setIfInBounds_toArray,List.set_cons_zero,List.set_cons_succ,eV]
   rfl
  refine ak3 (i:=1) (j:=9) (Ni:=some 25) (Nj:=some 33) (jb 14 4487) (jb 14 4997) rfl rfl rfl rfl (ad3 HT_.out (by kernel_rfl)) (by decide) (by decide) (fun K hK=>?_) (fun K hK=>?_)
  ·exact abn func110 (by kernel_rfl) rfl #[iV 13,iV 3] (by rfl) rfl rfl qM (ack h5 A6.out (fun ay az w5 hx=>hK.out _ _ (hx.bx _ (.tail _ m1)).1 (fun _=>aaA nrm (ib (ay,az,x) _ hx))))
  exact adO h5 (by rfl) rfl (inner:=[iV 1,iV 3,iV 0,iV x3,iV y3,.slice bD z3.length bE,.slice none 0 0,.slice none 0 0]) (xs:=[(⟨1,3,0,(⟨x3,y3,z3⟩:S90),[],[]⟩:S92)]) Hy.out qR9 (LX.one h5 (by simp [m3])) (by simp) (fun aH aI w5 hx=>hK.out _ _ (hx.bx _ (.tail _ m1)).1 (fun _=>aaA nrm (gZ (aH,aI,x) _ hx)))
 refine acl (σ:=Option Addr × Nat) 9 (jb 14 901) (fun s_=>[(33,.slice s_.1 ys.length s_.2)]) (fun s_ w_=>LX w0 w g af (.slice bB tb.length bC) tb B1 L1 [(.slice s_.1 ys.length s_.2,ys)] p2 w_) ?_ (fun jm=>?_)
 ·rintro⟨aH,aI⟩ w5 h5
  try dsimp only at h5
  refine aaA (a':=?_) ?_ ?_
  rotate_left
  ·simp only [abg,Act.put,List.setIfInBounds_toArray,List.set_cons_zero,List.set_cons_succ,eV]
   rfl
  refine ak3 (i:=1) (j:=12) (Ni:=some 25) (Nj:=some 10) (jb 14 903) (jb 14 4997) rfl rfl rfl rfl (ad3 HT_.out (by kernel_rfl)) (by decide) (by decide) (fun K hK=>?_) (fun K hK=>?_)
  ·exact abn func110 (by kernel_rfl) rfl #[iV 13,iV 3] (by rfl) rfl rfl qM (ack h5 A6.out (fun ay az w5 hx=>hK.out _ _ (hx.bx _ m1).1 (fun _=>aaA nrm (ic (ay,az,aH,aI) _ hx))))
  exact aby h5 (by rfl) rfl (cs:=Z8) ake (fun x w5 hx=>hK.out _ _ (hx.bx _ (.tail _ m1)).1 (fun _=>aaA nrm (gZ (aH,aI,x) _ hx)))
 refine acl (σ:=Option Addr × Nat) 9 (jb 14 391) (fun s_=>[(25,eV x4 y4 s_.1 z4 s_.2)]) (fun s_ w_=>LX w0 w g af (.slice bB tb.length bC) tb B1 ((.slice s_.1 z4.length s_.2,z4) :: L1) [] p2 w_) ?_ (fun jo=>?_)
 ·rintro⟨ay,az⟩ w5 h5
  try dsimp only at h5
  refine aaA (a':=?_) ?_ ?_
  rotate_left
  ·simp only [abg,Act.put,List.setIfInBounds_toArray,List.set_cons_zero,List.set_cons_succ,eV]
   rfl
  refine aiM (i:=3) (j:=9) (k:=12) (Ni:=some 27) (Nj:=some 33) (Nk:=some 10) (jb 14 399) (jb 14 903) (jb 14 4487) rfl rfl rfl rfl rfl rfl (afm HT_.out (by kernel_rfl)) (by decide) (by decide) (by decide) (fun K hK=>?_) (fun K hK=>?_) (fun K hK=>?_)
  ·refine abn func52 (by kernel_rfl) rfl #[.pointer (some ⟨g,0,none⟩),iV 3] (by rfl) rfl rfl qM (LX.pick h5 A7.out (fun w5 hx=>?_))
   refine hK.out _ _ (hx.bx _ m1).1 (fun _=>?_)
   clear hK K
   refine aaA (a':=?_) ?_ ?_
   rotate_left
   ·show Act.put _ (some 27) _=_
    simp only [Act.put,List.setIfInBounds_toArray,List.set_cons_zero,List.set_cons_succ,aas,aaw]
    rfl
   refine jp 4 28 (jb 14 415) ?_
   exact aaA nrm (jk (ay,az) _ hx)
  ·exact adO h5 (by rfl) rfl (inner:=[iV 1,iV 3,iV 0,iV x3,iV y3,.slice bD z3.length bE,.slice none 0 0,.slice none 0 0]) (xs:=[(⟨1,3,0,(⟨x3,y3,z3⟩:S90),[],[]⟩:S92)]) Hy.out qR9 (LX.one h5 (by simp [m3])) (by simp) (fun aH aI w5 hx=>hK.out _ _ (hx.bx _ m1).1 (fun _=>aaA nrm (ic (ay,az,aH,aI) _ hx)))
  exact aby h5 (by rfl) rfl (cs:=Z8) ake (fun x w5 hx=>hK.out _ _ (hx.bx _ (.tail _ m1)).1 (fun _=>aaA nrm (ib (ay,az,x) _ hx)))
 refine aiM (i:=1) (j:=9) (k:=12) (Ni:=some 25) (Nj:=some 33) (Nk:=some 10) (jb 14 391) (jb 14 901) (jb 14 4485) rfl rfl rfl rfl rfl rfl (afm HT_.out (by kernel_rfl)) (by decide) (by decide) (by decide) (fun K hK=>?_) (fun K hK=>?_) (fun K hK=>?_)
 ·exact abn func110 (by kernel_rfl) rfl #[iV 13,iV 3] (by rfl) rfl rfl qM (ack HX.out A6.out (fun ay az w5 hx=>hK.out _ _ (hx.bx _ m1).1 (fun _=>aaA nrm (jo (ay,az) _ hx))))
 ·exact adO HX.out (by rfl) rfl (inner:=[iV 1,iV 3,iV 0,iV x3,iV y3,.slice bD z3.length bE,.slice none 0 0,.slice none 0 0]) (xs:=[(⟨1,3,0,(⟨x3,y3,z3⟩:S90),[],[]⟩:S92)]) Hy.out qR9 (LX.one HX.out (by simp [m3])) (by simp) (fun aH aI w5 hx=>hK.out _ _ (hx.bx _ m1).1 (fun _=>aaA nrm (jm (aH,aI) _ hx)))
 exact aby HX.out (by rfl) rfl (cs:=Z8) ake (fun x w5 hx=>hK.out _ _ (hx.bx _ (.tail _ m1)).1 (fun _=>aaA nrm (jl x _ hx)))
theorem Sby.step (k:Nat) (aj:∀ m_,m_ < k->acQ m_) (ih:∀ m_,m_ < k->adt m_) (aJ:∀ m_,m_ < k->adv m_) (aD:∀ m_,m_ < k->adu m_):adt k:=by
 intro g af ax a1 a2 a3 r1 r2 w0 w hI hB h
 cases k with
 | zero=>exact absurd h (by simp [ajF])
 | succ k =>
 simp only [ajF] at h
 have mV:=underlying92
 have HI0:=aM hI
 have HK:=aM (aaJ w g none)
 have HL:=aM hB.size
 clear hI
 have HW0:=aM hB.size
 have HB:=aM hB
 clear hB
 have H:((aaZ k af ax 10).bind fun aG=>(if aG.1=0 then (adh k a1 a2 a3 aG.1 (aG.1 == 0) af aG.2) else (adh k a1 a2 a3 aG.1 (aG.1 == 1) af aG.2)))=some (r1,r2):=h
 clear h
 obtain⟨⟨bK,bi⟩,A5,H⟩:=qE H
 try dsimp only at H
 have nK:=aM H
 clear H
 go_enter func82,ntmps82
 go_upto_if 11 with (first|((with_reducible refine jc 52 10 ?_);refine jK func52 (aab k g af ax 10 bK bi w0 _ (qI HI0) qB A5.out) ?_;rintro w7 ⟨hi,hb,hk⟩;replace HK:=aM (aa6.trans (w:=w) qH hk (.inl rfl));replace HB:=aM hb;replace HI0:=aM hi;clear hb hk hi))
 (try simp only [Act.put,List.setIfInBounds_toArray,List.set_cons_zero,List.set_cons_succ])
 go_cut [11] (fun v11 wc=>∃ (kq:Nat) (fH:Bool),v11 = .bool fH/\aa1 (adh kq a1 a2 a3 bK fH af bi=some (r1,r2))/\aa1 (kq<=k)/\aa1 (Sab w0 wc g af bi)/\aa1 (aa6 w wc g none)/\aa1 (Below w0.heap.size w0 wc))
 case first =>
  have H:=nK.out
  clear nK
  replace H:=jE H;rcases H with ⟨bO,nL,H⟩ | ⟨c8,bO,nL,H⟩
  ·(first|rw [bO]|(simp only [aas,aaw];rw [bO])|skip)
   have H':=aM H
   clear H
   go_wp2
   go_meet
   exact⟨_,((bK == 0)),qZ,H',⟨by first|omega|exact Nat.le_refl _⟩,⟨qI HI0⟩,⟨qH⟩,⟨qB⟩⟩
  (first|rw [bO]|(simp only [aas,aaw];rw [bO])|skip)
  have H':=aM H
  clear H
  go_wp2
  go_meet
  exact⟨_,((bK == 1)),qZ,H',⟨by first|omega|exact Nat.le_refl _⟩,⟨qI HI0⟩,⟨qH⟩,⟨qB⟩⟩
 clear nK
 obtain⟨kq,fH,rfl,HA,iw,HI0,HK,HB⟩:=hcut
 cases kq with
 | zero=>exact absurd HA.out (by simp [adh])
 | succ iH =>
  have H:=HA.out
  clear HA
  simp only [adh] at H
  replace H:=jB H;rcases H with ⟨rfl,H⟩ | ⟨rfl,H⟩
  ·obtain⟨⟨bP,bQ,bR,bS,bT,bU,bV,bW,nM⟩,iO,H⟩:=qE H
   try dsimp only at H
   obtain⟨pY,dP⟩:=ky ((([(⟨bP,bQ,bR,(⟨bS,bT,bU⟩:S90),bV,bW⟩:S92)]:List S92)):List S92)
   replace H:=kv dP H
   obtain⟨rfl,rfl⟩:=oJ2 H
   go_wp2_with (first|((with_reducible refine jc 92 15 ?_);refine jO func92 (ahP iH g af bi bP bQ bR bS bT bU bV bW nM w0 _ (qI HI0) qB iO.out) ?_;rintro e oK ⟨jr,jv,jw,rfl,ho0,ho1,ho2,hi,hb,hk⟩;refine⟨_,rfl,?_⟩;have dQ:=aM (N_lower (N_mono (ok':=fun k_=>(w.heap.size<=k_)/\some k_≠(jv:Value).ownBlock/\some k_≠(jw:Value).ownBlock/\k_≠g) ho0 (fun k_ hk_=>⟨(Nat.le_trans kU hk_.1),hk_.2.1,hk_.2.2,(Sab.fresh (qI HI0) k_ hk_.1)⟩)) kU);have dR:=aM (N_lower (N_mono (ok':=fun k_=>(w.heap.size<=k_)/\some k_≠(jr:Value).ownBlock/\some k_≠(jw:Value).ownBlock/\k_≠g) ho1 (fun k_ hk_=>⟨(Nat.le_trans kU hk_.1),hk_.2.1,hk_.2.2,(Sab.fresh (qI HI0) k_ hk_.1)⟩)) kU);have dS:=aM (N_lower (N_mono (ok':=fun k_=>(w.heap.size<=k_)/\some k_≠(jr:Value).ownBlock/\some k_≠(jv:Value).ownBlock/\k_≠g) ho2 (fun k_ hk_=>⟨(Nat.le_trans kU hk_.1),hk_.2.1,hk_.2.2,(Sab.fresh (qI HI0) k_ hk_.1)⟩)) kU);replace HK:=aM (aa6.trans (w:=w) qH hk (.inl rfl));replace HB:=aM hb;replace HI0:=aM hi;clear hb hk hi;(try clear ho0);(try clear ho1);(try clear ho2);obtain⟨jy,jA,nN⟩:=N_slice dQ.out;subst nN;obtain⟨jH,jN,nO⟩:=N_slice dR.out;subst nO;obtain⟨jQ,jS,nP⟩:=N_slice dS.out;subst nP)|((with_reducible refine jd 16 ?_);refine N_lit k92 _ 92 ?hg (N':=16) ?hd (xs:=([(⟨bP,bQ,bR,(⟨bS,bT,bU⟩:S90),bV,bW⟩:S92)]:List S92)) (inner:=[iV bP,iV bQ,iV bR,iV bS,iV bT,.slice jy bU.length jA,.slice jH bV.length jN,.slice jQ bW.length jS]) (ok:=(fun k_=>(w.heap.size<=k_)/\k_≠g)) (okp:=(fun k_=>(w.heap.size<=k_)/\k_≠g)) ?hr ?hp (fun _ hk=>hk) ((show ∀ k_,oK.heap.size<=k_->(fun k_=>(w.heap.size<=k_)/\k_≠g) k_ from fun k_ hk=>⟨(Nat.le_trans kU hk),Sab.fresh (qI HI0) k_ hk⟩) _ (Nat.le_refl _)) (Below.refl _ _) (Nat.le_refl _) (by simp) ?_;(case hd=>rfl);(case hg=>rfl);(case hr=>first|(go_simp;done)|(go_simp;rfl));(case hp=>exact (acx (show Kd.FK k92 _ _ (⟨bP,bQ,bR,(⟨bS,bT,bU⟩:S90),bV,bW⟩:S92) [iV bP,iV bQ,iV bR,iV bS,iV bT,.slice jy bU.length jA,.slice jH bV.length jN,.slice jQ bW.length jS] from (acw _ _ (⟨bP,bQ,bR,(⟨bS,bT,bU⟩:S90),bV,bW⟩:S92) (N_reads' (N_mono (ok':=(fun k_=>(w.heap.size<=k_)/\k_≠g)) (dQ.out) (fun k_ hk=>⟨hk.1,hk.2.2.2⟩))).2.1 (N_F (N_mono (ok':=(fun k_=>(w.heap.size<=k_)/\k_≠g)) (dQ.out) (fun k_ hk=>⟨hk.1,hk.2.2.2⟩))) (N_reads' (N_mono (ok':=(fun k_=>(w.heap.size<=k_)/\k_≠g)) (dR.out) (fun k_ hk=>⟨hk.1,hk.2.2.2⟩))).2.1 (N_F (N_mono (ok':=(fun k_=>(w.heap.size<=k_)/\k_≠g)) (dR.out) (fun k_ hk=>⟨hk.1,hk.2.2.2⟩))) (N_reads' (N_mono (ok':=(fun k_=>(w.heap.size<=k_)/\k_≠g)) (dS.out) (fun k_ hk=>⟨hk.1,hk.2.2.2⟩))).2.1 (N_F (N_mono (ok':=(fun k_=>(w.heap.size<=k_)/\k_≠g)) (dS.out) (fun k_ hk=>⟨hk.1,hk.2.2.2⟩))))) (aa9 _ _)));intro p8 rZ fI hb hg_ hnew_;clear hg_ hnew_;replace fI:=kr dP fI;have jT:=aM (N_lower fI kU);replace HI0:=aM (Sab.below (qI HI0) hb);replace HK:=kY hb;replace HB:=kH hb;clear dQ dR dS;clear hb fI))
   go_ret
   exact⟨_,qW,by (with_reducible repeat (first|apply N_alloc|apply N_drewN|apply N_drew));exact N_mono jT.out (fun _ hk=>hk.1),qI HI0,qB,qH⟩
  replace H:=jE H;rcases H with ⟨fJ,fK,H⟩ | ⟨c17,fJ,fK,H⟩
  ·replace H:=jD H;rcases H with ⟨jW,H⟩ | ⟨jW,H⟩
   ·obtain⟨⟨bX,bY,bZ,cu,cz,cB,cK,cO,nQ⟩,p9,H⟩:=qE H
    try dsimp only at H
    obtain⟨qb,dU⟩:=ky ((([(⟨bX,bY,bZ,(⟨cu,cz,cB⟩:S90),cK,cO⟩:S92)]:List S92)):List S92)
    replace H:=kv dU H
    obtain⟨rfl,rfl⟩:=oJ2 H
    go_wp2_with (first|((with_reducible refine jc 93 25 ?_);refine jO func93 (aJ iH (by have:=iw.out;omega) g af bi a1 a2 a3 bX bY bZ cu cz cB cK cO nQ w0 _ (qI HI0) qB p9.out) ?_;rintro e mY ⟨jZ,j4,j5,rfl,ho0,ho1,ho2,hi,hb,hk⟩;refine⟨_,rfl,?_⟩;have dV:=aM (N_lower (N_mono (ok':=fun k_=>(w.heap.size<=k_)/\some k_≠(j4:Value).ownBlock/\some k_≠(j5:Value).ownBlock/\k_≠g) ho0 (fun k_ hk_=>⟨(Nat.le_trans kU hk_.1),hk_.2.1,hk_.2.2,(Sab.fresh (qI HI0) k_ hk_.1)⟩)) kU);have dW:=aM (N_lower (N_mono (ok':=fun k_=>(w.heap.size<=k_)/\some k_≠(jZ:Value).ownBlock/\some k_≠(j5:Value).ownBlock/\k_≠g) ho1 (fun k_ hk_=>⟨(Nat.le_trans kU hk_.1),hk_.2.1,hk_.2.2,(Sab.fresh (qI HI0) k_ hk_.1)⟩)) kU);have dX:=aM (N_lower (N_mono (ok':=fun k_=>(w.heap.size<=k_)/\some k_≠(jZ:Value).ownBlock/\some k_≠(j4:Value).ownBlock/\k_≠g) ho2 (fun k_ hk_=>⟨(Nat.le_trans kU hk_.1),hk_.2.1,hk_.2.2,(Sab.fresh (qI HI0) k_ hk_.1)⟩)) kU);replace HK:=aM (aa6.trans (w:=w) qH hk (.inl rfl));replace HB:=aM hb;replace HI0:=aM hi;clear hb hk hi;(try clear ho0);(try clear ho1);(try clear ho2);obtain⟨j6,kg,nR⟩:=N_slice dV.out;subst nR;obtain⟨ko,ku,nS⟩:=N_slice dW.out;subst nS;obtain⟨kD,kE,nT⟩:=N_slice dX.out;subst nT)|((with_reducible refine jd 26 ?_);refine N_lit k92 _ 92 ?hg (N':=26) ?hd (xs:=([(⟨bX,bY,bZ,(⟨cu,cz,cB⟩:S90),cK,cO⟩:S92)]:List S92)) (inner:=[iV bX,iV bY,iV bZ,iV cu,iV cz,.slice j6 cB.length kg,.slice ko cK.length ku,.slice kD cO.length kE]) (ok:=(fun k_=>(w.heap.size<=k_)/\k_≠g)) (okp:=(fun k_=>(w.heap.size<=k_)/\k_≠g)) ?hr ?hp (fun _ hk=>hk) ((show ∀ k_,mY.heap.size<=k_->(fun k_=>(w.heap.size<=k_)/\k_≠g) k_ from fun k_ hk=>⟨(Nat.le_trans kU hk),Sab.fresh (qI HI0) k_ hk⟩) _ (Nat.le_refl _)) (Below.refl _ _) (Nat.le_refl _) (by simp) ?_;(case hd=>rfl);(case hg=>rfl);(case hr=>first|(go_simp;done)|(go_simp;rfl));(case hp=>exact (acx (show Kd.FK k92 _ _ (⟨bX,bY,bZ,(⟨cu,cz,cB⟩:S90),cK,cO⟩:S92) [iV bX,iV bY,iV bZ,iV cu,iV cz,.slice j6 cB.length kg,.slice ko cK.length ku,.slice kD cO.length kE] from (acw _ _ (⟨bX,bY,bZ,(⟨cu,cz,cB⟩:S90),cK,cO⟩:S92) (N_reads' (N_mono (ok':=(fun k_=>(w.heap.size<=k_)/\k_≠g)) (dV.out) (fun k_ hk=>⟨hk.1,hk.2.2.2⟩))).2.1 (N_F (N_mono (ok':=(fun k_=>(w.heap.size<=k_)/\k_≠g)) (dV.out) (fun k_ hk=>⟨hk.1,hk.2.2.2⟩))) (N_reads' (N_mono (ok':=(fun k_=>(w.heap.size<=k_)/\k_≠g)) (dW.out) (fun k_ hk=>⟨hk.1,hk.2.2.2⟩))).2.1 (N_F (N_mono (ok':=(fun k_=>(w.heap.size<=k_)/\k_≠g)) (dW.out) (fun k_ hk=>⟨hk.1,hk.2.2.2⟩))) (N_reads' (N_mono (ok':=(fun k_=>(w.heap.size<=k_)/\k_≠g)) (dX.out) (fun k_ hk=>⟨hk.1,hk.2.2.2⟩))).2.1 (N_F (N_mono (ok':=(fun k_=>(w.heap.size<=k_)/\k_≠g)) (dX.out) (fun k_ hk=>⟨hk.1,hk.2.2.2⟩))))) (aa9 _ _)));intro qc si fM hb hg_ hnew_;clear hg_ hnew_;replace fM:=kr dU fM;have kF:=aM (N_lower fM kU);replace HI0:=aM (Sab.below (qI HI0) hb);replace HK:=kY hb;replace HB:=kH hb;clear dV dW dX;clear hb fM))
    go_ret
    exact⟨_,qW,by (with_reducible repeat (first|apply N_alloc|apply N_drewN|apply N_drew));exact N_mono kF.out (fun _ hk=>hk.1),qI HI0,qB,qH⟩
   obtain⟨⟨iy,kP⟩,qd,H⟩:=qE H
   try dsimp only at H
   obtain⟨⟨df,dh,di,nU⟩,qf,H⟩:=qE H
   try dsimp only at H
   obtain⟨qg,dY⟩:=ky ((([(⟨7,0,0,(⟨df,dh,di⟩:S90),([]:List S92),([]:List S92)⟩:S92)]:List S92)):List S92)
   replace H:=kv dY H
   obtain⟨rfl,rfl⟩:=oJ2 H
   go_wp2_with (first|((with_reducible refine jc 52 52 ?_);refine jK func52 (aab iH g af bi 3 iy kP w0 _ (qI HI0) qB qd.out) ?_;rintro sj ⟨hi,hb,hk⟩;replace HK:=aM (aa6.trans (w:=w) qH hk (.inl rfl));replace HB:=aM hb;replace HI0:=aM hi;clear hb hk hi)|((with_reducible refine jc 96 54 ?_);refine jM func96 (acD iH g af kP (wrap64 (1+iy)) df dh di nU w0 _ (qI HI0) qB qf.out) ?_;rintro qi qh ⟨ho0,hi,hb,hk⟩;have dZ:=aM (N_lower (N_mono (ok':=fun k_=>(w.heap.size<=k_)/\k_≠g) ho0 (fun k_ hk_=>⟨(Nat.le_trans kU hk_),(Sab.fresh (qI HI0) k_ hk_)⟩)) kU);replace HK:=aM (aa6.trans (w:=w) qH hk (.inl rfl));replace HB:=aM hb;replace HI0:=aM hi;clear hb hk hi;(try clear ho0);obtain⟨kV,kX,nV⟩:=N_slice dZ.out;subst nV)|((with_reducible refine jd 56 ?_);refine N_lit k92 _ 92 ?hg (N':=56) ?hd (xs:=([(⟨7,0,0,(⟨df,dh,di⟩:S90),([]:List S92),([]:List S92)⟩:S92)]:List S92)) (inner:=[iV 7,iV 0,iV 0,iV df,iV dh,.slice kV di.length kX,.slice none 0 0,.slice none 0 0]) (ok:=(fun k_=>(w.heap.size<=k_)/\k_≠g)) (okp:=(fun k_=>(w.heap.size<=k_)/\k_≠g)) ?hr ?hp (fun _ hk=>hk) ((show ∀ k_,qh.heap.size<=k_->(fun k_=>(w.heap.size<=k_)/\k_≠g) k_ from fun k_ hk=>⟨(Nat.le_trans kU hk),Sab.fresh (qI HI0) k_ hk⟩) _ (Nat.le_refl _)) (Below.refl _ _) (Nat.le_refl _) (by simp) ?_;(case hd=>rfl);(case hg=>rfl);(case hr=>first|(go_simp;done)|(go_simp;rfl));(case hp=>exact (acx (show Kd.FK k92 _ _ (⟨7,0,0,(⟨df,dh,di⟩:S90),([]:List S92),([]:List S92)⟩:S92) [iV 7,iV 0,iV 0,iV df,iV dh,.slice kV di.length kX,.slice none 0 0,.slice none 0 0] from (acw _ _ (⟨7,0,0,(⟨df,dh,di⟩:S90),([]:List S92),([]:List S92)⟩:S92) (N_reads' (N_mono (ok':=(fun k_=>(w.heap.size<=k_)/\k_≠g)) (dZ.out) (fun k_ hk=>⟨hk.1,hk.2⟩))).2.1 (N_F (N_mono (ok':=(fun k_=>(w.heap.size<=k_)/\k_≠g)) (dZ.out) (fun k_ hk=>⟨hk.1,hk.2⟩))) (Nat.le_refl _) (F_nil _ _ _) (Nat.le_refl _) (F_nil _ _ _))) (aa9 _ _)));intro qj su fO hb hg_ hnew_;clear hg_ hnew_;replace fO:=kr dY fO;have kZ:=aM (N_lower fO kU);replace HI0:=aM (Sab.below (qI HI0) hb);replace HK:=kY hb;replace HB:=kH hb;clear dZ;clear hb fO))
   go_ret
   exact⟨_,qW,by (with_reducible repeat (first|apply N_alloc|apply N_drewN|apply N_drew));exact N_mono kZ.out (fun _ hk=>hk.1),qI HI0,qB,qH⟩
  replace H:=jE H;rcases H with ⟨fP,fQ,H⟩ | ⟨pq,fP,fQ,H⟩
  ·have iA:=aM H
   clear H
   go_upto_region 9 with (fail)
   go_cut [33] (fun v33 wc=>∃ (kq:Nat) (dn:Bool),v33 = .bool dn/\aa1 (aec kq a1 a2 dn af bi=some (r1,r2))/\aa1 (kq<=iH)/\aa1 (Sab w0 wc g af bi)/\aa1 (aa6 w wc g none)/\aa1 (Below w0.heap.size w0 wc))
   case first =>
    have H:=iA.out
    clear iA
    replace H:=jD H;rcases H with ⟨bL,H⟩ | ⟨bL,H⟩
    ·(first|rw [bL]|(simp only [aas,aaw];rw [bL])|skip)
     have H':=aM H
     clear H
     go_wp2
     go_meet
     exact⟨_,(a3),qZ,H',⟨by have:=iw.out;first|omega|exact Nat.le_refl _⟩,⟨qI HI0⟩,⟨qH⟩,⟨qB⟩⟩
    (first|rw [bL]|(simp only [aas,aaw];rw [bL])|skip)
    have H':=aM H
    clear H
    go_wp2
    go_meet
    exact⟨_,(false),qZ,H',⟨by have:=iw.out;first|omega|exact Nat.le_refl _⟩,⟨qI HI0⟩,⟨qH⟩,⟨qB⟩⟩
   clear iA
   try clear c17;try clear fJ;try clear fK;try clear pq;try clear fP;try clear fQ
   obtain⟨kq,dn,rfl,HA,nW,HI0,HK,HB⟩:=hcut
   cases kq with
   | zero=>exact absurd HA.out (by simp [aec])
   | succ iB =>
    have H:=HA.out
    clear HA
    simp only [aec] at H
    replace H:=jB H;rcases H with ⟨rfl,H⟩ | ⟨rfl,H⟩
    ·obtain⟨⟨nX,nY⟩,ql,H⟩:=qE H
     try dsimp only at H
     obtain⟨rfl,rfl⟩:=oJ2 H
     go_wp2_with (first|((with_reducible refine jc 94 37 ?_);refine jM func94 (aD iB (by have:=iw.out;have:=nW.out;omega) g af bi a1 a2 nX nY w0 _ (qI HI0) qB ql.out) ?_;rintro qm sw ⟨ho0,hi,hb,hk⟩;have lc:=aM (N_lower (N_mono (ok':=fun k_=>(w.heap.size<=k_)/\k_≠g) ho0 (fun k_ hk_=>⟨(Nat.le_trans kU hk_),(Sab.fresh (qI HI0) k_ hk_)⟩)) kU);replace HK:=aM (aa6.trans (w:=w) qH hk (.inl rfl));replace HB:=aM hb;replace HI0:=aM hi;clear hb hk hi;(try clear ho0)))
     go_ret
     exact⟨_,qW,by (with_reducible repeat (first|apply N_alloc|apply N_drewN|apply N_drew));exact N_mono lc.out (fun _ hk=>hk.1),qI HI0,qB,qH⟩
    obtain⟨⟨iC,lg⟩,qo,H⟩:=qE H
    try dsimp only at H
    obtain⟨⟨dw,dx,dz,nZ⟩,qp,H⟩:=qE H
    try dsimp only at H
    obtain⟨qw,d9⟩:=ky ((([(⟨7,0,0,(⟨dw,dx,dz⟩:S90),([]:List S92),([]:List S92)⟩:S92)]:List S92)):List S92)
    replace H:=kv d9 H
    obtain⟨rfl,rfl⟩:=oJ2 H
    go_wp2_with (first|((with_reducible refine jc 52 52 ?_);refine jK func52 (aab iB g af bi 3 iC lg w0 _ (qI HI0) qB qo.out) ?_;rintro sD ⟨hi,hb,hk⟩;replace HK:=aM (aa6.trans (w:=w) qH hk (.inl rfl));replace HB:=aM hb;replace HI0:=aM hi;clear hb hk hi)|((with_reducible refine jc 96 54 ?_);refine jM func96 (acD iB g af lg (wrap64 (1+iC)) dw dx dz nZ w0 _ (qI HI0) qB qp.out) ?_;rintro qy qx ⟨ho0,hi,hb,hk⟩;have ed:=aM (N_lower (N_mono (ok':=fun k_=>(w.heap.size<=k_)/\k_≠g) ho0 (fun k_ hk_=>⟨(Nat.le_trans kU hk_),(Sab.fresh (qI HI0) k_ hk_)⟩)) kU);replace HK:=aM (aa6.trans (w:=w) qH hk (.inl rfl));replace HB:=aM hb;replace HI0:=aM hi;clear hb hk hi;(try clear ho0);obtain⟨lh,ll,oh⟩:=N_slice ed.out;subst oh)|((with_reducible refine jd 56 ?_);refine N_lit k92 _ 92 ?hg (N':=56) ?hd (xs:=([(⟨7,0,0,(⟨dw,dx,dz⟩:S90),([]:List S92),([]:List S92)⟩:S92)]:List S92)) (inner:=[iV 7,iV 0,iV 0,iV dw,iV dx,.slice lh dz.length ll,.slice none 0 0,.slice none 0 0]) (ok:=(fun k_=>(w.heap.size<=k_)/\k_≠g)) (okp:=(fun k_=>(w.heap.size<=k_)/\k_≠g)) ?hr ?hp (fun _ hk=>hk) ((show ∀ k_,qx.heap.size<=k_->(fun k_=>(w.heap.size<=k_)/\k_≠g) k_ from fun k_ hk=>⟨(Nat.le_trans kU hk),Sab.fresh (qI HI0) k_ hk⟩) _ (Nat.le_refl _)) (Below.refl _ _) (Nat.le_refl _) (by simp) ?_;(case hd=>rfl);(case hg=>rfl);(case hr=>first|(go_simp;done)|(go_simp;rfl));(case hp=>exact (acx (show Kd.FK k92 _ _ (⟨7,0,0,(⟨dw,dx,dz⟩:S90),([]:List S92),([]:List S92)⟩:S92) [iV 7,iV 0,iV 0,iV dw,iV dx,.slice lh dz.length ll,.slice none 0 0,.slice none 0 0] from (acw _ _ (⟨7,0,0,(⟨dw,dx,dz⟩:S90),([]:List S92),([]:List S92)⟩:S92) (N_reads' (N_mono (ok':=(fun k_=>(w.heap.size<=k_)/\k_≠g)) (ed.out) (fun k_ hk=>⟨hk.1,hk.2⟩))).2.1 (N_F (N_mono (ok':=(fun k_=>(w.heap.size<=k_)/\k_≠g)) (ed.out) (fun k_ hk=>⟨hk.1,hk.2⟩))) (Nat.le_refl _) (F_nil _ _ _) (Nat.le_refl _) (F_nil _ _ _))) (aa9 _ _)));intro qz sF fT hb hg_ hnew_;clear hg_ hnew_;replace fT:=kr d9 fT;have lu:=aM (N_lower fT kU);replace HI0:=aM (Sab.below (qI HI0) hb);replace HK:=kY hb;replace HB:=kH hb;clear ed;clear hb fT))
    go_ret
    exact⟨_,qW,by (with_reducible repeat (first|apply N_alloc|apply N_drewN|apply N_drew));exact N_mono lu.out (fun _ hk=>hk.1),qI HI0,qB,qH⟩
  have iD:=aM H
  clear H
  go_upto_if 38 with (fail)
  go_cut [38] (fun v38 wc=>∃ (kq:Nat) (dA:Bool),v38 = .bool dA/\aa1 (adG kq a1 bK dA af bi=some (r1,r2))/\aa1 (kq<=iH)/\aa1 (Sab w0 wc g af bi)/\aa1 (aa6 w wc g none)/\aa1 (Below w0.heap.size w0 wc))
  case first =>
   have H:=iD.out
   clear iD
   replace H:=jE H;rcases H with ⟨bM,lv,H⟩ | ⟨sG,bM,lv,H⟩
   ·(first|rw [bM]|(simp only [aas,aaw];rw [bM])|skip)
    have H':=aM H
    clear H
    go_wp2
    go_meet
    exact⟨_,((bK == 4)),qZ,H',⟨by have:=iw.out;first|omega|exact Nat.le_refl _⟩,⟨qI HI0⟩,⟨qH⟩,⟨qB⟩⟩
   (first|rw [bM]|(simp only [aas,aaw];rw [bM])|skip)
   replace H:=jE H;rcases H with ⟨lw,lC,H⟩ | ⟨sH,lw,lC,H⟩
   ·have H':=aM H
    clear H
    go_wp2
    go_meet
    exact⟨_,((bK == 5)),qZ,H',⟨by have:=iw.out;first|omega|exact Nat.le_refl _⟩,⟨qI HI0⟩,⟨qH⟩,⟨qB⟩⟩
   have H':=aM H
   clear H
   go_wp2
   go_meet
   exact⟨_,((bK == 6)),qZ,H',⟨by have:=iw.out;first|omega|exact Nat.le_refl _⟩,⟨qI HI0⟩,⟨qH⟩,⟨qB⟩⟩
  clear iD
  try clear c17;try clear fJ;try clear fK;try clear pq;try clear fP;try clear fQ
  obtain⟨kq,dA,rfl,HA,qC,HI0,HK,HB⟩:=hcut
  cases kq with
  | zero=>exact absurd HA.out (by simp [adG])
  | succ iE =>
   have H:=HA.out
   clear HA
   simp only [adG] at H
   replace H:=jB H;rcases H with ⟨rfl,H⟩ | ⟨rfl,H⟩
   ·obtain⟨⟨dB,dC,dD,dE,dF,dG,dH,dI,ol⟩,qG,H⟩:=qE H
    try dsimp only at H
    obtain⟨qJ,ek⟩:=ky ((([(⟨dB,dC,dD,(⟨dE,dF,dG⟩:S90),dH,dI⟩:S92)]:List S92)):List S92)
    replace H:=kv ek H
    obtain⟨rfl,rfl⟩:=oJ2 H
    go_wp2_with (first|((with_reducible refine jc 95 44 ?_);refine jO func95 (alx iE g af bi a1 dB dC dD dE dF dG dH dI ol w0 _ (qI HI0) qB qG.out) ?_;rintro e qO ⟨lD,lF,lG,rfl,ho0,ho1,ho2,hi,hb,hk⟩;refine⟨_,rfl,?_⟩;have eu:=aM (N_lower (N_mono (ok':=fun k_=>(w.heap.size<=k_)/\some k_≠(lF:Value).ownBlock/\some k_≠(lG:Value).ownBlock/\k_≠g) ho0 (fun k_ hk_=>⟨(Nat.le_trans kU hk_.1),hk_.2.1,hk_.2.2,(Sab.fresh (qI HI0) k_ hk_.1)⟩)) kU);have eB:=aM (N_lower (N_mono (ok':=fun k_=>(w.heap.size<=k_)/\some k_≠(lD:Value).ownBlock/\some k_≠(lG:Value).ownBlock/\k_≠g) ho1 (fun k_ hk_=>⟨(Nat.le_trans kU hk_.1),hk_.2.1,hk_.2.2,(Sab.fresh (qI HI0) k_ hk_.1)⟩)) kU);have eD:=aM (N_lower (N_mono (ok':=fun k_=>(w.heap.size<=k_)/\some k_≠(lD:Value).ownBlock/\some k_≠(lF:Value).ownBlock/\k_≠g) ho2 (fun k_ hk_=>⟨(Nat.le_trans kU hk_.1),hk_.2.1,hk_.2.2,(Sab.fresh (qI HI0) k_ hk_.1)⟩)) kU);replace HK:=aM (aa6.trans (w:=w) qH hk (.inl rfl));replace HB:=aM hb;replace HI0:=aM hi;clear hb hk hi;(try clear ho0);(try clear ho1);(try clear ho2);obtain⟨lH,lI,oo⟩:=N_slice eu.out;subst oo;obtain⟨lJ,lK,ou⟩:=N_slice eB.out;subst ou;obtain⟨lL,lM,ow⟩:=N_slice eD.out;subst ow)|((with_reducible refine jd 45 ?_);refine N_lit k92 _ 92 ?hg (N':=45) ?hd (xs:=([(⟨dB,dC,dD,(⟨dE,dF,dG⟩:S90),dH,dI⟩:S92)]:List S92)) (inner:=[iV dB,iV dC,iV dD,iV dE,iV dF,.slice lH dG.length lI,.slice lJ dH.length lK,.slice lL dI.length lM]) (ok:=(fun k_=>(w.heap.size<=k_)/\k_≠g)) (okp:=(fun k_=>(w.heap.size<=k_)/\k_≠g)) ?hr ?hp (fun _ hk=>hk) ((show ∀ k_,qO.heap.size<=k_->(fun k_=>(w.heap.size<=k_)/\k_≠g) k_ from fun k_ hk=>⟨(Nat.le_trans kU hk),Sab.fresh (qI HI0) k_ hk⟩) _ (Nat.le_refl _)) (Below.refl _ _) (Nat.le_refl _) (by simp) ?_;(case hd=>rfl);(case hg=>rfl);(case hr=>first|(go_simp;done)|(go_simp;rfl));(case hp=>exact (acx (show Kd.FK k92 _ _ (⟨dB,dC,dD,(⟨dE,dF,dG⟩:S90),dH,dI⟩:S92) [iV dB,iV dC,iV dD,iV dE,iV dF,.slice lH dG.length lI,.slice lJ dH.length lK,.slice lL dI.length lM] from (acw _ _ (⟨dB,dC,dD,(⟨dE,dF,dG⟩:S90),dH,dI⟩:S92) (N_reads' (N_mono (ok':=(fun k_=>(w.heap.size<=k_)/\k_≠g)) (eu.out) (fun k_ hk=>⟨hk.1,hk.2.2.2⟩))).2.1 (N_F (N_mono (ok':=(fun k_=>(w.heap.size<=k_)/\k_≠g)) (eu.out) (fun k_ hk=>⟨hk.1,hk.2.2.2⟩))) (N_reads' (N_mono (ok':=(fun k_=>(w.heap.size<=k_)/\k_≠g)) (eB.out) (fun k_ hk=>⟨hk.1,hk.2.2.2⟩))).2.1 (N_F (N_mono (ok':=(fun k_=>(w.heap.size<=k_)/\k_≠g)) (eB.out) (fun k_ hk=>⟨hk.1,hk.2.2.2⟩))) (N_reads' (N_mono (ok':=(fun k_=>(w.heap.size<=k_)/\k_≠g)) (eD.out) (fun k_ hk=>⟨hk.1,hk.2.2.2⟩))).2.1 (N_F (N_mono (ok':=(fun k_=>(w.heap.size<=k_)/\k_≠g)) (eD.out) (fun k_ hk=>⟨hk.1,hk.2.2.2⟩))))) (aa9 _ _)));intro qX sI fU hb hg_ hnew_;clear hg_ hnew_;replace fU:=kr ek fU;have lN:=aM (N_lower fU kU);replace HI0:=aM (Sab.below (qI HI0) hb);replace HK:=kY hb;replace HB:=kH hb;clear eu eB eD;clear hb fU))
    go_ret
    exact⟨_,qW,by (with_reducible repeat (first|apply N_alloc|apply N_drewN|apply N_drew));exact N_mono lN.out (fun _ hk=>hk.1),qI HI0,qB,qH⟩
   replace H:=jE H;rcases H with ⟨lQ,lS,H⟩ | ⟨sJ,lQ,lS,H⟩
   ·obtain⟨qY,eF⟩:=ky ((([(⟨6,0,0,(⟨0,0,([]:List S90)⟩:S90),([]:List S92),([]:List S92)⟩:S92)]:List S92)):List S92)
    replace H:=kv eF H
    obtain⟨rfl,rfl⟩:=oJ2 H
    go_wp2_with (first|((with_reducible refine jd 49 ?_);refine N_lit k92 _ 92 ?hg (N':=49) ?hd (xs:=([(⟨6,0,0,(⟨0,0,([]:List S90)⟩:S90),([]:List S92),([]:List S92)⟩:S92)]:List S92)) (inner:=[iV 6,iV 0,iV 0,iV 0,iV 0,.slice none 0 0,.slice none 0 0,.slice none 0 0]) (ok:=(fun k_=>(w.heap.size<=k_)/\k_≠g)) (okp:=(fun k_=>(w.heap.size<=k_)/\k_≠g)) ?hr ?hp (fun _ hk=>hk) ((show ∀ k_,wc.heap.size<=k_->(fun k_=>(w.heap.size<=k_)/\k_≠g) k_ from fun k_ hk=>⟨(Nat.le_trans kU hk),Sab.fresh (qI HI0) k_ hk⟩) _ (Nat.le_refl _)) (Below.refl _ _) (Nat.le_refl _) (by simp) ?_;(case hd=>rfl);(case hg=>rfl);(case hr=>first|(go_simp;done)|(go_simp;rfl));(case hp=>exact (acx (show Kd.FK k92 _ _ (⟨6,0,0,(⟨0,0,([]:List S90)⟩:S90),([]:List S92),([]:List S92)⟩:S92) [iV 6,iV 0,iV 0,iV 0,iV 0,.slice none 0 0,.slice none 0 0,.slice none 0 0] from (acw _ _ (⟨6,0,0,(⟨0,0,([]:List S90)⟩:S90),([]:List S92),([]:List S92)⟩:S92) (Nat.le_refl _) (F_nil _ _ _) (Nat.le_refl _) (F_nil _ _ _) (Nat.le_refl _) (F_nil _ _ _))) (aa9 _ _)));intro q8 sK fV hb hg_ hnew_;clear hg_ hnew_;replace fV:=kr eF fV;have lT:=aM (N_lower fV kU);replace HI0:=aM (Sab.below (qI HI0) hb);replace HK:=kY hb;replace HB:=kH hb;clear hb fV))
    go_ret
    exact⟨_,qW,by (with_reducible repeat (first|apply N_alloc|apply N_drewN|apply N_drew));exact N_mono lT.out (fun _ hk=>hk.1),qI HI0,qB,qH⟩
   obtain⟨⟨iF,lU⟩,q9,H⟩:=qE H
   try dsimp only at H
   obtain⟨⟨dJ,dK,dL,oz⟩,rf,H⟩:=qE H
   try dsimp only at H
   obtain⟨rq,eG⟩:=ky ((([(⟨7,0,0,(⟨dJ,dK,dL⟩:S90),([]:List S92),([]:List S92)⟩:S92)]:List S92)):List S92)
   replace H:=kv eG H
   obtain⟨rfl,rfl⟩:=oJ2 H
   go_wp2_with (first|((with_reducible refine jc 52 52 ?_);refine jK func52 (aab iE g af bi 3 iF lU w0 _ (qI HI0) qB q9.out) ?_;rintro sM ⟨hi,hb,hk⟩;replace HK:=aM (aa6.trans (w:=w) qH hk (.inl rfl));replace HB:=aM hb;replace HI0:=aM hi;clear hb hk hi)|((with_reducible refine jc 96 54 ?_);refine jM func96 (acD iE g af lU (wrap64 (1+iF)) dJ dK dL oz w0 _ (qI HI0) qB rf.out) ?_;rintro ry ru ⟨ho0,hi,hb,hk⟩;have eH:=aM (N_lower (N_mono (ok':=fun k_=>(w.heap.size<=k_)/\k_≠g) ho0 (fun k_ hk_=>⟨(Nat.le_trans kU hk_),(Sab.fresh (qI HI0) k_ hk_)⟩)) kU);replace HK:=aM (aa6.trans (w:=w) qH hk (.inl rfl));replace HB:=aM hb;replace HI0:=aM hi;clear hb hk hi;(try clear ho0);obtain⟨lV,lW,oC⟩:=N_slice eH.out;subst oC)|((with_reducible refine jd 56 ?_);refine N_lit k92 _ 92 ?hg (N':=56) ?hd (xs:=([(⟨7,0,0,(⟨dJ,dK,dL⟩:S90),([]:List S92),([]:List S92)⟩:S92)]:List S92)) (inner:=[iV 7,iV 0,iV 0,iV dJ,iV dK,.slice lV dL.length lW,.slice none 0 0,.slice none 0 0]) (ok:=(fun k_=>(w.heap.size<=k_)/\k_≠g)) (okp:=(fun k_=>(w.heap.size<=k_)/\k_≠g)) ?hr ?hp (fun _ hk=>hk) ((show ∀ k_,ru.heap.size<=k_->(fun k_=>(w.heap.size<=k_)/\k_≠g) k_ from fun k_ hk=>⟨(Nat.le_trans kU hk),Sab.fresh (qI HI0) k_ hk⟩) _ (Nat.le_refl _)) (Below.refl _ _) (Nat.le_refl _) (by simp) ?_;(case hd=>rfl);(case hg=>rfl);(case hr=>first|(go_simp;done)|(go_simp;rfl));(case hp=>exact (acx (show Kd.FK k92 _ _ (⟨7,0,0,(⟨dJ,dK,dL⟩:S90),([]:List S92),([]:List S92)⟩:S92) [iV 7,iV 0,iV 0,iV dJ,iV dK,.slice lV dL.length lW,.slice none 0 0,.slice none 0 0] from (acw _ _ (⟨7,0,0,(⟨dJ,dK,dL⟩:S90),([]:List S92),([]:List S92)⟩:S92) (N_reads' (N_mono (ok':=(fun k_=>(w.heap.size<=k_)/\k_≠g)) (eH.out) (fun k_ hk=>⟨hk.1,hk.2⟩))).2.1 (N_F (N_mono (ok':=(fun k_=>(w.heap.size<=k_)/\k_≠g)) (eH.out) (fun k_ hk=>⟨hk.1,hk.2⟩))) (Nat.le_refl _) (F_nil _ _ _) (Nat.le_refl _) (F_nil _ _ _))) (aa9 _ _)));intro rz sN fZ hb hg_ hnew_;clear hg_ hnew_;replace fZ:=kr eG fZ;have lX:=aM (N_lower fZ kU);replace HI0:=aM (Sab.below (qI HI0) hb);replace HK:=kY hb;replace HB:=kH hb;clear eH;clear hb fZ))
   go_ret
   exact⟨_,qW,by (with_reducible repeat (first|apply N_alloc|apply N_drewN|apply N_drew));exact N_mono lX.out (fun _ hk=>hk.1),qI HI0,qB,qH⟩
theorem Sbu.step (k:Nat) (ih:∀ m_,m_ < k->acQ m_) (aC:∀ m_,m_ < k->adt m_) (aJ:∀ m_,m_ < k->adv m_) (aD:∀ m_,m_ < k->adu m_):acQ k:=by
 intro g af ax a1 a2 a3 a4 r1 r2 w0 w hI hB h
 cases k with
 | zero=>exact absurd h (by simp [afi])
 | succ k =>
 simp only [afi] at h
 have HI0:=aM hI
 have HK:=aM (aaJ w g none)
 have HL:=aM hB.size
 clear hI
 have HW0:=aM hB.size
 have HB:=aM hB
 clear hB
 have H:(aed k a1 a2 a3 a4 (([]:List S92)) 0 af ax)=some (r1,r2):=h
 clear h
 obtain⟨oD,eO⟩:=ky ([]:List S92)
 replace H:=kv eO H
 have H':=aM H
 clear H
 go_enter func73,ntmps73
 go_wp2_with (first|((with_reducible refine jd 13 ?_);refine N_lit k92 _ 92 ?hg (N':=13) ?hd (xs:=([]:List S92)) (inner:=[]) (ok:=(fun k_=>(w.heap.size<=k_)/\k_≠g)) (okp:=(fun k_=>(w.heap.size<=k_)/\k_≠g)) ?hr ?hp (fun _ hk=>hk) ((show ∀ k_,w.heap.size<=k_->(fun k_=>(w.heap.size<=k_)/\k_≠g) k_ from fun k_ hk=>⟨(Nat.le_trans kU hk),Sab.fresh (qI HI0) k_ hk⟩) _ (Nat.le_refl _)) (Below.refl _ _) (Nat.le_refl _) (by simp) ?_;(case hd=>rfl);(case hg=>rfl);(case hr=>first|(go_simp;done)|(go_simp;rfl));(case hp=>exact (aa9 _ _));intro rA w6 lY hb hg_ hnew_;clear hg_ hnew_;replace lY:=kr eO lY;have lZ:=aM (N_lower lY kU);replace HI0:=aM (Sab.below (qI HI0) hb);replace HK:=kY hb;replace HB:=kH hb;clear hb lY))
 go_loopg [11,12] k (fun kq v11 v12 w'=>∃ (bN:List S92) (gm:Int) (bA:Int),v12 = iV gm/\aa1 (aed kq a1 a2 a3 a4 bN gm af bA=some (r1,r2))/\aa1 (kq<=k)/\aa1 (Kd.N k92 92 w' w.heap.size (fun k_=>(w.heap.size<=k_)/\k_≠g) v11 bN)/\aa1 (Sab w0 w' g af bA)/\aa1 (aa6 w w' g none)/\aa1 (Below w0.heap.size w0 w'))
 case atStart=>exact⟨(oD),(0),(ax),qZ,H',⟨Nat.le_refl _⟩,⟨qN lZ⟩,⟨qI HI0⟩,⟨qH⟩,⟨qB⟩⟩
 clear H'
 obtain⟨bN,gm,bA,rfl,HA,oF,bu,HI0,HK,HB⟩:=hrel
 rcases gk with _|k1
 ·exact absurd HA.out (by simp [aed])
 have H:=HA.out
 clear HA
 simp only [aed] at H
 replace H:=jD H;rcases H with ⟨bO,H⟩ | ⟨bO,H⟩
 ·obtain⟨⟨iG,oG⟩,A9,H⟩:=qE H
  try dsimp only at H
  replace H:=jL H;obtain⟨l8,H⟩:=H
  obtain⟨rC,gp⟩:=ky ((bN ++ iG):List S92)
  replace H:=kv gp H
  have H':=aM H
  clear H
  go_wp2_with (first|((with_reducible refine jc 82 24 ?_);refine jM func82 (aC k1 (by have:=oF.out;omega) g af bA a1 a2 a4 iG oG w0 _ (qI HI0) qB A9.out) ?_;rintro rE rD ⟨gF,hi,hb,hk⟩;have eP:=aM (N_lower (N_mono (ok':=fun k_=>(w.heap.size<=k_)/\some k_≠(u11:Value).ownBlock/\k_≠g) gF (fun k_ hk_=>⟨(Nat.le_trans kU hk_),(Kd.fresh' (N_lt (qN bu)) k_ hk_),(Sab.fresh (qI HI0) k_ hk_)⟩)) kU);replace bu:=aM (N_mono (N_told (N_oldK (N_mono (ok:=fun k_=>(((w.heap.size<=k_))/\k_≠g)) (qN bu) (fun k_ hk_=>(⟨hk_,hk_.2⟩:_/\k_≠g))) hk) (by first|exact N_base gF|exact R_base gF)) (fun _ h_=>h_.1));replace HK:=aM (aa6.trans (w:=w) qH hk (.inl rfl));replace HB:=aM hb;replace HI0:=aM hi;clear hb hk hi;(try clear gF);obtain⟨rF,rG,oH⟩:=N_slice eP.out;subst oH)|((with_reducible refine aaa (b:=.append) (xs:=#[.tmp 19,.tmp 24]) rfl ?_);at_builtin;refine N_append_rows k92 w.heap.size rfl (.tmp 19) (.tmp 24) 75 92 (.agg #[(iV 0),(iV 0),(iV 0),(iV 0),(iV 0),(.slice none 0 0),(.slice none 0 0),(.slice none 0 0)]) 112 rfl underlying75 akB rfl (by decide) (by omega) u11 bN iG _ _ _ (fun k_=>(w.heap.size<=k_)/\k_≠g) (fun k_=>((fun k_=>(w.heap.size<=k_)/\k_≠g)) k_/\some k_≠(u11:Value).ownBlock) rfl rfl ?aO ?aR (fun _ hk=>hk) ?aF (Below.refl _ _) ?aS ?aL ?_;(case aR=>exact (by skip;exact N_F (N_mono (ok':=(fun k_=>((fun k_=>(w.heap.size<=k_)/\k_≠g)) k_/\some k_≠(u11:Value).ownBlock)) (eP.out) (fun k_ hk=>⟨⟨hk.1,hk.2.2⟩,hk.2.1⟩))));(case aF=>exact (fun k_ hk=>⟨(Nat.le_trans kU hk),Sab.fresh (qI HI0) k_ hk⟩));(case aO=>exact (by (with_reducible repeat (first|apply N_alloc|apply N_drewN|apply N_drew));exact N_mono bu.out (fun _ hk=>⟨hk.1.1,hk.1.2⟩)));(case aS=>exact kU);(case aL=>have:=l8.out;omega);intro rH rJ ho hb hg hat;rw [<- gp.out] at ho;have l9:=aM ho;replace HI0:=aM (Sab.grown (qI HI0) hg (aiG HI0.out bu.out (by decide)));replace eP:=aM (N_afterv (ok:=(fun k_=>(w.heap.size<=k_)/\k_≠g)) (by (with_reducible repeat (first|apply N_alloc|apply N_drewN|apply N_drew));exact N_mono eP.out (fun _ hk=>⟨⟨hk.1,hk.2.2⟩,hk.2.1⟩)) hg hat);replace HB:=aM (abG qB HL.out hb);replace HK:=aM (aa6.trans (w:=w) qH (aaQ hg g) (N_base2 bu.out));clear bu;clear ho hb hg hat))
  go_roundg k1
  case measure=>have:=oF.out;omega
  exact⟨_,_,_,qZ,H',⟨by have:=oF.out;omega⟩,⟨qN l9⟩,⟨qI HI0⟩,⟨qH⟩,⟨qB⟩⟩
 obtain⟨rfl,rfl⟩:=oJ2 H
 go_wp2
 go_ret
 exact⟨_,qW,by (with_reducible repeat (first|apply N_alloc|apply N_drewN|apply N_drew));exact N_mono bu.out (fun _ hk=>hk.1),qI HI0,qB,qH⟩
theorem Sbv.grp.calls (k:Nat):adv k/\adu k/\adt k/\acQ k:=by
 induction k using Nat.strongRecOn with
 | _ k ih=>exact⟨Sbv.step k (fun m_ h_=>(ih m_ h_).2.2.2) (fun m_ h_=>(ih m_ h_).2.2.1) (fun m_ h_=>(ih m_ h_).1) (fun m_ h_=>(ih m_ h_).2.1),Sbw.step k (fun m_ h_=>(ih m_ h_).2.2.2) (fun m_ h_=>(ih m_ h_).2.2.1) (fun m_ h_=>(ih m_ h_).1) (fun m_ h_=>(ih m_ h_).2.1),Sby.step k (fun m_ h_=>(ih m_ h_).2.2.2) (fun m_ h_=>(ih m_ h_).2.2.1) (fun m_ h_=>(ih m_ h_).1) (fun m_ h_=>(ih m_ h_).2.1),Sbu.step k (fun m_ h_=>(ih m_ h_).2.2.2) (fun m_ h_=>(ih m_ h_).2.2.1) (fun m_ h_=>(ih m_ h_).1) (fun m_ h_=>(ih m_ h_).2.1)⟩
theorem al2 (k:Nat):acQ k:=(Sbv.grp.calls k).2.2.2
def aeW:Nat->List S92->List Int->Int->Option ((List S92) × Int)
 | 0,_,_,_=>none
 | k+1,x5,x1000,az=>(SaD.f k x5).bind fun ak=>(if ak > 16 then (if 0<=(wrap64 ((x5.length:Int) - 1)) then (if (wrap64 ((x5.length:Int) - 1))<=(x5.length:Int) then (aeW k (x5.take ((wrap64 ((x5.length:Int) - 1)):Int).toNat) x1000 az) else (none)) else (none)) else (some (x5,az)))
def akZ (k:Nat) (af:List Int) (aj a1:Int):Option ((List S92) × Int):=(aaZ k af aj 6).bind fun aA=>((afi k af aA.2 a1 3 (wrap64 (1+aA.1)) true).bind fun aB=>(aeW k aB.1 af aB.2))
theorem ahO (k g:Nat) (af:List Int) (aj a1:Int) (r1:List S92) (r2:Int) (w0 w:World) (hI:Sab w0 w g af aj) (hB:Below w0.heap.size w0 w) (h:akZ k af aj a1=some (r1,r2)) :
  Calls prog 63 #[.pointer (some ⟨g,0,none⟩),iV a1] w fun e w'=>∃ aX:Value,e = .returned (aX)/\Kd.N k92 92 w' w.heap.size (fun k_=>(w.heap.size<=k_)) aX r1/\Sab w0 w' g af r2/\Below w0.heap.size w0 w'/\aa6 w w' g none:=by
 have HI0:=aM hI
 have HK:=aM (aaJ w g none)
 have HL:=aM hB.size
 clear hI
 have HW0:=aM hB.size
 have HB:=aM hB
 clear hB
 have H:=h;unfold akZ at H
 clear h
 obtain⟨⟨aD,aG⟩,A3,H⟩:=qE H
 try dsimp only at H
 obtain⟨⟨aH,au⟩,A4,H⟩:=qE H
 try dsimp only at H
 have H':=aM H
 clear H
 go_enter func63,ntmps63
 go_wp2_with (first|((with_reducible refine jc 52 9 ?_);refine jK func52 (aab k g af aj 6 aD aG w0 _ (qI HI0) qB A3.out) ?_;rintro w5 ⟨hi,hb,hk⟩;replace HK:=kI hk;replace HB:=aM hb;replace HI0:=aM hi;clear hb hk hi)|((with_reducible refine jc 73 11 ?_);refine jM func73 (al2 k g af aG a1 3 (wrap64 (1+aD)) true aH au w0 _ (qI HI0) qB A4.out) ?_;rintro bv w6 ⟨ho0,hi,hb,hk⟩;have aI:=aM (N_lower (N_mono (ok':=fun k_=>(w.heap.size<=k_)/\k_≠g) ho0 (fun k_ hk_=>⟨(Nat.le_trans kU hk_),(Sab.fresh (qI HI0) k_ hk_)⟩)) kU);replace HK:=kI hk;replace HB:=aM hb;replace HI0:=aM hi;clear hb hk hi;(try clear ho0)))
 go_loopg [5] k (fun kq v5 w'=>∃ (aa:List S92),aa1 (aeW kq aa af au=some (r1,r2))/\aa1 (kq<=k)/\aa1 (Kd.N k92 92 w' w.heap.size (fun k_=>(w.heap.size<=k_)/\k_≠g) v5 aa)/\aa1 (Sab w0 w' g af au)/\aa1 (aa6 w w' g none)/\aa1 (Below w0.heap.size w0 w'))
 case atStart=>exact⟨(aH),H',⟨Nat.le_refl _⟩,⟨qN aI⟩,⟨qI HI0⟩,⟨qH⟩,⟨qB⟩⟩
 clear H'
 obtain⟨aa,HA,aY,ae,HI0,HK,HB⟩:=hrel
 rcases gk with _|k1
 ·exact absurd HA.out (by simp [aeW])
 have H:=HA.out
 clear HA
 simp only [aeW] at H
 obtain⟨ak,A7,H⟩:=qE H
 try dsimp only at H
 replace H:=jD H;rcases H with ⟨aP,H⟩ | ⟨aP,H⟩
 ·obtain⟨av,ax⟩:∃ j_:Int,(wrap64 ((aa.length:Int) - 1))=j_:=⟨_,rfl⟩
  replace H:(if 0<=(av) then (if (av)<=(aa.length:Int) then (aeW k1 (aa.take ((av):Int).toNat) af au) else (none)) else (none))=some (r1,r2):=by first|(rw [ax] at H;exact H)|(simp only [ax] at H ⊢;exact H)
  (try rw [ax] at A7)
  have aZ:(IntKind.i64.wrap ((aa.length:Int) - 1))=av:=(aas _).trans ax
  replace H:=jJ H;obtain⟨bg,bi,H⟩:=H
  replace H:=jJ H;obtain⟨bn,bq,H⟩:=H
  obtain⟨aQ,ai⟩:=ky ((aa.take ((av):Int).toNat):List S92)
  replace H:=kv ai H
  have H':=aM H
  clear H
  obtain⟨aJ,aK,aR⟩:=N_slice ae.out
  subst aR
  go_wp2_with (first|((with_reducible refine jc 74 13 ?_);refine jK func74 (SaD.calls k1 _ _ aa ak _ (kC (N_reads' ae.out).2.2) (N_reads' ae.out).2.1 A7.out) ?_;intro aS hb;replace ae:=aM (N_below (qN ae) hb);replace HI0:=aM (Sab.below (qI HI0) hb);replace HK:=kY hb;replace HB:=kH hb;clear hb;have aT:((av):Int)<=((aa.length:Int):Int):=qD;obtain⟨i014,aC,_,aL,_⟩:=info_parts akB;have aF:=api (P:=prog) 75 92 .i64 underlying75 aC aJ aa.length aK (av) (qD) aT (N_reads' ae.out).2.1;have ay:=N_take (m:=((av):Int).toNat) ae.out (by omega);have aN:aQ.length=((av):Int).toNat:=(by rw [ai.out,List.length_take];omega);rw [<- ai.out] at ay;rw [<- aN] at ay aF;clear aN aC aL ae;have aO:=aM ay;clear ay;replace aT:=eq_true aT))
  go_roundg k1
  case measure=>have:=aY.out;omega
  exact⟨_,H',⟨by have:=aY.out;omega⟩,⟨qN aO⟩,⟨qI HI0⟩,⟨qH⟩,⟨qB⟩⟩
 obtain⟨rfl,rfl⟩:=oJ2 H
 obtain⟨aU,aV,aW⟩:=N_slice ae.out
 subst aW
 go_wp2_with (first|((with_reducible refine jc 74 13 ?_);refine jK func74 (SaD.calls k1 _ _ aa ak _ (kC (N_reads' ae.out).2.2) (N_reads' ae.out).2.1 A7.out) ?_;intro aS hb;replace ae:=aM (N_below (qN ae) hb);replace HI0:=aM (Sab.below (qI HI0) hb);replace HK:=kY hb;replace HB:=kH hb;clear hb))
 go_ret
 exact⟨_,qW,by (with_reducible repeat (first|apply N_alloc|apply N_drewN|apply N_drew));exact N_mono ae.out (fun _ hk=>hk.1),qI HI0,qB,qH⟩
end Go.Proofs.YtebpplallecogaaGreat.M
namespace Go.Proofs.YtebpplallecogaaGreat.M
open Go.Proofs.Tryz Go.RowKit Go.Proofs.YtebpplallecogaaGreatW.PrintWords Go.Proofs.YtebpplallecogaaGreatW.PrintLast Go.Proofs.YtebpplallecogaaGreatW.PrintMore
attribute [local go_sem] aal aaj aaz aay aae aad aak aai
def af2:Nat->List S27->List ab3->Int->Bool->Int->Int->Int->Int->Int->Option (List Int)
 | 0,_,_,_,_,_,_,_,_,_=>none
 | k+1,x0,x1,x2,bJ,xa,xb,xc,xd,xe=>if bJ=true then ((afk k x0 x2).bind fun aP=>(some aP)) else (if 0<=xc then (if xc < (x1.length:Int) then (if ((aa8 x1 xc).f1)=0 then (some (([xe]:List Int))) else (some (([wrap64 (x2+1)]:List Int)))) else (none)) else (none))
def alE (k:Nat) (l0:List S27) (l1:List ab3) (a2:Int):Option (List Int):=if 0<=a2 then (if a2 < (l0.length:Int) then (if ((aa0 l0 a2).f0)=5 then (if 0<=((aa0 l0 a2).f2) then (if ((aa0 l0 a2).f2) < (l1.length:Int) then (af2 k l0 l1 a2 (((aa8 l1 ((aa0 l0 a2).f2)).f0) != 1) ((aa0 l0 a2).f0) ((aa0 l0 a2).f1) ((aa0 l0 a2).f2) ((aa0 l0 a2).f3) ((aa0 l0 a2).f4)) else (none)) else (none)) else (af2 k l0 l1 a2 true ((aa0 l0 a2).f0) ((aa0 l0 a2).f1) ((aa0 l0 a2).f2) ((aa0 l0 a2).f3) ((aa0 l0 a2).f4))) else (none)) else (none)
theorem alF (k:Nat) (A0:Option Addr) (c0:Nat) (l0:List S27) (A1:Option Addr) (c1:Nat) (l1:List ab3) (a2:Int) (r:List Int) (w:World) (hr0:Kd.C k27 w A0 l0.length l0) (hc0:l0.length<=c0) (hr1:Kd.C abk w A1 l1.length l1) (hc1:l1.length<=c1) (h:alE k l0 l1 a2=some r) :
  Calls prog 120 #[.slice A0 l0.length c0,.slice A1 l1.length c1,iV a2] w fun e w'=>∃ bD:Value,e = .returned (bD)/\Kd.R (Kd.int .i64) 3 w' w.heap.size (fun _=>True) bD r/\Below w.heap.size w w':=by
 have bL:=underlying27
 have bE:=aM hr0
 have bM:=aM hc0
 clear hr0 hc0
 have HR1:=aM hr1
 have bZ:=aM hc1
 clear hr1 hc1
 have HB:=jb_ w
 have H:=h;unfold alE at H
 clear h
 replace H:=jI H;obtain⟨bn,H⟩:=H
 replace H:=jI H;obtain⟨bq,H⟩:=H
 have bu:=aM H
 clear H
 obtain⟨aT,bv,aJ,aK,aL,aN,aO,bz,bA⟩:=aky bE a2
 cases bv
 go_enter func120,ntmps120
 go_upto_region 2 with (first|((with_reducible refine jd 7 ?_);refine jY _ 27 ?_;intro af hg w7 ag hb;have ay:=kG hg;replace HB:=kH hb;clear hb hg;have bN:=jz5 ag))
 (try simp only [Act.put,List.setIfInBounds_toArray,List.set_cons_zero,List.set_cons_succ])
 go_cut [23] (fun v23 wc=>∃ (kq:Nat) (aF:Bool),v23 = .bool aF/\aa1 (af2 kq l0 l1 a2 aF ((aa0 l0 a2).f0) ((aa0 l0 a2).f1) ((aa0 l0 a2).f2) ((aa0 l0 a2).f3) ((aa0 l0 a2).f4)=some r)/\aa1 (kq<=k)/\aa1 (wc.heap[af]?=some (.cells #[iV ((aa0 l0 a2).f0),iV ((aa0 l0 a2).f1),iV ((aa0 l0 a2).f2),iV ((aa0 l0 a2).f3),iV ((aa0 l0 a2).f4)] 27 (0,0)))/\aa1 (Below w.heap.size w wc))
 case first =>
  have H:=bu.out
  clear bu
  replace H:=jE H;rcases H with ⟨aG,bB,H⟩ | ⟨c9,aG,bB,H⟩
  ·(first|rw [aG]|(simp only [aas,aaw];rw [aG])|skip)
   replace H:=jI H;obtain⟨bF,H⟩:=H
   replace H:=jI H;obtain⟨bG,H⟩:=H
   have H':=aM H
   clear H
   have bO:=jz5 ag
   have aQ:0<=(((aa0 l0 a2).f2):Int):=qD
   have aR:((aa0 l0 a2).f2) < (l1.length:Int):=qD
   obtain⟨az,bC,aa,ae⟩:=aaW HR1.out ((aa0 l0 a2).f2) aQ aR
   cases bC
   have aj:az.block≠af:=kn aa ay
   have ak:az.block≠af:=kn aa ay
   have au:az.block≠af:=kn aa ay
   have av:az.block≠af:=kn aa ay
   have ax:az.block≠af:=kn aa ay
   replace aa:=kx HB aa
   replace ae:=kx HB ae
   replace aa:=(cell_far (p:=⟨af,0,none⟩) (kf (aj)) (iV ((aa0 l0 a2).f0))).trans aa
   replace ae:=(cell_far (p:=⟨af,0,none⟩) (kf (aj)) (iV ((aa0 l0 a2).f0))).trans ae
   replace aa:=(cell_far (p:=⟨af,1,none⟩) (kf (ak)) (iV ((aa0 l0 a2).f1))).trans aa
   replace ae:=(cell_far (p:=⟨af,1,none⟩) (kf (ak)) (iV ((aa0 l0 a2).f1))).trans ae
   replace aa:=(cell_far (p:=⟨af,2,none⟩) (kf (au)) (iV ((aa0 l0 a2).f2))).trans aa
   replace ae:=(cell_far (p:=⟨af,2,none⟩) (kf (au)) (iV ((aa0 l0 a2).f2))).trans ae
   replace aa:=(cell_far (p:=⟨af,3,none⟩) (kf (av)) (iV ((aa0 l0 a2).f3))).trans aa
   replace ae:=(cell_far (p:=⟨af,3,none⟩) (kf (av)) (iV ((aa0 l0 a2).f3))).trans ae
   replace aa:=(cell_far (p:=⟨af,4,none⟩) (kf (ax)) (iV ((aa0 l0 a2).f4))).trans aa
   replace ae:=(cell_far (p:=⟨af,4,none⟩) (kf (ax)) (iV ((aa0 l0 a2).f4))).trans ae
   clear aj
   clear ak
   clear au
   clear av
   clear ax
   replace aQ:=eq_true aQ
   replace aR:=eq_true aR
   go_wp2
   go_meet
   exact⟨_,((((aa8 l1 ((aa0 l0 a2).f2)).f0) != 1)),qZ,H',⟨by first|omega|exact Nat.le_refl _⟩,⟨qF ag⟩,⟨qB⟩⟩
  (first|rw [aG]|(simp only [aas,aaw];rw [aG])|skip)
  have H':=aM H
  clear H
  have bP:=jz5 ag
  go_wp2
  go_meet
  exact⟨_,(true),qZ,H',⟨by first|omega|exact Nat.le_refl _⟩,⟨qF ag⟩,⟨qB⟩⟩
 clear bu
 try clear c1;try clear bn;try clear bq;try clear bN;try clear aJ;try clear aK;try clear aL;try clear aN;try clear aO;try clear bz;try clear bA
 obtain⟨kq,aF,rfl,HA,cu,ag,HB⟩:=hcut
 cases kq with
 | zero=>exact absurd HA.out (by simp [af2])
 | succ bQ =>
  have H:=HA.out
  clear HA
  simp only [af2] at H
  replace H:=jB H;rcases H with ⟨rfl,H⟩ | ⟨rfl,H⟩
  ·obtain⟨aP,bR,H⟩:=qE H
   try dsimp only at H
   obtain rfl:=oJ H
   go_wp2_with (first|((with_reducible refine jc 55 26 ?_);refine jM func55 (aex bQ _ _ l0 a2 aP _ (kb bE HB) bM.out bR.out) ?_;rintro bS w16 ⟨ho0,hb⟩;have aW:=kL ho0;replace ag:=kB ag hb;replace HB:=kH hb;clear hb;(try clear ho0)))
   go_ret
   exact⟨_,qW,qR aW,qB⟩
  replace H:=jI H;obtain⟨bH,H⟩:=H
  replace H:=jI H;obtain⟨bI,H⟩:=H
  replace H:=jE H;rcases H with ⟨aX,aY,H⟩ | ⟨c19,aX,aY,H⟩
  ·obtain⟨bT,aC⟩:=ky ((([((aa0 l0 a2).f4)]:List Int)):List Int)
   replace H:=kv aC H
   obtain rfl:=oJ H
   have bU:=jz5 ag
   have aA:0<=(((aa0 l0 a2).f2):Int):=qD
   have aB:((aa0 l0 a2).f2) < (l1.length:Int):=qD
   obtain⟨aZ,aS,ah,ai⟩:=aaW HR1.out ((aa0 l0 a2).f2) aA aB
   cases aS
   replace ah:=kx HB ah
   replace ai:=kx HB ai
   replace aA:=eq_true aA
   replace aB:=eq_true aB
   go_wp2_with (first|((with_reducible refine jd 36 ?_);refine jV (Kd.int .i64) 3 ([((aa0 l0 a2).f4)]:List Int) [iV ((aa0 l0 a2).f4)] (aax.one (show Kd.M (Kd.int .i64) _ _ _ ((aa0 l0 a2).f4) [iV ((aa0 l0 a2).f4)] from rfl) (aa9 _ _)) ?_;intro bV cz aH hb;replace aH:=kr aC aH;have bg:=kL aH;replace ag:=kB ag hb;replace HB:=kH hb;clear hb aH))
   go_ret
   exact⟨_,qW,qR bg,qB⟩
  obtain⟨bW,aD⟩:=ky ((([wrap64 (a2+1)]:List Int)):List Int)
  replace H:=kv aD H
  obtain rfl:=oJ H
  have bX:=jz5 ag
  have aA:0<=(((aa0 l0 a2).f2):Int):=qD
  have aB:((aa0 l0 a2).f2) < (l1.length:Int):=qD
  obtain⟨aZ,aS,ah,ai⟩:=aaW HR1.out ((aa0 l0 a2).f2) aA aB
  cases aS
  replace ah:=kx HB ah
  replace ai:=kx HB ai
  replace aA:=eq_true aA
  replace aB:=eq_true aB
  go_wp2_with (first|((with_reducible refine jd 39 ?_);refine jV (Kd.int .i64) 3 ([wrap64 (a2+1)]:List Int) [iV (wrap64 (a2+1))] (aax.one (show Kd.M (Kd.int .i64) _ _ _ (wrap64 (a2+1)) [iV (wrap64 (a2+1))] from rfl) (aa9 _ _)) ?_;intro bY cB aI hb;replace aI:=kr aD aI;have bi:=kL aI;replace ag:=kB ag hb;replace HB:=kH hb;clear hb aI))
  go_ret
  exact⟨_,qW,qR bi,qB⟩
def anb (a0:Bool):Option (Int):=if a0=true then (some 1) else (some 0)
theorem ai2 (a0:Bool) (r:Int) (w:World) (h:anb a0=some r) :
  Calls prog 130 #[.bool a0] w fun e w'=>e = .returned (iV r)/\aaD w w':=by
 have H:(if a0=true then (some 1) else (some 0))=some r:=h
 clear h
 replace H:=jB H;rcases H with ⟨rfl,H⟩ | ⟨rfl,H⟩
 ·obtain rfl:=oJ H
  go_enter func130,ntmps130
  go_wp2
  go_ret
  exact⟨qZ,qU⟩
 obtain rfl:=oJ H
 go_enter func130,ntmps130
 go_wp2
 go_ret
 exact⟨qZ,qU⟩
def amc (a0 a1:Int) (a2:Bool):Option (Int):=if a2=true then (if 0<=(Go.bits .and .i64 a1 31) then (some (shr .i64 a0 (Go.bits .and .i64 a1 31))) else (none)) else (if 0<=(Go.bits .and .i64 a1 31) then ((aeQ (shl .i64 a0 (Go.bits .and .i64 a1 31))).bind fun ae=>(some ae)) else (none))
theorem SaS.calls (a0 a1:Int) (a2:Bool) (r:Int) (w:World) (h:amc a0 a1 a2=some r) :
  Calls prog 131 #[iV a0,iV a1,.bool a2] w fun e w'=>e = .returned (iV r)/\aaD w w':=by
 have H:=h;unfold amc at H
 clear h
 replace H:=jB H;rcases H with ⟨rfl,H⟩ | ⟨rfl,H⟩
 ·replace H:=jJ H;obtain⟨ay,az,H⟩:=H
  obtain⟨aj,af⟩:∃ j_:Int,(shr .i64 a0 (Go.bits .and .i64 a1 31))=j_:=⟨_,rfl⟩
  replace H:(some aj)=some r:=by first|(rw [af] at H;exact H)|(simp only [af] at H ⊢;exact H)
  have ak:(a0 / 2 ^ min (Go.bits .and .i64 a1 31).toNat 64)=aj:=af
  have au:(Go.bits .and .i64 a1 31)<=64->(a0 / 2 ^ (Go.bits .and .i64 a1 31).toNat)=aj:=ahu af
  obtain rfl:=oJ H
  go_enter func131,ntmps131
  go_wp2
  go_ret
  exact⟨by first|rfl|(simp;done)|(simp only [<- af] <;> (first|rfl|simp))|(simp [*];done),by repeat (first|exact aaO _|apply aaD.step)⟩
 replace H:=jJ H;obtain⟨aA,aB,H⟩:=H
 obtain⟨ag,aa⟩:∃ j_:Int,(shl .i64 a0 (Go.bits .and .i64 a1 31))=j_:=⟨_,rfl⟩
 replace H:((aeQ (ag)).bind fun ae=>(some ae))=some r:=by first|(rw [aa] at H;exact H)|(simp only [aa] at H ⊢;exact H)
 have ah:(IntKind.i64.wrap (a0*2 ^ min (Go.bits .and .i64 a1 31).toNat 64))=ag:=aa
 have ai:(Go.bits .and .i64 a1 31)<=64->(IntKind.i64.wrap (a0*2 ^ (Go.bits .and .i64 a1 31).toNat))=ag:=ad4 aa
 have av:(wrap64 (a0*2 ^ min (Go.bits .and .i64 a1 31).toNat 64))=ag:=(aas _).symm.trans ah
 have ax:(Go.bits .and .i64 a1 31)<=64->(wrap64 (a0*2 ^ (Go.bits .and .i64 a1 31).toNat))=ag:=fun h_=>(aas _).symm.trans (ai h_)
 obtain⟨ae,A9,H⟩:=qE H
 try dsimp only at H
 obtain rfl:=oJ H
 go_enter func131,ntmps131
 go_wp2_with (first|((with_reducible refine ac8 (f:=87) rfl ?_);refine ae6 (some 16) rfl rfl func87 (by kernel_rfl) rfl #[iV ag] rfl (by (try simp only [List.map_toArray,List.map_cons,List.map_nil]);first|done|(simp only [aa];rfl)|rfl|(simp only [List.length_drop,List.length_take];rfl)) ?_;(with_reducible refine (SaA.calls ag ae _ A9.out).mono ?_);rintro e w' ⟨rfl,⟨nd,rfl⟩⟩;refine⟨_,rfl,?_⟩))
 go_ret
 exact⟨by first|rfl|(simp;done)|(simp only [<- aa] <;> (first|rfl|simp))|(simp [*];done),by repeat (first|exact aaO _|apply aaD.step)⟩
def anc (a0 a1:Int):Option (Int):=if a1=0 then (some (-1)) else ((aeQ (wrap64 (Int.tdiv a0 a1))).bind fun aa=>(some aa))
theorem ame (a0 a1 r:Int) (w:World) (h:anc a0 a1=some r) :
  Calls prog 132 #[iV a0,iV a1] w fun e w'=>e = .returned (iV r)/\aaD w w':=by
 have H:=h;unfold anc at H
 clear h
 replace H:=jE H;rcases H with ⟨ae,af,H⟩ | ⟨c3,ae,af,H⟩
 ·obtain rfl:=oJ H
  go_enter func132,ntmps132
  go_wp2
  go_ret
  exact⟨qZ,qU⟩
 obtain⟨aa,A4,H⟩:=qE H
 try dsimp only at H
 obtain rfl:=oJ H
 go_enter func132,ntmps132
 go_wp2_with (first|((with_reducible refine jc 87 10 ?_);refine jG func87 #[iV (wrap64 (Int.tdiv a0 a1))] ?_;refine (SaA.calls _ _ _ (aa1.out (by assumption))).mono ?_;rintro e w' ⟨rfl,⟨nd,rfl⟩⟩;refine⟨_,rfl,?_⟩))
 go_ret
 exact⟨qZ,qU⟩
def aoL (a0 a1:Int):Option (Int):=if a1=0 then (some a0) else (some (Int.tmod a0 a1))
theorem amd (a0 a1 r:Int) (w:World) (h:aoL a0 a1=some r) :
  Calls prog 133 #[iV a0,iV a1] w fun e w'=>e = .returned (iV r)/\aaD w w':=by
 have H:(if a1=0 then (some a0) else (some (Int.tmod a0 a1)))=some r:=h
 clear h
 replace H:=jE H;rcases H with ⟨aa,ae,H⟩ | ⟨c3,aa,ae,H⟩
 ·obtain rfl:=oJ H
  go_enter func133,ntmps133
  go_wp2
  go_ret
  exact⟨qZ,qU⟩
 obtain rfl:=oJ H
 go_enter func133,ntmps133
 go_wp2
 go_ret
 exact⟨qZ,qU⟩
def ag2:Nat->Int->Int->Int->Bool->Option (Int × Bool)
 | 0,_,_,_,_=>none
 | k+1,x0,x1,x2,x20=>if x20=true then (some (0,false)) else (if x0=1 then (some (Go.bits .or .i64 x1 x2,true)) else (if x0=2 then (some (Go.bits .xor .i64 x1 x2,true)) else (if x0=3 then (some (Go.bits .and .i64 x1 x2,true)) else (if x0=4 then ((anb (x1 == x2)).bind fun ae=>(some (ae,true))) else (if x0=5 then ((anb (decide (x1 < x2))).bind fun af=>(some (af,true))) else (if x0=6 then ((amc x1 x2 false).bind fun ag=>(some (ag,true))) else (if x0=7 then ((amc x1 x2 true).bind fun ah=>(some (ah,true))) else (if x0=8 then ((aeQ (wrap64 (x1+x2))).bind fun ai=>(some (ai,true))) else (if x0=9 then ((aeQ (wrap64 (x1 - x2))).bind fun aj=>(some (aj,true))) else (if x0=10 then ((aeQ (wrap64 (x1*x2))).bind fun ak=>(some (ak,true))) else (if x0=11 then ((anc x1 x2).bind fun au=>(some (au,true))) else ((aoL x1 x2).bind fun av=>(some (av,true))))))))))))))
def am4 (k:Nat) (a0 a1 a2:Int):Option (Int × Bool):=(aiC a0).bind fun ax=>(if ax=true then ((aiz a1).bind fun ay=>(if ay=true then ((aiz a2).bind fun az=>(ag2 k a0 a1 a2 (!az))) else (ag2 k a0 a1 a2 true))) else (ag2 k a0 a1 a2 true))
theorem aho {G:Prop} (h:G:=by
  go_wp2_with (first|((with_reducible refine jc 130 42 ?_);refine jG func130 #[.bool (a1 == a2)] ?_;refine (ai2 _ _ _ (aa1.out (by assumption))).mono ?_;rintro e w' ⟨rfl,⟨nd,rfl⟩⟩;refine⟨_,rfl,?_⟩)|((with_reducible refine jc 130 48 ?_);refine jG func130 #[.bool (decide (a1 < a2))] ?_;refine (ai2 _ _ _ (aa1.out (by assumption))).mono ?_;rintro e w' ⟨rfl,⟨nd,rfl⟩⟩;refine⟨_,rfl,?_⟩)|((with_reducible refine jc 131 53 ?_);refine jG func131 #[iV a1,iV a2,.bool false] ?_;refine (SaS.calls _ _ _ _ _ (aa1.out (by assumption))).mono ?_;rintro e w' ⟨rfl,⟨nd,rfl⟩⟩;refine⟨_,rfl,?_⟩)|((with_reducible refine jc 131 58 ?_);refine jG func131 #[iV a1,iV a2,.bool true] ?_;refine (SaS.calls _ _ _ _ _ (aa1.out (by assumption))).mono ?_;rintro e w' ⟨rfl,⟨nd,rfl⟩⟩;refine⟨_,rfl,?_⟩)|((with_reducible refine jc 87 64 ?_);refine jG func87 #[iV (wrap64 (a1+a2))] ?_;refine (SaA.calls _ _ _ (aa1.out (by assumption))).mono ?_;rintro e w' ⟨rfl,⟨nd,rfl⟩⟩;refine⟨_,rfl,?_⟩)|((with_reducible refine jc 87 70 ?_);refine jG func87 #[iV (wrap64 (a1 - a2))] ?_;refine (SaA.calls _ _ _ (aa1.out (by assumption))).mono ?_;rintro e w' ⟨rfl,⟨nd,rfl⟩⟩;refine⟨_,rfl,?_⟩)|((with_reducible refine jc 87 76 ?_);refine jG func87 #[iV (wrap64 (a1*a2))] ?_;refine (SaA.calls _ _ _ (aa1.out (by assumption))).mono ?_;rintro e w' ⟨rfl,⟨nd,rfl⟩⟩;refine⟨_,rfl,?_⟩)|((with_reducible refine jc 132 81 ?_);refine jG func132 #[iV a1,iV a2] ?_;refine (ame _ _ _ _ (aa1.out (by assumption))).mono ?_;rintro e w' ⟨rfl,⟨nd,rfl⟩⟩;refine⟨_,rfl,?_⟩)|((with_reducible refine jc 133 84 ?_);refine jG func133 #[iV a1,iV a2] ?_;refine (amd _ _ _ _ (aa1.out (by assumption))).mono ?_;rintro e w' ⟨rfl,⟨nd,rfl⟩⟩;refine⟨_,rfl,?_⟩))
  go_ret2
  exact⟨qZ,qU⟩):G:=h
theorem aoK {G:Prop} (h:G:=by
  go_wp2_with (first|((with_reducible refine jc 67 9 ?_);refine jG func67 #[iV a0] ?_;refine (acg _ _ _ (aa1.out (by assumption))).mono ?_;rintro e w' ⟨rfl,⟨nd,rfl⟩⟩;refine⟨_,rfl,?_⟩)|(go_at_call 66;(with_reducible refine (ahX _ _ _ (aa1.out (by assumption))).mono ?_);rintro e w' ⟨rfl,⟨nd,rfl⟩⟩))
  go_meet
  exact⟨_,_,qZ,H',⟨by first|omega|exact Nat.le_refl _⟩,by repeat (first|exact aaO _|apply aaD.step)⟩):G:=h
theorem Sae.calls (k:Nat) (a0 a1 a2 r1:Int) (r2:Bool) (w:World) (h:am4 k a0 a1 a2=some (r1,r2)) :
  Calls prog 128 #[iV a0,iV a1,iV a2] w fun e w'=>e = .returned (.tuple #[iV r1,.bool r2])/\aaD w w':=by
 have H:=h;unfold am4 at H
 clear h
 have aY:=aM H
 clear H
 go_enter func128,ntmps128
 go_upto_region 1 with (fail)
 go_cut [20] (fun v20 wc=>∃ (kq:Nat) (aa:Bool),v20 = .bool aa/\aa1 (ag2 kq a0 a1 a2 aa=some (r1,r2))/\aa1 (kq<=k)/\aaD w wc)
 case first =>
  have H:=aY.out
  clear aY
  obtain⟨ax,A5,H⟩:=qE H
  try dsimp only at H
  replace H:=jB H;rcases H with ⟨rfl,H⟩ | ⟨rfl,H⟩
  ·obtain⟨ay,A7,H⟩:=qE H
   try dsimp only at H
   replace H:=jB H;rcases H with ⟨rfl,H⟩ | ⟨rfl,H⟩
   ·obtain⟨az,A9,H⟩:=qE H
    try dsimp only at H
    have H':=aM H
    clear H
    exact aoK
   have H':=aM H
   clear H
   exact aoK
  have H':=aM H
  clear H
  exact aoK
 clear aY
 obtain⟨kq,aa,rfl,HA,bg,⟨bi,rfl⟩⟩:=hcut
 cases kq with
 | zero=>exact absurd HA.out (by simp [ag2])
 | succ bn =>
  have H:=HA.out
  clear HA
  simp only [ag2] at H
  replace H:=jB H;rcases H with ⟨rfl,H⟩ | ⟨rfl,H⟩
  ·obtain⟨rfl,rfl⟩:=oJ2 H
   go_wp2
   go_ret2
   exact⟨qZ,qU⟩
  replace H:=jE H;rcases H with ⟨aA,aB,H⟩ | ⟨c11,aA,aB,H⟩
  ·obtain⟨rfl,rfl⟩:=oJ2 H
   go_wp2
   go_ret2
   exact⟨qZ,qU⟩
  replace H:=jE H;rcases H with ⟨aC,aD,H⟩ | ⟨c12,aC,aD,H⟩
  ·obtain⟨rfl,rfl⟩:=oJ2 H
   go_wp2
   go_ret2
   exact⟨qZ,qU⟩
  replace H:=jE H;rcases H with ⟨aF,aG,H⟩ | ⟨c13,aF,aG,H⟩
  ·obtain⟨rfl,rfl⟩:=oJ2 H
   go_wp2
   go_ret2
   exact⟨qZ,qU⟩
  replace H:=jE H;rcases H with ⟨aH,aI,H⟩ | ⟨c14,aH,aI,H⟩
  ·obtain⟨ae,bq,H⟩:=qE H
   try dsimp only at H
   obtain⟨rfl,rfl⟩:=oJ2 H
   exact aho
  replace H:=jE H;rcases H with ⟨aJ,aK,H⟩ | ⟨c16,aJ,aK,H⟩
  ·obtain⟨af,bu,H⟩:=qE H
   try dsimp only at H
   obtain⟨rfl,rfl⟩:=oJ2 H
   exact aho
  replace H:=jE H;rcases H with ⟨aL,aN,H⟩ | ⟨c18,aL,aN,H⟩
  ·obtain⟨ag,bv,H⟩:=qE H
   try dsimp only at H
   obtain⟨rfl,rfl⟩:=oJ2 H
   exact aho
  replace H:=jE H;rcases H with ⟨aO,aP,H⟩ | ⟨c20,aO,aP,H⟩
  ·obtain⟨ah,bz,H⟩:=qE H
   try dsimp only at H
   obtain⟨rfl,rfl⟩:=oJ2 H
   exact aho
  replace H:=jE H;rcases H with ⟨aQ,aR,H⟩ | ⟨bA,aQ,aR,H⟩
  ·obtain⟨ai,bB,H⟩:=qE H
   try dsimp only at H
   obtain⟨rfl,rfl⟩:=oJ2 H
   exact aho
  replace H:=jE H;rcases H with ⟨aS,aT,H⟩ | ⟨c24,aS,aT,H⟩
  ·obtain⟨aj,bC,H⟩:=qE H
   try dsimp only at H
   obtain⟨rfl,rfl⟩:=oJ2 H
   exact aho
  replace H:=jE H;rcases H with ⟨aU,aV,H⟩ | ⟨bD,aU,aV,H⟩
  ·obtain⟨ak,bE,H⟩:=qE H
   try dsimp only at H
   obtain⟨rfl,rfl⟩:=oJ2 H
   exact aho
  replace H:=jE H;rcases H with ⟨aW,aX,H⟩ | ⟨c28,aW,aX,H⟩
  ·obtain⟨au,bF,H⟩:=qE H
   try dsimp only at H
   obtain⟨rfl,rfl⟩:=oJ2 H
   exact aho
  obtain⟨av,bG,H⟩:=qE H
  try dsimp only at H
  obtain⟨rfl,rfl⟩:=oJ2 H
  exact aho
def ajL (k:Nat) (aP aQ aR aS aG aJ aH aK aI:Int):Option (Int × Int):=if aJ=1 then (if aK=1 then ((am4 k aG aH aI).bind fun aX=>(some (1,aX.1))) else (some (2,0))) else (some (2,0))
theorem afX (k:Nat) (aP aQ aR aS aG aJ aH aK aI r1 r2:Int) (w:World) (h:ajL k aP aQ aR aS aG aJ aH aK aI=some (r1,r2)) :
  Calls prog 123 #[.agg #[iV aP,iV aQ,iV aR,iV aS,iV aG],.agg #[iV aJ,iV aH],.agg #[iV aK,iV aI]] w fun e w'=>e = .returned (.agg #[iV r1,iV r2])/\Below w.heap.size w w':=by
 have bU:=underlying27
 have bO:=underlying118
 have HB:=jb_ w
 have H:=h;unfold ajL at H
 clear h
 replace H:=jE H;rcases H with ⟨bG,bH,H⟩ | ⟨c4,bG,bH,H⟩
 ·replace H:=jE H;rcases H with ⟨bI,bJ,H⟩ | ⟨c5,bI,bJ,H⟩
  ·obtain⟨⟨bK,bV⟩,A6,H⟩:=qE H
   try dsimp only at H
   obtain⟨rfl,rfl⟩:=oJ2 H
   go_enter func123,ntmps123
   go_wp2_with (first|((with_reducible refine jd 3 ?_);refine jY _ 27 ?_;intro aL hg aY aa hb;have aT:=kG hg;replace HB:=kH hb;clear hb hg)|((with_reducible refine jd 4 ?_);refine jY _ 118 ?_;intro aN hg aZ ae hb;have aU:=kG hg;have ag:=kN hg aa;have ah:=kM hg aa;replace aa:=kB aa hb;replace HB:=kH hb;clear hb hg)|((with_reducible refine jd 5 ?_);refine jY _ 118 ?_;intro aO hg bg af hb;have aV:=kG hg;have aB:=kN hg aa;have aC:=kM hg aa;have ai:=kN hg ae;have aj:=kM hg ae;replace aa:=kB aa hb;replace ae:=kB ae hb;replace HB:=kH hb;clear hb hg)|((with_reducible refine jd 6 ?_);refine jY _ 118 ?_;intro aF hg aD aA hb;have aW:=kG hg;have ak:=kN hg aa;have au:=kM hg aa;have av:=kN hg ae;have ax:=kM hg ae;have ay:=kN hg af;have az:=kM hg af;replace aa:=kB aa hb;replace ae:=kB ae hb;replace af:=kB af hb;replace HB:=kH hb;clear hb hg;have bi:=ah.out;have bn:=ag.out;have bq:=ai.out;have bu:=aj.out;have bv:=av.out;have bz:=ax.out;have bA:=jz2 ae;have bB:=aC.out;have bC:=aB.out;have bD:=ay.out;have bE:=az.out;have bF:=jz2 af;have bL:=ak.out;have bM:=au.out;have bN:=jz5 aa)|((with_reducible refine jc 128 25 ?_);refine jG func128 #[iV aG,iV aH,iV aI] ?_;refine (Sae.calls _ _ _ _ _ _ _ (aa1.out (by assumption))).mono ?_;rintro e w' ⟨rfl,⟨nd,rfl⟩⟩;refine⟨_,rfl,?_⟩;(try (rw [abm aD];generalize hq_:World.drewN aD _=aD;have bP:aa1 (aD.heap[aL]?=some (.cells #[iV aP,iV aQ,iV aR,iV aS,iV aG] 27 (0,0))):=⟨by rw [<- hq_];exact (qK aa)⟩;have bQ:aa1 (aD.heap[aN]?=some (.cells #[iV aJ,iV aH] 118 (0,0))):=⟨by rw [<- hq_];exact (qK ae)⟩;have bR:aa1 (aD.heap[aO]?=some (.cells #[iV aK,iV aI] 118 (0,0))):=⟨by rw [<- hq_];exact (qK af)⟩;have bS:aa1 (aD.heap[aF]?=some (.cells #[iV 0,iV 0] 118 (0,0))):=⟨by rw [<- hq_];exact (qK aA)⟩;have bT:aa1 (Below w.heap.size w aD):=⟨by rw [<- hq_];exact qB⟩;clear aa ae af aA HB hq_;have aa:=bP;have ae:=bQ;have af:=bR;have aA:=bS;have HB:=bT;clear bP bQ bR bS bT));have bW:=jz2 aA))
   refine bodyPost_ret (results_cell_row rfl _ _ aF 118 #[iV 1,iV bK] (0,0) _ rfl (qF aA) underlying118 rfl (by kernel_rfl)) rfl ?_
   exact⟨qW,qB⟩
  obtain⟨rfl,rfl⟩:=oJ2 H
  go_enter func123,ntmps123
  go_wp2_with (first|((with_reducible refine jd 3 ?_);refine jY _ 27 ?_;intro aL hg aY aa hb;have aT:=kG hg;replace HB:=kH hb;clear hb hg)|((with_reducible refine jd 4 ?_);refine jY _ 118 ?_;intro aN hg aZ ae hb;have aU:=kG hg;have ag:=kN hg aa;have ah:=kM hg aa;replace aa:=kB aa hb;replace HB:=kH hb;clear hb hg)|((with_reducible refine jd 5 ?_);refine jY _ 118 ?_;intro aO hg bg af hb;have aV:=kG hg;have aB:=kN hg aa;have aC:=kM hg aa;have ai:=kN hg ae;have aj:=kM hg ae;replace aa:=kB aa hb;replace ae:=kB ae hb;replace HB:=kH hb;clear hb hg)|((with_reducible refine jd 6 ?_);refine jY _ 118 ?_;intro aF hg aD aA hb;have aW:=kG hg;have ak:=kN hg aa;have au:=kM hg aa;have av:=kN hg ae;have ax:=kM hg ae;have ay:=kN hg af;have az:=kM hg af;replace aa:=kB aa hb;replace ae:=kB ae hb;replace af:=kB af hb;replace HB:=kH hb;clear hb hg;have bi:=ah.out;have bn:=ag.out;have bq:=ai.out;have bu:=aj.out;have bv:=av.out;have bz:=ax.out;have bA:=jz2 ae;have bB:=aC.out;have bC:=aB.out;have bD:=ay.out;have bE:=az.out;have bF:=jz2 af;have bL:=au.out;have bM:=ak.out;have bN:=jz2 aA))
  refine bodyPost_ret (results_cell_row rfl _ _ aF 118 #[iV 2,iV 0] (0,0) _ rfl (qF aA) underlying118 rfl (by kernel_rfl)) rfl ?_
  exact⟨qW,qB⟩
 obtain⟨rfl,rfl⟩:=oJ2 H
 go_enter func123,ntmps123
 go_wp2_with (first|((with_reducible refine jd 3 ?_);refine jY _ 27 ?_;intro aL hg aY aa hb;have aT:=kG hg;replace HB:=kH hb;clear hb hg)|((with_reducible refine jd 4 ?_);refine jY _ 118 ?_;intro aN hg aZ ae hb;have aU:=kG hg;have ag:=kN hg aa;have ah:=kM hg aa;replace aa:=kB aa hb;replace HB:=kH hb;clear hb hg)|((with_reducible refine jd 5 ?_);refine jY _ 118 ?_;intro aO hg bg af hb;have aV:=kG hg;have aB:=kN hg aa;have aC:=kM hg aa;have ai:=kN hg ae;have aj:=kM hg ae;replace aa:=kB aa hb;replace ae:=kB ae hb;replace HB:=kH hb;clear hb hg)|((with_reducible refine jd 6 ?_);refine jY _ 118 ?_;intro aF hg aD aA hb;have aW:=kG hg;have ak:=kN hg aa;have au:=kM hg aa;have av:=kN hg ae;have ax:=kM hg ae;have ay:=kN hg af;have az:=kM hg af;replace aa:=kB aa hb;replace ae:=kB ae hb;replace af:=kB af hb;replace HB:=kH hb;clear hb hg;have bi:=ah.out;have bn:=ag.out;have bq:=ai.out;have bu:=aj.out;have bv:=av.out;have bz:=ax.out;have bA:=jz2 ae;have bB:=au.out;have bC:=ak.out;have bD:=az.out;have bE:=ay.out;have bF:=jz2 aA))
 refine bodyPost_ret (results_cell_row rfl _ _ aF 118 #[iV 2,iV 0] (0,0) _ rfl (qF aA) underlying118 rfl (by kernel_rfl)) rfl ?_
 exact⟨qW,qB⟩
end Go.Proofs.YtebpplallecogaaGreat.M
namespace Go.Proofs.YtebpplallecogaaGreat.M
open Go.Proofs.Tryz Go.RowKit Go.Proofs.YtebpplallecogaaGreatW.PrintWords Go.Proofs.YtebpplallecogaaGreatW.PrintLast Go.Proofs.YtebpplallecogaaGreatW.PrintMore Kd
attribute [local go_sem] aal aaj aaz aay aae aad aak aai
def alP (k:Nat) (av ae ag aj au:Int) (l1:List ab3):Option ((List ab3)):=(some (([]:List ab3):List ab3)).bind fun aK=>(if aK.length+l1.length < 8796093022208 then ((some (aK ++ l1:List ab3)).bind fun ah=>(if av=1 then (if 0<=ae then (if ae < (ah.length:Int) then (some (ah.set (ae:Int).toNat (⟨1,au⟩:ab3))) else (none)) else (none)) else (if av=2 then (if 0<=ag then (if ag < (l1.length:Int) then (if 0<=ae then (if ae < (ah.length:Int) then (some (ah.set (ae:Int).toNat (⟨(aa8 l1 ag).f0,(aa8 l1 ag).f1⟩:ab3))) else (none)) else (none)) else (none)) else (none)) else (if av=7 then (if 0<=ae then (if ae < (ah.length:Int) then (some (ah.set (ae:Int).toNat (⟨2,0⟩:ab3))) else (none)) else (none)) else (if av=3 then (if 0<=ag then (if ag < (l1.length:Int) then (if 0<=aj then (if aj < (l1.length:Int) then ((ajL k av ae ag aj au ((aa8 l1 ag).f0) ((aa8 l1 ag).f1) ((aa8 l1 aj).f0) ((aa8 l1 aj).f1)).bind fun bT=>(if 0<=ae then (if ae < (ah.length:Int) then (some (ah.set (ae:Int).toNat (⟨bT.1,bT.2⟩:ab3))) else (none)) else (none))) else (none)) else (none)) else (none)) else (none)) else (some ah)))))) else (none))
def anQ:Bool × List (List Nat × List Nat):=(true,[([],[]),([],[]),([1],[1]),([],[]),([],[]),([4],[4]),([3,5],[3,5]),([6],[6]),([0,2,0,1,2,3,4,5,6,7],[0,2]),([8,7,0,1,2,3,4,5,6,7],[7,8])])
def apS:List Nat:=[0,0,2,0,0,16,56,120,255,511]
theorem an5:acz .any (opsOf f121 6)=anQ:=by kernel_rfl
theorem alR:ab9 anQ.2 apS=true:=by kernel_rfl
def alS:Bool × List (List Nat × List Nat):=(true,[([],[]),([],[]),([1],[1]),([],[]),([],[]),([],[]),([5],[5]),([4,6],[4,6]),([7],[7]),([],[]),([],[]),([10],[10]),([9,11],[9,11]),([12],[12]),([3,8,13],[3,8,13]),([0,2,0,1,2,3,4,5,6,7,8,9,10,11,12,13,14],[0,2]),([15,14,14,0,1,2,3,4,5,6,7,8,9,10,11,12,13,14],[14,15])])
def aoH:List Nat:=[0,0,2,0,0,0,32,112,240,0,0,1024,3584,7680,16376,32767,65535]
theorem alO:acz .any (opsOf f121 10)=alS:=by kernel_rfl
theorem ajM:ab9 alS.2 aoH=true:=by kernel_rfl
theorem alQ (k:Nat) (av ae ag aj au:Int) (A1:Option Addr) (c1:Nat) (l1 r:List ab3) (w:World) (hr1:Kd.C abk w A1 l1.length l1) (hc1:l1.length<=c1) (h:alP k av ae ag aj au l1=some r) :
  Calls prog 121 #[.agg #[iV av,iV ae,iV ag,iV aj,iV au],.slice A1 l1.length c1] w fun e w'=>∃ gJ:Value,e = .returned (gJ)/\Kd.R abk 118 w' w.heap.size (fun _=>True) gJ r/\Below w.heap.size w w':=by
 have iC:=underlying27
 have gK:=underlying118
 have HR1:=aM hr1
 have jk:=aM hc1
 clear hr1 hc1
 have HB:=jb_ w
 have H:=h;unfold alP at H
 clear h
 obtain⟨aK,ax⟩:=ky ([]:List ab3)
 replace H:=kv ax H
 replace H:=jL H;obtain⟨aZ,H⟩:=H
 obtain⟨ah,aH⟩:=ky ((aK ++ l1):List ab3)
 replace H:=kv aH H
 replace H:=jE H;rcases H with ⟨fC,fD,H⟩ | ⟨c4,fC,fD,H⟩
 ·replace H:=jI H;obtain⟨iD,H⟩:=H
  replace H:=jI H;obtain⟨iE,H⟩:=H
  obtain⟨fE,bg⟩:=ky ((ah.set (ae:Int).toNat (⟨1,au⟩:ab3)):List ab3)
  replace H:=kv bg H
  obtain rfl:=oJ H
  go_enter func121,ntmps121
  go_wp2_with (first|((with_reducible refine jd 2 ?_);refine jY _ 27 ?_;intro ai hg w8 aa hb;have aQ:=kG hg;have aJ:=kG hg;replace HB:=kH hb;clear hb hg)|((with_reducible refine jd 6 ?_);refine jV abk 118 ([]:List ab3) [] (aa9 _ _) ?_;intro aN w9 bi hb;replace bi:=kr ax bi;have ak:=kL bi;replace aa:=kB aa hb;replace HB:=kH hb;clear hb bi)|((with_reducible refine aaa (b:=.append) (xs:=#[.tmp 6,.tmp 7]) rfl ?_);at_builtin;refine R_append_rows abk (w0:=w) w.heap.size rfl (.tmp 6) (.tmp 7) 104 118 (.agg #[(iV 0),(iV 0)]) 16 rfl underlying104 aeM rfl (by decide) (by omega) aN aK l1 _ _ _ (fun _=>True) (fun _=>False) rfl rfl ?aO ?aR (fun _ _ h=>h) (fun _ h=>h.elim) ?aF ?aB ?aS ?aL ?_;(case aR=>exact kb HR1 HB);(case aB=>exact qB);(case aF=>exact (fun _ _=>trivial));(case aO=>exact (qR ak));(case aS=>exact (aa4 qB));(case aL=>have:=aZ.out;omega);intro bN cu ho hb hg hat;rw [<- aH.out] at ho;have af:=aM ho;replace aa:=aM (aaq (g:=ai) (qK aa) hg (R_ne ak.out aa.out (by decide)));replace HB:=aM hb;clear ak;clear ho hb hg hat;have iF:=jz5 aa;have p7:0<=(ae:Int):=qD;have q7:(ae:Int) < ((ah.length:Int):Int):=qD;obtain⟨bO,gL,gM,gN,iG,jl,gP⟩:=R_form af.out (by omega);(first|cases gM|(injection gM with ea_ en_ ec_;(first|subst ea_|(injection ea_ with ea_;subst ea_));subst ec_;clear en_));have gQ:=aM gN;have jm:=aM gP;clear gN iG gP;obtain⟨jo,fF,gT,cz,cB⟩:=R_elem af.out agX (ae:Int) p7 q7;obtain rfl:=abe gT;have gU:cu.cell? ⟨bO,(ae:Int).toNat*2,none⟩=some (iV ((aa8 ah ae).f0)):=cz 0 _ rfl;have gV:cu.cell? ⟨bO,(ae:Int).toNat*2+1,none⟩=some (iV ((aa8 ah ae).f1)):=cz 1 _ rfl;have gW:cu.frozen? ⟨bO,(ae:Int).toNat*2,none⟩=false:=cB 0;have gX:cu.frozen? ⟨bO,(ae:Int).toNat*2+1,none⟩=false:=cB 1;clear fF cz cB gT;replace p7:=eq_true p7;replace q7:=eq_true q7;have dO:=aM (show Kd.R abk 118 cu w.heap.size (fun _=>True) (.slice (some ⟨bO,0,none⟩) ah.length gL) ah from (qR af));obtain⟨iH,bU,dP,aT,bn⟩:=R_elem dO.out agX (ae:Int) (qD) (by have h_:(ae:Int) < ((ah.length:Int):Int):=qD;first|exact h_|(have e_:=(R_reads' af.out).1;omega)|simpa using h_);obtain rfl:=abe dP;have cK:=R_seg dO.out (ae:Int) (qD) (by have h_:(ae:Int) < ((ah.length:Int):Int):=qD;first|exact h_|(have e_:=(R_reads' af.out).1;omega)|simpa using h_) (seg:=[iV 1,iV au]) (j:=0) bU aT (show 2<=2 from by decide) (x':=(⟨1,au⟩:ab3)) (acL _ _ _ (⟨1,au⟩:ab3) ) (fun _ hk=>hk);have cO:=aT 0 _ rfl;(try simp only [show (abk).sz=2 from rfl,Nat.mul_one,Nat.add_zero] at cO);have df:=bn 0;(try simp only [show (abk).sz=2 from rfl,Nat.mul_one,Nat.add_zero] at df);have dh:=aT 1 _ rfl;(try simp only [show (abk).sz=2 from rfl,Nat.mul_one,Nat.add_zero] at dh);have di:=bn 1;(try simp only [show (abk).sz=2 from rfl,Nat.mul_one,Nat.add_zero] at di);clear bU aT bn dP)|((with_reducible refine aaB (t:=118) (p:=19) rfl ?_);refine aar (t:=118) (p:=19) (v:=?fG) (w1:=((cu.setCell ⟨bO,(ae:Int).toNat*2,none⟩ (iV 1)).setCell ⟨bO,(ae:Int).toNat*2+1,none⟩ (iV au))) ?hg ?ho ?hn ?hr ?_;(case ho=>rfl);(case hg=>rfl);(case hn=>rfl);(case hr=>first|(go_simp;done)|(go_simp;rfl));intro fH hw;have hg:cu.grownBy fH (some bO):=(by rw [hw];exact cK.2);have hp_:Kd.R abk 118 fH w.heap.size (fun _=>True) (.slice (some ⟨bO,0,none⟩) ah.length gL) fE:=(by rw [hw,bg.out];exact cK.1);clear cK;replace aa:=aM (aaq (g:=ai) (qK aa) hg (R_ne af.out aa.out (by decide)));replace af:=aM hp_;replace HB:=aM ((by rw [hw];exact aac (aac (HB.out) gQ.out) gQ.out:Below w.heap.size w fH));clear hg hw hp_))
  go_ret
  exact⟨_,qW,qR af,qB⟩
 replace H:=jE H;rcases H with ⟨dQ,dR,H⟩ | ⟨c15,dQ,dR,H⟩
 ·replace H:=jI H;obtain⟨gY,H⟩:=H
  replace H:=jI H;obtain⟨gZ,H⟩:=H
  replace H:=jI H;obtain⟨ib,H⟩:=H
  replace H:=jI H;obtain⟨ic,H⟩:=H
  obtain⟨iI,bq⟩:=ky ((ah.set (ae:Int).toNat (⟨(aa8 l1 ag).f0,(aa8 l1 ag).f1⟩:ab3)):List ab3)
  replace H:=kv bq H
  obtain rfl:=oJ H
  go_enter func121,ntmps121
  try go_wp2_with (first|((with_reducible refine jd 2 ?_);refine jY _ 27 ?_;intro ai hg jr aa hb;have aQ:=kG hg;have aJ:=kG hg;replace HB:=kH hb;clear hb hg)|((with_reducible refine jd 6 ?_);refine jV abk 118 ([]:List ab3) [] (aa9 _ _) ?_;intro aN jv bu hb;replace bu:=kr ax bu;have ak:=kL bu;replace aa:=kB aa hb;replace HB:=kH hb;clear hb bu)|((with_reducible refine aaa (b:=.append) (xs:=#[.tmp 6,.tmp 7]) rfl ?_);at_builtin;refine R_append_rows abk (w0:=w) w.heap.size rfl (.tmp 6) (.tmp 7) 104 118 (.agg #[(iV 0),(iV 0)]) 16 rfl underlying104 aeM rfl (by decide) (by omega) aN aK l1 _ _ _ (fun _=>True) (fun _=>False) rfl rfl ?aO ?aR (fun _ _ h=>h) (fun _ h=>h.elim) ?aF ?aB ?aS ?aL ?_;(case aR=>exact kb HR1 HB);(case aB=>exact qB);(case aF=>exact (fun _ _=>trivial));(case aO=>exact (qR ak));(case aS=>exact (aa4 qB));(case aL=>have:=aZ.out;omega);intro bN iJ ho hb hg hat;rw [<- aH.out] at ho;have af:=aM ho;replace aa:=aM (aaq (g:=ai) (qK aa) hg (R_ne ak.out aa.out (by decide)));replace HB:=aM hb;clear ak;clear ho hb hg hat;have iK:=jz5 aa))
  replace af:=aM (R_drew af.out)
  replace aa:=aM (ab2 aa.out)
  replace HB:=aM (aaf HB.out)
  have dn:0<=(ag:Int):=qD
  have dw:ag < (l1.length:Int):=qD
  obtain⟨bv,fI,ay,az⟩:=aaW HR1.out ag dn dw
  have bP:=az
  have bQ:=ay
  cases fI
  replace ay:=kx HB ay
  replace az:=kx HB az
  replace dn:=eq_true dn
  replace dw:=eq_true dw
  have fJ:0<=(ae:Int):=qD
  have fK:(ae:Int) < ((ah.length:Int):Int):=qD
  obtain⟨bR,iL,dS,dU,fM,iM,dV⟩:=R_form af.out (by omega)
  (first|cases dS|(injection dS with ea_ en_ ec_;(first|subst ea_|(injection ea_ with ea_;subst ea_));subst ec_;clear en_))
  have dW:=aM dU
  have fO:=aM dV
  clear dU fM dV
  obtain⟨iN,dX,dY,bz,bA⟩:=R_elem af.out agX (ae:Int) fJ fK
  obtain rfl:=abe dY
  have dx:World.cell? _ ⟨bR,(ae:Int).toNat*2,none⟩=some (iV ((aa8 ah ae).f0)):=bz 0 _ rfl
  have dz:World.cell? _ ⟨bR,(ae:Int).toNat*2+1,none⟩=some (iV ((aa8 ah ae).f1)):=bz 1 _ rfl
  have dA:World.frozen? _ ⟨bR,(ae:Int).toNat*2,none⟩=false:=bA 0
  have dB:World.frozen? _ ⟨bR,(ae:Int).toNat*2+1,none⟩=false:=bA 1
  clear dX bz bA dY
  replace fJ:=eq_true fJ
  replace fK:=eq_true fK
  obtain⟨iO,bV,dZ,bW,d9⟩:=R_elem af.out agX (ae:Int) (qD) (by have h_:(ae:Int) < ((ah.length:Int):Int):=qD;first|exact h_|(have e_:=(R_reads' af.out).1;omega)|simpa using h_)
  obtain rfl:=abe dZ
  have dC:=(R_seg af.out (ae:Int) (qD) (by have h_:(ae:Int) < ((ah.length:Int):Int):=qD;first|exact h_|(have e_:=(R_reads' af.out).1;omega)|simpa using h_) (seg:=[iV ((aa8 l1 ag).f0),iV ((aa8 l1 ag).f1)]) (j:=0) bV bW (show 2<=2 from by decide) (x':=(⟨(aa8 l1 ag).f0,(aa8 l1 ag).f1⟩:ab3)) (acL _ _ _ (⟨(aa8 l1 ag).f0,(aa8 l1 ag).f1⟩:ab3) ) (fun _ hk=>hk)).1
  rw [<- bq.out] at dC
  have ed:=aM dC
  clear bV bW d9 dZ dC
  refine abl (n:=10) (S:=fun w'=>w'.cell? ⟨ai,0,none⟩=some (iV av)/\w'.cell? ⟨ai,1,none⟩=some (iV ae)/\w'.cell? ⟨ai,2,none⟩=some (iV ag)/\w'.cell? ⟨ai,3,none⟩=some (iV aj)/\w'.cell? ⟨ai,4,none⟩=some (iV au)/\w'.cell? (bv.add ((ag).toNat*2))=some (iV ((aa8 l1 ag).f0))/\w'.cell? ⟨(bv.add ((ag).toNat*2)).block,(bv.add ((ag).toNat*2)).off+1,none⟩=some (iV ((aa8 l1 ag).f1))) (ds:=[9]) (jb 10 0) (by kernel_rfl) rfl rfl ⟨(aa3 aa.out 0).trans rfl,(aa3 aa.out 1).trans rfl,(aa3 aa.out 2).trans rfl,(aa3 aa.out 3).trans rfl,(aa3 aa.out 4).trans rfl,(kx HB bQ),(kx HB bP)⟩ (fun hHeld=>?_);refine aaL an5 alR (fun HT_ HW_=>?_)
  generalize iJ.drew=jw at af aa HB fO ed dA dB dx dz ay az hHeld ⊢
  refine jp 0 22 (jb 10 1) ?_
  refine jp 1 23 (jb 10 3) ?_
  refine jp 3 25 (jb 10 11) ?_
  refine jp 4 26 (jb 10 27) ?_
  refine jt 2 24 (jb 10 31) ?_
  refine jt 5 27 (jb 10 63) ?_
  refine jp 6 28 (jb 10 127) ?_
  refine jt 7 29 (jb 10 255) ?_
  refine jp 8 30 (jb 10 511) ?_
  refine aij (i:=9) (N:=none) (jb 10 1023) rfl rfl (aaR HT_.out (by kernel_rfl)) (by decide) (fun K hK=>?_)
  refine ah3 (w1:=?_) (by rfl) rfl ?_ ?_
  rotate_left
  ·go_simp
   rfl
  refine hK.out _ _ ?_
  clear hK K
  refine abI (ab5 HT_.out (by kernel_rfl)) ?_
  try go_wp2
  go_ret
  exact⟨_,qW,by (with_reducible repeat (first|apply R_alloc|apply R_drewN|apply R_drew));exact ed.out,by repeat (first|(with_reducible first|exact HB.out|apply aaE|apply aat|apply aaf|refine aac ?_ dW.out|refine aac ?_ dW.out|refine aac ?_ aJ.out)|exact HB.out)⟩
 replace H:=jE H;rcases H with ⟨ek,eu,H⟩ | ⟨c28,ek,eu,H⟩
 ·replace H:=jI H;obtain⟨ig,H⟩:=H
  replace H:=jI H;obtain⟨ik,H⟩:=H
  obtain⟨fP,bB⟩:=ky ((ah.set (ae:Int).toNat (⟨2,0⟩:ab3)):List ab3)
  replace H:=kv bB H
  obtain rfl:=oJ H
  go_enter func121,ntmps121
  go_wp2_with (first|((with_reducible refine jd 2 ?_);refine jY _ 27 ?_;intro ai hg w32 aa hb;have aQ:=kG hg;have aJ:=kG hg;replace HB:=kH hb;clear hb hg)|((with_reducible refine jd 6 ?_);refine jV abk 118 ([]:List ab3) [] (aa9 _ _) ?_;intro aN jy bC hb;replace bC:=kr ax bC;have ak:=kL bC;replace aa:=kB aa hb;replace HB:=kH hb;clear hb bC)|((with_reducible refine aaa (b:=.append) (xs:=#[.tmp 6,.tmp 7]) rfl ?_);at_builtin;refine R_append_rows abk (w0:=w) w.heap.size rfl (.tmp 6) (.tmp 7) 104 118 (.agg #[(iV 0),(iV 0)]) 16 rfl underlying104 aeM rfl (by decide) (by omega) aN aK l1 _ _ _ (fun _=>True) (fun _=>False) rfl rfl ?aO ?aR (fun _ _ h=>h) (fun _ h=>h.elim) ?aF ?aB ?aS ?aL ?_;(case aR=>exact kb HR1 HB);(case aB=>exact qB);(case aF=>exact (fun _ _=>trivial));(case aO=>exact (qR ak));(case aS=>exact (aa4 qB));(case aL=>have:=aZ.out;omega);intro bN dD ho hb hg hat;rw [<- aH.out] at ho;have af:=aM ho;replace aa:=aM (aaq (g:=ai) (qK aa) hg (R_ne ak.out aa.out (by decide)));replace HB:=aM hb;clear ak;clear ho hb hg hat;have iP:=jz5 aa;have p31:0<=(ae:Int):=qD;have fQ:(ae:Int) < ((ah.length:Int):Int):=qD;obtain⟨aP,eB,eD,eF,fT,iQ,eG⟩:=R_form af.out (by omega);(first|cases eD|(injection eD with ea_ en_ ec_;(first|subst ea_|(injection ea_ with ea_;subst ea_));subst ec_;clear en_));have eH:=aM eF;have iR:=aM eG;clear eF fT eG;obtain⟨iT,eO,eP,bD,bE⟩:=R_elem af.out agX (ae:Int) p31 fQ;obtain rfl:=abe eP;have fU:dD.cell? ⟨aP,(ae:Int).toNat*2,none⟩=some (iV ((aa8 ah ae).f0)):=bD 0 _ rfl;have fV:dD.cell? ⟨aP,(ae:Int).toNat*2+1,none⟩=some (iV ((aa8 ah ae).f1)):=bD 1 _ rfl;have fZ:dD.frozen? ⟨aP,(ae:Int).toNat*2,none⟩=false:=bE 0;have gm:dD.frozen? ⟨aP,(ae:Int).toNat*2+1,none⟩=false:=bE 1;clear eO bD bE eP;replace p31:=eq_true p31;replace fQ:=eq_true fQ;have eQ:=aM (show Kd.R abk 118 dD w.heap.size (fun _=>True) (.slice (some ⟨aP,0,none⟩) ah.length eB) ah from (qR af));obtain⟨iU,bX,eT,aU,bF⟩:=R_elem eQ.out agX (ae:Int) (qD) (by have h_:(ae:Int) < ((ah.length:Int):Int):=qD;first|exact h_|(have e_:=(R_reads' af.out).1;omega)|simpa using h_);obtain rfl:=abe eT;have dE:=R_seg eQ.out (ae:Int) (qD) (by have h_:(ae:Int) < ((ah.length:Int):Int):=qD;first|exact h_|(have e_:=(R_reads' af.out).1;omega)|simpa using h_) (seg:=[iV 2,iV 0]) (j:=0) bX aU (show 2<=2 from by decide) (x':=(⟨2,0⟩:ab3)) (acL _ _ _ (⟨2,0⟩:ab3) ) (fun _ hk=>hk);have dF:=aU 0 _ rfl;(try simp only [show (abk).sz=2 from rfl,Nat.mul_one,Nat.add_zero] at dF);have dG:=bF 0;(try simp only [show (abk).sz=2 from rfl,Nat.mul_one,Nat.add_zero] at dG);have dH:=aU 1 _ rfl;(try simp only [show (abk).sz=2 from rfl,Nat.mul_one,Nat.add_zero] at dH);have dI:=bF 1;(try simp only [show (abk).sz=2 from rfl,Nat.mul_one,Nat.add_zero] at dI);clear bX aU bF eT)|((with_reducible refine aaB (t:=118) (p:=37) rfl ?_);refine aar (t:=118) (p:=37) (v:=?gp) (w1:=((dD.setCell ⟨aP,(ae:Int).toNat*2,none⟩ (iV 2)).setCell ⟨aP,(ae:Int).toNat*2+1,none⟩ (iV 0))) ?hg ?ho ?hn ?hr ?_;(case ho=>rfl);(case hg=>rfl);(case hn=>rfl);(case hr=>first|(go_simp;done)|(go_simp;rfl));intro gq hw;have hg:dD.grownBy gq (some aP):=(by rw [hw];exact dE.2);have hp_:Kd.R abk 118 gq w.heap.size (fun _=>True) (.slice (some ⟨aP,0,none⟩) ah.length eB) fP:=(by rw [hw,bB.out];exact dE.1);clear dE;replace aa:=aM (aaq (g:=ai) (qK aa) hg (R_ne af.out aa.out (by decide)));replace af:=aM hp_;replace HB:=aM ((by rw [hw];exact aac (aac (HB.out) eH.out) eH.out:Below w.heap.size w gq));clear hg hw hp_))
  go_ret
  exact⟨_,qW,qR af,qB⟩
 replace H:=jE H;rcases H with ⟨eU,eX,H⟩ | ⟨jA,eU,eX,H⟩
 ·replace H:=jI H;obtain⟨il,H⟩:=H
  replace H:=jI H;obtain⟨iq,H⟩:=H
  replace H:=jI H;obtain⟨iw,H⟩:=H
  replace H:=jI H;obtain⟨iy,H⟩:=H
  obtain⟨⟨bG,bH⟩,iW,H⟩:=qE H
  try dsimp only at H
  replace H:=jI H;obtain⟨iA,H⟩:=H
  replace H:=jI H;obtain⟨iB,H⟩:=H
  obtain⟨iX,bI⟩:=ky ((ah.set (ae:Int).toNat (⟨bG,bH⟩:ab3)):List ab3)
  replace H:=kv bI H
  obtain rfl:=oJ H
  go_enter func121,ntmps121
  try go_wp2_with (first|((with_reducible refine jd 2 ?_);refine jY _ 27 ?_;intro ai hg jH aa hb;have aQ:=kG hg;have aJ:=kG hg;replace HB:=kH hb;clear hb hg)|((with_reducible refine jd 6 ?_);refine jV abk 118 ([]:List ab3) [] (aa9 _ _) ?_;intro aN jN bJ hb;replace bJ:=kr ax bJ;have ak:=kL bJ;replace aa:=kB aa hb;replace HB:=kH hb;clear hb bJ)|((with_reducible refine aaa (b:=.append) (xs:=#[.tmp 6,.tmp 7]) rfl ?_);at_builtin;refine R_append_rows abk (w0:=w) w.heap.size rfl (.tmp 6) (.tmp 7) 104 118 (.agg #[(iV 0),(iV 0)]) 16 rfl underlying104 aeM rfl (by decide) (by omega) aN aK l1 _ _ _ (fun _=>True) (fun _=>False) rfl rfl ?aO ?aR (fun _ _ h=>h) (fun _ h=>h.elim) ?aF ?aB ?aS ?aL ?_;(case aR=>exact kb HR1 HB);(case aB=>exact qB);(case aF=>exact (fun _ _=>trivial));(case aO=>exact (qR ak));(case aS=>exact (aa4 qB));(case aL=>have:=aZ.out;omega);intro bN iY ho hb hg hat;rw [<- aH.out] at ho;have af:=aM ho;replace aa:=aM (aaq (g:=ai) (qK aa) hg (R_ne ak.out aa.out (by decide)));replace HB:=aM hb;clear ak;clear ho hb hg hat;have iZ:=jz5 aa))
  replace af:=aM (R_drew af.out)
  replace aa:=aM (ab2 aa.out)
  replace HB:=aM (aaf HB.out)
  have dJ:0<=(ag:Int):=qD
  have dK:ag < (l1.length:Int):=qD
  obtain⟨aI,gu,aA,aC⟩:=aaW HR1.out ag dJ dK
  have aV:=aC
  have aW:=aA
  cases gu
  replace aA:=kx HB aA
  replace aC:=kx HB aC
  replace dJ:=eq_true dJ
  replace dK:=eq_true dK
  have dL:0<=(aj:Int):=qD
  have dM:aj < (l1.length:Int):=qD
  obtain⟨eY,gy,aD,aG⟩:=aaW HR1.out aj dL dM
  have aX:=aG
  have aY:=aD
  obtain rfl:aI=eY:=(by injection gy)
  replace aD:=kx HB aD
  replace aG:=kx HB aG
  replace dL:=eq_true dL
  replace dM:=eq_true dM
  refine abl (n:=17) (S:=fun w'=>w'.cell? ⟨ai,0,none⟩=some (iV av)/\w'.cell? ⟨ai,1,none⟩=some (iV ae)/\w'.cell? ⟨ai,2,none⟩=some (iV ag)/\w'.cell? ⟨ai,3,none⟩=some (iV aj)/\w'.cell? ⟨ai,4,none⟩=some (iV au)/\w'.cell? (aI.add ((ag).toNat*2))=some (iV ((aa8 l1 ag).f0))/\w'.cell? ⟨(aI.add ((ag).toNat*2)).block,(aI.add ((ag).toNat*2)).off+1,none⟩=some (iV ((aa8 l1 ag).f1))/\w'.cell? (aI.add ((aj).toNat*2))=some (iV ((aa8 l1 aj).f0))/\w'.cell? ⟨(aI.add ((aj).toNat*2)).block,(aI.add ((aj).toNat*2)).off+1,none⟩=some (iV ((aa8 l1 aj).f1))) (ds:=[16]) (jb 17 0) (by kernel_rfl) rfl rfl ⟨(aa3 aa.out 0).trans rfl,(aa3 aa.out 1).trans rfl,(aa3 aa.out 2).trans rfl,(aa3 aa.out 3).trans rfl,(aa3 aa.out 4).trans rfl,(kx HB aW),(kx HB aV),(kx HB aY),(kx HB aX)⟩ (fun hHeld=>?_);refine aaL alO ajM (fun HT_ HW_=>?_)
  generalize iY.drew=jQ at af aa HB aA aC aD aG hHeld ⊢
  refine jp 0 40 (jb 17 1) ?_
  refine jp 1 41 (jb 17 3) ?_
  refine jp 4 44 (jb 17 19) ?_
  refine jp 5 45 (jb 17 51) ?_
  refine jp 9 49 (jb 17 563) ?_
  refine jp 10 50 (jb 17 1587) ?_
  refine jt 2 42 (jb 17 1591) ?_
  refine jt 3 43 (jb 17 1599) ?_
  refine jt 6 46 (jb 17 1663) ?_
  refine jp 7 47 (jb 17 1791) ?_
  refine jt 8 48 (jb 17 2047) ?_
  refine jt 11 51 (jb 17 4095) ?_
  refine jp 12 52 (jb 17 8191) ?_
  refine jt 13 53 (jb 17 16383) ?_
  refine acK (i:=14) (N:=some 54) (jb 17 32767) rfl rfl (aaR HT_.out (by kernel_rfl)) (by decide) (fun K hK=>?_)
  refine abn func123 (by kernel_rfl) rfl #[.agg #[iV av,iV ae,iV ag,iV aj,iV au],.agg #[iV ((aa8 l1 ag).f0),iV ((aa8 l1 ag).f1)],.agg #[iV ((aa8 l1 aj).f0),iV ((aa8 l1 aj).f1)]] (by rfl) rfl rfl qM ?_
  with_reducible refine (afX k av ae ag aj au ((aa8 l1 ag).f0) ((aa8 l1 ag).f1) ((aa8 l1 aj).f0) ((aa8 l1 aj).f1) bG bH _ iW.out).mono ?_
  rintro e jS ⟨rfl,hb⟩
  refine⟨_,rfl,?_⟩
  replace af:=kR af hb
  replace aa:=kB aa hb
  replace HB:=kH hb
  (try clear hb)
  (try clear hb2)
  (try clear hk)
  (try clear hi)
  have p47:0<=(ae:Int):=qD
  have gz:(ae:Int) < ((ah.length:Int):Int):=qD
  obtain⟨bS,ja,eZ,fe,gB,je,fo⟩:=R_form af.out (by omega)
  (first|cases eZ|(injection eZ with ea_ en_ ec_;(first|subst ea_|(injection ea_ with ea_;subst ea_));subst ec_;clear en_))
  have fq:=aM fe
  have jf:=aM fo
  clear fe gB fo
  obtain⟨jg,fu,fw,bK,bL⟩:=R_elem af.out agX (ae:Int) p47 gz
  obtain rfl:=abe fw
  have gD:World.cell? _ ⟨bS,(ae:Int).toNat*2,none⟩=some (iV ((aa8 ah ae).f0)):=bK 0 _ rfl
  have gF:World.cell? _ ⟨bS,(ae:Int).toNat*2+1,none⟩=some (iV ((aa8 ah ae).f1)):=bK 1 _ rfl
  have gG:World.frozen? _ ⟨bS,(ae:Int).toNat*2,none⟩=false:=bL 0
  have gH:World.frozen? _ ⟨bS,(ae:Int).toNat*2+1,none⟩=false:=bL 1
  clear fu bK bL fw
  replace p47:=eq_true p47
  replace gz:=eq_true gz
  obtain⟨jh,bY,fA,bZ,fB⟩:=R_elem af.out agX (ae:Int) (qD) (by have h_:(ae:Int) < ((ah.length:Int):Int):=qD;first|exact h_|(have e_:=(R_reads' af.out).1;omega)|simpa using h_)
  obtain rfl:=abe fA
  have dN:=(R_seg af.out (ae:Int) (qD) (by have h_:(ae:Int) < ((ah.length:Int):Int):=qD;first|exact h_|(have e_:=(R_reads' af.out).1;omega)|simpa using h_) (seg:=[iV bG,iV bH]) (j:=0) bY bZ (show 2<=2 from by decide) (x':=(⟨bG,bH⟩:ab3)) (acL _ _ _ (⟨bG,bH⟩:ab3) ) (fun _ hk=>hk)).1
  rw [<- bI.out] at dN
  have gI:=aM dN
  clear bY bZ fB fA dN
  refine hK.out _ _ ⟨(aa3 aa.out 0).trans rfl,(aa3 aa.out 1).trans rfl,(aa3 aa.out 2).trans rfl,(aa3 aa.out 3).trans rfl,(aa3 aa.out 4).trans rfl,(kx HB aW),(kx HB aV),(kx HB aY),(kx HB aX)⟩ (fun hHeld=>?_)
  clear hK K
  refine aaA (a':=?_) ?_ ?_
  rotate_left
  ·show Act.put _ (some 54) _=_
   simp only [Act.put,List.setIfInBounds_toArray,List.set_cons_zero,List.set_cons_succ,aas,aaw]
   rfl
  refine jp 15 55 (jb 17 65535) ?_
  refine aij (i:=16) (N:=none) (jb 17 131071) rfl rfl (aaR HT_.out (by kernel_rfl)) (by decide) (fun K hK=>?_)
  refine ah3 (w1:=?_) (by rfl) rfl ?_ ?_
  rotate_left
  ·go_simp
   rfl
  refine hK.out _ _ ?_
  clear hK K
  refine abI (ab5 HT_.out (by kernel_rfl)) ?_
  try go_wp2
  go_ret
  exact⟨_,qW,by (with_reducible repeat (first|apply R_alloc|apply R_drewN|apply R_drew));exact gI.out,by repeat (first|(with_reducible first|exact HB.out|apply aaE|apply aat|apply aaf|refine aac ?_ fq.out|refine aac ?_ fq.out|refine aac ?_ aJ.out)|exact HB.out)⟩
 obtain rfl:=oJ H
 go_enter func121,ntmps121
 go_wp2_with (first|((with_reducible refine jd 2 ?_);refine jY _ 27 ?_;intro ai hg jT aa hb;have aQ:=kG hg;have aJ:=kG hg;replace HB:=kH hb;clear hb hg)|((with_reducible refine jd 6 ?_);refine jV abk 118 ([]:List ab3) [] (aa9 _ _) ?_;intro aN jW bM hb;replace bM:=kr ax bM;have ak:=kL bM;replace aa:=kB aa hb;replace HB:=kH hb;clear hb bM)|((with_reducible refine aaa (b:=.append) (xs:=#[.tmp 6,.tmp 7]) rfl ?_);at_builtin;refine R_append_rows abk (w0:=w) w.heap.size rfl (.tmp 6) (.tmp 7) 104 118 (.agg #[(iV 0),(iV 0)]) 16 rfl underlying104 aeM rfl (by decide) (by omega) aN aK l1 _ _ _ (fun _=>True) (fun _=>False) rfl rfl ?aO ?aR (fun _ _ h=>h) (fun _ h=>h.elim) ?aF ?aB ?aS ?aL ?_;(case aR=>exact kb HR1 HB);(case aB=>exact qB);(case aF=>exact (fun _ _=>trivial));(case aO=>exact (qR ak));(case aS=>exact (aa4 qB));(case aL=>have:=aZ.out;omega);intro bN jZ ho hb hg hat;rw [<- aH.out] at ho;have af:=aM ho;replace aa:=aM (aaq (g:=ai) (qK aa) hg (R_ne ak.out aa.out (by decide)));replace HB:=aM hb;clear ak;clear ho hb hg hat;have ji:=jz5 aa))
 go_ret
 exact⟨_,qW,qR af,qB⟩
end Go.Proofs.YtebpplallecogaaGreat.M
namespace Go.Proofs.YtebpplallecogaaGreat.M
open Go.Proofs.Tryz Go.RowKit Go.Proofs.YtebpplallecogaaGreatW.PrintWords Go.Proofs.YtebpplallecogaaGreatW.PrintLast Go.Proofs.YtebpplallecogaaGreatW.PrintMore
attribute [local go_sem] aal aaj aaz aay aae aad aak aai
theorem anv (d:Nat) (w:World) (x0 y0 x1 y1:Int) :
  (Op.equalIn (d+2) 118 (.agg #[iV x0,iV x1]) (.agg #[iV y0,iV y1])).run prog w = .ok (x0 == y0 && (x1 == y1)) w:=by
 refine anu underlying118 (by kernel_rfl) ?_
 refine ae7 (by rfl) (by go_simp;rfl) (by go_simp;rfl) (by go_simp) ?_
 exact ajc (by rfl) (by go_simp;rfl) (by go_simp;rfl) (by go_simp)
attribute [local go_sem high] anv
def alz (au av ax ay:Int):Option (Int × Int):=if au=0 then (some (ax,ay)) else (if ax=0 then (some (au,av)) else (if (au == ax && (av == ay))=true then (some (au,av)) else (some (2,0))))
theorem apA {G:Prop} (h:G:=by
  go_enter func127,ntmps127
  go_wp2_with (first|((with_reducible refine jd 2 ?_);refine jY _ 118 ?_;intro aB hg aH aa hb;have aC:=kG hg;replace HB:=kH hb;clear hb hg)|((with_reducible refine jd 3 ?_);refine jY _ 118 ?_;intro aD hg aI ae hb;have aF:=kG hg;have af:=kN hg aa;have ag:=kM hg aa;replace aa:=kB aa hb;replace HB:=kH hb;clear hb hg)|((with_reducible refine jd 4 ?_);refine jY _ 118 ?_;intro aA hg aJ az hb;have aG:=kG hg;have ah:=kN hg aa;have ai:=kM hg aa;have aj:=kN hg ae;have ak:=kM hg ae;replace aa:=kB aa hb;replace ae:=kB ae hb;replace HB:=kH hb;clear hb hg;have aK:=af.out;have aL:=ag.out;have aN:=ah.out;have aO:=ai.out;have aP:=jz2 aa;have aQ:=aj.out;have aR:=ak.out;have aS:=jz2 ae;have aT:=jz2 az))
  refine bodyPost_ret (results_cell_row rfl _ _ aA 118 #[iV au,iV av] (0,0) _ rfl (qF az) underlying118 rfl (by kernel_rfl)) rfl ?_
  exact⟨qW,qB⟩):G:=h
theorem Sb7.calls (au av ax ay r1 r2:Int) (w:World) (h:alz au av ax ay=some (r1,r2)) :
  Calls prog 127 #[.agg #[iV au,iV av],.agg #[iV ax,iV ay]] w fun e w'=>e = .returned (.agg #[iV r1,iV r2])/\Below w.heap.size w w':=by
 have bi:=underlying118
 have HB:=jb_ w
 have H:=h;unfold alz at H
 clear h
 replace H:=jE H;rcases H with ⟨aZ,bg,H⟩ | ⟨c3,aZ,bg,H⟩
 ·obtain⟨rfl,rfl⟩:=oJ2 H
  go_enter func127,ntmps127
  go_wp2_with (first|((with_reducible refine jd 2 ?_);refine jY _ 118 ?_;intro aB hg aH aa hb;have aC:=kG hg;replace HB:=kH hb;clear hb hg)|((with_reducible refine jd 3 ?_);refine jY _ 118 ?_;intro aD hg aI ae hb;have aF:=kG hg;have af:=kN hg aa;have ag:=kM hg aa;replace aa:=kB aa hb;replace HB:=kH hb;clear hb hg)|((with_reducible refine jd 4 ?_);refine jY _ 118 ?_;intro aA hg aJ az hb;have aG:=kG hg;have ah:=kN hg aa;have ai:=kM hg aa;have aj:=kN hg ae;have ak:=kM hg ae;replace aa:=kB aa hb;replace ae:=kB ae hb;replace HB:=kH hb;clear hb hg;have aK:=af.out;have aL:=ag.out;have aN:=ah.out;have aO:=ai.out;have aP:=jz2 aa;have aQ:=aj.out;have aR:=ak.out;have aS:=jz2 ae;have aT:=jz2 az))
  refine bodyPost_ret (results_cell_row rfl _ _ aA 118 #[iV ax,iV ay] (0,0) _ rfl (qF az) underlying118 rfl (by kernel_rfl)) rfl ?_
  exact⟨qW,qB⟩
 replace H:=jE H;rcases H with ⟨aU,aV,H⟩ | ⟨c13,aU,aV,H⟩
 ·obtain⟨rfl,rfl⟩:=oJ2 H
  exact apA
 by_cases c23:(au == ax && (av == ay))=true
 ·rw [if_pos c23] at H
  have aW:(au == ax && (av == ay))=true:=c23
  (try (have aX:decide (au=ax && (av == ay))=true:=by simpa using c23))
  (try (have aY:(au == ax && (av == ay))=true:=by simpa using c23))
  clear c23
  obtain⟨rfl,rfl⟩:=oJ2 H
  exact apA
 rw [if_neg c23] at H
 have aW:(au == ax && (av == ay))=false:=by simpa using c23
 (try (have aX:decide (au=ax && (av == ay))=false:=by simpa using c23))
 (try (have aY:(au == ax && (av == ay))=false:=by simpa using c23))
 (try (have bn:¬ (au=ax && (av == ay)):=by simpa using c23))
 clear c23
 obtain⟨rfl,rfl⟩:=oJ2 H
 go_enter func127,ntmps127
 go_wp2_with (first|((with_reducible refine jd 2 ?_);refine jY _ 118 ?_;intro aB hg aH aa hb;have aC:=kG hg;replace HB:=kH hb;clear hb hg)|((with_reducible refine jd 3 ?_);refine jY _ 118 ?_;intro aD hg aI ae hb;have aF:=kG hg;have af:=kN hg aa;have ag:=kM hg aa;replace aa:=kB aa hb;replace HB:=kH hb;clear hb hg)|((with_reducible refine jd 4 ?_);refine jY _ 118 ?_;intro aA hg aJ az hb;have aG:=kG hg;have ah:=kN hg aa;have ai:=kM hg aa;have aj:=kN hg ae;have ak:=kM hg ae;replace aa:=kB aa hb;replace ae:=kB ae hb;replace HB:=kH hb;clear hb hg;have aK:=af.out;have aL:=ag.out;have aN:=ah.out;have aO:=ai.out;have aP:=jz2 aa;have aQ:=aj.out;have aR:=ak.out;have aS:=jz2 ae;have aT:=jz2 az))
 refine bodyPost_ret (results_cell_row rfl _ _ aA 118 #[iV 2,iV 0] (0,0) _ rfl (qF az) underlying118 rfl (by kernel_rfl)) rfl ?_
 exact⟨qW,qB⟩
end Go.Proofs.YtebpplallecogaaGreat.M
