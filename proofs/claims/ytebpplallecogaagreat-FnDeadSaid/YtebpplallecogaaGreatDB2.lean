/- Part 2 of the proof: A function as plain Lean and its contract: written by a program of this session's, turned from the kit's print. -/
import Derived.Test.YtebpplallecogaaGreatDB1
set_option linter.unusedVariables false
set_option linter.unusedSimpArgs false
set_option maxHeartbeats 8000000
set_option maxRecDepth 100000
namespace Go.Proofs.YtebpplallecogaaGreat.M
open Go.Proofs.Tryz Go.RowKit Go.Proofs.YtebpplallecogaaGreatW.PrintWords Go.Proofs.YtebpplallecogaaGreatW.PrintLast Go.Proofs.YtebpplallecogaaGreatW.PrintMore
attribute [local go_sem] max2_int min2_int max_two min_two max_three min_three max_four min_four
mutual
def SaB.l0:Nat->List (S92)->Int->Int->Option (Int)
 | 0,_,_,_=>none
 | k+1,x0,x3,x4=>if x4 < (x0.length:Int) then (if 0<=x4 then ((SaB.f k ((rd_T92 x0 x4).f4)).bind fun bU=>((SaB.f k ((rd_T92 x0 x4).f5)).bind fun bV=>(SaB.l0 k x0 (wrap64 ((wrap64 ((wrap64 (x3+1))+bU))+bV)) (wrap64 (x4+1))))) else (none)) else (some x3)
def SaB.f:Nat->List (S92)->Option (Int)
 | 0,_=>none
 | k+1,l0=>SaB.l0 k l0 0 0
end
def SaB.T5:Bool × List (List Nat × List Nat):=(true,[([],[]),([0],[0]),([],[]),([],[]),([2,3],[2,3]),([4],[4]),([5],[5]),([6],[6]),([1,7],[1,7]),([],[]),([],[]),([9,10],[9,10]),([11],[11]),([12],[12]),([13,7],[13]),([8,14],[8,14]),([15,14,0,1,2,3,4,5,6,7,8,9,10,11,12,13,14,15],[0,15])])
def SaB.B5:List Nat:=[0,1,0,0,12,28,60,124,255,0,0,1536,3584,7680,16124,32767,65535]
theorem SaB.tab5:rtab .any (opsOf f74 5)=SaB.T5:=by kernel_rfl
theorem SaB.bits5:waitsOk SaB.T5.2 SaB.B5=true:=by kernel_rfl
theorem SaB.calls (k:Nat):∀ (A0:Option Addr) (c0:Nat) (l0:List (S92)) (r:Int) (w:World) (hr0:Kd.C k92 w A0 l0.length l0) (hc0:l0.length<=c0) (h:SaB.f k l0=some r),
  Calls prog 74 #[.slice A0 l0.length c0] w fun e w'=>e = .returned (iV r)/\Below w.heap.size w w':=by
 induction k using Nat.strongRecOn with
 | _ k ih =>
 intro A0 c0 l0 r w hr0 hc0 h
 cases k with
 | zero=>exact absurd h (by simp [SaB.f])
 | succ k =>
 simp only [SaB.f] at h
 have dM:=aM hr0
 have dO:=aM hc0
 clear hr0 hc0
 have HB:=aM (Below.refl w.heap.size w)
 have H:(SaB.l0 k l0 0 0)=some r:=h
 clear h
 have H':=aM H
 clear H
 go_enter func74,ntmps74
 go_wp2
 go_loopg [3,4] k (fun kq v3 v4 w'=>∃ (bW:Int) (aa:Int),v3 = iV bW/\v4 = iV aa/\Aside0 (SaB.l0 kq l0 bW aa=some r)/\Aside0 (kq<=k)/\Aside0 (Below w.heap.size w w'))
 case atStart=>exact⟨(0),(0),qZ,qZ,H',⟨Nat.le_refl _⟩,⟨qB⟩⟩
 clear H'
 obtain⟨bW,aa,rfl,rfl,HA,dw,HB⟩:=hrel
 rcases gk with _|k1
 ·exact absurd HA.out (by simp [SaB.l0])
 have H:=HA.out
 clear HA
 simp only [SaB.l0] at H
 replace H:=jD H;rcases H with ⟨dC,H⟩ | ⟨dC,H⟩
 ·replace H:=jI H;obtain⟨dN,H⟩:=H
  obtain⟨bU,A4,H⟩:=qE H
  try dsimp only at H
  obtain⟨bV,A5,H⟩:=qE H
  try dsimp only at H
  have H':=aM H
  clear H
  try go_wp2
  replace HB:=aM (below_drew1 HB.out)
  have cO:0<=(aa:Int):=qD
  have df:aa < (l0.length:Int):=qD
  obtain⟨ae,bQ,bR,bv,bz,bA,bB,dD,av,ax,ay,az,aA,af,ag,ah,bC,bD,bE,bF,bG,bH⟩:=at_T92 dM.out aa cO df
  have aJ:=ah
  have aK:=ag
  have aN:=af
  have aQ:=aA
  have aT:=az
  have aU:=ay
  have aV:=ax
  have aW:=av
  cases dD
  replace av:=kx HB av
  replace ax:=kx HB ax
  replace ay:=kx HB ay
  replace az:=kx HB az
  replace aA:=kx HB aA
  replace af:=kx HB af
  replace ag:=kx HB ag
  replace ah:=kx HB ah
  have bX:=aM bD
  have dx:=aM bC
  clear bD bC
  have bI:=aM bF
  have bY:=aM bE
  clear bF bE
  have bZ:=aM bH
  have dz:=aM bG
  clear bH bG
  replace cO:=eq_true cO
  replace df:=eq_true df
  have dh:0<=(aa:Int):=qD
  have di:aa < (l0.length:Int):=qD
  obtain⟨dn,dE,dF,dG,dH,dI,dJ,dK,aC,aD,aG,aH,aI,ai,aj,au,bJ,bK,bL,bM,bN,bO⟩:=at_T92 dM.out aa dh di
  have aX:=au
  have aY:=aj
  have aZ:=ai
  have bg:=aI
  have bi:=aH
  have bn:=aG
  have bq:=aD
  have bu:=aC
  obtain rfl:ae=dn:=(by injection dK)
  replace aC:=kx HB aC
  replace aD:=kx HB aD
  replace aG:=kx HB aG
  replace aH:=kx HB aH
  replace aI:=kx HB aI
  replace ai:=kx HB ai
  replace aj:=kx HB aj
  replace au:=kx HB au
  have cz:=aM bK
  have dA:=aM bJ
  clear bK bJ
  have cB:=aM bM
  have dB:=aM bL
  clear bM bL
  have bP:=aM bO
  have cK:=aM bN
  clear bO bN
  replace dh:=eq_true dh
  replace di:=eq_true di
  have ea_:=Option.some.inj (af.symm.trans ai)
  injection ea_ with ea_ en_ ec_
  subst ea_
  subst ec_
  clear en_
  have ea_:=Option.some.inj (ag.symm.trans aj)
  injection ea_ with ea_ en_ ec_
  subst ea_
  subst ec_
  clear en_
  have ea_:=Option.some.inj (ah.symm.trans au)
  injection ea_ with ea_ en_ ec_
  subst ea_
  subst ec_
  clear en_
  refine start_ (n:=17) (S:=fun w'=>w'.cell? (ae.add ((aa).toNat*8))=some (iV ((rd_T92 l0 aa).f0))/\w'.cell? ⟨(ae.add ((aa).toNat*8)).block,(ae.add ((aa).toNat*8)).off+1,none⟩=some (iV ((rd_T92 l0 aa).f1))/\w'.cell? ⟨(ae.add ((aa).toNat*8)).block,(ae.add ((aa).toNat*8)).off+2,none⟩=some (iV ((rd_T92 l0 aa).f2))/\w'.cell? ⟨(ae.add ((aa).toNat*8)).block,(ae.add ((aa).toNat*8)).off+3,none⟩=some (iV ((rd_T92 l0 aa).f3.f0))/\w'.cell? ⟨(ae.add ((aa).toNat*8)).block,(ae.add ((aa).toNat*8)).off+4,none⟩=some (iV ((rd_T92 l0 aa).f3.f1))/\w'.cell? ⟨(ae.add ((aa).toNat*8)).block,(ae.add ((aa).toNat*8)).off+5,none⟩=some (.slice bQ ((rd_T92 l0 aa).f3.f2).length bR)/\w'.cell? ⟨(ae.add ((aa).toNat*8)).block,(ae.add ((aa).toNat*8)).off+6,none⟩=some (.slice bv ((rd_T92 l0 aa).f4).length bz)/\w'.cell? ⟨(ae.add ((aa).toNat*8)).block,(ae.add ((aa).toNat*8)).off+7,none⟩=some (.slice bA ((rd_T92 l0 aa).f5).length bB)/\w'.cell? (ae.add ((aa).toNat*8))=some (iV ((rd_T92 l0 aa).f0))/\w'.cell? ⟨(ae.add ((aa).toNat*8)).block,(ae.add ((aa).toNat*8)).off+1,none⟩=some (iV ((rd_T92 l0 aa).f1))/\w'.cell? ⟨(ae.add ((aa).toNat*8)).block,(ae.add ((aa).toNat*8)).off+2,none⟩=some (iV ((rd_T92 l0 aa).f2))/\w'.cell? ⟨(ae.add ((aa).toNat*8)).block,(ae.add ((aa).toNat*8)).off+3,none⟩=some (iV ((rd_T92 l0 aa).f3.f0))/\w'.cell? ⟨(ae.add ((aa).toNat*8)).block,(ae.add ((aa).toNat*8)).off+4,none⟩=some (iV ((rd_T92 l0 aa).f3.f1))/\w'.cell? ⟨(ae.add ((aa).toNat*8)).block,(ae.add ((aa).toNat*8)).off+5,none⟩=some (.slice bQ ((rd_T92 l0 aa).f3.f2).length bR)/\w'.cell? ⟨(ae.add ((aa).toNat*8)).block,(ae.add ((aa).toNat*8)).off+6,none⟩=some (.slice bv ((rd_T92 l0 aa).f4).length bz)/\w'.cell? ⟨(ae.add ((aa).toNat*8)).block,(ae.add ((aa).toNat*8)).off+7,none⟩=some (.slice bA ((rd_T92 l0 aa).f5).length bB)) (ds:=[]) (jb 17 0) (by kernel_rfl) rfl rfl ⟨(kx HB aW),(kx HB aV),(kx HB aU),(kx HB aT),(kx HB aQ),(kx HB aN),(kx HB aK),(kx HB aJ),(kx HB bu),(kx HB bq),(kx HB bn),(kx HB bi),(kx HB bg),(kx HB aZ),(kx HB aY),(kx HB aX)⟩ (fun hHeld=>?_);refine with_tabW SaB.tab5 SaB.bits5 (fun HT_ HW_=>?_)
  generalize wr.drew=w6 at HB bX bI bZ cz cB bP av ax ay az aA af ag ah aC aD aG aH aI ai aj au hHeld ⊢
  refine jp 0 11 (jb 17 1) ?_
  refine jp 1 12 (jb 17 3) ?_
  refine jp 2 13 (jb 17 7) ?_
  refine jp 3 14 (jb 17 15) ?_
  refine jp 4 15 (jb 17 31) ?_
  refine jp 5 16 (jb 17 63) ?_
  refine jp 9 20 (jb 17 575) ?_
  refine jp 10 21 (jb 17 1599) ?_
  refine jp 11 22 (jb 17 3647) ?_
  refine jp 12 23 (jb 17 7743) ?_
  refine jt 6 17 (jb 17 7807) ?_
  refine jt 13 24 (jb 17 15999) ?_
  refine one_ (i:=7) (N:=some 18) (jb 17 16127) rfl rfl (one_of HT_.out (by kernel_rfl)) (by decide) (fun K hK=>?_)
  refine goes_ func74 (by kernel_rfl) rfl #[.slice bv ((rd_T92 l0 aa).f4).length bz] (by rfl) rfl rfl qM ?_
  with_reducible refine (ih k1 (by have:=dw.out;omega) _ _ ((rd_T92 l0 aa).f4) bU _ ?bS ?bT A4.out).mono ?_
  (case bS=>exact kC (Kd.C_below bI.out HB.out))
  (case bT=>exact bY.out)
  rintro e w7 ⟨rfl,hb⟩
  refine⟨_,rfl,?_⟩
  replace HB:=kH hb
  (try clear hb)
  (try clear hb2)
  (try clear hk)
  (try clear hi)
  refine hK.out _ _ ⟨(kx HB aW),(kx HB aV),(kx HB aU),(kx HB aT),(kx HB aQ),(kx HB aN),(kx HB aK),(kx HB aJ),(kx HB bu),(kx HB bq),(kx HB bn),(kx HB bi),(kx HB bg),(kx HB aZ),(kx HB aY),(kx HB aX)⟩ (fun hHeld=>?_)
  clear hK K
  refine norm_ (a':=?_) ?_ ?_
  rotate_left
  ·show Act.put _ (some 18) _=_
   simp only [Act.put,List.setIfInBounds_toArray,List.set_cons_zero,List.set_cons_succ,i64_w,i32_w]
   rfl
  refine jp 8 19 (jb 17 16383) ?_
  refine one_ (i:=14) (N:=some 25) (jb 17 32767) rfl rfl (one_of HT_.out (by kernel_rfl)) (by decide) (fun K hK=>?_)
  refine goes_ func74 (by kernel_rfl) rfl #[.slice bA ((rd_T92 l0 aa).f5).length bB] (by rfl) rfl rfl qM ?_
  with_reducible refine (ih k1 (by have:=dw.out;omega) _ _ ((rd_T92 l0 aa).f5) bV _ ?bS ?bT A5.out).mono ?_
  (case bS=>exact kC (Kd.C_below bP.out HB.out))
  (case bT=>exact cK.out)
  rintro e w8 ⟨rfl,hb⟩
  refine⟨_,rfl,?_⟩
  replace HB:=kH hb
  (try clear hb)
  (try clear hb2)
  (try clear hk)
  (try clear hi)
  refine hK.out _ _ ⟨(kx HB aW),(kx HB aV),(kx HB aU),(kx HB aT),(kx HB aQ),(kx HB aN),(kx HB aK),(kx HB aJ),(kx HB bu),(kx HB bq),(kx HB bn),(kx HB bi),(kx HB bg),(kx HB aZ),(kx HB aY),(kx HB aX)⟩ (fun hHeld=>?_)
  clear hK K
  refine norm_ (a':=?_) ?_ ?_
  rotate_left
  ·show Act.put _ (some 25) _=_
   simp only [Act.put,List.setIfInBounds_toArray,List.set_cons_zero,List.set_cons_succ,i64_w,i32_w]
   rfl
  refine jp 15 26 (jb 17 65535) ?_
  refine jp 16 3 (jb 17 131071) ?_
  refine done_ (done_of HT_.out (by kernel_rfl)) ?_
  try go_wp2
  go_roundg k1
  case measure=>have:=dw.out;omega
  exact⟨(wrap64 ((wrap64 ((wrap64 (bW+1))+bU))+bV)),(wrap64 (aa+1)),qZ,qZ,H',⟨by have:=dw.out;omega⟩,⟨qB⟩⟩
 obtain rfl:=oJ H
 go_wp2
 go_ret
 exact⟨qW,qB⟩
def SaF.f (ay aa az aA aC:Int) (ae:List (S90)) (af ag:List (S92)) (a1:Bool):Option (Bool):=if a1=true then ((Sbl.f aa 0 3).bind fun t201=>(some t201)) else (some (aa == 0))
theorem SaF_0 {G:Prop} (h:G:=by
  go_enter func106,ntmps106
  go_wp2_with (first|((with_reducible refine jd 2 rfl ?_);refine jX _ 92 ?_;intro aQ hg bg hbox hb;have aD:=aM hbox;have aT:=kG hg;replace HB:=kH hb;clear hb hbox hg;have bi:=jz8 aD)|((with_reducible refine jc 46 8 rfl rfl ?_);refine jG func46 #[iV aa,iV 0,iV 3] ?_;refine (Sbl.calls _ _ _ _ _ (Aside0.out (by assumption))).mono ?_;rintro e w' ⟨rfl,⟨nd,rfl⟩⟩;refine⟨_,rfl,?_⟩))
  go_ret
  exact⟨qW,qB⟩):G:=h
theorem SaF.calls (ay aa az aA aC:Int) (aG:Option Addr) (aH:Nat) (ae:List (S90)) (aI:Option Addr) (aJ:Nat) (af:List (S92)) (aK:Option Addr) (aN:Nat) (ag:List (S92)) (a1 r:Bool) (w:World) (ah:Kd.C k90 w aG ae.length ae) (ai:ae.length<=aH) (aj:Kd.C k92 w aI af.length af) (au:af.length<=aJ) (av:Kd.C k92 w aK ag.length ag) (ax:ag.length<=aN) (h:SaF.f ay aa az aA aC ae af ag a1=some r) :
  Calls prog 106 #[.agg #[iV ay,iV aa,iV az,iV aA,iV aC,.slice aG ae.length aH,.slice aI af.length aJ,.slice aK ag.length aN],.bool a1] w fun e w'=>e = .returned (.bool r)/\Below w.heap.size w w':=by
 have bn:=underlying92
 have aU:=aM ah
 have aV:=aM ai
 clear ah ai
 have aW:=aM aj
 have aX:=aM au
 clear aj au
 have aY:=aM av
 have aZ:=aM ax
 clear av ax
 have HB:=aM (Below.refl w.heap.size w)
 have H:=h;unfold SaF.f at H
 clear h
 replace H:=jB H;rcases H with ⟨rfl,H⟩ | ⟨rfl,H⟩
 ·obtain⟨t201,A4,H⟩:=qE H
  try dsimp only at H
  obtain rfl:=oJ H
  exact SaF_0
 obtain rfl:=oJ H
 exact SaF_0
def SaA.f (ay az aa aA aC:Int) (ae:List (S90)) (af ag:List (S92)) (a1:Bool):Option (Bool):=if a1=true then ((Sbl.f aa 0 2).bind fun t203=>(some t203)) else (some (aa == 0))
theorem SaA_0 {G:Prop} (h:G:=by
  go_enter func107,ntmps107
  go_wp2_with (first|((with_reducible refine jd 2 rfl ?_);refine jX _ 92 ?_;intro aQ hg bg hbox hb;have aD:=aM hbox;have aT:=kG hg;replace HB:=kH hb;clear hb hbox hg;have bi:=jz8 aD)|((with_reducible refine jc 46 8 rfl rfl ?_);refine jG func46 #[iV aa,iV 0,iV 2] ?_;refine (Sbl.calls _ _ _ _ _ (Aside0.out (by assumption))).mono ?_;rintro e w' ⟨rfl,⟨nd,rfl⟩⟩;refine⟨_,rfl,?_⟩))
  go_ret
  exact⟨qW,qB⟩):G:=h
theorem SaA.calls (ay az aa aA aC:Int) (aG:Option Addr) (aH:Nat) (ae:List (S90)) (aI:Option Addr) (aJ:Nat) (af:List (S92)) (aK:Option Addr) (aN:Nat) (ag:List (S92)) (a1 r:Bool) (w:World) (ah:Kd.C k90 w aG ae.length ae) (ai:ae.length<=aH) (aj:Kd.C k92 w aI af.length af) (au:af.length<=aJ) (av:Kd.C k92 w aK ag.length ag) (ax:ag.length<=aN) (h:SaA.f ay az aa aA aC ae af ag a1=some r) :
  Calls prog 107 #[.agg #[iV ay,iV az,iV aa,iV aA,iV aC,.slice aG ae.length aH,.slice aI af.length aJ,.slice aK ag.length aN],.bool a1] w fun e w'=>e = .returned (.bool r)/\Below w.heap.size w w':=by
 have bn:=underlying92
 have aU:=aM ah
 have aV:=aM ai
 clear ah ai
 have aW:=aM aj
 have aX:=aM au
 clear aj au
 have aY:=aM av
 have aZ:=aM ax
 clear av ax
 have HB:=aM (Below.refl w.heap.size w)
 have H:=h;unfold SaA.f at H
 clear h
 replace H:=jB H;rcases H with ⟨rfl,H⟩ | ⟨rfl,H⟩
 ·obtain⟨t203,A4,H⟩:=qE H
  try dsimp only at H
  obtain rfl:=oJ H
  exact SaA_0
 obtain rfl:=oJ H
 exact SaA_0
def Sbk.f:Nat->Int->Int->List (S90)->Int->Option (Bool)
 | 0,_,_,_,_=>none
 | k+1,ai,aj,ae,a1=>if a1 < 1 then (some false) else (if ai=0 then ((Sbl.f aj 0 99999).bind fun t206=>(if t206=true then (some ((ae.length:Int) == 0)) else (some false))) else (if ai=13 then ((Sbl.f aj 0 3).bind fun bv=>(if bv=true then (some ((ae.length:Int) == 0)) else (some false))) else ((Saq.f ai).bind fun t208=>(if t208=true then (if aj=0 then (if (ae.length:Int)=2 then (if 0 < (ae.length:Int) then ((Sbk.f k ((rd_T90 ae 0).f0) ((rd_T90 ae 0).f1) ((rd_T90 ae 0).f2) (wrap64 (a1 - 1))).bind fun t210=>(if t210=true then (if 1 < (ae.length:Int) then ((Sbk.f k ((rd_T90 ae 1).f0) ((rd_T90 ae 1).f1) ((rd_T90 ae 1).f2) (wrap64 (a1 - 1))).bind fun t212=>(some t212)) else (none)) else (some false))) else (none)) else (some false)) else (some false)) else (some false)))))
theorem Sbk.calls (k:Nat):∀ (ai:Int) (aj:Int) (aZ:Option Addr) (bg:Nat) (ae:List (S90)) (a1:Int) (r:Bool) (w:World) (aT:Kd.C k90 w aZ ae.length ae) (aU:ae.length<=bg) (h:Sbk.f k ai aj ae a1=some r),
  Calls prog 119 #[.agg #[iV ai,iV aj,.slice aZ ae.length bg],iV a1] w fun e w'=>e = .returned (.bool r)/\Below w.heap.size w w':=by
 induction k using Nat.strongRecOn with
 | _ k ih =>
 intro ai aj aZ bg ae a1 r w aT aU h
 cases k with
 | zero=>exact absurd h (by simp [Sbk.f])
 | succ k =>
 simp only [Sbk.f] at h
 have bX:=underlying90
 have aV:=aM aT
 have bO:=aM aU
 clear aT aU
 have HB:=aM (Below.refl w.heap.size w)
 have H:=h
 clear h
 replace H:=jD H;rcases H with ⟨bI,H⟩ | ⟨bI,H⟩
 ·obtain rfl:=oJ H
  go_enter func119,ntmps119
  go_wp2_with (first|((with_reducible refine jd 2 rfl ?_);(try (refine gate_guard (by rfl) ?_;dsimp only));refine jX _ 90 ?_;intro au hg w4 hbox hb;have aa:=aM hbox;have av:=kG hg;replace HB:=kH hb;clear hb hbox hg))
  go_ret
  exact⟨qW,qB⟩
 replace H:=jE H;rcases H with ⟨bJ,bK,H⟩ | ⟨c5,bJ,bK,H⟩
 ·obtain⟨t206,A6,H⟩:=qE H
  try dsimp only at H
  replace H:=jB H;rcases H with ⟨rfl,H⟩ | ⟨rfl,H⟩
  ·obtain rfl:=oJ H
   go_enter func119,ntmps119
   go_wp2_with (first|((with_reducible refine jd 2 rfl ?_);(try (refine gate_guard (by rfl) ?_;dsimp only));refine jX _ 90 ?_;intro au hg w8 hbox hb;have aa:=aM hbox;have av:=kG hg;replace HB:=kH hb;clear hb hbox hg;have dw:=jz3 aa)|((with_reducible refine jc 46 12 rfl rfl ?_);refine jG func46 #[iV aj,iV 0,iV 99999] ?_;refine (Sbl.calls aj 0 99999 true _ A6.out).mono ?_;rintro e w' ⟨rfl,⟨nd,rfl⟩⟩;refine⟨_,rfl,?_⟩))
   go_ret
   exact⟨qW,qB⟩
  obtain rfl:=oJ H
  go_enter func119,ntmps119
  go_wp2_with (first|((with_reducible refine jd 2 rfl ?_);(try (refine gate_guard (by rfl) ?_;dsimp only));refine jX _ 90 ?_;intro au hg dx hbox hb;have aa:=aM hbox;have av:=kG hg;replace HB:=kH hb;clear hb hbox hg;have bY:=jz3 aa)|((with_reducible refine jc 46 12 rfl rfl ?_);refine jG func46 #[iV aj,iV 0,iV 99999] ?_;refine (Sbl.calls aj 0 99999 false _ A6.out).mono ?_;rintro e w' ⟨rfl,⟨nd,rfl⟩⟩;refine⟨_,rfl,?_⟩))
  go_ret
  exact⟨qW,qB⟩
 replace H:=jE H;rcases H with ⟨bz,bA,H⟩ | ⟨c12,bz,bA,H⟩
 ·obtain⟨bv,bP,H⟩:=qE H
  try dsimp only at H
  replace H:=jB H;rcases H with ⟨rfl,H⟩ | ⟨rfl,H⟩
  ·obtain rfl:=oJ H
   go_enter func119,ntmps119
   go_wp2_with (first|((with_reducible refine jd 2 rfl ?_);(try (refine gate_guard (by rfl) ?_;dsimp only));refine jX _ 90 ?_;intro au hg dz hbox hb;have aa:=aM hbox;have av:=kG hg;replace HB:=kH hb;clear hb hbox hg;have bZ:=jz3 aa)|((with_reducible refine jc 46 24 rfl rfl ?_);refine jG func46 #[iV aj,iV 0,iV 3] ?_;refine (Sbl.calls aj 0 3 true _ bP.out).mono ?_;rintro e w' ⟨rfl,⟨nd,rfl⟩⟩;refine⟨_,rfl,?_⟩))
   go_ret
   exact⟨qW,qB⟩
  obtain rfl:=oJ H
  go_enter func119,ntmps119
  go_wp2_with (first|((with_reducible refine jd 2 rfl ?_);(try (refine gate_guard (by rfl) ?_;dsimp only));refine jX _ 90 ?_;intro au hg dA hbox hb;have aa:=aM hbox;have av:=kG hg;replace HB:=kH hb;clear hb hbox hg;have cz:=jz3 aa)|((with_reducible refine jc 46 24 rfl rfl ?_);refine jG func46 #[iV aj,iV 0,iV 3] ?_;refine (Sbl.calls aj 0 3 false _ bP.out).mono ?_;rintro e w' ⟨rfl,⟨nd,rfl⟩⟩;refine⟨_,rfl,?_⟩))
  go_ret
  exact⟨qW,qB⟩
 obtain⟨t208,bB,H⟩:=qE H
 try dsimp only at H
 replace H:=jB H;rcases H with ⟨rfl,H⟩ | ⟨rfl,H⟩
 ·replace H:=jE H;rcases H with ⟨bC,bD,H⟩ | ⟨c21,bC,bD,H⟩
  ·replace H:=jE H;rcases H with ⟨bE,bF,H⟩ | ⟨dB,bE,bF,H⟩
   ·replace H:=jU H;obtain⟨c23,H⟩:=H
    have bQ:=decide_eq_true c23
    have bR:decide (0 < ae.length)=true:=decide_eq_true (by omega)
    clear c23
    obtain⟨t210,bS,H⟩:=qE H
    try dsimp only at H
    replace H:=jB H;rcases H with ⟨rfl,H⟩ | ⟨rfl,H⟩
    ·replace H:=jU H;obtain⟨bT,H⟩:=H
     have bU:=decide_eq_true bT
     have bV:decide (1 < ae.length)=true:=decide_eq_true (by omega)
     clear bT
     obtain⟨t212,cB,H⟩:=qE H
     try dsimp only at H
     obtain rfl:=oJ H
     go_enter func119,ntmps119
     go_wp2_with (first|((with_reducible refine jd 2 rfl ?_);(try (refine gate_guard (by rfl) ?_;dsimp only));refine jX _ 90 ?_;intro au hg dC hbox hb;have aa:=aM hbox;have av:=kG hg;replace HB:=kH hb;clear hb hbox hg;have cK:=jz3 aa)|((with_reducible refine jc 67 33 rfl rfl ?_);refine jG func67 #[iV ai] ?_;refine (Saq.calls ai true _ bB.out).mono ?_;rintro e w' ⟨rfl,⟨nd,rfl⟩⟩;refine⟨_,rfl,?_⟩;have aJ:0<=(0:Int):=(by omega);have aK:0 < (ae.length:Int):=qD;obtain⟨aY,bi,bn,e209,af,ag,ah,ax,ay⟩:=at_T90 aV.out 0 aJ aK;cases e209;have bG:(0 < ae.length)=True:=eq_true (by omega);(try rw [show ((0:Int)).toNat=0 from rfl] at af);(try rw [show 0*3=0 from rfl] at af);(try rw [Addr.add_zero'] at af);(try rw [show ((0:Int)).toNat=0 from rfl] at ag);(try rw [show 0*3=0 from rfl] at ag);(try rw [Addr.add_zero'] at ag);(try rw [show ((0:Int)).toNat=0 from rfl] at ah);(try rw [show 0*3=0 from rfl] at ah);(try rw [Addr.add_zero'] at ah);replace af:=kx HB af;replace ag:=kx HB ag;replace ah:=kx HB ah;have aD:=aM ay;have aG:=aM ax;clear ay ax;replace aJ:=eq_true aJ;replace aK:=eq_true aK)|(go_at_call 119;(with_reducible refine (ih k (by omega) ((rd_T90 ae 0).f0) ((rd_T90 ae 0).f1) _ _ ((rd_T90 ae 0).f2) (wrap64 (a1 - 1)) true _ ?aH ?aI bS.out).mono ?_);(case aH=>exact kC (Kd.C_below aD.out qB));(case aI=>exact aG.out);rintro e dD ⟨rfl,hb⟩;replace aa:=kB aa hb;replace HB:=kH hb;clear hb;have cO:=jz3 aa;have bq:0<=(1:Int):=(by omega);have bu:1 < (ae.length:Int):=qD;obtain⟨bH,bL,bM,e211,az,aA,aC,aN,aQ⟩:=at_T90 aV.out 1 bq bu;obtain rfl:aY=bH:=(by injection e211);(try simp only [show (1:Int).toNat=1 from rfl,Nat.reduceMul,Nat.reduceEqDiff,Go.Addr.add,↓reduceIte] at az);(try simp only [show (1:Int).toNat=1 from rfl,Nat.reduceMul,Nat.reduceEqDiff,Go.Addr.add,↓reduceIte] at aA);(try simp only [show (1:Int).toNat=1 from rfl,Nat.reduceMul,Nat.reduceEqDiff,Go.Addr.add,↓reduceIte] at aC);have bW:(1 < ae.length)=True:=eq_true (by omega);(try rw [show ((1:Int)).toNat=1 from rfl] at az);(try rw [show 1*3=3 from rfl] at az);(try rw [show ((1:Int)).toNat=1 from rfl] at aA);(try rw [show 1*3=3 from rfl] at aA);(try rw [show ((1:Int)).toNat=1 from rfl] at aC);(try rw [show 1*3=3 from rfl] at aC);replace az:=kx HB az;replace aA:=kx HB aA;replace aC:=kx HB aC;have aW:=aM aQ;have aX:=aM aN;clear aQ aN;replace bq:=eq_true bq;replace bu:=eq_true bu)|(go_at_call 119;(with_reducible refine (ih k (by omega) ((rd_T90 ae 1).f0) ((rd_T90 ae 1).f1) _ _ ((rd_T90 ae 1).f2) (wrap64 (a1 - 1)) t212 _ ?aH ?aI cB.out).mono ?_);(case aH=>exact kC (Kd.C_below aW.out HB.out));(case aI=>exact aX.out);rintro e w32 ⟨rfl,hb⟩;replace aa:=kB aa hb;replace HB:=kH hb;clear hb))
     go_ret
     exact⟨qW,qB⟩
    obtain rfl:=oJ H
    go_enter func119,ntmps119
    go_wp2_with (first|((with_reducible refine jd 2 rfl ?_);(try (refine gate_guard (by rfl) ?_;dsimp only));refine jX _ 90 ?_;intro au hg dE hbox hb;have aa:=aM hbox;have av:=kG hg;replace HB:=kH hb;clear hb hbox hg;have df:=jz3 aa)|((with_reducible refine jc 67 33 rfl rfl ?_);refine jG func67 #[iV ai] ?_;refine (Saq.calls ai true _ bB.out).mono ?_;rintro e w' ⟨rfl,⟨nd,rfl⟩⟩;refine⟨_,rfl,?_⟩;have aJ:0<=(0:Int):=(by omega);have aK:0 < (ae.length:Int):=qD;obtain⟨aY,bi,bn,e209,af,ag,ah,ax,ay⟩:=at_T90 aV.out 0 aJ aK;cases e209;have bG:(0 < ae.length)=True:=eq_true (by omega);(try rw [show ((0:Int)).toNat=0 from rfl] at af);(try rw [show 0*3=0 from rfl] at af);(try rw [Addr.add_zero'] at af);(try rw [show ((0:Int)).toNat=0 from rfl] at ag);(try rw [show 0*3=0 from rfl] at ag);(try rw [Addr.add_zero'] at ag);(try rw [show ((0:Int)).toNat=0 from rfl] at ah);(try rw [show 0*3=0 from rfl] at ah);(try rw [Addr.add_zero'] at ah);replace af:=kx HB af;replace ag:=kx HB ag;replace ah:=kx HB ah;have aD:=aM ay;have aG:=aM ax;clear ay ax;replace aJ:=eq_true aJ;replace aK:=eq_true aK)|(go_at_call 119;(with_reducible refine (ih k (by omega) ((rd_T90 ae 0).f0) ((rd_T90 ae 0).f1) _ _ ((rd_T90 ae 0).f2) (wrap64 (a1 - 1)) false _ ?aH ?aI bS.out).mono ?_);(case aH=>exact kC (Kd.C_below aD.out qB));(case aI=>exact aG.out);rintro e dF ⟨rfl,hb⟩;replace aa:=kB aa hb;replace HB:=kH hb;clear hb))
    go_ret
    exact⟨qW,qB⟩
   obtain rfl:=oJ H
   go_enter func119,ntmps119
   go_wp2_with (first|((with_reducible refine jd 2 rfl ?_);(try (refine gate_guard (by rfl) ?_;dsimp only));refine jX _ 90 ?_;intro au hg dG hbox hb;have aa:=aM hbox;have av:=kG hg;replace HB:=kH hb;clear hb hbox hg;have dh:=jz3 aa)|((with_reducible refine jc 67 33 rfl rfl ?_);refine jG func67 #[iV ai] ?_;refine (Saq.calls ai true _ bB.out).mono ?_;rintro e w' ⟨rfl,⟨nd,rfl⟩⟩;refine⟨_,rfl,?_⟩))
   go_ret
   exact⟨qW,qB⟩
  obtain rfl:=oJ H
  go_enter func119,ntmps119
  go_wp2_with (first|((with_reducible refine jd 2 rfl ?_);(try (refine gate_guard (by rfl) ?_;dsimp only));refine jX _ 90 ?_;intro au hg dH hbox hb;have aa:=aM hbox;have av:=kG hg;replace HB:=kH hb;clear hb hbox hg;have di:=jz3 aa)|((with_reducible refine jc 67 33 rfl rfl ?_);refine jG func67 #[iV ai] ?_;refine (Saq.calls ai true _ bB.out).mono ?_;rintro e w' ⟨rfl,⟨nd,rfl⟩⟩;refine⟨_,rfl,?_⟩))
  go_ret
  exact⟨qW,qB⟩
 obtain rfl:=oJ H
 go_enter func119,ntmps119
 go_wp2_with (first|((with_reducible refine jd 2 rfl ?_);(try (refine gate_guard (by rfl) ?_;dsimp only));refine jX _ 90 ?_;intro au hg dI hbox hb;have aa:=aM hbox;have av:=kG hg;replace HB:=kH hb;clear hb hbox hg;have dn:=jz3 aa)|((with_reducible refine jc 67 33 rfl rfl ?_);refine jG func67 #[iV ai] ?_;refine (Saq.calls ai false _ bB.out).mono ?_;rintro e w' ⟨rfl,⟨nd,rfl⟩⟩;refine⟨_,rfl,?_⟩))
 go_ret
 exact⟨qW,qB⟩
def Sal.f (k:Nat) (ae af:Int) (aa:List (S90)):Option (Bool):=(Sbk.f k ae af aa 5).bind fun ag=>(some ag)
theorem Sal.calls (k:Nat) (ae af:Int) (au:Option Addr) (av:Nat) (aa:List (S90)) (r:Bool) (w:World) (ai:Kd.C k90 w au aa.length aa) (aj:aa.length<=av) (h:Sal.f k ae af aa=some r) :
  Calls prog 108 #[.agg #[iV ae,iV af,.slice au aa.length av]] w fun e w'=>e = .returned (.bool r)/\Below w.heap.size w w':=by
 have aG:=underlying90
 have ax:=aM ai
 have ay:=aM aj
 clear ai aj
 have HB:=aM (Below.refl w.heap.size w)
 have H:((Sbk.f k ae af aa 5).bind fun ag=>(some ag))=some r:=h
 clear h
 obtain⟨ag,A2,H⟩:=qE H
 try dsimp only at H
 obtain rfl:=oJ H
 go_enter func108,ntmps108
 go_wp2_with (first|((with_reducible refine jd 1 rfl ?_);refine jX _ 90 ?_;intro aC hg w3 hbox hb;have ah:=aM hbox;have aD:=kG hg;replace HB:=kH hb;clear hb hbox hg;have aH:=jz3 ah)|((with_reducible refine jc 119 4 rfl rfl ?_);refine jG func119 #[.agg #[iV ae,iV af,.slice au aa.length av],iV 5] ?_;refine (Sbk.calls k ae af _ _ aa 5 ag _ ?az ?aA A2.out).mono ?_;(case az=>exact kC (Kd.C_below ax.out HB.out));(case aA=>exact ay.out);rintro e w5 ⟨rfl,hb⟩;refine⟨_,rfl,?_⟩;replace ah:=kB ah hb;replace HB:=kH hb;clear hb))
 go_ret
 exact⟨qW,qB⟩
def SaD.f (ae af:Int) (aa:List (S90)):Option (Bool):=if ae=0 then (if af=0 then (some ((aa.length:Int) == 0)) else (some false)) else (some false)
theorem SaD_0 {G:Prop} (h:G:=by
  go_enter func118,ntmps118
  go_wp2_with (first|((with_reducible refine jd 1 rfl ?_);(try (refine gate_guard (by rfl) ?_;dsimp only));refine jX _ 90 ?_;intro aA hg aH hbox hb;have ai:=aM hbox;have aC:=kG hg;replace HB:=kH hb;clear hb hbox hg;have aI:=jz3 ai))
  go_ret
  exact⟨qW,qB⟩):G:=h
theorem SaD.calls (ae af:Int) (aj:Option Addr) (au:Nat) (aa:List (S90)) (r:Bool) (w:World) (ag:Kd.C k90 w aj aa.length aa) (ah:aa.length<=au) (h:SaD.f ae af aa=some r) :
  Calls prog 118 #[.agg #[iV ae,iV af,.slice aj aa.length au]] w fun e w'=>e = .returned (.bool r)/\Below w.heap.size w w':=by
 have aJ:=underlying90
 have aD:=aM ag
 have aG:=aM ah
 clear ag ah
 have HB:=aM (Below.refl w.heap.size w)
 have H:=h;unfold SaD.f at H
 clear h
 replace H:=jE H;rcases H with ⟨av,ax,H⟩ | ⟨c2,av,ax,H⟩
 ·replace H:=jE H;rcases H with ⟨ay,az,H⟩ | ⟨c3,ay,az,H⟩
  ·obtain rfl:=oJ H
   exact SaD_0
  obtain rfl:=oJ H
  exact SaD_0
 obtain rfl:=oJ H
 exact SaD_0
def SaE.j0:Nat->Bool->Int->Int->Int->Int->Int->List (S90)->List (S92)->List (S92)->Option (Bool)
 | 0,_,_,_,_,_,_,_,_,_=>none
 | k+1,di,xa,xb,xc,xd,xe,xf,xg,xh=>if di=true then (some false) else (if xa=1 then ((SaF.f xa xb xc xd xe xf xg xh true).bind fun bC=>(if bC=true then ((SaA.f xa xb xc xd xe xf xg xh false).bind fun t218=>(if t218=true then ((Sal.f k xd xe xf).bind fun bz=>(some bz)) else (some false))) else (some false))) else (if xa=4 then ((SaF.f xa xb xc xd xe xf xg xh false).bind fun bD=>(if bD=true then ((SaA.f xa xb xc xd xe xf xg xh true).bind fun bE=>(if bE=true then ((Sal.f k xd xe xf).bind fun t222=>(some t222)) else (some false))) else (some false))) else (if xa=5 then ((SaF.f xa xb xc xd xe xf xg xh true).bind fun bF=>(if bF=true then ((SaA.f xa xb xc xd xe xf xg xh true).bind fun bG=>(if bG=true then ((SaD.f xd xe xf).bind fun bA=>(some bA)) else (some false))) else (some false))) else (if xa=6 then ((SaF.f xa xb xc xd xe xf xg xh false).bind fun t226=>(if t226=true then ((SaA.f xa xb xc xd xe xf xg xh false).bind fun t227=>(if t227=true then ((SaD.f xd xe xf).bind fun t228=>(some t228)) else (some false))) else (some false))) else (if xa=7 then ((SaF.f xa xb xc xd xe xf xg xh false).bind fun t229=>(if t229=true then ((SaA.f xa xb xc xd xe xf xg xh false).bind fun bH=>(if bH=true then ((Sal.f k xd xe xf).bind fun bB=>(some bB)) else (some false))) else (some false))) else (some false))))))
def SaE.f (k:Nat) (aA aC aD ax ay:Int) (au:List (S90)) (av az:List (S92)):Option (Bool):=if (av.length:Int) > 0 then (SaE.j0 k true aA aC aD ax ay au av az) else (SaE.j0 k (decide ((az.length:Int) > 0)) aA aC aD ax ay au av az)
theorem SaE.calls (k:Nat) (aA aC aD ax ay:Int) (aQ:Option Addr) (aT:Nat) (au:List (S90)) (aU:Option Addr) (aV:Nat) (av:List (S92)) (aW:Option Addr) (aX:Nat) (az:List (S92)) (r:Bool) (w:World) (bg:Kd.C k90 w aQ au.length au) (bi:au.length<=aT) (bn:Kd.C k92 w aU av.length av) (bq:av.length<=aV) (bu:Kd.C k92 w aW az.length az) (bv:az.length<=aX) (h:SaE.f k aA aC aD ax ay au av az=some r) :
  Calls prog 105 #[.agg #[iV aA,iV aC,iV aD,iV ax,iV ay,.slice aQ au.length aT,.slice aU av.length aV,.slice aW az.length aX]] w fun e w'=>e = .returned (.bool r)/\Below w.heap.size w w':=by
 have dw:=underlying92
 have dx:=underlying90
 have aG:=aM bg
 have aH:=aM bi
 clear bg bi
 have aI:=aM bn
 have aJ:=aM bq
 clear bn bq
 have aK:=aM bu
 have aN:=aM bv
 clear bu bv
 have HB:=aM (Below.refl w.heap.size w)
 have H:=h;unfold SaE.f at H
 clear h
 have bR:=aM H
 clear H
 go_enter func105,ntmps105
 go_upto_region 1 with (first|((with_reducible refine jd 1 rfl ?_);(try (refine gate_guard (by rfl) ?_;dsimp only));refine jX _ 92 ?_;intro bI hg w3 hbox hb;have aa:=aM hbox;have cz:=kG hg;replace HB:=kH hb;clear hb hbox hg))
 (try simp only [Act.put,List.setIfInBounds_toArray,List.set_cons_zero,List.set_cons_succ])
 go_cut [12] (fun v12 wc=>∃ (kq:Nat) (aY:Bool),v12 = .bool aY/\Aside0 (SaE.j0 kq aY aA aC aD ax ay au av az=some r)/\Aside0 (kq<=k)/\Aside0 (wc.heap[bI]?=some (.cells #[iV aA,iV aC,iV aD,iV ax,iV ay,(.slice aQ au.length aT),(.slice aU av.length aV),(.slice aW az.length aX)] 92 (0,0)))/\Aside0 (Below w.heap.size w wc))
 case first =>
  have H:=bR.out
  clear bR
  by_cases c4:(av.length:Int) > 0
  ·rw [if_pos c4] at H
   have aZ:=decide_eq_true c4
   have bS:decide (0 < av.length)=true:=decide_eq_true (by omega)
   clear c4
   (first|rw [aZ]|(simp only [i64_w,i32_w];rw [aZ])|skip)
   have H':=aM H
   clear H
   have eQ:=jz8 aa
   go_wp2
   go_meet
   exact⟨_,(true),qZ,H',⟨by first|omega|exact Nat.le_refl _⟩,⟨qK aa⟩,⟨qB⟩⟩
  rw [if_neg c4] at H
  have aZ:=decide_eq_false c4
  have bS:decide (0 < av.length)=false:=decide_eq_false (by omega)
  clear c4
  (first|rw [aZ]|(simp only [i64_w,i32_w];rw [aZ])|skip)
  have H':=aM H
  clear H
  have eT:=jz8 aa
  go_wp2
  go_meet
  exact⟨_,(decide ((az.length:Int) > 0)),qZ,H',⟨by first|omega|exact Nat.le_refl _⟩,⟨qK aa⟩,⟨qB⟩⟩
 clear bR
 obtain⟨kq,aY,rfl,HA,eU,aa,HB⟩:=hcut
 cases kq with
 | zero=>exact absurd HA.out (by simp [SaE.j0])
 | succ bT =>
  have H:=HA.out
  clear HA
  simp only [SaE.j0] at H
  replace H:=jB H;rcases H with ⟨rfl,H⟩ | ⟨rfl,H⟩
  ·obtain rfl:=oJ H
   go_wp2
   go_ret
   exact⟨qW,qB⟩
  replace H:=jE H;rcases H with ⟨bU,bV,H⟩ | ⟨c8,bU,bV,H⟩
  ·obtain⟨bC,A9,H⟩:=qE H
   try dsimp only at H
   replace H:=jB H;rcases H with ⟨rfl,H⟩ | ⟨rfl,H⟩
   ·obtain⟨t218,cB,H⟩:=qE H
    try dsimp only at H
    replace H:=jB H;rcases H with ⟨rfl,H⟩ | ⟨rfl,H⟩
    ·obtain⟨bz,dz,H⟩:=qE H
     try dsimp only at H
     obtain rfl:=oJ H
     have dA:=jz8 aa
     go_wp2_with (first|((with_reducible refine jc 106 18 rfl rfl ?_);refine jG func106 #[.agg #[iV aA,iV aC,iV aD,iV ax,iV ay,.slice aQ au.length aT,.slice aU av.length aV,.slice aW az.length aX],.bool true] ?_;refine (SaF.calls aA aC aD ax ay _ _ au _ _ av _ _ az true true _ ?ae ?af ?ag ?ah ?ai ?aj A9.out).mono ?_;(case ae=>exact kC (Kd.C_below aG.out HB.out));(case af=>exact aH.out);(case ag=>exact kC (Kd.C_below aI.out HB.out));(case ah=>exact aJ.out);(case ai=>exact kC (Kd.C_below aK.out HB.out));(case aj=>exact aN.out);rintro e eX ⟨rfl,hb⟩;refine⟨_,rfl,?_⟩;replace aa:=kB aa hb;replace HB:=kH hb;clear hb;have dB:=jz8 aa)|(go_at_call 107;(with_reducible refine (SaA.calls aA aC aD ax ay _ _ au _ _ av _ _ az false true _ ?ae ?af ?ag ?ah ?ai ?aj cB.out).mono ?_);(case ae=>exact kC (Kd.C_below aG.out HB.out));(case af=>exact aH.out);(case ag=>exact kC (Kd.C_below aI.out HB.out));(case ah=>exact aJ.out);(case ai=>exact kC (Kd.C_below aK.out HB.out));(case aj=>exact aN.out);rintro e eY ⟨rfl,hb⟩;replace aa:=kB aa hb;replace HB:=kH hb;clear hb;have dC:=jz8 aa)|(go_at_call 108;(with_reducible refine (Sal.calls bT ax ay _ _ au bz _ ?ae ?af dz.out).mono ?_);(case ae=>exact kC (Kd.C_below aG.out HB.out));(case af=>exact aH.out);rintro e eZ ⟨rfl,hb⟩;replace aa:=kB aa hb;replace HB:=kH hb;clear hb))
     go_ret
     exact⟨qW,qB⟩
    obtain rfl:=oJ H
    have dD:=jz8 aa
    go_wp2_with (first|((with_reducible refine jc 106 18 rfl rfl ?_);refine jG func106 #[.agg #[iV aA,iV aC,iV aD,iV ax,iV ay,.slice aQ au.length aT,.slice aU av.length aV,.slice aW az.length aX],.bool true] ?_;refine (SaF.calls aA aC aD ax ay _ _ au _ _ av _ _ az true true _ ?ae ?af ?ag ?ah ?ai ?aj A9.out).mono ?_;(case ae=>exact kC (Kd.C_below aG.out HB.out));(case af=>exact aH.out);(case ag=>exact kC (Kd.C_below aI.out HB.out));(case ah=>exact aJ.out);(case ai=>exact kC (Kd.C_below aK.out HB.out));(case aj=>exact aN.out);rintro e fe ⟨rfl,hb⟩;refine⟨_,rfl,?_⟩;replace aa:=kB aa hb;replace HB:=kH hb;clear hb;have dE:=jz8 aa)|(go_at_call 107;(with_reducible refine (SaA.calls aA aC aD ax ay _ _ au _ _ av _ _ az false false _ ?ae ?af ?ag ?ah ?ai ?aj cB.out).mono ?_);(case ae=>exact kC (Kd.C_below aG.out HB.out));(case af=>exact aH.out);(case ag=>exact kC (Kd.C_below aI.out HB.out));(case ah=>exact aJ.out);(case ai=>exact kC (Kd.C_below aK.out HB.out));(case aj=>exact aN.out);rintro e fo ⟨rfl,hb⟩;replace aa:=kB aa hb;replace HB:=kH hb;clear hb))
    go_ret
    exact⟨qW,qB⟩
   obtain rfl:=oJ H
   have dF:=jz8 aa
   go_wp2_with (first|((with_reducible refine jc 106 18 rfl rfl ?_);refine jG func106 #[.agg #[iV aA,iV aC,iV aD,iV ax,iV ay,.slice aQ au.length aT,.slice aU av.length aV,.slice aW az.length aX],.bool true] ?_;refine (SaF.calls aA aC aD ax ay _ _ au _ _ av _ _ az true false _ ?ae ?af ?ag ?ah ?ai ?aj A9.out).mono ?_;(case ae=>exact kC (Kd.C_below aG.out HB.out));(case af=>exact aH.out);(case ag=>exact kC (Kd.C_below aI.out HB.out));(case ah=>exact aJ.out);(case ai=>exact kC (Kd.C_below aK.out HB.out));(case aj=>exact aN.out);rintro e fq ⟨rfl,hb⟩;refine⟨_,rfl,?_⟩;replace aa:=kB aa hb;replace HB:=kH hb;clear hb))
   go_ret
   exact⟨qW,qB⟩
  replace H:=jE H;rcases H with ⟨bJ,bK,H⟩ | ⟨fu,bJ,bK,H⟩
  ·obtain⟨bD,bW,H⟩:=qE H
   try dsimp only at H
   replace H:=jB H;rcases H with ⟨rfl,H⟩ | ⟨rfl,H⟩
   ·obtain⟨bE,cK,H⟩:=qE H
    try dsimp only at H
    replace H:=jB H;rcases H with ⟨rfl,H⟩ | ⟨rfl,H⟩
    ·obtain⟨t222,dG,H⟩:=qE H
     try dsimp only at H
     obtain rfl:=oJ H
     have dH:=jz8 aa
     go_wp2_with (first|((with_reducible refine jc 106 31 rfl rfl ?_);refine jG func106 #[.agg #[iV aA,iV aC,iV aD,iV ax,iV ay,.slice aQ au.length aT,.slice aU av.length aV,.slice aW az.length aX],.bool false] ?_;refine (SaF.calls aA aC aD ax ay _ _ au _ _ av _ _ az false true _ ?ae ?af ?ag ?ah ?ai ?aj bW.out).mono ?_;(case ae=>exact kC (Kd.C_below aG.out HB.out));(case af=>exact aH.out);(case ag=>exact kC (Kd.C_below aI.out HB.out));(case ah=>exact aJ.out);(case ai=>exact kC (Kd.C_below aK.out HB.out));(case aj=>exact aN.out);rintro e fw ⟨rfl,hb⟩;refine⟨_,rfl,?_⟩;replace aa:=kB aa hb;replace HB:=kH hb;clear hb;have dI:=jz8 aa)|(go_at_call 107;(with_reducible refine (SaA.calls aA aC aD ax ay _ _ au _ _ av _ _ az true true _ ?ae ?af ?ag ?ah ?ai ?aj cK.out).mono ?_);(case ae=>exact kC (Kd.C_below aG.out HB.out));(case af=>exact aH.out);(case ag=>exact kC (Kd.C_below aI.out HB.out));(case ah=>exact aJ.out);(case ai=>exact kC (Kd.C_below aK.out HB.out));(case aj=>exact aN.out);rintro e fA ⟨rfl,hb⟩;replace aa:=kB aa hb;replace HB:=kH hb;clear hb;have dJ:=jz8 aa)|(go_at_call 108;(with_reducible refine (Sal.calls bT ax ay _ _ au t222 _ ?ae ?af dG.out).mono ?_);(case ae=>exact kC (Kd.C_below aG.out HB.out));(case af=>exact aH.out);rintro e fB ⟨rfl,hb⟩;replace aa:=kB aa hb;replace HB:=kH hb;clear hb))
     go_ret
     exact⟨qW,qB⟩
    obtain rfl:=oJ H
    have dK:=jz8 aa
    go_wp2_with (first|((with_reducible refine jc 106 31 rfl rfl ?_);refine jG func106 #[.agg #[iV aA,iV aC,iV aD,iV ax,iV ay,.slice aQ au.length aT,.slice aU av.length aV,.slice aW az.length aX],.bool false] ?_;refine (SaF.calls aA aC aD ax ay _ _ au _ _ av _ _ az false true _ ?ae ?af ?ag ?ah ?ai ?aj bW.out).mono ?_;(case ae=>exact kC (Kd.C_below aG.out HB.out));(case af=>exact aH.out);(case ag=>exact kC (Kd.C_below aI.out HB.out));(case ah=>exact aJ.out);(case ai=>exact kC (Kd.C_below aK.out HB.out));(case aj=>exact aN.out);rintro e fC ⟨rfl,hb⟩;refine⟨_,rfl,?_⟩;replace aa:=kB aa hb;replace HB:=kH hb;clear hb;have dL:=jz8 aa)|(go_at_call 107;(with_reducible refine (SaA.calls aA aC aD ax ay _ _ au _ _ av _ _ az true false _ ?ae ?af ?ag ?ah ?ai ?aj cK.out).mono ?_);(case ae=>exact kC (Kd.C_below aG.out HB.out));(case af=>exact aH.out);(case ag=>exact kC (Kd.C_below aI.out HB.out));(case ah=>exact aJ.out);(case ai=>exact kC (Kd.C_below aK.out HB.out));(case aj=>exact aN.out);rintro e fD ⟨rfl,hb⟩;replace aa:=kB aa hb;replace HB:=kH hb;clear hb))
    go_ret
    exact⟨qW,qB⟩
   obtain rfl:=oJ H
   have dM:=jz8 aa
   go_wp2_with (first|((with_reducible refine jc 106 31 rfl rfl ?_);refine jG func106 #[.agg #[iV aA,iV aC,iV aD,iV ax,iV ay,.slice aQ au.length aT,.slice aU av.length aV,.slice aW az.length aX],.bool false] ?_;refine (SaF.calls aA aC aD ax ay _ _ au _ _ av _ _ az false false _ ?ae ?af ?ag ?ah ?ai ?aj bW.out).mono ?_;(case ae=>exact kC (Kd.C_below aG.out HB.out));(case af=>exact aH.out);(case ag=>exact kC (Kd.C_below aI.out HB.out));(case ah=>exact aJ.out);(case ai=>exact kC (Kd.C_below aK.out HB.out));(case aj=>exact aN.out);rintro e fE ⟨rfl,hb⟩;refine⟨_,rfl,?_⟩;replace aa:=kB aa hb;replace HB:=kH hb;clear hb))
   go_ret
   exact⟨qW,qB⟩
  replace H:=jE H;rcases H with ⟨bL,bM,H⟩ | ⟨fF,bL,bM,H⟩
  ·obtain⟨bF,bX,H⟩:=qE H
   try dsimp only at H
   replace H:=jB H;rcases H with ⟨rfl,H⟩ | ⟨rfl,H⟩
   ·obtain⟨bG,cO,H⟩:=qE H
    try dsimp only at H
    replace H:=jB H;rcases H with ⟨rfl,H⟩ | ⟨rfl,H⟩
    ·obtain⟨bA,dN,H⟩:=qE H
     try dsimp only at H
     obtain rfl:=oJ H
     have dO:=jz8 aa
     go_wp2_with (first|((with_reducible refine jc 106 44 rfl rfl ?_);refine jG func106 #[.agg #[iV aA,iV aC,iV aD,iV ax,iV ay,.slice aQ au.length aT,.slice aU av.length aV,.slice aW az.length aX],.bool true] ?_;refine (SaF.calls aA aC aD ax ay _ _ au _ _ av _ _ az true true _ ?ae ?af ?ag ?ah ?ai ?aj bX.out).mono ?_;(case ae=>exact kC (Kd.C_below aG.out HB.out));(case af=>exact aH.out);(case ag=>exact kC (Kd.C_below aI.out HB.out));(case ah=>exact aJ.out);(case ai=>exact kC (Kd.C_below aK.out HB.out));(case aj=>exact aN.out);rintro e fG ⟨rfl,hb⟩;refine⟨_,rfl,?_⟩;replace aa:=kB aa hb;replace HB:=kH hb;clear hb;have dP:=jz8 aa)|(go_at_call 107;(with_reducible refine (SaA.calls aA aC aD ax ay _ _ au _ _ av _ _ az true true _ ?ae ?af ?ag ?ah ?ai ?aj cO.out).mono ?_);(case ae=>exact kC (Kd.C_below aG.out HB.out));(case af=>exact aH.out);(case ag=>exact kC (Kd.C_below aI.out HB.out));(case ah=>exact aJ.out);(case ai=>exact kC (Kd.C_below aK.out HB.out));(case aj=>exact aN.out);rintro e fH ⟨rfl,hb⟩;replace aa:=kB aa hb;replace HB:=kH hb;clear hb;have dQ:=jz8 aa)|(go_at_call 118;(with_reducible refine (SaD.calls ax ay _ _ au bA _ ?ae ?af dN.out).mono ?_);(case ae=>exact kC (Kd.C_below aG.out HB.out));(case af=>exact aH.out);rintro e fI ⟨rfl,hb⟩;replace aa:=kB aa hb;replace HB:=kH hb;clear hb))
     go_ret
     exact⟨qW,qB⟩
    obtain rfl:=oJ H
    have dR:=jz8 aa
    go_wp2_with (first|((with_reducible refine jc 106 44 rfl rfl ?_);refine jG func106 #[.agg #[iV aA,iV aC,iV aD,iV ax,iV ay,.slice aQ au.length aT,.slice aU av.length aV,.slice aW az.length aX],.bool true] ?_;refine (SaF.calls aA aC aD ax ay _ _ au _ _ av _ _ az true true _ ?ae ?af ?ag ?ah ?ai ?aj bX.out).mono ?_;(case ae=>exact kC (Kd.C_below aG.out HB.out));(case af=>exact aH.out);(case ag=>exact kC (Kd.C_below aI.out HB.out));(case ah=>exact aJ.out);(case ai=>exact kC (Kd.C_below aK.out HB.out));(case aj=>exact aN.out);rintro e fJ ⟨rfl,hb⟩;refine⟨_,rfl,?_⟩;replace aa:=kB aa hb;replace HB:=kH hb;clear hb;have dS:=jz8 aa)|(go_at_call 107;(with_reducible refine (SaA.calls aA aC aD ax ay _ _ au _ _ av _ _ az true false _ ?ae ?af ?ag ?ah ?ai ?aj cO.out).mono ?_);(case ae=>exact kC (Kd.C_below aG.out HB.out));(case af=>exact aH.out);(case ag=>exact kC (Kd.C_below aI.out HB.out));(case ah=>exact aJ.out);(case ai=>exact kC (Kd.C_below aK.out HB.out));(case aj=>exact aN.out);rintro e fK ⟨rfl,hb⟩;replace aa:=kB aa hb;replace HB:=kH hb;clear hb))
    go_ret
    exact⟨qW,qB⟩
   obtain rfl:=oJ H
   have dU:=jz8 aa
   go_wp2_with (first|((with_reducible refine jc 106 44 rfl rfl ?_);refine jG func106 #[.agg #[iV aA,iV aC,iV aD,iV ax,iV ay,.slice aQ au.length aT,.slice aU av.length aV,.slice aW az.length aX],.bool true] ?_;refine (SaF.calls aA aC aD ax ay _ _ au _ _ av _ _ az true false _ ?ae ?af ?ag ?ah ?ai ?aj bX.out).mono ?_;(case ae=>exact kC (Kd.C_below aG.out HB.out));(case af=>exact aH.out);(case ag=>exact kC (Kd.C_below aI.out HB.out));(case ah=>exact aJ.out);(case ai=>exact kC (Kd.C_below aK.out HB.out));(case aj=>exact aN.out);rintro e fM ⟨rfl,hb⟩;refine⟨_,rfl,?_⟩;replace aa:=kB aa hb;replace HB:=kH hb;clear hb))
   go_ret
   exact⟨qW,qB⟩
  replace H:=jE H;rcases H with ⟨bN,bO,H⟩ | ⟨fO,bN,bO,H⟩
  ·obtain⟨t226,bY,H⟩:=qE H
   try dsimp only at H
   replace H:=jB H;rcases H with ⟨rfl,H⟩ | ⟨rfl,H⟩
   ·obtain⟨t227,df,H⟩:=qE H
    try dsimp only at H
    replace H:=jB H;rcases H with ⟨rfl,H⟩ | ⟨rfl,H⟩
    ·obtain⟨t228,dV,H⟩:=qE H
     try dsimp only at H
     obtain rfl:=oJ H
     have dW:=jz8 aa
     go_wp2_with (first|((with_reducible refine jc 106 57 rfl rfl ?_);refine jG func106 #[.agg #[iV aA,iV aC,iV aD,iV ax,iV ay,.slice aQ au.length aT,.slice aU av.length aV,.slice aW az.length aX],.bool false] ?_;refine (SaF.calls aA aC aD ax ay _ _ au _ _ av _ _ az false true _ ?ae ?af ?ag ?ah ?ai ?aj bY.out).mono ?_;(case ae=>exact kC (Kd.C_below aG.out HB.out));(case af=>exact aH.out);(case ag=>exact kC (Kd.C_below aI.out HB.out));(case ah=>exact aJ.out);(case ai=>exact kC (Kd.C_below aK.out HB.out));(case aj=>exact aN.out);rintro e fP ⟨rfl,hb⟩;refine⟨_,rfl,?_⟩;replace aa:=kB aa hb;replace HB:=kH hb;clear hb;have dX:=jz8 aa)|(go_at_call 107;(with_reducible refine (SaA.calls aA aC aD ax ay _ _ au _ _ av _ _ az false true _ ?ae ?af ?ag ?ah ?ai ?aj df.out).mono ?_);(case ae=>exact kC (Kd.C_below aG.out HB.out));(case af=>exact aH.out);(case ag=>exact kC (Kd.C_below aI.out HB.out));(case ah=>exact aJ.out);(case ai=>exact kC (Kd.C_below aK.out HB.out));(case aj=>exact aN.out);rintro e fQ ⟨rfl,hb⟩;replace aa:=kB aa hb;replace HB:=kH hb;clear hb;have dY:=jz8 aa)|(go_at_call 118;(with_reducible refine (SaD.calls ax ay _ _ au t228 _ ?ae ?af dV.out).mono ?_);(case ae=>exact kC (Kd.C_below aG.out HB.out));(case af=>exact aH.out);rintro e fT ⟨rfl,hb⟩;replace aa:=kB aa hb;replace HB:=kH hb;clear hb))
     go_ret
     exact⟨qW,qB⟩
    obtain rfl:=oJ H
    have dZ:=jz8 aa
    go_wp2_with (first|((with_reducible refine jc 106 57 rfl rfl ?_);refine jG func106 #[.agg #[iV aA,iV aC,iV aD,iV ax,iV ay,.slice aQ au.length aT,.slice aU av.length aV,.slice aW az.length aX],.bool false] ?_;refine (SaF.calls aA aC aD ax ay _ _ au _ _ av _ _ az false true _ ?ae ?af ?ag ?ah ?ai ?aj bY.out).mono ?_;(case ae=>exact kC (Kd.C_below aG.out HB.out));(case af=>exact aH.out);(case ag=>exact kC (Kd.C_below aI.out HB.out));(case ah=>exact aJ.out);(case ai=>exact kC (Kd.C_below aK.out HB.out));(case aj=>exact aN.out);rintro e fU ⟨rfl,hb⟩;refine⟨_,rfl,?_⟩;replace aa:=kB aa hb;replace HB:=kH hb;clear hb;have d9:=jz8 aa)|(go_at_call 107;(with_reducible refine (SaA.calls aA aC aD ax ay _ _ au _ _ av _ _ az false false _ ?ae ?af ?ag ?ah ?ai ?aj df.out).mono ?_);(case ae=>exact kC (Kd.C_below aG.out HB.out));(case af=>exact aH.out);(case ag=>exact kC (Kd.C_below aI.out HB.out));(case ah=>exact aJ.out);(case ai=>exact kC (Kd.C_below aK.out HB.out));(case aj=>exact aN.out);rintro e fV ⟨rfl,hb⟩;replace aa:=kB aa hb;replace HB:=kH hb;clear hb))
    go_ret
    exact⟨qW,qB⟩
   obtain rfl:=oJ H
   have ek:=jz8 aa
   go_wp2_with (first|((with_reducible refine jc 106 57 rfl rfl ?_);refine jG func106 #[.agg #[iV aA,iV aC,iV aD,iV ax,iV ay,.slice aQ au.length aT,.slice aU av.length aV,.slice aW az.length aX],.bool false] ?_;refine (SaF.calls aA aC aD ax ay _ _ au _ _ av _ _ az false false _ ?ae ?af ?ag ?ah ?ai ?aj bY.out).mono ?_;(case ae=>exact kC (Kd.C_below aG.out HB.out));(case af=>exact aH.out);(case ag=>exact kC (Kd.C_below aI.out HB.out));(case ah=>exact aJ.out);(case ai=>exact kC (Kd.C_below aK.out HB.out));(case aj=>exact aN.out);rintro e fZ ⟨rfl,hb⟩;refine⟨_,rfl,?_⟩;replace aa:=kB aa hb;replace HB:=kH hb;clear hb))
   go_ret
   exact⟨qW,qB⟩
  replace H:=jE H;rcases H with ⟨bP,bQ,H⟩ | ⟨c80,bP,bQ,H⟩
  ·obtain⟨t229,bZ,H⟩:=qE H
   try dsimp only at H
   replace H:=jB H;rcases H with ⟨rfl,H⟩ | ⟨rfl,H⟩
   ·obtain⟨bH,dh,H⟩:=qE H
    try dsimp only at H
    replace H:=jB H;rcases H with ⟨rfl,H⟩ | ⟨rfl,H⟩
    ·obtain⟨bB,eu,H⟩:=qE H
     try dsimp only at H
     obtain rfl:=oJ H
     have eB:=jz8 aa
     go_wp2_with (first|((with_reducible refine jc 106 70 rfl rfl ?_);refine jG func106 #[.agg #[iV aA,iV aC,iV aD,iV ax,iV ay,.slice aQ au.length aT,.slice aU av.length aV,.slice aW az.length aX],.bool false] ?_;refine (SaF.calls aA aC aD ax ay _ _ au _ _ av _ _ az false true _ ?ae ?af ?ag ?ah ?ai ?aj bZ.out).mono ?_;(case ae=>exact kC (Kd.C_below aG.out HB.out));(case af=>exact aH.out);(case ag=>exact kC (Kd.C_below aI.out HB.out));(case ah=>exact aJ.out);(case ai=>exact kC (Kd.C_below aK.out HB.out));(case aj=>exact aN.out);rintro e gm ⟨rfl,hb⟩;refine⟨_,rfl,?_⟩;replace aa:=kB aa hb;replace HB:=kH hb;clear hb;have eD:=jz8 aa)|(go_at_call 107;(with_reducible refine (SaA.calls aA aC aD ax ay _ _ au _ _ av _ _ az false true _ ?ae ?af ?ag ?ah ?ai ?aj dh.out).mono ?_);(case ae=>exact kC (Kd.C_below aG.out HB.out));(case af=>exact aH.out);(case ag=>exact kC (Kd.C_below aI.out HB.out));(case ah=>exact aJ.out);(case ai=>exact kC (Kd.C_below aK.out HB.out));(case aj=>exact aN.out);rintro e gp ⟨rfl,hb⟩;replace aa:=kB aa hb;replace HB:=kH hb;clear hb;have eF:=jz8 aa)|(go_at_call 108;(with_reducible refine (Sal.calls bT ax ay _ _ au bB _ ?ae ?af eu.out).mono ?_);(case ae=>exact kC (Kd.C_below aG.out HB.out));(case af=>exact aH.out);rintro e gq ⟨rfl,hb⟩;replace aa:=kB aa hb;replace HB:=kH hb;clear hb))
     go_ret
     exact⟨qW,qB⟩
    obtain rfl:=oJ H
    have eG:=jz8 aa
    go_wp2_with (first|((with_reducible refine jc 106 70 rfl rfl ?_);refine jG func106 #[.agg #[iV aA,iV aC,iV aD,iV ax,iV ay,.slice aQ au.length aT,.slice aU av.length aV,.slice aW az.length aX],.bool false] ?_;refine (SaF.calls aA aC aD ax ay _ _ au _ _ av _ _ az false true _ ?ae ?af ?ag ?ah ?ai ?aj bZ.out).mono ?_;(case ae=>exact kC (Kd.C_below aG.out HB.out));(case af=>exact aH.out);(case ag=>exact kC (Kd.C_below aI.out HB.out));(case ah=>exact aJ.out);(case ai=>exact kC (Kd.C_below aK.out HB.out));(case aj=>exact aN.out);rintro e gu ⟨rfl,hb⟩;refine⟨_,rfl,?_⟩;replace aa:=kB aa hb;replace HB:=kH hb;clear hb;have eH:=jz8 aa)|(go_at_call 107;(with_reducible refine (SaA.calls aA aC aD ax ay _ _ au _ _ av _ _ az false false _ ?ae ?af ?ag ?ah ?ai ?aj dh.out).mono ?_);(case ae=>exact kC (Kd.C_below aG.out HB.out));(case af=>exact aH.out);(case ag=>exact kC (Kd.C_below aI.out HB.out));(case ah=>exact aJ.out);(case ai=>exact kC (Kd.C_below aK.out HB.out));(case aj=>exact aN.out);rintro e gz ⟨rfl,hb⟩;replace aa:=kB aa hb;replace HB:=kH hb;clear hb))
    go_ret
    exact⟨qW,qB⟩
   obtain rfl:=oJ H
   have eO:=jz8 aa
   go_wp2_with (first|((with_reducible refine jc 106 70 rfl rfl ?_);refine jG func106 #[.agg #[iV aA,iV aC,iV aD,iV ax,iV ay,.slice aQ au.length aT,.slice aU av.length aV,.slice aW az.length aX],.bool false] ?_;refine (SaF.calls aA aC aD ax ay _ _ au _ _ av _ _ az false false _ ?ae ?af ?ag ?ah ?ai ?aj bZ.out).mono ?_;(case ae=>exact kC (Kd.C_below aG.out HB.out));(case af=>exact aH.out);(case ag=>exact kC (Kd.C_below aI.out HB.out));(case ah=>exact aJ.out);(case ai=>exact kC (Kd.C_below aK.out HB.out));(case aj=>exact aN.out);rintro e gB ⟨rfl,hb⟩;refine⟨_,rfl,?_⟩;replace aa:=kB aa hb;replace HB:=kH hb;clear hb))
   go_ret
   exact⟨qW,qB⟩
  obtain rfl:=oJ H
  have eP:=jz8 aa
  go_wp2
  go_ret
  exact⟨qW,qB⟩
mutual
def SaC.j0:Nat->Int->Bool->Int->Int->Int->Int->Int->List (S90)->List (S92)->List (S92)->Option (Bool)
 | 0,_,_,_,_,_,_,_,_,_,_=>none
 | k+1,x1,dV,xa,xb,xc,xd,xe,xf,xg,xh=>if dV=true then ((SaE.f k xa xb xc xd xe xf xg xh).bind fun t233=>(some t233)) else (if x1 < 1 then (SaC.j1 k x1 true xa xb xc xd xe xf xg xh) else (if xa=3 then (SaC.j1 k x1 (decide ((xh.length:Int) > 0)) xa xb xc xd xe xf xg xh) else (SaC.j1 k x1 false xa xb xc xd xe xf xg xh)))
def SaC.j1:Nat->Int->Bool->Int->Int->Int->Int->Int->List (S90)->List (S92)->List (S92)->Option (Bool)
 | 0,_,_,_,_,_,_,_,_,_,_=>none
 | k+1,x1,x27,xa,xb,xc,xd,xe,xf,xg,xh=>if x27=true then (some false) else ((SaF.f xa xb xc xd xe xf xg xh false).bind fun t234=>(if t234=true then ((SaA.f xa xb xc xd xe xf xg xh false).bind fun dB=>(if dB=true then ((Sal.f k xd xe xf).bind fun t236=>(if t236=true then ((Saz.f k xg (wrap64 (x1 - 1))).bind fun dC=>(if dC=true then ((Saz.f k xh (wrap64 (x1 - 1))).bind fun dw=>(some dw)) else (some false))) else (some false))) else (some false))) else (some false)))
def SaC.f:Nat->Int->Int->Int->Int->Int->List (S90)->List (S92)->List (S92)->Int->Option (Bool)
 | 0,_,_,_,_,_,_,_,_,_=>none
 | k+1,ax,aG,aH,aA,aC,av,ay,az,a1=>if ax=2 then (SaC.j0 k a1 false ax aG aH aA aC av ay az) else (SaC.j0 k a1 (ax != 3) ax aG aH aA aC av ay az)
def Saz.l0:Nat->List (S92)->Int->Int->Option (Bool)
 | 0,_,_,_=>none
 | k+1,x0,x1,x5=>if x5 < (x0.length:Int) then (if 0<=x5 then ((SaC.f k ((rd_T92 x0 x5).f0) ((rd_T92 x0 x5).f1) ((rd_T92 x0 x5).f2) ((rd_T92 x0 x5).f3.f0) ((rd_T92 x0 x5).f3.f1) ((rd_T92 x0 x5).f3.f2) ((rd_T92 x0 x5).f4) ((rd_T92 x0 x5).f5) x1).bind fun dD=>(if dD=true then (Saz.l0 k x0 x1 (wrap64 (x5+1))) else (some false))) else (none)) else (some true)
def Saz.f:Nat->List (S92)->Int->Option (Bool)
 | 0,_,_=>none
 | k+1,l0,a1=>Saz.l0 k l0 a1 0
end
@[reducible] def SaC.stmt (k:Nat):Prop:=∀ (ax:Int) (aG:Int) (aH:Int) (aA:Int) (aC:Int) (bC:Option Addr) (bD:Nat) (av:List (S90)) (bE:Option Addr) (bF:Nat) (ay:List (S92)) (bG:Option Addr) (bH:Nat) (az:List (S92)) (a1:Int) (r:Bool) (w:World) (bZ:Kd.C k90 w bC av.length av) (cz:av.length<=bD) (cB:Kd.C k92 w bE ay.length ay) (cK:ay.length<=bF) (cO:Kd.C k92 w bG az.length az) (df:az.length<=bH) (h:SaC.f k ax aG aH aA aC av ay az a1=some r),
  Calls prog 88 #[.agg #[iV ax,iV aG,iV aH,iV aA,iV aC,.slice bC av.length bD,.slice bE ay.length bF,.slice bG az.length bH],iV a1] w fun e w'=>e = .returned (.bool r)/\Below w.heap.size w w'
@[reducible] def Saz.stmt (k:Nat):Prop:=∀ (A0:Option Addr) (c0:Nat) (l0:List (S92)) (a1:Int) (r:Bool) (w:World) (hr0:Kd.C k92 w A0 l0.length l0) (hc0:l0.length<=c0) (h:Saz.f k l0 a1=some r),
  Calls prog 80 #[.slice A0 l0.length c0,iV a1] w fun e w'=>e = .returned (.bool r)/\Below w.heap.size w w'
theorem SaC.step (k:Nat) (aD:∀ m_,m_ < k->Saz.stmt m_) (ih:∀ m_,m_ < k->SaC.stmt m_):SaC.stmt k:=by
 intro ax aG aH aA aC bC bD av bE bF ay bG bH az a1 r w bZ cz cB cK cO df h
 cases k with
 | zero=>exact absurd h (by simp [SaC.f])
 | succ k =>
 simp only [SaC.f] at h
 have dK:=underlying92
 have dW:=underlying90
 have aI:=aM bZ
 have aJ:=aM cz
 clear bZ cz
 have aK:=aM cB
 have aN:=aM cK
 clear cB cK
 have aQ:=aM cO
 have aT:=aM df
 clear cO df
 have HB:=aM (Below.refl w.heap.size w)
 have H:(if ax=2 then (SaC.j0 k a1 false ax aG aH aA aC av ay az) else (SaC.j0 k a1 (ax != 3) ax aG aH aA aC av ay az))=some r:=h
 clear h
 have dL:=aM H
 clear H
 go_enter func88,ntmps88
 go_upto_region 1 with (first|((with_reducible refine jd 2 rfl ?_);(try (refine gate_guard (by rfl) ?_;dsimp only));refine jX _ 92 ?_;intro dn hg w4 hbox hb;have aa:=aM hbox;have dQ:=kG hg;replace HB:=kH hb;clear hb hbox hg))
 (try simp only [Act.put,List.setIfInBounds_toArray,List.set_cons_zero,List.set_cons_succ])
 go_cut [12] (fun v12 wc=>∃ (kq:Nat) (dh:Bool),v12 = .bool dh/\Aside0 (SaC.j0 kq a1 dh ax aG aH aA aC av ay az=some r)/\Aside0 (kq<=k)/\Aside0 (wc.heap[dn]?=some (.cells #[iV ax,iV aG,iV aH,iV aA,iV aC,(.slice bC av.length bD),(.slice bE ay.length bF),(.slice bG az.length bH)] 92 (0,0)))/\Aside0 (Below w.heap.size w wc))
 case first =>
  have H:=dL.out
  clear dL
  replace H:=jE H;rcases H with ⟨di,dM,H⟩ | ⟨c5,di,dM,H⟩
  ·(first|rw [di]|(simp only [i64_w,i32_w];rw [di])|skip)
   have H':=aM H
   clear H
   have fu:=jz8 aa
   go_wp2
   go_meet
   exact⟨_,(false),qZ,H',⟨by first|omega|exact Nat.le_refl _⟩,⟨qK aa⟩,⟨qB⟩⟩
  (first|rw [di]|(simp only [i64_w,i32_w];rw [di])|skip)
  have H':=aM H
  clear H
  have fw:=jz8 aa
  go_wp2
  go_meet
  exact⟨_,((ax != 3)),qZ,H',⟨by first|omega|exact Nat.le_refl _⟩,⟨qK aa⟩,⟨qB⟩⟩
 clear dL
 obtain⟨kq,dh,rfl,HA,HJ2,aa,HB⟩:=hcut
 cases kq with
 | zero=>exact absurd HA.out (by simp [SaC.j0])
 | succ dR =>
  have H:=HA.out
  clear HA
  simp only [SaC.j0] at H
  replace H:=jB H;rcases H with ⟨rfl,H⟩ | ⟨rfl,H⟩
  ·obtain⟨t233,A9,H⟩:=qE H
   try dsimp only at H
   obtain rfl:=oJ H
   have dX:=jz8 aa
   go_wp2_with (first|((with_reducible refine jc 105 14 rfl rfl ?_);refine jG func105 #[.agg #[iV ax,iV aG,iV aH,iV aA,iV aC,.slice bC av.length bD,.slice bE ay.length bF,.slice bG az.length bH]] ?_;refine (SaE.calls dR ax aG aH aA aC _ _ av _ _ ay _ _ az t233 _ ?ae ?af ?ah ?ai ?aj ?au A9.out).mono ?_;(case ae=>exact kC (Kd.C_below aI.out HB.out));(case af=>exact aJ.out);(case ah=>exact kC (Kd.C_below aK.out HB.out));(case ai=>exact aN.out);(case aj=>exact kC (Kd.C_below aQ.out HB.out));(case au=>exact aT.out);rintro e fA ⟨rfl,hb⟩;refine⟨_,rfl,?_⟩;replace aa:=kB aa hb;replace HB:=kH hb;clear hb))
   go_ret
   exact⟨qW,qB⟩
  have dx:=aM H
  clear H
  go_upto_region 3 with (fail)
  go_cut [27] (fun v27 wc=>∃ (kq:Nat) (bP:Bool),v27 = .bool bP/\Aside0 (SaC.j1 kq a1 bP ax aG aH aA aC av ay az=some r)/\Aside0 (kq<=dR)/\Aside0 (wc.heap[dn]?=some (.cells #[iV ax,iV aG,iV aH,iV aA,iV aC,(.slice bC av.length bD),(.slice bE ay.length bF),(.slice bG az.length bH)] 92 (0,0)))/\Aside0 (Below w.heap.size w wc))
  case first =>
   have H:=dx.out
   clear dx
   replace H:=jD H;rcases H with ⟨bO,H⟩ | ⟨bO,H⟩
   ·(first|rw [bO]|(simp only [i64_w,i32_w];rw [bO])|skip)
    have H':=aM H
    clear H
    go_wp2
    go_meet
    exact⟨_,(true),qZ,H',⟨by have:=HJ2.out;first|omega|exact Nat.le_refl _⟩,⟨qK aa⟩,⟨qB⟩⟩
   (first|rw [bO]|(simp only [i64_w,i32_w];rw [bO])|skip)
   replace H:=jE H;rcases H with ⟨dE,dF,H⟩ | ⟨c14,dE,dF,H⟩
   ·have H':=aM H
    clear H
    have dY:=jz8 aa
    go_wp2
    go_meet
    exact⟨_,(decide ((az.length:Int) > 0)),qZ,H',⟨by have:=HJ2.out;first|omega|exact Nat.le_refl _⟩,⟨qK aa⟩,⟨qB⟩⟩
   have H':=aM H
   clear H
   have dZ:=jz8 aa
   go_wp2
   go_meet
   exact⟨_,(false),qZ,H',⟨by have:=HJ2.out;first|omega|exact Nat.le_refl _⟩,⟨qK aa⟩,⟨qB⟩⟩
  clear dx
  obtain⟨kq,bP,rfl,HA,dz,aa,HB⟩:=hcut
  cases kq with
  | zero=>exact absurd HA.out (by simp [SaC.j1])
  | succ bY =>
   have H:=HA.out
   clear HA
   simp only [SaC.j1] at H
   replace H:=jB H;rcases H with ⟨rfl,H⟩ | ⟨rfl,H⟩
   ·obtain rfl:=oJ H
    go_wp2
    go_ret
    exact⟨qW,qB⟩
   obtain⟨t234,dG,H⟩:=qE H
   try dsimp only at H
   replace H:=jB H;rcases H with ⟨rfl,H⟩ | ⟨rfl,H⟩
   ·obtain⟨dB,dI,H⟩:=qE H
    try dsimp only at H
    replace H:=jB H;rcases H with ⟨rfl,H⟩ | ⟨rfl,H⟩
    ·obtain⟨t236,dN,H⟩:=qE H
     try dsimp only at H
     replace H:=jB H;rcases H with ⟨rfl,H⟩ | ⟨rfl,H⟩
     ·obtain⟨dC,dS,H⟩:=qE H
      try dsimp only at H
      replace H:=jB H;rcases H with ⟨rfl,H⟩ | ⟨rfl,H⟩
      ·obtain⟨dw,d9,H⟩:=qE H
       try dsimp only at H
       obtain rfl:=oJ H
       have ek:=jz8 aa
       go_wp2_with (first|((with_reducible refine jc 106 29 rfl rfl ?_);refine jG func106 #[.agg #[iV ax,iV aG,iV aH,iV aA,iV aC,.slice bC av.length bD,.slice bE ay.length bF,.slice bG az.length bH],.bool false] ?_;refine (SaF.calls ax aG aH aA aC _ _ av _ _ ay _ _ az false true _ ?ae ?af ?ah ?ai ?aj ?au dG.out).mono ?_;(case ae=>exact kC (Kd.C_below aI.out HB.out));(case af=>exact aJ.out);(case ah=>exact kC (Kd.C_below aK.out HB.out));(case ai=>exact aN.out);(case aj=>exact kC (Kd.C_below aQ.out HB.out));(case au=>exact aT.out);rintro e fB ⟨rfl,hb⟩;refine⟨_,rfl,?_⟩;replace aa:=kB aa hb;replace HB:=kH hb;clear hb;have eu:=jz8 aa)|(go_at_call 107;(with_reducible refine (SaA.calls ax aG aH aA aC _ _ av _ _ ay _ _ az false true _ ?ae ?af ?ah ?ai ?aj ?au dI.out).mono ?_);(case ae=>exact kC (Kd.C_below aI.out HB.out));(case af=>exact aJ.out);(case ah=>exact kC (Kd.C_below aK.out HB.out));(case ai=>exact aN.out);(case aj=>exact kC (Kd.C_below aQ.out HB.out));(case au=>exact aT.out);rintro e fC ⟨rfl,hb⟩;replace aa:=kB aa hb;replace HB:=kH hb;clear hb;have eB:=jz8 aa)|(go_at_call 108;(with_reducible refine (Sal.calls bY aA aC _ _ av true _ ?ae ?af dN.out).mono ?_);(case ae=>exact kC (Kd.C_below aI.out HB.out));(case af=>exact aJ.out);rintro e w32 ⟨rfl,hb⟩;replace aa:=kB aa hb;replace HB:=kH hb;clear hb;have eD:=jz8 aa)|(go_at_call 80;(with_reducible refine (aD bY (by have:=HJ2.out;have:=dz.out;omega) _ _ ay (wrap64 (a1 - 1)) true _ ?ae ?af dS.out).mono ?_);(case ae=>exact kC (Kd.C_below aK.out HB.out));(case af=>exact aN.out);rintro e fD ⟨rfl,hb⟩;replace aa:=kB aa hb;replace HB:=kH hb;clear hb;have eF:=jz8 aa)|(go_at_call 80;(with_reducible refine (aD bY (by have:=HJ2.out;have:=dz.out;omega) _ _ az (wrap64 (a1 - 1)) dw _ ?ae ?af d9.out).mono ?_);(case ae=>exact kC (Kd.C_below aQ.out HB.out));(case af=>exact aT.out);rintro e fE ⟨rfl,hb⟩;replace aa:=kB aa hb;replace HB:=kH hb;clear hb))
       go_ret
       exact⟨qW,qB⟩
      obtain rfl:=oJ H
      have eG:=jz8 aa
      go_wp2_with (first|((with_reducible refine jc 106 29 rfl rfl ?_);refine jG func106 #[.agg #[iV ax,iV aG,iV aH,iV aA,iV aC,.slice bC av.length bD,.slice bE ay.length bF,.slice bG az.length bH],.bool false] ?_;refine (SaF.calls ax aG aH aA aC _ _ av _ _ ay _ _ az false true _ ?ae ?af ?ah ?ai ?aj ?au dG.out).mono ?_;(case ae=>exact kC (Kd.C_below aI.out HB.out));(case af=>exact aJ.out);(case ah=>exact kC (Kd.C_below aK.out HB.out));(case ai=>exact aN.out);(case aj=>exact kC (Kd.C_below aQ.out HB.out));(case au=>exact aT.out);rintro e fF ⟨rfl,hb⟩;refine⟨_,rfl,?_⟩;replace aa:=kB aa hb;replace HB:=kH hb;clear hb;have eH:=jz8 aa)|(go_at_call 107;(with_reducible refine (SaA.calls ax aG aH aA aC _ _ av _ _ ay _ _ az false true _ ?ae ?af ?ah ?ai ?aj ?au dI.out).mono ?_);(case ae=>exact kC (Kd.C_below aI.out HB.out));(case af=>exact aJ.out);(case ah=>exact kC (Kd.C_below aK.out HB.out));(case ai=>exact aN.out);(case aj=>exact kC (Kd.C_below aQ.out HB.out));(case au=>exact aT.out);rintro e fG ⟨rfl,hb⟩;replace aa:=kB aa hb;replace HB:=kH hb;clear hb;have eO:=jz8 aa)|(go_at_call 108;(with_reducible refine (Sal.calls bY aA aC _ _ av true _ ?ae ?af dN.out).mono ?_);(case ae=>exact kC (Kd.C_below aI.out HB.out));(case af=>exact aJ.out);rintro e fH ⟨rfl,hb⟩;replace aa:=kB aa hb;replace HB:=kH hb;clear hb;have eP:=jz8 aa)|(go_at_call 80;(with_reducible refine (aD bY (by have:=HJ2.out;have:=dz.out;omega) _ _ ay (wrap64 (a1 - 1)) false _ ?ae ?af dS.out).mono ?_);(case ae=>exact kC (Kd.C_below aK.out HB.out));(case af=>exact aN.out);rintro e fI ⟨rfl,hb⟩;replace aa:=kB aa hb;replace HB:=kH hb;clear hb))
      go_ret
      exact⟨qW,qB⟩
     obtain rfl:=oJ H
     have eQ:=jz8 aa
     go_wp2_with (first|((with_reducible refine jc 106 29 rfl rfl ?_);refine jG func106 #[.agg #[iV ax,iV aG,iV aH,iV aA,iV aC,.slice bC av.length bD,.slice bE ay.length bF,.slice bG az.length bH],.bool false] ?_;refine (SaF.calls ax aG aH aA aC _ _ av _ _ ay _ _ az false true _ ?ae ?af ?ah ?ai ?aj ?au dG.out).mono ?_;(case ae=>exact kC (Kd.C_below aI.out HB.out));(case af=>exact aJ.out);(case ah=>exact kC (Kd.C_below aK.out HB.out));(case ai=>exact aN.out);(case aj=>exact kC (Kd.C_below aQ.out HB.out));(case au=>exact aT.out);rintro e fJ ⟨rfl,hb⟩;refine⟨_,rfl,?_⟩;replace aa:=kB aa hb;replace HB:=kH hb;clear hb;have eT:=jz8 aa)|(go_at_call 107;(with_reducible refine (SaA.calls ax aG aH aA aC _ _ av _ _ ay _ _ az false true _ ?ae ?af ?ah ?ai ?aj ?au dI.out).mono ?_);(case ae=>exact kC (Kd.C_below aI.out HB.out));(case af=>exact aJ.out);(case ah=>exact kC (Kd.C_below aK.out HB.out));(case ai=>exact aN.out);(case aj=>exact kC (Kd.C_below aQ.out HB.out));(case au=>exact aT.out);rintro e fK ⟨rfl,hb⟩;replace aa:=kB aa hb;replace HB:=kH hb;clear hb;have eU:=jz8 aa)|(go_at_call 108;(with_reducible refine (Sal.calls bY aA aC _ _ av false _ ?ae ?af dN.out).mono ?_);(case ae=>exact kC (Kd.C_below aI.out HB.out));(case af=>exact aJ.out);rintro e fM ⟨rfl,hb⟩;replace aa:=kB aa hb;replace HB:=kH hb;clear hb))
     go_ret
     exact⟨qW,qB⟩
    obtain rfl:=oJ H
    have eX:=jz8 aa
    go_wp2_with (first|((with_reducible refine jc 106 29 rfl rfl ?_);refine jG func106 #[.agg #[iV ax,iV aG,iV aH,iV aA,iV aC,.slice bC av.length bD,.slice bE ay.length bF,.slice bG az.length bH],.bool false] ?_;refine (SaF.calls ax aG aH aA aC _ _ av _ _ ay _ _ az false true _ ?ae ?af ?ah ?ai ?aj ?au dG.out).mono ?_;(case ae=>exact kC (Kd.C_below aI.out HB.out));(case af=>exact aJ.out);(case ah=>exact kC (Kd.C_below aK.out HB.out));(case ai=>exact aN.out);(case aj=>exact kC (Kd.C_below aQ.out HB.out));(case au=>exact aT.out);rintro e fO ⟨rfl,hb⟩;refine⟨_,rfl,?_⟩;replace aa:=kB aa hb;replace HB:=kH hb;clear hb;have eY:=jz8 aa)|(go_at_call 107;(with_reducible refine (SaA.calls ax aG aH aA aC _ _ av _ _ ay _ _ az false false _ ?ae ?af ?ah ?ai ?aj ?au dI.out).mono ?_);(case ae=>exact kC (Kd.C_below aI.out HB.out));(case af=>exact aJ.out);(case ah=>exact kC (Kd.C_below aK.out HB.out));(case ai=>exact aN.out);(case aj=>exact kC (Kd.C_below aQ.out HB.out));(case au=>exact aT.out);rintro e fP ⟨rfl,hb⟩;replace aa:=kB aa hb;replace HB:=kH hb;clear hb))
    go_ret
    exact⟨qW,qB⟩
   obtain rfl:=oJ H
   have eZ:=jz8 aa
   go_wp2_with (first|((with_reducible refine jc 106 29 rfl rfl ?_);refine jG func106 #[.agg #[iV ax,iV aG,iV aH,iV aA,iV aC,.slice bC av.length bD,.slice bE ay.length bF,.slice bG az.length bH],.bool false] ?_;refine (SaF.calls ax aG aH aA aC _ _ av _ _ ay _ _ az false false _ ?ae ?af ?ah ?ai ?aj ?au dG.out).mono ?_;(case ae=>exact kC (Kd.C_below aI.out HB.out));(case af=>exact aJ.out);(case ah=>exact kC (Kd.C_below aK.out HB.out));(case ai=>exact aN.out);(case aj=>exact kC (Kd.C_below aQ.out HB.out));(case au=>exact aT.out);rintro e fQ ⟨rfl,hb⟩;refine⟨_,rfl,?_⟩;replace aa:=kB aa hb;replace HB:=kH hb;clear hb))
   go_ret
   exact⟨qW,qB⟩
theorem Saz.step (k:Nat) (ih:∀ m_,m_ < k->Saz.stmt m_) (aU:∀ m_,m_ < k->SaC.stmt m_):Saz.stmt k:=by
 intro A0 c0 l0 a1 r w hr0 hc0 h
 cases k with
 | zero=>exact absurd h (by simp [Saz.f])
 | succ k =>
 simp only [Saz.f] at h
 have dK:=underlying92
 have dU:=aM hr0
 have fT:=aM hc0
 clear hr0 hc0
 have HB:=aM (Below.refl w.heap.size w)
 have H:(Saz.l0 k l0 a1 0)=some r:=h
 clear h
 have H':=aM H
 clear H
 go_enter func80,ntmps80
 go_wp2
 go_loopg [5] k (fun kq v5 w'=>∃ (ag:Int),v5 = iV ag/\Aside0 (Saz.l0 kq l0 a1 ag=some r)/\Aside0 (kq<=k)/\Aside0 (Below w.heap.size w w'))
 case atStart=>exact⟨(0),qZ,H',⟨Nat.le_refl _⟩,⟨qB⟩⟩
 clear H'
 obtain⟨ag,rfl,HA,dJ,HB⟩:=hrel
 rcases gk with _|k1
 ·exact absurd HA.out (by simp [Saz.l0])
 have H:=HA.out
 clear HA
 simp only [Saz.l0] at H
 replace H:=jD H;rcases H with ⟨dO,H⟩ | ⟨dO,H⟩
 ·replace H:=jI H;obtain⟨fe,H⟩:=H
  obtain⟨dD,A5,H⟩:=qE H
  try dsimp only at H
  replace H:=jB H;rcases H with ⟨rfl,H⟩ | ⟨rfl,H⟩
  ·have H':=aM H
   clear H
   have bQ:0<=(ag:Int):=qD
   have bR:ag < (l0.length:Int):=qD
   obtain⟨dH,bS,bT,bU,bV,bW,bX,dA,aV,aW,aX,aY,aZ,bg,bi,bn,bq,bu,bv,bz,bA,bB⟩:=at_T92 dU.out ag bQ bR
   cases dA
   replace aV:=kx HB aV
   replace aW:=kx HB aW
   replace aX:=kx HB aX
   replace aY:=kx HB aY
   replace aZ:=kx HB aZ
   replace bg:=kx HB bg
   replace bi:=kx HB bi
   replace bn:=kx HB bn
   have bI:=aM bu
   have bJ:=aM bq
   clear bu bq
   have bK:=aM bz
   have bL:=aM bv
   clear bz bv
   have bM:=aM bB
   have bN:=aM bA
   clear bB bA
   replace bQ:=eq_true bQ
   replace bR:=eq_true bR
   go_wp2_with (first|((with_reducible refine jc 88 17 rfl rfl ?_);refine jG func88 #[.agg #[iV ((rd_T92 l0 ag).f0),iV ((rd_T92 l0 ag).f1),iV ((rd_T92 l0 ag).f2),iV ((rd_T92 l0 ag).f3.f0),iV ((rd_T92 l0 ag).f3.f1),.slice bS ((rd_T92 l0 ag).f3.f2).length bT,.slice bU ((rd_T92 l0 ag).f4).length bV,.slice bW ((rd_T92 l0 ag).f5).length bX],iV a1] ?_;refine (aU k1 (by have:=dJ.out;omega) ((rd_T92 l0 ag).f0) ((rd_T92 l0 ag).f1) ((rd_T92 l0 ag).f2) ((rd_T92 l0 ag).f3.f0) ((rd_T92 l0 ag).f3.f1) _ _ ((rd_T92 l0 ag).f3.f2) _ _ ((rd_T92 l0 ag).f4) _ _ ((rd_T92 l0 ag).f5) a1 true _ ?ae ?af ?ah ?ai ?aj ?au A5.out).mono ?_;(case ae=>exact kC (Kd.C_below bI.out HB.out));(case af=>exact bJ.out);(case ah=>exact kC (Kd.C_below bK.out HB.out));(case ai=>exact bL.out);(case aj=>exact kC (Kd.C_below bM.out HB.out));(case au=>exact bN.out);rintro e dP ⟨rfl,hb⟩;refine⟨_,rfl,?_⟩;replace HB:=kH hb;clear hb))
   go_roundg k1
   case measure=>have:=dJ.out;omega
   exact⟨_,qZ,H',⟨by have:=dJ.out;omega⟩,⟨qB⟩⟩
  obtain rfl:=oJ H
  have bQ:0<=(ag:Int):=qD
  have bR:ag < (l0.length:Int):=qD
  obtain⟨dH,bS,bT,bU,bV,bW,bX,dA,aV,aW,aX,aY,aZ,bg,bi,bn,bq,bu,bv,bz,bA,bB⟩:=at_T92 dU.out ag bQ bR
  cases dA
  replace aV:=kx HB aV
  replace aW:=kx HB aW
  replace aX:=kx HB aX
  replace aY:=kx HB aY
  replace aZ:=kx HB aZ
  replace bg:=kx HB bg
  replace bi:=kx HB bi
  replace bn:=kx HB bn
  have bI:=aM bu
  have bJ:=aM bq
  clear bu bq
  have bK:=aM bz
  have bL:=aM bv
  clear bz bv
  have bM:=aM bB
  have bN:=aM bA
  clear bB bA
  replace bQ:=eq_true bQ
  replace bR:=eq_true bR
  go_wp2_with (first|((with_reducible refine jc 88 17 rfl rfl ?_);refine jG func88 #[.agg #[iV ((rd_T92 l0 ag).f0),iV ((rd_T92 l0 ag).f1),iV ((rd_T92 l0 ag).f2),iV ((rd_T92 l0 ag).f3.f0),iV ((rd_T92 l0 ag).f3.f1),.slice bS ((rd_T92 l0 ag).f3.f2).length bT,.slice bU ((rd_T92 l0 ag).f4).length bV,.slice bW ((rd_T92 l0 ag).f5).length bX],iV a1] ?_;refine (aU k1 (by have:=dJ.out;omega) ((rd_T92 l0 ag).f0) ((rd_T92 l0 ag).f1) ((rd_T92 l0 ag).f2) ((rd_T92 l0 ag).f3.f0) ((rd_T92 l0 ag).f3.f1) _ _ ((rd_T92 l0 ag).f3.f2) _ _ ((rd_T92 l0 ag).f4) _ _ ((rd_T92 l0 ag).f5) a1 false _ ?ae ?af ?ah ?ai ?aj ?au A5.out).mono ?_;(case ae=>exact kC (Kd.C_below bI.out HB.out));(case af=>exact bJ.out);(case ah=>exact kC (Kd.C_below bK.out HB.out));(case ai=>exact bL.out);(case aj=>exact kC (Kd.C_below bM.out HB.out));(case au=>exact bN.out);rintro e dP ⟨rfl,hb⟩;refine⟨_,rfl,?_⟩;replace HB:=kH hb;clear hb))
  go_ret
  exact⟨qW,qB⟩
 obtain rfl:=oJ H
 go_wp2
 go_ret
 exact⟨qW,qB⟩
theorem SaC.grp.calls (k:Nat):SaC.stmt k/\Saz.stmt k:=by
 induction k using Nat.strongRecOn with
 | _ k ih=>exact⟨SaC.step k (fun m_ h_=>(ih m_ h_).2) (fun m_ h_=>(ih m_ h_).1),Saz.step k (fun m_ h_=>(ih m_ h_).2) (fun m_ h_=>(ih m_ h_).1)⟩
theorem Saz.calls (k:Nat):Saz.stmt k:=(SaC.grp.calls k).2
def Saw.f (k:Nat) (l0:List (S92)):Option (Bool):=(Saz.f k l0 3).bind fun ag=>(if ag=true then ((SaB.f k l0).bind fun af=>(some (decide (af<=16)))) else (some false))
theorem Saw.calls (k:Nat) (A0:Option Addr) (c0:Nat) (l0:List (S92)) (r:Bool) (w:World) (hr0:Kd.C k92 w A0 l0.length l0) (hc0:l0.length<=c0) (h:Saw.f k l0=some r) :
  Calls prog 71 #[.slice A0 l0.length c0] w fun e w'=>e = .returned (.bool r)/\Below w.heap.size w w':=by
 have ah:=aM hr0
 have ai:=aM hc0
 clear hr0 hc0
 have HB:=aM (Below.refl w.heap.size w)
 have H:=h;unfold Saw.f at H
 clear h
 obtain⟨ag,A2,H⟩:=qE H
 try dsimp only at H
 replace H:=jB H;rcases H with ⟨rfl,H⟩ | ⟨rfl,H⟩
 ·obtain⟨af,A4,H⟩:=qE H
  try dsimp only at H
  obtain rfl:=oJ H
  go_enter func71,ntmps71
  go_wp2_with (first|((with_reducible refine jc 80 4 rfl rfl ?_);refine jG func80 #[.slice A0 l0.length c0,iV 3] ?_;refine (Saz.calls k _ _ l0 3 true _ ?aa ?ae A2.out).mono ?_;(case aa=>exact kC ah.out);(case ae=>exact ai.out);rintro e w5 ⟨rfl,hb⟩;refine⟨_,rfl,?_⟩;replace HB:=kH hb;clear hb)|(go_at_call 74;(with_reducible refine (SaB.calls k _ _ l0 af _ ?aa ?ae A4.out).mono ?_);(case aa=>exact kC (Kd.C_below ah.out HB.out));(case ae=>exact ai.out);rintro e w6 ⟨rfl,hb⟩;replace HB:=kH hb;clear hb))
  go_ret
  exact⟨qW,qB⟩
 obtain rfl:=oJ H
 go_enter func71,ntmps71
 go_wp2_with (first|((with_reducible refine jc 80 4 rfl rfl ?_);refine jG func80 #[.slice A0 l0.length c0,iV 3] ?_;refine (Saz.calls k _ _ l0 3 false _ ?aa ?ae A2.out).mono ?_;(case aa=>exact kC ah.out);(case ae=>exact ai.out);rintro e w7 ⟨rfl,hb⟩;refine⟨_,rfl,?_⟩;replace HB:=kH hb;clear hb))
 go_ret
 exact⟨qW,qB⟩
def SaI.f:Nat->Int->Int->List (S90)->Int->Option ((List (S27)))
 | 0,_,_,_,_=>none
 | k+1,aH,ag,ae,a1=>if aH=0 then (some (([(⟨1,a1,0,0,ag⟩:S27)]:List (S27)))) else (if aH=13 then (some (([(⟨2,a1,ag,0,0⟩:S27)]:List (S27)))) else (if 0 < (ae.length:Int) then ((SaI.f k ((rd_T90 ae 0).f0) ((rd_T90 ae 0).f1) ((rd_T90 ae 0).f2) a1).bind fun bg=>(if 1 < (ae.length:Int) then ((SaI.f k ((rd_T90 ae 1).f0) ((rd_T90 ae 1).f1) ((rd_T90 ae 1).f2) (wrap64 (a1+1))).bind fun aN=>(if bg.length+aN.length < 3518437208883 then ((some (bg ++ aN:List (S27))).bind fun bn=>(if bn.length < 3518437208883 then (some (bn ++ [(⟨3,a1,a1,wrap64 (a1+1),aH⟩:S27)])) else (none))) else (none))) else (none))) else (none)))
def SaI.T5:Bool × List (List Nat × List Nat):=(true,[([],[]),([0],[0]),([1],[1]),([2],[2]),([],[]),([3,4],[3,4]),([],[]),([6],[6]),([7],[7]),([8],[8]),([],[]),([10],[10]),([9,11,5],[9,11]),([5,12,12],[5,12]),([13,13,0,1,2,3,4,5,6,7,8,9,10,11,12,13],[13])])
def SaI.B5:List Nat:=[0,1,3,7,0,31,0,64,192,448,0,1024,4095,8191,16383]
theorem SaI.tab5:rtab .any (opsOf f89 5)=SaI.T5:=by kernel_rfl
theorem SaI.bits5:waitsOk SaI.T5.2 SaI.B5=true:=by kernel_rfl
theorem SaI.calls (k:Nat):∀ (aH:Int) (ag:Int) (bM:Option Addr) (bi:Nat) (ae:List (S90)) (a1:Int) (r:List (S27)) (w:World) (bq:Kd.C k90 w bM ae.length ae) (bu:ae.length<=bi) (h:SaI.f k aH ag ae a1=some r),
  Calls prog 89 #[.agg #[iV aH,iV ag,.slice bM ae.length bi],iV a1] w fun e w'=>∃ dw:Value,e = .returned (dw)/\Kd.R k27 27 w' w.heap.size (fun _=>True) dw r/\Below w.heap.size w w':=by
 induction k using Nat.strongRecOn with
 | _ k ih =>
 intro aH ag bM bi ae a1 r w bq bu h
 cases k with
 | zero=>exact absurd h (by simp [SaI.f])
 | succ k =>
 simp only [SaI.f] at h
 have dH:=underlying90
 have dI:=underlying27
 have bK:=aM bq
 have dx:=aM bu
 clear bq bu
 have HB:=aM (Below.refl w.heap.size w)
 have H:=h
 clear h
 replace H:=jE H;rcases H with ⟨cB,cK,H⟩ | ⟨c3,cB,cK,H⟩
 ·obtain⟨dJ,aQ⟩:=ky ((([(⟨1,a1,0,0,ag⟩:S27)]:List (S27))):List (S27))
  first|replace H:=kz aQ H|rw [<- aQ.out] at H
  obtain rfl:=oJ H
  go_enter func89,ntmps89
  go_wp2_with (first|((with_reducible refine jd 2 rfl ?_);refine jX _ 90 ?_;intro aJ hg w4 hbox hb;have aa:=aM hbox;have bL:=kG hg;replace HB:=kH hb;clear hb hbox hg;have d9:=jz3 aa)|((with_reducible refine jd 13 rfl ?_);refine jV k27 27 ([(⟨1,a1,0,0,ag⟩:S27)]:List (S27)) [iV 1,iV a1,iV 0,iV 0,iV ag] (Reps.c5 (show Kd.M k27 _ _ _ (⟨1,a1,0,0,ag⟩:S27) [iV 1,iV a1,iV 0,iV 0,iV ag] from (k27_mkM _ _ _ (⟨1,a1,0,0,ag⟩:S27) )) (Reps.none _ _)) ?_;intro dK w6 bR hb;(first|rw [<- aQ.out] at bR|(simp only [Int.reduceToNat] at bR;rw [<- aQ.out] at bR));have bS:=kL bR;replace aa:=kB aa hb;replace HB:=kH hb;clear hb bR))
  go_ret
  exact⟨_,qW,qR bS,qB⟩
 replace H:=jE H;rcases H with ⟨cO,df,H⟩ | ⟨c8,cO,df,H⟩
 ·obtain⟨dL,aT⟩:=ky ((([(⟨2,a1,ag,0,0⟩:S27)]:List (S27))):List (S27))
  first|replace H:=kz aT H|rw [<- aT.out] at H
  obtain rfl:=oJ H
  go_enter func89,ntmps89
  go_wp2_with (first|((with_reducible refine jd 2 rfl ?_);refine jX _ 90 ?_;intro aJ hg w9 hbox hb;have aa:=aM hbox;have bL:=kG hg;replace HB:=kH hb;clear hb hbox hg;have dM:=jz3 aa)|((with_reducible refine jd 21 rfl ?_);refine jV k27 27 ([(⟨2,a1,ag,0,0⟩:S27)]:List (S27)) [iV 2,iV a1,iV ag,iV 0,iV 0] (Reps.c5 (show Kd.M k27 _ _ _ (⟨2,a1,ag,0,0⟩:S27) [iV 2,iV a1,iV ag,iV 0,iV 0] from (k27_mkM _ _ _ (⟨2,a1,ag,0,0⟩:S27) )) (Reps.none _ _)) ?_;intro dN ek bv hb;(first|rw [<- aT.out] at bv|(simp only [Int.reduceToNat] at bv;rw [<- aT.out] at bv));have bT:=kL bv;replace aa:=kB aa hb;replace HB:=kH hb;clear hb bv))
  go_ret
  exact⟨_,qW,qR bT,qB⟩
 replace H:=jU H;obtain⟨c13,H⟩:=H
 have dz:=decide_eq_true c13
 have dA:decide (0 < ae.length)=true:=decide_eq_true (by omega)
 clear c13
 obtain⟨bg,dO,H⟩:=qE H
 try dsimp only at H
 replace H:=jU H;obtain⟨c15,H⟩:=H
 have dB:=decide_eq_true c15
 have dC:decide (1 < ae.length)=true:=decide_eq_true (by omega)
 clear c15
 obtain⟨aN,dP,H⟩:=qE H
 try dsimp only at H
 replace H:=jL H;obtain⟨bU,H⟩:=H
 obtain⟨bn,bz⟩:=ky ((bg ++ aN):List (S27))
 first|replace H:=kz bz H|rw [<- bz.out] at H
 replace H:=jL H;obtain⟨bV,H⟩:=H
 obtain⟨dQ,bA⟩:=ky ((bn ++ [(⟨3,a1,a1,wrap64 (a1+1),aH⟩:S27)]):List (S27))
 first|replace H:=kz bA H|rw [<- bA.out] at H
 obtain rfl:=oJ H
 go_enter func89,ntmps89
 try go_wp2_with (first|((with_reducible refine jd 2 rfl ?_);refine jX _ 90 ?_;intro aJ hg dR hbox hb;have aa:=aM hbox;have bL:=kG hg;replace HB:=kH hb;clear hb hbox hg;have dS:=jz3 aa))
 replace aa:=aM (blk_drew aa.out)
 replace HB:=aM (below_drew1 HB.out)
 have bN:0<=(0:Int):=(by omega)
 have bO:0 < (ae.length:Int):=qD
 obtain⟨af,bB,bC,e250,ah,ai,aj,aU,aV⟩:=at_T90 bK.out 0 bN bO
 have au:=aj
 (try rw [show ((0:Int)).toNat=0 from rfl] at au)
 (try rw [show 0*3=0 from rfl] at au)
 (try rw [Addr.add_zero'] at au)
 have av:=ai
 (try rw [show ((0:Int)).toNat=0 from rfl] at av)
 (try rw [show 0*3=0 from rfl] at av)
 (try rw [Addr.add_zero'] at av)
 have ax:=ah
 (try rw [show ((0:Int)).toNat=0 from rfl] at ax)
 (try rw [show 0*3=0 from rfl] at ax)
 (try rw [Addr.add_zero'] at ax)
 cases e250
 have dD:(0 < ae.length)=True:=eq_true (by omega)
 (try rw [show ((0:Int)).toNat=0 from rfl] at ah)
 (try rw [show 0*3=0 from rfl] at ah)
 (try rw [Addr.add_zero'] at ah)
 (try rw [show ((0:Int)).toNat=0 from rfl] at ai)
 (try rw [show 0*3=0 from rfl] at ai)
 (try rw [Addr.add_zero'] at ai)
 (try rw [show ((0:Int)).toNat=0 from rfl] at aj)
 (try rw [show 0*3=0 from rfl] at aj)
 (try rw [Addr.add_zero'] at aj)
 replace ah:=kx HB ah
 replace ai:=kx HB ai
 replace aj:=kx HB aj
 have aW:=aM aV
 have bI:=aM aU
 clear aV aU
 replace bN:=eq_true bN
 replace bO:=eq_true bO
 have bP:0<=(1:Int):=(by omega)
 have bQ:1 < (ae.length:Int):=qD
 obtain⟨bW,bD,bE,e254,ay,az,aA,aX,aY⟩:=at_T90 bK.out 1 bP bQ
 have aC:=aA
 (try rw [show ((1:Int)).toNat=1 from rfl] at aC)
 (try rw [show 1*3=3 from rfl] at aC)
 (try simp only [Nat.reduceMul,Nat.reduceEqDiff,Go.Addr.add,↓reduceIte] at aC)
 have aD:=az
 (try rw [show ((1:Int)).toNat=1 from rfl] at aD)
 (try rw [show 1*3=3 from rfl] at aD)
 (try simp only [Nat.reduceMul,Nat.reduceEqDiff,Go.Addr.add,↓reduceIte] at aD)
 have aG:=ay
 (try rw [show ((1:Int)).toNat=1 from rfl] at aG)
 (try rw [show 1*3=3 from rfl] at aG)
 (try simp only [Nat.reduceMul,Nat.reduceEqDiff,Go.Addr.add,↓reduceIte] at aG)
 obtain rfl:af=bW:=(by injection e254)
 (try simp only [show (1:Int).toNat=1 from rfl,Nat.reduceMul,Nat.reduceEqDiff,Go.Addr.add,↓reduceIte] at ay)
 (try simp only [show (1:Int).toNat=1 from rfl,Nat.reduceMul,Nat.reduceEqDiff,Go.Addr.add,↓reduceIte] at az)
 (try simp only [show (1:Int).toNat=1 from rfl,Nat.reduceMul,Nat.reduceEqDiff,Go.Addr.add,↓reduceIte] at aA)
 have dE:(1 < ae.length)=True:=eq_true (by omega)
 (try rw [show ((1:Int)).toNat=1 from rfl] at ay)
 (try rw [show 1*3=3 from rfl] at ay)
 (try rw [show ((1:Int)).toNat=1 from rfl] at az)
 (try rw [show 1*3=3 from rfl] at az)
 (try rw [show ((1:Int)).toNat=1 from rfl] at aA)
 (try rw [show 1*3=3 from rfl] at aA)
 replace ay:=kx HB ay
 replace az:=kx HB az
 replace aA:=kx HB aA
 have aZ:=aM aY
 have bJ:=aM aX
 clear aY aX
 replace bP:=eq_true bP
 replace bQ:=eq_true bQ
 refine start_ (n:=15) (S:=fun w'=>w'.cell? ⟨aJ,0,none⟩=some (iV aH)/\w'.cell? ⟨aJ,1,none⟩=some (iV ag)/\w'.cell? ⟨aJ,2,none⟩=some (.slice (some af) ae.length bi)/\w'.cell? af=some (iV ((rd_T90 ae 0).f0))/\w'.cell? ⟨af.block,af.off+1,none⟩=some (iV ((rd_T90 ae 0).f1))/\w'.cell? ⟨af.block,af.off+2,none⟩=some (.slice bB ((rd_T90 ae 0).f2).length bC)/\w'.cell? ⟨af.block,af.off+3,none⟩=some (iV ((rd_T90 ae 1).f0))/\w'.cell? ⟨af.block,af.off+3+1,none⟩=some (iV ((rd_T90 ae 1).f1))/\w'.cell? ⟨af.block,af.off+3+2,none⟩=some (.slice bD ((rd_T90 ae 1).f2).length bE)) (ds:=[]) (jb 15 0) (by kernel_rfl) rfl rfl ⟨(blk_cell aa.out 0).trans rfl,(blk_cell aa.out 1).trans rfl,(blk_cell aa.out 2).trans rfl,(kx HB ax),(kx HB av),(kx HB au),(kx HB aG),(kx HB aD),(kx HB aC)⟩ (fun hHeld=>?_);refine with_tabW SaI.tab5 SaI.bits5 (fun HT_ HW_=>?_)
 generalize dR.drew=eu at aa HB aW aZ ah ai aj ay az aA hHeld ⊢
 refine jp 0 22 (jb 15 1) ?_
 refine jp 4 26 (jb 15 17) ?_
 refine jp 6 28 (jb 15 81) ?_
 refine jp 10 32 (jb 15 1105) ?_
 refine jp 11 33 (jb 15 3153) ?_
 refine jt 1 23 (jb 15 3155) ?_
 refine jp 2 24 (jb 15 3159) ?_
 refine jt 3 25 (jb 15 3167) ?_
 refine jt 7 29 (jb 15 3295) ?_
 refine jp 8 30 (jb 15 3551) ?_
 refine jt 9 31 (jb 15 4063) ?_
 refine one_ (i:=5) (N:=some 27) (jb 15 4095) rfl rfl (one_of HT_.out (by kernel_rfl)) (by decide) (fun K hK=>?_)
 refine goes_ func89 (by kernel_rfl) rfl #[.agg #[iV ((rd_T90 ae 0).f0),iV ((rd_T90 ae 0).f1),.slice bB ((rd_T90 ae 0).f2).length bC],iV a1] (by rfl) rfl rfl qM ?_
 with_reducible refine (ih k (by omega) ((rd_T90 ae 0).f0) ((rd_T90 ae 0).f1) _ _ ((rd_T90 ae 0).f2) a1 bg _ ?bF ?bG dO.out).mono ?_
 (case bF=>exact kC (Kd.C_below aW.out HB.out))
 (case bG=>exact bI.out)
 rintro e eB ⟨dh,rfl,ho0,hb⟩
 refine⟨_,rfl,?_⟩
 have aK:=kL ho0
 replace aa:=kB aa hb
 replace HB:=kH hb
 (try clear hb)
 (try clear hb2)
 (try clear hk)
 (try clear hi)
 (try clear ho0)
 refine hK.out _ _ ⟨(blk_cell aa.out 0).trans rfl,(blk_cell aa.out 1).trans rfl,(blk_cell aa.out 2).trans rfl,(kx HB ax),(kx HB av),(kx HB au),(kx HB aG),(kx HB aD),(kx HB aC)⟩ (fun hHeld=>?_)
 clear hK K
 refine norm_ (a':=?_) ?_ ?_
 rotate_left
 ·show Act.put _ (some 27) _=_
  simp only [Act.put,List.setIfInBounds_toArray,List.set_cons_zero,List.set_cons_succ,i64_w,i32_w]
  rfl
 refine one_ (i:=12) (N:=some 34) (jb 15 8191) rfl rfl (one_of HT_.out (by kernel_rfl)) (by decide) (fun K hK=>?_)
 refine goes_ func89 (by kernel_rfl) rfl #[.agg #[iV ((rd_T90 ae 1).f0),iV ((rd_T90 ae 1).f1),.slice bD ((rd_T90 ae 1).f2).length bE],iV (wrap64 (a1+1))] (by rfl) rfl rfl qM ?_
 with_reducible refine (ih k (by omega) ((rd_T90 ae 1).f0) ((rd_T90 ae 1).f1) _ _ ((rd_T90 ae 1).f2) (wrap64 (a1+1)) aN _ ?bF ?bG dP.out).mono ?_
 (case bF=>exact kC (Kd.C_below aZ.out HB.out))
 (case bG=>exact bJ.out)
 rintro e eD ⟨dU,rfl,ho0,hb⟩
 refine⟨_,rfl,?_⟩
 have aI:=aM (Kd.R_lower (Kd.R_new' ho0 (Kd.R_lt (qR aK))) (below_size qB))
 replace aK:=kO aK ho0 hb
 replace aa:=kB aa hb
 replace HB:=kH hb
 (try clear hb)
 (try clear hb2)
 (try clear hk)
 (try clear hi)
 (try clear ho0)
 obtain⟨bX,bY,bZ⟩:=Kd.R_slice aI.out
 (first|subst bZ|(injection bZ with dF dV dG;have dW:=dF.symm;have dX:=dG.symm;clear dF dV dG;subst dW;subst dX))
 refine hK.out _ _ ⟨(blk_cell aa.out 0).trans rfl,(blk_cell aa.out 1).trans rfl,(blk_cell aa.out 2).trans rfl,(kx HB ax),(kx HB av),(kx HB au),(kx HB aG),(kx HB aD),(kx HB aC)⟩ (fun hHeld=>?_)
 clear hK K
 refine norm_ (a':=?_) ?_ ?_
 rotate_left
 ·show Act.put _ (some 34) _=_
  simp only [Act.put,List.setIfInBounds_toArray,List.set_cons_zero,List.set_cons_succ,i64_w,i32_w]
  rfl
 refine one_ (i:=13) (N:=some 35) (jb 15 16383) rfl rfl (one_of HT_.out (by kernel_rfl)) (by decide) (fun K hK=>?_)
 refine Kd.R_append_rows_step k27 (w0:=w) w.heap.size (by rfl) (.tmp 27) (.tmp 34) 23 27 (.agg #[(iV 0),(iV 0),(iV 0),(iV 0),(iV 0)]) 40 rfl underlying23 info27 rfl (by decide) (by omega) dh bg aN _ _ _ (fun k_=>some k_≠(.slice bX aN.length bY:Value).ownBlock) (fun _=>False) rfl rfl ?aO ?aR (fun _ _ h=>h) (fun _ h=>h.elim) ?aF ?aB ?aS ?aL ?_
 (case aR=>exact kC (Kd.R_reads' aI.out).2.2)
 (case aB=>exact qB)
 (case aF=>exact (fun k_ hk=>Kd.fresh' (Kd.R_lt (qR aI)) k_ hk))
 (case aO=>exact (by (with_reducible repeat (first|apply Kd.R_alloc|apply Kd.R_drewN|apply Kd.R_drew));exact Kd.R_mono aK.out (fun _ hk=>hk.2)))
 (case aS=>exact (below_size qB))
 (case aL=>have:=bU.out;omega)
 intro di eF ho hb hg hat
 rw [<- bz.out] at ho
 have bH:=aM ho
 replace aa:=aM (blk_grown (g:=aJ) (o:=.cells #[iV aH,iV ag,.slice (some af) ae.length bi] 90 (0,0)) (qK aa) hg (Kd.R_ne aK.out aa.out (by decide)))
 replace aI:=aM (Kd.R_after (ok:=(fun _=>True)) (qR aI) hg hat)
 replace HB:=aM hb
 clear aK
 clear ho hb hg hat
 refine hK.out _ _ ⟨(blk_cell aa.out 0).trans rfl,(blk_cell aa.out 1).trans rfl,(blk_cell aa.out 2).trans rfl,(kx HB ax),(kx HB av),(kx HB au),(kx HB aG),(kx HB aD),(kx HB aC)⟩ (fun hHeld=>?_)
 clear hK K
 refine norm_ (a':=?_) ?_ ?_
 rotate_left
 ·show Act.put _ (some 35) _=_
  simp only [Act.put,List.setIfInBounds_toArray,List.set_cons_zero,List.set_cons_succ,i64_w,i32_w]
  rfl
 refine jp 14 5 (jb 15 32767) ?_
 refine done_ (done_of HT_.out (by kernel_rfl)) ?_
 have dY:=jz3 aa
 try go_wp2_with (first|((with_reducible refine gate_builtin (b:=.append) (xs:=#[.tmp 36,.tmp 44]) rfl ?_);at_builtin;refine Kd.R_append k27 (w0:=w) w.heap.size rfl (.tmp 36) (.tmp 44) 23 27 (.agg #[(iV 0),(iV 0),(iV 0),(iV 0),(iV 0)]) 40 rfl underlying23 info27 rfl (by decide) (by omega) di bn (⟨3,a1,a1,wrap64 (a1+1),aH⟩:S27) [iV 3,iV a1,iV a1,iV (wrap64 (a1+1)),iV aH] (fun k_=>some k_≠(.slice bX aN.length bY:Value).ownBlock) (fun _=>False) rfl rfl ?aP (fun _ hk=>hk.elim) ?aF ?aO ?aB ?aS ?aL ?_;(case aP=>exact k27_mkM _ _ _ (⟨3,a1,a1,wrap64 (a1+1),aH⟩:S27));(case aB=>exact qB);(case aF=>exact (fun k_ hk=>Kd.fresh' (Kd.R_lt (qR aI)) k_ hk));(case aO=>exact (qR bH));(case aS=>exact (below_size qB));(case aL=>have:=bV.out;omega);intro dZ eG ho hb hg hat;rw [<- bA.out] at ho;have cz:=aM ho;replace aa:=aM (blk_grown (g:=aJ) (o:=.cells #[iV aH,iV ag,.slice (some af) ae.length bi] 90 (0,0)) (qK aa) hg (Kd.R_ne bH.out aa.out (by decide)));replace aI:=aM (Kd.R_after (ok:=(fun _=>True)) (qR aI) hg hat);replace HB:=aM hb;clear bH;clear ho hb hg hat))
 go_ret
 exact⟨_,qW,by (with_reducible repeat (first|apply Kd.R_alloc|apply Kd.R_drewN|apply Kd.R_drew));exact Kd.R_mono cz.out (fun _ hk=>trivial),qB⟩
mutual
def SaJ.f:Nat->Int->Int->Int->Int->Int->List (S90)->List (S92)->List (S92)->Int->Option ((List (S27)))
 | 0,_,_,_,_,_,_,_,_,_=>none
 | k+1,aA,ax,ay,af,ag,ae,ah,aj,a1=>(SaI.f k af ag ae 4).bind fun aC=>((SaK.f k ah (wrap64 ((wrap64 (a1+(aC.length:Int)))+1))).bind fun az=>(if (aj.length:Int)=0 then (if aC.length < 3518437208883 then ((some (aC ++ [(⟨5,0,4,0,wrap64 ((wrap64 ((wrap64 (a1+(aC.length:Int)))+1))+(az.length:Int))⟩:S27)]:List (S27))).bind fun bO=>(if bO.length+az.length < 3518437208883 then (some (bO ++ az)) else (none))) else (none)) else ((SaK.f k aj (wrap64 ((wrap64 ((wrap64 ((wrap64 (a1+(aC.length:Int)))+1))+(az.length:Int)))+1))).bind fun bv=>(if aC.length < 3518437208883 then ((some (aC ++ [(⟨5,0,4,0,wrap64 ((wrap64 ((wrap64 ((wrap64 (a1+(aC.length:Int)))+1))+(az.length:Int)))+1)⟩:S27)]:List (S27))).bind fun bP=>(if bP.length+az.length < 3518437208883 then ((some (bP ++ az:List (S27))).bind fun bQ=>(if bQ.length < 3518437208883 then ((some (bQ ++ [(⟨4,0,0,0,wrap64 ((wrap64 ((wrap64 ((wrap64 ((wrap64 (a1+(aC.length:Int)))+1))+(az.length:Int)))+1))+(bv.length:Int))⟩:S27)]:List (S27))).bind fun bR=>(if bR.length+bv.length < 3518437208883 then (some (bR ++ bv)) else (none))) else (none))) else (none))) else (none)))))
def SaM.f:Nat->Int->Int->Int->Int->Int->List (S90)->List (S92)->List (S92)->Int->Option ((List (S27)))
 | 0,_,_,_,_,_,_,_,_,_=>none
 | k+1,aA,ax,ay,af,ag,ae,ah,aj,a1=>(SaI.f k af ag ae 4).bind fun bu=>((SaK.f k ah (wrap64 ((wrap64 (a1+(bu.length:Int)))+1))).bind fun bz=>(if bu.length < 3518437208883 then ((some (bu ++ [(⟨5,0,4,0,wrap64 ((wrap64 ((wrap64 ((wrap64 (a1+(bu.length:Int)))+1))+(bz.length:Int)))+1)⟩:S27)]:List (S27))).bind fun bS=>(if bS.length+bz.length < 3518437208883 then ((some (bS ++ bz:List (S27))).bind fun bT=>(if bT.length < 3518437208883 then (some (bT ++ [(⟨4,0,0,0,a1⟩:S27)])) else (none))) else (none))) else (none)))
def SaL.f:Nat->Int->Int->Int->Int->Int->List (S90)->List (S92)->List (S92)->Int->Option ((List (S27)))
 | 0,_,_,_,_,_,_,_,_,_=>none
 | k+1,aA,ax,ay,af,ag,ae,ah,aj,a1=>(SaI.f k af ag ae 4).bind fun aT=>(if aA=2 then ((SaJ.f k aA ax ay af ag ae ah aj a1).bind fun dQ=>(some dQ)) else (if aA=3 then ((SaM.f k aA ax ay af ag ae ah aj a1).bind fun dR=>(some dR)) else (if aA=1 then (if aT.length < 3518437208883 then (some (aT ++ [(⟨2,ax,4,0,0⟩:S27)])) else (none)) else (if aA=4 then (if aT.length < 3518437208883 then (some (aT ++ [(⟨6,0,4,0,ay⟩:S27)])) else (none)) else (if aA=7 then (if aT.length < 3518437208883 then (some (aT ++ [(⟨9,0,4,0,0⟩:S27)])) else (none)) else (if aA=5 then (some (([(⟨7,ax,0,0,ay⟩:S27)]:List (S27)))) else (some (([(⟨8,0,0,0,0⟩:S27)]:List (S27))))))))))
def SaK.l0:Nat->List (S92)->Int->List (S27)->Int->Option ((List (S27)))
 | 0,_,_,_,_=>none
 | k+1,x0,x1,x5,x6=>if x6 < (x0.length:Int) then (if 0<=x6 then ((SaL.f k ((rd_T92 x0 x6).f0) ((rd_T92 x0 x6).f1) ((rd_T92 x0 x6).f2) ((rd_T92 x0 x6).f3.f0) ((rd_T92 x0 x6).f3.f1) ((rd_T92 x0 x6).f3.f2) ((rd_T92 x0 x6).f4) ((rd_T92 x0 x6).f5) (wrap64 (x1+(x5.length:Int)))).bind fun df=>(if x5.length+df.length < 3518437208883 then (SaK.l0 k x0 x1 (x5 ++ df) (wrap64 (x6+1))) else (none))) else (none)) else (some x5)
def SaK.f:Nat->List (S92)->Int->Option ((List (S27)))
 | 0,_,_=>none
 | k+1,l0,a1=>SaK.l0 k l0 a1 (([]:List (S27))) 0
end
@[reducible] def SaJ.stmt (k:Nat):Prop:=∀ (aA:Int) (ax:Int) (ay:Int) (af:Int) (ag:Int) (aI:Option Addr) (aJ:Nat) (ae:List (S90)) (aK:Option Addr) (aN:Nat) (ah:List (S92)) (aV:Option Addr) (aW:Nat) (aj:List (S92)) (a1:Int) (r:List (S27)) (w:World) (bA:Kd.C k90 w aI ae.length ae) (bB:ae.length<=aJ) (bC:Kd.C k92 w aK ah.length ah) (bD:ah.length<=aN) (bE:Kd.C k92 w aV aj.length aj) (bF:aj.length<=aW) (h:SaJ.f k aA ax ay af ag ae ah aj a1=some r),
  Calls prog 90 #[.agg #[iV aA,iV ax,iV ay,iV af,iV ag,.slice aI ae.length aJ,.slice aK ah.length aN,.slice aV aj.length aW],iV a1] w fun e w'=>∃ dS:Value,e = .returned (dS)/\Kd.R k27 27 w' w.heap.size (fun _=>True) dS r/\Below w.heap.size w w'
@[reducible] def SaM.stmt (k:Nat):Prop:=∀ (aA:Int) (ax:Int) (ay:Int) (af:Int) (ag:Int) (aI:Option Addr) (aJ:Nat) (ae:List (S90)) (aK:Option Addr) (aN:Nat) (ah:List (S92)) (aV:Option Addr) (aW:Nat) (aj:List (S92)) (a1:Int) (r:List (S27)) (w:World) (bA:Kd.C k90 w aI ae.length ae) (bB:ae.length<=aJ) (bC:Kd.C k92 w aK ah.length ah) (bD:ah.length<=aN) (bE:Kd.C k92 w aV aj.length aj) (bF:aj.length<=aW) (h:SaM.f k aA ax ay af ag ae ah aj a1=some r),
  Calls prog 91 #[.agg #[iV aA,iV ax,iV ay,iV af,iV ag,.slice aI ae.length aJ,.slice aK ah.length aN,.slice aV aj.length aW],iV a1] w fun e w'=>∃ dS:Value,e = .returned (dS)/\Kd.R k27 27 w' w.heap.size (fun _=>True) dS r/\Below w.heap.size w w'
@[reducible] def SaL.stmt (k:Nat):Prop:=∀ (aA:Int) (ax:Int) (ay:Int) (af:Int) (ag:Int) (aI:Option Addr) (aJ:Nat) (ae:List (S90)) (aK:Option Addr) (aN:Nat) (ah:List (S92)) (aV:Option Addr) (aW:Nat) (aj:List (S92)) (a1:Int) (r:List (S27)) (w:World) (bA:Kd.C k90 w aI ae.length ae) (bB:ae.length<=aJ) (bC:Kd.C k92 w aK ah.length ah) (bD:ah.length<=aN) (bE:Kd.C k92 w aV aj.length aj) (bF:aj.length<=aW) (h:SaL.f k aA ax ay af ag ae ah aj a1=some r),
  Calls prog 81 #[.agg #[iV aA,iV ax,iV ay,iV af,iV ag,.slice aI ae.length aJ,.slice aK ah.length aN,.slice aV aj.length aW],iV a1] w fun e w'=>∃ dS:Value,e = .returned (dS)/\Kd.R k27 27 w' w.heap.size (fun _=>True) dS r/\Below w.heap.size w w'
@[reducible] def SaK.stmt (k:Nat):Prop:=∀ (A0:Option Addr) (c0:Nat) (l0:List (S92)) (a1:Int) (r:List (S27)) (w:World) (hr0:Kd.C k92 w A0 l0.length l0) (hc0:l0.length<=c0) (h:SaK.f k l0 a1=some r),
  Calls prog 72 #[.slice A0 l0.length c0,iV a1] w fun e w'=>∃ dS:Value,e = .returned (dS)/\Kd.R k27 27 w' w.heap.size (fun _=>True) dS r/\Below w.heap.size w w'
theorem SaJ.step (k:Nat) (aD:∀ m_,m_ < k->SaK.stmt m_) (aX:∀ m_,m_ < k->SaL.stmt m_) (ih:∀ m_,m_ < k->SaJ.stmt m_) (aU:∀ m_,m_ < k->SaM.stmt m_):SaJ.stmt k:=by
 intro aA ax ay af ag aI aJ ae aK aN ah aV aW aj a1 r w bA bB bC bD bE bF h
 cases k with
 | zero=>exact absurd h (by simp [SaJ.f])
 | succ k =>
 simp only [SaJ.f] at h
 have fD:=underlying92
 have gp:=underlying90
 have gq:=underlying27
 have bg:=aM bA
 have bi:=aM bB
 clear bA bB
 have bI:=aM bC
 have bJ:=aM bD
 clear bC bD
 have bU:=aM bE
 have bV:=aM bF
 clear bE bF
 have HB:=aM (Below.refl w.heap.size w)
 have H:((SaI.f k af ag ae 4).bind fun aC=>((SaK.f k ah (wrap64 ((wrap64 (a1+(aC.length:Int)))+1))).bind fun az=>(if (aj.length:Int)=0 then (if aC.length < 3518437208883 then ((some (aC ++ [(⟨5,0,4,0,wrap64 ((wrap64 ((wrap64 (a1+(aC.length:Int)))+1))+(az.length:Int))⟩:S27)]:List (S27))).bind fun bO=>(if bO.length+az.length < 3518437208883 then (some (bO ++ az)) else (none))) else (none)) else ((SaK.f k aj (wrap64 ((wrap64 ((wrap64 ((wrap64 (a1+(aC.length:Int)))+1))+(az.length:Int)))+1))).bind fun bv=>(if aC.length < 3518437208883 then ((some (aC ++ [(⟨5,0,4,0,wrap64 ((wrap64 ((wrap64 ((wrap64 (a1+(aC.length:Int)))+1))+(az.length:Int)))+1)⟩:S27)]:List (S27))).bind fun bP=>(if bP.length+az.length < 3518437208883 then ((some (bP ++ az:List (S27))).bind fun bQ=>(if bQ.length < 3518437208883 then ((some (bQ ++ [(⟨4,0,0,0,wrap64 ((wrap64 ((wrap64 ((wrap64 ((wrap64 (a1+(aC.length:Int)))+1))+(az.length:Int)))+1))+(bv.length:Int))⟩:S27)]:List (S27))).bind fun bR=>(if bR.length+bv.length < 3518437208883 then (some (bR ++ bv)) else (none))) else (none))) else (none))) else (none))))))=some r:=h
 clear h
 obtain⟨aC,A3,H⟩:=qE H
 try dsimp only at H
 obtain⟨az,A4,H⟩:=qE H
 try dsimp only at H
 replace H:=jE H;rcases H with ⟨fE,iy,H⟩ | ⟨c5,fE,iy,H⟩
 ·replace H:=jL H;obtain⟨fF,H⟩:=H
  obtain⟨bO,dU⟩:=ky ((aC ++ [(⟨5,0,4,0,wrap64 ((wrap64 ((wrap64 (a1+(aC.length:Int)))+1))+(az.length:Int))⟩:S27)]):List (S27))
  first|replace H:=kz dU H|rw [<- dU.out] at H
  replace H:=jL H;obtain⟨fG,H⟩:=H
  obtain⟨jl,dV⟩:=ky ((bO ++ az):List (S27))
  first|replace H:=kz dV H|rw [<- dV.out] at H
  obtain rfl:=oJ H
  go_enter func90,ntmps90
  go_wp2_with (first|((with_reducible refine jd 2 rfl ?_);refine jX _ 92 ?_;intro bK hg w8 hbox hb;have ai:=aM hbox;have gu:=kG hg;replace HB:=kH hb;clear hb hbox hg;have ja:=jz8 ai)|((with_reducible refine jc 89 11 rfl rfl ?_);refine jG func89 #[.agg #[iV af,iV ag,.slice aI ae.length aJ],iV 4] ?_;refine (SaI.calls k af ag _ _ ae 4 aC _ ?au ?av A3.out).mono ?_;(case au=>exact kC (Kd.C_below bg.out HB.out));(case av=>exact bi.out);rintro e je ⟨iA,rfl,ho0,hb⟩;refine⟨_,rfl,?_⟩;have aQ:=kL ho0;replace ai:=kB ai hb;replace HB:=kH hb;clear hb;(try clear ho0);have iB:=jz8 ai;obtain⟨fH,fI,fJ⟩:=Kd.R_slice aQ.out;subst fJ)|((with_reducible refine jc 72 19 rfl rfl ?_);refine jG func72 #[.slice aK ah.length aN,iV (wrap64 ((wrap64 (a1+(aC.length:Int)))+1))] ?_;refine (aD k (by omega) _ _ ah (wrap64 ((wrap64 (a1+(aC.length:Int)))+1)) az _ ?au ?av A4.out).mono ?_;(case au=>exact kC (Kd.C_below bI.out HB.out));(case av=>exact bJ.out);rintro e jf ⟨iC,rfl,ho0,hb⟩;refine⟨_,rfl,?_⟩;have aH:=aM (Kd.R_lower (Kd.R_new' ho0 (Kd.R_lt (qR aQ))) (below_size qB));replace aQ:=kO aQ ho0 hb;replace ai:=kB ai hb;replace HB:=kH hb;clear hb;(try clear ho0);obtain⟨dM,dN,fK⟩:=Kd.R_slice aH.out;subst fK;have jm:=jz8 ai)|((with_reducible refine gate_builtin (b:=.append) (xs:=#[.tmp 32,.tmp 35]) rfl ?_);at_builtin;refine Kd.R_append k27 (w0:=w) w.heap.size rfl (.tmp 32) (.tmp 35) 23 27 (.agg #[(iV 0),(iV 0),(iV 0),(iV 0),(iV 0)]) 40 rfl underlying23 info27 rfl (by decide) (by omega) (.slice fH aC.length fI) aC (⟨5,0,4,0,wrap64 ((wrap64 ((wrap64 (a1+(aC.length:Int)))+1))+(az.length:Int))⟩:S27) [iV 5,iV 0,iV 4,iV 0,iV (wrap64 ((wrap64 ((wrap64 (a1+(aC.length:Int)))+1))+(az.length:Int)))] (fun k_=>some k_≠(.slice dM az.length dN:Value).ownBlock) (fun _=>False) rfl rfl ?aP (fun _ hk=>hk.elim) ?aF ?aO ?aB ?aS ?aL ?_;(case aP=>exact k27_mkM _ _ _ (⟨5,0,4,0,wrap64 ((wrap64 ((wrap64 (a1+(aC.length:Int)))+1))+(az.length:Int))⟩:S27));(case aB=>exact qB);(case aF=>exact (fun k_ hk=>Kd.fresh' (Kd.R_lt (qR aH)) k_ hk));(case aO=>exact (by (with_reducible repeat (first|apply Kd.R_alloc|apply Kd.R_drewN|apply Kd.R_drew));exact Kd.R_mono aQ.out (fun _ hk=>hk.2)));(case aS=>exact (below_size qB));(case aL=>have:=fF.out;omega);intro iD w16 ho hb hg hat;rw [<- dU.out] at ho;have dW:=aM ho;replace ai:=aM (blk_grown (g:=bK) (o:=.cells #[iV aA,iV ax,iV ay,iV af,iV ag,.slice aI ae.length aJ,.slice aK ah.length aN,.slice aV aj.length aW] 92 (0,0)) (qK ai) hg (Kd.R_ne aQ.out ai.out (by decide)));replace aH:=aM (Kd.R_after (ok:=(fun _=>True)) (qR aH) hg hat);replace HB:=aM hb;clear aQ;clear ho hb hg hat)|((with_reducible refine gate_builtin (b:=.append) (xs:=#[.tmp 37,.tmp 38]) rfl ?_);at_builtin;refine Kd.R_append_rows k27 (w0:=w) w.heap.size rfl (.tmp 37) (.tmp 38) 23 27 (.agg #[(iV 0),(iV 0),(iV 0),(iV 0),(iV 0)]) 40 rfl underlying23 info27 rfl (by decide) (by omega) iD bO az _ _ _ (fun k_=>some k_≠(.slice dM az.length dN:Value).ownBlock) (fun _=>False) rfl rfl ?aO ?aR (fun _ _ h=>h) (fun _ h=>h.elim) ?aF ?aB ?aS ?aL ?_;(case aR=>exact kC (Kd.R_reads' aH.out).2.2);(case aB=>exact qB);(case aF=>exact (fun k_ hk=>Kd.fresh' (Kd.R_lt (qR aH)) k_ hk));(case aO=>exact (qR dW));(case aS=>exact (below_size qB));(case aL=>have:=fG.out;omega);intro jo jg ho hb hg hat;rw [<- dV.out] at ho;have gz:=aM ho;replace ai:=aM (blk_grown (g:=bK) (o:=.cells #[iV aA,iV ax,iV ay,iV af,iV ag,.slice aI ae.length aJ,.slice aK ah.length aN,.slice aV aj.length aW] 92 (0,0)) (qK ai) hg (Kd.R_ne dW.out ai.out (by decide)));replace aH:=aM (Kd.R_after (ok:=(fun _=>True)) (qR aH) hg hat);replace HB:=aM hb;clear dW;clear ho hb hg hat))
  go_ret
  exact⟨_,qW,by (with_reducible repeat (first|apply Kd.R_alloc|apply Kd.R_drewN|apply Kd.R_drew));exact Kd.R_mono gz.out (fun _ hk=>trivial),qB⟩
 have jr:¬ (aj=[]):=fun h_=>c5 (by rw [h_];rfl)
 obtain⟨bv,jv,H⟩:=qE H
 try dsimp only at H
 replace H:=jL H;obtain⟨dX,H⟩:=H
 obtain⟨bP,dY⟩:=ky ((aC ++ [(⟨5,0,4,0,wrap64 ((wrap64 ((wrap64 ((wrap64 (a1+(aC.length:Int)))+1))+(az.length:Int)))+1)⟩:S27)]):List (S27))
 first|replace H:=kz dY H|rw [<- dY.out] at H
 replace H:=jL H;obtain⟨gB,H⟩:=H
 obtain⟨bQ,dZ⟩:=ky ((bP ++ az):List (S27))
 first|replace H:=kz dZ H|rw [<- dZ.out] at H
 replace H:=jL H;obtain⟨gD,H⟩:=H
 obtain⟨bR,d9⟩:=ky ((bQ ++ [(⟨4,0,0,0,wrap64 ((wrap64 ((wrap64 ((wrap64 ((wrap64 (a1+(aC.length:Int)))+1))+(az.length:Int)))+1))+(bv.length:Int))⟩:S27)]):List (S27))
 first|replace H:=kz d9 H|rw [<- d9.out] at H
 replace H:=jL H;obtain⟨gF,H⟩:=H
 obtain⟨jw,ek⟩:=ky ((bR ++ bv):List (S27))
 first|replace H:=kz ek H|rw [<- ek.out] at H
 obtain rfl:=oJ H
 go_enter func90,ntmps90
 go_wp2_with (first|((with_reducible refine jd 2 rfl ?_);refine jX _ 92 ?_;intro bK hg lM hbox hb;have ai:=aM hbox;have gu:=kG hg;replace HB:=kH hb;clear hb hbox hg;have jy:=jz8 ai)|((with_reducible refine jc 89 11 rfl rfl ?_);refine jG func89 #[.agg #[iV af,iV ag,.slice aI ae.length aJ],iV 4] ?_;refine (SaI.calls k af ag _ _ ae 4 aC _ ?au ?av A3.out).mono ?_;(case au=>exact kC (Kd.C_below bg.out HB.out));(case av=>exact bi.out);rintro e lN ⟨iA,rfl,ho0,hb⟩;refine⟨_,rfl,?_⟩;have aQ:=kL ho0;replace ai:=kB ai hb;replace HB:=kH hb;clear hb;(try clear ho0);have jA:=jz8 ai;obtain⟨iE,iF,iG⟩:=Kd.R_slice aQ.out;subst iG)|((with_reducible refine jc 72 19 rfl rfl ?_);refine jG func72 #[.slice aK ah.length aN,iV (wrap64 ((wrap64 (a1+(aC.length:Int)))+1))] ?_;refine (aD k (by omega) _ _ ah (wrap64 ((wrap64 (a1+(aC.length:Int)))+1)) az _ ?au ?av A4.out).mono ?_;(case au=>exact kC (Kd.C_below bI.out HB.out));(case av=>exact bJ.out);rintro e lQ ⟨iC,rfl,ho0,hb⟩;refine⟨_,rfl,?_⟩;have aH:=aM (Kd.R_lower (Kd.R_new' ho0 (Kd.R_lt (qR aQ))) (below_size qB));replace aQ:=kO aQ ho0 hb;replace ai:=kB ai hb;replace HB:=kH hb;clear hb;(try clear ho0);obtain⟨bW,bX,iH⟩:=Kd.R_slice aH.out;subst iH;have iI:=jz8 ai)|((with_reducible refine jc 72 44 rfl rfl ?_);refine jG func72 #[.slice aV aj.length aW,iV (wrap64 ((wrap64 ((wrap64 ((wrap64 (a1+(aC.length:Int)))+1))+(az.length:Int)))+1))] ?_;refine (aD k (by omega) _ _ aj (wrap64 ((wrap64 ((wrap64 ((wrap64 (a1+(aC.length:Int)))+1))+(az.length:Int)))+1)) bv _ ?au ?av jv.out).mono ?_;(case au=>exact kC (Kd.C_below bU.out HB.out));(case av=>exact bV.out);rintro e jH ⟨eZ,rfl,ho0,hb⟩;refine⟨_,rfl,?_⟩;have bn:=aM (Kd.R_lower (Kd.R_new' (Kd.R_new' ho0 (Kd.R_lt (qR aQ))) (Kd.R_lt (qR aH))) (below_size qB));replace aQ:=kO aQ ho0 hb;replace aH:=kO aH ho0 hb;replace ai:=kB ai hb;replace HB:=kH hb;clear hb;(try clear ho0))|((with_reducible refine gate_builtin (b:=.append) (xs:=#[.tmp 45,.tmp 49]) rfl ?_);at_builtin;refine Kd.R_append k27 (w0:=w) w.heap.size rfl (.tmp 45) (.tmp 49) 23 27 (.agg #[(iV 0),(iV 0),(iV 0),(iV 0),(iV 0)]) 40 rfl underlying23 info27 rfl (by decide) (by omega) (.slice iE aC.length iF) aC (⟨5,0,4,0,wrap64 ((wrap64 ((wrap64 ((wrap64 (a1+(aC.length:Int)))+1))+(az.length:Int)))+1)⟩:S27) [iV 5,iV 0,iV 4,iV 0,iV (wrap64 ((wrap64 ((wrap64 ((wrap64 (a1+(aC.length:Int)))+1))+(az.length:Int)))+1))] (fun k_=>some k_≠(.slice bW az.length bX:Value).ownBlock/\some k_≠(eZ:Value).ownBlock) (fun _=>False) rfl rfl ?aP (fun _ hk=>hk.elim) ?aF ?aO ?aB ?aS ?aL ?_;(case aP=>exact k27_mkM _ _ _ (⟨5,0,4,0,wrap64 ((wrap64 ((wrap64 ((wrap64 (a1+(aC.length:Int)))+1))+(az.length:Int)))+1)⟩:S27));(case aB=>exact qB);(case aF=>exact (fun k_ hk=>⟨Kd.fresh' (Kd.R_lt (qR aH)) k_ hk,Kd.fresh' (Kd.R_lt (qR bn)) k_ hk⟩));(case aO=>exact (by (with_reducible repeat (first|apply Kd.R_alloc|apply Kd.R_drewN|apply Kd.R_drew));exact Kd.R_mono aQ.out (fun _ hk=>⟨hk.1.2,hk.2⟩)));(case aS=>exact (below_size qB));(case aL=>have:=dX.out;omega);intro iJ w32 ho hb hg hat;rw [<- dY.out] at ho;have eu:=aM ho;replace ai:=aM (blk_grown (g:=bK) (o:=.cells #[iV aA,iV ax,iV ay,iV af,iV ag,.slice aI ae.length aJ,.slice aK ah.length aN,.slice aV aj.length aW] 92 (0,0)) (qK ai) hg (Kd.R_ne aQ.out ai.out (by decide)));replace aH:=aM (Kd.R_after (ok:=(fun k_=>some k_≠(eZ:Value).ownBlock)) (by (with_reducible repeat (first|apply Kd.R_alloc|apply Kd.R_drewN|apply Kd.R_drew));exact Kd.R_mono aH.out (fun _ hk=>⟨hk.2,hk.1.2⟩)) hg hat);replace bn:=aM (Kd.R_after (ok:=(fun k_=>some k_≠(.slice bW az.length bX:Value).ownBlock)) (by (with_reducible repeat (first|apply Kd.R_alloc|apply Kd.R_drewN|apply Kd.R_drew));exact Kd.R_mono bn.out (fun _ hk=>⟨hk.2,hk.1.2⟩)) hg hat);replace HB:=aM hb;clear aQ;clear ho hb hg hat)|((with_reducible refine gate_builtin (b:=.append) (xs:=#[.tmp 51,.tmp 52]) rfl ?_);at_builtin;refine Kd.R_append_rows k27 (w0:=w) w.heap.size rfl (.tmp 51) (.tmp 52) 23 27 (.agg #[(iV 0),(iV 0),(iV 0),(iV 0),(iV 0)]) 40 rfl underlying23 info27 rfl (by decide) (by omega) iJ bP az _ _ _ (fun k_=>some k_≠(.slice bW az.length bX:Value).ownBlock/\some k_≠(eZ:Value).ownBlock) (fun _=>False) rfl rfl ?aO ?aR (fun _ _ h=>h) (fun _ h=>h.elim) ?aF ?aB ?aS ?aL ?_;(case aR=>exact kC (Kd.R_reads' aH.out).2.2);(case aB=>exact qB);(case aF=>exact (fun k_ hk=>⟨Kd.fresh' (Kd.R_lt (qR aH)) k_ hk,Kd.fresh' (Kd.R_lt (qR bn)) k_ hk⟩));(case aO=>exact (qR eu));(case aS=>exact (below_size qB));(case aL=>have:=gB.out;omega);intro iK lS ho hb hg hat;rw [<- dZ.out] at ho;have eB:=aM ho;replace ai:=aM (blk_grown (g:=bK) (o:=.cells #[iV aA,iV ax,iV ay,iV af,iV ag,.slice aI ae.length aJ,.slice aK ah.length aN,.slice aV aj.length aW] 92 (0,0)) (qK ai) hg (Kd.R_ne eu.out ai.out (by decide)));replace aH:=aM (Kd.R_after (ok:=(fun k_=>some k_≠(eZ:Value).ownBlock)) (qR aH) hg hat);replace bn:=aM (Kd.R_after (ok:=(fun k_=>some k_≠(.slice bW az.length bX:Value).ownBlock)) (qR bn) hg hat);replace HB:=aM hb;clear eu;clear ho hb hg hat;obtain⟨fe,fo,iL⟩:=Kd.R_slice bn.out;subst iL)|((with_reducible refine gate_builtin (b:=.append) (xs:=#[.tmp 54,.tmp 61]) rfl ?_);at_builtin;refine Kd.R_append k27 (w0:=w) w.heap.size rfl (.tmp 54) (.tmp 61) 23 27 (.agg #[(iV 0),(iV 0),(iV 0),(iV 0),(iV 0)]) 40 rfl underlying23 info27 rfl (by decide) (by omega) iK bQ (⟨4,0,0,0,wrap64 ((wrap64 ((wrap64 ((wrap64 ((wrap64 (a1+(aC.length:Int)))+1))+(az.length:Int)))+1))+(bv.length:Int))⟩:S27) [iV 4,iV 0,iV 0,iV 0,iV (wrap64 ((wrap64 ((wrap64 ((wrap64 ((wrap64 (a1+(aC.length:Int)))+1))+(az.length:Int)))+1))+(bv.length:Int)))] (fun k_=>some k_≠(.slice bW az.length bX:Value).ownBlock/\some k_≠(.slice fe bv.length fo:Value).ownBlock) (fun _=>False) rfl rfl ?aP (fun _ hk=>hk.elim) ?aF ?aO ?aB ?aS ?aL ?_;(case aP=>exact k27_mkM _ _ _ (⟨4,0,0,0,wrap64 ((wrap64 ((wrap64 ((wrap64 ((wrap64 (a1+(aC.length:Int)))+1))+(az.length:Int)))+1))+(bv.length:Int))⟩:S27));(case aB=>exact qB);(case aF=>exact (fun k_ hk=>⟨Kd.fresh' (Kd.R_lt (qR aH)) k_ hk,Kd.fresh' (Kd.R_lt (qR bn)) k_ hk⟩));(case aO=>exact (qR eB));(case aS=>exact (below_size qB));(case aL=>have:=gD.out;omega);intro iM lT ho hb hg hat;rw [<- d9.out] at ho;have eD:=aM ho;replace ai:=aM (blk_grown (g:=bK) (o:=.cells #[iV aA,iV ax,iV ay,iV af,iV ag,.slice aI ae.length aJ,.slice aK ah.length aN,.slice aV aj.length aW] 92 (0,0)) (qK ai) hg (Kd.R_ne eB.out ai.out (by decide)));replace aH:=aM (Kd.R_after (ok:=(fun k_=>some k_≠(.slice fe bv.length fo:Value).ownBlock)) (qR aH) hg hat);replace bn:=aM (Kd.R_after (ok:=(fun k_=>some k_≠(.slice bW az.length bX:Value).ownBlock)) (qR bn) hg hat);replace HB:=aM hb;clear eB;clear ho hb hg hat)|((with_reducible refine gate_builtin (b:=.append) (xs:=#[.tmp 63,.tmp 64]) rfl ?_);at_builtin;refine Kd.R_append_rows k27 (w0:=w) w.heap.size rfl (.tmp 63) (.tmp 64) 23 27 (.agg #[(iV 0),(iV 0),(iV 0),(iV 0),(iV 0)]) 40 rfl underlying23 info27 rfl (by decide) (by omega) iM bR bv _ _ _ (fun k_=>some k_≠(.slice bW az.length bX:Value).ownBlock/\some k_≠(.slice fe bv.length fo:Value).ownBlock) (fun _=>False) rfl rfl ?aO ?aR (fun _ _ h=>h) (fun _ h=>h.elim) ?aF ?aB ?aS ?aL ?_;(case aR=>exact kC (Kd.R_reads' bn.out).2.2);(case aB=>exact qB);(case aF=>exact (fun k_ hk=>⟨Kd.fresh' (Kd.R_lt (qR aH)) k_ hk,Kd.fresh' (Kd.R_lt (qR bn)) k_ hk⟩));(case aO=>exact (qR eD));(case aS=>exact (below_size qB));(case aL=>have:=gF.out;omega);intro jK jM ho hb hg hat;rw [<- ek.out] at ho;have gG:=aM ho;replace ai:=aM (blk_grown (g:=bK) (o:=.cells #[iV aA,iV ax,iV ay,iV af,iV ag,.slice aI ae.length aJ,.slice aK ah.length aN,.slice aV aj.length aW] 92 (0,0)) (qK ai) hg (Kd.R_ne eD.out ai.out (by decide)));replace aH:=aM (Kd.R_after (ok:=(fun k_=>some k_≠(.slice fe bv.length fo:Value).ownBlock)) (qR aH) hg hat);replace bn:=aM (Kd.R_after (ok:=(fun k_=>some k_≠(.slice bW az.length bX:Value).ownBlock)) (qR bn) hg hat);replace HB:=aM hb;clear eD;clear ho hb hg hat))
 go_ret
 exact⟨_,qW,by (with_reducible repeat (first|apply Kd.R_alloc|apply Kd.R_drewN|apply Kd.R_drew));exact Kd.R_mono gG.out (fun _ hk=>trivial),qB⟩
theorem SaM.step (k:Nat) (aD:∀ m_,m_ < k->SaK.stmt m_) (aX:∀ m_,m_ < k->SaL.stmt m_) (bq:∀ m_,m_ < k->SaJ.stmt m_) (ih:∀ m_,m_ < k->SaM.stmt m_):SaM.stmt k:=by
 intro aA ax ay af ag aI aJ ae aK aN ah aV aW aj a1 r w bA bB bC bD bE bF h
 cases k with
 | zero=>exact absurd h (by simp [SaM.f])
 | succ k =>
 simp only [SaM.f] at h
 have fD:=underlying92
 have gp:=underlying90
 have gq:=underlying27
 have bg:=aM bA
 have bi:=aM bB
 clear bA bB
 have bI:=aM bC
 have bJ:=aM bD
 clear bC bD
 have bU:=aM bE
 have bV:=aM bF
 clear bE bF
 have HB:=aM (Below.refl w.heap.size w)
 have H:((SaI.f k af ag ae 4).bind fun bu=>((SaK.f k ah (wrap64 ((wrap64 (a1+(bu.length:Int)))+1))).bind fun bz=>(if bu.length < 3518437208883 then ((some (bu ++ [(⟨5,0,4,0,wrap64 ((wrap64 ((wrap64 ((wrap64 (a1+(bu.length:Int)))+1))+(bz.length:Int)))+1)⟩:S27)]:List (S27))).bind fun bS=>(if bS.length+bz.length < 3518437208883 then ((some (bS ++ bz:List (S27))).bind fun bT=>(if bT.length < 3518437208883 then (some (bT ++ [(⟨4,0,0,0,a1⟩:S27)])) else (none))) else (none))) else (none))))=some r:=h
 clear h
 obtain⟨bu,A3,H⟩:=qE H
 try dsimp only at H
 obtain⟨bz,A4,H⟩:=qE H
 try dsimp only at H
 replace H:=jL H;obtain⟨iN,H⟩:=H
 obtain⟨bS,eF⟩:=ky ((bu ++ [(⟨5,0,4,0,wrap64 ((wrap64 ((wrap64 ((wrap64 (a1+(bu.length:Int)))+1))+(bz.length:Int)))+1)⟩:S27)]):List (S27))
 first|replace H:=kz eF H|rw [<- eF.out] at H
 replace H:=jL H;obtain⟨fF,H⟩:=H
 obtain⟨bT,eG⟩:=ky ((bS ++ bz):List (S27))
 first|replace H:=kz eG H|rw [<- eG.out] at H
 replace H:=jL H;obtain⟨fG,H⟩:=H
 obtain⟨jN,eH⟩:=ky ((bT ++ [(⟨4,0,0,0,a1⟩:S27)]):List (S27))
 first|replace H:=kz eH H|rw [<- eH.out] at H
 obtain rfl:=oJ H
 go_enter func91,ntmps91
 go_wp2_with (first|((with_reducible refine jd 2 rfl ?_);refine jX _ 92 ?_;intro eO hg w8 hbox hb;have aY:=aM hbox;have jh:=kG hg;replace HB:=kH hb;clear hb hbox hg;have ja:=jz8 aY)|((with_reducible refine jc 89 9 rfl rfl ?_);refine jG func89 #[.agg #[iV af,iV ag,.slice aI ae.length aJ],iV 4] ?_;refine (SaI.calls k af ag _ _ ae 4 bu _ ?au ?av A3.out).mono ?_;(case au=>exact kC (Kd.C_below bg.out HB.out));(case av=>exact bi.out);rintro e je ⟨jO,rfl,ho0,hb⟩;refine⟨_,rfl,?_⟩;have bL:=kL ho0;replace aY:=kB aY hb;replace HB:=kH hb;clear hb;(try clear ho0);have iB:=jz8 aY;obtain⟨fH,fI,fJ⟩:=Kd.R_slice bL.out;subst fJ)|((with_reducible refine jc 72 17 rfl rfl ?_);refine jG func72 #[.slice aK ah.length aN,iV (wrap64 ((wrap64 (a1+(bu.length:Int)))+1))] ?_;refine (aD k (by omega) _ _ ah (wrap64 ((wrap64 (a1+(bu.length:Int)))+1)) bz _ ?au ?av A4.out).mono ?_;(case au=>exact kC (Kd.C_below bI.out HB.out));(case av=>exact bJ.out);rintro e jf ⟨jQ,rfl,ho0,hb⟩;refine⟨_,rfl,?_⟩;have bG:=aM (Kd.R_lower (Kd.R_new' ho0 (Kd.R_lt (qR bL))) (below_size qB));replace bL:=kO bL ho0 hb;replace aY:=kB aY hb;replace HB:=kH hb;clear hb;(try clear ho0);obtain⟨dM,dN,fK⟩:=Kd.R_slice bG.out;subst fK)|((with_reducible refine gate_builtin (b:=.append) (xs:=#[.tmp 18,.tmp 29]) rfl ?_);at_builtin;refine Kd.R_append k27 (w0:=w) w.heap.size rfl (.tmp 18) (.tmp 29) 23 27 (.agg #[(iV 0),(iV 0),(iV 0),(iV 0),(iV 0)]) 40 rfl underlying23 info27 rfl (by decide) (by omega) (.slice fH bu.length fI) bu (⟨5,0,4,0,wrap64 ((wrap64 ((wrap64 ((wrap64 (a1+(bu.length:Int)))+1))+(bz.length:Int)))+1)⟩:S27) [iV 5,iV 0,iV 4,iV 0,iV (wrap64 ((wrap64 ((wrap64 ((wrap64 (a1+(bu.length:Int)))+1))+(bz.length:Int)))+1))] (fun k_=>some k_≠(.slice dM bz.length dN:Value).ownBlock) (fun _=>False) rfl rfl ?aP (fun _ hk=>hk.elim) ?aF ?aO ?aB ?aS ?aL ?_;(case aP=>exact k27_mkM _ _ _ (⟨5,0,4,0,wrap64 ((wrap64 ((wrap64 ((wrap64 (a1+(bu.length:Int)))+1))+(bz.length:Int)))+1)⟩:S27));(case aB=>exact qB);(case aF=>exact (fun k_ hk=>Kd.fresh' (Kd.R_lt (qR bG)) k_ hk));(case aO=>exact (by (with_reducible repeat (first|apply Kd.R_alloc|apply Kd.R_drewN|apply Kd.R_drew));exact Kd.R_mono bL.out (fun _ hk=>hk.2)));(case aS=>exact (below_size qB));(case aL=>have:=iN.out;omega);intro iO jS ho hb hg hat;rw [<- eF.out] at ho;have eP:=aM ho;replace aY:=aM (blk_grown (g:=eO) (o:=.cells #[iV aA,iV ax,iV ay,iV af,iV ag,.slice aI ae.length aJ,.slice aK ah.length aN,.slice aV aj.length aW] 92 (0,0)) (qK aY) hg (Kd.R_ne bL.out aY.out (by decide)));replace bG:=aM (Kd.R_after (ok:=(fun _=>True)) (qR bG) hg hat);replace HB:=aM hb;clear bL;clear ho hb hg hat)|((with_reducible refine gate_builtin (b:=.append) (xs:=#[.tmp 31,.tmp 32]) rfl ?_);at_builtin;refine Kd.R_append_rows k27 (w0:=w) w.heap.size rfl (.tmp 31) (.tmp 32) 23 27 (.agg #[(iV 0),(iV 0),(iV 0),(iV 0),(iV 0)]) 40 rfl underlying23 info27 rfl (by decide) (by omega) iO bS bz _ _ _ (fun k_=>some k_≠(.slice dM bz.length dN:Value).ownBlock) (fun _=>False) rfl rfl ?aO ?aR (fun _ _ h=>h) (fun _ h=>h.elim) ?aF ?aB ?aS ?aL ?_;(case aR=>exact kC (Kd.R_reads' bG.out).2.2);(case aB=>exact qB);(case aF=>exact (fun k_ hk=>Kd.fresh' (Kd.R_lt (qR bG)) k_ hk));(case aO=>exact (qR eP));(case aS=>exact (below_size qB));(case aL=>have:=fF.out;omega);intro iP w16 ho hb hg hat;rw [<- eG.out] at ho;have eQ:=aM ho;replace aY:=aM (blk_grown (g:=eO) (o:=.cells #[iV aA,iV ax,iV ay,iV af,iV ag,.slice aI ae.length aJ,.slice aK ah.length aN,.slice aV aj.length aW] 92 (0,0)) (qK aY) hg (Kd.R_ne eP.out aY.out (by decide)));replace bG:=aM (Kd.R_after (ok:=(fun _=>True)) (qR bG) hg hat);replace HB:=aM hb;clear eP;clear ho hb hg hat)|((with_reducible refine gate_builtin (b:=.append) (xs:=#[.tmp 34,.tmp 37]) rfl ?_);at_builtin;refine Kd.R_append k27 (w0:=w) w.heap.size rfl (.tmp 34) (.tmp 37) 23 27 (.agg #[(iV 0),(iV 0),(iV 0),(iV 0),(iV 0)]) 40 rfl underlying23 info27 rfl (by decide) (by omega) iP bT (⟨4,0,0,0,a1⟩:S27) [iV 4,iV 0,iV 0,iV 0,iV a1] (fun k_=>some k_≠(.slice dM bz.length dN:Value).ownBlock) (fun _=>False) rfl rfl ?aP (fun _ hk=>hk.elim) ?aF ?aO ?aB ?aS ?aL ?_;(case aP=>exact k27_mkM _ _ _ (⟨4,0,0,0,a1⟩:S27));(case aB=>exact qB);(case aF=>exact (fun k_ hk=>Kd.fresh' (Kd.R_lt (qR bG)) k_ hk));(case aO=>exact (qR eQ));(case aS=>exact (below_size qB));(case aL=>have:=fG.out;omega);intro jT jg ho hb hg hat;rw [<- eH.out] at ho;have gH:=aM ho;replace aY:=aM (blk_grown (g:=eO) (o:=.cells #[iV aA,iV ax,iV ay,iV af,iV ag,.slice aI ae.length aJ,.slice aK ah.length aN,.slice aV aj.length aW] 92 (0,0)) (qK aY) hg (Kd.R_ne eQ.out aY.out (by decide)));replace bG:=aM (Kd.R_after (ok:=(fun _=>True)) (qR bG) hg hat);replace HB:=aM hb;clear eQ;clear ho hb hg hat))
 go_ret
 exact⟨_,qW,by (with_reducible repeat (first|apply Kd.R_alloc|apply Kd.R_drewN|apply Kd.R_drew));exact Kd.R_mono gH.out (fun _ hk=>trivial),qB⟩
theorem SaL.step (k:Nat) (aD:∀ m_,m_ < k->SaK.stmt m_) (ih:∀ m_,m_ < k->SaL.stmt m_) (bq:∀ m_,m_ < k->SaJ.stmt m_) (aU:∀ m_,m_ < k->SaM.stmt m_):SaL.stmt k:=by
 intro aA ax ay af ag aI aJ ae aK aN ah aV aW aj a1 r w bA bB bC bD bE bF h
 cases k with
 | zero=>exact absurd h (by simp [SaL.f])
 | succ k =>
 simp only [SaL.f] at h
 have fD:=underlying92
 have gp:=underlying90
 have gq:=underlying27
 have bg:=aM bA
 have bi:=aM bB
 clear bA bB
 have bI:=aM bC
 have bJ:=aM bD
 clear bC bD
 have bU:=aM bE
 have bV:=aM bF
 clear bE bF
 have HB:=aM (Below.refl w.heap.size w)
 have H:((SaI.f k af ag ae 4).bind fun aT=>(if aA=2 then ((SaJ.f k aA ax ay af ag ae ah aj a1).bind fun dQ=>(some dQ)) else (if aA=3 then ((SaM.f k aA ax ay af ag ae ah aj a1).bind fun dR=>(some dR)) else (if aA=1 then (if aT.length < 3518437208883 then (some (aT ++ [(⟨2,ax,4,0,0⟩:S27)])) else (none)) else (if aA=4 then (if aT.length < 3518437208883 then (some (aT ++ [(⟨6,0,4,0,ay⟩:S27)])) else (none)) else (if aA=7 then (if aT.length < 3518437208883 then (some (aT ++ [(⟨9,0,4,0,0⟩:S27)])) else (none)) else (if aA=5 then (some (([(⟨7,ax,0,0,ay⟩:S27)]:List (S27)))) else (some (([(⟨8,0,0,0,0⟩:S27)]:List (S27)))))))))))=some r:=h
 clear h
 obtain⟨aT,A3,H⟩:=qE H
 try dsimp only at H
 replace H:=jE H;rcases H with ⟨iQ,iR,H⟩ | ⟨c4,iQ,iR,H⟩
 ·obtain⟨dQ,A5,H⟩:=qE H
  try dsimp only at H
  obtain rfl:=oJ H
  go_enter func81,ntmps81
  go_wp2_with (first|((with_reducible refine jd 2 rfl ?_);refine jX _ 92 ?_;intro bH hg w6 hbox hb;have aa:=aM hbox;have bM:=kG hg;replace HB:=kH hb;clear hb hbox hg;have lU:=jz8 aa)|((with_reducible refine jc 89 8 rfl rfl ?_);refine jG func89 #[.agg #[iV af,iV ag,.slice aI ae.length aJ],iV 4] ?_;refine (SaI.calls k af ag _ _ ae 4 aT _ ?au ?av A3.out).mono ?_;(case au=>exact kC (Kd.C_below bg.out HB.out));(case av=>exact bi.out);rintro e w8 ⟨bN,rfl,ho0,hb⟩;refine⟨_,rfl,?_⟩;have aG:=kL ho0;replace aa:=kB aa hb;replace HB:=kH hb;clear hb;(try clear ho0);have ja:=jz8 aa)|((with_reducible refine jc 90 15 rfl rfl ?_);refine jG func90 #[.agg #[iV aA,iV ax,iV ay,iV af,iV ag,.slice aI ae.length aJ,.slice aK ah.length aN,.slice aV aj.length aW],iV a1] ?_;refine (bq k (by omega) aA ax ay af ag _ _ ae _ _ ah _ _ aj a1 dQ _ ?au ?av ?bY ?bZ ?cz ?cB A5.out).mono ?_;(case au=>exact kC (Kd.C_below bg.out HB.out));(case av=>exact bi.out);(case bY=>exact kC (Kd.C_below bI.out HB.out));(case bZ=>exact bJ.out);(case cz=>exact kC (Kd.C_below bU.out HB.out));(case cB=>exact bV.out);rintro e je ⟨jW,rfl,ho0,hb⟩;refine⟨_,rfl,?_⟩;have gI:=aM (Kd.R_lower (Kd.R_new' ho0 (Kd.R_lt (qR aG))) (below_size qB));replace aG:=kO aG ho0 hb;replace aa:=kB aa hb;replace HB:=kH hb;clear hb;(try clear ho0)))
  go_ret
  exact⟨_,qW,by (with_reducible repeat (first|apply Kd.R_alloc|apply Kd.R_drewN|apply Kd.R_drew));exact Kd.R_mono gI.out (fun _ hk=>trivial),qB⟩
 replace H:=jE H;rcases H with ⟨gJ,gK,H⟩ | ⟨c11,gJ,gK,H⟩
 ·obtain⟨dR,jY,H⟩:=qE H
  try dsimp only at H
  obtain rfl:=oJ H
  go_enter func81,ntmps81
  go_wp2_with (first|((with_reducible refine jd 2 rfl ?_);refine jX _ 92 ?_;intro bH hg jf hbox hb;have aa:=aM hbox;have bM:=kG hg;replace HB:=kH hb;clear hb hbox hg;have jZ:=jz8 aa)|((with_reducible refine jc 89 8 rfl rfl ?_);refine jG func89 #[.agg #[iV af,iV ag,.slice aI ae.length aJ],iV 4] ?_;refine (SaI.calls k af ag _ _ ae 4 aT _ ?au ?av A3.out).mono ?_;(case au=>exact kC (Kd.C_below bg.out HB.out));(case av=>exact bi.out);rintro e jS ⟨bN,rfl,ho0,hb⟩;refine⟨_,rfl,?_⟩;have aG:=kL ho0;replace aa:=kB aa hb;replace HB:=kH hb;clear hb;(try clear ho0);have j4:=jz8 aa)|((with_reducible refine jc 91 20 rfl rfl ?_);refine jG func91 #[.agg #[iV aA,iV ax,iV ay,iV af,iV ag,.slice aI ae.length aJ,.slice aK ah.length aN,.slice aV aj.length aW],iV a1] ?_;refine (aU k (by omega) aA ax ay af ag _ _ ae _ _ ah _ _ aj a1 dR _ ?au ?av ?bY ?bZ ?cz ?cB jY.out).mono ?_;(case au=>exact kC (Kd.C_below bg.out HB.out));(case av=>exact bi.out);(case bY=>exact kC (Kd.C_below bI.out HB.out));(case bZ=>exact bJ.out);(case cz=>exact kC (Kd.C_below bU.out HB.out));(case cB=>exact bV.out);rintro e jg ⟨j5,rfl,ho0,hb⟩;refine⟨_,rfl,?_⟩;have gL:=aM (Kd.R_lower (Kd.R_new' ho0 (Kd.R_lt (qR aG))) (below_size qB));replace aG:=kO aG ho0 hb;replace aa:=kB aa hb;replace HB:=kH hb;clear hb;(try clear ho0)))
  go_ret
  exact⟨_,qW,by (with_reducible repeat (first|apply Kd.R_alloc|apply Kd.R_drewN|apply Kd.R_drew));exact Kd.R_mono gL.out (fun _ hk=>trivial),qB⟩
 replace H:=jE H;rcases H with ⟨gM,gN,H⟩ | ⟨c18,gM,gN,H⟩
 ·replace H:=jL H;obtain⟨dX,H⟩:=H
  obtain⟨j6,eT⟩:=ky ((aT ++ [(⟨2,ax,4,0,0⟩:S27)]):List (S27))
  first|replace H:=kz eT H|rw [<- eT.out] at H
  obtain rfl:=oJ H
  go_enter func81,ntmps81
  go_wp2_with (first|((with_reducible refine jd 2 rfl ?_);refine jX _ 92 ?_;intro bH hg lV hbox hb;have aa:=aM hbox;have bM:=kG hg;replace HB:=kH hb;clear hb hbox hg;have kg:=jz8 aa)|((with_reducible refine jc 89 8 rfl rfl ?_);refine jG func89 #[.agg #[iV af,iV ag,.slice aI ae.length aJ],iV 4] ?_;refine (SaI.calls k af ag _ _ ae 4 aT _ ?au ?av A3.out).mono ?_;(case au=>exact kC (Kd.C_below bg.out HB.out));(case av=>exact bi.out);rintro e lW ⟨bN,rfl,ho0,hb⟩;refine⟨_,rfl,?_⟩;have aG:=kL ho0;replace aa:=kB aa hb;replace HB:=kH hb;clear hb;(try clear ho0);have ko:=jz8 aa)|((with_reducible refine gate_builtin (b:=.append) (xs:=#[.tmp 23,.tmp 27]) rfl ?_);at_builtin;refine Kd.R_append k27 (w0:=w) w.heap.size rfl (.tmp 23) (.tmp 27) 23 27 (.agg #[(iV 0),(iV 0),(iV 0),(iV 0),(iV 0)]) 40 rfl underlying23 info27 rfl (by decide) (by omega) bN aT (⟨2,ax,4,0,0⟩:S27) [iV 2,iV ax,iV 4,iV 0,iV 0] (fun _=>True) (fun _=>False) rfl rfl ?aP (fun _ hk=>hk.elim) ?aF ?aO ?aB ?aS ?aL ?_;(case aP=>exact k27_mkM _ _ _ (⟨2,ax,4,0,0⟩:S27));(case aB=>exact qB);(case aF=>exact (fun _ _=>trivial));(case aO=>exact (qR aG));(case aS=>exact (below_size qB));(case aL=>have:=dX.out;omega);intro kr lX ho hb hg hat;rw [<- eT.out] at ho;have gP:=aM ho;replace aa:=aM (blk_grown (g:=bH) (o:=.cells #[iV aA,iV ax,iV ay,iV af,iV ag,.slice aI ae.length aJ,.slice aK ah.length aN,.slice aV aj.length aW] 92 (0,0)) (qK aa) hg (Kd.R_ne aG.out aa.out (by decide)));replace HB:=aM hb;clear aG;clear ho hb hg hat))
  go_ret
  exact⟨_,qW,qR gP,qB⟩
 replace H:=jE H;rcases H with ⟨gQ,gT,H⟩ | ⟨lY,gQ,gT,H⟩
 ·replace H:=jL H;obtain⟨gU,H⟩:=H
  obtain⟨ku,eU⟩:=ky ((aT ++ [(⟨6,0,4,0,ay⟩:S27)]):List (S27))
  first|replace H:=kz eU H|rw [<- eU.out] at H
  obtain rfl:=oJ H
  go_enter func81,ntmps81
  go_wp2_with (first|((with_reducible refine jd 2 rfl ?_);refine jX _ 92 ?_;intro bH hg lZ hbox hb;have aa:=aM hbox;have bM:=kG hg;replace HB:=kH hb;clear hb hbox hg;have kv:=jz8 aa)|((with_reducible refine jc 89 8 rfl rfl ?_);refine jG func89 #[.agg #[iV af,iV ag,.slice aI ae.length aJ],iV 4] ?_;refine (SaI.calls k af ag _ _ ae 4 aT _ ?au ?av A3.out).mono ?_;(case au=>exact kC (Kd.C_below bg.out HB.out));(case av=>exact bi.out);rintro e l8 ⟨bN,rfl,ho0,hb⟩;refine⟨_,rfl,?_⟩;have aG:=kL ho0;replace aa:=kB aa hb;replace HB:=kH hb;clear hb;(try clear ho0);have iI:=jz8 aa)|((with_reducible refine gate_builtin (b:=.append) (xs:=#[.tmp 31,.tmp 35]) rfl ?_);at_builtin;refine Kd.R_append k27 (w0:=w) w.heap.size rfl (.tmp 31) (.tmp 35) 23 27 (.agg #[(iV 0),(iV 0),(iV 0),(iV 0),(iV 0)]) 40 rfl underlying23 info27 rfl (by decide) (by omega) bN aT (⟨6,0,4,0,ay⟩:S27) [iV 6,iV 0,iV 4,iV 0,iV ay] (fun _=>True) (fun _=>False) rfl rfl ?aP (fun _ hk=>hk.elim) ?aF ?aO ?aB ?aS ?aL ?_;(case aP=>exact k27_mkM _ _ _ (⟨6,0,4,0,ay⟩:S27));(case aB=>exact qB);(case aF=>exact (fun _ _=>trivial));(case aO=>exact (qR aG));(case aS=>exact (below_size qB));(case aL=>have:=gU.out;omega);intro kw jH ho hb hg hat;rw [<- eU.out] at ho;have gV:=aM ho;replace aa:=aM (blk_grown (g:=bH) (o:=.cells #[iV aA,iV ax,iV ay,iV af,iV ag,.slice aI ae.length aJ,.slice aK ah.length aN,.slice aV aj.length aW] 92 (0,0)) (qK aa) hg (Kd.R_ne aG.out aa.out (by decide)));replace HB:=aM hb;clear aG;clear ho hb hg hat))
  go_ret
  exact⟨_,qW,qR gV,qB⟩
 replace H:=jE H;rcases H with ⟨gW,gX,H⟩ | ⟨c32,gW,gX,H⟩
 ·replace H:=jL H;obtain⟨gY,H⟩:=H
  obtain⟨kD,eX⟩:=ky ((aT ++ [(⟨9,0,4,0,0⟩:S27)]):List (S27))
  first|replace H:=kz eX H|rw [<- eX.out] at H
  obtain rfl:=oJ H
  go_enter func81,ntmps81
  go_wp2_with (first|((with_reducible refine jd 2 rfl ?_);refine jX _ 92 ?_;intro bH hg l9 hbox hb;have aa:=aM hbox;have bM:=kG hg;replace HB:=kH hb;clear hb hbox hg;have kE:=jz8 aa)|((with_reducible refine jc 89 8 rfl rfl ?_);refine jG func89 #[.agg #[iV af,iV ag,.slice aI ae.length aJ],iV 4] ?_;refine (SaI.calls k af ag _ _ ae 4 aT _ ?au ?av A3.out).mono ?_;(case au=>exact kC (Kd.C_below bg.out HB.out));(case av=>exact bi.out);rintro e jM ⟨bN,rfl,ho0,hb⟩;refine⟨_,rfl,?_⟩;have aG:=kL ho0;replace aa:=kB aa hb;replace HB:=kH hb;clear hb;(try clear ho0);have kF:=jz8 aa)|((with_reducible refine gate_builtin (b:=.append) (xs:=#[.tmp 39,.tmp 41]) rfl ?_);at_builtin;refine Kd.R_append k27 (w0:=w) w.heap.size rfl (.tmp 39) (.tmp 41) 23 27 (.agg #[(iV 0),(iV 0),(iV 0),(iV 0),(iV 0)]) 40 rfl underlying23 info27 rfl (by decide) (by omega) bN aT (⟨9,0,4,0,0⟩:S27) [iV 9,iV 0,iV 4,iV 0,iV 0] (fun _=>True) (fun _=>False) rfl rfl ?aP (fun _ hk=>hk.elim) ?aF ?aO ?aB ?aS ?aL ?_;(case aP=>exact k27_mkM _ _ _ (⟨9,0,4,0,0⟩:S27));(case aB=>exact qB);(case aF=>exact (fun _ _=>trivial));(case aO=>exact (qR aG));(case aS=>exact (below_size qB));(case aL=>have:=gY.out;omega);intro kJ ma ho hb hg hat;rw [<- eX.out] at ho;have gZ:=aM ho;replace aa:=aM (blk_grown (g:=bH) (o:=.cells #[iV aA,iV ax,iV ay,iV af,iV ag,.slice aI ae.length aJ,.slice aK ah.length aN,.slice aV aj.length aW] 92 (0,0)) (qK aa) hg (Kd.R_ne aG.out aa.out (by decide)));replace HB:=aM hb;clear aG;clear ho hb hg hat))
  go_ret
  exact⟨_,qW,qR gZ,qB⟩
 replace H:=jE H;rcases H with ⟨ib,ic,H⟩ | ⟨mf,ib,ic,H⟩
 ·obtain⟨kP,di⟩:=ky ((([(⟨7,ax,0,0,ay⟩:S27)]:List (S27))):List (S27))
  first|replace H:=kz di H|rw [<- di.out] at H
  obtain rfl:=oJ H
  go_enter func81,ntmps81
  go_wp2_with (first|((with_reducible refine jd 2 rfl ?_);refine jX _ 92 ?_;intro bH hg mg hbox hb;have aa:=aM hbox;have bM:=kG hg;replace HB:=kH hb;clear hb hbox hg;have kU:=jz8 aa)|((with_reducible refine jc 89 8 rfl rfl ?_);refine jG func89 #[.agg #[iV af,iV ag,.slice aI ae.length aJ],iV 4] ?_;refine (SaI.calls k af ag _ _ ae 4 aT _ ?au ?av A3.out).mono ?_;(case au=>exact kC (Kd.C_below bg.out HB.out));(case av=>exact bi.out);rintro e mh ⟨bN,rfl,ho0,hb⟩;refine⟨_,rfl,?_⟩;have aG:=kL ho0;replace aa:=kB aa hb;replace HB:=kH hb;clear hb;(try clear ho0);have kV:=jz8 aa)|((with_reducible refine jd 50 rfl ?_);refine jV k27 27 ([(⟨7,ax,0,0,ay⟩:S27)]:List (S27)) [iV 7,iV ax,iV 0,iV 0,iV ay] (Reps.c5 (show Kd.M k27 _ _ _ (⟨7,ax,0,0,ay⟩:S27) [iV 7,iV ax,iV 0,iV 0,iV ay] from (k27_mkM _ _ _ (⟨7,ax,0,0,ay⟩:S27) )) (Reps.none _ _)) ?_;intro kX mi dO hb;(first|rw [<- di.out] at dO|(simp only [Int.reduceToNat] at dO;rw [<- di.out] at dO));have ig:=aM (Kd.R_lower (Kd.R_new' dO (Kd.R_lt (qR aG))) (below_size qB));replace aG:=kO aG dO hb;replace aa:=kB aa hb;replace HB:=kH hb;clear hb dO))
  go_ret
  exact⟨_,qW,by (with_reducible repeat (first|apply Kd.R_alloc|apply Kd.R_drewN|apply Kd.R_drew));exact Kd.R_mono ig.out (fun _ hk=>trivial),qB⟩
 obtain⟨kY,dn⟩:=ky ((([(⟨8,0,0,0,0⟩:S27)]:List (S27))):List (S27))
 first|replace H:=kz dn H|rw [<- dn.out] at H
 obtain rfl:=oJ H
 go_enter func81,ntmps81
 go_wp2_with (first|((with_reducible refine jd 2 rfl ?_);refine jX _ 92 ?_;intro bH hg mo hbox hb;have aa:=aM hbox;have bM:=kG hg;replace HB:=kH hb;clear hb hbox hg;have kZ:=jz8 aa)|((with_reducible refine jc 89 8 rfl rfl ?_);refine jG func89 #[.agg #[iV af,iV ag,.slice aI ae.length aJ],iV 4] ?_;refine (SaI.calls k af ag _ _ ae 4 aT _ ?au ?av A3.out).mono ?_;(case au=>exact kC (Kd.C_below bg.out HB.out));(case av=>exact bi.out);rintro e mq ⟨bN,rfl,ho0,hb⟩;refine⟨_,rfl,?_⟩;have aG:=kL ho0;replace aa:=kB aa hb;replace HB:=kH hb;clear hb;(try clear ho0);have lc:=jz8 aa)|((with_reducible refine jd 52 rfl ?_);refine jV k27 27 ([(⟨8,0,0,0,0⟩:S27)]:List (S27)) [iV 8,iV 0,iV 0,iV 0,iV 0] (Reps.c5 (show Kd.M k27 _ _ _ (⟨8,0,0,0,0⟩:S27) [iV 8,iV 0,iV 0,iV 0,iV 0] from (k27_mkM _ _ _ (⟨8,0,0,0,0⟩:S27) )) (Reps.none _ _)) ?_;intro lg mr dP hb;(first|rw [<- dn.out] at dP|(simp only [Int.reduceToNat] at dP;rw [<- dn.out] at dP));have ik:=aM (Kd.R_lower (Kd.R_new' dP (Kd.R_lt (qR aG))) (below_size qB));replace aG:=kO aG dP hb;replace aa:=kB aa hb;replace HB:=kH hb;clear hb dP))
 go_ret
 exact⟨_,qW,by (with_reducible repeat (first|apply Kd.R_alloc|apply Kd.R_drewN|apply Kd.R_drew));exact Kd.R_mono ik.out (fun _ hk=>trivial),qB⟩
theorem SaK.step (k:Nat) (ih:∀ m_,m_ < k->SaK.stmt m_) (aX:∀ m_,m_ < k->SaL.stmt m_) (bq:∀ m_,m_ < k->SaJ.stmt m_) (aU:∀ m_,m_ < k->SaM.stmt m_):SaK.stmt k:=by
 intro A0 c0 l0 a1 r w hr0 hc0 h
 cases k with
 | zero=>exact absurd h (by simp [SaK.f])
 | succ k =>
 simp only [SaK.f] at h
 have fD:=underlying92
 have lh:=aM hr0
 have mD:=aM hc0
 clear hr0 hc0
 have HB:=aM (Below.refl w.heap.size w)
 have H:(SaK.l0 k l0 a1 (([]:List (S27))) 0)=some r:=h
 clear h
 obtain⟨iT,dw⟩:=ky ((([]:List (S27))):List (S27))
 first|replace H:=kz dw H|rw [<- dw.out] at H
 have H':=aM H
 clear H
 go_enter func72,ntmps72
 go_wp2_with (first|((with_reducible refine jd 7 rfl ?_);refine jV k27 27 ([]:List (S27)) [] (Reps.none _ _) ?_;intro ll w3 il hb;(first|rw [<- dw.out] at il|(simp only [Int.reduceToNat] at il;rw [<- dw.out] at il));have iq:=kL il;replace HB:=kH hb;clear hb il))
 go_loopg [5,6] k (fun kq v5 v6 w'=>∃ (cK:List (S27)) (aZ:Int),v6 = iV aZ/\Aside0 (SaK.l0 kq l0 a1 cK aZ=some r)/\Aside0 (kq<=k)/\Aside0 (Kd.R k27 27 w' w.heap.size (fun _=>True) v5 cK)/\Aside0 (Below w.heap.size w w'))
 case atStart=>exact⟨(iT),(0),qZ,H',⟨Nat.le_refl _⟩,⟨qR iq⟩,⟨qB⟩⟩
 clear H'
 obtain⟨cK,aZ,rfl,HA,iU,dh,HB⟩:=hrel
 rcases gk with _|k1
 ·exact absurd HA.out (by simp [SaK.l0])
 have H:=HA.out
 clear HA
 simp only [SaK.l0] at H
 replace H:=jD H;rcases H with ⟨fE,H⟩ | ⟨fE,H⟩
 ·replace H:=jI H;obtain⟨lu,H⟩:=H
  obtain⟨df,A7,H⟩:=qE H
  try dsimp only at H
  replace H:=jL H;obtain⟨iW,H⟩:=H
  obtain⟨lw,eY⟩:=ky ((cK ++ df):List (S27))
  first|replace H:=kz eY H|rw [<- eY.out] at H
  have H':=aM H
  clear H
  have fM:0<=(aZ:Int):=qD
  have fO:aZ < (l0.length:Int):=qD
  obtain⟨jk,fP,fQ,fT,fU,fV,fZ,e336,dx,dz,dA,dB,dC,dD,dE,dF,dG,dH,dI,dJ,dK,dL⟩:=at_T92 lh.out aZ fM fO
  cases e336
  replace dx:=kx HB dx
  replace dz:=kx HB dz
  replace dA:=kx HB dA
  replace dB:=kx HB dB
  replace dC:=kx HB dC
  replace dD:=kx HB dD
  replace dE:=kx HB dE
  replace dF:=kx HB dF
  have fq:=aM dH
  have fu:=aM dG
  clear dH dG
  have fw:=aM dJ
  have fA:=aM dI
  clear dJ dI
  have fB:=aM dL
  have fC:=aM dK
  clear dL dK
  replace fM:=eq_true fM
  replace fO:=eq_true fO
  obtain⟨lC,lD,lF⟩:=Kd.R_slice dh.out
  subst lF
  go_wp2_with (first|((with_reducible refine jc 81 23 rfl rfl ?_);refine jG func81 #[.agg #[iV ((rd_T92 l0 aZ).f0),iV ((rd_T92 l0 aZ).f1),iV ((rd_T92 l0 aZ).f2),iV ((rd_T92 l0 aZ).f3.f0),iV ((rd_T92 l0 aZ).f3.f1),.slice fP ((rd_T92 l0 aZ).f3.f2).length fQ,.slice fT ((rd_T92 l0 aZ).f4).length fU,.slice fV ((rd_T92 l0 aZ).f5).length fZ],iV (wrap64 (a1+(cK.length:Int)))] ?_;refine (aX k1 (by have:=iU.out;omega) ((rd_T92 l0 aZ).f0) ((rd_T92 l0 aZ).f1) ((rd_T92 l0 aZ).f2) ((rd_T92 l0 aZ).f3.f0) ((rd_T92 l0 aZ).f3.f1) _ _ ((rd_T92 l0 aZ).f3.f2) _ _ ((rd_T92 l0 aZ).f4) _ _ ((rd_T92 l0 aZ).f5) (wrap64 (a1+(cK.length:Int))) df _ ?au ?av ?bY ?bZ ?cz ?cB A7.out).mono ?_;(case au=>exact kC (Kd.C_below fq.out HB.out));(case av=>exact fu.out);(case bY=>exact kC (Kd.C_below fw.out HB.out));(case bZ=>exact fA.out);(case cz=>exact kC (Kd.C_below fB.out HB.out));(case cB=>exact fC.out);rintro e lG ⟨lH,rfl,gm,hb⟩;refine⟨_,rfl,?_⟩;have cO:=aM (Kd.R_lower (Kd.R_new' gm (Kd.R_lt (qR dh))) (below_size qB));replace dh:=kO dh gm hb;replace HB:=kH hb;clear hb;(try clear gm);obtain⟨iX,iY,iZ⟩:=Kd.R_slice cO.out;subst iZ)|((with_reducible refine gate_builtin (b:=.append) (xs:=#[.tmp 14,.tmp 23]) rfl ?_);at_builtin;refine Kd.R_append_rows k27 (w0:=w) w.heap.size rfl (.tmp 14) (.tmp 23) 23 27 (.agg #[(iV 0),(iV 0),(iV 0),(iV 0),(iV 0)]) 40 rfl underlying23 info27 rfl (by decide) (by omega) (.slice lC cK.length lD) cK df _ _ _ (fun k_=>some k_≠(.slice iX df.length iY:Value).ownBlock) (fun _=>False) rfl rfl ?aO ?aR (fun _ _ h=>h) (fun _ h=>h.elim) ?aF ?aB ?aS ?aL ?_;(case aR=>exact kC (Kd.R_reads' cO.out).2.2);(case aB=>exact qB);(case aF=>exact (fun k_ hk=>Kd.fresh' (Kd.R_lt (qR cO)) k_ hk));(case aO=>exact (by (with_reducible repeat (first|apply Kd.R_alloc|apply Kd.R_drewN|apply Kd.R_drew));exact Kd.R_mono dh.out (fun _ hk=>hk.2)));(case aS=>exact (below_size qB));(case aL=>have:=iW.out;omega);intro lI lJ ho hb hg hat;rw [<- eY.out] at ho;have iw:=aM ho;replace cO:=aM (Kd.R_after (ok:=(fun _=>True)) (qR cO) hg hat);replace HB:=aM hb;clear dh;clear ho hb hg hat))
  go_roundg k1
  case measure=>have:=iU.out;omega
  exact⟨_,_,qZ,H',⟨by have:=iU.out;omega⟩,⟨by (with_reducible repeat (first|apply Kd.R_alloc|apply Kd.R_drewN|apply Kd.R_drew));exact Kd.R_mono iw.out (fun _ hk=>trivial)⟩,⟨qB⟩⟩
 obtain rfl:=oJ H
 go_wp2
 go_ret
 exact⟨_,qW,qR dh,qB⟩
theorem SaJ.grp.calls (k:Nat):SaJ.stmt k/\SaM.stmt k/\SaL.stmt k/\SaK.stmt k:=by
 induction k using Nat.strongRecOn with
 | _ k ih=>exact⟨SaJ.step k (fun m_ h_=>(ih m_ h_).2.2.2) (fun m_ h_=>(ih m_ h_).2.2.1) (fun m_ h_=>(ih m_ h_).1) (fun m_ h_=>(ih m_ h_).2.1),SaM.step k (fun m_ h_=>(ih m_ h_).2.2.2) (fun m_ h_=>(ih m_ h_).2.2.1) (fun m_ h_=>(ih m_ h_).1) (fun m_ h_=>(ih m_ h_).2.1),SaL.step k (fun m_ h_=>(ih m_ h_).2.2.2) (fun m_ h_=>(ih m_ h_).2.2.1) (fun m_ h_=>(ih m_ h_).1) (fun m_ h_=>(ih m_ h_).2.1),SaK.step k (fun m_ h_=>(ih m_ h_).2.2.2) (fun m_ h_=>(ih m_ h_).2.2.1) (fun m_ h_=>(ih m_ h_).1) (fun m_ h_=>(ih m_ h_).2.1)⟩
theorem SaK.calls (k:Nat):SaK.stmt k:=(SaJ.grp.calls k).2.2.2
def Sag.f (k:Nat) (l0:List (S92)):Option ((List (S27)) × Bool):=(Saw.f k l0).bind fun au=>(if au=true then ((SaK.f k l0 0).bind fun ag=>(if ag.length < 3518437208883 then (some ((ag ++ [(⟨10,0,0,0,0⟩:S27)]),true)) else (none))) else (some ((([]:List (S27))),false)))
theorem Sag.calls (k:Nat) (A0:Option Addr) (c0:Nat) (l0:List (S92)) (r1:List (S27)) (r2:Bool) (w:World) (hr0:Kd.C k92 w A0 l0.length l0) (hc0:l0.length<=c0) (h:Sag.f k l0=some (r1,r2)) :
  Calls prog 62 #[.slice A0 l0.length c0] w fun e w'=>∃ aD:Value,e = .returned (.tuple #[aD,.bool r2])/\Kd.R k27 27 w' w.heap.size (fun _=>True) aD r1/\Below w.heap.size w w':=by
 have aG:=underlying27
 have ay:=aM hr0
 have az:=aM hc0
 clear hr0 hc0
 have HB:=aM (Below.refl w.heap.size w)
 have H:=h;unfold Sag.f at H
 clear h
 obtain⟨au,A2,H⟩:=qE H
 try dsimp only at H
 replace H:=jB H;rcases H with ⟨rfl,H⟩ | ⟨rfl,H⟩
 ·obtain⟨ag,A4,H⟩:=qE H
  try dsimp only at H
  replace H:=jL H;obtain⟨aA,H⟩:=H
  obtain⟨aH,ah⟩:=ky ((ag ++ [(⟨10,0,0,0,0⟩:S27)]):List (S27))
  first|replace H:=kz ah H|rw [<- ah.out] at H
  obtain⟨rfl,rfl⟩:=oJ2 H
  go_enter func62,ntmps62
  go_wp2_with (first|((with_reducible refine jc 71 5 rfl rfl ?_);refine jG func71 #[.slice A0 l0.length c0] ?_;refine (Saw.calls k _ _ l0 true _ ?aa ?ae A2.out).mono ?_;(case aa=>exact kC ay.out);(case ae=>exact az.out);rintro e w6 ⟨rfl,hb⟩;refine⟨_,rfl,?_⟩;replace HB:=kH hb;clear hb)|((with_reducible refine jc 72 9 rfl rfl ?_);refine jG func72 #[.slice A0 l0.length c0,iV 0] ?_;refine (SaK.calls k _ _ l0 0 ag _ ?aa ?ae A4.out).mono ?_;(case aa=>exact kC (Kd.C_below ay.out HB.out));(case ae=>exact az.out);rintro e w7 ⟨aC,rfl,ho0,hb⟩;refine⟨_,rfl,?_⟩;have aj:=kL ho0;replace HB:=kH hb;clear hb;(try clear ho0))|((with_reducible refine gate_builtin (b:=.append) (xs:=#[.tmp 9,.tmp 11]) rfl ?_);at_builtin;refine Kd.R_append k27 (w0:=w) w.heap.size rfl (.tmp 9) (.tmp 11) 23 27 (.agg #[(iV 0),(iV 0),(iV 0),(iV 0),(iV 0)]) 40 rfl underlying23 info27 rfl (by decide) (by omega) aC ag (⟨10,0,0,0,0⟩:S27) [iV 10,iV 0,iV 0,iV 0,iV 0] (fun _=>True) (fun _=>False) rfl rfl ?aP (fun _ hk=>hk.elim) ?aF ?aO ?aB ?aS ?aL ?_;(case aP=>exact k27_mkM _ _ _ (⟨10,0,0,0,0⟩:S27));(case aB=>exact qB);(case aF=>exact (fun _ _=>trivial));(case aO=>exact (qR aj));(case aS=>exact (below_size qB));(case aL=>have:=aA.out;omega);intro aI w8 ho hb hg hat;rw [<- ah.out] at ho;have av:=aM ho;replace HB:=aM hb;clear aj;clear ho hb hg hat))
  go_ret2
  exact⟨_,qW,qR av,qB⟩
 obtain⟨aJ,af⟩:=ky ((([]:List (S27))):List (S27))
 first|replace H:=kz af H|rw [<- af.out] at H
 obtain⟨rfl,rfl⟩:=oJ2 H
 go_enter func62,ntmps62
 go_wp2_with (first|((with_reducible refine jc 71 5 rfl rfl ?_);refine jG func71 #[.slice A0 l0.length c0] ?_;refine (Saw.calls k _ _ l0 false _ ?aa ?ae A2.out).mono ?_;(case aa=>exact kC ay.out);(case ae=>exact az.out);rintro e w9 ⟨rfl,hb⟩;refine⟨_,rfl,?_⟩;replace HB:=kH hb;clear hb)|((with_reducible refine jd 7 rfl ?_);refine jV k27 27 ([]:List (S27)) [] (Reps.none _ _) ?_;intro aK aN ai hb;(first|rw [<- af.out] at ai|(simp only [Int.reduceToNat] at ai;rw [<- af.out] at ai));have ax:=kL ai;replace HB:=kH hb;clear hb ai))
 go_ret2
 exact⟨_,qW,qR ax,qB⟩
def Sbi.f (a0 az aA:Int) (av:List (S90)) (aC aD:Int) (ax:List (S90)):Option (Int × Int × (List (S90))):=some (a0,0,(([(⟨az,aA,av⟩:S90),(⟨aC,aD,ax⟩:S90)]:List (S90))))
theorem Sbi.calls (a0 az aA:Int) (af:Nat->Prop) (aJ:Option Addr) (aK:Nat) (av:List (S90)) (aC aD:Int) (ag:Nat->Prop) (aN:Option Addr) (aQ:Nat) (ax:List (S90)) (r1 r2:Int) (r3:List (S90)) (w:World) (bg:Kd.V k90 90 w w.heap.size (fun k_=>af k_) (.slice aJ av.length aK) av) (bi:Kd.V k90 90 w w.heap.size (fun k_=>ag k_) (.slice aN ax.length aQ) ax) (h:Sbi.f a0 az aA av aC aD ax=some (r1,r2,r3)) :
  Calls prog 109 #[iV a0,.agg #[iV az,iV aA,.slice aJ av.length aK],.agg #[iV aC,iV aD,.slice aN ax.length aQ]] w fun e w'=>∃ bz:Value,e = .returned (.agg #[iV r1,iV r2,bz])/\Kd.N k90 90 w' w.heap.size (fun k_=>((af k_\/ag k_)\/w.heap.size<=k_)) bz r3/\Below w.heap.size w w':=by
 have bF:=underlying90
 have ah:=aM (show Kd.V k90 90 w w.heap.size (fun k_=>((af k_\/ag k_)\/w.heap.size<=k_)) (.slice aJ av.length aK) av from Kd.V_mono bg (fun k_ hk=>.inl (.inl hk)))
 have ai:=aM (show Kd.V k90 90 w w.heap.size (fun k_=>((af k_\/ag k_)\/w.heap.size<=k_)) (.slice aN ax.length aQ) ax from Kd.V_mono bi (fun k_ hk=>.inl (.inr hk)))
 have HB:=aM (Below.refl w.heap.size w)
 have H:=h;unfold Sbi.f at H
 clear h
 obtain⟨bn,aI⟩:=ky ((([(⟨az,aA,av⟩:S90),(⟨aC,aD,ax⟩:S90)]:List (S90))):List (S90))
 first|replace H:=kz aI H|rw [<- aI.out] at H
 obtain⟨rfl,rfl,rfl⟩:=oJ3 H
 go_enter func109,ntmps109
 go_wp2_with (first|((with_reducible refine jd 4 rfl ?_);refine jX _ 90 ?_;intro aj hg w4 hbox hb;have ae:=aM hbox;have bA:=kG hg;replace ah:=aM (Kd.V_below (Kd.V_elderB (qV ah) aj (Nat.le_of_eq hg.symm)) hb);replace ai:=aM (Kd.V_below (Kd.V_elderB (qV ai) aj (Nat.le_of_eq hg.symm)) hb);replace HB:=kH hb;clear hb hbox hg)|((with_reducible refine jd 5 rfl ?_);refine jX _ 90 ?_;intro au hg w5 hbox hb;have ay:=aM hbox;have bB:=kG hg;have aT:=kN hg ae;have aU:=kM hg ae;replace ah:=aM (Kd.V_below (Kd.V_elderB (qV ah) au (Nat.le_of_eq hg.symm)) hb);replace ai:=aM (Kd.V_below (Kd.V_elderB (qV ai) au (Nat.le_of_eq hg.symm)) hb);replace ae:=kB ae hb;replace HB:=kH hb;clear hb hbox hg)|((with_reducible refine jd 6 rfl ?_);refine jX _ 90 ?_;intro aa hg w6 hbox hb;have aH:=aM hbox;have bC:=kG hg;have aV:=kN hg ae;have aW:=kM hg ae;have aX:=kN hg ay;have aY:=kM hg ay;replace ah:=aM (Kd.V_below (Kd.V_elderB (qV ah) aa (Nat.le_of_eq hg.symm)) hb);replace ai:=aM (Kd.V_below (Kd.V_elderB (qV ai) aa (Nat.le_of_eq hg.symm)) hb);replace ae:=kB ae hb;replace ay:=kB ay hb;replace HB:=kH hb;clear hb hbox hg;have bG:=aT.out;have bH:=aU.out;have bI:=aV.out;have bJ:=aW.out;have bN:=jz3 ae;have bD:=aX.out;have bE:=aY.out;have bK:=jz3 ay)|((with_reducible refine jd 10 rfl ?_);refine Kd.N_lit k90 _ 90 ?hg (N':=10) ?hd (xs:=([(⟨az,aA,av⟩:S90),(⟨aC,aD,ax⟩:S90)]:List (S90))) (inner:=[iV az,iV aA,.slice aJ av.length aK,iV aC,iV aD,.slice aN ax.length aQ]) (ok:=(fun k_=>((af k_\/ag k_)\/w.heap.size<=k_)/\k_≠aj/\k_≠au/\k_≠aa)) (okp:=(fun k_=>((af k_\/ag k_)\/w.heap.size<=k_)/\k_≠aj/\k_≠au/\k_≠aa)) ?hr ?hp (fun _ hk=>hk) ((show ∀ k_,w6.heap.size<=k_->(fun k_=>((af k_\/ag k_)\/w.heap.size<=k_)/\k_≠aj/\k_≠au/\k_≠aa) k_ from fun k_ hk=>⟨(.inr (Nat.le_trans (below_size qB) hk)),Kd.freshB (g:=aj) (o:=.cells #[iV az,iV aA,.slice aJ av.length aK] 90 (0,0)) (qK ae) k_ hk,Kd.freshB (g:=au) (o:=.cells #[iV aC,iV aD,.slice aN ax.length aQ] 90 (0,0)) (qK ay) k_ hk,Kd.freshB (g:=aa) (o:=.cells #[iV 0,iV 0,.slice none 0 0] 90 (0,0)) (qK aH) k_ hk⟩) _ (Nat.le_refl _)) (Below.refl _ _) (Nat.le_refl _) (by simp) ?_;(case hd=>rfl);(case hg=>rfl);(case hr=>first|(go_simp;done)|(go_simp;rfl));(case hp=>exact (Reps.c3 (show Kd.FK k90 _ _ (⟨az,aA,av⟩:S90) [iV az,iV aA,.slice aJ av.length aK] from (k90_mkF _ _ (⟨az,aA,av⟩:S90) (Kd.V_reads' (Kd.V_mono (ok':=(fun k_=>((af k_\/ag k_)\/w.heap.size<=k_)/\k_≠aj/\k_≠au/\k_≠aa)) (ah.out) (fun k_ hk=>⟨hk.1.1.1,⟨hk.1.1.2,⟨hk.1.2,hk.2⟩⟩⟩))).2.1 (Kd.V_F (Kd.V_mono (ok':=(fun k_=>((af k_\/ag k_)\/w.heap.size<=k_)/\k_≠aj/\k_≠au/\k_≠aa)) (ah.out) (fun k_ hk=>⟨hk.1.1.1,⟨hk.1.1.2,⟨hk.1.2,hk.2⟩⟩⟩))))) (Reps.c3 (show Kd.FK k90 _ _ (⟨aC,aD,ax⟩:S90) [iV aC,iV aD,.slice aN ax.length aQ] from (k90_mkF _ _ (⟨aC,aD,ax⟩:S90) (Kd.V_reads' (Kd.V_mono (ok':=(fun k_=>((af k_\/ag k_)\/w.heap.size<=k_)/\k_≠aj/\k_≠au/\k_≠aa)) (ai.out) (fun k_ hk=>⟨hk.1.1.1,⟨hk.1.1.2,⟨hk.1.2,hk.2⟩⟩⟩))).2.1 (Kd.V_F (Kd.V_mono (ok':=(fun k_=>((af k_\/ag k_)\/w.heap.size<=k_)/\k_≠aj/\k_≠au/\k_≠aa)) (ai.out) (fun k_ hk=>⟨hk.1.1.1,⟨hk.1.1.2,⟨hk.1.2,hk.2⟩⟩⟩))))) (Reps.none _ _))));intro bL bO aG hb hg_ hnew_;clear hg_ hnew_;(first|rw [<- aI.out] at aG|(simp only [Int.reduceToNat] at aG;rw [<- aI.out] at aG));have aZ:=aM (Kd.N_lower aG (below_size qB));replace ah:=aM (Kd.V_elder' (qV ah) (by first|exact Kd.N_base aG|exact Kd.R_base aG) hb);replace ai:=aM (Kd.V_elder' (qV ai) (by first|exact Kd.N_base aG|exact Kd.R_base aG) hb);replace ae:=kB ae hb;replace ay:=kB ay hb;replace aH:=kB aH hb;replace HB:=kH hb;clear hb aG;obtain⟨bq,bu,bv⟩:=Kd.N_slice aZ.out;subst bv;have bM:=jz3 aH))
 refine bodyPost_ret (results_cell_row rfl _ _ aa 90 #[iV a0,iV 0,.slice bq bn.length bu] (0,0) _ rfl (qF aH) underlying90 rfl (by kernel_rfl)) rfl ?_
 exact⟨_,qW,by (with_reducible repeat (first|apply Kd.N_alloc|apply Kd.N_drewN|apply Kd.N_drew));exact Kd.N_mono (Kd.N_far (p:=⟨aa,2,none⟩) (Kd.N_far (p:=⟨aa,1,none⟩) (Kd.N_far (p:=⟨aa,0,none⟩) (Kd.N_mono aZ.out (fun k_ hk=>(⟨hk,hk.2.2.2⟩:_/\k_≠aa))) (fun _ hk=>hk.2) (iV a0)) (fun _ hk=>hk.2) (iV 0)) (fun _ hk=>hk.2) (.slice bq bn.length bu)) (fun _ hk=>hk.1.1),qB⟩
def Sbj.f (a0 a1:Int):Option (Int × Int × (List (S90))):=some (a0,a1,(([]:List (S90))))
theorem Sbj.calls (a0 a1 r1 r2:Int) (r3:List (S90)) (w:World) (h:Sbj.f a0 a1=some (r1,r2,r3)) :
  Calls prog 110 #[iV a0,iV a1] w fun e w'=>∃ aj:Value,e = .returned (.agg #[iV r1,iV r2,aj])/\Kd.R k90 90 w' w.heap.size (fun _=>True) aj r3/\Below w.heap.size w w':=by
 have ay:=underlying90
 have HB:=aM (Below.refl w.heap.size w)
 have H:(some (a0,a1,(([]:List (S90)))))=some (r1,r2,r3):=h
 clear h
 obtain⟨ah,af⟩:=ky ((([]:List (S90))):List (S90))
 first|replace H:=kz af H|rw [<- af.out] at H
 obtain⟨rfl,rfl,rfl⟩:=oJ3 H
 go_enter func110,ntmps110
 go_wp2_with (first|((with_reducible refine jd 4 rfl ?_);refine jX _ 90 ?_;intro aa hg w3 hbox hb;have ae:=aM hbox;have au:=kG hg;replace HB:=kH hb;clear hb hbox hg)|((with_reducible refine jd 7 rfl ?_);refine jV k90 90 ([]:List (S90)) [] (Reps.none _ _) ?_;intro az w4 ai hb;(first|rw [<- af.out] at ai|(simp only [Int.reduceToNat] at ai;rw [<- af.out] at ai));have ag:=aM (Kd.R_lower (Kd.R_newB ai (g:=aa) (o:=.cells #[iV 0,iV 0,.slice none 0 0] 90 (0,0)) (qK ae)) (below_size qB));replace ae:=kB ae hb;replace HB:=kH hb;clear hb ai;obtain⟨av,ax,aA⟩:=Kd.R_slice ag.out;subst aA;have aC:=jz3 ae))
 refine bodyPost_ret (results_cell_row rfl _ _ aa 90 #[iV a0,iV a1,.slice av ah.length ax] (0,0) _ rfl (qF ae) underlying90 rfl (by kernel_rfl)) rfl ?_
 exact⟨_,qW,by (with_reducible repeat (first|apply Kd.R_alloc|apply Kd.R_drewN|apply Kd.R_drew));exact Kd.R_mono (Kd.R_far (p:=⟨aa,2,none⟩) (Kd.R_far (p:=⟨aa,1,none⟩) (Kd.R_far (p:=⟨aa,0,none⟩) (Kd.R_mono ag.out (fun k_ hk=>(⟨hk,hk.2⟩:_/\k_≠aa))) (fun _ hk=>hk.2) (iV a0)) (fun _ hk=>hk.2) (iV a1)) (fun _ hk=>hk.2) (.slice av ah.length ax)) (fun _ hk=>trivial),qB⟩
end Go.Proofs.YtebpplallecogaaGreat.M
namespace Go.Proofs.YtebpplallecogaaGreat.M
open Go.Proofs.Tryz Go.RowKit Go.Proofs.YtebpplallecogaaGreatW.PrintWords Go.Proofs.YtebpplallecogaaGreatW.PrintLast Go.Proofs.YtebpplallecogaaGreatW.PrintMore
abbrev eV (x y:Int) (A:Option Addr) (z:List S90) (c:Nat):Value:=.agg #[iV x,iV y,.slice A z.length c]
abbrev Z8:Array Value:=#[iV 0,iV 0,iV 0,iV 0,iV 0,.slice none 0 0,.slice none 0 0,.slice none 0 0]
theorem nrm {p:Prop} (h:p:=by first|(simp only [putAll,Act.put,List.setIfInBounds_toArray,List.set_cons_zero,List.set_cons_succ,eV];done)|(simp only [putAll,Act.put,List.setIfInBounds_toArray,List.set_cons_zero,List.set_cons_succ,eV];rfl)):p:=h
theorem qR9 {p:Prop} (h:p:=by first|(go_simp;done)|(go_simp;rfl)):p:=h
theorem qR12 {p:Prop} (h:p:=by first|(go_simp;done)|(go_simp;rfl)):p:=h
theorem box8 {W:World} {b:Nat} {t:TypeId} {a0 a1 a2 a3 a4 a5 a6 a7:Value} (h:W.heap[b]?=some (.cells #[a0,a1,a2,a3,a4,a5,a6,a7] t (0,0))):W.cell? ⟨b,0,none⟩=some a0/\W.cell? ⟨b,1,none⟩=some a1/\W.cell? ⟨b,2,none⟩=some a2/\W.cell? ⟨b,3,none⟩=some a3/\W.cell? ⟨b,4,none⟩=some a4/\W.cell? ⟨b,5,none⟩=some a5/\W.cell? ⟨b,6,none⟩=some a6/\W.cell? ⟨b,7,none⟩=some a7/\W.frozen? ⟨b,0,none⟩=false/\W.frozen? ⟨b,1,none⟩=false/\W.frozen? ⟨b,2,none⟩=false/\W.frozen? ⟨b,3,none⟩=false/\W.frozen? ⟨b,4,none⟩=false/\W.frozen? ⟨b,5,none⟩=false/\W.frozen? ⟨b,6,none⟩=false/\W.frozen? ⟨b,7,none⟩=false :=
 ⟨(blk_cell h 0).trans rfl,(blk_cell h 1).trans rfl,(blk_cell h 2).trans rfl,(blk_cell h 3).trans rfl,(blk_cell h 4).trans rfl,(blk_cell h 5).trans rfl,(blk_cell h 6).trans rfl,(blk_cell h 7).trans rfl,blk_frozen h 0,blk_frozen h 1,blk_frozen h 2,blk_frozen h 3,blk_frozen h 4,blk_frozen h 5,blk_frozen h 6,blk_frozen h 7⟩
def okB (w:World) (g:Nat) (B:List (Nat × Array Value)) (k:Nat):Prop:=w.heap.size<=k/\k≠g/\∀ b∈B,k≠b.1
structure LX (w0 w:World) (g:Nat) (s0:List Int) (v:Value) (tb:List S92) (B:List (Nat × Array Value)) (L:List (Value × List S90)) (M:List (Value × List S92)) (p:Int) (W:World):Prop where
 body:Kd.N k92 92 W w.heap.size (okB w g B) v tb
 es:∀ x∈L,Kd.N k90 90 W w.heap.size (fun k=>okB w g B k/\some k≠v.ownBlock) x.1 x.2
 ms:∀ x∈M,Kd.N k92 92 W w.heap.size (fun k=>okB w g B k/\some k≠v.ownBlock) x.1 x.2
 bx:∀ b∈B,W.heap[b.1]?=some (.cells b.2 92 (0,0))/\w.heap.size<=b.1/\b.1≠g
 nd:(B.map (fun b=>b.1)).Nodup
 rd:Saa w0 W g s0 p
 kp:KeepBut w W g none
 bl:Below w0.heap.size w0 W
 ws:w0.heap.size<=w.heap.size
section
variable {w0 w W W':World} {g:Nat} {s0:List Int} {v:Value} {tb:List S92} {B:List (Nat × Array Value)} {L:List (Value × List S90)} {M:List (Value × List S92)} {p:Int}
theorem LX.below (h:LX w0 w g s0 v tb B L M p W) (hb:Below W.heap.size W W'):LX w0 w g s0 v tb B L M p W' :=
 ⟨Kd.N_below h.body hb,fun x hx=>Kd.N_below (h.es x hx) hb,fun x hx=>Kd.N_below (h.ms x hx) hb,fun b hx=>⟨blk_below (h.bx b hx).1 hb,(h.bx b hx).2⟩,h.nd,Saa.below h.rd hb,h.kp.trans (KeepBut.of_below hb g none) (.inl rfl),below_step h.bl hb,h.ws⟩
theorem LX.size (h:LX w0 w g s0 v tb B L M p W):w.heap.size<=W.heap.size:=keep_size h.kp
theorem LX.fresh (h:LX w0 w g s0 v tb B L M p W) {k:Nat} (hk:W.heap.size<=k):okB w g B k/\some k≠v.ownBlock :=
 ⟨⟨Nat.le_trans h.size hk,Saa.fresh h.rd k hk,fun b hx e=>by have:=blk_lt (h.bx b hx).1;omega⟩,Kd.fresh' (Kd.N_lt h.body) k hk⟩
theorem LX.tail {x:Value × List S90} (h:LX w0 w g s0 v tb B (x :: L) M p W):LX w0 w g s0 v tb B L M p W:=⟨h.body,fun y hy=>h.es y (List.mem_cons_of_mem _ hy),h.ms,h.bx,h.nd,h.rd,h.kp,h.bl,h.ws⟩
theorem LX.expr (h:LX w0 w g s0 v tb B L M p W) (hb:Below W.heap.size W W') {base:Nat} {ok:Nat->Prop} {u:Value} {t:List S90} (ho:Kd.N k90 90 W' base ok u t) (hbase:w.heap.size<=base) (hok:∀ k,ok k->okB w g B k/\some k≠v.ownBlock):LX w0 w g s0 v tb B ((u,t) :: L) M p W':=by
 have h':=h.below hb
 exact⟨h'.body,fun x hx=>(List.mem_cons.1 hx).elim (fun e=>by subst e;exact Kd.N_lower (Kd.N_mono ho hok) hbase) (h'.es x),h'.ms,h'.bx,h'.nd,h'.rd,h'.kp,h'.bl,h'.ws⟩
theorem LX.leaf (h:LX w0 w g s0 v tb B L M p W) {a b x y:Int} {z:List S90} (A:Sbj.f a b=some (x,y,z)) {R:Value->World->Prop} (hc:∀ A c W',LX w0 w g s0 v tb B ((.slice A z.length c,z) :: L) M p W'->R (.agg #[iV x,iV y,.slice A z.length c]) W') :
  Calls prog 110 #[iV a,iV b] W fun e W'=>∃ v,e = .returned v/\R v W':=by
 refine (Sbj.calls a b x y z W A).mono ?_
 rintro e W' ⟨u,rfl,ho,hb⟩
 have ho:=Kd.R_N (Kd.R_bound ho)
 obtain⟨A',c',rfl⟩:=Kd.N_slice ho
 exact⟨_,rfl,hc A' c' W' (h.expr hb ho h.size fun k hk=>h.fresh hk.2.1)⟩
theorem LX.both (h:LX w0 w g s0 v tb B L M p W) {o a1 a2 b1 b2 x y:Int} {l1 l2 z:List S90} {A1 A2:Option Addr} {c1 c2:Nat} (h1:(.slice A1 l1.length c1,l1)∈L) (h2:(.slice A2 l2.length c2,l2)∈L) (A:Sbi.f o a1 a2 l1 b1 b2 l2=some (x,y,z)) {R:Value->World->Prop} (hc:∀ A c W',LX w0 w g s0 v tb B ((.slice A z.length c,z) :: L) M p W'->R (.agg #[iV x,iV y,.slice A z.length c]) W') :
  Calls prog 109 #[iV o,.agg #[iV a1,iV a2,.slice A1 l1.length c1],.agg #[iV b1,iV b2,.slice A2 l2.length c2]] W fun e W'=>∃ v,e = .returned v/\R v W':=by
 refine (Sbi.calls o a1 a2 _ A1 c1 l1 b1 b2 _ A2 c2 l2 x y z W (Kd.N_V (h.es _ h1)) (Kd.N_V (h.es _ h2)) A).mono ?_
 rintro e W' ⟨u,rfl,ho,hb⟩
 obtain⟨A',c',rfl⟩:=Kd.N_slice ho
 exact⟨_,rfl,hc A' c' W' (h.expr hb ho h.size fun k hk=>hk.elim (fun hk=>hk.elim id id) (fun hk=>h.fresh hk))⟩
theorem LX.pick (h:LX w0 w g s0 v tb B L M p W) {k:Nat} {n x q:Int} (A:Sbn.f k s0 p n=some (x,q)) {R:Value->World->Prop} (hc:∀ W',LX w0 w g s0 v tb B L M q W'->R (iV x) W') :
  Calls prog 52 #[.pointer (some ⟨g,0,none⟩),iV n] W fun e W'=>∃ v,e = .returned v/\R v W':=by
 refine (Sbn.calls k g s0 p n x q w0 W h.rd h.bl A).mono ?_
 rintro e W' ⟨rfl,hi,hb,hk⟩
 exact⟨_,rfl,hc W' ⟨Kd.N_keep h.body hk (fun _ q=>q.2.1),fun x hx=>Kd.N_keep (h.es x hx) hk (fun _ q=>q.1.2.1),fun x hx=>Kd.N_keep (h.ms x hx) hk (fun _ q=>q.1.2.1),fun b hx=>⟨KeepBut.blk hk (h.bx b hx).1 (h.bx b hx).2.2 (by simp),(h.bx b hx).2⟩,h.nd,hi,h.kp.trans hk (.inl rfl),hb,h.ws⟩⟩
/-- A new box. -/
theorem LX.box (h:LX w0 w g s0 v tb B L M p W) {b:Nat} (hg:b=W.heap.size) {cs:Array Value} (hbox:W'.heap[b]?=some (.cells cs 92 (0,0))) (hb:Below W.heap.size W W'):LX w0 w g s0 v tb ((b,cs) :: B) L M p W':=by
 have hf:=(h.fresh (k:=b) (by omega)).1
 have e:∀ k,okB w g B k/\k≠b->okB w g ((b,cs) :: B) k:=fun k hk=>⟨hk.1.1,hk.1.2.1,fun x hx=>(List.mem_cons.1 hx).elim (fun e=>by subst e;exact hk.2) (hk.1.2.2 x)⟩
 exact⟨Kd.N_mono (Kd.N_below (Kd.N_elderB h.body b (Nat.le_of_eq hg.symm)) hb) e,
  fun x hx=>Kd.N_mono (Kd.N_below (Kd.N_elderB (h.es x hx) b (Nat.le_of_eq hg.symm)) hb) fun k hk=>⟨e k ⟨hk.1.1,hk.2⟩,hk.1.2⟩,
  fun x hx=>Kd.N_mono (Kd.N_below (Kd.N_elderB (h.ms x hx) b (Nat.le_of_eq hg.symm)) hb) fun k hk=>⟨e k ⟨hk.1.1,hk.2⟩,hk.1.2⟩,
  fun x hx=>(List.mem_cons.1 hx).elim (fun e=>by subst e;exact⟨hbox,hf.1,hf.2.1⟩) (fun hx=>⟨blk_below (h.bx x hx).1 hb,(h.bx x hx).2⟩),
  List.nodup_cons.2 ⟨fun hm=>by obtain⟨x,hx,e⟩:=List.mem_map.1 hm;exact hf.2.2 x hx e.symm,h.nd⟩,
  (h.below hb).rd,(h.below hb).kp,(h.below hb).bl,h.ws⟩
/-- A cell of the youngest box is set. -/
theorem LX.put {b:Nat} {cs:Array Value} (h:LX w0 w g s0 v tb ((b,cs) :: B) L M p W) (j:Nat) (u:Value) {ds:Array Value} (hd:cs.setIfInBounds j u=ds):LX w0 w g s0 v tb ((b,ds) :: B) L M p (W.setCell ⟨b,j,none⟩ u):=by
 obtain⟨hb1,hb2,hb3⟩:=h.bx _ (List.mem_cons_self ..)
 have e:∀ k,okB w g ((b,cs) :: B) k->okB w g ((b,ds) :: B) k:=fun k hk=>⟨hk.1,hk.2.1,fun x hx=>(List.mem_cons.1 hx).elim (fun e=>by subst e;exact hk.2.2 (b,cs) (List.mem_cons_self ..)) (fun hx=>hk.2.2 x (List.mem_cons_of_mem _ hx))⟩
 have n:∀ k,okB w g ((b,cs) :: B) k->k≠b:=fun k hk=>hk.2.2 _ (List.mem_cons_self ..)
 have nd:=List.nodup_cons.1 h.nd
 exact⟨Kd.N_mono (Kd.N_far (p:=⟨b,j,none⟩) h.body n u) e,fun x hx=>Kd.N_mono (Kd.N_far (p:=⟨b,j,none⟩) (h.es x hx) (fun k hk=>n k hk.1) u) fun k hk=>⟨e k hk.1,hk.2⟩,
  fun x hx=>Kd.N_mono (Kd.N_far (p:=⟨b,j,none⟩) (h.ms x hx) (fun k hk=>n k hk.1) u) fun k hk=>⟨e k hk.1,hk.2⟩,
  fun x hx=>(List.mem_cons.1 hx).elim (fun e=>by subst e;exact⟨blk_put hb1 j u hd,hb2,hb3⟩) (fun hx=>⟨blk_far (h.bx x (List.mem_cons_of_mem _ hx)).1 (fun e=>nd.1 (List.mem_map.2 ⟨x,hx,e⟩)) u,(h.bx x (List.mem_cons_of_mem _ hx)).2⟩),
  h.nd,Saa.far h.rd (fun e=>hb3 e.symm) u,keep_far h.kp hb2 u,below_set h.bl (Nat.le_trans h.ws hb2),h.ws⟩
theorem LX.row (h:LX w0 w g s0 v tb B L M p W) {ok:Nat->Prop} {u:Value} {t:List S92} (hb:Below W.heap.size W W') {base:Nat} (ho:Kd.N k92 92 W' base ok u t) (hbase:w.heap.size<=base) (hok:∀ k,ok k->okB w g B k/\some k≠v.ownBlock):LX w0 w g s0 v tb B L ((u,t) :: M) p W':=by
 have h':=h.below hb
 exact⟨h'.body,h'.es,fun x hx=>(List.mem_cons.1 hx).elim (fun e=>by subst e;exact Kd.N_lower (Kd.N_mono ho hok) hbase) (h'.ms x),h'.bx,h'.nd,h'.rd,h'.kp,h'.bl,h'.ws⟩
theorem LX.drew (h:LX w0 w g s0 v tb B L M p W):LX w0 w g s0 v tb B L M p W.drew:=h.below (below_drew (Below.refl _ _))
theorem LX.at_ {W:World} (h:LX w0 w g s0 v tb B L M p W) {b:Nat} {cs:Array Value} (hb:(b,cs)∈B:=by simp):W.heap[b]?=some (.cells cs 92 (0,0))/\True:=⟨(h.bx _ hb).1,trivial⟩
theorem LX.start {W:World} {p0:Int} (hk0:KeepBut w W g none) (hi0:Saa w0 W g s0 p0) (hw:w0.heap.size<=w.heap.size) (ho:Kd.N k92 92 W' W.heap.size (fun k=>W.heap.size<=k) v tb) (hi:Saa w0 W' g s0 p) (hb:Below w0.heap.size w0 W') (hk:KeepBut W W' g none):LX w0 w g s0 v tb [] [] [] p W' :=
 ⟨Kd.N_lower (Kd.N_mono ho fun k h=>⟨Nat.le_trans (keep_size hk0) h,Saa.fresh hi0 k h,fun _ hb=>(by cases hb)⟩) (keep_size hk0),fun _ h=>(by cases h),fun _ h=>(by cases h),fun _ h=>(by cases h),List.nodup_nil,hi,hk0.trans hk (.inl rfl),hb,hw⟩
theorem LX.one (h:LX w0 w g s0 v tb B L M p W) {A:Option Addr} {c:Nat} {x y:Int} {z:List S90} (hm:(.slice A z.length c,z)∈L):Reps (Kd.FK k92 W (fun k=>okB w g B k/\some k≠v.ownBlock)) k92.sz [(⟨1,3,0,(⟨x,y,z⟩:S90),[],[]⟩:S92)] [iV 1,iV 3,iV 0,iV x,iV y,.slice A z.length c,.slice none 0 0,.slice none 0 0] :=
 Reps.c8 (k92_mkF _ _ (⟨1,3,0,(⟨x,y,z⟩:S90),[],[]⟩:S92) (Kd.N_reads' (h.es _ hm)).2.1 (Kd.N_F (h.es _ hm)) (Nat.le_refl _) (Kd.F_nil _ _ _) (Nat.le_refl _) (Kd.F_nil _ _ _)) (Reps.none _ _)
theorem LX.two {A0:Option Addr} {c0:Nat} (h:LX w0 w g s0 (.slice A0 tb.length c0) tb B L M p W) {A A':Option Addr} {c c':Nat} {x y x' y':Int} {z z':List S90} (hm:(.slice A z.length c,z)∈L) (hm':(.slice A' z'.length c',z')∈L):Reps (Kd.FK k92 W (okB w g B)) k92.sz [(⟨1,3,0,(⟨x,y,z⟩:S90),[],[]⟩:S92),(⟨3,0,0,(⟨x',y',z'⟩:S90),tb,[]⟩:S92)] [iV 1,iV 3,iV 0,iV x,iV y,.slice A z.length c,.slice none 0 0,.slice none 0 0,iV 3,iV 0,iV 0,iV x',iV y',.slice A' z'.length c',.slice A0 tb.length c0,.slice none 0 0] :=
 Reps.c8 (k92_mkF _ _ (⟨1,3,0,(⟨x,y,z⟩:S90),[],[]⟩:S92) (Kd.N_reads' (h.es _ hm)).2.1 (Kd.N_F (Kd.N_mono (h.es _ hm) fun _ hk=>hk.1)) (Nat.le_refl _) (Kd.F_nil _ _ _) (Nat.le_refl _) (Kd.F_nil _ _ _))
  (Reps.c8 (k92_mkF _ _ (⟨3,0,0,(⟨x',y',z'⟩:S90),tb,[]⟩:S92) (Kd.N_reads' (h.es _ hm')).2.1 (Kd.N_F (Kd.N_mono (h.es _ hm') fun _ hk=>hk.1)) (Kd.N_reads' h.body).2.1 (Kd.N_F h.body) (Nat.le_refl _) (Kd.F_nil _ _ _)) (Reps.none _ _))
theorem LX.put8 {b:Nat} {a0 a1 a2 a3 a4 a5 a6 a7:Value} (u0 u1 u2 u3 u4 u5 u6 u7:Value) (h:LX w0 w g s0 v tb ((b,#[a0,a1,a2,a3,a4,a5,a6,a7]) :: B) L M p W):LX w0 w g s0 v tb ((b,#[u0,u1,u2,u3,u4,u5,u6,u7]) :: B) L M p ((((((((W.setCell ⟨b,0,none⟩ u0).setCell ⟨b,1,none⟩ u1).setCell ⟨b,2,none⟩ u2).setCell ⟨b,3,none⟩ u3).setCell ⟨b,4,none⟩ u4).setCell ⟨b,5,none⟩ u5).setCell ⟨b,6,none⟩ u6).setCell ⟨b,7,none⟩ u7) :=
 (LX.put (ds:=#[u0,u1,u2,u3,u4,u5,u6,u7]) (LX.put (ds:=#[u0,u1,u2,u3,u4,u5,u6,a7]) (LX.put (ds:=#[u0,u1,u2,u3,u4,u5,a6,a7]) (LX.put (ds:=#[u0,u1,u2,u3,u4,a5,a6,a7]) (LX.put (ds:=#[u0,u1,u2,u3,a4,a5,a6,a7]) (LX.put (ds:=#[u0,u1,u2,a3,a4,a5,a6,a7]) (LX.put (ds:=#[u0,u1,a2,a3,a4,a5,a6,a7]) (LX.put (ds:=#[u0,a1,a2,a3,a4,a5,a6,a7]) h 0 u0 rfl) 1 u1 rfl) 2 u2 rfl) 3 u3 rfl) 4 u4 rfl) 5 u5 rfl) 6 u6 rfl) 7 u7 rfl)
variable {ops:Array Oper} {o:Oper} {a:Act} {Q:Exit->Act->World->Prop} {Kc:Act->World->Prop}
/-- A literal of one statement that sets. -/
theorem LX.lit (h:LX w0 w g s0 v tb B L M p W) (hw:Region.wanted o (yielded ops a.tmps)=true) {N:Tmp} (hd:o.dst=some N) {inner:List Value} {xs ys:List S92} (hy:ys=xs)
  (hrun:(execOp a.eval o).run prog W = .ok (.value (.slice (some ⟨W.heap.size,0,none⟩) xs.length xs.length)) (W.alloc (.cells inner.toArray 92 (0,0))))
  (hrep:Reps (Kd.FK k92 W (fun k=>okB w g B k/\some k≠v.ownBlock)) k92.sz xs inner) (hm:xs.length<=9223372036854775807)
  (hc:∀ A c W',LX w0 w g s0 v tb B L ((.slice A ys.length c,ys) :: M) p W'->Kc (a.put (some N) (.slice A ys.length c)) W'):if Region.wanted o (yielded ops a.tmps)=true then Oper.wp prog o a W Kc Q else Kc (a.put o.dst undef) W:=by
 subst hy
 refine Kd.N_lit_step k92 W.heap.size 92 hw hd hrun hrep (fun _ hk=>hk) (h.fresh (Nat.le_refl _)) (Below.refl _ _) (Nat.le_refl _) hm ?_
 intro v1 W1 hN hb _ _
 obtain⟨A,c,rfl⟩:=Kd.N_slice hN
 rw [hd]
 exact hc A c W1 (h.row hb hN h.size fun k hk=>hk)
theorem LX.lit2 (h:LX w0 w g s0 v tb B L M p W) (hw:Region.wanted o (yielded ops a.tmps)=true) {N:Tmp} (hd:o.dst=some N) {inner:List Value} {xs:List S92}
  (hrun:(execOp a.eval o).run prog W = .ok (.value (.slice (some ⟨W.heap.size,0,none⟩) xs.length xs.length)) (W.alloc (.cells inner.toArray 92 (0,0))))
  (hrep:Reps (Kd.FK k92 W (okB w g B)) k92.sz xs inner) (hm:xs.length<=9223372036854775807)
  (hc:∀ v1 W',Kd.N k92 92 W' w.heap.size (okB w g B) v1 xs->LX w0 w g s0 v tb B L M p W'->Kc (a.put (some N) v1) W'):if Region.wanted o (yielded ops a.tmps)=true then Oper.wp prog o a W Kc Q else Kc (a.put o.dst undef) W:=by
 refine Kd.N_lit_step k92 W.heap.size 92 hw hd hrun hrep (fun _ hk=>hk) (h.fresh (Nat.le_refl _)).1 (Below.refl _ _) (Nat.le_refl _) hm ?_
 intro v1 W1 hN hb _ _
 rw [hd]
 exact hc v1 W1 (Kd.N_lower hN h.size) (h.below hb)
/-- A row is appended to the row of statements. -/
theorem LX.app {A1:Option Addr} {c1:Nat} (h:LX w0 w g s0 (.slice A1 tb.length c1) tb B L M p W) (hw:Region.wanted o (yielded ops a.tmps)=true) {N:Tmp} (hd:o.dst=some N) (s x:Operand)
  (ho:o.op = .call { callee:=.builtin .append,args:=#[s,x],argTypes:=#[75,75] }) {A2:Option Addr} {c2:Nat} {ys yt:List S92} (hy:yt=tb ++ ys) (hs:a.eval s = .slice A1 tb.length c1) (hx:a.eval x = .slice A2 ys.length c2) (hys:(.slice A2 ys.length c2,ys)∈M)
  (hl:tb.length+ys.length < 1256584717458) (hc:∀ A c W',LX w0 w g s0 (.slice A yt.length c) yt B L [] p W'->Kc (a.put (some N) (.slice A yt.length c)) W'):if Region.wanted o (yielded ops a.tmps)=true then Oper.wp prog o a W Kc Q else Kc (a.put o.dst undef) W:=by
 subst hy
 refine Kd.N_append_rows_step k92 w.heap.size hw s x 75 92 (.agg #[(iV 0),(iV 0),(iV 0),(iV 0),(iV 0),(.slice none 0 0),(.slice none 0 0),(.slice none 0 0)]) 112 ho underlying75 info92 rfl (by decide) (by omega) (.slice A1 tb.length c1) tb ys A2 ys.length c2 (okB w g B) (fun k=>okB w g B k/\some k≠(.slice A1 tb.length c1:Value).ownBlock) hs hx h.body (Kd.N_F (h.ms _ hys)) (fun _ hk=>hk) (fun k hk=>(h.fresh hk).1) (Below.refl _ _) h.size (by omega) ?_
 intro v1 W1 hN hb hg hat
 obtain⟨A,c,rfl⟩:=Kd.N_slice hN
 rw [hd]
 exact hc A c W1 ⟨hN,fun y hy=>Kd.N_afterv (h.es y hy) hg hat,fun y hy=>(by cases hy),
  fun b hb'=>⟨blk_grown (h.bx b hb').1 hg (Kd.N_away h.body fun k hk=>hk.2.2 b hb'),(h.bx b hb').2⟩,h.nd,Saa.grown h.rd hg (Kd.N_away h.body fun k hk=>hk.2.1),h.kp.trans (KeepBut.of_grown hg g) (Kd.N_base2 h.body),below_weaken h.bl h.ws hb,h.ws⟩
theorem LX.newbox (h:LX w0 w g s0 v tb B L M p W) (hw:Region.wanted o (yielded ops a.tmps)=true) {N:Tmp} (hd:o.dst=some N) {cs:Array Value}
  (hrun:(execOp a.eval o).run prog W = .ok (.value (.pointer (some ⟨W.heap.size,0,none⟩))) (W.alloc (.cells cs 92 (0,0))))
  (hc:∀ b W',LX w0 w g s0 v tb ((b,cs) :: B) L M p W'->Kc (a.put (some N) (.pointer (some ⟨b,0,none⟩))) W'):if Region.wanted o (yielded ops a.tmps)=true then Oper.wp prog o a W Kc Q else Kc (a.put o.dst undef) W:=by
 refine box_step hw hd hrun ?_
 intro b hg W1 hbox hb
 rw [hd]
 exact hc b W1 (h.box hg hbox hb)
end
end Go.Proofs.YtebpplallecogaaGreat.M
namespace Go.Proofs.YtebpplallecogaaGreat.M
open Go.Proofs.Tryz Go.RowKit Go.Proofs.YtebpplallecogaaGreatW.PrintWords Go.Proofs.YtebpplallecogaaGreatW.PrintLast Go.Proofs.YtebpplallecogaaGreatW.PrintMore
attribute [local go_sem] max2_int min2_int max_two min_two max_three min_three max_four min_four
def Sbp.f (k:Nat) (ag:List Int) (au:Int):Option (Int × Int × (List (S90)) × Int):=(Sbn.f k ag au 4).bind fun ax=>(if ax.1=0 then ((Sbn.f k ag ax.2 4).bind fun aK=>((Sbj.f 0 aK.1).bind fun aG=>(some (aG.1,aG.2.1,aG.2.2,aK.2)))) else (if ax.1=1 then ((some (([5,31,32,100,2047,2048,65536,99999]:List Int):List Int)).bind fun aC=>((Sbn.f k ag ax.2 8).bind fun az=>(if 0<=az.1 then (if az.1 < (aC.length:Int) then ((Sbj.f 0 (rd aC az.1)).bind fun aH=>(some (aH.1,aH.2.1,aH.2.2,az.2))) else (none)) else (none)))) else ((Sbn.f k ag ax.2 4).bind fun aN=>((Sbj.f 13 aN.1).bind fun aI=>(some (aI.1,aI.2.1,aI.2.2,aN.2))))))
theorem Sbp.calls (k g:Nat) (ag:List Int) (au r1 r2:Int) (r3:List (S90)) (r4:Int) (w0 w:World) (hI:Saa w0 w g ag au) (hB:Below w0.heap.size w0 w) (h:Sbp.f k ag au=some (r1,r2,r3,r4)) :
  Calls prog 111 #[.pointer (some ⟨g,0,none⟩)] w fun e w'=>∃ bX:Value,e = .returned (.agg #[iV r1,iV r2,bX])/\Kd.R k90 90 w' w.heap.size (fun _=>True) bX r3/\Saa w0 w' g ag r4/\Below w0.heap.size w0 w'/\KeepBut w w' g none:=by
 have dn:=underlying90
 have HI0:=aM hI
 have HK:=aM (KeepBut.refl w g none)
 have HL:=aM hB.size
 clear hI
 have HW0:=aM hB.size
 have HB:=aM hB
 clear hB
 have H:=h;unfold Sbp.f at H
 clear h
 obtain⟨⟨aX,ay⟩,A2,H⟩:=qE H
 try dsimp only at H
 replace H:=jE H;rcases H with ⟨bN,bO,H⟩ | ⟨c3,bN,bO,H⟩
 ·obtain⟨⟨aY,bP⟩,A4,H⟩:=qE H
  try dsimp only at H
  obtain⟨⟨aZ,bg,bi⟩,A5,H⟩:=qE H
  try dsimp only at H
  obtain⟨rfl,rfl,rfl,rfl⟩:=oJ4 H
  go_enter func111,ntmps111
  go_wp2_with (first|((with_reducible refine jd 2 rfl ?_);refine jX _ 90 ?_;intro aa hg w6 hbox hb;have ae:=aM hbox;have aQ:=aM ((by rw [hg];exact (keep_size (w:=w) (g:=g) (row:=none) qH):w.heap.size<=aa));have aT:=aM ((Nat.le_trans HW0.out (by rw [hg];exact (keep_size (w:=w) (g:=g) (row:=none) qH):w.heap.size<=aa):w0.heap.size<=aa));have aj:=aM ((by rw [hg];exact Nat.ne_of_lt (Saa.lt (show Saa w0 _ g ag au from qI HI0)):g≠aa));have af:=aM ((by rw [hg];exact Nat.ne_of_gt (Saa.lt (show Saa w0 _ g ag au from qI HI0)):aa≠g));replace HI0:=aM (Saa.below (qI HI0) hb);replace HK:=aM (KeepBut.trans qH (KeepBut.of_below hb g none) (.inl rfl));replace HB:=kH hb;clear hb hbox hg)|((with_reducible refine jc 52 4 rfl rfl ?_);refine jG func52 #[.pointer (some ⟨g,0,none⟩),iV 4] ?_;refine (Sbn.calls k g ag au 4 aX ay w0 _ ?ah ?ai A2.out).mono ?_;(case ah=>exact qI HI0);(case ai=>exact qB);rintro e w7 ⟨rfl,hi,hb,hk⟩;refine⟨_,rfl,?_⟩;replace ae:=aM (KeepBut.blk hk (g':=aa) (o:=.cells #[iV 0,iV 0,.slice none 0 0] 90 (0,0)) (qK ae) af.out (by simp));replace HK:=kI hk;replace HB:=aM hb;replace HI0:=aM hi;clear hb hk hi)|((with_reducible refine jc 52 8 rfl rfl ?_);refine jG func52 #[.pointer (some ⟨g,0,none⟩),iV 4] ?_;refine (Sbn.calls k g ag ay 4 aY bP w0 _ ?ah ?ai A4.out).mono ?_;(case ah=>exact qI HI0);(case ai=>exact qB);rintro e w8 ⟨rfl,hi,hb,hk⟩;refine⟨_,rfl,?_⟩;replace ae:=aM (KeepBut.blk hk (g':=aa) (o:=.cells #[iV 0,iV 0,.slice none 0 0] 90 (0,0)) (qK ae) af.out (by simp));replace HK:=kI hk;replace HB:=aM hb;replace HI0:=aM hi;clear hb hk hi)|((with_reducible refine jc 110 9 rfl rfl ?_);refine jG func110 #[iV 0,iV aY] ?_;refine (Sbj.calls 0 aY aZ bg bi _ A5.out).mono ?_;rintro e w9 ⟨dw,rfl,ho0,hb⟩;refine⟨_,rfl,?_⟩;have aU:=aM (Kd.R_lower (Kd.R_newB ho0 (g:=aa) (o:=.cells #[iV 0,iV 0,.slice none 0 0] 90 (0,0)) (qK ae)) (keep_size (w:=w) (g:=g) (row:=none) qH));replace HI0:=aM (Saa.below (qI HI0) hb);replace ae:=kB ae hb;replace HK:=aM (KeepBut.trans qH (KeepBut.of_below hb g none) (.inl rfl));replace HB:=kH hb;clear hb;(try clear ho0);have bY:=af.out;have bZ:=aj.out;have dx:=jz3 ae;obtain⟨bE,bF,bQ⟩:=Kd.R_slice aU.out;subst bQ))
  refine bodyPost_ret (results_cell_row rfl _ _ aa 90 #[iV aZ,iV bg,.slice bE bi.length bF] (0,0) _ rfl (qF ae) underlying90 rfl (by kernel_rfl)) rfl ?_
  exact⟨_,qW,by (with_reducible repeat (first|apply Kd.R_alloc|apply Kd.R_drewN|apply Kd.R_drew));exact Kd.R_mono (Kd.R_far (p:=⟨aa,2,none⟩) (Kd.R_far (p:=⟨aa,1,none⟩) (Kd.R_far (p:=⟨aa,0,none⟩) (Kd.R_mono aU.out (fun k_ hk=>(⟨hk,hk.2⟩:_/\k_≠aa))) (fun _ hk=>hk.2) (iV aZ)) (fun _ hk=>hk.2) (iV bg)) (fun _ hk=>hk.2) (.slice bE bi.length bF)) (fun _ hk=>trivial),qI HI0,qB,qH⟩
 replace H:=jE H;rcases H with ⟨bG,bH,H⟩ | ⟨c13,bG,bH,H⟩
 ·obtain⟨aC,aA⟩:=ky ((([5,31,32,100,2047,2048,65536,99999]:List Int)):List Int)
  first|replace H:=kz aA H|rw [<- aA.out] at H
  obtain⟨⟨aD,bR⟩,dz,H⟩:=qE H
  try dsimp only at H
  replace H:=jI H;obtain⟨cz,H⟩:=H
  replace H:=jI H;obtain⟨cB,H⟩:=H
  obtain⟨⟨bn,bq,bu⟩,dA,H⟩:=qE H
  try dsimp only at H
  obtain⟨rfl,rfl,rfl,rfl⟩:=oJ4 H
  go_enter func111,ntmps111
  go_wp2_with (first|((with_reducible refine jd 2 rfl ?_);refine jX _ 90 ?_;intro aa hg dK hbox hb;have ae:=aM hbox;have aQ:=aM ((by rw [hg];exact (keep_size (w:=w) (g:=g) (row:=none) qH):w.heap.size<=aa));have aT:=aM ((Nat.le_trans HW0.out (by rw [hg];exact (keep_size (w:=w) (g:=g) (row:=none) qH):w.heap.size<=aa):w0.heap.size<=aa));have aj:=aM ((by rw [hg];exact Nat.ne_of_lt (Saa.lt (show Saa w0 _ g ag au from qI HI0)):g≠aa));have af:=aM ((by rw [hg];exact Nat.ne_of_gt (Saa.lt (show Saa w0 _ g ag au from qI HI0)):aa≠g));replace HI0:=aM (Saa.below (qI HI0) hb);replace HK:=aM (KeepBut.trans qH (KeepBut.of_below hb g none) (.inl rfl));replace HB:=kH hb;clear hb hbox hg)|((with_reducible refine jc 52 4 rfl rfl ?_);refine jG func52 #[.pointer (some ⟨g,0,none⟩),iV 4] ?_;refine (Sbn.calls k g ag au 4 aX ay w0 _ ?ah ?ai A2.out).mono ?_;(case ah=>exact qI HI0);(case ai=>exact qB);rintro e dL ⟨rfl,hi,hb,hk⟩;refine⟨_,rfl,?_⟩;replace ae:=aM (KeepBut.blk hk (g':=aa) (o:=.cells #[iV 0,iV 0,.slice none 0 0] 90 (0,0)) (qK ae) af.out (by simp));replace HK:=kI hk;replace HB:=aM hb;replace HI0:=aM hi;clear hb hk hi)|((with_reducible refine jd 12 rfl ?_);refine jV (Kd.int .i64) 3 ([5,31,32,100,2047,2048,65536,99999]:List Int) [iV 5,iV 31,iV 32,iV 100,iV 2047,iV 2048,iV 65536,iV 99999] (Reps.one (show Kd.M (Kd.int .i64) _ _ _ 5 [iV 5] from rfl) (Reps.one (show Kd.M (Kd.int .i64) _ _ _ 31 [iV 31] from rfl) (Reps.one (show Kd.M (Kd.int .i64) _ _ _ 32 [iV 32] from rfl) (Reps.one (show Kd.M (Kd.int .i64) _ _ _ 100 [iV 100] from rfl) (Reps.one (show Kd.M (Kd.int .i64) _ _ _ 2047 [iV 2047] from rfl) (Reps.one (show Kd.M (Kd.int .i64) _ _ _ 2048 [iV 2048] from rfl) (Reps.one (show Kd.M (Kd.int .i64) _ _ _ 65536 [iV 65536] from rfl) (Reps.one (show Kd.M (Kd.int .i64) _ _ _ 99999 [iV 99999] from rfl) (Reps.none _ _))))))))) ?_;intro dB dM aJ hb;(first|rw [<- aA.out] at aJ|(simp only [Int.reduceToNat] at aJ;rw [<- aA.out] at aJ));have av:=aM (Kd.R_lower aJ (keep_size (w:=w) (g:=g) (row:=none) qH));replace HI0:=aM (Saa.below (qI HI0) hb);replace ae:=kB ae hb;replace HK:=aM (KeepBut.trans qH (KeepBut.of_below hb g none) (.inl rfl));replace HB:=kH hb;clear hb aJ)|((with_reducible refine jc 52 14 rfl rfl ?_);refine jG func52 #[.pointer (some ⟨g,0,none⟩),iV 8] ?_;refine (Sbn.calls k g ag ay 8 aD bR w0 _ ?ah ?ai dz.out).mono ?_;(case ah=>exact qI HI0);(case ai=>exact qB);rintro e dN ⟨rfl,hi,hb,hk⟩;refine⟨_,rfl,?_⟩;replace ae:=aM (KeepBut.blk hk (g':=aa) (o:=.cells #[iV 0,iV 0,.slice none 0 0] 90 (0,0)) (qK ae) af.out (by simp));replace av:=aM (Kd.R_mono (Kd.R_keep (Saa.apart (show Saa w0 _ g ag ay from qI HI0) (qR av) (by decide)) hk (fun _ h=>h.2)) (fun _ h=>h.1));replace HK:=kI hk;replace HB:=aM hb;replace HI0:=aM hi;clear hb hk hi;obtain⟨dC,dD,bS⟩:=Kd.R_slice av.out;subst bS;have bv:0<=(aD:Int):=qD;have bz:aD < (aC.length:Int):=qD;obtain⟨cK,bT,bM⟩:=Kd.at_int (Kd.R_reads' av.out).2.2 aD bv bz;cases bT;replace bv:=eq_true bv;replace bz:=eq_true bz)|((with_reducible refine jc 110 17 rfl rfl ?_);refine jG func110 #[iV 0,iV (rd aC aD)] ?_;refine (Sbj.calls 0 (rd aC aD) bn bq bu _ dA.out).mono ?_;rintro e dO ⟨dE,rfl,ho0,hb⟩;refine⟨_,rfl,?_⟩;have aV:=aM (Kd.R_lower (Kd.R_newB ho0 (g:=aa) (o:=.cells #[iV 0,iV 0,.slice none 0 0] 90 (0,0)) (qK ae)) (keep_size (w:=w) (g:=g) (row:=none) qH));replace av:=kR av hb;replace HI0:=aM (Saa.below (qI HI0) hb);replace ae:=kB ae hb;replace HK:=aM (KeepBut.trans qH (KeepBut.of_below hb g none) (.inl rfl));replace HB:=kH hb;clear hb;(try clear ho0);have cO:=af.out;have df:=aj.out;have dF:=jz3 ae;obtain⟨bI,bJ,bU⟩:=Kd.R_slice aV.out;subst bU))
  refine bodyPost_ret (results_cell_row rfl _ _ aa 90 #[iV bn,iV bq,.slice bI bu.length bJ] (0,0) _ rfl (qF ae) underlying90 rfl (by kernel_rfl)) rfl ?_
  exact⟨_,qW,by (with_reducible repeat (first|apply Kd.R_alloc|apply Kd.R_drewN|apply Kd.R_drew));exact Kd.R_mono (Kd.R_far (p:=⟨aa,2,none⟩) (Kd.R_far (p:=⟨aa,1,none⟩) (Kd.R_far (p:=⟨aa,0,none⟩) (Kd.R_mono aV.out (fun k_ hk=>(⟨hk,hk.2⟩:_/\k_≠aa))) (fun _ hk=>hk.2) (iV bn)) (fun _ hk=>hk.2) (iV bq)) (fun _ hk=>hk.2) (.slice bI bu.length bJ)) (fun _ hk=>trivial),qI HI0,qB,qH⟩
 obtain⟨⟨bA,bV⟩,dG,H⟩:=qE H
 try dsimp only at H
 obtain⟨⟨bB,bC,bD⟩,dH,H⟩:=qE H
 try dsimp only at H
 obtain⟨rfl,rfl,rfl,rfl⟩:=oJ4 H
 go_enter func111,ntmps111
 go_wp2_with (first|((with_reducible refine jd 2 rfl ?_);refine jX _ 90 ?_;intro aa hg dP hbox hb;have ae:=aM hbox;have aQ:=aM ((by rw [hg];exact (keep_size (w:=w) (g:=g) (row:=none) qH):w.heap.size<=aa));have aT:=aM ((Nat.le_trans HW0.out (by rw [hg];exact (keep_size (w:=w) (g:=g) (row:=none) qH):w.heap.size<=aa):w0.heap.size<=aa));have aj:=aM ((by rw [hg];exact Nat.ne_of_lt (Saa.lt (show Saa w0 _ g ag au from qI HI0)):g≠aa));have af:=aM ((by rw [hg];exact Nat.ne_of_gt (Saa.lt (show Saa w0 _ g ag au from qI HI0)):aa≠g));replace HI0:=aM (Saa.below (qI HI0) hb);replace HK:=aM (KeepBut.trans qH (KeepBut.of_below hb g none) (.inl rfl));replace HB:=kH hb;clear hb hbox hg)|((with_reducible refine jc 52 4 rfl rfl ?_);refine jG func52 #[.pointer (some ⟨g,0,none⟩),iV 4] ?_;refine (Sbn.calls k g ag au 4 aX ay w0 _ ?ah ?ai A2.out).mono ?_;(case ah=>exact qI HI0);(case ai=>exact qB);rintro e dQ ⟨rfl,hi,hb,hk⟩;refine⟨_,rfl,?_⟩;replace ae:=aM (KeepBut.blk hk (g':=aa) (o:=.cells #[iV 0,iV 0,.slice none 0 0] 90 (0,0)) (qK ae) af.out (by simp));replace HK:=kI hk;replace HB:=aM hb;replace HI0:=aM hi;clear hb hk hi)|((with_reducible refine jc 52 19 rfl rfl ?_);refine jG func52 #[.pointer (some ⟨g,0,none⟩),iV 4] ?_;refine (Sbn.calls k g ag ay 4 bA bV w0 _ ?ah ?ai dG.out).mono ?_;(case ah=>exact qI HI0);(case ai=>exact qB);rintro e w32 ⟨rfl,hi,hb,hk⟩;refine⟨_,rfl,?_⟩;replace ae:=aM (KeepBut.blk hk (g':=aa) (o:=.cells #[iV 0,iV 0,.slice none 0 0] 90 (0,0)) (qK ae) af.out (by simp));replace HK:=kI hk;replace HB:=aM hb;replace HI0:=aM hi;clear hb hk hi)|((with_reducible refine jc 110 20 rfl rfl ?_);refine jG func110 #[iV 13,iV bA] ?_;refine (Sbj.calls 13 bA bB bC bD _ dH.out).mono ?_;rintro e dR ⟨dI,rfl,ho0,hb⟩;refine⟨_,rfl,?_⟩;have aW:=aM (Kd.R_lower (Kd.R_newB ho0 (g:=aa) (o:=.cells #[iV 0,iV 0,.slice none 0 0] 90 (0,0)) (qK ae)) (keep_size (w:=w) (g:=g) (row:=none) qH));replace HI0:=aM (Saa.below (qI HI0) hb);replace ae:=kB ae hb;replace HK:=aM (KeepBut.trans qH (KeepBut.of_below hb g none) (.inl rfl));replace HB:=kH hb;clear hb;(try clear ho0);have dh:=af.out;have di:=aj.out;have dJ:=jz3 ae;obtain⟨bK,bL,bW⟩:=Kd.R_slice aW.out;subst bW))
 refine bodyPost_ret (results_cell_row rfl _ _ aa 90 #[iV bB,iV bC,.slice bK bD.length bL] (0,0) _ rfl (qF ae) underlying90 rfl (by kernel_rfl)) rfl ?_
 exact⟨_,qW,by (with_reducible repeat (first|apply Kd.R_alloc|apply Kd.R_drewN|apply Kd.R_drew));exact Kd.R_mono (Kd.R_far (p:=⟨aa,2,none⟩) (Kd.R_far (p:=⟨aa,1,none⟩) (Kd.R_far (p:=⟨aa,0,none⟩) (Kd.R_mono aW.out (fun k_ hk=>(⟨hk,hk.2⟩:_/\k_≠aa))) (fun _ hk=>hk.2) (iV bB)) (fun _ hk=>hk.2) (iV bC)) (fun _ hk=>hk.2) (.slice bK bD.length bL)) (fun _ hk=>trivial),qI HI0,qB,qH⟩
mutual
def Sbo.j0:Nat->Int->Bool->List Int->Int->Option (Int × Int × (List (S90)) × Int)
 | 0,_,_,_,_=>none
 | k+1,x1,dW,x1000,bi=>if dW=true then ((Sbp.f k x1000 bi).bind fun aJ=>(some (aJ.1,aJ.2.1,aJ.2.2.1,aJ.2.2.2))) else ((Sbq.f k x1000 bi).bind fun bn=>((Sbo.f k x1000 bn.2 (wrap64 (x1 - 1))).bind fun aK=>((Sbo.f k x1000 aK.2.2.2 (wrap64 (x1 - 1))).bind fun aN=>((Sbi.f bn.1 aK.1 aK.2.1 aK.2.2.1 aN.1 aN.2.1 aN.2.2.1).bind fun aU=>(some (aU.1,aU.2.1,aU.2.2,aN.2.2.2))))))
def Sbo.f:Nat->List Int->Int->Int->Option (Int × Int × (List (S90)) × Int)
 | 0,_,_,_=>none
 | k+1,aj,aI,a1=>if a1 < 2 then (Sbo.j0 k a1 true aj aI) else ((Sbn.f k aj aI 3).bind fun bq=>(Sbo.j0 k a1 (bq.1 == 0) aj bq.2))
end
def Sbo.T5:Bool × List (List Nat × List Nat):=(true,[([],[]),([],[]),([],[]),([],[]),([3],[3]),([2,4],[2,4]),([0,1,5,5],[0,1,5]),([6,6,0,1,2,3,4,5,6],[6])])
def Sbo.B5:List Nat:=[0,0,0,0,8,28,63,127]
theorem Sbo.tab5:rtab .any (opsOf f96 5)=Sbo.T5:=by kernel_rfl
theorem Sbo.bits5:waitsOk Sbo.T5.2 Sbo.B5=true:=by kernel_rfl
theorem Sbo.calls (k:Nat):∀ (g:Nat) (aj:List Int) (aI:Int) (a1:Int) (r1:Int) (r2:Int) (r3:List (S90)) (r4:Int) (w0 w:World) (hI:Saa w0 w g aj aI) (hB:Below w0.heap.size w0 w) (h:Sbo.f k aj aI a1=some (r1,r2,r3,r4)),
  Calls prog 96 #[.pointer (some ⟨g,0,none⟩),iV a1] w fun e w'=>∃ dJ:Value,e = .returned (.agg #[iV r1,iV r2,dJ])/\Kd.N k90 90 w' w.heap.size (fun k_=>(w.heap.size<=k_)) dJ r3/\Saa w0 w' g aj r4/\Below w0.heap.size w0 w'/\KeepBut w w' g none:=by
 induction k using Nat.strongRecOn with
 | _ k ih =>
 intro g aj aI a1 r1 r2 r3 r4 w0 w hI hB h
 cases k with
 | zero=>exact absurd h (by simp [Sbo.f])
 | succ k =>
 simp only [Sbo.f] at h
 have dX:=underlying90
 have HI0:=aM hI
 have HK:=aM (KeepBut.refl w g none)
 have HL:=aM hB.size
 clear hI
 have HW0:=aM hB.size
 have HB:=aM hB
 clear hB
 have H:=h
 clear h
 have cK:=aM H
 clear H
 go_enter func96,ntmps96
 go_upto_region 1 with (first|((with_reducible refine jd 4 rfl ?_);refine jX _ 90 ?_;intro aa hg w4 hbox hb;have af:=aM hbox;have dK:=aM ((by rw [hg];exact (keep_size (w:=w) (g:=g) (row:=none) qH):w.heap.size<=aa));have dL:=aM ((Nat.le_trans HW0.out (by rw [hg];exact (keep_size (w:=w) (g:=g) (row:=none) qH):w.heap.size<=aa):w0.heap.size<=aa));have aY:=aM ((by rw [hg];exact Nat.ne_of_lt (Saa.lt (show Saa w0 _ g aj aI from qI HI0)):g≠aa));have aA:=aM ((by rw [hg];exact Nat.ne_of_gt (Saa.lt (show Saa w0 _ g aj aI from qI HI0)):aa≠g));replace HI0:=aM (Saa.below (qI HI0) hb);replace HK:=aM (KeepBut.trans qH (KeepBut.of_below hb g none) (.inl rfl));replace HB:=kH hb;clear hb hbox hg))
 (try simp only [Act.put,List.setIfInBounds_toArray,List.set_cons_zero,List.set_cons_succ])
 go_cut [13] (fun v13 wc=>∃ (kq:Nat) (aV:Bool) (aH:Int),v13 = .bool aV/\Aside0 (Sbo.j0 kq a1 aV aj aH=some (r1,r2,r3,r4))/\Aside0 (kq<=k)/\Aside0 (wc.heap[aa]?=some (.cells #[iV 0,iV 0,(.slice none 0 0)] 90 (0,0)))/\Aside0 (Saa w0 wc g aj aH)/\Aside0 (KeepBut w wc g none)/\Aside0 (Below w0.heap.size w0 wc))
 case first =>
  have H:=cK.out
  clear cK
  replace H:=jD H;rcases H with ⟨aW,H⟩ | ⟨aW,H⟩
  ·(first|rw [aW]|(simp only [i64_w,i32_w];rw [aW])|skip)
   have H':=aM H
   clear H
   go_wp2
   go_meet
   exact⟨_,(true),(aI),qZ,H',⟨by first|omega|exact Nat.le_refl _⟩,⟨qK af⟩,⟨qI HI0⟩,⟨qH⟩,⟨qB⟩⟩
  (first|rw [aW]|(simp only [i64_w,i32_w];rw [aW])|skip)
  obtain⟨⟨cO,df⟩,A6,H⟩:=qE H
  try dsimp only at H
  have H':=aM H
  clear H
  go_wp2_with (first|(go_at_call 52;(with_reducible refine (Sbn.calls k g aj aI 3 cO df w0 _ ?av ?ax A6.out).mono ?_);(case av=>exact qI HI0);(case ax=>exact qB);rintro e dY ⟨rfl,hi,hb,hk⟩;replace af:=aM (KeepBut.blk hk (g':=aa) (o:=.cells #[iV 0,iV 0,.slice none 0 0] 90 (0,0)) (qK af) aA.out (by simp));replace HK:=kI hk;replace HB:=aM hb;replace HI0:=aM hi;clear hb hk hi))
  go_meet
  exact⟨_,_,_,qZ,H',⟨by first|omega|exact Nat.le_refl _⟩,⟨qK af⟩,⟨qI HI0⟩,⟨qH⟩,⟨qB⟩⟩
 clear cK
 obtain⟨kq,aV,aH,rfl,HA,HJ2,af,HI0,HK,HB⟩:=hcut
 cases kq with
 | zero=>exact absurd HA.out (by simp [Sbo.j0])
 | succ bV =>
  have H:=HA.out
  clear HA
  simp only [Sbo.j0] at H
  replace H:=jB H;rcases H with ⟨rfl,H⟩ | ⟨rfl,H⟩
  ·obtain⟨⟨bz,bA,bB,dh⟩,A9,H⟩:=qE H
   try dsimp only at H
   obtain⟨rfl,rfl,rfl,rfl⟩:=oJ4 H
   go_wp2_with (first|((with_reducible refine jc 111 15 rfl rfl ?_);refine jG func111 #[.pointer (some ⟨g,0,none⟩)] ?_;refine (Sbp.calls bV g aj aH bz bA bB dh w0 _ ?av ?ax A9.out).mono ?_;(case av=>exact qI HI0);(case ax=>exact qB);rintro e dZ ⟨d9,rfl,bJ,hi,hb,hk⟩;refine⟨_,rfl,?_⟩;have bu:=aM (Kd.N_lower (Kd.N_mono (ok':=fun k_=>(w.heap.size<=k_)/\k_≠aa/\k_≠g) (Kd.R_N (Kd.R_bound bJ)) (fun k_ hk_=>⟨(Nat.le_trans (keep_size (w:=w) (g:=g) (row:=none) qH) hk_.2.1),(Kd.freshB (g:=aa) (o:=.cells #[iV 0,iV 0,.slice none 0 0] 90 (0,0)) (qK af) k_ hk_.2.1),(Saa.fresh (qI HI0) k_ hk_.2.1)⟩)) (keep_size (w:=w) (g:=g) (row:=none) qH));replace af:=aM (KeepBut.blk hk (g':=aa) (o:=.cells #[iV 0,iV 0,.slice none 0 0] 90 (0,0)) (qK af) aA.out (by simp));replace HK:=kI hk;replace HB:=aM hb;replace HI0:=aM hi;clear hb hk hi;(try clear bJ);have ek:=aA.out;have eu:=aY.out;have eB:=jz3 af;obtain⟨bK,bL,di⟩:=Kd.N_slice bu.out;subst di))
   refine bodyPost_ret (results_cell_row rfl _ _ aa 90 #[iV bz,iV bA,.slice bK bB.length bL] (0,0) _ rfl (qF af) underlying90 rfl (by kernel_rfl)) rfl ?_
   exact⟨_,qW,by (with_reducible repeat (first|apply Kd.N_alloc|apply Kd.N_drewN|apply Kd.N_drew));exact Kd.N_mono (Kd.N_far (p:=⟨aa,2,none⟩) (Kd.N_far (p:=⟨aa,1,none⟩) (Kd.N_far (p:=⟨aa,0,none⟩) (Kd.N_mono bu.out (fun k_ hk=>(⟨hk,hk.2.1⟩:_/\k_≠aa))) (fun _ hk=>hk.2) (iV bz)) (fun _ hk=>hk.2) (iV bA)) (fun _ hk=>hk.2) (.slice bK bB.length bL)) (fun _ hk=>hk.1.1),qI HI0,qB,qH⟩
  obtain⟨⟨bC,bM⟩,eD,H⟩:=qE H
  try dsimp only at H
  obtain⟨⟨aD,aG,au,aX⟩,eF,H⟩:=qE H
  try dsimp only at H
  obtain⟨⟨bD,bE,aZ,dn⟩,eG,H⟩:=qE H
  try dsimp only at H
  obtain⟨⟨bF,bG,bH⟩,eH,H⟩:=qE H
  try dsimp only at H
  obtain⟨rfl,rfl,rfl,rfl⟩:=oJ4 H
  try go_wp2_with (first|((with_reducible refine jc 79 17 rfl rfl ?_);refine jG func79 #[.pointer (some ⟨g,0,none⟩)] ?_;refine (Sbq.calls bV g aj aH bC bM w0 _ ?av ?ax eD.out).mono ?_;(case av=>exact qI HI0);(case ax=>exact qB);rintro e fe ⟨rfl,hi,hb,hk⟩;refine⟨_,rfl,?_⟩;replace af:=aM (KeepBut.blk hk (g':=aa) (o:=.cells #[iV 0,iV 0,.slice none 0 0] 90 (0,0)) (qK af) aA.out (by simp));replace HK:=kI hk;replace HB:=aM hb;replace HI0:=aM hi;clear hb hk hi)|((with_reducible refine jc 96 21 rfl rfl ?_);refine jG func96 #[.pointer (some ⟨g,0,none⟩),iV (wrap64 (a1 - 1))] ?_;refine (ih bV (by have:=HJ2.out;omega) g aj bM (wrap64 (a1 - 1)) aD aG au aX w0 _ ?av ?ax eF.out).mono ?_;(case av=>exact qI HI0);(case ax=>exact qB);rintro e fo ⟨eO,rfl,ho0,hi,hb,hk⟩;refine⟨_,rfl,?_⟩;have ai:=aM (Kd.N_lower (Kd.N_mono (ok':=fun k_=>(w.heap.size<=k_)/\k_≠aa/\k_≠g) ho0 (fun k_ hk_=>⟨(Nat.le_trans (keep_size (w:=w) (g:=g) (row:=none) qH) hk_),(Kd.freshB (g:=aa) (o:=.cells #[iV 0,iV 0,.slice none 0 0] 90 (0,0)) (qK af) k_ hk_),(Saa.fresh (qI HI0) k_ hk_)⟩)) (keep_size (w:=w) (g:=g) (row:=none) qH));replace af:=aM (KeepBut.blk hk (g':=aa) (o:=.cells #[iV 0,iV 0,.slice none 0 0] 90 (0,0)) (qK af) aA.out (by simp));replace HK:=kI hk;replace HB:=aM hb;replace HI0:=aM hi;clear hb hk hi;(try clear ho0))|((with_reducible refine jd 6 rfl ?_);refine jX _ 90 ?_;intro ae hg bI hbox hb;have ah:=aM hbox;have dM:=aM ((by rw [hg];exact (keep_size (w:=w) (g:=g) (row:=none) qH):w.heap.size<=ae));have dN:=aM ((Nat.le_trans HW0.out (by rw [hg];exact (keep_size (w:=w) (g:=g) (row:=none) qH):w.heap.size<=ae):w0.heap.size<=ae));have aC:=kN hg af;have ag:=kM hg af;have bg:=aM ((by rw [hg];exact Nat.ne_of_lt (Saa.lt (show Saa w0 _ g aj aX from qI HI0)):g≠ae));have aQ:=aM ((by rw [hg];exact Nat.ne_of_gt (Saa.lt (show Saa w0 _ g aj aX from qI HI0)):ae≠g));replace ai:=aM (Kd.N_below (Kd.N_elderB (qN ai) ae (Nat.le_of_eq hg.symm)) hb);replace af:=kB af hb;replace HI0:=aM (Saa.below (qI HI0) hb);replace HK:=aM (KeepBut.trans qH (KeepBut.of_below hb g none) (.inl rfl));replace HB:=kH hb;clear hb hbox hg;have dO:=ag.out;have dP:=aC.out;have dQ:=aQ.out;have dR:=bg.out;have eP:=jz3 ah;obtain⟨ay,az,dw⟩:=Kd.N_slice ai.out;subst dw))
  have dx:Aside0 (Kd.N k90 90 (((bI.setCell ⟨ae,0,none⟩ (iV aD)).setCell ⟨ae,1,none⟩ (iV aG)).setCell ⟨ae,2,none⟩ (.slice ay au.length az)) w.heap.size (fun k_=>(w.heap.size<=k_)/\k_≠aa/\k_≠g/\k_≠ae) (.slice ay au.length az) au):=⟨by (with_reducible repeat (first|apply Kd.N_alloc|apply Kd.N_drewN|apply Kd.N_drew));exact Kd.N_mono (Kd.N_far (p:=⟨ae,2,none⟩) (Kd.N_far (p:=⟨ae,1,none⟩) (Kd.N_far (p:=⟨ae,0,none⟩) (Kd.N_mono ai.out (fun k_ hk=>(⟨hk,hk.2⟩:_/\k_≠ae))) (fun _ hk=>hk.2) (iV aD)) (fun _ hk=>hk.2) (iV aG)) (fun _ hk=>hk.2) (.slice ay au.length az)) (fun _ hk=>⟨hk.1.1.1,⟨hk.1.1.2.1,⟨hk.1.1.2.2,hk.1.2⟩⟩⟩)⟩
  have dz:Aside0 ((((bI.setCell ⟨ae,0,none⟩ (iV aD)).setCell ⟨ae,1,none⟩ (iV aG)).setCell ⟨ae,2,none⟩ (.slice ay au.length az)).heap[aa]?=some (.cells #[iV 0,iV 0,.slice none 0 0] 90 (0,0))):=⟨qL af⟩
  have dA:Aside0 ((((bI.setCell ⟨ae,0,none⟩ (iV aD)).setCell ⟨ae,1,none⟩ (iV aG)).setCell ⟨ae,2,none⟩ (.slice ay au.length az)).heap[ae]?=some (.cells #[iV aD,iV aG,.slice ay au.length az] 90 (0,0))):=⟨qF ah⟩
  have dB:Aside0 (Saa w0 (((bI.setCell ⟨ae,0,none⟩ (iV aD)).setCell ⟨ae,1,none⟩ (iV aG)).setCell ⟨ae,2,none⟩ (.slice ay au.length az)) g aj aX):=⟨qI HI0⟩
  have dC:Aside0 (KeepBut w (((bI.setCell ⟨ae,0,none⟩ (iV aD)).setCell ⟨ae,1,none⟩ (iV aG)).setCell ⟨ae,2,none⟩ (.slice ay au.length az)) g none):=⟨qH⟩
  have dD:Aside0 (Below w0.heap.size w0 (((bI.setCell ⟨ae,0,none⟩ (iV aD)).setCell ⟨ae,1,none⟩ (iV aG)).setCell ⟨ae,2,none⟩ (.slice ay au.length az))):=⟨qB⟩
  (try clear ai)
  (try clear af)
  (try clear ah)
  (try clear HI0)
  (try clear HK)
  (try clear HB)
  generalize (((bI.setCell ⟨ae,0,none⟩ (iV aD)).setCell ⟨ae,1,none⟩ (iV aG)).setCell ⟨ae,2,none⟩ (.slice ay au.length az))=eQ at dx dz dA dB dC dD ⊢
  have ai:=dx
  have af:=dz
  have ah:=dA
  have HI0:=dB
  have HK:=dC
  have HB:=dD
  clear dx dz dA dB dC dD
  replace ai:=aM (Kd.N_drew ai.out)
  replace af:=aM (blk_drew af.out)
  replace ah:=aM (blk_drew ah.out)
  replace HI0:=aM (Saa.drew HI0.out)
  replace HK:=aM (keep_drew HK.out)
  replace HB:=aM (below_drew1 HB.out)
  refine start_ (n:=8) (S:=fun w'=>w'.cell? ⟨ae,0,none⟩=some (iV aD)/\w'.cell? ⟨ae,1,none⟩=some (iV aG)/\w'.cell? ⟨ae,2,none⟩=some (.slice ay au.length az)) (ds:=[]) (jb 8 0) (by kernel_rfl) rfl rfl ⟨(blk_cell ah.out 0).trans rfl,(blk_cell ah.out 1).trans rfl,(blk_cell ah.out 2).trans rfl⟩ (fun hHeld=>?_);refine with_tabW Sbo.tab5 Sbo.bits5 (fun HT_ HW_=>?_)
  generalize eQ.drew=fq at ai af ah HI0 HK HB hHeld ⊢
  refine jp 0 22 (jb 8 1) ?_
  refine jp 2 24 (jb 8 5) ?_
  refine jp 3 25 (jb 8 13) ?_
  refine jp 4 26 (jb 8 29) ?_
  refine jt 1 23 (jb 8 31) ?_
  refine one_ (i:=5) (N:=some 27) (jb 8 63) rfl rfl (one_of HT_.out (by kernel_rfl)) (by decide) (fun K hK=>?_)
  refine goes_ func96 (by kernel_rfl) rfl #[.pointer (some ⟨g,0,none⟩),iV (wrap64 (a1 - 1))] (by rfl) rfl rfl qM ?_
  with_reducible refine (ih bV (by have:=HJ2.out;omega) g aj aX (wrap64 (a1 - 1)) bD bE aZ dn w0 _ ?av ?ax eG.out).mono ?_
  (case av=>exact qI HI0)
  (case ax=>exact qB)
  rintro e fu ⟨eT,rfl,ho0,hi,hb,hk⟩
  refine⟨_,rfl,?_⟩
  have aT:=aM (Kd.N_lower (Kd.N_mono (ok':=fun k_=>(w.heap.size<=k_)/\some k_≠(.slice ay au.length az:Value).ownBlock/\k_≠aa/\k_≠ae/\k_≠g) ho0 (fun k_ hk_=>⟨(Nat.le_trans (keep_size (w:=w) (g:=g) (row:=none) qH) hk_),(Kd.fresh' (Kd.N_lt (qN ai)) k_ hk_),(Kd.freshB (g:=aa) (o:=.cells #[iV 0,iV 0,.slice none 0 0] 90 (0,0)) (qK af) k_ hk_),(Kd.freshB (g:=ae) (o:=.cells #[iV aD,iV aG,.slice ay au.length az] 90 (0,0)) (qK ah) k_ hk_),(Saa.fresh (qI HI0) k_ hk_)⟩)) (keep_size (w:=w) (g:=g) (row:=none) qH))
  replace af:=aM (KeepBut.blk hk (g':=aa) (o:=.cells #[iV 0,iV 0,.slice none 0 0] 90 (0,0)) (qK af) aA.out (by simp))
  replace ai:=aM (Kd.N_mono (Kd.N_told (Kd.N_oldK (Kd.N_mono (ok:=fun k_=>(((w.heap.size<=k_))/\(k_≠aa/\(k_≠g/\k_≠ae)))) (qN ai) (fun k_ hk_=>(⟨hk_,hk_.2.2.1⟩:_/\k_≠g))) hk) (by first|exact Kd.N_base ho0|exact Kd.R_base ho0)) (fun _ h_=>h_.1))
  replace ah:=aM (KeepBut.blk hk (g':=ae) (o:=.cells #[iV aD,iV aG,.slice ay au.length az] 90 (0,0)) (qK ah) aQ.out (by simp))
  replace HK:=kI hk
  replace HB:=aM hb
  replace HI0:=aM hi
  (try clear hb)
  (try clear hb2)
  (try clear hk)
  (try clear hi)
  (try clear ho0)
  obtain⟨bN,bO,bP⟩:=Kd.N_slice aT.out
  (first|subst bP|(injection bP with bQ dE bR;have dF:=bQ.symm;have dG:=bR.symm;clear bQ dE bR;subst dF;subst dG))
  refine hK.out _ _ ⟨(blk_cell ah.out 0).trans rfl,(blk_cell ah.out 1).trans rfl,(blk_cell ah.out 2).trans rfl⟩ (fun hHeld=>?_)
  clear hK K
  refine norm_ (a':=?_) ?_ ?_
  rotate_left
  ·show Act.put _ (some 27) _=_
   simp only [Act.put,List.setIfInBounds_toArray,List.set_cons_zero,List.set_cons_succ,i64_w,i32_w]
   rfl
  refine one_ (i:=6) (N:=some 28) (jb 8 127) rfl rfl (one_of HT_.out (by kernel_rfl)) (by decide) (fun K hK=>?_)
  refine goes_ func109 (by kernel_rfl) rfl #[iV bC,.agg #[iV aD,iV aG,.slice ay au.length az],.agg #[iV bD,iV bE,.slice bN aZ.length bO]] (by rfl) rfl rfl qM ?_
  with_reducible refine (Sbi.calls bC aD aG (fun k_=>(((w.heap.size<=k_)/\(k_≠aa/\(k_≠g/\k_≠ae)))/\some k_≠(.slice bN aZ.length bO:Value).ownBlock)) _ _ au bD bE (fun k_=>((w.heap.size<=k_)/\(some k_≠(.slice ay au.length az:Value).ownBlock/\(k_≠aa/\(k_≠ae/\k_≠g))))) _ _ aZ bF bG bH _ ?av ?ax eH.out).mono ?_
  (case av=>exact Kd.N_V (ai.out))
  (case ax=>exact Kd.N_V (aT.out))
  rintro e dH ⟨eU,rfl,ho0,hb⟩
  refine⟨_,rfl,?_⟩
  have bv:=aM (Kd.N_lower (Kd.N_mono (ok':=fun k_=>(w.heap.size<=k_)/\k_≠aa/\k_≠ae/\k_≠g) ho0 (fun k_ hk_=>⟨Or.elim hk_ (fun hs_=>Or.elim hs_ (fun hs_=>hs_.1.1) (fun hs_=>hs_.1)) (fun hn_=>(Nat.le_trans (keep_size (w:=w) (g:=g) (row:=none) qH) hn_)),Or.elim hk_ (fun hs_=>Or.elim hs_ (fun hs_=>hs_.1.2.1) (fun hs_=>hs_.2.2.1)) (fun hn_=>(Kd.freshB (g:=aa) (o:=.cells #[iV 0,iV 0,.slice none 0 0] 90 (0,0)) (qK af) k_ hn_)),Or.elim hk_ (fun hs_=>Or.elim hs_ (fun hs_=>hs_.1.2.2.2) (fun hs_=>hs_.2.2.2.1)) (fun hn_=>(Kd.freshB (g:=ae) (o:=.cells #[iV aD,iV aG,.slice ay au.length az] 90 (0,0)) (qK ah) k_ hn_)),Or.elim hk_ (fun hs_=>Or.elim hs_ (fun hs_=>hs_.1.2.2.1) (fun hs_=>hs_.2.2.2.2)) (fun hn_=>(Saa.fresh (qI HI0) k_ hn_))⟩)) (keep_size (w:=w) (g:=g) (row:=none) qH))
  replace ai:=aM (Kd.N_elder' (qN ai) (by first|exact Kd.N_base ho0|exact Kd.R_base ho0) hb)
  replace aT:=aM (Kd.N_elder' (qN aT) (by first|exact Kd.N_base ho0|exact Kd.R_base ho0) hb)
  replace af:=kB af hb
  replace HI0:=aM (Saa.below (qI HI0) hb)
  replace ah:=kB ah hb
  replace HK:=aM (KeepBut.trans qH (KeepBut.of_below hb g none) (.inl rfl))
  replace HB:=kH hb
  (try clear hb)
  (try clear hb2)
  (try clear hk)
  (try clear hi)
  (try clear ho0)
  obtain⟨bS,bT,bU⟩:=Kd.N_slice bv.out
  (first|subst bU|(injection bU with bQ dE bR;have dF:=bQ.symm;have dG:=bR.symm;clear bQ dE bR;subst dF;subst dG))
  refine hK.out _ _ ⟨(blk_cell ah.out 0).trans rfl,(blk_cell ah.out 1).trans rfl,(blk_cell ah.out 2).trans rfl⟩ (fun hHeld=>?_)
  clear hK K
  refine norm_ (a':=?_) ?_ ?_
  rotate_left
  ·show Act.put _ (some 28) _=_
   simp only [Act.put,List.setIfInBounds_toArray,List.set_cons_zero,List.set_cons_succ,i64_w,i32_w]
   rfl
  refine one_ (i:=7) (N:=none) (jb 8 255) rfl rfl (one_of HT_.out (by kernel_rfl)) (by decide) (fun K hK=>?_)
  have eX:dH.cell? ⟨aa,0,none⟩=some (iV 0):=(blk_cell af.out 0).trans rfl
  have dS:=blk_frozen af.out 0
  have bW:=ag.out
  have bX:=aC.out
  have eY:dH.cell? ⟨aa,1,none⟩=some (iV 0):=(blk_cell af.out 1).trans rfl
  have dU:=blk_frozen af.out 1
  have bY:=ag.out
  have bZ:=aC.out
  have eZ:dH.cell? ⟨aa,2,none⟩=some (.slice none 0 0):=(blk_cell af.out 2).trans rfl
  have dV:=blk_frozen af.out 2
  have cz:=ag.out
  have cB:=aC.out
  refine skip_ (w1:=?_) (by rfl) rfl ?_ ?_
  rotate_left
  ·go_simp
   rfl
  refine hK.out _ _ ⟨((cell_far (p:=⟨aa,_,none⟩) ag.out _).trans (((cell_far (p:=⟨aa,_,none⟩) ag.out _).trans (((cell_far (p:=⟨aa,_,none⟩) ag.out _).trans (hHeld.1)))))),((cell_far (p:=⟨aa,_,none⟩) ag.out _).trans (((cell_far (p:=⟨aa,_,none⟩) ag.out _).trans (((cell_far (p:=⟨aa,_,none⟩) ag.out _).trans (hHeld.2.1)))))),((cell_far (p:=⟨aa,_,none⟩) ag.out _).trans (((cell_far (p:=⟨aa,_,none⟩) ag.out _).trans (((cell_far (p:=⟨aa,_,none⟩) ag.out _).trans (hHeld.2.2))))))⟩ (fun hHeld=>?_)
  clear hK K
  refine done_ (done_of HT_.out (by kernel_rfl)) ?_
  try go_wp2
  refine bodyPost_ret (results_cell_row rfl _ _ aa 90 #[iV bF,iV bG,.slice bS bH.length bT] (0,0) _ rfl (qF af) underlying90 rfl (by kernel_rfl)) rfl ?_
  exact⟨_,qW,by (with_reducible repeat (first|apply Kd.N_alloc|apply Kd.N_drewN|apply Kd.N_drew));exact Kd.N_mono (Kd.N_far (p:=⟨aa,2,none⟩) (Kd.N_far (p:=⟨aa,1,none⟩) (Kd.N_far (p:=⟨aa,0,none⟩) (Kd.N_mono bv.out (fun k_ hk=>(⟨hk,hk.2.1⟩:_/\k_≠aa))) (fun _ hk=>hk.2) (iV bF)) (fun _ hk=>hk.2) (iV bG)) (fun _ hk=>hk.2) (.slice bS bH.length bT)) (fun _ hk=>hk.1.1),qI HI0,qB,qH⟩
def Sbv.f (k:Nat) (af:List Int) (aj:Int):Option (Int × Int × Int × Int × Int × (List (S90)) × (List (S92)) × (List (S92)) × Int):=(Sbn.f k af aj 3).bind fun ax=>((Sbn.f k af ax.2 3).bind fun ay=>((Sbo.f k af ay.2 (wrap64 (1+ay.1))).bind fun au=>(some (1,ax.1,0,au.1,au.2.1,au.2.2.1,([]:List (S92)),([]:List (S92)),au.2.2.2))))
theorem Sbv.calls (k g:Nat) (af:List Int) (aj r1 r2 r3 r4 r5:Int) (r6:List (S90)) (r7 r8:List (S92)) (r9:Int) (w0 w:World) (hI:Saa w0 w g af aj) (hB:Below w0.heap.size w0 w) (h:Sbv.f k af aj=some (r1,r2,r3,r4,r5,r6,r7,r8,r9)) :
  Calls prog 92 #[.pointer (some ⟨g,0,none⟩)] w fun e w'=>∃ aK aN aQ:Value,e = .returned (.agg #[iV r1,iV r2,iV r3,iV r4,iV r5,aK,aN,aQ])/\Kd.N k90 90 w' w.heap.size (fun k_=>(w.heap.size<=k_)/\some k_≠(aN:Value).ownBlock/\some k_≠(aQ:Value).ownBlock) aK r6/\Kd.N k92 92 w' w.heap.size (fun k_=>(w.heap.size<=k_)/\some k_≠(aK:Value).ownBlock/\some k_≠(aQ:Value).ownBlock) aN r7/\Kd.N k92 92 w' w.heap.size (fun k_=>(w.heap.size<=k_)/\some k_≠(aK:Value).ownBlock/\some k_≠(aN:Value).ownBlock) aQ r8/\Saa w0 w' g af r9/\Below w0.heap.size w0 w'/\KeepBut w w' g none:=by
 have bg:=underlying92
 have HI0:=aM hI
 have HK:=aM (KeepBut.refl w g none)
 have HL:=aM hB.size
 clear hI
 have HW0:=aM hB.size
 have HB:=aM hB
 clear hB
 have H:=h;unfold Sbv.f at H
 clear h
 obtain⟨⟨aA,aI⟩,A2,H⟩:=qE H
 try dsimp only at H
 obtain⟨⟨aC,aJ⟩,A3,H⟩:=qE H
 try dsimp only at H
 obtain⟨⟨aD,aG,aH,aT⟩,A4,H⟩:=qE H
 try dsimp only at H
 obtain⟨rfl,rfl,rfl,rfl,rfl,rfl,rfl,rfl,rfl⟩:=oJ9 H
 go_enter func92,ntmps92
 go_wp2_with (first|((with_reducible refine jd 2 rfl ?_);refine jX _ 92 ?_;intro aa hg w5 hbox hb;have ae:=aM hbox;have aU:=aM ((by rw [hg];exact (keep_size (w:=w) (g:=g) (row:=none) qH):w.heap.size<=aa));have aV:=aM ((Nat.le_trans HW0.out (by rw [hg];exact (keep_size (w:=w) (g:=g) (row:=none) qH):w.heap.size<=aa):w0.heap.size<=aa));have av:=aM ((by rw [hg];exact Nat.ne_of_lt (Saa.lt (show Saa w0 _ g af aj from qI HI0)):g≠aa));have ag:=aM ((by rw [hg];exact Nat.ne_of_gt (Saa.lt (show Saa w0 _ g af aj from qI HI0)):aa≠g));replace HI0:=aM (Saa.below (qI HI0) hb);replace HK:=aM (KeepBut.trans qH (KeepBut.of_below hb g none) (.inl rfl));replace HB:=kH hb;clear hb hbox hg)|((with_reducible refine jc 52 5 rfl rfl ?_);refine jG func52 #[.pointer (some ⟨g,0,none⟩),iV 3] ?_;refine (Sbn.calls k g af aj 3 aA aI w0 _ ?ah ?ai A2.out).mono ?_;(case ah=>exact qI HI0);(case ai=>exact qB);rintro e w6 ⟨rfl,hi,hb,hk⟩;refine⟨_,rfl,?_⟩;replace ae:=aM (KeepBut.blk hk (g':=aa) (o:=.cells #[iV 0,iV 0,iV 0,iV 0,iV 0,.slice none 0 0,.slice none 0 0,.slice none 0 0] 92 (0,0)) (qK ae) ag.out (by simp));replace HK:=kI hk;replace HB:=aM hb;replace HI0:=aM hi;clear hb hk hi)|((with_reducible refine jc 52 9 rfl rfl ?_);refine jG func52 #[.pointer (some ⟨g,0,none⟩),iV 3] ?_;refine (Sbn.calls k g af aI 3 aC aJ w0 _ ?ah ?ai A3.out).mono ?_;(case ah=>exact qI HI0);(case ai=>exact qB);rintro e w7 ⟨rfl,hi,hb,hk⟩;refine⟨_,rfl,?_⟩;replace ae:=aM (KeepBut.blk hk (g':=aa) (o:=.cells #[iV 0,iV 0,iV 0,iV 0,iV 0,.slice none 0 0,.slice none 0 0,.slice none 0 0] 92 (0,0)) (qK ae) ag.out (by simp));replace HK:=kI hk;replace HB:=aM hb;replace HI0:=aM hi;clear hb hk hi)|((with_reducible refine jc 96 11 rfl rfl ?_);refine jG func96 #[.pointer (some ⟨g,0,none⟩),iV (wrap64 (1+aC))] ?_;refine (Sbo.calls k g af aJ (wrap64 (1+aC)) aD aG aH aT w0 _ ?ah ?ai A4.out).mono ?_;(case ah=>exact qI HI0);(case ai=>exact qB);rintro e w8 ⟨bi,rfl,ho0,hi,hb,hk⟩;refine⟨_,rfl,?_⟩;have az:=aM (Kd.N_lower (Kd.N_mono (ok':=fun k_=>(w.heap.size<=k_)/\k_≠aa/\k_≠g) ho0 (fun k_ hk_=>⟨(Nat.le_trans (keep_size (w:=w) (g:=g) (row:=none) qH) hk_),(Kd.freshB (g:=aa) (o:=.cells #[iV 0,iV 0,iV 0,iV 0,iV 0,.slice none 0 0,.slice none 0 0,.slice none 0 0] 92 (0,0)) (qK ae) k_ hk_),(Saa.fresh (qI HI0) k_ hk_)⟩)) (keep_size (w:=w) (g:=g) (row:=none) qH));replace ae:=aM (KeepBut.blk hk (g':=aa) (o:=.cells #[iV 0,iV 0,iV 0,iV 0,iV 0,.slice none 0 0,.slice none 0 0,.slice none 0 0] 92 (0,0)) (qK ae) ag.out (by simp));replace HK:=kI hk;replace HB:=aM hb;replace HI0:=aM hi;clear hb hk hi;(try clear ho0);obtain⟨aW,aX,bn⟩:=Kd.N_slice az.out;subst bn;have aY:=ag.out;have aZ:=av.out;have bq:=jz8 ae))
 refine bodyPost_ret (results_cell_row rfl _ _ aa 92 #[iV 1,iV aA,iV 0,iV aD,iV aG,.slice aW aH.length aX,.slice none 0 0,.slice none 0 0] (0,0) _ rfl (qF ae) underlying92 rfl (by kernel_rfl)) rfl ?_
 exact⟨_,_,_,qW,by (with_reducible repeat (first|apply Kd.N_alloc|apply Kd.N_drewN|apply Kd.N_drew));exact Kd.N_mono (Kd.N_far (p:=⟨aa,7,none⟩) (Kd.N_far (p:=⟨aa,6,none⟩) (Kd.N_far (p:=⟨aa,5,none⟩) (Kd.N_far (p:=⟨aa,4,none⟩) (Kd.N_far (p:=⟨aa,3,none⟩) (Kd.N_far (p:=⟨aa,2,none⟩) (Kd.N_far (p:=⟨aa,1,none⟩) (Kd.N_far (p:=⟨aa,0,none⟩) (Kd.N_mono az.out (fun k_ hk=>(⟨hk,hk.2.1⟩:_/\k_≠aa))) (fun _ hk=>hk.2) (iV 1)) (fun _ hk=>hk.2) (iV aA)) (fun _ hk=>hk.2) (iV 0)) (fun _ hk=>hk.2) (iV aD)) (fun _ hk=>hk.2) (iV aG)) (fun _ hk=>hk.2) (.slice aW aH.length aX)) (fun _ hk=>hk.2) (.slice none 0 0)) (fun _ hk=>hk.2) (.slice none 0 0)) (fun _ hk=>⟨hk.1.1,⟨(by simp [Value.ownBlock]),(by simp [Value.ownBlock])⟩⟩),by first|exact Kd.R_nil _ _ _ _ _|exact Kd.N_nil _ _ _ _ _|exact Kd.V_nil _ _ _ _ _|exact Kd.Q_nil _ _ _ _ _|exact Kd.S_nil _ _ _ _ _,by first|exact Kd.R_nil _ _ _ _ _|exact Kd.N_nil _ _ _ _ _|exact Kd.V_nil _ _ _ _ _|exact Kd.Q_nil _ _ _ _ _|exact Kd.S_nil _ _ _ _ _,qI HI0,qB,qH⟩
def Sby.f (k:Nat) (ag:List Int) (aj a1:Int):Option (Int × Int × Int × Int × Int × (List (S90)) × (List (S92)) × (List (S92)) × Int):=if a1 < 1 then ((Sbv.f k ag aj).bind fun au=>(some (au.1,au.2.1,au.2.2.1,au.2.2.2.1,au.2.2.2.2.1,au.2.2.2.2.2.1,au.2.2.2.2.2.2.1,au.2.2.2.2.2.2.2.1,au.2.2.2.2.2.2.2.2))) else ((Sbn.f k ag aj a1).bind fun ay=>((Sbn.f k ag ay.2 2).bind fun az=>(if az.1=0 then ((Sbn.f k ag az.2 3).bind fun aY=>((Sbo.f k ag aY.2 (wrap64 (1+aY.1))).bind fun ax=>(some (4,0,ay.1,ax.1,ax.2.1,ax.2.2.1,([]:List (S92)),([]:List (S92)),ax.2.2.2)))) else ((Sbn.f k ag az.2 3).bind fun aZ=>(some (5,aZ.1,ay.1,0,0,([]:List (S90)),([]:List (S92)),([]:List (S92)),aZ.2))))))
theorem Sby.calls (k g:Nat) (ag:List Int) (aj a1 r1 r2 r3 r4 r5:Int) (r6:List (S90)) (r7 r8:List (S92)) (r9:Int) (w0 w:World) (hI:Saa w0 w g ag aj) (hB:Below w0.heap.size w0 w) (h:Sby.f k ag aj a1=some (r1,r2,r3,r4,r5,r6,r7,r8,r9)) :
  Calls prog 95 #[.pointer (some ⟨g,0,none⟩),iV a1] w fun e w'=>∃ bN bO bP:Value,e = .returned (.agg #[iV r1,iV r2,iV r3,iV r4,iV r5,bN,bO,bP])/\Kd.N k90 90 w' w.heap.size (fun k_=>(w.heap.size<=k_)/\some k_≠(bO:Value).ownBlock/\some k_≠(bP:Value).ownBlock) bN r6/\Kd.N k92 92 w' w.heap.size (fun k_=>(w.heap.size<=k_)/\some k_≠(bN:Value).ownBlock/\some k_≠(bP:Value).ownBlock) bO r7/\Kd.N k92 92 w' w.heap.size (fun k_=>(w.heap.size<=k_)/\some k_≠(bN:Value).ownBlock/\some k_≠(bO:Value).ownBlock) bP r8/\Saa w0 w' g ag r9/\Below w0.heap.size w0 w'/\KeepBut w w' g none:=by
 have dh:=underlying92
 have HI0:=aM hI
 have HK:=aM (KeepBut.refl w g none)
 have HL:=aM hB.size
 clear hI
 have HW0:=aM hB.size
 have HB:=aM hB
 clear hB
 have H:=h;unfold Sby.f at H
 clear h
 replace H:=jD H;rcases H with ⟨bS,H⟩ | ⟨bS,H⟩
 ·obtain⟨⟨aA,aC,aD,aG,aH,aI,aJ,aK,bT⟩,A4,H⟩:=qE H
  try dsimp only at H
  obtain⟨rfl,rfl,rfl,rfl,rfl,rfl,rfl,rfl,rfl⟩:=oJ9 H
  go_enter func95,ntmps95
  go_wp2_with (first|((with_reducible refine jd 4 rfl ?_);refine jX _ 92 ?_;intro aa hg w5 hbox hb;have ae:=aM hbox;have bg:=aM ((by rw [hg];exact (keep_size (w:=w) (g:=g) (row:=none) qH):w.heap.size<=aa));have bi:=aM ((Nat.le_trans HW0.out (by rw [hg];exact (keep_size (w:=w) (g:=g) (row:=none) qH):w.heap.size<=aa):w0.heap.size<=aa));have av:=aM ((by rw [hg];exact Nat.ne_of_lt (Saa.lt (show Saa w0 _ g ag aj from qI HI0)):g≠aa));have af:=aM ((by rw [hg];exact Nat.ne_of_gt (Saa.lt (show Saa w0 _ g ag aj from qI HI0)):aa≠g));replace HI0:=aM (Saa.below (qI HI0) hb);replace HK:=aM (KeepBut.trans qH (KeepBut.of_below hb g none) (.inl rfl));replace HB:=kH hb;clear hb hbox hg)|((with_reducible refine jc 92 9 rfl rfl ?_);refine jG func92 #[.pointer (some ⟨g,0,none⟩)] ?_;refine (Sbv.calls k g ag aj aA aC aD aG aH aI aJ aK bT w0 _ ?ah ?ai A4.out).mono ?_;(case ah=>exact qI HI0);(case ai=>exact qB);rintro e w6 ⟨bD,bE,bF,rfl,ho0,ho1,ho2,hi,hb,hk⟩;refine⟨_,rfl,?_⟩;have bn:=aM (Kd.N_lower (Kd.N_mono (ok':=fun k_=>(w.heap.size<=k_)/\some k_≠(bE:Value).ownBlock/\some k_≠(bF:Value).ownBlock/\k_≠aa/\k_≠g) ho0 (fun k_ hk_=>⟨(Nat.le_trans (keep_size (w:=w) (g:=g) (row:=none) qH) hk_.1),hk_.2.1,hk_.2.2,(Kd.freshB (g:=aa) (o:=.cells #[iV 0,iV 0,iV 0,iV 0,iV 0,.slice none 0 0,.slice none 0 0,.slice none 0 0] 92 (0,0)) (qK ae) k_ hk_.1),(Saa.fresh (qI HI0) k_ hk_.1)⟩)) (keep_size (w:=w) (g:=g) (row:=none) qH));have bq:=aM (Kd.N_lower (Kd.N_mono (ok':=fun k_=>(w.heap.size<=k_)/\some k_≠(bD:Value).ownBlock/\some k_≠(bF:Value).ownBlock/\k_≠aa/\k_≠g) ho1 (fun k_ hk_=>⟨(Nat.le_trans (keep_size (w:=w) (g:=g) (row:=none) qH) hk_.1),hk_.2.1,hk_.2.2,(Kd.freshB (g:=aa) (o:=.cells #[iV 0,iV 0,iV 0,iV 0,iV 0,.slice none 0 0,.slice none 0 0,.slice none 0 0] 92 (0,0)) (qK ae) k_ hk_.1),(Saa.fresh (qI HI0) k_ hk_.1)⟩)) (keep_size (w:=w) (g:=g) (row:=none) qH));have bu:=aM (Kd.N_lower (Kd.N_mono (ok':=fun k_=>(w.heap.size<=k_)/\some k_≠(bD:Value).ownBlock/\some k_≠(bE:Value).ownBlock/\k_≠aa/\k_≠g) ho2 (fun k_ hk_=>⟨(Nat.le_trans (keep_size (w:=w) (g:=g) (row:=none) qH) hk_.1),hk_.2.1,hk_.2.2,(Kd.freshB (g:=aa) (o:=.cells #[iV 0,iV 0,iV 0,iV 0,iV 0,.slice none 0 0,.slice none 0 0,.slice none 0 0] 92 (0,0)) (qK ae) k_ hk_.1),(Saa.fresh (qI HI0) k_ hk_.1)⟩)) (keep_size (w:=w) (g:=g) (row:=none) qH));replace ae:=aM (KeepBut.blk hk (g':=aa) (o:=.cells #[iV 0,iV 0,iV 0,iV 0,iV 0,.slice none 0 0,.slice none 0 0,.slice none 0 0] 92 (0,0)) (qK ae) af.out (by simp));replace HK:=kI hk;replace HB:=aM hb;replace HI0:=aM hi;clear hb hk hi;(try clear ho0);(try clear ho1);(try clear ho2);have di:=af.out;have dn:=av.out;have dE:=jz8 ae;obtain⟨bQ,bR,dw⟩:=Kd.N_slice bn.out;subst dw;obtain⟨aQ,aT,bU⟩:=Kd.N_slice bq.out;subst bU;obtain⟨aU,aV,bV⟩:=Kd.N_slice bu.out;subst bV))
  refine bodyPost_ret (results_cell_row rfl _ _ aa 92 #[iV aA,iV aC,iV aD,iV aG,iV aH,.slice bQ aI.length bR,.slice aQ aJ.length aT,.slice aU aK.length aV] (0,0) _ rfl (qF ae) underlying92 rfl (by kernel_rfl)) rfl ?_
  exact⟨_,_,_,qW,by (with_reducible repeat (first|apply Kd.N_alloc|apply Kd.N_drewN|apply Kd.N_drew));exact Kd.N_mono (Kd.N_far (p:=⟨aa,7,none⟩) (Kd.N_far (p:=⟨aa,6,none⟩) (Kd.N_far (p:=⟨aa,5,none⟩) (Kd.N_far (p:=⟨aa,4,none⟩) (Kd.N_far (p:=⟨aa,3,none⟩) (Kd.N_far (p:=⟨aa,2,none⟩) (Kd.N_far (p:=⟨aa,1,none⟩) (Kd.N_far (p:=⟨aa,0,none⟩) (Kd.N_mono bn.out (fun k_ hk=>(⟨hk,hk.2.2.2.1⟩:_/\k_≠aa))) (fun _ hk=>hk.2) (iV aA)) (fun _ hk=>hk.2) (iV aC)) (fun _ hk=>hk.2) (iV aD)) (fun _ hk=>hk.2) (iV aG)) (fun _ hk=>hk.2) (iV aH)) (fun _ hk=>hk.2) (.slice bQ aI.length bR)) (fun _ hk=>hk.2) (.slice aQ aJ.length aT)) (fun _ hk=>hk.2) (.slice aU aK.length aV)) (fun _ hk=>⟨hk.1.1,⟨hk.1.2.1,hk.1.2.2.1⟩⟩),by (with_reducible repeat (first|apply Kd.N_alloc|apply Kd.N_drewN|apply Kd.N_drew));exact Kd.N_mono (Kd.N_far (p:=⟨aa,7,none⟩) (Kd.N_far (p:=⟨aa,6,none⟩) (Kd.N_far (p:=⟨aa,5,none⟩) (Kd.N_far (p:=⟨aa,4,none⟩) (Kd.N_far (p:=⟨aa,3,none⟩) (Kd.N_far (p:=⟨aa,2,none⟩) (Kd.N_far (p:=⟨aa,1,none⟩) (Kd.N_far (p:=⟨aa,0,none⟩) (Kd.N_mono bq.out (fun k_ hk=>(⟨hk,hk.2.2.2.1⟩:_/\k_≠aa))) (fun _ hk=>hk.2) (iV aA)) (fun _ hk=>hk.2) (iV aC)) (fun _ hk=>hk.2) (iV aD)) (fun _ hk=>hk.2) (iV aG)) (fun _ hk=>hk.2) (iV aH)) (fun _ hk=>hk.2) (.slice bQ aI.length bR)) (fun _ hk=>hk.2) (.slice aQ aJ.length aT)) (fun _ hk=>hk.2) (.slice aU aK.length aV)) (fun _ hk=>⟨hk.1.1,⟨hk.1.2.1,hk.1.2.2.1⟩⟩),by (with_reducible repeat (first|apply Kd.N_alloc|apply Kd.N_drewN|apply Kd.N_drew));exact Kd.N_mono (Kd.N_far (p:=⟨aa,7,none⟩) (Kd.N_far (p:=⟨aa,6,none⟩) (Kd.N_far (p:=⟨aa,5,none⟩) (Kd.N_far (p:=⟨aa,4,none⟩) (Kd.N_far (p:=⟨aa,3,none⟩) (Kd.N_far (p:=⟨aa,2,none⟩) (Kd.N_far (p:=⟨aa,1,none⟩) (Kd.N_far (p:=⟨aa,0,none⟩) (Kd.N_mono bu.out (fun k_ hk=>(⟨hk,hk.2.2.2.1⟩:_/\k_≠aa))) (fun _ hk=>hk.2) (iV aA)) (fun _ hk=>hk.2) (iV aC)) (fun _ hk=>hk.2) (iV aD)) (fun _ hk=>hk.2) (iV aG)) (fun _ hk=>hk.2) (iV aH)) (fun _ hk=>hk.2) (.slice bQ aI.length bR)) (fun _ hk=>hk.2) (.slice aQ aJ.length aT)) (fun _ hk=>hk.2) (.slice aU aK.length aV)) (fun _ hk=>⟨hk.1.1,⟨hk.1.2.1,hk.1.2.2.1⟩⟩),qI HI0,qB,qH⟩
 obtain⟨⟨aN,aW⟩,bZ,H⟩:=qE H
 try dsimp only at H
 obtain⟨⟨bG,aX⟩,cz,H⟩:=qE H
 try dsimp only at H
 replace H:=jE H;rcases H with ⟨bH,bI,H⟩ | ⟨c14,bH,bI,H⟩
 ·obtain⟨⟨bz,bJ⟩,dx,H⟩:=qE H
  try dsimp only at H
  obtain⟨⟨bA,bB,bC,bW⟩,dz,H⟩:=qE H
  try dsimp only at H
  obtain⟨rfl,rfl,rfl,rfl,rfl,rfl,rfl,rfl,rfl⟩:=oJ9 H
  go_enter func95,ntmps95
  go_wp2_with (first|((with_reducible refine jd 4 rfl ?_);refine jX _ 92 ?_;intro aa hg dF hbox hb;have ae:=aM hbox;have bg:=aM ((by rw [hg];exact (keep_size (w:=w) (g:=g) (row:=none) qH):w.heap.size<=aa));have bi:=aM ((Nat.le_trans HW0.out (by rw [hg];exact (keep_size (w:=w) (g:=g) (row:=none) qH):w.heap.size<=aa):w0.heap.size<=aa));have av:=aM ((by rw [hg];exact Nat.ne_of_lt (Saa.lt (show Saa w0 _ g ag aj from qI HI0)):g≠aa));have af:=aM ((by rw [hg];exact Nat.ne_of_gt (Saa.lt (show Saa w0 _ g ag aj from qI HI0)):aa≠g));replace HI0:=aM (Saa.below (qI HI0) hb);replace HK:=aM (KeepBut.trans qH (KeepBut.of_below hb g none) (.inl rfl));replace HB:=kH hb;clear hb hbox hg)|((with_reducible refine jc 52 12 rfl rfl ?_);refine jG func52 #[.pointer (some ⟨g,0,none⟩),iV a1] ?_;refine (Sbn.calls k g ag aj a1 aN aW w0 _ ?ah ?ai bZ.out).mono ?_;(case ah=>exact qI HI0);(case ai=>exact qB);rintro e dG ⟨rfl,hi,hb,hk⟩;refine⟨_,rfl,?_⟩;replace ae:=aM (KeepBut.blk hk (g':=aa) (o:=.cells #[iV 0,iV 0,iV 0,iV 0,iV 0,.slice none 0 0,.slice none 0 0,.slice none 0 0] 92 (0,0)) (qK ae) af.out (by simp));replace HK:=kI hk;replace HB:=aM hb;replace HI0:=aM hi;clear hb hk hi)|((with_reducible refine jc 52 14 rfl rfl ?_);refine jG func52 #[.pointer (some ⟨g,0,none⟩),iV 2] ?_;refine (Sbn.calls k g ag aW 2 bG aX w0 _ ?ah ?ai cz.out).mono ?_;(case ah=>exact qI HI0);(case ai=>exact qB);rintro e dH ⟨rfl,hi,hb,hk⟩;refine⟨_,rfl,?_⟩;replace ae:=aM (KeepBut.blk hk (g':=aa) (o:=.cells #[iV 0,iV 0,iV 0,iV 0,iV 0,.slice none 0 0,.slice none 0 0,.slice none 0 0] 92 (0,0)) (qK ae) af.out (by simp));replace HK:=kI hk;replace HB:=aM hb;replace HI0:=aM hi;clear hb hk hi)|((with_reducible refine jc 52 19 rfl rfl ?_);refine jG func52 #[.pointer (some ⟨g,0,none⟩),iV 3] ?_;refine (Sbn.calls k g ag aX 3 bz bJ w0 _ ?ah ?ai dx.out).mono ?_;(case ah=>exact qI HI0);(case ai=>exact qB);rintro e dI ⟨rfl,hi,hb,hk⟩;refine⟨_,rfl,?_⟩;replace ae:=aM (KeepBut.blk hk (g':=aa) (o:=.cells #[iV 0,iV 0,iV 0,iV 0,iV 0,.slice none 0 0,.slice none 0 0,.slice none 0 0] 92 (0,0)) (qK ae) af.out (by simp));replace HK:=kI hk;replace HB:=aM hb;replace HI0:=aM hi;clear hb hk hi)|((with_reducible refine jc 96 21 rfl rfl ?_);refine jG func96 #[.pointer (some ⟨g,0,none⟩),iV (wrap64 (1+bz))] ?_;refine (Sbo.calls k g ag bJ (wrap64 (1+bz)) bA bB bC bW w0 _ ?ah ?ai dz.out).mono ?_;(case ah=>exact qI HI0);(case ai=>exact qB);rintro e dJ ⟨dA,rfl,ho0,hi,hb,hk⟩;refine⟨_,rfl,?_⟩;have bv:=aM (Kd.N_lower (Kd.N_mono (ok':=fun k_=>(w.heap.size<=k_)/\k_≠aa/\k_≠g) ho0 (fun k_ hk_=>⟨(Nat.le_trans (keep_size (w:=w) (g:=g) (row:=none) qH) hk_),(Kd.freshB (g:=aa) (o:=.cells #[iV 0,iV 0,iV 0,iV 0,iV 0,.slice none 0 0,.slice none 0 0,.slice none 0 0] 92 (0,0)) (qK ae) k_ hk_),(Saa.fresh (qI HI0) k_ hk_)⟩)) (keep_size (w:=w) (g:=g) (row:=none) qH));replace ae:=aM (KeepBut.blk hk (g':=aa) (o:=.cells #[iV 0,iV 0,iV 0,iV 0,iV 0,.slice none 0 0,.slice none 0 0,.slice none 0 0] 92 (0,0)) (qK ae) af.out (by simp));replace HK:=kI hk;replace HB:=aM hb;replace HI0:=aM hi;clear hb hk hi;(try clear ho0);obtain⟨bK,bL,bX⟩:=Kd.N_slice bv.out;subst bX;have cB:=af.out;have cK:=av.out;have dB:=jz8 ae))
  refine bodyPost_ret (results_cell_row rfl _ _ aa 92 #[iV 4,iV 0,iV aN,iV bA,iV bB,.slice bK bC.length bL,.slice none 0 0,.slice none 0 0] (0,0) _ rfl (qF ae) underlying92 rfl (by kernel_rfl)) rfl ?_
  exact⟨_,_,_,qW,by (with_reducible repeat (first|apply Kd.N_alloc|apply Kd.N_drewN|apply Kd.N_drew));exact Kd.N_mono (Kd.N_far (p:=⟨aa,7,none⟩) (Kd.N_far (p:=⟨aa,6,none⟩) (Kd.N_far (p:=⟨aa,5,none⟩) (Kd.N_far (p:=⟨aa,4,none⟩) (Kd.N_far (p:=⟨aa,3,none⟩) (Kd.N_far (p:=⟨aa,2,none⟩) (Kd.N_far (p:=⟨aa,1,none⟩) (Kd.N_far (p:=⟨aa,0,none⟩) (Kd.N_mono bv.out (fun k_ hk=>(⟨hk,hk.2.1⟩:_/\k_≠aa))) (fun _ hk=>hk.2) (iV 4)) (fun _ hk=>hk.2) (iV 0)) (fun _ hk=>hk.2) (iV aN)) (fun _ hk=>hk.2) (iV bA)) (fun _ hk=>hk.2) (iV bB)) (fun _ hk=>hk.2) (.slice bK bC.length bL)) (fun _ hk=>hk.2) (.slice none 0 0)) (fun _ hk=>hk.2) (.slice none 0 0)) (fun _ hk=>⟨hk.1.1,⟨(by simp [Value.ownBlock]),(by simp [Value.ownBlock])⟩⟩),by first|exact Kd.R_nil _ _ _ _ _|exact Kd.N_nil _ _ _ _ _|exact Kd.V_nil _ _ _ _ _|exact Kd.Q_nil _ _ _ _ _|exact Kd.S_nil _ _ _ _ _,by first|exact Kd.R_nil _ _ _ _ _|exact Kd.N_nil _ _ _ _ _|exact Kd.V_nil _ _ _ _ _|exact Kd.Q_nil _ _ _ _ _|exact Kd.S_nil _ _ _ _ _,qI HI0,qB,qH⟩
 obtain⟨⟨bM,bY⟩,dC,H⟩:=qE H
 try dsimp only at H
 obtain⟨rfl,rfl,rfl,rfl,rfl,rfl,rfl,rfl,rfl⟩:=oJ9 H
 go_enter func95,ntmps95
 go_wp2_with (first|((with_reducible refine jd 4 rfl ?_);refine jX _ 92 ?_;intro aa hg dK hbox hb;have ae:=aM hbox;have bg:=aM ((by rw [hg];exact (keep_size (w:=w) (g:=g) (row:=none) qH):w.heap.size<=aa));have bi:=aM ((Nat.le_trans HW0.out (by rw [hg];exact (keep_size (w:=w) (g:=g) (row:=none) qH):w.heap.size<=aa):w0.heap.size<=aa));have av:=aM ((by rw [hg];exact Nat.ne_of_lt (Saa.lt (show Saa w0 _ g ag aj from qI HI0)):g≠aa));have af:=aM ((by rw [hg];exact Nat.ne_of_gt (Saa.lt (show Saa w0 _ g ag aj from qI HI0)):aa≠g));replace HI0:=aM (Saa.below (qI HI0) hb);replace HK:=aM (KeepBut.trans qH (KeepBut.of_below hb g none) (.inl rfl));replace HB:=kH hb;clear hb hbox hg)|((with_reducible refine jc 52 12 rfl rfl ?_);refine jG func52 #[.pointer (some ⟨g,0,none⟩),iV a1] ?_;refine (Sbn.calls k g ag aj a1 aN aW w0 _ ?ah ?ai bZ.out).mono ?_;(case ah=>exact qI HI0);(case ai=>exact qB);rintro e dL ⟨rfl,hi,hb,hk⟩;refine⟨_,rfl,?_⟩;replace ae:=aM (KeepBut.blk hk (g':=aa) (o:=.cells #[iV 0,iV 0,iV 0,iV 0,iV 0,.slice none 0 0,.slice none 0 0,.slice none 0 0] 92 (0,0)) (qK ae) af.out (by simp));replace HK:=kI hk;replace HB:=aM hb;replace HI0:=aM hi;clear hb hk hi)|((with_reducible refine jc 52 14 rfl rfl ?_);refine jG func52 #[.pointer (some ⟨g,0,none⟩),iV 2] ?_;refine (Sbn.calls k g ag aW 2 bG aX w0 _ ?ah ?ai cz.out).mono ?_;(case ah=>exact qI HI0);(case ai=>exact qB);rintro e dM ⟨rfl,hi,hb,hk⟩;refine⟨_,rfl,?_⟩;replace ae:=aM (KeepBut.blk hk (g':=aa) (o:=.cells #[iV 0,iV 0,iV 0,iV 0,iV 0,.slice none 0 0,.slice none 0 0,.slice none 0 0] 92 (0,0)) (qK ae) af.out (by simp));replace HK:=kI hk;replace HB:=aM hb;replace HI0:=aM hi;clear hb hk hi)|((with_reducible refine jc 52 25 rfl rfl ?_);refine jG func52 #[.pointer (some ⟨g,0,none⟩),iV 3] ?_;refine (Sbn.calls k g ag aX 3 bM bY w0 _ ?ah ?ai dC.out).mono ?_;(case ah=>exact qI HI0);(case ai=>exact qB);rintro e dN ⟨rfl,hi,hb,hk⟩;refine⟨_,rfl,?_⟩;replace ae:=aM (KeepBut.blk hk (g':=aa) (o:=.cells #[iV 0,iV 0,iV 0,iV 0,iV 0,.slice none 0 0,.slice none 0 0,.slice none 0 0] 92 (0,0)) (qK ae) af.out (by simp));replace HK:=kI hk;replace HB:=aM hb;replace HI0:=aM hi;clear hb hk hi;have cO:=af.out;have df:=av.out;have dD:=jz8 ae))
 refine bodyPost_ret (results_cell_row rfl _ _ aa 92 #[iV 5,iV bM,iV aN,iV 0,iV 0,.slice none 0 0,.slice none 0 0,.slice none 0 0] (0,0) _ rfl (qF ae) underlying92 rfl (by kernel_rfl)) rfl ?_
 exact⟨_,_,_,qW,by first|exact Kd.R_nil _ _ _ _ _|exact Kd.N_nil _ _ _ _ _|exact Kd.V_nil _ _ _ _ _|exact Kd.Q_nil _ _ _ _ _|exact Kd.S_nil _ _ _ _ _,by first|exact Kd.R_nil _ _ _ _ _|exact Kd.N_nil _ _ _ _ _|exact Kd.V_nil _ _ _ _ _|exact Kd.Q_nil _ _ _ _ _|exact Kd.S_nil _ _ _ _ _,by first|exact Kd.R_nil _ _ _ _ _|exact Kd.N_nil _ _ _ _ _|exact Kd.V_nil _ _ _ _ _|exact Kd.Q_nil _ _ _ _ _|exact Kd.S_nil _ _ _ _ _,qI HI0,qB,qH⟩
end Go.Proofs.YtebpplallecogaaGreat.M
