/- Part 3 of the proof: A function as plain Lean and its contract: written by a program of this session's, turned from the kit's print. -/
import Derived.Test.YtebpplallecogaaGreatDA2
set_option linter.unusedVariables false
set_option linter.unusedSimpArgs false
set_option maxHeartbeats 8000000
set_option maxRecDepth 100000
namespace Go.Proofs.YtebpplallecogaaGreat.M
open Go.RowKit Go.Proofs.YtebpplallecogaaGreatW.PrintWords Go.Proofs.YtebpplallecogaaGreatW.PrintLast Go.Proofs.YtebpplallecogaaGreatW.PrintMore
attribute [local go_sem] max2_int min2_int max_two min_two max_three min_three max_four min_four
def Sad.j0:Nat->Int->Int->Int->Bool->Option (Int × Bool)
 | 0,_,_,_,_=>none
 | k+1,x0,x1,x2,x20=>if x20=true then (some (0,false)) else (if x0=1 then (some (Go.bits .or .i64 x1 x2,true)) else (if x0=2 then (some (Go.bits .xor .i64 x1 x2,true)) else (if x0=3 then (some (Go.bits .and .i64 x1 x2,true)) else (if x0=4 then ((SaP.f (x1 == x2)).bind fun ae=>(some (ae,true))) else (if x0=5 then ((SaP.f (decide (x1 < x2))).bind fun af=>(some (af,true))) else (if x0=6 then ((SaR.f x1 x2 false).bind fun ag=>(some (ag,true))) else (if x0=7 then ((SaR.f x1 x2 true).bind fun ah=>(some (ah,true))) else (if x0=8 then ((Saz.f (wrap64 (x1+x2))).bind fun ai=>(some (ai,true))) else (if x0=9 then ((Saz.f (wrap64 (x1 - x2))).bind fun aj=>(some (aj,true))) else (if x0=10 then ((Saz.f (wrap64 (x1*x2))).bind fun au=>(some (au,true))) else (if x0=11 then ((SaO.f x1 x2).bind fun av=>(some (av,true))) else ((SaQ.f x1 x2).bind fun ax=>(some (ax,true))))))))))))))
def Sad.f (k:Nat) (a0 a1 a2:Int):Option (Int × Bool):=(Sar.f a0).bind fun ay=>(if ay=true then ((Say.f a1).bind fun az=>(if az=true then ((Say.f a2).bind fun aA=>(Sad.j0 k a0 a1 a2 (!aA))) else (Sad.j0 k a0 a1 a2 true))) else (Sad.j0 k a0 a1 a2 true))
theorem Sad_0 {G:Prop} (h:G:=by
  go_wp2_with (first|((with_reducible refine jc 130 42 rfl rfl ?_);refine jG Tryz.func130 #[.bool (a1 == a2)] ?_;refine (SaP.calls _ _ _ (Aside0.out (by assumption))).mono ?_;rintro e w' ⟨rfl,⟨nd,rfl⟩⟩;refine⟨_,rfl,?_⟩)|((with_reducible refine jc 130 48 rfl rfl ?_);refine jG Tryz.func130 #[.bool (decide (a1 < a2))] ?_;refine (SaP.calls _ _ _ (Aside0.out (by assumption))).mono ?_;rintro e w' ⟨rfl,⟨nd,rfl⟩⟩;refine⟨_,rfl,?_⟩)|((with_reducible refine jc 131 53 rfl rfl ?_);refine jG Tryz.func131 #[.int .i64 a1,.int .i64 a2,.bool false] ?_;refine (SaR.calls _ _ _ _ _ (Aside0.out (by assumption))).mono ?_;rintro e w' ⟨rfl,⟨nd,rfl⟩⟩;refine⟨_,rfl,?_⟩)|((with_reducible refine jc 131 58 rfl rfl ?_);refine jG Tryz.func131 #[.int .i64 a1,.int .i64 a2,.bool true] ?_;refine (SaR.calls _ _ _ _ _ (Aside0.out (by assumption))).mono ?_;rintro e w' ⟨rfl,⟨nd,rfl⟩⟩;refine⟨_,rfl,?_⟩)|((with_reducible refine jc 87 64 rfl rfl ?_);refine jG Tryz.func87 #[.int .i64 (wrap64 (a1+a2))] ?_;refine (Saz.calls _ _ _ (Aside0.out (by assumption))).mono ?_;rintro e w' ⟨rfl,⟨nd,rfl⟩⟩;refine⟨_,rfl,?_⟩)|((with_reducible refine jc 87 70 rfl rfl ?_);refine jG Tryz.func87 #[.int .i64 (wrap64 (a1 - a2))] ?_;refine (Saz.calls _ _ _ (Aside0.out (by assumption))).mono ?_;rintro e w' ⟨rfl,⟨nd,rfl⟩⟩;refine⟨_,rfl,?_⟩)|((with_reducible refine jc 87 76 rfl rfl ?_);refine jG Tryz.func87 #[.int .i64 (wrap64 (a1*a2))] ?_;refine (Saz.calls _ _ _ (Aside0.out (by assumption))).mono ?_;rintro e w' ⟨rfl,⟨nd,rfl⟩⟩;refine⟨_,rfl,?_⟩)|((with_reducible refine jc 132 81 rfl rfl ?_);refine jG Tryz.func132 #[.int .i64 a1,.int .i64 a2] ?_;refine (SaO.calls _ _ _ _ (Aside0.out (by assumption))).mono ?_;rintro e w' ⟨rfl,⟨nd,rfl⟩⟩;refine⟨_,rfl,?_⟩)|((with_reducible refine jc 133 84 rfl rfl ?_);refine jG Tryz.func133 #[.int .i64 a1,.int .i64 a2] ?_;refine (SaQ.calls _ _ _ _ (Aside0.out (by assumption))).mono ?_;rintro e w' ⟨rfl,⟨nd,rfl⟩⟩;refine⟨_,rfl,?_⟩))
  go_ret2
  exact⟨qZ,qU⟩):G:=h
theorem Sad_1 {G:Prop} (h:G:=by
  go_wp2_with (first|((with_reducible refine jc 67 9 rfl rfl ?_);refine jG Tryz.func67 #[.int .i64 a0] ?_;refine (Sar.calls _ _ _ (Aside0.out (by assumption))).mono ?_;rintro e w' ⟨rfl,⟨nd,rfl⟩⟩;refine⟨_,rfl,?_⟩)|(go_at_call 66;(with_reducible refine (Say.calls _ _ _ (Aside0.out (by assumption))).mono ?_);rintro e w' ⟨rfl,⟨nd,rfl⟩⟩))
  go_meet
  exact⟨_,_,qZ,H',⟨by first|omega|exact Nat.le_refl _⟩,by repeat (first|exact Drawn0.refl _|apply Drawn0.step)⟩):G:=h
theorem Sad.calls (k:Nat) (a0 a1 a2 r1:Int) (r2:Bool) (w:World) (h:Sad.f k a0 a1 a2=some (r1,r2)) :
  Calls Tryz.prog 128 #[.int .i64 a0,.int .i64 a1,.int .i64 a2] w fun e w'=>e = .returned (.tuple #[.int .i64 r1,.bool r2])/\Drawn0 w w':=by
 have H:=h;unfold Sad.f at H
 clear h
 have bz:=aM H
 clear H
 go_enter Tryz.func128,Tryz.ntmps128
 go_upto_region 1 with (fail)
 go_cut [20] (fun v20 wc=>∃ (kq:Nat) (aa:Bool),v20 = .bool aa/\Aside0 (Sad.j0 kq a0 a1 a2 aa=some (r1,r2))/\Aside0 (kq<=k)/\Drawn0 w wc)
 case first =>
  have H:=bz.out
  clear bz
  obtain⟨ay,A5,H⟩:=qE H
  try dsimp only at H
  replace H:=jB H;rcases H with ⟨rfl,H⟩ | ⟨rfl,H⟩
  ·obtain⟨az,A7,H⟩:=qE H
   try dsimp only at H
   replace H:=jB H;rcases H with ⟨rfl,H⟩ | ⟨rfl,H⟩
   ·obtain⟨aA,A9,H⟩:=qE H
    try dsimp only at H
    have H':=aM H
    clear H
    exact Sad_1
   have H':=aM H
   clear H
   exact Sad_1
  have H':=aM H
  clear H
  exact Sad_1
 clear bz
 obtain⟨kq,aa,rfl,HA,bB,⟨bC,rfl⟩⟩:=hcut
 cases kq with
 | zero=>exact absurd HA.out (by simp [Sad.j0])
 | succ bD =>
  have H:=HA.out
  clear HA
  simp only [Sad.j0] at H
  replace H:=jB H;rcases H with ⟨rfl,H⟩ | ⟨rfl,H⟩
  ·obtain⟨rfl,rfl⟩:=oJ2 H
   go_wp2
   go_ret2
   exact⟨qZ,qU⟩
  replace H:=jE H;rcases H with ⟨aC,aD,H⟩ | ⟨c11,aC,aD,H⟩
  ·obtain⟨rfl,rfl⟩:=oJ2 H
   go_wp2
   go_ret2
   exact⟨qZ,qU⟩
  replace H:=jE H;rcases H with ⟨aG,aH,H⟩ | ⟨c12,aG,aH,H⟩
  ·obtain⟨rfl,rfl⟩:=oJ2 H
   go_wp2
   go_ret2
   exact⟨qZ,qU⟩
  replace H:=jE H;rcases H with ⟨aI,aJ,H⟩ | ⟨c13,aI,aJ,H⟩
  ·obtain⟨rfl,rfl⟩:=oJ2 H
   go_wp2
   go_ret2
   exact⟨qZ,qU⟩
  replace H:=jE H;rcases H with ⟨aK,aN,H⟩ | ⟨c14,aK,aN,H⟩
  ·obtain⟨ae,bE,H⟩:=qE H
   try dsimp only at H
   obtain⟨rfl,rfl⟩:=oJ2 H
   exact Sad_0
  replace H:=jE H;rcases H with ⟨aQ,aT,H⟩ | ⟨c16,aQ,aT,H⟩
  ·obtain⟨af,bF,H⟩:=qE H
   try dsimp only at H
   obtain⟨rfl,rfl⟩:=oJ2 H
   exact Sad_0
  replace H:=jE H;rcases H with ⟨aU,aV,H⟩ | ⟨c18,aU,aV,H⟩
  ·obtain⟨ag,bG,H⟩:=qE H
   try dsimp only at H
   obtain⟨rfl,rfl⟩:=oJ2 H
   exact Sad_0
  replace H:=jE H;rcases H with ⟨aW,aX,H⟩ | ⟨c20,aW,aX,H⟩
  ·obtain⟨ah,bH,H⟩:=qE H
   try dsimp only at H
   obtain⟨rfl,rfl⟩:=oJ2 H
   exact Sad_0
  replace H:=jE H;rcases H with ⟨aY,aZ,H⟩ | ⟨bI,aY,aZ,H⟩
  ·obtain⟨ai,bJ,H⟩:=qE H
   try dsimp only at H
   obtain⟨rfl,rfl⟩:=oJ2 H
   exact Sad_0
  replace H:=jE H;rcases H with ⟨bg,bi,H⟩ | ⟨c24,bg,bi,H⟩
  ·obtain⟨aj,bK,H⟩:=qE H
   try dsimp only at H
   obtain⟨rfl,rfl⟩:=oJ2 H
   exact Sad_0
  replace H:=jE H;rcases H with ⟨bn,bq,H⟩ | ⟨bL,bn,bq,H⟩
  ·obtain⟨au,bM,H⟩:=qE H
   try dsimp only at H
   obtain⟨rfl,rfl⟩:=oJ2 H
   exact Sad_0
  replace H:=jE H;rcases H with ⟨bu,bv,H⟩ | ⟨c28,bu,bv,H⟩
  ·obtain⟨av,bN,H⟩:=qE H
   try dsimp only at H
   obtain⟨rfl,rfl⟩:=oJ2 H
   exact Sad_0
  obtain⟨ax,bO,H⟩:=qE H
  try dsimp only at H
  obtain⟨rfl,rfl⟩:=oJ2 H
  exact Sad_0
def Sb7.f (k:Nat) (aX aY aZ bg aJ aQ aK aT aN:Int):Option (Int × Int):=if aQ=1 then (if aT=1 then ((Sad.f k aJ aK aN).bind fun bv=>(some (1,bv.1))) else (some (2,0))) else (some (2,0))
theorem Sb7.calls (k:Nat) (aX aY aZ bg aJ aQ aK aT aN r1 r2:Int) (w:World) (h:Sb7.f k aX aY aZ bg aJ aQ aK aT aN=some (r1,r2)) :
  Calls Tryz.prog 123 #[.agg #[.int .i64 aX,.int .i64 aY,.int .i64 aZ,.int .i64 bg,.int .i64 aJ],.agg #[.int .i64 aQ,.int .i64 aK],.agg #[.int .i64 aT,.int .i64 aN]] w fun e w'=>e = .returned (.agg #[.int .i64 r1,.int .i64 r2])/\Below w.heap.size w w':=by
 have cK:=Tryz.underlying27
 have bW:=Tryz.underlying118
 have HB:=aM (Below.refl w.heap.size w)
 have H:=h;unfold Sb7.f at H
 clear h
 replace H:=jE H;rcases H with ⟨bO,bP,H⟩ | ⟨c4,bO,bP,H⟩
 ·replace H:=jE H;rcases H with ⟨bQ,bR,H⟩ | ⟨c5,bQ,bR,H⟩
  ·obtain⟨⟨bS,cO⟩,A6,H⟩:=qE H
   try dsimp only at H
   obtain⟨rfl,rfl⟩:=oJ2 H
   go_enter Tryz.func123,Tryz.ntmps123
   go_wp2_with (first|((with_reducible refine jd 3 rfl ?_);refine jX _ 27 ?_;intro aU hg bz hbox hb;have aa:=aM hbox;have bi:=kG hg;replace HB:=kH hb;clear hb hbox hg)|((with_reducible refine jd 4 rfl ?_);refine jX _ 118 ?_;intro aV hg bA hbox hb;have ae:=aM hbox;have bn:=kG hg;have ag:=kN hg aa;have ah:=kM hg aa;replace aa:=kB aa hb;replace HB:=kH hb;clear hb hbox hg)|((with_reducible refine jd 5 rfl ?_);refine jX _ 118 ?_;intro aW hg bB hbox hb;have af:=aM hbox;have bq:=kG hg;have aD:=kN hg aa;have aG:=kM hg aa;have ai:=kN hg ae;have aj:=kM hg ae;replace aa:=kB aa hb;replace ae:=kB ae hb;replace HB:=kH hb;clear hb hbox hg)|((with_reducible refine jd 6 rfl ?_);refine jX _ 118 ?_;intro aI hg aH hbox hb;have aC:=aM hbox;have bu:=kG hg;have au:=kN hg aa;have av:=kM hg aa;have ax:=kN hg ae;have ay:=kM hg ae;have az:=kN hg af;have aA:=kM hg af;replace aa:=kB aa hb;replace ae:=kB ae hb;replace af:=kB af hb;replace HB:=kH hb;clear hb hbox hg;have bC:=ah.out;have bD:=ag.out;have bE:=ai.out;have bF:=aj.out;have bG:=ax.out;have bH:=ay.out;have bI:=jz2 ae;have bJ:=aG.out;have bK:=aD.out;have bL:=az.out;have bM:=aA.out;have bN:=jz2 af;have bT:=au.out;have bU:=av.out;have bV:=jz5 aa)|((with_reducible refine jc 128 25 rfl rfl ?_);refine jG Tryz.func128 #[.int .i64 aJ,.int .i64 aK,.int .i64 aN] ?_;refine (Sad.calls _ _ _ _ _ _ _ (Aside0.out (by assumption))).mono ?_;rintro e w' ⟨rfl,⟨nd,rfl⟩⟩;refine⟨_,rfl,?_⟩;(try (rw [drewN_self aH];generalize hq_:World.drewN aH _=aH;have bX:Aside0 (aH.heap[aU]?=some (.cells #[.int .i64 aX,.int .i64 aY,.int .i64 aZ,.int .i64 bg,.int .i64 aJ] 27 (0,0))):=⟨by rw [<- hq_];exact (qK aa)⟩;have bY:Aside0 (aH.heap[aV]?=some (.cells #[.int .i64 aQ,.int .i64 aK] 118 (0,0))):=⟨by rw [<- hq_];exact (qK ae)⟩;have bZ:Aside0 (aH.heap[aW]?=some (.cells #[.int .i64 aT,.int .i64 aN] 118 (0,0))):=⟨by rw [<- hq_];exact (qK af)⟩;have cz:Aside0 (aH.heap[aI]?=some (.cells #[.int .i64 0,.int .i64 0] 118 (0,0))):=⟨by rw [<- hq_];exact (qK aC)⟩;have cB:Aside0 (Below w.heap.size w aH):=⟨by rw [<- hq_];exact qB⟩;clear aa ae af aC HB hq_;have aa:=bX;have ae:=bY;have af:=bZ;have aC:=cz;have HB:=cB;clear bX bY bZ cz cB));have df:=jz2 aC))
   refine bodyPost_ret (results_cell_row rfl _ _ aI 118 #[.int .i64 1,.int .i64 bS] (0,0) _ rfl (qF aC) Tryz.underlying118 rfl (by kernel_rfl)) rfl ?_
   exact⟨qW,qB⟩
  obtain⟨rfl,rfl⟩:=oJ2 H
  go_enter Tryz.func123,Tryz.ntmps123
  go_wp2_with (first|((with_reducible refine jd 3 rfl ?_);refine jX _ 27 ?_;intro aU hg bz hbox hb;have aa:=aM hbox;have bi:=kG hg;replace HB:=kH hb;clear hb hbox hg)|((with_reducible refine jd 4 rfl ?_);refine jX _ 118 ?_;intro aV hg bA hbox hb;have ae:=aM hbox;have bn:=kG hg;have ag:=kN hg aa;have ah:=kM hg aa;replace aa:=kB aa hb;replace HB:=kH hb;clear hb hbox hg)|((with_reducible refine jd 5 rfl ?_);refine jX _ 118 ?_;intro aW hg bB hbox hb;have af:=aM hbox;have bq:=kG hg;have aD:=kN hg aa;have aG:=kM hg aa;have ai:=kN hg ae;have aj:=kM hg ae;replace aa:=kB aa hb;replace ae:=kB ae hb;replace HB:=kH hb;clear hb hbox hg)|((with_reducible refine jd 6 rfl ?_);refine jX _ 118 ?_;intro aI hg aH hbox hb;have aC:=aM hbox;have bu:=kG hg;have au:=kN hg aa;have av:=kM hg aa;have ax:=kN hg ae;have ay:=kM hg ae;have az:=kN hg af;have aA:=kM hg af;replace aa:=kB aa hb;replace ae:=kB ae hb;replace af:=kB af hb;replace HB:=kH hb;clear hb hbox hg;have bC:=ah.out;have bD:=ag.out;have bE:=ai.out;have bF:=aj.out;have bG:=ax.out;have bH:=ay.out;have bI:=jz2 ae;have bJ:=aG.out;have bK:=aD.out;have bL:=az.out;have bM:=aA.out;have bN:=jz2 af;have bT:=av.out;have bU:=au.out;have bV:=jz2 aC))
  refine bodyPost_ret (results_cell_row rfl _ _ aI 118 #[.int .i64 2,.int .i64 0] (0,0) _ rfl (qF aC) Tryz.underlying118 rfl (by kernel_rfl)) rfl ?_
  exact⟨qW,qB⟩
 obtain⟨rfl,rfl⟩:=oJ2 H
 go_enter Tryz.func123,Tryz.ntmps123
 go_wp2_with (first|((with_reducible refine jd 3 rfl ?_);refine jX _ 27 ?_;intro aU hg bz hbox hb;have aa:=aM hbox;have bi:=kG hg;replace HB:=kH hb;clear hb hbox hg)|((with_reducible refine jd 4 rfl ?_);refine jX _ 118 ?_;intro aV hg bA hbox hb;have ae:=aM hbox;have bn:=kG hg;have ag:=kN hg aa;have ah:=kM hg aa;replace aa:=kB aa hb;replace HB:=kH hb;clear hb hbox hg)|((with_reducible refine jd 5 rfl ?_);refine jX _ 118 ?_;intro aW hg bB hbox hb;have af:=aM hbox;have bq:=kG hg;have aD:=kN hg aa;have aG:=kM hg aa;have ai:=kN hg ae;have aj:=kM hg ae;replace aa:=kB aa hb;replace ae:=kB ae hb;replace HB:=kH hb;clear hb hbox hg)|((with_reducible refine jd 6 rfl ?_);refine jX _ 118 ?_;intro aI hg aH hbox hb;have aC:=aM hbox;have bu:=kG hg;have au:=kN hg aa;have av:=kM hg aa;have ax:=kN hg ae;have ay:=kM hg ae;have az:=kN hg af;have aA:=kM hg af;replace aa:=kB aa hb;replace ae:=kB ae hb;replace af:=kB af hb;replace HB:=kH hb;clear hb hbox hg;have bC:=ah.out;have bD:=ag.out;have bE:=ai.out;have bF:=aj.out;have bG:=ax.out;have bH:=ay.out;have bI:=jz2 ae;have bJ:=av.out;have bK:=au.out;have bL:=aA.out;have bM:=az.out;have bN:=jz2 aC))
 refine bodyPost_ret (results_cell_row rfl _ _ aI 118 #[.int .i64 2,.int .i64 0] (0,0) _ rfl (qF aC) Tryz.underlying118 rfl (by kernel_rfl)) rfl ?_
 exact⟨qW,qB⟩
def SaZ.f (k:Nat) (ax ae ag aj av:Int) (l1:List (S118)):Option ((List (S118))):=(some (([]:List (S118)):List (S118))).bind fun aN=>(if aN.length+l1.length < 8796093022208 then ((some (aN ++ l1:List (S118))).bind fun ah=>(if ax=1 then (if 0<=ae then (if ae < (ah.length:Int) then (some (ah.set (ae:Int).toNat (⟨1,av⟩:S118))) else (none)) else (none)) else (if ax=2 then (if 0<=ag then (if ag < (l1.length:Int) then (if 0<=ae then (if ae < (ah.length:Int) then (some (ah.set (ae:Int).toNat (⟨(rd_T118 l1 ag).f0,(rd_T118 l1 ag).f1⟩:S118))) else (none)) else (none)) else (none)) else (none)) else (if ax=7 then (if 0<=ae then (if ae < (ah.length:Int) then (some (ah.set (ae:Int).toNat (⟨2,0⟩:S118))) else (none)) else (none)) else (if ax=3 then (if 0<=ag then (if ag < (l1.length:Int) then (if 0<=aj then (if aj < (l1.length:Int) then ((Sb7.f k ax ae ag aj av ((rd_T118 l1 ag).f0) ((rd_T118 l1 ag).f1) ((rd_T118 l1 aj).f0) ((rd_T118 l1 aj).f1)).bind fun bV=>(if 0<=ae then (if ae < (ah.length:Int) then (some (ah.set (ae:Int).toNat (⟨bV.1,bV.2⟩:S118))) else (none)) else (none))) else (none)) else (none)) else (none)) else (none)) else (some ah)))))) else (none))
def SaZ.T6:Bool × List (List Nat × List Nat):=(true,[([],[]),([],[]),([1],[1]),([],[]),([],[]),([4],[4]),([3,5],[3,5]),([6],[6]),([0,2,0,1,2,3,4,5,6,7],[0,2]),([8,7,0,1,2,3,4,5,6,7],[7,8])])
def SaZ.B6:List Nat:=[0,0,2,0,0,16,56,120,255,511]
theorem SaZ.tab6:rtab .any (opsOf Tryz.f121 6)=SaZ.T6:=by kernel_rfl
theorem SaZ.bits6:waitsOk SaZ.T6.2 SaZ.B6=true:=by kernel_rfl
def SaZ.T10:Bool × List (List Nat × List Nat):=(true,[([],[]),([],[]),([1],[1]),([],[]),([],[]),([],[]),([5],[5]),([4,6],[4,6]),([7],[7]),([],[]),([],[]),([10],[10]),([9,11],[9,11]),([12],[12]),([3,8,13],[3,8,13]),([0,2,0,1,2,3,4,5,6,7,8,9,10,11,12,13,14],[0,2]),([15,14,14,0,1,2,3,4,5,6,7,8,9,10,11,12,13,14],[14,15])])
def SaZ.B10:List Nat:=[0,0,2,0,0,0,32,112,240,0,0,1024,3584,7680,16376,32767,65535]
theorem SaZ.tab10:rtab .any (opsOf Tryz.f121 10)=SaZ.T10:=by kernel_rfl
theorem SaZ.bits10:waitsOk SaZ.T10.2 SaZ.B10=true:=by kernel_rfl
theorem SaZ.calls (k:Nat) (ax ae ag aj av:Int) (A1:Option Addr) (c1:Nat) (l1 r:List (S118)) (w:World) (hr1:Kd.C k118 w A1 l1.length l1) (hc1:l1.length<=c1) (h:SaZ.f k ax ae ag aj av l1=some r) :
  Calls Tryz.prog 121 #[.agg #[.int .i64 ax,.int .i64 ae,.int .i64 ag,.int .i64 aj,.int .i64 av],.slice A1 l1.length c1] w fun e w'=>∃ gN:Value,e = .returned (gN)/\Kd.R k118 118 w' w.heap.size (fun _=>True) gN r/\Below w.heap.size w w':=by
 have iG:=Tryz.underlying27
 have gP:=Tryz.underlying118
 have HR1:=aM hr1
 have jr:=aM hc1
 clear hr1 hc1
 have HB:=aM (Below.refl w.heap.size w)
 have H:=h;unfold SaZ.f at H
 clear h
 obtain⟨aN,ay⟩:=ky ((([]:List (S118))):List (S118))
 first|replace H:=kz ay H|rw [<- ay.out] at H
 replace H:=jL H;obtain⟨bi,H⟩:=H
 obtain⟨ah,aI⟩:=ky ((aN ++ l1):List (S118))
 first|replace H:=kz aI H|rw [<- aI.out] at H
 replace H:=jE H;rcases H with ⟨fF,fG,H⟩ | ⟨c4,fF,fG,H⟩
 ·replace H:=jI H;obtain⟨iH,H⟩:=H
  replace H:=jI H;obtain⟨iI,H⟩:=H
  obtain⟨fH,bn⟩:=ky ((ah.set (ae:Int).toNat (⟨1,av⟩:S118)):List (S118))
  first|replace H:=kz bn H|rw [<- bn.out] at H
  obtain rfl:=oJ H
  go_enter Tryz.func121,Tryz.ntmps121
  go_wp2_with (first|((with_reducible refine jd 2 rfl ?_);refine jX _ 27 ?_;intro ai hg w8 hbox hb;have aa:=aM hbox;have aU:=kG hg;have aK:=kG hg;replace HB:=kH hb;clear hb hbox hg)|((with_reducible refine jd 6 rfl ?_);refine jV k118 118 ([]:List (S118)) [] (Reps.none _ _) ?_;intro aQ w9 bq hb;(first|rw [<- ay.out] at bq|(simp only [Int.reduceToNat] at bq;rw [<- ay.out] at bq));have au:=kL bq;replace aa:=kB aa hb;replace HB:=kH hb;clear hb bq)|((with_reducible refine gate_builtin (b:=.append) (xs:=#[.tmp 6,.tmp 7]) rfl ?_);at_builtin;refine Kd.R_append_rows k118 (w0:=w) w.heap.size rfl (.tmp 6) (.tmp 7) 104 118 (.agg #[(.int .i64 0),(.int .i64 0)]) 16 rfl Tryz.underlying104 info118 rfl (by decide) (by omega) aQ aN l1 _ _ _ (fun _=>True) (fun _=>False) rfl rfl ?aO ?aR (fun _ _ h=>h) (fun _ h=>h.elim) ?aF ?aB ?aS ?aL ?_;(case aR=>exact kC (Kd.C_below HR1.out HB.out));(case aB=>exact qB);(case aF=>exact (fun _ _=>trivial));(case aO=>exact (qR au));(case aS=>exact (below_size qB));(case aL=>have:=bi.out;omega);intro bP cK ho hb hg hat;rw [<- aI.out] at ho;have af:=aM ho;replace aa:=aM (blk_grown (g:=ai) (o:=.cells #[.int .i64 ax,.int .i64 ae,.int .i64 ag,.int .i64 aj,.int .i64 av] 27 (0,0)) (qK aa) hg (Kd.R_ne au.out aa.out (by decide)));replace HB:=aM hb;clear au;clear ho hb hg hat;have iJ:=jz5 aa;have p7:0<=(ae:Int):=qD;have q7:(ae:Int) < ((ah.length:Int):Int):=qD;obtain⟨bQ,gQ,gT,gU,iK,jv,gV⟩:=Kd.R_form af.out (by omega);(first|cases gT|(injection gT with ea_ en_ ec_;(first|subst ea_|(injection ea_ with ea_;subst ea_));subst ec_;clear en_));have gW:=aM gU;have jw:=aM gV;clear gU iK gV;obtain⟨jy,fI,gX,cO,df⟩:=Kd.R_elem af.out z118 (ae:Int) p7 q7;obtain rfl:=k118_openM gX;have gY:cK.cell? ⟨bQ,(ae:Int).toNat*2,none⟩=some (.int .i64 ((rd_T118 ah ae).f0)):=cO 0 _ rfl;have gZ:cK.cell? ⟨bQ,(ae:Int).toNat*2+1,none⟩=some (.int .i64 ((rd_T118 ah ae).f1)):=cO 1 _ rfl;have ib:cK.frozen? ⟨bQ,(ae:Int).toNat*2,none⟩=false:=df 0;have ic:cK.frozen? ⟨bQ,(ae:Int).toNat*2+1,none⟩=false:=df 1;clear fI cO df gX;replace p7:=eq_true p7;replace q7:=eq_true q7;have dR:=aM (show Kd.R k118 118 cK w.heap.size (fun _=>True) (.slice (some ⟨bQ,0,none⟩) ah.length gQ) ah from (qR af));obtain⟨iL,bW,dS,aV,bu⟩:=Kd.R_elem dR.out z118 (ae:Int) (qD) (by have h_:(ae:Int) < ((ah.length:Int):Int):=qD;first|exact h_|(have e_:=(Kd.R_reads' af.out).1;omega)|simpa using h_);obtain rfl:=k118_openM dS;have dh:=Kd.R_seg dR.out (ae:Int) (qD) (by have h_:(ae:Int) < ((ah.length:Int):Int):=qD;first|exact h_|(have e_:=(Kd.R_reads' af.out).1;omega)|simpa using h_) (seg:=[.int .i64 1,.int .i64 av]) (j:=0) bW aV (show 2<=2 from by decide) (x':=(⟨1,av⟩:S118)) (k118_mkM _ _ _ (⟨1,av⟩:S118) ) (fun _ hk=>hk);have di:=aV 0 _ rfl;(try simp only [show (k118).sz=2 from rfl,Nat.mul_one,Nat.add_zero] at di);have dn:=bu 0;(try simp only [show (k118).sz=2 from rfl,Nat.mul_one,Nat.add_zero] at dn);have dw:=aV 1 _ rfl;(try simp only [show (k118).sz=2 from rfl,Nat.mul_one,Nat.add_zero] at dw);have dx:=bu 1;(try simp only [show (k118).sz=2 from rfl,Nat.mul_one,Nat.add_zero] at dx);clear bW aV bu dS)|((with_reducible refine gate_store (t:=118) (p:=19) rfl ?_);refine store_event (t:=118) (p:=19) (v:=?fJ) (w1:=((cK.setCell ⟨bQ,(ae:Int).toNat*2,none⟩ (.int .i64 1)).setCell ⟨bQ,(ae:Int).toNat*2+1,none⟩ (.int .i64 av))) ?hg ?ho ?hn ?hr ?_;(case ho=>rfl);(case hg=>rfl);(case hn=>rfl);(case hr=>first|(go_simp;done)|(go_simp;rfl));intro fK hw;have hg:cK.grownBy fK (some bQ):=(by rw [hw];exact dh.2);have hp_:Kd.R k118 118 fK w.heap.size (fun _=>True) (.slice (some ⟨bQ,0,none⟩) ah.length gQ) fH:=(by rw [hw,bn.out];exact dh.1);clear dh;replace aa:=aM (blk_grown (g:=ai) (o:=.cells #[.int .i64 ax,.int .i64 ae,.int .i64 ag,.int .i64 aj,.int .i64 av] 27 (0,0)) (qK aa) hg (Kd.R_ne af.out aa.out (by decide)));replace af:=aM hp_;replace HB:=aM ((by rw [hw];exact below_set (below_set (HB.out) gW.out) gW.out:Below w.heap.size w fK));clear hg hw hp_))
  go_ret
  exact⟨_,qW,qR af,qB⟩
 replace H:=jE H;rcases H with ⟨dU,dV,H⟩ | ⟨c15,dU,dV,H⟩
 ·replace H:=jI H;obtain⟨ig,H⟩:=H
  replace H:=jI H;obtain⟨ik,H⟩:=H
  replace H:=jI H;obtain⟨il,H⟩:=H
  replace H:=jI H;obtain⟨iq,H⟩:=H
  obtain⟨iM,bv⟩:=ky ((ah.set (ae:Int).toNat (⟨(rd_T118 l1 ag).f0,(rd_T118 l1 ag).f1⟩:S118)):List (S118))
  first|replace H:=kz bv H|rw [<- bv.out] at H
  obtain rfl:=oJ H
  go_enter Tryz.func121,Tryz.ntmps121
  try go_wp2_with (first|((with_reducible refine jd 2 rfl ?_);refine jX _ 27 ?_;intro ai hg jA hbox hb;have aa:=aM hbox;have aU:=kG hg;have aK:=kG hg;replace HB:=kH hb;clear hb hbox hg)|((with_reducible refine jd 6 rfl ?_);refine jV k118 118 ([]:List (S118)) [] (Reps.none _ _) ?_;intro aQ jH bz hb;(first|rw [<- ay.out] at bz|(simp only [Int.reduceToNat] at bz;rw [<- ay.out] at bz));have au:=kL bz;replace aa:=kB aa hb;replace HB:=kH hb;clear hb bz)|((with_reducible refine gate_builtin (b:=.append) (xs:=#[.tmp 6,.tmp 7]) rfl ?_);at_builtin;refine Kd.R_append_rows k118 (w0:=w) w.heap.size rfl (.tmp 6) (.tmp 7) 104 118 (.agg #[(.int .i64 0),(.int .i64 0)]) 16 rfl Tryz.underlying104 info118 rfl (by decide) (by omega) aQ aN l1 _ _ _ (fun _=>True) (fun _=>False) rfl rfl ?aO ?aR (fun _ _ h=>h) (fun _ h=>h.elim) ?aF ?aB ?aS ?aL ?_;(case aR=>exact kC (Kd.C_below HR1.out HB.out));(case aB=>exact qB);(case aF=>exact (fun _ _=>trivial));(case aO=>exact (qR au));(case aS=>exact (below_size qB));(case aL=>have:=bi.out;omega);intro bP iN ho hb hg hat;rw [<- aI.out] at ho;have af:=aM ho;replace aa:=aM (blk_grown (g:=ai) (o:=.cells #[.int .i64 ax,.int .i64 ae,.int .i64 ag,.int .i64 aj,.int .i64 av] 27 (0,0)) (qK aa) hg (Kd.R_ne au.out aa.out (by decide)));replace HB:=aM hb;clear au;clear ho hb hg hat;have iO:=jz5 aa))
  replace af:=aM (Kd.R_drew af.out)
  replace aa:=aM (blk_drew aa.out)
  replace HB:=aM (below_drew1 HB.out)
  have dz:0<=(ag:Int):=qD
  have dA:ag < (l1.length:Int):=qD
  obtain⟨bA,fM,az,aA⟩:=at_T118 HR1.out ag dz dA
  have bR:=aA
  have bS:=az
  cases fM
  replace az:=kx HB az
  replace aA:=kx HB aA
  replace dz:=eq_true dz
  replace dA:=eq_true dA
  have fO:0<=(ae:Int):=qD
  have fP:(ae:Int) < ((ah.length:Int):Int):=qD
  obtain⟨bT,iP,dW,dX,fQ,iQ,dY⟩:=Kd.R_form af.out (by omega)
  (first|cases dW|(injection dW with ea_ en_ ec_;(first|subst ea_|(injection ea_ with ea_;subst ea_));subst ec_;clear en_))
  have dZ:=aM dX
  have fT:=aM dY
  clear dX fQ dY
  obtain⟨iR,d9,ed,bB,bC⟩:=Kd.R_elem af.out z118 (ae:Int) fO fP
  obtain rfl:=k118_openM ed
  have dB:World.cell? _ ⟨bT,(ae:Int).toNat*2,none⟩=some (.int .i64 ((rd_T118 ah ae).f0)):=bB 0 _ rfl
  have dC:World.cell? _ ⟨bT,(ae:Int).toNat*2+1,none⟩=some (.int .i64 ((rd_T118 ah ae).f1)):=bB 1 _ rfl
  have dD:World.frozen? _ ⟨bT,(ae:Int).toNat*2,none⟩=false:=bC 0
  have dE:World.frozen? _ ⟨bT,(ae:Int).toNat*2+1,none⟩=false:=bC 1
  clear d9 bB bC ed
  replace fO:=eq_true fO
  replace fP:=eq_true fP
  obtain⟨iT,bX,ek,bY,eu⟩:=Kd.R_elem af.out z118 (ae:Int) (qD) (by have h_:(ae:Int) < ((ah.length:Int):Int):=qD;first|exact h_|(have e_:=(Kd.R_reads' af.out).1;omega)|simpa using h_)
  obtain rfl:=k118_openM ek
  have dF:=(Kd.R_seg af.out (ae:Int) (qD) (by have h_:(ae:Int) < ((ah.length:Int):Int):=qD;first|exact h_|(have e_:=(Kd.R_reads' af.out).1;omega)|simpa using h_) (seg:=[.int .i64 ((rd_T118 l1 ag).f0),.int .i64 ((rd_T118 l1 ag).f1)]) (j:=0) bX bY (show 2<=2 from by decide) (x':=(⟨(rd_T118 l1 ag).f0,(rd_T118 l1 ag).f1⟩:S118)) (k118_mkM _ _ _ (⟨(rd_T118 l1 ag).f0,(rd_T118 l1 ag).f1⟩:S118) ) (fun _ hk=>hk)).1
  rw [<- bv.out] at dF
  have eB:=aM dF
  clear bX bY eu ek dF
  refine start_ (n:=10) (S:=fun w'=>w'.cell? ⟨ai,0,none⟩=some (.int .i64 ax)/\w'.cell? ⟨ai,1,none⟩=some (.int .i64 ae)/\w'.cell? ⟨ai,2,none⟩=some (.int .i64 ag)/\w'.cell? ⟨ai,3,none⟩=some (.int .i64 aj)/\w'.cell? ⟨ai,4,none⟩=some (.int .i64 av)/\w'.cell? (bA.add ((ag).toNat*2))=some (.int .i64 ((rd_T118 l1 ag).f0))/\w'.cell? ⟨(bA.add ((ag).toNat*2)).block,(bA.add ((ag).toNat*2)).off+1,none⟩=some (.int .i64 ((rd_T118 l1 ag).f1))) (ds:=[9]) (jb 10 0) (by kernel_rfl) rfl rfl ⟨(blk_cell aa.out 0).trans rfl,(blk_cell aa.out 1).trans rfl,(blk_cell aa.out 2).trans rfl,(blk_cell aa.out 3).trans rfl,(blk_cell aa.out 4).trans rfl,(kx HB bS),(kx HB bR)⟩ (fun hHeld=>?_);refine with_tabW SaZ.tab6 SaZ.bits6 (fun HT_ HW_=>?_)
  generalize iN.drew=jK at af aa HB fT eB dD dE dB dC az aA hHeld ⊢
  refine jp 0 22 (jb 10 1) ?_
  refine jp 1 23 (jb 10 3) ?_
  refine jp 3 25 (jb 10 11) ?_
  refine jp 4 26 (jb 10 27) ?_
  refine jt 2 24 (jb 10 31) ?_
  refine jt 5 27 (jb 10 63) ?_
  refine jp 6 28 (jb 10 127) ?_
  refine jt 7 29 (jb 10 255) ?_
  refine jp 8 30 (jb 10 511) ?_
  refine last_ (i:=9) (N:=none) (jb 10 1023) rfl rfl (one_of HT_.out (by kernel_rfl)) (by decide) (fun K hK=>?_)
  refine skip_ (w1:=?_) (by rfl) rfl ?_ ?_
  rotate_left
  ·go_simp
   rfl
  refine hK.out _ _ ?_
  clear hK K
  refine done_ (done_of HT_.out (by kernel_rfl)) ?_
  try go_wp2
  go_ret
  exact⟨_,qW,by (with_reducible repeat (first|apply Kd.R_alloc|apply Kd.R_drewN|apply Kd.R_drew));exact eB.out,by repeat (first|(with_reducible first|exact HB.out|apply below_alloc|apply pw_below_drewN|apply below_drew1|refine below_set ?_ dZ.out|refine below_set ?_ dZ.out|refine below_set ?_ aK.out)|exact HB.out)⟩
 replace H:=jE H;rcases H with ⟨eD,eF,H⟩ | ⟨c28,eD,eF,H⟩
 ·replace H:=jI H;obtain⟨iw,H⟩:=H
  replace H:=jI H;obtain⟨iy,H⟩:=H
  obtain⟨fU,bD⟩:=ky ((ah.set (ae:Int).toNat (⟨2,0⟩:S118)):List (S118))
  first|replace H:=kz bD H|rw [<- bD.out] at H
  obtain rfl:=oJ H
  go_enter Tryz.func121,Tryz.ntmps121
  go_wp2_with (first|((with_reducible refine jd 2 rfl ?_);refine jX _ 27 ?_;intro ai hg w32 hbox hb;have aa:=aM hbox;have aU:=kG hg;have aK:=kG hg;replace HB:=kH hb;clear hb hbox hg)|((with_reducible refine jd 6 rfl ?_);refine jV k118 118 ([]:List (S118)) [] (Reps.none _ _) ?_;intro aQ jM bE hb;(first|rw [<- ay.out] at bE|(simp only [Int.reduceToNat] at bE;rw [<- ay.out] at bE));have au:=kL bE;replace aa:=kB aa hb;replace HB:=kH hb;clear hb bE)|((with_reducible refine gate_builtin (b:=.append) (xs:=#[.tmp 6,.tmp 7]) rfl ?_);at_builtin;refine Kd.R_append_rows k118 (w0:=w) w.heap.size rfl (.tmp 6) (.tmp 7) 104 118 (.agg #[(.int .i64 0),(.int .i64 0)]) 16 rfl Tryz.underlying104 info118 rfl (by decide) (by omega) aQ aN l1 _ _ _ (fun _=>True) (fun _=>False) rfl rfl ?aO ?aR (fun _ _ h=>h) (fun _ h=>h.elim) ?aF ?aB ?aS ?aL ?_;(case aR=>exact kC (Kd.C_below HR1.out HB.out));(case aB=>exact qB);(case aF=>exact (fun _ _=>trivial));(case aO=>exact (qR au));(case aS=>exact (below_size qB));(case aL=>have:=bi.out;omega);intro bP dG ho hb hg hat;rw [<- aI.out] at ho;have af:=aM ho;replace aa:=aM (blk_grown (g:=ai) (o:=.cells #[.int .i64 ax,.int .i64 ae,.int .i64 ag,.int .i64 aj,.int .i64 av] 27 (0,0)) (qK aa) hg (Kd.R_ne au.out aa.out (by decide)));replace HB:=aM hb;clear au;clear ho hb hg hat;have iU:=jz5 aa;have p31:0<=(ae:Int):=qD;have fV:(ae:Int) < ((ah.length:Int):Int):=qD;obtain⟨aT,eG,eH,eO,fZ,iV,eP⟩:=Kd.R_form af.out (by omega);(first|cases eH|(injection eH with ea_ en_ ec_;(first|subst ea_|(injection ea_ with ea_;subst ea_));subst ec_;clear en_));have eQ:=aM eO;have iW:=aM eP;clear eO fZ eP;obtain⟨iX,eT,eU,bF,bG⟩:=Kd.R_elem af.out z118 (ae:Int) p31 fV;obtain rfl:=k118_openM eU;have gm:dG.cell? ⟨aT,(ae:Int).toNat*2,none⟩=some (.int .i64 ((rd_T118 ah ae).f0)):=bF 0 _ rfl;have gp:dG.cell? ⟨aT,(ae:Int).toNat*2+1,none⟩=some (.int .i64 ((rd_T118 ah ae).f1)):=bF 1 _ rfl;have gq:dG.frozen? ⟨aT,(ae:Int).toNat*2,none⟩=false:=bG 0;have gu:dG.frozen? ⟨aT,(ae:Int).toNat*2+1,none⟩=false:=bG 1;clear eT bF bG eU;replace p31:=eq_true p31;replace fV:=eq_true fV;have eX:=aM (show Kd.R k118 118 dG w.heap.size (fun _=>True) (.slice (some ⟨aT,0,none⟩) ah.length eG) ah from (qR af));obtain⟨iY,bZ,eY,aW,bH⟩:=Kd.R_elem eX.out z118 (ae:Int) (qD) (by have h_:(ae:Int) < ((ah.length:Int):Int):=qD;first|exact h_|(have e_:=(Kd.R_reads' af.out).1;omega)|simpa using h_);obtain rfl:=k118_openM eY;have dH:=Kd.R_seg eX.out (ae:Int) (qD) (by have h_:(ae:Int) < ((ah.length:Int):Int):=qD;first|exact h_|(have e_:=(Kd.R_reads' af.out).1;omega)|simpa using h_) (seg:=[.int .i64 2,.int .i64 0]) (j:=0) bZ aW (show 2<=2 from by decide) (x':=(⟨2,0⟩:S118)) (k118_mkM _ _ _ (⟨2,0⟩:S118) ) (fun _ hk=>hk);have dI:=aW 0 _ rfl;(try simp only [show (k118).sz=2 from rfl,Nat.mul_one,Nat.add_zero] at dI);have dJ:=bH 0;(try simp only [show (k118).sz=2 from rfl,Nat.mul_one,Nat.add_zero] at dJ);have dK:=aW 1 _ rfl;(try simp only [show (k118).sz=2 from rfl,Nat.mul_one,Nat.add_zero] at dK);have dL:=bH 1;(try simp only [show (k118).sz=2 from rfl,Nat.mul_one,Nat.add_zero] at dL);clear bZ aW bH eY)|((with_reducible refine gate_store (t:=118) (p:=37) rfl ?_);refine store_event (t:=118) (p:=37) (v:=?gz) (w1:=((dG.setCell ⟨aT,(ae:Int).toNat*2,none⟩ (.int .i64 2)).setCell ⟨aT,(ae:Int).toNat*2+1,none⟩ (.int .i64 0))) ?hg ?ho ?hn ?hr ?_;(case ho=>rfl);(case hg=>rfl);(case hn=>rfl);(case hr=>first|(go_simp;done)|(go_simp;rfl));intro gB hw;have hg:dG.grownBy gB (some aT):=(by rw [hw];exact dH.2);have hp_:Kd.R k118 118 gB w.heap.size (fun _=>True) (.slice (some ⟨aT,0,none⟩) ah.length eG) fU:=(by rw [hw,bD.out];exact dH.1);clear dH;replace aa:=aM (blk_grown (g:=ai) (o:=.cells #[.int .i64 ax,.int .i64 ae,.int .i64 ag,.int .i64 aj,.int .i64 av] 27 (0,0)) (qK aa) hg (Kd.R_ne af.out aa.out (by decide)));replace af:=aM hp_;replace HB:=aM ((by rw [hw];exact below_set (below_set (HB.out) eQ.out) eQ.out:Below w.heap.size w gB));clear hg hw hp_))
  go_ret
  exact⟨_,qW,qR af,qB⟩
 replace H:=jE H;rcases H with ⟨eZ,fe,H⟩ | ⟨jN,eZ,fe,H⟩
 ·replace H:=jI H;obtain⟨iA,H⟩:=H
  replace H:=jI H;obtain⟨iB,H⟩:=H
  replace H:=jI H;obtain⟨iC,H⟩:=H
  replace H:=jI H;obtain⟨iD,H⟩:=H
  obtain⟨⟨bI,bJ⟩,iZ,H⟩:=qE H
  try dsimp only at H
  replace H:=jI H;obtain⟨iE,H⟩:=H
  replace H:=jI H;obtain⟨iF,H⟩:=H
  obtain⟨ja,bK⟩:=ky ((ah.set (ae:Int).toNat (⟨bI,bJ⟩:S118)):List (S118))
  first|replace H:=kz bK H|rw [<- bK.out] at H
  obtain rfl:=oJ H
  go_enter Tryz.func121,Tryz.ntmps121
  try go_wp2_with (first|((with_reducible refine jd 2 rfl ?_);refine jX _ 27 ?_;intro ai hg jO hbox hb;have aa:=aM hbox;have aU:=kG hg;have aK:=kG hg;replace HB:=kH hb;clear hb hbox hg)|((with_reducible refine jd 6 rfl ?_);refine jV k118 118 ([]:List (S118)) [] (Reps.none _ _) ?_;intro aQ jQ bL hb;(first|rw [<- ay.out] at bL|(simp only [Int.reduceToNat] at bL;rw [<- ay.out] at bL));have au:=kL bL;replace aa:=kB aa hb;replace HB:=kH hb;clear hb bL)|((with_reducible refine gate_builtin (b:=.append) (xs:=#[.tmp 6,.tmp 7]) rfl ?_);at_builtin;refine Kd.R_append_rows k118 (w0:=w) w.heap.size rfl (.tmp 6) (.tmp 7) 104 118 (.agg #[(.int .i64 0),(.int .i64 0)]) 16 rfl Tryz.underlying104 info118 rfl (by decide) (by omega) aQ aN l1 _ _ _ (fun _=>True) (fun _=>False) rfl rfl ?aO ?aR (fun _ _ h=>h) (fun _ h=>h.elim) ?aF ?aB ?aS ?aL ?_;(case aR=>exact kC (Kd.C_below HR1.out HB.out));(case aB=>exact qB);(case aF=>exact (fun _ _=>trivial));(case aO=>exact (qR au));(case aS=>exact (below_size qB));(case aL=>have:=bi.out;omega);intro bP je ho hb hg hat;rw [<- aI.out] at ho;have af:=aM ho;replace aa:=aM (blk_grown (g:=ai) (o:=.cells #[.int .i64 ax,.int .i64 ae,.int .i64 ag,.int .i64 aj,.int .i64 av] 27 (0,0)) (qK aa) hg (Kd.R_ne au.out aa.out (by decide)));replace HB:=aM hb;clear au;clear ho hb hg hat;have jf:=jz5 aa))
  replace af:=aM (Kd.R_drew af.out)
  replace aa:=aM (blk_drew aa.out)
  replace HB:=aM (below_drew1 HB.out)
  have dM:0<=(ag:Int):=qD
  have dN:ag < (l1.length:Int):=qD
  obtain⟨aJ,gD,aC,aD⟩:=at_T118 HR1.out ag dM dN
  have aX:=aD
  have aY:=aC
  cases gD
  replace aC:=kx HB aC
  replace aD:=kx HB aD
  replace dM:=eq_true dM
  replace dN:=eq_true dN
  have dO:0<=(aj:Int):=qD
  have dP:aj < (l1.length:Int):=qD
  obtain⟨fo,gF,aG,aH⟩:=at_T118 HR1.out aj dO dP
  have aZ:=aH
  have bg:=aG
  obtain rfl:aJ=fo:=(by injection gF)
  replace aG:=kx HB aG
  replace aH:=kx HB aH
  replace dO:=eq_true dO
  replace dP:=eq_true dP
  refine start_ (n:=17) (S:=fun w'=>w'.cell? ⟨ai,0,none⟩=some (.int .i64 ax)/\w'.cell? ⟨ai,1,none⟩=some (.int .i64 ae)/\w'.cell? ⟨ai,2,none⟩=some (.int .i64 ag)/\w'.cell? ⟨ai,3,none⟩=some (.int .i64 aj)/\w'.cell? ⟨ai,4,none⟩=some (.int .i64 av)/\w'.cell? (aJ.add ((ag).toNat*2))=some (.int .i64 ((rd_T118 l1 ag).f0))/\w'.cell? ⟨(aJ.add ((ag).toNat*2)).block,(aJ.add ((ag).toNat*2)).off+1,none⟩=some (.int .i64 ((rd_T118 l1 ag).f1))/\w'.cell? (aJ.add ((aj).toNat*2))=some (.int .i64 ((rd_T118 l1 aj).f0))/\w'.cell? ⟨(aJ.add ((aj).toNat*2)).block,(aJ.add ((aj).toNat*2)).off+1,none⟩=some (.int .i64 ((rd_T118 l1 aj).f1))) (ds:=[16]) (jb 17 0) (by kernel_rfl) rfl rfl ⟨(blk_cell aa.out 0).trans rfl,(blk_cell aa.out 1).trans rfl,(blk_cell aa.out 2).trans rfl,(blk_cell aa.out 3).trans rfl,(blk_cell aa.out 4).trans rfl,(kx HB aY),(kx HB aX),(kx HB bg),(kx HB aZ)⟩ (fun hHeld=>?_);refine with_tabW SaZ.tab10 SaZ.bits10 (fun HT_ HW_=>?_)
  generalize je.drew=jS at af aa HB aC aD aG aH hHeld ⊢
  refine jp 0 40 (jb 17 1) ?_
  refine jp 1 41 (jb 17 3) ?_
  refine jp 4 44 (jb 17 19) ?_
  refine jp 5 45 (jb 17 51) ?_
  refine jp 9 49 (jb 17 563) ?_
  refine jp 10 50 (jb 17 1587) ?_
  refine jt 2 42 (jb 17 1591) ?_
  refine jt 3 43 (jb 17 1599) ?_
  refine jt 6 46 (jb 17 1663) ?_
  refine jp 7 47 (jb 17 1791) ?_
  refine jt 8 48 (jb 17 2047) ?_
  refine jt 11 51 (jb 17 4095) ?_
  refine jp 12 52 (jb 17 8191) ?_
  refine jt 13 53 (jb 17 16383) ?_
  refine one_ (i:=14) (N:=some 54) (jb 17 32767) rfl rfl (one_of HT_.out (by kernel_rfl)) (by decide) (fun K hK=>?_)
  refine goes_ Tryz.func123 (by kernel_rfl) rfl #[.agg #[.int .i64 ax,.int .i64 ae,.int .i64 ag,.int .i64 aj,.int .i64 av],.agg #[.int .i64 ((rd_T118 l1 ag).f0),.int .i64 ((rd_T118 l1 ag).f1)],.agg #[.int .i64 ((rd_T118 l1 aj).f0),.int .i64 ((rd_T118 l1 aj).f1)]] (by rfl) rfl rfl qM ?_
  with_reducible refine (Sb7.calls k ax ae ag aj av ((rd_T118 l1 ag).f0) ((rd_T118 l1 ag).f1) ((rd_T118 l1 aj).f0) ((rd_T118 l1 aj).f1) bI bJ _ iZ.out).mono ?_
  rintro e jT ⟨rfl,hb⟩
  refine⟨_,rfl,?_⟩
  replace af:=kR af hb
  replace aa:=kB aa hb
  replace HB:=kH hb
  (try clear hb)
  (try clear hb2)
  (try clear hk)
  (try clear hi)
  have p47:0<=(ae:Int):=qD
  have gG:(ae:Int) < ((ah.length:Int):Int):=qD
  obtain⟨bU,jg,fq,fu,gH,jh,fw⟩:=Kd.R_form af.out (by omega)
  (first|cases fq|(injection fq with ea_ en_ ec_;(first|subst ea_|(injection ea_ with ea_;subst ea_));subst ec_;clear en_))
  have fA:=aM fu
  have jk:=aM fw
  clear fu gH fw
  obtain⟨jl,fB,fC,bM,bN⟩:=Kd.R_elem af.out z118 (ae:Int) p47 gG
  obtain rfl:=k118_openM fC
  have gI:World.cell? _ ⟨bU,(ae:Int).toNat*2,none⟩=some (.int .i64 ((rd_T118 ah ae).f0)):=bM 0 _ rfl
  have gJ:World.cell? _ ⟨bU,(ae:Int).toNat*2+1,none⟩=some (.int .i64 ((rd_T118 ah ae).f1)):=bM 1 _ rfl
  have gK:World.frozen? _ ⟨bU,(ae:Int).toNat*2,none⟩=false:=bN 0
  have gL:World.frozen? _ ⟨bU,(ae:Int).toNat*2+1,none⟩=false:=bN 1
  clear fB bM bN fC
  replace p47:=eq_true p47
  replace gG:=eq_true gG
  obtain⟨jm,cz,fD,cB,fE⟩:=Kd.R_elem af.out z118 (ae:Int) (qD) (by have h_:(ae:Int) < ((ah.length:Int):Int):=qD;first|exact h_|(have e_:=(Kd.R_reads' af.out).1;omega)|simpa using h_)
  obtain rfl:=k118_openM fD
  have dQ:=(Kd.R_seg af.out (ae:Int) (qD) (by have h_:(ae:Int) < ((ah.length:Int):Int):=qD;first|exact h_|(have e_:=(Kd.R_reads' af.out).1;omega)|simpa using h_) (seg:=[.int .i64 bI,.int .i64 bJ]) (j:=0) cz cB (show 2<=2 from by decide) (x':=(⟨bI,bJ⟩:S118)) (k118_mkM _ _ _ (⟨bI,bJ⟩:S118) ) (fun _ hk=>hk)).1
  rw [<- bK.out] at dQ
  have gM:=aM dQ
  clear cz cB fE fD dQ
  refine hK.out _ _ ⟨(blk_cell aa.out 0).trans rfl,(blk_cell aa.out 1).trans rfl,(blk_cell aa.out 2).trans rfl,(blk_cell aa.out 3).trans rfl,(blk_cell aa.out 4).trans rfl,(kx HB aY),(kx HB aX),(kx HB bg),(kx HB aZ)⟩ (fun hHeld=>?_)
  clear hK K
  refine norm_ (a':=?_) ?_ ?_
  rotate_left
  ·show Act.put _ (some 54) _=_
   simp only [Act.put,List.setIfInBounds_toArray,List.set_cons_zero,List.set_cons_succ,i64_w,i32_w]
   rfl
  refine jp 15 55 (jb 17 65535) ?_
  refine last_ (i:=16) (N:=none) (jb 17 131071) rfl rfl (one_of HT_.out (by kernel_rfl)) (by decide) (fun K hK=>?_)
  refine skip_ (w1:=?_) (by rfl) rfl ?_ ?_
  rotate_left
  ·go_simp
   rfl
  refine hK.out _ _ ?_
  clear hK K
  refine done_ (done_of HT_.out (by kernel_rfl)) ?_
  try go_wp2
  go_ret
  exact⟨_,qW,by (with_reducible repeat (first|apply Kd.R_alloc|apply Kd.R_drewN|apply Kd.R_drew));exact gM.out,by repeat (first|(with_reducible first|exact HB.out|apply below_alloc|apply pw_below_drewN|apply below_drew1|refine below_set ?_ fA.out|refine below_set ?_ fA.out|refine below_set ?_ aK.out)|exact HB.out)⟩
 obtain rfl:=oJ H
 go_enter Tryz.func121,Tryz.ntmps121
 go_wp2_with (first|((with_reducible refine jd 2 rfl ?_);refine jX _ 27 ?_;intro ai hg jW hbox hb;have aa:=aM hbox;have aU:=kG hg;have aK:=kG hg;replace HB:=kH hb;clear hb hbox hg)|((with_reducible refine jd 6 rfl ?_);refine jV k118 118 ([]:List (S118)) [] (Reps.none _ _) ?_;intro aQ jY bO hb;(first|rw [<- ay.out] at bO|(simp only [Int.reduceToNat] at bO;rw [<- ay.out] at bO));have au:=kL bO;replace aa:=kB aa hb;replace HB:=kH hb;clear hb bO)|((with_reducible refine gate_builtin (b:=.append) (xs:=#[.tmp 6,.tmp 7]) rfl ?_);at_builtin;refine Kd.R_append_rows k118 (w0:=w) w.heap.size rfl (.tmp 6) (.tmp 7) 104 118 (.agg #[(.int .i64 0),(.int .i64 0)]) 16 rfl Tryz.underlying104 info118 rfl (by decide) (by omega) aQ aN l1 _ _ _ (fun _=>True) (fun _=>False) rfl rfl ?aO ?aR (fun _ _ h=>h) (fun _ h=>h.elim) ?aF ?aB ?aS ?aL ?_;(case aR=>exact kC (Kd.C_below HR1.out HB.out));(case aB=>exact qB);(case aF=>exact (fun _ _=>trivial));(case aO=>exact (qR au));(case aS=>exact (below_size qB));(case aL=>have:=bi.out;omega);intro bP jZ ho hb hg hat;rw [<- aI.out] at ho;have af:=aM ho;replace aa:=aM (blk_grown (g:=ai) (o:=.cells #[.int .i64 ax,.int .i64 ae,.int .i64 ag,.int .i64 aj,.int .i64 av] 27 (0,0)) (qK aa) hg (Kd.R_ne au.out aa.out (by decide)));replace HB:=aM hb;clear au;clear ho hb hg hat;have jo:=jz5 aa))
 go_ret
 exact⟨_,qW,qR af,qB⟩
theorem eqA118 (d:Nat) (w:World) (x0 y0 x1 y1:Int) :
  (Op.equalIn (d+2) 118 (.agg #[.int .i64 x0,.int .i64 x1]) (.agg #[.int .i64 y0,.int .i64 y1])).run Tryz.prog w = .ok (x0 == y0 && (x1 == y1)) w:=by
 refine eqA_of Tryz.underlying118 (by kernel_rfl) ?_
 refine eqf_cons (by rfl) (by go_simp;rfl) (by go_simp;rfl) (by go_simp) ?_
 exact eqf_last (by rfl) (by go_simp;rfl) (by go_simp;rfl) (by go_simp)
attribute [local go_sem high] eqA118
def Sb6.f (av ax ay az:Int):Option (Int × Int):=if av=0 then (some (ay,az)) else (if ay=0 then (some (av,ax)) else (if (av == ay && (ax == az))=true then (some (av,ax)) else (some (2,0))))
theorem Sb6_0 {G:Prop} (h:G:=by
  go_enter Tryz.func127,Tryz.ntmps127
  go_wp2_with (first|((with_reducible refine jd 2 rfl ?_);refine jX _ 118 ?_;intro aD hg aK hbox hb;have aa:=aM hbox;have aG:=kG hg;replace HB:=kH hb;clear hb hbox hg)|((with_reducible refine jd 3 rfl ?_);refine jX _ 118 ?_;intro aH hg aN hbox hb;have ae:=aM hbox;have aI:=kG hg;have af:=kN hg aa;have ag:=kM hg aa;replace aa:=kB aa hb;replace HB:=kH hb;clear hb hbox hg)|((with_reducible refine jd 4 rfl ?_);refine jX _ 118 ?_;intro aC hg aQ hbox hb;have aA:=aM hbox;have aJ:=kG hg;have ah:=kN hg aa;have ai:=kM hg aa;have aj:=kN hg ae;have au:=kM hg ae;replace aa:=kB aa hb;replace ae:=kB ae hb;replace HB:=kH hb;clear hb hbox hg;have aT:=af.out;have aU:=ag.out;have aV:=ah.out;have aW:=ai.out;have aX:=jz2 aa;have aY:=aj.out;have aZ:=au.out;have bg:=jz2 ae;have bi:=jz2 aA))
  refine bodyPost_ret (results_cell_row rfl _ _ aC 118 #[.int .i64 av,.int .i64 ax] (0,0) _ rfl (qF aA) Tryz.underlying118 rfl (by kernel_rfl)) rfl ?_
  exact⟨qW,qB⟩):G:=h
theorem Sb6.calls (av ax ay az r1 r2:Int) (w:World) (h:Sb6.f av ax ay az=some (r1,r2)) :
  Calls Tryz.prog 127 #[.agg #[.int .i64 av,.int .i64 ax],.agg #[.int .i64 ay,.int .i64 az]] w fun e w'=>e = .returned (.agg #[.int .i64 r1,.int .i64 r2])/\Below w.heap.size w w':=by
 have bC:=Tryz.underlying118
 have HB:=aM (Below.refl w.heap.size w)
 have H:=h;unfold Sb6.f at H
 clear h
 replace H:=jE H;rcases H with ⟨bA,bB,H⟩ | ⟨c3,bA,bB,H⟩
 ·obtain⟨rfl,rfl⟩:=oJ2 H
  go_enter Tryz.func127,Tryz.ntmps127
  go_wp2_with (first|((with_reducible refine jd 2 rfl ?_);refine jX _ 118 ?_;intro aD hg aK hbox hb;have aa:=aM hbox;have aG:=kG hg;replace HB:=kH hb;clear hb hbox hg)|((with_reducible refine jd 3 rfl ?_);refine jX _ 118 ?_;intro aH hg aN hbox hb;have ae:=aM hbox;have aI:=kG hg;have af:=kN hg aa;have ag:=kM hg aa;replace aa:=kB aa hb;replace HB:=kH hb;clear hb hbox hg)|((with_reducible refine jd 4 rfl ?_);refine jX _ 118 ?_;intro aC hg aQ hbox hb;have aA:=aM hbox;have aJ:=kG hg;have ah:=kN hg aa;have ai:=kM hg aa;have aj:=kN hg ae;have au:=kM hg ae;replace aa:=kB aa hb;replace ae:=kB ae hb;replace HB:=kH hb;clear hb hbox hg;have aT:=af.out;have aU:=ag.out;have aV:=ah.out;have aW:=ai.out;have aX:=jz2 aa;have aY:=aj.out;have aZ:=au.out;have bg:=jz2 ae;have bi:=jz2 aA))
  refine bodyPost_ret (results_cell_row rfl _ _ aC 118 #[.int .i64 ay,.int .i64 az] (0,0) _ rfl (qF aA) Tryz.underlying118 rfl (by kernel_rfl)) rfl ?_
  exact⟨qW,qB⟩
 replace H:=jE H;rcases H with ⟨bn,bq,H⟩ | ⟨c13,bn,bq,H⟩
 ·obtain⟨rfl,rfl⟩:=oJ2 H
  exact Sb6_0
 by_cases c23:(av == ay && (ax == az))=true
 ·rw [if_pos c23] at H
  have bu:(av == ay && (ax == az))=true:=c23
  (try (have bv:decide (av=ay && (ax == az))=true:=by simpa using c23))
  (try (have bz:(av == ay && (ax == az))=true:=by simpa using c23))
  clear c23
  obtain⟨rfl,rfl⟩:=oJ2 H
  exact Sb6_0
 rw [if_neg c23] at H
 have bu:(av == ay && (ax == az))=false:=by simpa using c23
 (try (have bv:decide (av=ay && (ax == az))=false:=by simpa using c23))
 (try (have bz:(av == ay && (ax == az))=false:=by simpa using c23))
 (try (have bD:¬ (av=ay && (ax == az)):=by simpa using c23))
 clear c23
 obtain⟨rfl,rfl⟩:=oJ2 H
 go_enter Tryz.func127,Tryz.ntmps127
 go_wp2_with (first|((with_reducible refine jd 2 rfl ?_);refine jX _ 118 ?_;intro aD hg aK hbox hb;have aa:=aM hbox;have aG:=kG hg;replace HB:=kH hb;clear hb hbox hg)|((with_reducible refine jd 3 rfl ?_);refine jX _ 118 ?_;intro aH hg aN hbox hb;have ae:=aM hbox;have aI:=kG hg;have af:=kN hg aa;have ag:=kM hg aa;replace aa:=kB aa hb;replace HB:=kH hb;clear hb hbox hg)|((with_reducible refine jd 4 rfl ?_);refine jX _ 118 ?_;intro aC hg aQ hbox hb;have aA:=aM hbox;have aJ:=kG hg;have ah:=kN hg aa;have ai:=kM hg aa;have aj:=kN hg ae;have au:=kM hg ae;replace aa:=kB aa hb;replace ae:=kB ae hb;replace HB:=kH hb;clear hb hbox hg;have aT:=af.out;have aU:=ag.out;have aV:=ah.out;have aW:=ai.out;have aX:=jz2 aa;have aY:=aj.out;have aZ:=au.out;have bg:=jz2 ae;have bi:=jz2 aA))
 refine bodyPost_ret (results_cell_row rfl _ _ aC 118 #[.int .i64 2,.int .i64 0] (0,0) _ rfl (qF aA) Tryz.underlying118 rfl (by kernel_rfl)) rfl ?_
 exact⟨qW,qB⟩
attribute [local go_sem high] eqA118
def Sb2.l0:Nat->List (List (S118))->Int->List (S118)->Bool->Int->Option (Bool × (List (List (S118))))
 | 0,_,_,_,_,_=>none
 | k+1,x0,x1,x2,x7,x8=>if x8 < 12 then (if 0<=x1 then (if x1 < (x0.length:Int) then (if 0<=x8 then (if x8 < ((rd_L8 x0 x1).length:Int) then (if x8 < (x2.length:Int) then ((Sb6.f ((rd_T118 (rd_L8 x0 x1) x8).f0) ((rd_T118 (rd_L8 x0 x1) x8).f1) ((rd_T118 x2 x8).f0) ((rd_T118 x2 x8).f1)).bind fun bE=>(if (!(bE.1 == ((rd_T118 (rd_L8 x0 x1) x8).f0)) || (!(bE.2 == ((rd_T118 (rd_L8 x0 x1) x8).f1))))=true then (Sb2.l0 k (x0.set (x1:Int).toNat ((rd_L8 x0 x1).set (x8:Int).toNat (⟨bE.1,bE.2⟩:S118))) x1 x2 true (wrap64 (x8+1))) else (Sb2.l0 k x0 x1 x2 x7 (wrap64 (x8+1))))) else (none)) else (none)) else (none)) else (none)) else (none)) else (some (x7,x0))
def Sb2.f (k:Nat) (l0:List (List (S118))) (a1:Int) (l2:List (S118)):Option (Bool × (List (List (S118)))):=Sb2.l0 k l0 a1 l2 false 0
def Sb2.T5:Bool × List (List Nat × List Nat):=(true,[([],[]),([],[]),([0,1],[0,1]),([2],[2]),([],[]),([3,4],[3,4]),([5],[5]),([],[]),([],[]),([7,8],[7,8]),([9],[9]),([6,10],[6,10]),([],[]),([12,11,11,0,1,2,3,4,5,6,7,8,9,10,11,12],[11,12])])
def Sb2.B5:List Nat:=[0,0,3,7,0,31,63,0,0,384,896,2047,0,8191]
theorem Sb2.tab5:rtab .any (opsOf Tryz.f122 5)=Sb2.T5:=by kernel_rfl
theorem Sb2.bits5:waitsOk Sb2.T5.2 Sb2.B5=true:=by kernel_rfl
def Sb2.T6:Bool × List (List Nat × List Nat):=(true,[([],[]),([],[]),([],[]),([1,2],[1,2]),([3],[3]),([],[]),([4,5],[4,5]),([6],[6]),([0,7],[0,7])])
def Sb2.B6:List Nat:=[0,0,0,6,14,0,62,126,255]
theorem Sb2.tab6:rtab .any (opsOf Tryz.f122 6)=Sb2.T6:=by kernel_rfl
theorem Sb2.bits6:waitsOk Sb2.T6.2 Sb2.B6=true:=by kernel_rfl
def Sb2.T7:Bool × List (List Nat × List Nat):=(true,[([],[]),([],[]),([0,1],[0,1]),([2],[2]),([],[]),([],[]),([3,4,0,1,2,3,4,5],[3,4]),([6,5,0,1,2,3,4,5],[5,6])])
def Sb2.B7:List Nat:=[0,0,3,7,0,0,63,127]
theorem Sb2.tab7:rtab .any (opsOf Tryz.f122 7)=Sb2.T7:=by kernel_rfl
theorem Sb2.bits7:waitsOk Sb2.T7.2 Sb2.B7=true:=by kernel_rfl
theorem Sb2.calls (k:Nat) (aZ:Nat->Prop) (aX:Value) (l0:List (List (S118))) (a1:Int) (A2:Option Addr) (c2:Nat) (l2:List (S118)) (r1:Bool) (r2:List (List (S118))) (w0 w:World) (hB:Below w0.heap.size w0 w) (ho0:Kd.S (Kd.slice 118 k118) 104 w w0.heap.size aZ aX l0) (hr2:∀ W_,Kept w W_ (fun k_=>aZ k_)->Kd.C k118 W_ A2 l2.length l2) (hc2:l2.length<=c2) (h:Sb2.f k l0 a1 l2=some (r1,r2)) :
  Calls Tryz.prog 122 #[aX,.int .i64 a1,.slice A2 l2.length c2] w fun e w'=>e = .returned (.bool r1)/\Kd.S (Kd.slice 118 k118) 104 w' w0.heap.size (fun k_=>(aZ k_\/w.heap.size<=k_)) aX r2/\Below w0.heap.size w0 w'/\Kept w w' (fun k_=>aZ k_):=by
 have gq:=Tryz.underlying118
 have gZ:=aM (show Kd.S (Kd.slice 118 k118) 104 w w0.heap.size (fun k_=>(aZ k_\/w.heap.size<=k_)) aX l0 from Kd.S_mono ho0 (fun k_ hk=>(.inl hk)))
 have HR2:=aM hr2
 have iL:=aM hc2
 clear hr2 hc2
 have HK:=aM (Kept.refl w (fun k_=>aZ k_))
 have HW0:=aM hB.size
 have HB:=aM hB
 clear hB
 have H:(Sb2.l0 k l0 a1 l2 false 0)=some (r1,r2):=h
 clear h
 have H':=aM H
 clear H
 go_enter Tryz.func122,Tryz.ntmps122
 go_wp2
 go_loopg [7,8] k (fun kq v7 v8 w'=>∃ (af:List (List (S118))) (cO:Bool) (aa:Int),v7 = .bool cO/\v8 = .int .i64 aa/\Aside0 (Sb2.l0 kq af a1 l2 cO aa=some (r1,r2))/\Aside0 (kq<=k)/\Aside0 (Kd.S (Kd.slice 118 k118) 104 w' w0.heap.size (fun k_=>(aZ k_\/w.heap.size<=k_)) aX af)/\Aside0 (Kept w w' (fun k_=>aZ k_))/\Aside0 (Below w0.heap.size w0 w'))
 case atStart=>exact⟨(l0),(false),(0),qZ,qZ,H',⟨Nat.le_refl _⟩,⟨qS gZ⟩,⟨qT⟩,⟨qB⟩⟩
 clear H'
 try clear c2
 obtain⟨af,cO,aa,rfl,rfl,HA,eZ,ai,HK,HB⟩:=hrel
 rcases gk with _|k1
 ·exact absurd HA.out (by simp [Sb2.l0])
 have H:=HA.out
 clear HA
 simp only [Sb2.l0] at H
 replace H:=jD H;rcases H with ⟨fD,H⟩ | ⟨fD,H⟩
 ·replace H:=jI H;obtain⟨ib,H⟩:=H
  replace H:=jI H;obtain⟨ic,H⟩:=H
  replace H:=jI H;obtain⟨ig,H⟩:=H
  replace H:=jI H;obtain⟨ik,H⟩:=H
  replace H:=jI H;obtain⟨il,H⟩:=H
  obtain⟨⟨az,aA⟩,gu,H⟩:=qE H
  try dsimp only at H
  have dC:=aM H;clear H
  try go_wp2
  replace ai:=aM (Kd.S_drew ai.out)
  replace HK:=aM (Kept.drew HK.out)
  replace HB:=aM (below_drew1 HB.out)
  obtain⟨iq,bU,ed⟩:=Kd.S_slice ai.out
  (first|subst ed|(injection ed with gz iw gB;have iy:=gz.symm;have iA:=gB.symm;clear gz iw gB;subst iy;subst iA))
  have df:0<=(a1:Int):=qD
  have dh:a1 < (af.length:Int):=qD
  obtain⟨ay,fE,aC,fF,aQ,bF,bG⟩:=at_L8 (Kd.S_reads' ai.out).2.2 a1 df dh
  cases fF
  obtain⟨gD,dE,dF,bV⟩:=Kd.S_get ai.out [] a1 df (by first|exact dh|exact qD|(have e_:=(Kd.S_reads' ai.out).1;omega))
  obtain⟨fe,rfl,bg⟩:=dF
  have aH:=bV 0 _ rfl
  rw [Nat.add_zero,show ((Kd.slice 118 k118)).sz=1 from rfl,Nat.mul_one] at aH
  replace aH:=Option.some.inj (aH.symm.trans aQ)
  rw [aH] at bg
  have ag:=aM (show Kd.R k118 118 _ _ _ _ (rd_L8 af a1) from bg)
  clear aH bg
  have au:=aM aQ
  clear bV dE
  have av:=aM bG
  have fo:=aM bF
  clear bG bF
  replace df:=eq_true df
  replace dh:=eq_true dh
  have dG:0<=(aa:Int):=qD
  have dH:aa < ((rd_L8 af a1).length:Int):=qD
  obtain⟨ax,fG,bH,bI⟩:=at_T118 (kC av.out) aa dG dH
  cases fG
  replace dG:=eq_true dG
  replace dH:=eq_true dH
  have aD:0<=(aa:Int):=qD
  have aG:aa < (l2.length:Int):=qD
  obtain⟨aI,fH,bJ,bK⟩:=at_T118 (Kd.C_kept_now HR2.out HK.out) aa aD aG
  have fq:=bK
  have fu:=bJ
  cases fH
  replace aD:=eq_true aD
  replace aG:=eq_true aG
  refine start_ (n:=14) (S:=fun w'=>w'.cell? (ay.add (a1).toNat)=some (.slice (some ax) (rd_L8 af a1).length aC)/\w'.cell? (ax.add ((aa).toNat*2))=some (.int .i64 ((rd_T118 (rd_L8 af a1) aa).f0))/\w'.cell? ⟨(ax.add ((aa).toNat*2)).block,(ax.add ((aa).toNat*2)).off+1,none⟩=some (.int .i64 ((rd_T118 (rd_L8 af a1) aa).f1))/\w'.cell? (aI.add ((aa).toNat*2))=some (.int .i64 ((rd_T118 l2 aa).f0))/\w'.cell? ⟨(aI.add ((aa).toNat*2)).block,(aI.add ((aa).toNat*2)).off+1,none⟩=some (.int .i64 ((rd_T118 l2 aa).f1))) (ds:=[]) (jb 14 0) (by kernel_rfl) rfl rfl ⟨aQ,bH,bI,(foot_T118_0 (HR2.out _ (by repeat (first|exact HK.out|apply Kept.alloc|apply Kept.drewN|apply Kept.drew|refine Kept.setCell ?_ (.inr ah.out) _|refine Kept.setCell ?_ (.inr ah.out) _))) aa (of_eq_true aD) (of_eq_true aG)),(foot_T118_1 (HR2.out _ (by repeat (first|exact HK.out|apply Kept.alloc|apply Kept.drewN|apply Kept.drew|refine Kept.setCell ?_ (.inr ah.out) _|refine Kept.setCell ?_ (.inr ah.out) _))) aa (of_eq_true aD) (of_eq_true aG))⟩ (fun hHeld=>?_);refine with_tabW Sb2.tab5 Sb2.bits5 (fun HT_ HW_=>?_)
  generalize wr.drew=iM at ai HK HB ag av au aQ bH bI bJ bK hHeld ⊢
  refine jp 0 14 (jb 14 1) ?_
  refine jp 1 15 (jb 14 3) ?_
  refine jp 2 16 (jb 14 7) ?_
  refine jp 4 18 (jb 14 23) ?_
  refine jp 7 21 (jb 14 151) ?_
  refine jp 8 22 (jb 14 407) ?_
  refine jp 9 23 (jb 14 919) ?_
  refine jt 3 17 (jb 14 927) ?_
  refine jp 5 19 (jb 14 959) ?_
  refine jt 6 20 (jb 14 1023) ?_
  refine jt 10 24 (jb 14 2047) ?_
  refine join_ (σ:=Nat) 1 (jb 14 8191) (fun s_=>[(25,.agg #[.int .i64 az,.int .i64 aA]),(9,.pointer (some ⟨s_,0,none⟩))]) (fun s_ w'=>(w'.cell? (ay.add (a1).toNat)=some (.slice (some ax) (rd_L8 af a1).length aC)/\w'.cell? (ax.add ((aa).toNat*2))=some (.int .i64 ((rd_T118 (rd_L8 af a1) aa).f0))/\w'.cell? ⟨(ax.add ((aa).toNat*2)).block,(ax.add ((aa).toNat*2)).off+1,none⟩=some (.int .i64 ((rd_T118 (rd_L8 af a1) aa).f1))/\w'.cell? (aI.add ((aa).toNat*2))=some (.int .i64 ((rd_T118 l2 aa).f0))/\w'.cell? ⟨(aI.add ((aa).toNat*2)).block,(aI.add ((aa).toNat*2)).off+1,none⟩=some (.int .i64 ((rd_T118 l2 aa).f1)))/\(Kd.R k118 118 w' w0.heap.size (fun k_=>(aZ k_\/w.heap.size<=k_)/\some k_≠(.slice (some ay) af.length bU:Value).ownBlock/\k_≠s_) (.slice (some ax) (rd_L8 af a1).length aC) (rd_L8 af a1))/\(Kd.S (Kd.slice 118 k118) 104 w' w0.heap.size (fun k_=>(aZ k_\/w.heap.size<=k_)/\k_≠s_) (.slice (some ay) af.length bU) af)/\(w'.cell? (ay.add (a1).toNat)=some (.slice (some ax) (rd_L8 af a1).length aC))/\(w'.heap[s_]?=some (.cells #[.int .i64 0,.int .i64 0] 118 (0,0)))/\(w.heap.size<=s_)/\(w0.heap.size<=s_)/\(Kept w w' (fun k_=>aZ k_))/\(Below w0.heap.size w0 w')) ?_ ?_
  rotate_left
  ·intro hCont
   refine two_ (i:=11) (j:=12) (Ni:=some 25) (Nj:=some 9) (jb 14 4095) (jb 14 6143) rfl rfl rfl rfl (two_of HT_.out (by kernel_rfl)) (by decide) (by decide) (fun K hK=>?_) (fun K hK=>?_)
   ·skip
    refine goes_ Tryz.func127 (by kernel_rfl) rfl #[.agg #[.int .i64 ((rd_T118 (rd_L8 af a1) aa).f0),.int .i64 ((rd_T118 (rd_L8 af a1) aa).f1)],.agg #[.int .i64 ((rd_T118 l2 aa).f0),.int .i64 ((rd_T118 l2 aa).f1)]] (by rfl) rfl rfl qM ?_
    with_reducible refine (Sb6.calls ((rd_T118 (rd_L8 af a1) aa).f0) ((rd_T118 (rd_L8 af a1) aa).f1) ((rd_T118 l2 aa).f0) ((rd_T118 l2 aa).f1) az aA _ gu.out).mono ?_
    rintro e iB ⟨rfl,hb⟩
    have bA:=(hb.cell (World.block_lt_of_cell? _ _ (hHeld.1))).trans (hHeld.1)
    have bB:=(hb.cell (World.block_lt_of_cell? _ _ (hHeld.2.1))).trans (hHeld.2.1)
    have bC:=(hb.cell (World.block_lt_of_cell? _ _ (hHeld.2.2.1))).trans (hHeld.2.2.1)
    refine⟨_,rfl,?_⟩
    replace ai:=kS ai hb
    replace ag:=kR ag hb
    replace av:=kQ av hb
    replace au:=kW hb au
    replace HK:=kT hb
    replace HB:=kH hb
    (try clear hb)
    (try clear hb2)
    (try clear hk)
    (try clear hi)
    refine hK.out _ _ ⟨bA,bB,bC,(foot_T118_0 (HR2.out _ (by repeat (first|exact HK.out|apply Kept.alloc|apply Kept.drewN|apply Kept.drew|refine Kept.setCell ?_ (.inr ah.out) _|refine Kept.setCell ?_ (.inr ah.out) _))) aa (of_eq_true aD) (of_eq_true aG)),(foot_T118_1 (HR2.out _ (by repeat (first|exact HK.out|apply Kept.alloc|apply Kept.drewN|apply Kept.drew|refine Kept.setCell ?_ (.inr ah.out) _|refine Kept.setCell ?_ (.inr ah.out) _))) aa (of_eq_true aD) (of_eq_true aG))⟩ (fun hHeld=>?_)
    clear hK K
    refine norm_ (a':=?_) ?_ ?_
    rotate_left
    ·show Act.put _ (some 25) _=_
     simp only [Act.put,List.setIfInBounds_toArray,List.set_cons_zero,List.set_cons_succ,i64_w,i32_w]
     rfl
    refine one_ (i:=12) (N:=some 9) (jb 14 8191) rfl rfl (one_of HT_.out (by kernel_rfl)) (by decide) (fun K hK=>?_)
    refine box_step ?hg (N:=9) ?hd (cs:=#[.int .i64 0,.int .i64 0]) (t:=118) ?hr ?_;(case hd=>rfl);(case hg=>rfl);(case hr=>first|(go_simp;done)|(go_simp;rfl))
    intro ae hg w16 hbox hb
    have bA:=(hb.cell (World.block_lt_of_cell? _ _ (hHeld.1))).trans (hHeld.1)
    have bB:=(hb.cell (World.block_lt_of_cell? _ _ (hHeld.2.1))).trans (hHeld.2.1)
    have bC:=(hb.cell (World.block_lt_of_cell? _ _ (hHeld.2.2.1))).trans (hHeld.2.2.1)
    have aj:=aM hbox
    have ah:=aM ((by rw [hg];exact (by first|exact HK.out.1|exact (show Kept w _ (fun k_=>aZ k_) from qT).1):w.heap.size<=ae))
    have bv:=aM ((by rw [hg];exact (below_size qB):w0.heap.size<=ae))
    replace ai:=aM (Kd.S_below (Kd.S_elderB (qS ai) ae (Nat.le_of_eq hg.symm)) hb)
    replace ag:=aM (Kd.R_below (Kd.R_elderB (qR ag) ae (Nat.le_of_eq hg.symm)) hb)
    replace av:=kQ av hb
    replace au:=kW hb au
    replace HK:=kT hb
    replace HB:=kH hb
    clear hb hbox hg
    refine hK.out _ _ ⟨bA,bB,bC,(foot_T118_0 (HR2.out _ (by repeat (first|exact HK.out|apply Kept.alloc|apply Kept.drewN|apply Kept.drew|refine Kept.setCell ?_ (.inr ah.out) _|refine Kept.setCell ?_ (.inr ah.out) _))) aa (of_eq_true aD) (of_eq_true aG)),(foot_T118_1 (HR2.out _ (by repeat (first|exact HK.out|apply Kept.alloc|apply Kept.drewN|apply Kept.drew|refine Kept.setCell ?_ (.inr ah.out) _|refine Kept.setCell ?_ (.inr ah.out) _))) aa (of_eq_true aD) (of_eq_true aG))⟩ (fun hHeld=>?_)
    clear hK K
    refine norm_ (a':=?_) ?_ ?_
    rotate_left
    ·show Act.put _ (some 9) _=_
     simp only [Act.put,List.setIfInBounds_toArray,List.set_cons_zero,List.set_cons_succ,i64_w,i32_w]
     rfl
    exact norm_ (by simp only [putAll,Act.put,List.setIfInBounds_toArray,List.set_cons_zero,List.set_cons_succ]) (hCont (ae) _ ⟨hHeld,(by (with_reducible repeat (first|apply Kd.R_alloc|apply Kd.R_drewN|apply Kd.R_drew));exact Kd.R_mono ag.out (fun _ hk=>⟨hk.1.1,⟨hk.1.2,hk.2⟩⟩)),(qS ai),au.out,(qK aj),ah.out,bv.out,(by repeat (first|(with_reducible first|exact HK.out|apply Kept.alloc|apply Kept.drewN|apply Kept.drew|refine Kept.setCell ?_ (.inr ah.out) _)|exact HK.out)),qB⟩)
   skip
   refine box_step ?hg (N:=9) ?hd (cs:=#[.int .i64 0,.int .i64 0]) (t:=118) ?hr ?_;(case hd=>rfl);(case hg=>rfl);(case hr=>first|(go_simp;done)|(go_simp;rfl))
   intro ae hg iB hbox hb
   have bA:=(hb.cell (World.block_lt_of_cell? _ _ (hHeld.1))).trans (hHeld.1)
   have bB:=(hb.cell (World.block_lt_of_cell? _ _ (hHeld.2.1))).trans (hHeld.2.1)
   have bC:=(hb.cell (World.block_lt_of_cell? _ _ (hHeld.2.2.1))).trans (hHeld.2.2.1)
   have aj:=aM hbox
   have ah:=aM ((by rw [hg];exact (by first|exact HK.out.1|exact (show Kept w _ (fun k_=>aZ k_) from qT).1):w.heap.size<=ae))
   have bv:=aM ((by rw [hg];exact (below_size qB):w0.heap.size<=ae))
   replace ai:=aM (Kd.S_below (Kd.S_elderB (qS ai) ae (Nat.le_of_eq hg.symm)) hb)
   replace ag:=aM (Kd.R_below (Kd.R_elderB (qR ag) ae (Nat.le_of_eq hg.symm)) hb)
   replace av:=kQ av hb
   replace au:=kW hb au
   replace HK:=kT hb
   replace HB:=kH hb
   clear hb hbox hg
   refine hK.out _ _ ⟨bA,bB,bC,(foot_T118_0 (HR2.out _ (by repeat (first|exact HK.out|apply Kept.alloc|apply Kept.drewN|apply Kept.drew|refine Kept.setCell ?_ (.inr ah.out) _|refine Kept.setCell ?_ (.inr ah.out) _))) aa (of_eq_true aD) (of_eq_true aG)),(foot_T118_1 (HR2.out _ (by repeat (first|exact HK.out|apply Kept.alloc|apply Kept.drewN|apply Kept.drew|refine Kept.setCell ?_ (.inr ah.out) _|refine Kept.setCell ?_ (.inr ah.out) _))) aa (of_eq_true aD) (of_eq_true aG))⟩ (fun hHeld=>?_)
   clear hK K
   refine norm_ (a':=?_) ?_ ?_
   rotate_left
   ·show Act.put _ (some 9) _=_
    simp only [Act.put,List.setIfInBounds_toArray,List.set_cons_zero,List.set_cons_succ,i64_w,i32_w]
    rfl
   refine one_ (i:=11) (N:=some 25) (jb 14 8191) rfl rfl (one_of HT_.out (by kernel_rfl)) (by decide) (fun K hK=>?_)
   refine goes_ Tryz.func127 (by kernel_rfl) rfl #[.agg #[.int .i64 ((rd_T118 (rd_L8 af a1) aa).f0),.int .i64 ((rd_T118 (rd_L8 af a1) aa).f1)],.agg #[.int .i64 ((rd_T118 l2 aa).f0),.int .i64 ((rd_T118 l2 aa).f1)]] (by rfl) rfl rfl qM ?_
   with_reducible refine (Sb6.calls ((rd_T118 (rd_L8 af a1) aa).f0) ((rd_T118 (rd_L8 af a1) aa).f1) ((rd_T118 l2 aa).f0) ((rd_T118 l2 aa).f1) az aA _ gu.out).mono ?_
   rintro e w16 ⟨rfl,hb⟩
   have bA:=(hb.cell (World.block_lt_of_cell? _ _ (hHeld.1))).trans (hHeld.1)
   have bB:=(hb.cell (World.block_lt_of_cell? _ _ (hHeld.2.1))).trans (hHeld.2.1)
   have bC:=(hb.cell (World.block_lt_of_cell? _ _ (hHeld.2.2.1))).trans (hHeld.2.2.1)
   refine⟨_,rfl,?_⟩
   replace ai:=kS ai hb
   replace ag:=kR ag hb
   replace av:=kQ av hb
   replace au:=kW hb au
   replace aj:=kB aj hb
   replace HK:=aM (Kept.below (S:=(fun k_=>aZ k_)) (by repeat (first|(with_reducible first|exact HK.out|apply Kept.alloc|apply Kept.drewN|apply Kept.drew|refine Kept.setCell ?_ (.inr ah.out) _)|exact HK.out)) hb)
   replace HB:=kH hb
   (try clear hb)
   (try clear hb2)
   (try clear hk)
   (try clear hi)
   refine hK.out _ _ ⟨bA,bB,bC,(foot_T118_0 (HR2.out _ (by repeat (first|exact HK.out|apply Kept.alloc|apply Kept.drewN|apply Kept.drew|refine Kept.setCell ?_ (.inr ah.out) _|refine Kept.setCell ?_ (.inr ah.out) _))) aa (of_eq_true aD) (of_eq_true aG)),(foot_T118_1 (HR2.out _ (by repeat (first|exact HK.out|apply Kept.alloc|apply Kept.drewN|apply Kept.drew|refine Kept.setCell ?_ (.inr ah.out) _|refine Kept.setCell ?_ (.inr ah.out) _))) aa (of_eq_true aD) (of_eq_true aG))⟩ (fun hHeld=>?_)
   clear hK K
   refine norm_ (a':=?_) ?_ ?_
   rotate_left
   ·show Act.put _ (some 25) _=_
    simp only [Act.put,List.setIfInBounds_toArray,List.set_cons_zero,List.set_cons_succ,i64_w,i32_w]
    rfl
   exact norm_ (by simp only [putAll,Act.put,List.setIfInBounds_toArray,List.set_cons_zero,List.set_cons_succ]) (hCont (ae) _ ⟨hHeld,(by (with_reducible repeat (first|apply Kd.R_alloc|apply Kd.R_drewN|apply Kd.R_drew));exact Kd.R_mono ag.out (fun _ hk=>⟨hk.1.1,⟨hk.1.2,hk.2⟩⟩)),(qS ai),au.out,(qK aj),ah.out,bv.out,(by repeat (first|(with_reducible first|exact HK.out|apply Kept.alloc|apply Kept.drewN|apply Kept.drew|refine Kept.setCell ?_ (.inr ah.out) _)|exact HK.out)),qB⟩)
  rintro ae bi ⟨hS_,gF,gG,gH,gI,gJ,gK,gL,gM⟩
  have dW:Aside0 (Kd.R k118 118 bi w0.heap.size (fun k_=>(aZ k_\/w.heap.size<=k_)/\some k_≠(.slice (some ay) af.length bU:Value).ownBlock/\k_≠ae) (.slice (some ax) (rd_L8 af a1).length aC) (rd_L8 af a1)):=⟨gF⟩
  have dX:Aside0 (Kd.S (Kd.slice 118 k118) 104 bi w0.heap.size (fun k_=>(aZ k_\/w.heap.size<=k_)/\k_≠ae) (.slice (some ay) af.length bU) af):=⟨gG⟩
  have dY:Aside0 (bi.cell? (ay.add (a1).toNat)=some (.slice (some ax) (rd_L8 af a1).length aC)):=⟨gH⟩
  have dZ:Aside0 (bi.heap[ae]?=some (.cells #[.int .i64 0,.int .i64 0] 118 (0,0))):=⟨gI⟩
  have d9:Aside0 (w.heap.size<=ae):=⟨gJ⟩
  have gN:Aside0 (w0.heap.size<=ae):=⟨gK⟩
  have gP:Aside0 (Kept w bi (fun k_=>aZ k_)):=⟨gL⟩
  have gQ:Aside0 (Below w0.heap.size w0 bi):=⟨gM⟩
  clear ai
  clear HK
  clear HB
  clear gF gG gH gI gJ gK gL gM
  have ag:=dW
  have ai:=dX
  have au:=dY
  have aj:=dZ
  have ah:=d9
  have bv:=gN
  have HK:=gP
  have HB:=gQ
  clear dW dX dY dZ d9 gN gP gQ
  have hHeld:bi.cell? (ay.add (a1).toNat)=some (.slice (some ax) (rd_L8 af a1).length aC)/\bi.cell? (ax.add ((aa).toNat*2))=some (.int .i64 ((rd_T118 (rd_L8 af a1) aa).f0))/\bi.cell? ⟨(ax.add ((aa).toNat*2)).block,(ax.add ((aa).toNat*2)).off+1,none⟩=some (.int .i64 ((rd_T118 (rd_L8 af a1) aa).f1))/\bi.cell? (aI.add ((aa).toNat*2))=some (.int .i64 ((rd_T118 l2 aa).f0))/\bi.cell? ⟨(aI.add ((aa).toNat*2)).block,(aI.add ((aa).toNat*2)).off+1,none⟩=some (.int .i64 ((rd_T118 l2 aa).f1)):=hS_
  refine norm_ (a':=?_) ?_ ?_
  rotate_left
  ·simp only [putAll,Act.put,List.setIfInBounds_toArray,List.set_cons_zero,List.set_cons_succ]
   rfl
  refine one_ (i:=13) (N:=none) (jb 14 16383) rfl rfl (one_of HT_.out (by kernel_rfl)) (by decide) (fun K hK=>?_)
  have iC:bi.cell? ⟨ae,0,none⟩=some (.int .i64 0):=(blk_cell aj.out 0).trans rfl
  have gT:=blk_frozen aj.out 0
  have iD:bi.cell? ⟨ae,1,none⟩=some (.int .i64 0):=(blk_cell aj.out 1).trans rfl
  have gU:=blk_frozen aj.out 1
  refine skip_ (w1:=?_) (by rfl) rfl ?_ ?_
  rotate_left
  ·go_simp
   rfl
  refine hK.out _ _ ⟨((cell_far (p:=⟨ae,_,none⟩) (kf (Kd.own_blk (Kd.S_away ai.out (fun _ hk=>hk.2)))) _).trans (((cell_far (p:=⟨ae,_,none⟩) (kf (Kd.own_blk (Kd.S_away ai.out (fun _ hk=>hk.2)))) _).trans (hHeld.1)))),((cell_far (p:=⟨ae,_,none⟩) (kf (Kd.own_blk (Kd.R_away ag.out (fun _ hk=>hk.2.2)))) _).trans (((cell_far (p:=⟨ae,_,none⟩) (kf (Kd.own_blk (Kd.R_away ag.out (fun _ hk=>hk.2.2)))) _).trans (hHeld.2.1)))),((cell_far (p:=⟨ae,_,none⟩) (kf (Kd.own_blk (Kd.R_away ag.out (fun _ hk=>hk.2.2)))) _).trans (((cell_far (p:=⟨ae,_,none⟩) (kf (Kd.own_blk (Kd.R_away ag.out (fun _ hk=>hk.2.2)))) _).trans (hHeld.2.2.1)))),(foot_T118_0 (HR2.out _ (by repeat (first|exact HK.out|apply Kept.alloc|apply Kept.drewN|apply Kept.drew|refine Kept.setCell ?_ (.inr ah.out) _|refine Kept.setCell ?_ (.inr ah.out) _))) aa (of_eq_true aD) (of_eq_true aG)),(foot_T118_1 (HR2.out _ (by repeat (first|exact HK.out|apply Kept.alloc|apply Kept.drewN|apply Kept.drew|refine Kept.setCell ?_ (.inr ah.out) _|refine Kept.setCell ?_ (.inr ah.out) _))) aa (of_eq_true aD) (of_eq_true aG))⟩ (fun hHeld=>?_)
  clear hK K
  refine done_ (done_of HT_.out (by kernel_rfl)) ?_
  try go_wp2
  have dW:Aside0 (Kd.S (Kd.slice 118 k118) 104 ((bi.setCell ⟨ae,0,none⟩ (.int .i64 az)).setCell ⟨ae,1,none⟩ (.int .i64 aA)) w0.heap.size (fun k_=>(aZ k_\/w.heap.size<=k_)/\k_≠ae) (.slice (some ay) af.length bU) af):=⟨by (with_reducible repeat (first|apply Kd.S_alloc|apply Kd.S_drewN|apply Kd.S_drew));exact Kd.S_mono (Kd.S_far (p:=⟨ae,1,none⟩) (Kd.S_far (p:=⟨ae,0,none⟩) (Kd.S_mono ai.out (fun k_ hk=>(⟨hk,hk.2⟩:_/\k_≠ae))) (fun _ hk=>hk.2) (.int .i64 az)) (fun _ hk=>hk.2) (.int .i64 aA)) (fun _ hk=>⟨hk.1.1,hk.1.2⟩)⟩
  have dX:Aside0 (Kd.R k118 118 ((bi.setCell ⟨ae,0,none⟩ (.int .i64 az)).setCell ⟨ae,1,none⟩ (.int .i64 aA)) w0.heap.size (fun k_=>(aZ k_\/w.heap.size<=k_)/\some k_≠(.slice (some ay) af.length bU:Value).ownBlock/\k_≠ae) (.slice (some ax) (rd_L8 af a1).length aC) (rd_L8 af a1)):=⟨by (with_reducible repeat (first|apply Kd.R_alloc|apply Kd.R_drewN|apply Kd.R_drew));exact Kd.R_mono (Kd.R_far (p:=⟨ae,1,none⟩) (Kd.R_far (p:=⟨ae,0,none⟩) (Kd.R_mono ag.out (fun k_ hk=>(⟨hk,hk.2.2⟩:_/\k_≠ae))) (fun _ hk=>hk.2) (.int .i64 az)) (fun _ hk=>hk.2) (.int .i64 aA)) (fun _ hk=>⟨hk.1.1,⟨hk.1.2.1,hk.1.2.2⟩⟩)⟩
  have dY:Aside0 (((bi.setCell ⟨ae,0,none⟩ (.int .i64 az)).setCell ⟨ae,1,none⟩ (.int .i64 aA)).heap[ae]?=some (.cells #[.int .i64 az,.int .i64 aA] 118 (0,0))):=⟨qF aj⟩
  have dZ:Aside0 (Kept w ((bi.setCell ⟨ae,0,none⟩ (.int .i64 az)).setCell ⟨ae,1,none⟩ (.int .i64 aA)) (fun k_=>aZ k_)):=⟨by repeat (first|(with_reducible first|exact HK.out|apply Kept.alloc|apply Kept.drewN|apply Kept.drew|refine Kept.setCell ?_ (.inr ah.out) _)|exact HK.out)⟩
  have d9:Aside0 (Below w0.heap.size w0 ((bi.setCell ⟨ae,0,none⟩ (.int .i64 az)).setCell ⟨ae,1,none⟩ (.int .i64 aA))):=⟨qB⟩
  (try clear ai)
  (try clear ag)
  (try clear aj)
  (try clear HK)
  (try clear HB)
  generalize ((bi.setCell ⟨ae,0,none⟩ (.int .i64 az)).setCell ⟨ae,1,none⟩ (.int .i64 aA))=iE at dW dX dY dZ d9 ⊢
  have ai:=dW
  have ag:=dX
  have aj:=dY
  have HK:=dZ
  have HB:=d9
  clear dW dX dY dZ d9
  replace ai:=aM (Kd.S_drew ai.out)
  replace ag:=aM (Kd.R_drew ag.out)
  replace aj:=aM (blk_drew aj.out)
  replace HK:=aM (Kept.drew HK.out)
  replace HB:=aM (below_drew1 HB.out)
  have di:0<=(a1:Int):=qD
  have dn:a1 < (af.length:Int):=qD
  obtain⟨ek,fI,dI,fJ,aT,bL,bM⟩:=at_L8 (Kd.S_reads' ai.out).2.2 a1 di dn
  obtain rfl:ay=ek:=(by injection fJ)
  obtain⟨gV,dJ,dK,bW⟩:=Kd.S_get ai.out [] a1 di (by first|exact dn|exact qD|(have e_:=(Kd.S_reads' ai.out).1;omega))
  obtain⟨fw,rfl,bn⟩:=dK
  have aJ:=bW 0 _ rfl
  rw [Nat.add_zero,show ((Kd.slice 118 k118)).sz=1 from rfl,Nat.mul_one] at aJ
  replace aJ:=Option.some.inj (aJ.symm.trans aT)
  rw [aJ] at bn
  have aU:=aM (show Kd.R k118 118 _ _ _ _ (rd_L8 af a1) from bn)
  clear aJ bn
  have dw:=aM aT
  clear bW dJ
  have aK:=aM bM
  have fA:=aM bL
  clear bM bL
  replace di:=eq_true di
  replace dn:=eq_true dn
  have dL:0<=(aa:Int):=qD
  have dM:aa < ((rd_L8 af a1).length:Int):=qD
  obtain⟨bN,fK,bO,bP⟩:=at_T118 (kC aK.out) aa dL dM
  cases fK
  replace dL:=eq_true dL
  replace dM:=eq_true dM
  refine start_ (n:=9) (S:=fun w'=>w'.cell? ⟨ae,0,none⟩=some (.int .i64 az)/\w'.cell? ⟨ae,1,none⟩=some (.int .i64 aA)/\w'.cell? (ay.add (a1).toNat)=some (.slice (some bN) (rd_L8 af a1).length dI)/\w'.cell? (bN.add ((aa).toNat*2))=some (.int .i64 ((rd_T118 (rd_L8 af a1) aa).f0))/\w'.cell? ⟨(bN.add ((aa).toNat*2)).block,(bN.add ((aa).toNat*2)).off+1,none⟩=some (.int .i64 ((rd_T118 (rd_L8 af a1) aa).f1))) (ds:=[]) (jb 9 0) (by kernel_rfl) rfl rfl ⟨(blk_cell aj.out 0).trans rfl,(blk_cell aj.out 1).trans rfl,aT,bO,bP⟩ (fun hHeld=>?_);refine with_tabW Sb2.tab6 Sb2.bits6 (fun HT_ HW_=>?_)
  generalize iE.drew=iF at ai ag aj HK HB aU aK dw aT bO bP hHeld ⊢
  refine jp 1 27 (jb 9 2) ?_
  refine jp 2 28 (jb 9 6) ?_
  refine jp 3 29 (jb 9 14) ?_
  refine jp 5 31 (jb 9 46) ?_
  refine jt 0 26 (jb 9 47) ?_
  refine jt 4 30 (jb 9 63) ?_
  refine jp 6 32 (jb 9 127) ?_
  refine jt 7 33 (jb 9 255) ?_
  have H:=dC.out;clear dC
  by_cases c11:(!(az == ((rd_T118 (rd_L8 af a1) aa).f0)) || (!(aA == ((rd_T118 (rd_L8 af a1) aa).f1))))=true
  ·rw [if_pos c11] at H
   have eu:(!(az == ((rd_T118 (rd_L8 af a1) aa).f0)) || (!(aA == ((rd_T118 (rd_L8 af a1) aa).f1))))=true:=c11
   clear c11
   obtain⟨eB,bX⟩:=ky (((rd_L8 af a1).set (aa:Int).toNat (⟨az,aA⟩:S118)):List (S118))
   first|replace H:=kz bX H|rw [<- bX.out] at H
   obtain⟨fM,bY⟩:=ky ((af.set (a1:Int).toNat eB):List (List (S118)))
   first|replace H:=kz bY H|rw [<- bY.out] at H
   have H':=aM H
   clear H
   refine jp 8 34 (jb 9 511) ?_
   refine done_ (done_of HT_.out (by kernel_rfl)) ?_
   try go_wp2
   replace ai:=aM (Kd.S_drew ai.out)
   replace ag:=aM (Kd.R_drew ag.out)
   replace aU:=aM (Kd.R_drew aU.out)
   replace aj:=aM (blk_drew aj.out)
   replace aK:=aM (Kd.C_drew aK.out)
   replace HK:=aM (Kept.drew HK.out)
   replace HB:=aM (below_drew1 HB.out)
   have dx:0<=(a1:Int):=qD
   have dz:a1 < (af.length:Int):=qD
   obtain⟨eD,fO,dN,fP,aV,bQ,bR⟩:=at_L8 (Kd.S_reads' ai.out).2.2 a1 dx dz
   obtain rfl:ay=eD:=(by injection fP)
   obtain⟨gW,dO,dP,bZ⟩:=Kd.S_get ai.out [] a1 dx (by first|exact dz|exact qD|(have e_:=(Kd.S_reads' ai.out).1;omega))
   obtain⟨fB,rfl,bq⟩:=dP
   have aN:=bZ 0 _ rfl
   rw [Nat.add_zero,show ((Kd.slice 118 k118)).sz=1 from rfl,Nat.mul_one] at aN
   replace aN:=Option.some.inj (aN.symm.trans aV)
   rw [aN] at bq
   have aW:=aM (show Kd.R k118 118 _ _ _ _ (rd_L8 af a1) from bq)
   clear aN bq
   have bS:=aM aV
   clear bZ dO
   have bu:=aM bR
   have fC:=aM bQ
   clear bR bQ
   replace dx:=eq_true dx
   replace dz:=eq_true dz
   have fQ:0<=(aa:Int):=qD
   have fT:(aa:Int) < (((rd_L8 af a1).length:Int):Int):=qD
   obtain⟨bD,iG,eF,eG,fU,iH,eH⟩:=Kd.R_form aW.out (by omega)
   (first|cases eF|(injection eF with ea_ en_ ec_;(first|subst ea_|(injection ea_ with ea_;subst ea_));subst ec_;clear en_))
   have eO:=aM eG
   have fV:=aM eH
   clear eG fU eH
   have cz:=aM (show (aZ bD\/w.heap.size<=bD) from (aW.out.1 _ rfl).1.1)
   obtain⟨iI,eP,eQ,cB,cK⟩:=Kd.R_elem aW.out z118 (aa:Int) fQ fT
   obtain rfl:=k118_openM eQ
   have dQ:World.cell? _ ⟨bD,(aa:Int).toNat*2,none⟩=some (.int .i64 ((rd_T118 (rd_L8 af a1) aa).f0)):=cB 0 _ rfl
   have dR:World.cell? _ ⟨bD,(aa:Int).toNat*2+1,none⟩=some (.int .i64 ((rd_T118 (rd_L8 af a1) aa).f1)):=cB 1 _ rfl
   have dS:World.frozen? _ ⟨bD,(aa:Int).toNat*2,none⟩=false:=cK 0
   have dU:World.frozen? _ ⟨bD,(aa:Int).toNat*2+1,none⟩=false:=cK 1
   clear eP cB cK;(try clear eQ)
   replace fQ:=eq_true fQ
   replace fT:=eq_true fT
   have fZ:(a1:Int) < (af.length:Int):=(by have h_:(a1:Int) < ((af.length:Int):Int):=qD;first|exact h_|(have e_:=(Kd.S_reads' ai.out).1;omega)|simpa only [List.length_set,List.length_set] using h_)
   obtain⟨gX,iJ,bT,gm,bz,eT,dD⟩:=Kd.S_borrow ai.out [] (a1:Int) (qD) fZ
   obtain⟨gp,rfl,aY⟩:=gm
   have dA:=bz 0 _ rfl
   rw [Nat.add_zero,show ((Kd.slice 118 k118)).sz=1 from rfl,Nat.mul_one] at dA
   replace dA:=Option.some.inj (dA.symm.trans bS.out)
   subst dA
   clear bz bT
   replace aY:=(show Kd.R k118 118 _ _ _ _ (rd_L8 af a1) from aY)
   obtain⟨iK,bT,eU,bz,eX⟩:=Kd.R_elem aY z118 (aa:Int) (qD) (by have h_:(aa:Int) < (((rd_L8 af a1).length:Int):Int):=qD;first|exact h_|(have e_:=(Kd.R_reads' bu.out).1;omega)|simpa using h_)
   obtain rfl:=k118_openM eU
   have dB:=Kd.R_seg aY (aa:Int) (qD) (by have h_:(aa:Int) < (((rd_L8 af a1).length:Int):Int):=qD;first|exact h_|(have e_:=(Kd.R_reads' bu.out).1;omega)|simpa using h_) (seg:=[.int .i64 az,.int .i64 aA]) (j:=0) bT bz (show 2<=2 from by decide) (x':=(⟨az,aA⟩:S118)) (k118_mkM _ _ _ (⟨az,aA⟩:S118)) (fun _ hk=>hk)
   clear bT bz eX eU
   rw [<- bX.out] at dB
   have dV:=dD dB.2 (fun k_ e_=>by injection e_ with e_;subst e_;exact aY.1 _ rfl) (x':=eB) (Kd.M_row dB.1)
   rw [<- bY.out] at dV
   have eY:=aM dV
   clear dB dV dD eT
   refine start_ (n:=8) (S:=fun w'=>w'.cell? ⟨ae,0,none⟩=some (.int .i64 az)/\w'.cell? ⟨ae,1,none⟩=some (.int .i64 aA)/\w'.cell? (ay.add (a1).toNat)=some (.slice (some ⟨bD,0,none⟩) (rd_L8 af a1).length dN)) (ds:=[7]) (jb 8 0) (by kernel_rfl) rfl rfl ⟨(blk_cell aj.out 0).trans rfl,(blk_cell aj.out 1).trans rfl,aV⟩ (fun hHeld=>?_);refine with_tabW Sb2.tab7 Sb2.bits7 (fun HT_ HW_=>?_)
   generalize iF.drew=iN at ai ag aU aj aK HK HB fV aW eY bu bS dS dU dQ dR aV hHeld ⊢
   refine jp 0 35 (jb 8 1) ?_
   refine jp 1 36 (jb 8 3) ?_
   refine jp 2 37 (jb 8 7) ?_
   refine jp 4 39 (jb 8 23) ?_
   refine jt 3 38 (jb 8 31) ?_
   refine jt 5 40 (jb 8 63) ?_
   refine jp 6 41 (jb 8 127) ?_
   refine last_ (i:=7) (N:=none) (jb 8 255) rfl rfl (one_of HT_.out (by kernel_rfl)) (by decide) (fun K hK=>?_)
   refine skip_ (w1:=?_) (by rfl) rfl ?_ ?_
   rotate_left
   ·go_simp
    rfl
   refine hK.out _ _ ?_
   clear hK K
   refine done_ (done_of HT_.out (by kernel_rfl)) ?_
   try go_wp2
   go_roundg k1
   case measure=>have:=eZ.out;omega
   exact⟨(fM),(true),(wrap64 (aa+1)),qZ,qZ,H',⟨by have:=eZ.out;omega⟩,⟨by (with_reducible repeat (first|apply Kd.S_alloc|apply Kd.S_drewN|apply Kd.S_drew));exact Kd.S_mono eY.out (fun _ hk=>hk.1)⟩,⟨by repeat (first|(with_reducible first|exact HK.out|apply Kept.alloc|apply Kept.drewN|apply Kept.drew|refine Kept.setCell ?_ cz.out _|refine Kept.setCell ?_ cz.out _|refine Kept.setCell ?_ (.inr ah.out) _)|exact HK.out)⟩,⟨by repeat (first|(with_reducible first|exact HB.out|apply below_alloc|apply pw_below_drewN|apply below_drew1|refine below_set ?_ eO.out|refine below_set ?_ eO.out|refine below_set ?_ bv.out)|exact HB.out)⟩⟩
  rw [if_neg c11] at H
  have eu:(!(az == ((rd_T118 (rd_L8 af a1) aa).f0)) || (!(aA == ((rd_T118 (rd_L8 af a1) aa).f1))))=false:=by simpa using c11
  clear c11
  have H':=aM H
  clear H
  refine jp 8 34 (jb 9 511) ?_
  refine done_ (done_of HT_.out (by kernel_rfl)) ?_
  try go_wp2
  go_roundg k1
  case measure=>have:=eZ.out;omega
  exact⟨(af),(cO),(wrap64 (aa+1)),qZ,qZ,H',⟨by have:=eZ.out;omega⟩,⟨by (with_reducible repeat (first|apply Kd.S_alloc|apply Kd.S_drewN|apply Kd.S_drew));exact Kd.S_mono ai.out (fun _ hk=>hk.1)⟩,⟨by repeat (first|(with_reducible first|exact HK.out|apply Kept.alloc|apply Kept.drewN|apply Kept.drew|refine Kept.setCell ?_ (.inr ah.out) _)|exact HK.out)⟩,⟨qB⟩⟩
 obtain⟨rfl,rfl⟩:=oJ2 H
 go_wp2
 go_ret
 exact⟨qW,qS ai,qB,qT⟩
mutual
def Sb8.l0:Nat->List (S27)->List (List (S118))->Bool->Int->Option (Bool × (List (List (S118))))
 | 0,_,_,_,_=>none
 | k+1,x0,x1,x5,x6=>if x6 < (x0.length:Int) then (if 0<=x6 then (if x6 < (x1.length:Int) then (if 0 < ((rd_L8 x1 x6).length:Int) then (if ((rd_T118 (rd_L8 x1 x6) 0).f0)=0 then (Sb8.l0 k x0 x1 x5 (wrap64 (x6+1))) else ((Sb3.f k x0 (rd_L8 x1 x6) x6).bind fun bg=>((SaZ.f k ((rd_T27 x0 x6).f0) ((rd_T27 x0 x6).f1) ((rd_T27 x0 x6).f2) ((rd_T27 x0 x6).f3) ((rd_T27 x0 x6).f4) (rd_L8 x1 x6)).bind fun aj=>(Sb8.l1 k x0 x1 x5 x6 bg aj 0)))) else (none)) else (none)) else (none)) else (some (x5,x1))
def Sb8.l1:Nat->List (S27)->List (List (S118))->Bool->Int->List Int->List (S118)->Int->Option (Bool × (List (List (S118))))
 | 0,_,_,_,_,_,_,_=>none
 | k+1,x0,x1,x5,x6,x7,x8,x9=>if x9 < (x7.length:Int) then (if 0<=x9 then ((Sb2.f k x1 (rd x7 x9) x8).bind fun cB=>(if cB.1=true then (Sb8.l1 k x0 cB.2 true x6 x7 x8 (wrap64 (x9+1))) else (Sb8.l1 k x0 cB.2 x5 x6 x7 x8 (wrap64 (x9+1))))) else (none)) else (Sb8.l0 k x0 x1 x5 (wrap64 (x6+1)))
end
def Sb8.f (k:Nat) (l0:List (S27)) (l1:List (List (S118))):Option (Bool × (List (List (S118)))):=Sb8.l0 k l0 l1 false 0
def Sb8.T7:Bool × List (List Nat × List Nat):=(true,[([],[]),([],[]),([0,1],[0,1]),([2],[2]),([],[]),([],[]),([4,5],[4,5]),([6],[6]),([3,7],[3,7]),([8,8,0,1,2,3,4,5,6,7,8],[8])])
def Sb8.B7:List Nat:=[0,0,3,7,0,0,48,112,255,511]
theorem Sb8.tab7:rtab .any (opsOf Tryz.f112 7)=Sb8.T7:=by kernel_rfl
theorem Sb8.bits7:waitsOk Sb8.T7.2 Sb8.B7=true:=by kernel_rfl
theorem Sb8.calls (k:Nat) (A0:Option Addr) (c0:Nat) (l0:List (S27)) (aG:Nat->Prop) (bi:Value) (l1:List (List (S118))) (r1:Bool) (r2:List (List (S118))) (w0 w:World) (hB:Below w0.heap.size w0 w) (hr0:∀ W_,Kept w W_ (fun k_=>aG k_)->Kd.C k27 W_ A0 l0.length l0) (hc0:l0.length<=c0) (ho1:Kd.S (Kd.slice 118 k118) 104 w w0.heap.size aG bi l1) (h:Sb8.f k l0 l1=some (r1,r2)) :
  Calls Tryz.prog 112 #[.slice A0 l0.length c0,bi] w fun e w'=>e = .returned (.bool r1)/\Kd.S (Kd.slice 118 k118) 104 w' w0.heap.size (fun k_=>(aG k_\/w.heap.size<=k_)) bi r2/\Below w0.heap.size w0 w'/\Kept w w' (fun k_=>aG k_):=by
 have fU:=Tryz.underlying27
 have cz:=aM hr0
 have fV:=aM hc0
 clear hr0 hc0
 have fZ:=aM (show Kd.S (Kd.slice 118 k118) 104 w w0.heap.size (fun k_=>(aG k_\/w.heap.size<=k_)) bi l1 from Kd.S_mono ho1 (fun k_ hk=>(.inl hk)))
 have HK:=aM (Kept.refl w (fun k_=>aG k_))
 have HW0:=aM hB.size
 have HB:=aM hB
 clear hB
 have H:(Sb8.l0 k l0 l1 false 0)=some (r1,r2):=h
 clear h
 have H':=aM H
 clear H
 go_enter Tryz.func112,Tryz.ntmps112
 go_wp2
 go_loopg [5,6] k (fun kq v5 v6 w'=>∃ (au:List (List (S118))) (cK:Bool) (aa:Int),v5 = .bool cK/\v6 = .int .i64 aa/\Aside0 (Sb8.l0 kq l0 au cK aa=some (r1,r2))/\Aside0 (kq<=k)/\Aside0 (Kd.S (Kd.slice 118 k118) 104 w' w0.heap.size (fun k_=>(aG k_\/w.heap.size<=k_)) bi au)/\Aside0 (Kept w w' (fun k_=>aG k_))/\Aside0 (Below w0.heap.size w0 w'))
 case atStart=>exact⟨(l1),(false),(0),qZ,qZ,H',⟨Nat.le_refl _⟩,⟨qS fZ⟩,⟨qT⟩,⟨qB⟩⟩
 clear H'
 obtain⟨au,cK,aa,rfl,rfl,HA,dI,ae,HK,HB⟩:=hrel
 rcases gk with _|k1
 ·exact absurd HA.out (by simp [Sb8.l0])
 have H:=HA.out
 clear HA
 simp only [Sb8.l0] at H
 replace H:=jD H;rcases H with ⟨dU,H⟩ | ⟨dU,H⟩
 ·replace H:=jI H;obtain⟨eU,H⟩:=H
  replace H:=jI H;obtain⟨eX,H⟩:=H
  replace H:=jU H;obtain⟨c6,H⟩:=H
  have eY:=decide_eq_true c6
  have eZ:decide (0 < (rd_L8 au aa).length)=true:=decide_eq_true (by omega)
  clear c6
  replace H:=jE H;rcases H with ⟨dV,dW,H⟩ | ⟨c7,dV,dW,H⟩
  ·have H':=aM H
   clear H
   obtain⟨gJ,gK,gm⟩:=Kd.S_slice ae.out
   subst gm
   have bv:0<=(aa:Int):=qD
   have bz:aa < (au.length:Int):=qD
   obtain⟨aH,dK,cO,dL,aI,aJ,aK⟩:=at_L8 (Kd.S_reads' ae.out).2.2 aa bv bz
   cases dL
   obtain⟨dX,bS,bT,bn⟩:=Kd.S_get ae.out [] aa bv (by first|exact bz|exact qD|(have e_:=(Kd.S_reads' ae.out).1;omega))
   obtain⟨dC,rfl,aD⟩:=bT
   have af:=bn 0 _ rfl
   rw [Nat.add_zero,show ((Kd.slice 118 k118)).sz=1 from rfl,Nat.mul_one] at af
   replace af:=Option.some.inj (af.symm.trans aI)
   rw [af] at aD
   have av:=aM (show Kd.R k118 118 _ _ _ _ (rd_L8 au aa) from aD)
   clear af aD
   clear bn bS
   have ah:=aM aK
   have dD:=aM aJ
   clear aK aJ
   replace bv:=eq_true bv
   replace bz:=eq_true bz
   have bO:0<=(0:Int):=(by omega)
   have bP:0 < ((rd_L8 au aa).length:Int):=qD
   obtain⟨dJ,dM,ax,ay⟩:=at_T118 (kC ah.out) 0 bO bP
   cases dM
   have dY:(0 < (rd_L8 au aa).length)=True:=eq_true (by omega)
   (try rw [show ((0:Int)).toNat=0 from rfl] at ax)
   (try rw [show 0*2=0 from rfl] at ax)
   (try rw [Addr.add_zero'] at ax)
   (try rw [show ((0:Int)).toNat=0 from rfl] at ay)
   (try rw [show 0*2=0 from rfl] at ay)
   (try rw [Addr.add_zero'] at ay)
   replace bO:=eq_true bO
   replace bP:=eq_true bP
   go_wp2
   go_roundg k1
   case measure=>have:=dI.out;omega
   exact⟨(au),(cK),(wrap64 (aa+1)),qZ,qZ,H',⟨by have:=dI.out;omega⟩,⟨qS ae⟩,⟨qT⟩,⟨qB⟩⟩
  obtain⟨bg,A9,H⟩:=qE H
  try dsimp only at H
  obtain⟨aj,gp,H⟩:=qE H
  try dsimp only at H
  have H':=aM H
  clear H
  obtain⟨gq,df,fe⟩:=Kd.S_slice ae.out
  subst fe
  have bv:0<=(aa:Int):=qD
  have bz:aa < (au.length:Int):=qD
  obtain⟨aH,dK,cO,dL,aI,aJ,aK⟩:=at_L8 (Kd.S_reads' ae.out).2.2 aa bv bz
  cases dL
  obtain⟨dX,bS,bT,bn⟩:=Kd.S_get ae.out [] aa bv (by first|exact bz|exact qD|(have e_:=(Kd.S_reads' ae.out).1;omega))
  obtain⟨dC,rfl,aD⟩:=bT
  have af:=bn 0 _ rfl
  rw [Nat.add_zero,show ((Kd.slice 118 k118)).sz=1 from rfl,Nat.mul_one] at af
  replace af:=Option.some.inj (af.symm.trans aI)
  rw [af] at aD
  have av:=aM (show Kd.R k118 118 _ _ _ _ (rd_L8 au aa) from aD)
  clear af aD
  clear bn bS
  have ah:=aM aK
  have dD:=aM aJ
  clear aK aJ
  replace bv:=eq_true bv
  replace bz:=eq_true bz
  have bO:0<=(0:Int):=(by omega)
  have bP:0 < ((rd_L8 au aa).length:Int):=qD
  obtain⟨dJ,dM,ax,ay⟩:=at_T118 (kC ah.out) 0 bO bP
  cases dM
  have dY:(0 < (rd_L8 au aa).length)=True:=eq_true (by omega)
  (try rw [show ((0:Int)).toNat=0 from rfl] at ax)
  (try rw [show 0*2=0 from rfl] at ax)
  (try rw [Addr.add_zero'] at ax)
  (try rw [show ((0:Int)).toNat=0 from rfl] at ay)
  (try rw [show 0*2=0 from rfl] at ay)
  (try rw [Addr.add_zero'] at ay)
  replace bO:=eq_true bO
  replace bP:=eq_true bP
  have dh:0<=(aa:Int):=qD
  have di:aa < (au.length:Int):=qD
  obtain⟨dZ,fo,fq,fu,bC,bW,bX⟩:=at_L8 (Kd.S_reads' ae.out).2.2 aa dh di
  obtain rfl:aH=dZ:=(by injection fu)
  obtain⟨fJ,dN,dO,dn⟩:=Kd.S_get ae.out [] aa dh (by first|exact di|exact qD|(have e_:=(Kd.S_reads' ae.out).1;omega))
  obtain⟨eF,rfl,bD⟩:=dO
  have aN:=dn 0 _ rfl
  rw [Nat.add_zero,show ((Kd.slice 118 k118)).sz=1 from rfl,Nat.mul_one] at aN
  replace aN:=Option.some.inj (aN.symm.trans bC)
  rw [aN] at bD
  have az:=aM (show Kd.R k118 118 _ _ _ _ (rd_L8 au aa) from bD)
  clear aN bD
  clear dn dN
  have aA:=aM bX
  have dE:=aM bW
  clear bX bW
  replace dh:=eq_true dh
  replace di:=eq_true di
  have ea_:=Option.some.inj (aI.symm.trans bC)
  injection ea_ with ea_ en_ ec_
  subst ea_
  subst ec_
  clear en_
  try go_wp2_with (first|((with_reducible refine jc 120 30 rfl rfl ?_);refine jG Tryz.func120 #[.slice A0 l0.length c0,.slice (some dJ) (rd_L8 au aa).length cO,.int .i64 aa] ?_;refine (Sb3.calls k1 _ _ l0 _ _ (rd_L8 au aa) aa bg _ ?bq ?bu ?bQ ?bR A9.out).mono ?_;(case bq=>exact Kd.C_kept_now cz.out qT);(case bu=>exact fV.out);(case bQ=>repeat (first|exact (kC aA.out)|(with_reducible refine Kd.C_alloc ?_ _)|(with_reducible refine Kd.C_drewN ?_ _)|(with_reducible refine Kd.C_drew ?_)));(case bR=>exact dE.out);rintro e gu ⟨fw,rfl,ho0,hb⟩;refine⟨_,rfl,?_⟩;have bB:=aM (Kd.R_lower (Kd.R_newM (M:=fun k_=>(aG k_\/w.heap.size<=k_)) ho0 (by first|exact HK.out.1|exact (show Kept w _ (fun k_=>aG k_) from qT).1) (fun k_ h_=>.inr h_)) (below_size qB));replace ae:=kS ae hb;replace av:=kR av hb;replace az:=kR az hb;replace ah:=kQ ah hb;replace aA:=kQ aA hb;replace HK:=kT hb;replace HB:=kH hb;clear hb;(try clear ho0)))
  replace ae:=aM (Kd.S_drew ae.out)
  replace av:=aM (Kd.R_drew av.out)
  replace az:=aM (Kd.R_drew az.out)
  replace bB:=aM (Kd.R_drew bB.out)
  replace ah:=aM (Kd.C_drew ah.out)
  replace aA:=aM (Kd.C_drew aA.out)
  replace HK:=aM (Kept.drew HK.out)
  replace HB:=aM (below_drew1 HB.out)
  have aQ:0<=(aa:Int):=qD
  have aT:aa < (l0.length:Int):=qD
  obtain⟨aU,fA,bE,bF,bG,bH,bI⟩:=at_T27 (Kd.C_kept_now cz.out HK.out) aa aQ aT
  have eG:=bI
  have eH:=bH
  have eO:=bG
  have eP:=bF
  have eQ:=bE
  cases fA
  replace aQ:=eq_true aQ
  replace aT:=eq_true aT
  have dw:0<=(aa:Int):=qD
  have dx:aa < (au.length:Int):=qD
  obtain⟨d9,dz,dA,fB,aX,bY,bZ⟩:=at_L8 (Kd.S_reads' ae.out).2.2 aa dw dx
  obtain rfl:aH=d9:=(by injection fB)
  obtain⟨fK,dP,dQ,dB⟩:=Kd.S_get ae.out [] aa dw (by first|exact dx|exact qD|(have e_:=(Kd.S_reads' ae.out).1;omega))
  obtain⟨eT,rfl,bJ⟩:=dQ
  have aV:=dB 0 _ rfl
  rw [Nat.add_zero,show ((Kd.slice 118 k118)).sz=1 from rfl,Nat.mul_one] at aV
  replace aV:=Option.some.inj (aV.symm.trans aX)
  rw [aV] at bJ
  have aY:=aM (show Kd.R k118 118 _ _ _ _ (rd_L8 au aa) from bJ)
  clear aV bJ
  clear dB dP
  have aZ:=aM bZ
  have dF:=aM bY
  clear bZ bY
  replace dw:=eq_true dw
  replace dx:=eq_true dx
  refine start_ (n:=10) (S:=fun w'=>w'.cell? (aU.add ((aa).toNat*5))=some (.int .i64 ((rd_T27 l0 aa).f0))/\w'.cell? ⟨(aU.add ((aa).toNat*5)).block,(aU.add ((aa).toNat*5)).off+1,none⟩=some (.int .i64 ((rd_T27 l0 aa).f1))/\w'.cell? ⟨(aU.add ((aa).toNat*5)).block,(aU.add ((aa).toNat*5)).off+2,none⟩=some (.int .i64 ((rd_T27 l0 aa).f2))/\w'.cell? ⟨(aU.add ((aa).toNat*5)).block,(aU.add ((aa).toNat*5)).off+3,none⟩=some (.int .i64 ((rd_T27 l0 aa).f3))/\w'.cell? ⟨(aU.add ((aa).toNat*5)).block,(aU.add ((aa).toNat*5)).off+4,none⟩=some (.int .i64 ((rd_T27 l0 aa).f4))/\w'.cell? (aH.add (aa).toNat)=some (.slice dz (rd_L8 au aa).length dA)) (ds:=[]) (jb 10 0) (by kernel_rfl) rfl rfl ⟨(foot_T27_0 (cz.out _ (by repeat (first|exact HK.out|apply Kept.alloc|apply Kept.drewN|apply Kept.drew))) aa (of_eq_true aQ) (of_eq_true aT)),(foot_T27_1 (cz.out _ (by repeat (first|exact HK.out|apply Kept.alloc|apply Kept.drewN|apply Kept.drew))) aa (of_eq_true aQ) (of_eq_true aT)),(foot_T27_2 (cz.out _ (by repeat (first|exact HK.out|apply Kept.alloc|apply Kept.drewN|apply Kept.drew))) aa (of_eq_true aQ) (of_eq_true aT)),(foot_T27_3 (cz.out _ (by repeat (first|exact HK.out|apply Kept.alloc|apply Kept.drewN|apply Kept.drew))) aa (of_eq_true aQ) (of_eq_true aT)),(foot_T27_4 (cz.out _ (by repeat (first|exact HK.out|apply Kept.alloc|apply Kept.drewN|apply Kept.drew))) aa (of_eq_true aQ) (of_eq_true aT)),aX⟩ (fun hHeld=>?_);refine with_tabW Sb8.tab7 Sb8.bits7 (fun HT_ HW_=>?_)
  generalize gu.drew=gL at ae av az bB ah aA HK HB aY aZ bE bF bG bH bI aX hHeld ⊢
  refine jp 0 31 (jb 10 1) ?_
  refine jp 1 32 (jb 10 3) ?_
  refine jp 2 33 (jb 10 7) ?_
  refine jp 4 35 (jb 10 23) ?_
  refine jp 5 36 (jb 10 55) ?_
  refine jp 6 37 (jb 10 119) ?_
  refine jt 3 34 (jb 10 127) ?_
  refine jt 7 38 (jb 10 255) ?_
  refine one_ (i:=8) (N:=some 39) (jb 10 511) rfl rfl (one_of HT_.out (by kernel_rfl)) (by decide) (fun K hK=>?_)
  refine goes_ Tryz.func121 (by kernel_rfl) rfl #[.agg #[.int .i64 ((rd_T27 l0 aa).f0),.int .i64 ((rd_T27 l0 aa).f1),.int .i64 ((rd_T27 l0 aa).f2),.int .i64 ((rd_T27 l0 aa).f3),.int .i64 ((rd_T27 l0 aa).f4)],.slice dz (rd_L8 au aa).length dA] (by rfl) rfl rfl qM ?_
  with_reducible refine (SaZ.calls k1 ((rd_T27 l0 aa).f0) ((rd_T27 l0 aa).f1) ((rd_T27 l0 aa).f2) ((rd_T27 l0 aa).f3) ((rd_T27 l0 aa).f4) _ _ (rd_L8 au aa) aj _ ?bq ?bu gp.out).mono ?_
  (case bq=>repeat (first|exact (kC aZ.out)|(with_reducible refine Kd.C_alloc ?_ _)|(with_reducible refine Kd.C_drewN ?_ _)|(with_reducible refine Kd.C_drew ?_)))
  (case bu=>exact dF.out)
  rintro e gM ⟨ed,rfl,ho0,hb⟩
  have fC:=(hb.cell (World.block_lt_of_cell? _ _ (hHeld.2.2.2.2.2))).trans (hHeld.2.2.2.2.2)
  refine⟨_,rfl,?_⟩
  have ek:=aM (Kd.R_lower (Kd.R_new' (Kd.R_new' (Kd.R_new' (Kd.R_newM (M:=fun k_=>(aG k_\/w.heap.size<=k_)) ho0 (by first|exact HK.out.1|exact (show Kept w _ (fun k_=>aG k_) from qT).1) (fun k_ h_=>.inr h_)) (Kd.R_lt (qR av))) (Kd.R_lt (qR az))) (Kd.R_lt (qR aY))) (below_size qB))
  replace ae:=aM (Kd.S_elder' (qS ae) (Kd.R_base ho0) hb)
  replace av:=kO av ho0 hb
  replace az:=kO az ho0 hb
  replace bB:=kR bB hb
  replace aY:=kO aY ho0 hb
  replace ah:=kQ ah hb
  replace aA:=kQ aA hb
  replace aZ:=kQ aZ hb
  replace HK:=kT hb
  replace HB:=kH hb
  (try clear hb)
  (try clear hb2)
  (try clear hk)
  (try clear hi)
  (try clear ho0)
  refine hK.out _ _ ⟨(foot_T27_0 (cz.out _ (by repeat (first|exact HK.out|apply Kept.alloc|apply Kept.drewN|apply Kept.drew))) aa (of_eq_true aQ) (of_eq_true aT)),(foot_T27_1 (cz.out _ (by repeat (first|exact HK.out|apply Kept.alloc|apply Kept.drewN|apply Kept.drew))) aa (of_eq_true aQ) (of_eq_true aT)),(foot_T27_2 (cz.out _ (by repeat (first|exact HK.out|apply Kept.alloc|apply Kept.drewN|apply Kept.drew))) aa (of_eq_true aQ) (of_eq_true aT)),(foot_T27_3 (cz.out _ (by repeat (first|exact HK.out|apply Kept.alloc|apply Kept.drewN|apply Kept.drew))) aa (of_eq_true aQ) (of_eq_true aT)),(foot_T27_4 (cz.out _ (by repeat (first|exact HK.out|apply Kept.alloc|apply Kept.drewN|apply Kept.drew))) aa (of_eq_true aQ) (of_eq_true aT)),fC⟩ (fun hHeld=>?_)
  clear hK K
  refine norm_ (a':=?_) ?_ ?_
  rotate_left
  ·show Act.put _ (some 39) _=_
   simp only [Act.put,List.setIfInBounds_toArray,List.set_cons_zero,List.set_cons_succ,i64_w,i32_w]
   rfl
  refine jp 9 8 (jb 10 1023) ?_
  refine done_ (done_of HT_.out (by kernel_rfl)) ?_
  try go_wp2
  go_loopg [5,9] k1 (fun kq v5 v9 w'=>∃ (bA:List (List (S118))) (dG:Bool) (aW:Int),v5 = .bool dG/\v9 = .int .i64 aW/\Aside0 (Sb8.l1 kq l0 bA dG aa bg aj aW=some (r1,r2))/\Aside0 (kq<=k1)/\Aside0 (Kd.S (Kd.slice 118 k118) 104 w' w0.heap.size (fun k_=>(aG k_\/w.heap.size<=k_)/\some k_≠(ed:Value).ownBlock) (.slice (some aH) au.length df) bA)/\Aside0 (Kd.R (Kd.int .i64) 3 w' w0.heap.size (fun k_=>(aG k_\/w.heap.size<=k_)) fw bg)/\Aside0 (Kd.R k118 118 w' w0.heap.size (fun k_=>(aG k_\/w.heap.size<=k_)) ed aj)/\Aside0 (Kept w w' (fun k_=>aG k_))/\Aside0 (Below w0.heap.size w0 w'))
  case atStart=>exact⟨(au),(cK),(0),qZ,qZ,H',⟨Nat.le_refl _⟩,⟨qS ae⟩,⟨by (with_reducible repeat (first|apply Kd.R_alloc|apply Kd.R_drewN|apply Kd.R_drew));exact Kd.R_mono bB.out (fun _ hk=>hk.1)⟩,⟨by (with_reducible repeat (first|apply Kd.R_alloc|apply Kd.R_drewN|apply Kd.R_drew));exact Kd.R_mono ek.out (fun _ hk=>hk.1.1.1.1)⟩,⟨qT⟩,⟨qB⟩⟩
  clear H'
  try clear dU;try clear eU;try clear eX;try clear c6;try clear eY;try clear eZ;try clear c7;try clear dV;try clear dW;try clear aI;try clear ax;try clear ay;try clear bC;try clear bE;try clear bF;try clear bG;try clear bH;try clear bI;try clear aX;try clear bv;try clear bO;try clear dh;try clear aQ;try clear dw;try clear bz;try clear bP;try clear di;try clear aT;try clear dx
  obtain⟨bA,dG,aW,rfl,rfl,HA,dS,ae,ai,ag,HK,HB⟩:=hrel
  have aC:=(Kd.S_reads' ae.out).1
  rw [aC] at ae
  (try simp only [aC])
  (try simp only [aC] at ai)
  (try simp only [aC] at ag)
  rcases gk with _|k2
  ·exact absurd HA.out (by simp [Sb8.l1])
  have H:=HA.out
  clear HA
  simp only [Sb8.l1] at H
  replace H:=jD H;rcases H with ⟨eu,H⟩ | ⟨eu,H⟩
  ·replace H:=jI H;obtain⟨fM,H⟩:=H
   obtain⟨⟨gz,eB⟩,fO,H⟩:=qE H
   try dsimp only at H
   replace H:=jB H;rcases H with ⟨rfl,H⟩ | ⟨rfl,H⟩
   ·have H':=aM H
    clear H
    obtain⟨gB,gD,fD⟩:=Kd.R_slice ai.out
    subst fD
    have bU:0<=(aW:Int):=qD
    have bV:aW < (bg.length:Int):=qD
    obtain⟨eD,dR,dH⟩:=Kd.at_int (Kd.R_reads' ai.out).2.2 aW bU bV
    cases dR
    replace bU:=eq_true bU
    replace bV:=eq_true bV
    obtain⟨bK,bL,fE⟩:=Kd.R_slice ag.out
    subst fE
    go_wp2_with (first|((with_reducible refine jc 122 52 rfl rfl ?_);refine jG Tryz.func122 #[.slice (some aH) bA.length df,.int .i64 (rd bg aW),.slice bK aj.length bL] ?_;refine (Sb2.calls k2 ?fP (.slice (some aH) bA.length df) bA (rd bg aW) _ _ aj true eB w0 _ ?bq ?bu ?bQ ?bR fO.out).mono ?_;(case bu=>exact Kd.S_bound ae.out);(case bq=>exact qB);(case bQ=>exact Kd.C_kept_own (Kd.R_tight rfl ag.out) (fun k_ hk_ hs_=>by first|exact hs_.1.2 hk_|exact hs_.1.2.1 hk_|exact hs_.1.2.2 hk_|exact hs_.1.1.2 hk_|exact hs_.1.1.1.2 hk_|exact tyap ag.out (by decide) hk_ hs_.2.2.2));(case bR=>exact (Kd.R_reads' ag.out).2.1);rintro e fF ⟨rfl,hy0,hb,hkp⟩;refine⟨_,rfl,?_⟩;replace ae:=aM ((by first|exact Kd.S_mono (ok':=fun k_=>(((aG k_\/w.heap.size<=k_))/\some k_≠(.slice bK aj.length bL:Value).ownBlock)) hy0 (fun k_ h_=>Or.elim h_ (fun h_=>h_.1) (fun h_=>.inr (by first|exact Nat.le_trans HK.out.1 h_|exact Nat.le_trans (below_size HB.out) h_)))|exact Kd.S_mono (ok':=fun k_=>(((aG k_\/w.heap.size<=k_))/\some k_≠(.slice bK aj.length bL:Value).ownBlock)) hy0 (fun _ _=>trivial)|exact Kd.S_mono (ok':=fun k_=>(((aG k_\/w.heap.size<=k_))/\some k_≠(.slice bK aj.length bL:Value).ownBlock)) hy0 (fun k_ h_=>Or.elim h_ (fun h_=>h_.1) (fun h_=>⟨.inr (Nat.le_trans HK.out.1 h_),fun e_=>by have:=Kd.R_lt ai.out k_ e_.symm;omega⟩))|exact Kd.S_mono (ok':=fun k_=>(((aG k_\/w.heap.size<=k_))/\some k_≠(.slice bK aj.length bL:Value).ownBlock)) hy0 (fun k_ h_=>Or.elim h_ (fun h_=>h_.1) (fun h_=>⟨.inr (Nat.le_trans HK.out.1 h_),fun e_=>by have:=Kd.R_lt ag.out k_ e_.symm;omega⟩))|exact Kd.S_mono (ok':=fun k_=>(((aG k_\/w.heap.size<=k_))/\some k_≠(.slice bK aj.length bL:Value).ownBlock)) hy0 (fun k_ h_=>Or.elim h_ (fun h_=>h_.1) (fun h_=>⟨⟨.inr (Nat.le_trans HK.out.1 h_),fun e_=>by have:=Kd.R_lt ai.out k_ e_.symm;omega⟩,fun e_=>by have:=Kd.R_lt ag.out k_ e_.symm;omega⟩))|exact Kd.S_mono (ok':=fun k_=>(((aG k_\/w.heap.size<=k_))/\some k_≠(.slice bK aj.length bL:Value).ownBlock)) hy0 (fun k_ h_=>Or.elim h_ (fun h_=>h_.1) (fun h_=>⟨⟨.inr (Nat.le_trans HK.out.1 h_),fun e_=>by have:=Kd.R_lt ag.out k_ e_.symm;omega⟩,fun e_=>by have:=Kd.R_lt ai.out k_ e_.symm;omega⟩))|exact Kd.S_mono (ok':=fun k_=>(((aG k_\/w.heap.size<=k_))/\some k_≠(.slice bK aj.length bL:Value).ownBlock)) hy0 (fun k_ h_=>Or.elim h_ (fun h_=>h_.1) (fun h_=>⟨.inr (Nat.le_trans HK.out.1 h_),⟨fun e_=>by have:=Kd.R_lt ai.out k_ e_.symm;omega,fun e_=>by have:=Kd.R_lt ag.out k_ e_.symm;omega⟩⟩))|exact Kd.S_mono (ok':=fun k_=>(((aG k_\/w.heap.size<=k_))/\some k_≠(.slice bK aj.length bL:Value).ownBlock)) hy0 (fun k_ h_=>Or.elim h_ (fun h_=>h_.1) (fun h_=>⟨.inr (Nat.le_trans HK.out.1 h_),⟨fun e_=>by have:=Kd.R_lt ag.out k_ e_.symm;omega,fun e_=>by have:=Kd.R_lt ai.out k_ e_.symm;omega⟩⟩))));replace ai:=aM (Kd.R_mono (ok':=fun k_=>(aG k_\/w.heap.size<=k_)) (Kd.R_keptB (Kd.R_tight rfl ai.out) hkp (fun k_ hk_ hs_=>by first|exact hs_.1.2 hk_|exact hs_.1.2.1 hk_|exact hs_.1.2.2 hk_|exact hs_.1.1.2 hk_|exact hs_.1.1.1.2 hk_|exact tyap ai.out (by decide) hk_ hs_.2.2.2)) (fun k_ hk_=>ai.out.1 k_ hk_.1.symm));replace ag:=aM (Kd.R_mono (ok':=fun k_=>(aG k_\/w.heap.size<=k_)) (Kd.R_keptB (Kd.R_tight rfl ag.out) hkp (fun k_ hk_ hs_=>by first|exact hs_.1.2 hk_|exact hs_.1.2.1 hk_|exact hs_.1.2.2 hk_|exact hs_.1.1.2 hk_|exact hs_.1.1.1.2 hk_|exact tyap ag.out (by decide) hk_ hs_.2.2.2)) (fun k_ hk_=>ag.out.1 k_ hk_.1.symm));replace HK:=aM (Kept.then_ (S:=(fun k_=>aG k_)) qT hkp (fun k_ hs_=>by first|exact hs_.1.1|exact hs_.1.1.1|exact hs_.1));replace HB:=aM hb;(try clear hb);(try clear hkp);(try clear hy0)))
    (try simp only [<- aC])
    go_roundg k2
    case measure=>have:=dI.out;have:=dS.out;omega
    exact⟨_,_,_,qZ,qZ,H',⟨by have:=dI.out;have:=dS.out;omega⟩,⟨by (try simp only [aC]);(with_reducible repeat (first|apply Kd.S_alloc|apply Kd.S_drewN|apply Kd.S_drew));exact ae.out⟩,⟨by (try simp only [aC]);(with_reducible repeat (first|apply Kd.R_alloc|apply Kd.R_drewN|apply Kd.R_drew));exact ai.out⟩,⟨by (try simp only [aC]);(with_reducible repeat (first|apply Kd.R_alloc|apply Kd.R_drewN|apply Kd.R_drew));exact ag.out⟩,⟨qT⟩,⟨qB⟩⟩
   have H':=aM H
   clear H
   obtain⟨gF,gG,fG⟩:=Kd.R_slice ai.out
   subst fG
   have bU:0<=(aW:Int):=qD
   have bV:aW < (bg.length:Int):=qD
   obtain⟨eD,dR,dH⟩:=Kd.at_int (Kd.R_reads' ai.out).2.2 aW bU bV
   cases dR
   replace bU:=eq_true bU
   replace bV:=eq_true bV
   obtain⟨bM,bN,fH⟩:=Kd.R_slice ag.out
   subst fH
   go_wp2_with (first|((with_reducible refine jc 122 52 rfl rfl ?_);refine jG Tryz.func122 #[.slice (some aH) bA.length df,.int .i64 (rd bg aW),.slice bM aj.length bN] ?_;refine (Sb2.calls k2 ?fQ (.slice (some aH) bA.length df) bA (rd bg aW) _ _ aj false eB w0 _ ?bq ?bu ?bQ ?bR fO.out).mono ?_;(case bu=>exact Kd.S_bound ae.out);(case bq=>exact qB);(case bQ=>exact Kd.C_kept_own (Kd.R_tight rfl ag.out) (fun k_ hk_ hs_=>by first|exact hs_.1.2 hk_|exact hs_.1.2.1 hk_|exact hs_.1.2.2 hk_|exact hs_.1.1.2 hk_|exact hs_.1.1.1.2 hk_|exact tyap ag.out (by decide) hk_ hs_.2.2.2));(case bR=>exact (Kd.R_reads' ag.out).2.1);rintro e fF ⟨rfl,hy0,hb,hkp⟩;refine⟨_,rfl,?_⟩;replace ae:=aM ((by first|exact Kd.S_mono (ok':=fun k_=>(((aG k_\/w.heap.size<=k_))/\some k_≠(.slice bM aj.length bN:Value).ownBlock)) hy0 (fun k_ h_=>Or.elim h_ (fun h_=>h_.1) (fun h_=>.inr (by first|exact Nat.le_trans HK.out.1 h_|exact Nat.le_trans (below_size HB.out) h_)))|exact Kd.S_mono (ok':=fun k_=>(((aG k_\/w.heap.size<=k_))/\some k_≠(.slice bM aj.length bN:Value).ownBlock)) hy0 (fun _ _=>trivial)|exact Kd.S_mono (ok':=fun k_=>(((aG k_\/w.heap.size<=k_))/\some k_≠(.slice bM aj.length bN:Value).ownBlock)) hy0 (fun k_ h_=>Or.elim h_ (fun h_=>h_.1) (fun h_=>⟨.inr (Nat.le_trans HK.out.1 h_),fun e_=>by have:=Kd.R_lt ai.out k_ e_.symm;omega⟩))|exact Kd.S_mono (ok':=fun k_=>(((aG k_\/w.heap.size<=k_))/\some k_≠(.slice bM aj.length bN:Value).ownBlock)) hy0 (fun k_ h_=>Or.elim h_ (fun h_=>h_.1) (fun h_=>⟨.inr (Nat.le_trans HK.out.1 h_),fun e_=>by have:=Kd.R_lt ag.out k_ e_.symm;omega⟩))|exact Kd.S_mono (ok':=fun k_=>(((aG k_\/w.heap.size<=k_))/\some k_≠(.slice bM aj.length bN:Value).ownBlock)) hy0 (fun k_ h_=>Or.elim h_ (fun h_=>h_.1) (fun h_=>⟨⟨.inr (Nat.le_trans HK.out.1 h_),fun e_=>by have:=Kd.R_lt ai.out k_ e_.symm;omega⟩,fun e_=>by have:=Kd.R_lt ag.out k_ e_.symm;omega⟩))|exact Kd.S_mono (ok':=fun k_=>(((aG k_\/w.heap.size<=k_))/\some k_≠(.slice bM aj.length bN:Value).ownBlock)) hy0 (fun k_ h_=>Or.elim h_ (fun h_=>h_.1) (fun h_=>⟨⟨.inr (Nat.le_trans HK.out.1 h_),fun e_=>by have:=Kd.R_lt ag.out k_ e_.symm;omega⟩,fun e_=>by have:=Kd.R_lt ai.out k_ e_.symm;omega⟩))|exact Kd.S_mono (ok':=fun k_=>(((aG k_\/w.heap.size<=k_))/\some k_≠(.slice bM aj.length bN:Value).ownBlock)) hy0 (fun k_ h_=>Or.elim h_ (fun h_=>h_.1) (fun h_=>⟨.inr (Nat.le_trans HK.out.1 h_),⟨fun e_=>by have:=Kd.R_lt ai.out k_ e_.symm;omega,fun e_=>by have:=Kd.R_lt ag.out k_ e_.symm;omega⟩⟩))|exact Kd.S_mono (ok':=fun k_=>(((aG k_\/w.heap.size<=k_))/\some k_≠(.slice bM aj.length bN:Value).ownBlock)) hy0 (fun k_ h_=>Or.elim h_ (fun h_=>h_.1) (fun h_=>⟨.inr (Nat.le_trans HK.out.1 h_),⟨fun e_=>by have:=Kd.R_lt ag.out k_ e_.symm;omega,fun e_=>by have:=Kd.R_lt ai.out k_ e_.symm;omega⟩⟩))));replace ai:=aM (Kd.R_mono (ok':=fun k_=>(aG k_\/w.heap.size<=k_)) (Kd.R_keptB (Kd.R_tight rfl ai.out) hkp (fun k_ hk_ hs_=>by first|exact hs_.1.2 hk_|exact hs_.1.2.1 hk_|exact hs_.1.2.2 hk_|exact hs_.1.1.2 hk_|exact hs_.1.1.1.2 hk_|exact tyap ai.out (by decide) hk_ hs_.2.2.2)) (fun k_ hk_=>ai.out.1 k_ hk_.1.symm));replace ag:=aM (Kd.R_mono (ok':=fun k_=>(aG k_\/w.heap.size<=k_)) (Kd.R_keptB (Kd.R_tight rfl ag.out) hkp (fun k_ hk_ hs_=>by first|exact hs_.1.2 hk_|exact hs_.1.2.1 hk_|exact hs_.1.2.2 hk_|exact hs_.1.1.2 hk_|exact hs_.1.1.1.2 hk_|exact tyap ag.out (by decide) hk_ hs_.2.2.2)) (fun k_ hk_=>ag.out.1 k_ hk_.1.symm));replace HK:=aM (Kept.then_ (S:=(fun k_=>aG k_)) qT hkp (fun k_ hs_=>by first|exact hs_.1.1|exact hs_.1.1.1|exact hs_.1));replace HB:=aM hb;(try clear hb);(try clear hkp);(try clear hy0)))
   (try simp only [<- aC])
   go_roundg k2
   case measure=>have:=dI.out;have:=dS.out;omega
   exact⟨_,_,_,qZ,qZ,H',⟨by have:=dI.out;have:=dS.out;omega⟩,⟨by (try simp only [aC]);(with_reducible repeat (first|apply Kd.S_alloc|apply Kd.S_drewN|apply Kd.S_drew));exact ae.out⟩,⟨by (try simp only [aC]);(with_reducible repeat (first|apply Kd.R_alloc|apply Kd.R_drewN|apply Kd.R_drew));exact ai.out⟩,⟨by (try simp only [aC]);(with_reducible repeat (first|apply Kd.R_alloc|apply Kd.R_drewN|apply Kd.R_drew));exact ag.out⟩,⟨qT⟩,⟨qB⟩⟩
  have H':=aM H
  clear H
  obtain⟨gH,gI,fI⟩:=Kd.R_slice ai.out
  subst fI
  go_wp2
  (try simp only [<- aC])
  go_roundg k2
  case measure=>have:=dI.out;have:=dS.out;omega
  exact⟨(bA),(dG),(wrap64 (aa+1)),qZ,qZ,H',⟨by have:=dI.out;have:=dS.out;omega⟩,⟨by (try simp only [aC]);(with_reducible repeat (first|apply Kd.S_alloc|apply Kd.S_drewN|apply Kd.S_drew));exact Kd.S_mono ae.out (fun _ hk=>hk.1)⟩,⟨qT⟩,⟨qB⟩⟩
 obtain⟨rfl,rfl⟩:=oJ2 H
 go_wp2
 go_ret
 exact⟨qW,qS ae,qB,qT⟩
mutual
def San.l0:Nat->List (S27)->List (List (S118))->Int->Option ((List (List (S118))))
 | 0,_,_,_=>none
 | k+1,x0,x3,x4=>if x4 < (x0.length:Int) then (if 12<=17592186044416 then (if x3.length < 5864062014805 then (San.l0 k x0 (x3 ++ [(List.replicate 12 z118)]) (wrap64 (x4+1))) else (none)) else (none)) else (San.l1 k x0 x3 0)
def San.l1:Nat->List (S27)->List (List (S118))->Int->Option ((List (List (S118))))
 | 0,_,_,_=>none
 | k+1,x0,x3,x5=>if x5 < 12 then (if 0 < (x3.length:Int) then (if 0<=x5 then (if x5 < ((rd_L8 x3 0).length:Int) then (San.l1 k x0 (x3.set (0:Int).toNat ((rd_L8 x3 0).set (x5:Int).toNat (⟨1,0⟩:S118))) (wrap64 (x5+1))) else (none)) else (none)) else (none)) else (San.l2 k x0 x3)
def San.l2:Nat->List (S27)->List (List (S118))->Option ((List (List (S118))))
 | 0,_,_=>none
 | k+1,x0,x3=>(Sb8.f k x0 x3).bind fun aU=>(if aU.1=true then (San.l2 k x0 aU.2) else (some aU.2))
end
def San.f (k:Nat) (l0:List (S27)):Option ((List (List (S118)))):=(some (([]:List (List (S118))):List (List (S118)))).bind fun bu=>((Saf.f k l0).bind fun bO=>(if bO=true then (San.l0 k l0 bu 0) else (some bu)))
theorem San.calls (k:Nat) (A0:Option Addr) (c0:Nat) (l0:List (S27)) (r:List (List (S118))) (w:World) (hr0:Kd.C k27 w A0 l0.length l0) (hc0:l0.length<=c0) (h:San.f k l0=some r) :
  Calls Tryz.prog 97 #[.slice A0 l0.length c0] w fun e w'=>∃ d9:Value,e = .returned (d9)/\Kd.S (Kd.slice 118 k118) 104 w' w.heap.size (fun _=>True) d9 r/\Below w.heap.size w w':=by
 have ed:=Tryz.underlying118
 have dx:=aM hr0
 have dz:=aM hc0
 clear hr0 hc0
 have HB:=aM (Below.refl w.heap.size w)
 have H:=h;unfold San.f at H
 clear h
 obtain⟨bu,ax⟩:=ky ((([]:List (List (S118)))):List (List (S118)))
 first|replace H:=kz ax H|rw [<- ax.out] at H
 obtain⟨bO,A2,H⟩:=qE H
 try dsimp only at H
 replace H:=jB H;rcases H with ⟨rfl,H⟩ | ⟨rfl,H⟩
 ·have H':=aM H
  clear H
  go_enter Tryz.func97,Tryz.ntmps97
  go_wp2_with (first|((with_reducible refine jd 6 rfl ?_);refine Kd.S_lit (Kd.slice 118 k118) _ 104 ?hg (N:=6) ?hd (xs:=([]:List (List (S118)))) (inner:=[]) (ok:=fun _=>True) (okp:=fun _=>True) ?hr ?hp (fun _ hk=>hk) trivial (Below.refl _ _) (Nat.le_refl _) (by simp) ?_;(case hd=>rfl);(case hg=>rfl);(case hr=>first|(go_simp;done)|(go_simp;rfl));(case hp=>exact (Reps.none _ _));intro dD w4 bP hb hg_ hnew_;clear hg_ hnew_;(first|rw [<- ax.out] at bP|(simp only [Int.reduceToNat] at bP;rw [<- ax.out] at bP));have ai:=aM (Kd.S_lower bP (below_size qB));replace HB:=kH hb;clear hb bP)|((with_reducible refine jc 36 8 rfl rfl ?_);refine jG Tryz.func36 #[.slice A0 l0.length c0] ?_;refine (Saf.calls k _ _ l0 true _ ?aj ?au A2.out).mono ?_;(case aj=>exact kC (Kd.C_below dx.out HB.out));(case au=>exact dz.out);rintro e w6 ⟨rfl,hb⟩;refine⟨_,rfl,?_⟩;replace ai:=kS ai hb;replace HB:=kH hb;clear hb))
  go_loopg [3,4] k (fun kq v3 v4 w'=>∃ (aQ:List (List (S118))) (bH:Int),v4 = .int .i64 bH/\Aside0 (San.l0 kq l0 aQ bH=some r)/\Aside0 (kq<=k)/\Aside0 (Kd.S (Kd.slice 118 k118) 104 w' w.heap.size (fun _=>True) v3 aQ)/\Aside0 (Below w.heap.size w w'))
  case atStart=>exact⟨(bu),(0),qZ,H',⟨Nat.le_refl _⟩,⟨qS ai⟩,⟨qB⟩⟩
  clear H'
  obtain⟨aQ,bH,rfl,HA,bN,aa,HB⟩:=hrel
  rcases gk with _|k1
  ·exact absurd HA.out (by simp [San.l0])
  have H:=HA.out
  clear HA
  simp only [San.l0] at H
  replace H:=jD H;rcases H with ⟨bI,H⟩ | ⟨bI,H⟩
  ·replace H:=jJ H;obtain⟨eY,eZ,H⟩:=H
   obtain⟨bv,aG⟩:=ky ((List.replicate 12 z118):List (S118))
   first|replace H:=kz aG H|rw [<- aG.out] at H
   replace H:=jL H;obtain⟨dE,H⟩:=H
   obtain⟨fe,aV⟩:=ky ((aQ ++ [bv]):List (List (S118)))
   first|replace H:=kz aV H|rw [<- aV.out] at H
   have H':=aM H
   clear H
   go_wp2_with (first|((with_reducible refine jd 18 rfl ?_);refine Kd.R_make k118 _ 118 rfl (N:=18) rfl 104 _ _ rfl 12 rfl rfl Tryz.underlying104 (.agg #[(.int .i64 0),(.int .i64 0)]) 16 info118 rfl (by decide) (by omega) z118 (ok:=fun _=>True) (okp:=fun _=>True) (k118_mkM _ _ _ z118 ) (fun _ hk=>hk) trivial (by omega) (by omega) (Below.refl _ _) (Nat.le_refl _) ?_;intro fo fq aT hb hg_ hnew_;clear hg_ hnew_;(first|rw [<- aG.out] at aT|(simp only [Int.reduceToNat] at aT;rw [<- aG.out] at aT));have aH:=kL aT;replace aa:=aM (Kd.S_elder' (qS aa) (Kd.R_base aT) hb);replace HB:=kH hb;clear hb aT;obtain⟨bQ,bR,dF⟩:=Kd.R_slice aH.out;subst dF)|((with_reducible refine gate_builtin (b:=.append) (xs:=#[.tmp 17,.tmp 19]) rfl ?_);at_builtin;refine Kd.S_append (Kd.slice 118 k118) (w0:=w) w.heap.size rfl (.tmp 17) (.tmp 19) 101 104 (.slice none 0 0) 24 rfl Tryz.underlying101 info104 rfl (by decide) (by omega) u3 aQ bv [.slice bQ bv.length bR] (fun _=>True) (fun k_=>some k_=(.slice bQ bv.length bR:Value).ownBlock) rfl rfl ?aP (fun k_ hk_=>((Kd.R_mono (ok':=fun k_=>((fun _=>True)) k_/\some k_≠(u3:Value).ownBlock) (Kd.R_apart' (aH.out) (Kd.S_typed aa.out) (by decide)) (fun k_ hk=>⟨trivial,hk.2⟩))).1 k_ hk_.symm) ?aF ?aO ?aB ?aS ?aL ?_;(case aP=>exact Kd.M_row (Kd.R_mono (Kd.R_tight rfl (Kd.R_mono (ok':=fun k_=>((fun _=>True)) k_/\some k_≠(u3:Value).ownBlock) (Kd.R_apart' (aH.out) (Kd.S_typed aa.out) (by decide)) (fun k_ hk=>⟨trivial,hk.2⟩))) (fun _ h_=>h_)));(case aB=>exact qB);(case aF=>exact (fun _ _=>trivial));(case aO=>exact (by (with_reducible repeat (first|apply Kd.S_alloc|apply Kd.S_drewN|apply Kd.S_drew));exact Kd.S_mono aa.out (by first|exact fun k_ hk=>⟨trivial,fun e_=>hk.2 e_⟩|exact fun k_ hk=>hk)));(case aS=>exact (below_size qB));(case aL=>have:=dE.out;omega);intro fu fw ho hb hg hat;rw [<- aV.out] at ho;have bS:=aM ho;replace HB:=aM hb;clear aa aH;clear ho hb hg hat))
   go_roundg k1
   case measure=>have:=bN.out;omega
   exact⟨_,_,qZ,H',⟨by have:=bN.out;omega⟩,⟨qS bS⟩,⟨qB⟩⟩
  have H':=aM H
  clear H
  go_wp2
  go_loopg [5] k1 (fun kq v5 w'=>∃ (ae:List (List (S118))) (af:Int),v5 = .int .i64 af/\Aside0 (San.l1 kq l0 ae af=some r)/\Aside0 (kq<=k1)/\Aside0 (Kd.S (Kd.slice 118 k118) 104 w' w.heap.size (fun _=>True) u3 ae)/\Aside0 (Below w.heap.size w w'))
  case atStart=>exact⟨(aQ),(0),qZ,H',⟨Nat.le_refl _⟩,⟨qS aa⟩,⟨qB⟩⟩
  clear H'
  try clear bI
  obtain⟨ae,af,rfl,HA,dA,aa,HB⟩:=hrel
  rcases gk with _|k2
  ·exact absurd HA.out (by simp [San.l1])
  have H:=HA.out
  clear HA
  simp only [San.l1] at H
  replace H:=jD H;rcases H with ⟨bE,H⟩ | ⟨bE,H⟩
  ·replace H:=jU H;obtain⟨c15,H⟩:=H
   have ek:=decide_eq_true c15
   have eu:decide (0 < ae.length)=true:=decide_eq_true (by omega)
   clear c15
   replace H:=jI H;obtain⟨eB,H⟩:=H
   replace H:=jI H;obtain⟨eD,H⟩:=H
   obtain⟨bT,aW⟩:=ky (((rd_L8 ae 0).set (af:Int).toNat (⟨1,0⟩:S118)):List (S118))
   first|replace H:=kz aW H|rw [<- aW.out] at H
   obtain⟨dG,aX⟩:=ky ((ae.set (0:Int).toNat bT):List (List (S118)))
   first|replace H:=kz aX H|rw [<- aX.out] at H
   have H':=aM H
   clear H
   obtain⟨fA,dH,dI⟩:=Kd.S_slice aa.out
   subst dI
   have bz:0<=(0:Int):=(by omega)
   have bA:0 < (ae.length:Int):=qD
   obtain⟨bU,dJ,bJ,dK,ah,aI,aJ⟩:=at_L8 (Kd.S_reads' aa.out).2.2 0 bz bA
   cases dK
   obtain⟨eF,bK,bL,aY⟩:=Kd.S_get aa.out [] 0 bz (by first|exact bA|exact qD|(have e_:=(Kd.S_reads' aa.out).1;omega))
   obtain⟨dB,rfl,ay⟩:=bL
   have ag:=aY 0 _ rfl
   rw [Nat.add_zero,show ((Kd.slice 118 k118)).sz=1 from rfl,Nat.mul_one] at ag
   replace ag:=Option.some.inj (ag.symm.trans ah)
   rw [ag] at ay
   have az:=aM (show Kd.R k118 118 _ _ _ _ (rd_L8 ae 0) from ay)
   clear ag ay
   have bB:=aM ah
   clear aY bK
   have eG:(0 < ae.length)=True:=eq_true (by omega)
   (try rw [show ((0:Int)).toNat=0 from rfl] at ah)
   (try rw [Addr.add_zero'] at ah)
   have aK:=aM aJ
   have dC:=aM aI
   clear aJ aI
   replace bz:=eq_true bz
   replace bA:=eq_true bA
   have dL:0<=(af:Int):=qD
   have dM:(af:Int) < (((rd_L8 ae 0).length:Int):Int):=qD
   obtain⟨aC,fB,bV,bW,dN,fC,bX⟩:=Kd.R_form az.out (by omega)
   (first|cases bV|(injection bV with ea_ en_ ec_;(first|subst ea_|(injection ea_ with ea_;subst ea_));subst ec_;clear en_))
   have bY:=aM bW
   have fD:=aM bX
   clear bW dN bX
   obtain⟨fE,bZ,cz,aZ,bg⟩:=Kd.R_elem az.out z118 (af:Int) dL dM
   obtain rfl:=k118_openM cz
   have dO:wr.cell? ⟨aC,(af:Int).toNat*2,none⟩=some (.int .i64 ((rd_T118 (rd_L8 ae 0) af).f0)):=aZ 0 _ rfl
   have dP:wr.cell? ⟨aC,(af:Int).toNat*2+1,none⟩=some (.int .i64 ((rd_T118 (rd_L8 ae 0) af).f1)):=aZ 1 _ rfl
   have dQ:wr.frozen? ⟨aC,(af:Int).toNat*2,none⟩=false:=bg 0
   have dR:wr.frozen? ⟨aC,(af:Int).toNat*2+1,none⟩=false:=bg 1
   clear bZ aZ bg;(try clear cz)
   replace dL:=eq_true dL
   replace dM:=eq_true dM
   have dS:(0:Int) < (ae.length:Int):=(by have h_:(0:Int) < ((ae.length:Int):Int):=qD;first|exact h_|(have e_:=(Kd.S_reads' aa.out).1;omega)|simpa only [List.length_set,List.length_set] using h_)
   obtain⟨cB,fF,aN,dU,aD,bF,bG⟩:=Kd.S_borrow aa.out [] (0:Int) (by omega) dS
   obtain⟨dV,rfl,av⟩:=dU
   have bC:=aD 0 _ rfl
   rw [Nat.add_zero,show ((Kd.slice 118 k118)).sz=1 from rfl,Nat.mul_one] at bC
   replace bC:=Option.some.inj (bC.symm.trans bB.out)
   subst bC
   clear aD aN
   replace av:=(show Kd.R k118 118 _ _ _ _ (rd_L8 ae 0) from av)
   obtain⟨fG,aN,cK,aD,cO⟩:=Kd.R_elem av z118 (af:Int) (qD) (by have h_:(af:Int) < (((rd_L8 ae 0).length:Int):Int):=qD;first|exact h_|(have e_:=(Kd.R_reads' aK.out).1;omega)|simpa using h_)
   obtain rfl:=k118_openM cK
   have bM:=Kd.R_seg av (af:Int) (qD) (by have h_:(af:Int) < (((rd_L8 ae 0).length:Int):Int):=qD;first|exact h_|(have e_:=(Kd.R_reads' aK.out).1;omega)|simpa using h_) (seg:=[.int .i64 1,.int .i64 0]) (j:=0) aN aD (show 2<=2 from by decide) (x':=(⟨1,0⟩:S118)) (k118_mkM _ _ _ (⟨1,0⟩:S118)) (fun _ hk=>hk)
   clear aN aD cO cK
   go_wp2_with (first|((with_reducible refine gate_store (t:=118) (p:=30) rfl ?_);refine store_event (t:=118) (p:=30) (v:=?dW) (w1:=((wr.setCell ⟨aC,(af:Int).toNat*2,none⟩ (.int .i64 1)).setCell ⟨aC,(af:Int).toNat*2+1,none⟩ (.int .i64 0))) ?hg ?ho ?hn ?hr ?_;(case ho=>rfl);(case hg=>rfl);(case hn=>rfl);(case hr=>first|(go_simp;done)|(go_simp;rfl));intro bD hw;have hg:wr.grownBy bD (some aC):=(by rw [hw];exact bM.2);have hz_:Kd.R k118 118 bD w.heap.size cB (.slice (some ⟨aC,0,none⟩) (rd_L8 ae 0).length bJ) bT:=(by rw [hw,aW.out];exact bM.1);have hp_:Kd.S (Kd.slice 118 k118) 104 bD w.heap.size (fun _=>True) (.slice (some bU) ae.length dH) dG:=(by rw [aX.out];exact bG hg (fun k_ e_=>by injection e_ with e_;subst e_;exact av.1 _ rfl) (Kd.M_row hz_));have hm_:=Kd.R_mono hz_ bF;clear bM bG;have eH:=aM hm_;have eO:=aM ((Kd.R_reads' hm_).2.1);replace aa:=aM hp_;replace HB:=aM ((by rw [hw];exact below_set (below_set (HB.out) bY.out) bY.out:Below w.heap.size w bD));clear az;clear hg hw hp_ hz_ hm_ bF))
   go_roundg k2
   case measure=>have:=bN.out;have:=dA.out;omega
   exact⟨_,_,qZ,H',⟨by have:=bN.out;have:=dA.out;omega⟩,⟨qS aa⟩,⟨qB⟩⟩
  have H':=aM H
  clear H
  go_wp2
  go_loopg [] k2 (fun kq w'=>∃ (aA:List (List (S118))),Aside0 (San.l2 kq l0 aA=some r)/\Aside0 (kq<=k2)/\Aside0 (Kd.S (Kd.slice 118 k118) 104 w' w.heap.size (fun _=>True) u3 aA)/\Aside0 (Below w.heap.size w w'))
  case atStart=>exact⟨(ae),H',⟨Nat.le_refl _⟩,⟨qS aa⟩,⟨qB⟩⟩
  clear H'
  try clear bI;try clear bE
  obtain⟨aA,HA,eP,aa,HB⟩:=hrel
  rcases gk with _|k3
  ·exact absurd HA.out (by simp [San.l2])
  have H:=HA.out
  clear HA
  simp only [San.l2] at H
  obtain⟨⟨fH,df⟩,eQ,H⟩:=qE H
  try dsimp only at H
  replace H:=jB H;rcases H with ⟨rfl,H⟩ | ⟨rfl,H⟩
  ·have H':=aM H
   clear H
   obtain⟨dh,di,dX⟩:=Kd.S_slice aa.out
   subst dX
   go_wp2_with (first|((with_reducible refine jc 112 33 rfl rfl ?_);refine jG Tryz.func112 #[.slice A0 l0.length c0,.slice dh aA.length di] ?_;refine (Sb8.calls k3 _ _ l0 ?eT (.slice dh aA.length di) aA true df w _ ?aj ?au ?bi ?bn eQ.out).mono ?_;(case bn=>exact Kd.S_bound aa.out);(case aj=>exact qB);(case au=>exact Kd.C_kept_came k27_heap dx.out qB (fun k_ hs_=>(by first|exact Kd.R_base aa.out k_ hs_.symm|exact hs_.2.1)));(case bi=>exact dz.out);rintro e dY ⟨rfl,hy0,hb,hkp⟩;refine⟨_,rfl,?_⟩;replace aa:=aM ((by first|exact Kd.S_mono (ok':=fun k_=>True) hy0 (fun k_ h_=>Or.elim h_ (fun h_=>h_.1) (fun h_=>.inr (by first|exact Nat.le_trans HK.out.1 h_|exact Nat.le_trans (below_size HB.out) h_)))|exact Kd.S_mono (ok':=fun k_=>True) hy0 (fun _ _=>trivial)));replace HB:=aM hb;(try clear hb);(try clear hkp);(try clear hy0)))
   go_roundg k3
   case measure=>have:=bN.out;have:=dA.out;have:=eP.out;omega
   exact⟨_,H',⟨by have:=bN.out;have:=dA.out;have:=eP.out;omega⟩,⟨qS aa⟩,⟨qB⟩⟩
  obtain rfl:=oJ H
  obtain⟨dn,dw,dZ⟩:=Kd.S_slice aa.out
  subst dZ
  go_wp2_with (first|((with_reducible refine jc 112 33 rfl rfl ?_);refine jG Tryz.func112 #[.slice A0 l0.length c0,.slice dn aA.length dw] ?_;refine (Sb8.calls k3 _ _ l0 ?eU (.slice dn aA.length dw) aA false df w _ ?aj ?au ?bi ?bn eQ.out).mono ?_;(case bn=>exact Kd.S_bound aa.out);(case aj=>exact qB);(case au=>exact Kd.C_kept_came k27_heap dx.out qB (fun k_ hs_=>(by first|exact Kd.R_base aa.out k_ hs_.symm|exact hs_.2.1)));(case bi=>exact dz.out);rintro e dY ⟨rfl,hy0,hb,hkp⟩;refine⟨_,rfl,?_⟩;replace aa:=aM ((by first|exact Kd.S_mono (ok':=fun k_=>True) hy0 (fun k_ h_=>Or.elim h_ (fun h_=>h_.1) (fun h_=>.inr (by first|exact Nat.le_trans HK.out.1 h_|exact Nat.le_trans (below_size HB.out) h_)))|exact Kd.S_mono (ok':=fun k_=>True) hy0 (fun _ _=>trivial)));replace HB:=aM hb;(try clear hb);(try clear hkp);(try clear hy0)))
  go_ret
  exact⟨_,qW,qS aa,qB⟩
 obtain rfl:=oJ H
 go_enter Tryz.func97,Tryz.ntmps97
 go_wp2_with (first|((with_reducible refine jd 6 rfl ?_);refine Kd.S_lit (Kd.slice 118 k118) _ 104 ?hg (N:=6) ?hd (xs:=([]:List (List (S118)))) (inner:=[]) (ok:=fun _=>True) (okp:=fun _=>True) ?hr ?hp (fun _ hk=>hk) trivial (Below.refl _ _) (Nat.le_refl _) (by simp) ?_;(case hd=>rfl);(case hg=>rfl);(case hr=>first|(go_simp;done)|(go_simp;rfl));(case hp=>exact (Reps.none _ _));intro dD fI bq hb hg_ hnew_;clear hg_ hnew_;(first|rw [<- ax.out] at bq|(simp only [Int.reduceToNat] at bq;rw [<- ax.out] at bq));have ai:=aM (Kd.S_lower bq (below_size qB));replace HB:=kH hb;clear hb bq)|((with_reducible refine jc 36 8 rfl rfl ?_);refine jG Tryz.func36 #[.slice A0 l0.length c0] ?_;refine (Saf.calls k _ _ l0 false _ ?aj ?au A2.out).mono ?_;(case aj=>exact kC (Kd.C_below dx.out HB.out));(case au=>exact dz.out);rintro e fJ ⟨rfl,hb⟩;refine⟨_,rfl,?_⟩;replace ai:=kS ai hb;replace HB:=kH hb;clear hb))
 go_ret
 exact⟨_,qW,qS ai,qB⟩
def Sb5.f (aa ae a1:Int):Option (Bool):=if aa=1 then (some (ae == a1)) else (some false)
theorem Sb5_0 {G:Prop} (h:G:=by
  go_enter Tryz.func114,Tryz.ntmps114
  go_wp2_with (first|((with_reducible refine jd 2 rfl ?_);refine jX _ 118 ?_;intro ai hg av hbox hb;have af:=aM hbox;have aj:=kG hg;replace HB:=kH hb;clear hb hbox hg;have ax:=jz2 af))
  go_ret
  exact⟨qW,qB⟩):G:=h
theorem Sb5.calls (aa ae a1:Int) (r:Bool) (w:World) (h:Sb5.f aa ae a1=some r) :
  Calls Tryz.prog 114 #[.agg #[.int .i64 aa,.int .i64 ae],.int .i64 a1] w fun e w'=>e = .returned (.bool r)/\Below w.heap.size w w':=by
 have au:=Tryz.underlying118
 have HB:=aM (Below.refl w.heap.size w)
 have H:(if aa=1 then (some (ae == a1)) else (some false))=some r:=h
 clear h
 replace H:=jE H;rcases H with ⟨ag,ah,H⟩ | ⟨c3,ag,ah,H⟩
 ·obtain rfl:=oJ H
  exact Sb5_0
 obtain rfl:=oJ H
 exact Sb5_0
def SaS.l0:Nat->List Int->Int->Int->Option (Bool)
 | 0,_,_,_=>none
 | k+1,x0,x1,x5=>if x5 < (x0.length:Int) then (if 0<=x5 then (if (rd x0 x5)=x1 then (some true) else (SaS.l0 k x0 x1 (wrap64 (x5+1)))) else (none)) else (some false)
def SaS.f (k:Nat) (l0:List Int) (a1:Int):Option (Bool):=SaS.l0 k l0 a1 0
theorem SaS.calls (k:Nat) (A0:Option Addr) (c0:Nat) (l0:List Int) (a1:Int) (r:Bool) (w:World) (hr0:Kd.C (Kd.int .i64) w A0 l0.length l0) (hc0:l0.length<=c0) (h:SaS.f k l0 a1=some r) :
  Calls Tryz.prog 129 #[.slice A0 l0.length c0,.int .i64 a1] w fun e w'=>e = .returned (.bool r)/\Drawn0 w w':=by
 have ax:=aM hr0
 have aC:=aM hc0
 clear hr0 hc0
 have H:(SaS.l0 k l0 a1 0)=some r:=h
 clear h
 have H':=aM H
 clear H
 go_enter Tryz.func129,Tryz.ntmps129
 go_wp2
 go_loopg [5] k (fun kq v5 w'=>∃ (aa:Int),v5 = .int .i64 aa/\Aside0 (SaS.l0 kq l0 a1 aa=some r)/\Aside0 (kq<=k)/\Drawn0 w w')
 case atStart=>exact⟨(0),qZ,H',⟨Nat.le_refl _⟩,by repeat (first|exact Drawn0.refl _|apply Drawn0.step)⟩
 clear H'
 obtain⟨aa,rfl,HA,ay,⟨m1,rfl⟩⟩:=hrel
 rcases gk with _|k1
 ·exact absurd HA.out (by simp [SaS.l0])
 have H:=HA.out
 clear HA
 simp only [SaS.l0] at H
 replace H:=jD H;rcases H with ⟨aj,H⟩ | ⟨aj,H⟩
 ·replace H:=jI H;obtain⟨aA,H⟩:=H
  replace H:=jE H;rcases H with ⟨au,av,H⟩ | ⟨c5,au,av,H⟩
  ·obtain rfl:=oJ H
   have ae:0<=(aa:Int):=qD
   have af:aa < (l0.length:Int):=qD
   obtain⟨ai,ah,ag⟩:=Kd.at_int ax.out aa ae af
   cases ah
   replace ae:=eq_true ae
   replace af:=eq_true af
   go_wp2
   go_ret
   exact⟨qZ,qU⟩
  have H':=aM H
  clear H
  have ae:0<=(aa:Int):=qD
  have af:aa < (l0.length:Int):=qD
  obtain⟨ai,ah,ag⟩:=Kd.at_int ax.out aa ae af
  cases ah
  replace ae:=eq_true ae
  replace af:=eq_true af
  go_wp2
  go_roundg k1
  case measure=>have:=ay.out;omega
  exact⟨(wrap64 (aa+1)),qZ,H',⟨by have:=ay.out;omega⟩,by repeat (first|exact Drawn0.refl _|apply Drawn0.step)⟩
 obtain rfl:=oJ H
 go_wp2
 go_ret
 exact⟨qZ,qU⟩
def Sb0.f (k:Nat) (a0:Int) (l1:List Int):Option (Bool):=(SaS.f k l1 a0).bind fun aa=>(some aa)
theorem Sb0.calls (k:Nat) (a0:Int) (A1:Option Addr) (c1:Nat) (l1:List Int) (r:Bool) (w:World) (hr1:Kd.C (Kd.int .i64) w A1 l1.length l1) (hc1:l1.length<=c1) (h:Sb0.f k a0 l1=some r) :
  Calls Tryz.prog 124 #[.int .i64 a0,.slice A1 l1.length c1] w fun e w'=>e = .returned (.bool r)/\Drawn0 w w':=by
 have HR1:=aM hr1
 have ag:=aM hc1
 clear hr1 hc1
 have H:((SaS.f k l1 a0).bind fun aa=>(some aa))=some r:=h
 clear h
 obtain⟨aa,A3,H⟩:=qE H
 try dsimp only at H
 obtain rfl:=oJ H
 go_enter Tryz.func124,Tryz.ntmps124
 go_wp2_with (first|((with_reducible refine jc 129 7 rfl rfl ?_);refine jG Tryz.func129 #[.slice A1 l1.length c1,.int .i64 a0] ?_;refine (SaS.calls k _ _ l1 a0 aa _ ?ae ?af A3.out).mono ?_;(case ae=>exact kC HR1.out);(case af=>exact ag.out);rintro e w' ⟨rfl,⟨nd,rfl⟩⟩;refine⟨_,rfl,?_⟩))
 go_ret
 exact⟨qZ,qU⟩
mutual
def Sb1.j0:Nat->Bool->Int->Int->Int->Int->Int->Int->Int->Int->Int->Option (Int × Int × Int × Int × Int)
 | 0,_,_,_,_,_,_,_,_,_,_=>none
 | k+1,pM,xa,xb,xc,xd,xe,xf,xg,xh,xi=>if pM=true then (some (2,xb,xc,0,0)) else ((Sb5.f xh xi 1).bind fun eu=>(if eu=true then ((Sb0.f k xe (([10,11]:List Int))).bind fun dX=>(Sb1.j1 k dX xa xb xc xd xe xf xg xh xi)) else (Sb1.j1 k false xa xb xc xd xe xf xg xh xi)))
def Sb1.j1:Nat->Bool->Int->Int->Int->Int->Int->Int->Int->Int->Int->Option (Int × Int × Int × Int × Int)
 | 0,_,_,_,_,_,_,_,_,_,_=>none
 | k+1,pO,xa,xb,xc,xd,xe,xf,xg,xh,xi=>if pO=true then (some (2,xb,xc,0,0)) else ((Sb5.f xf xg 0).bind fun eB=>(if eB=true then ((Sb0.f k xe (([1,2,8]:List Int))).bind fun dY=>(Sb1.j2 k dY xa xb xc xd xe xf xg xh xi)) else (Sb1.j2 k false xa xb xc xd xe xf xg xh xi)))
def Sb1.j2:Nat->Bool->Int->Int->Int->Int->Int->Int->Int->Int->Int->Option (Int × Int × Int × Int × Int)
 | 0,_,_,_,_,_,_,_,_,_,_=>none
 | k+1,pQ,xa,xb,xc,xd,xe,xf,xg,xh,xi=>if pQ=true then (some (2,xb,xd,0,0)) else ((Sb5.f xf xg 1).bind fun eD=>(if eD=true then (Sb1.j3 k (xe == 10) xa xb xc xd xe xf xg xh xi) else (Sb1.j3 k false xa xb xc xd xe xf xg xh xi)))
def Sb1.j3:Nat->Bool->Int->Int->Int->Int->Int->Int->Int->Int->Int->Option (Int × Int × Int × Int × Int)
 | 0,_,_,_,_,_,_,_,_,_,_=>none
 | k+1,pR,xa,xb,xc,xd,xe,xf,xg,xh,xi=>if pR=true then (some (2,xb,xd,0,0)) else ((Sb5.f xf xg 0).bind fun eF=>(if eF=true then ((Sb0.f k xe (([3,10]:List Int))).bind fun eG=>(if eG=true then (some (1,xb,0,0,0)) else (some (xa,xb,xc,xd,xe)))) else ((Sb5.f xh xi 0).bind fun eH=>(if eH=true then ((Sb0.f k xe (([3,10]:List Int))).bind fun eO=>(if eO=true then (some (1,xb,0,0,0)) else (some (xa,xb,xc,xd,xe)))) else (some (xa,xb,xc,xd,xe))))))
end
def Sb1.f (k:Nat) (bA aY bq bu aZ bi bn bv bz:Int):Option (Int × Int × Int × Int × Int):=(Sb7.f k bA aY bq bu aZ bi bn bv bz).bind fun dW=>(if dW.1=1 then (some (1,aY,0,0,dW.2)) else ((Sb5.f bv bz 0).bind fun eP=>(if eP=true then ((Sb0.f k aZ (([1,2,6,7,8,9]:List Int))).bind fun dZ=>(Sb1.j0 k dZ bA aY bq bu aZ bi bn bv bz)) else (Sb1.j0 k false bA aY bq bu aZ bi bn bv bz))))
theorem Sb1_0 {G:Prop} (h:G:=by
  go_wp2_with (first|((with_reducible refine jc 114 78 rfl rfl ?_);refine jG Tryz.func114 #[.agg #[.int .i64 bi,.int .i64 bn],.int .i64 0] ?_;refine (Sb5.calls _ _ _ _ _ (Aside0.out (by assumption))).mono ?_;rintro e cB ⟨rfl,hb⟩;refine⟨_,rfl,?_⟩;replace aa:=kB aa hb;replace ae:=kB ae hb;replace ag:=kB ag hb;replace af:=kB af hb;replace ah:=kB ah hb;replace HB:=kH hb;clear hb;have cK:=av.out;have cO:=ax.out;have df:=aD.out;have dh:=aG.out;have di:=aW.out;have dn:=aX.out;have dw:=jz2 ag)|(go_at_call 114;(with_reducible refine (Sb5.calls _ _ _ _ _ (Aside0.out (by assumption))).mono ?_);rintro e eQ ⟨rfl,hb⟩;replace aa:=kB aa hb;replace ae:=kB ae hb;replace ag:=kB ag hb;replace af:=kB af hb;replace ah:=kB ah hb;replace HB:=kH hb;clear hb;have eT:=aH.out;have eU:=aI.out;have eX:=aJ.out;have eY:=aK.out;have eZ:=jz5 aa;have lQ:=aN.out;have lS:=aQ.out;have lT:=jz5 af)|((with_reducible refine jd 86 rfl ?_);(try (refine gate_guard (by rfl) ?_;dsimp only));refine jV (Kd.int .i64) 3 ([3,10]:List Int) [.int .i64 3,.int .i64 10] (Reps.one (show Kd.M (Kd.int .i64) _ _ _ 3 [.int .i64 3] from rfl) (Reps.one (show Kd.M (Kd.int .i64) _ _ _ 10 [.int .i64 10] from rfl) (Reps.none _ _))) ?_;intro fO au aV hb;(first|rw [<- bO.out] at aV|(simp only [Int.reduceToNat] at aV;rw [<- bO.out] at aV));have bB:=kL aV;replace aa:=kB aa hb;replace ae:=kB ae hb;replace ag:=kB ag hb;replace af:=kB af hb;replace ah:=kB ah hb;replace HB:=kH hb;clear hb aV;obtain⟨bJ,bK,bL⟩:=Kd.R_slice bB.out;subst bL)|(go_at_call 124;(with_reducible refine (Sb0.calls bV aZ _ _ bZ false _ ?bC ?bD fe.out).mono ?_);(case bC=>exact kC (Kd.R_reads' bB.out).2.2);(case bD=>exact (Kd.R_reads' bB.out).2.1);rintro e w' ⟨rfl,⟨nd,rfl⟩⟩;(try (rw [drewN_self au];generalize hq_:World.drewN au _=au;have dx:Aside0 (Kd.R (Kd.int .i64) 3 au w.heap.size (fun _=>True) (.slice bJ bZ.length bK) bZ):=⟨by rw [<- hq_];exact (qR bB)⟩;have dz:Aside0 (au.heap[bG]?=some (.cells #[.int .i64 bA,.int .i64 aY,.int .i64 bq,.int .i64 bu,.int .i64 aZ] 27 (0,0))):=⟨by rw [<- hq_];exact (qK aa)⟩;have dA:Aside0 (au.heap[bH]?=some (.cells #[.int .i64 bi,.int .i64 bn] 118 (0,0))):=⟨by rw [<- hq_];exact (qK ae)⟩;have dB:Aside0 (au.heap[bI]?=some (.cells #[.int .i64 bv,.int .i64 bz] 118 (0,0))):=⟨by rw [<- hq_];exact (qK ag)⟩;have dC:Aside0 (au.heap[bg]?=some (.cells #[.int .i64 0,.int .i64 0,.int .i64 0,.int .i64 0,.int .i64 0] 27 (0,0))):=⟨by rw [<- hq_];exact (qK af)⟩;have dD:Aside0 (au.heap[bF]?=some (.cells #[.int .i64 bN,.int .i64 bM] 118 (0,0))):=⟨by rw [<- hq_];exact (qK ah)⟩;have dE:Aside0 (Below w.heap.size w au):=⟨by rw [<- hq_];exact qB⟩;clear bB aa ae ag af ah HB hq_;have bB:=dx;have aa:=dz;have ae:=dA;have ag:=dB;have af:=dC;have ah:=dD;have HB:=dE;clear dx dz dA dB dC dD dE));have dF:=jz5 aa;have dG:=aN.out;have dH:=aQ.out;have fo:=jz5 af))
  refine bodyPost_ret (results_cell_row rfl _ _ bg 27 #[.int .i64 bA,.int .i64 aY,.int .i64 bq,.int .i64 bu,.int .i64 aZ] (0,0) _ rfl (qF af) Tryz.underlying27 rfl (by kernel_rfl)) rfl ?_
  exact⟨qW,qB⟩):G:=h
theorem Sb1_1 {G:Prop} (h:G:=by
  go_wp2_with (first|((with_reducible refine jc 114 23 rfl rfl ?_);refine jG Tryz.func114 #[.agg #[.int .i64 bv,.int .i64 bz],.int .i64 0] ?_;refine (Sb5.calls _ _ _ _ _ (Aside0.out (by assumption))).mono ?_;rintro e pV ⟨rfl,hb⟩;refine⟨_,rfl,?_⟩;replace aa:=kB aa hb;replace ae:=kB ae hb;replace ag:=kB ag hb;replace af:=kB af hb;replace ah:=aM (blk_below (g:=bF) (o:=.cells #[.int .i64 bN,.int .i64 bM] 118 (0,0)) (qF ah) hb);replace HB:=kH hb;clear hb;have pW:=ai.out;have pX:=aj.out;have pY:=aH.out;have p9:=aI.out;have qb:=aJ.out;have qc:=aK.out;have qd:=jz5 aa)|((with_reducible refine jd 27 rfl ?_);(try (refine gate_guard (by rfl) ?_;dsimp only));refine jV (Kd.int .i64) 3 ([1,2,6,7,8,9]:List Int) [.int .i64 1,.int .i64 2,.int .i64 6,.int .i64 7,.int .i64 8,.int .i64 9] (Reps.one (show Kd.M (Kd.int .i64) _ _ _ 1 [.int .i64 1] from rfl) (Reps.one (show Kd.M (Kd.int .i64) _ _ _ 2 [.int .i64 2] from rfl) (Reps.one (show Kd.M (Kd.int .i64) _ _ _ 6 [.int .i64 6] from rfl) (Reps.one (show Kd.M (Kd.int .i64) _ _ _ 7 [.int .i64 7] from rfl) (Reps.one (show Kd.M (Kd.int .i64) _ _ _ 8 [.int .i64 8] from rfl) (Reps.one (show Kd.M (Kd.int .i64) _ _ _ 9 [.int .i64 9] from rfl) (Reps.none _ _))))))) ?_;intro qf qg dI hb;(first|rw [<- bW.out] at dI|(simp only [Int.reduceToNat] at dI;rw [<- bW.out] at dI));have dJ:=kL dI;replace aa:=kB aa hb;replace ae:=kB ae hb;replace ag:=kB ag hb;replace af:=kB af hb;replace ah:=kB ah hb;replace HB:=kH hb;clear hb dI;obtain⟨qh,qi,fP⟩:=Kd.R_slice dJ.out;subst fP)|(go_at_call 124;(with_reducible refine (Sb0.calls k aZ _ _ fQ dZ _ ?bC ?bD qj.out).mono ?_);(case bC=>exact kC (Kd.R_reads' dJ.out).2.2);(case bD=>exact (Kd.R_reads' dJ.out).2.1);rintro e w' ⟨rfl,⟨nd,rfl⟩⟩))
  go_meet
  exact⟨_,_,qZ,H',⟨by first|omega|exact Nat.le_refl _⟩,⟨qK aa⟩,⟨qK ae⟩,⟨qK ag⟩,⟨qK af⟩,⟨qK ah⟩,⟨qB⟩⟩):G:=h
theorem Sb1_2 {G:Prop} (h:G:=by
  go_wp2_with (first|((with_reducible refine jc 114 51 rfl rfl ?_);refine jG Tryz.func114 #[.agg #[.int .i64 bi,.int .i64 bn],.int .i64 0] ?_;refine (Sb5.calls _ _ _ _ _ (Aside0.out (by assumption))).mono ?_;rintro e lU ⟨rfl,hb⟩;refine⟨_,rfl,?_⟩;replace aa:=kB aa hb;replace ae:=kB ae hb;replace ag:=kB ag hb;replace af:=kB af hb;replace ah:=kB ah hb;replace HB:=kH hb;clear hb;have lV:=ax.out;have lW:=av.out;have lX:=aH.out;have lY:=aI.out;have lZ:=aJ.out;have l8:=aK.out;have l9:=jz5 aa)|((with_reducible refine jd 55 rfl ?_);(try (refine gate_guard (by rfl) ?_;dsimp only));refine jV (Kd.int .i64) 3 ([1,2,8]:List Int) [.int .i64 1,.int .i64 2,.int .i64 8] (Reps.one (show Kd.M (Kd.int .i64) _ _ _ 1 [.int .i64 1] from rfl) (Reps.one (show Kd.M (Kd.int .i64) _ _ _ 2 [.int .i64 2] from rfl) (Reps.one (show Kd.M (Kd.int .i64) _ _ _ 8 [.int .i64 8] from rfl) (Reps.none _ _)))) ?_;intro ql ma bS hb;(first|rw [<- bX.out] at bS|(simp only [Int.reduceToNat] at bS;rw [<- bX.out] at bS));have dK:=kL bS;replace aa:=kB aa hb;replace ae:=kB ae hb;replace ag:=kB ag hb;replace af:=kB af hb;replace ah:=kB ah hb;replace HB:=kH hb;clear hb bS;obtain⟨mf,mg,fq⟩:=Kd.R_slice dK.out;subst fq)|(go_at_call 124;(with_reducible refine (Sb0.calls fu aZ _ _ fT dY _ ?bC ?bD fU.out).mono ?_);(case bC=>exact kC (Kd.R_reads' dK.out).2.2);(case bD=>exact (Kd.R_reads' dK.out).2.1);rintro e w' ⟨rfl,⟨nd,rfl⟩⟩))
  go_meet
  exact⟨_,_,qZ,H',⟨by have:=d9.out;have:=fw.out;first|omega|exact Nat.le_refl _⟩,⟨qK aa⟩,⟨qK ae⟩,⟨qK ag⟩,⟨qK af⟩,⟨qK ah⟩,⟨qB⟩⟩):G:=h
theorem Sb1_3 {G:Prop} (h:G:=by
  go_wp2_with (first|((with_reducible refine jc 114 37 rfl rfl ?_);refine jG Tryz.func114 #[.agg #[.int .i64 bv,.int .i64 bz],.int .i64 1] ?_;refine (Sb5.calls _ _ _ _ _ (Aside0.out (by assumption))).mono ?_;rintro e qm ⟨rfl,hb⟩;refine⟨_,rfl,?_⟩;replace aa:=kB aa hb;replace ae:=kB ae hb;replace ag:=kB ag hb;replace af:=kB af hb;replace ah:=kB ah hb;replace HB:=kH hb;clear hb;have qo:=ai.out;have qp:=aj.out;have qw:=aH.out;have qx:=aI.out;have qy:=aJ.out;have qz:=aK.out;have qC:=jz5 aa)|((with_reducible refine jd 41 rfl ?_);(try (refine gate_guard (by rfl) ?_;dsimp only));refine jV (Kd.int .i64) 3 ([10,11]:List Int) [.int .i64 10,.int .i64 11] (Reps.one (show Kd.M (Kd.int .i64) _ _ _ 10 [.int .i64 10] from rfl) (Reps.one (show Kd.M (Kd.int .i64) _ _ _ 11 [.int .i64 11] from rfl) (Reps.none _ _))) ?_;intro qG qJ dL hb;(first|rw [<- bY.out] at dL|(simp only [Int.reduceToNat] at dL;rw [<- bY.out] at dL));have dM:=kL dL;replace aa:=kB aa hb;replace ae:=kB ae hb;replace ag:=kB ag hb;replace af:=kB af hb;replace ah:=kB ah hb;replace HB:=kH hb;clear hb dL;obtain⟨qO,qX,fV⟩:=Kd.R_slice dM.out;subst fV)|(go_at_call 124;(with_reducible refine (Sb0.calls fA aZ _ _ fZ dX _ ?bC ?bD qY.out).mono ?_);(case bC=>exact kC (Kd.R_reads' dM.out).2.2);(case bD=>exact (Kd.R_reads' dM.out).2.1);rintro e w' ⟨rfl,⟨nd,rfl⟩⟩))
  go_meet
  exact⟨_,_,qZ,H',⟨by have:=d9.out;first|omega|exact Nat.le_refl _⟩,⟨qK aa⟩,⟨qK ae⟩,⟨qK ag⟩,⟨qK af⟩,⟨qK ah⟩,⟨qB⟩⟩):G:=h
theorem Sb1_4 {G:Prop} (h:G:=by
  go_wp2_with (first|((with_reducible refine jc 114 65 rfl rfl ?_);refine jG Tryz.func114 #[.agg #[.int .i64 bi,.int .i64 bn],.int .i64 1] ?_;refine (Sb5.calls _ _ _ _ _ (Aside0.out (by assumption))).mono ?_;rintro e mh ⟨rfl,hb⟩;refine⟨_,rfl,?_⟩;replace aa:=kB aa hb;replace ae:=kB ae hb;replace ag:=kB ag hb;replace af:=kB af hb;replace ah:=kB ah hb;replace HB:=kH hb;clear hb;have mi:=ax.out;have mo:=av.out;have mq:=aH.out;have mr:=aI.out;have mD:=aJ.out;have mE:=aK.out;have mF:=jz5 aa))
  go_meet
  exact⟨_,_,qZ,H',⟨by have:=d9.out;have:=fw.out;have:=fB.out;first|omega|exact Nat.le_refl _⟩,⟨qK aa⟩,⟨qK ae⟩,⟨qK ag⟩,⟨qK af⟩,⟨qK ah⟩,⟨qB⟩⟩):G:=h
theorem Sb1.calls (k:Nat) (bA aY bq bu aZ bi bn bv bz r1 r2 r3 r4 r5:Int) (w:World) (h:Sb1.f k bA aY bq bu aZ bi bn bv bz=some (r1,r2,r3,r4,r5)) :
  Calls Tryz.prog 113 #[.agg #[.int .i64 bA,.int .i64 aY,.int .i64 bq,.int .i64 bu,.int .i64 aZ],.agg #[.int .i64 bi,.int .i64 bn],.agg #[.int .i64 bv,.int .i64 bz]] w fun e w'=>e = .returned (.agg #[.int .i64 r1,.int .i64 r2,.int .i64 r3,.int .i64 r4,.int .i64 r5])/\Below w.heap.size w w':=by
 have q9:=Tryz.underlying27
 have mG:=Tryz.underlying118
 have HB:=aM (Below.refl w.heap.size w)
 have H:=h;unfold Sb1.f at H
 clear h
 obtain⟨⟨bN,bM⟩,A4,H⟩:=qE H
 try dsimp only at H
 replace H:=jE H;rcases H with ⟨dN,dO,H⟩ | ⟨c5,dN,dO,H⟩
 ·obtain⟨rfl,rfl,rfl,rfl,rfl⟩:=oJ5 H
  go_enter Tryz.func113,Tryz.ntmps113
  go_wp2_with (first|((with_reducible refine jd 3 rfl ?_);(try (refine gate_guard (by rfl) ?_;dsimp only));refine jX _ 27 ?_;intro bG hg rf hbox hb;have aa:=aM hbox;have fC:=kG hg;replace HB:=kH hb;clear hb hbox hg)|((with_reducible refine jd 4 rfl ?_);(try (refine gate_guard (by rfl) ?_;dsimp only));refine jX _ 118 ?_;intro bH hg ru hbox hb;have ae:=aM hbox;have fD:=kG hg;have ai:=kN hg aa;have aj:=kM hg aa;replace aa:=kB aa hb;replace HB:=kH hb;clear hb hbox hg)|((with_reducible refine jd 5 rfl ?_);(try (refine gate_guard (by rfl) ?_;dsimp only));refine jX _ 118 ?_;intro bI hg ry hbox hb;have ag:=aM hbox;have fE:=kG hg;have ax:=kN hg aa;have av:=kM hg aa;have ay:=kN hg ae;have az:=kM hg ae;replace aa:=kB aa hb;replace ae:=kB ae hb;replace HB:=kH hb;clear hb hbox hg)|((with_reducible refine jd 6 rfl ?_);(try (refine gate_guard (by rfl) ?_;dsimp only));refine jX _ 27 ?_;intro bg hg rA hbox hb;have af:=aM hbox;have fF:=kG hg;have aH:=kN hg aa;have aI:=kM hg aa;have aA:=kN hg ae;have aC:=kM hg ae;have aD:=kN hg ag;have aG:=kM hg ag;replace aa:=kB aa hb;replace ae:=kB ae hb;replace ag:=kB ag hb;replace HB:=kH hb;clear hb hbox hg;have rC:=ai.out;have rD:=aj.out;have rE:=ax.out;have rF:=av.out;have rG:=aH.out;have rH:=aI.out;have rJ:=jz5 aa;have rM:=ay.out;have rO:=az.out;have rP:=aA.out;have rQ:=aC.out;have rR:=jz2 ae;have rT:=aD.out;have rU:=aG.out;have rV:=jz2 ag)|((with_reducible refine jc 123 11 rfl rfl ?_);refine jG Tryz.func123 #[.agg #[.int .i64 bA,.int .i64 aY,.int .i64 bq,.int .i64 bu,.int .i64 aZ],.agg #[.int .i64 bi,.int .i64 bn],.agg #[.int .i64 bv,.int .i64 bz]] ?_;refine (Sb7.calls _ _ _ _ _ _ _ _ _ _ _ _ _ (Aside0.out (by assumption))).mono ?_;rintro e rW ⟨rfl,hb⟩;refine⟨_,rfl,?_⟩;replace aa:=kB aa hb;replace ae:=kB ae hb;replace ag:=kB ag hb;replace af:=kB af hb;replace HB:=kH hb;clear hb)|((with_reducible refine jd 7 rfl ?_);(try (refine gate_guard (by rfl) ?_;dsimp only));refine jX _ 118 ?_;intro bF hg rX hbox hb;have ah:=aM hbox;have fG:=kG hg;have aJ:=kN hg aa;have aK:=kM hg aa;have aT:=kN hg ae;have aU:=kM hg ae;have aW:=kN hg ag;have aX:=kM hg ag;have aN:=kN hg af;have aQ:=kM hg af;replace aa:=kB aa hb;replace ae:=kB ae hb;replace ag:=kB ag hb;replace af:=kB af hb;replace HB:=kH hb;clear hb hbox hg;have rY:=aK.out;have rZ:=aJ.out;have si:=aU.out;have sj:=aT.out;have su:=aX.out;have sw:=aW.out;have sD:=aQ.out;have sF:=aN.out;have sG:=jz2 ah;have sH:=jz5 aa;have sI:=jz5 af))
  refine bodyPost_ret (results_cell_row rfl _ _ bg 27 #[.int .i64 1,.int .i64 aY,.int .i64 0,.int .i64 0,.int .i64 bM] (0,0) _ rfl (qF af) Tryz.underlying27 rfl (by kernel_rfl)) rfl ?_
  exact⟨qW,qB⟩
 have ed:=aM H
 clear H
 go_enter Tryz.func113,Tryz.ntmps113
 go_upto_region 4 with (first|((with_reducible refine jd 3 rfl ?_);(try (refine gate_guard (by rfl) ?_;dsimp only));refine jX _ 27 ?_;intro bG hg sV hbox hb;have aa:=aM hbox;have fC:=kG hg;replace HB:=kH hb;clear hb hbox hg)|((with_reducible refine jd 4 rfl ?_);(try (refine gate_guard (by rfl) ?_;dsimp only));refine jX _ 118 ?_;intro bH hg sW hbox hb;have ae:=aM hbox;have fD:=kG hg;have ai:=kN hg aa;have aj:=kM hg aa;replace aa:=kB aa hb;replace HB:=kH hb;clear hb hbox hg)|((with_reducible refine jd 5 rfl ?_);(try (refine gate_guard (by rfl) ?_;dsimp only));refine jX _ 118 ?_;intro bI hg sZ hbox hb;have ag:=aM hbox;have fE:=kG hg;have ax:=kN hg aa;have av:=kM hg aa;have ay:=kN hg ae;have az:=kM hg ae;replace aa:=kB aa hb;replace ae:=kB ae hb;replace HB:=kH hb;clear hb hbox hg)|((with_reducible refine jd 6 rfl ?_);(try (refine gate_guard (by rfl) ?_;dsimp only));refine jX _ 27 ?_;intro bg hg w32 hbox hb;have af:=aM hbox;have fF:=kG hg;have aH:=kN hg aa;have aI:=kM hg aa;have aA:=kN hg ae;have aC:=kM hg ae;have aD:=kN hg ag;have aG:=kM hg ag;replace aa:=kB aa hb;replace ae:=kB ae hb;replace ag:=kB ag hb;replace HB:=kH hb;clear hb hbox hg;have mH:=ai.out;have mI:=aj.out;have mJ:=ax.out;have mK:=av.out;have mO:=aH.out;have mQ:=aI.out;have dR:=jz5 aa;have mR:=ay.out;have mU:=az.out;have mV:=aA.out;have mW:=aC.out;have dS:=jz2 ae;have mX:=aD.out;have mY:=aG.out;have dU:=jz2 ag)|((with_reducible refine jc 123 11 rfl rfl ?_);refine jG Tryz.func123 #[.agg #[.int .i64 bA,.int .i64 aY,.int .i64 bq,.int .i64 bu,.int .i64 aZ],.agg #[.int .i64 bi,.int .i64 bn],.agg #[.int .i64 bv,.int .i64 bz]] ?_;refine (Sb7.calls k bA aY bq bu aZ bi bn bv bz bN bM _ A4.out).mono ?_;rintro e tq ⟨rfl,hb⟩;refine⟨_,rfl,?_⟩;replace aa:=kB aa hb;replace ae:=kB ae hb;replace ag:=kB ag hb;replace af:=kB af hb;replace HB:=kH hb;clear hb)|((with_reducible refine jd 7 rfl ?_);(try (refine gate_guard (by rfl) ?_;dsimp only));refine jX _ 118 ?_;intro bF hg tu hbox hb;have ah:=aM hbox;have fG:=kG hg;have aJ:=kN hg aa;have aK:=kM hg aa;have aT:=kN hg ae;have aU:=kM hg ae;have aW:=kN hg ag;have aX:=kM hg ag;have aN:=kN hg af;have aQ:=kM hg af;replace aa:=kB aa hb;replace ae:=kB ae hb;replace ag:=kB ag hb;replace af:=kB af hb;replace HB:=kH hb;clear hb hbox hg;have mZ:=aK.out;have ng:=aJ.out;have ni:=aU.out;have nk:=aT.out;have nu:=aX.out;have ny:=aW.out;have nz:=aQ.out;have nA:=aN.out;have dV:=jz2 ah))
 (try simp only [Act.put,List.setIfInBounds_toArray,List.set_cons_zero,List.set_cons_succ])
 go_cut [21] (fun v21 wc=>∃ (kq:Nat) (bT:Bool),v21 = .bool bT/\Aside0 (Sb1.j0 kq bT bA aY bq bu aZ bi bn bv bz=some (r1,r2,r3,r4,r5))/\Aside0 (kq<=k)/\Aside0 (wc.heap[bG]?=some (.cells #[.int .i64 bA,.int .i64 aY,.int .i64 bq,.int .i64 bu,.int .i64 aZ] 27 (0,0)))/\Aside0 (wc.heap[bH]?=some (.cells #[.int .i64 bi,.int .i64 bn] 118 (0,0)))/\Aside0 (wc.heap[bI]?=some (.cells #[.int .i64 bv,.int .i64 bz] 118 (0,0)))/\Aside0 (wc.heap[bg]?=some (.cells #[.int .i64 0,.int .i64 0,.int .i64 0,.int .i64 0,.int .i64 0] 27 (0,0)))/\Aside0 (wc.heap[bF]?=some (.cells #[.int .i64 bN,.int .i64 bM] 118 (0,0)))/\Aside0 (Below w.heap.size w wc))
 case first =>
  have H:=ed.out
  clear ed
  obtain⟨eP,tC,H⟩:=qE H
  try dsimp only at H
  replace H:=jB H;rcases H with ⟨rfl,H⟩ | ⟨rfl,H⟩
  ·obtain⟨fQ,bW⟩:=ky ((([1,2,6,7,8,9]:List Int)):List Int)
   first|replace H:=kz bW H|rw [<- bW.out] at H
   obtain⟨dZ,qj,H⟩:=qE H
   try dsimp only at H
   have H':=aM H
   clear H
   have nC:=av.out
   have nD:=ax.out
   have nE:=az.out
   have nG:=ay.out
   have nH:=aD.out
   have nI:=aG.out
   have nJ:=aW.out
   have nK:=aX.out
   have sJ:=jz2 ag
   exact Sb1_1
  have H':=aM H
  clear H
  have nL:=av.out
  have nM:=ax.out
  have nN:=az.out
  have nO:=ay.out
  have nP:=aD.out
  have nQ:=aG.out
  have nR:=aW.out
  have nS:=aX.out
  have sK:=jz2 ag
  exact Sb1_1
 clear ed
 try clear c5;try clear dN;try clear dO;try clear dR;try clear dS;try clear dU;try clear dV
 obtain⟨kq,bT,rfl,HA,d9,aa,ae,ag,af,ah,HB⟩:=hcut
 cases kq with
 | zero=>exact absurd HA.out (by simp [Sb1.j0])
 | succ fA =>
  have H:=HA.out
  clear HA
  simp only [Sb1.j0] at H
  replace H:=jB H;rcases H with ⟨rfl,H⟩ | ⟨rfl,H⟩
  ·obtain⟨rfl,rfl,rfl,rfl,rfl⟩:=oJ5 H
   have nT:=ai.out
   have nU:=aj.out
   have nV:=ax.out
   have nW:=av.out
   have nX:=aH.out
   have nY:=aI.out
   have nZ:=aJ.out
   have oh:=aK.out
   have sM:=jz5 aa
   have ol:=aC.out
   have oo:=aA.out
   have ou:=aG.out
   have ow:=aD.out
   have oz:=aN.out
   have oC:=aQ.out
   have sN:=jz5 af
   go_wp2
   refine bodyPost_ret (results_cell_row rfl _ _ bg 27 #[.int .i64 2,.int .i64 aY,.int .i64 bq,.int .i64 0,.int .i64 0] (0,0) _ rfl (qF af) Tryz.underlying27 rfl (by kernel_rfl)) rfl ?_
   exact⟨qW,qB⟩
  have ek:=aM H
  clear H
  go_upto_region 6 with (fail)
  go_cut [35] (fun v35 wc=>∃ (kq:Nat) (bU:Bool),v35 = .bool bU/\Aside0 (Sb1.j1 kq bU bA aY bq bu aZ bi bn bv bz=some (r1,r2,r3,r4,r5))/\Aside0 (kq<=fA)/\Aside0 (wc.heap[bG]?=some (.cells #[.int .i64 bA,.int .i64 aY,.int .i64 bq,.int .i64 bu,.int .i64 aZ] 27 (0,0)))/\Aside0 (wc.heap[bH]?=some (.cells #[.int .i64 bi,.int .i64 bn] 118 (0,0)))/\Aside0 (wc.heap[bI]?=some (.cells #[.int .i64 bv,.int .i64 bz] 118 (0,0)))/\Aside0 (wc.heap[bg]?=some (.cells #[.int .i64 0,.int .i64 0,.int .i64 0,.int .i64 0,.int .i64 0] 27 (0,0)))/\Aside0 (wc.heap[bF]?=some (.cells #[.int .i64 bN,.int .i64 bM] 118 (0,0)))/\Aside0 (Below w.heap.size w wc))
  case first =>
   have H:=ek.out
   clear ek
   obtain⟨eu,tF,H⟩:=qE H
   try dsimp only at H
   replace H:=jB H;rcases H with ⟨rfl,H⟩ | ⟨rfl,H⟩
   ·obtain⟨fZ,bY⟩:=ky ((([10,11]:List Int)):List Int)
    first|replace H:=kz bY H|rw [<- bY.out] at H
    obtain⟨dX,qY,H⟩:=qE H
    try dsimp only at H
    have H':=aM H
    clear H
    have oD:=av.out
    have oF:=ax.out
    have oG:=az.out
    have oH:=ay.out
    have oI:=aD.out
    have oK:=aG.out
    have oL:=aW.out
    have oM:=aX.out
    have sO:=jz2 ag
    exact Sb1_3
   have H':=aM H
   clear H
   have oN:=av.out
   have oO:=ax.out
   have oP:=az.out
   have oQ:=ay.out
   have gm:=aD.out
   have gp:=aG.out
   have gq:=aW.out
   have gu:=aX.out
   have oU:=jz2 ag
   exact Sb1_3
  clear ek
  try clear c5;try clear dN;try clear dO;try clear dR;try clear dS;try clear dU;try clear dV
  obtain⟨kq,bU,rfl,HA,fw,aa,ae,ag,af,ah,HB⟩:=hcut
  cases kq with
  | zero=>exact absurd HA.out (by simp [Sb1.j1])
  | succ fu =>
   have H:=HA.out
   clear HA
   simp only [Sb1.j1] at H
   replace H:=jB H;rcases H with ⟨rfl,H⟩ | ⟨rfl,H⟩
   ·obtain⟨rfl,rfl,rfl,rfl,rfl⟩:=oJ5 H
    have gz:=ai.out
    have gB:=aj.out
    have gD:=ax.out
    have gF:=av.out
    have gG:=aH.out
    have gH:=aI.out
    have gI:=aJ.out
    have gJ:=aK.out
    have oV:=jz5 aa
    have gK:=aC.out
    have gL:=aA.out
    have gM:=aG.out
    have gN:=aD.out
    have gP:=aN.out
    have gQ:=aQ.out
    have oW:=jz5 af
    go_wp2
    refine bodyPost_ret (results_cell_row rfl _ _ bg 27 #[.int .i64 2,.int .i64 aY,.int .i64 bq,.int .i64 0,.int .i64 0] (0,0) _ rfl (qF af) Tryz.underlying27 rfl (by kernel_rfl)) rfl ?_
    exact⟨qW,qB⟩
   have dP:=aM H
   clear H
   go_upto_region 8 with (fail)
   go_cut [49] (fun v49 wc=>∃ (kq:Nat) (bQ:Bool),v49 = .bool bQ/\Aside0 (Sb1.j2 kq bQ bA aY bq bu aZ bi bn bv bz=some (r1,r2,r3,r4,r5))/\Aside0 (kq<=fu)/\Aside0 (wc.heap[bG]?=some (.cells #[.int .i64 bA,.int .i64 aY,.int .i64 bq,.int .i64 bu,.int .i64 aZ] 27 (0,0)))/\Aside0 (wc.heap[bH]?=some (.cells #[.int .i64 bi,.int .i64 bn] 118 (0,0)))/\Aside0 (wc.heap[bI]?=some (.cells #[.int .i64 bv,.int .i64 bz] 118 (0,0)))/\Aside0 (wc.heap[bg]?=some (.cells #[.int .i64 0,.int .i64 0,.int .i64 0,.int .i64 0,.int .i64 0] 27 (0,0)))/\Aside0 (wc.heap[bF]?=some (.cells #[.int .i64 bN,.int .i64 bM] 118 (0,0)))/\Aside0 (Below w.heap.size w wc))
   case first =>
    have H:=dP.out
    clear dP
    obtain⟨eB,sP,H⟩:=qE H
    try dsimp only at H
    replace H:=jB H;rcases H with ⟨rfl,H⟩ | ⟨rfl,H⟩
    ·obtain⟨fT,bX⟩:=ky ((([1,2,8]:List Int)):List Int)
     first|replace H:=kz bX H|rw [<- bX.out] at H
     obtain⟨dY,fU,H⟩:=qE H
     try dsimp only at H
     have H':=aM H
     clear H
     have gT:=aj.out
     have gU:=ai.out
     have gV:=ay.out
     have gW:=az.out
     have gX:=aA.out
     have gY:=aC.out
     have gZ:=aT.out
     have ib:=aU.out
     have oZ:=jz2 ae
     exact Sb1_2
    have H':=aM H
    clear H
    have ic:=aj.out
    have ig:=ai.out
    have ik:=ay.out
    have il:=az.out
    have iq:=aA.out
    have iw:=aC.out
    have iy:=aT.out
    have iA:=aU.out
    have o5:=jz2 ae
    exact Sb1_2
   clear dP
   try clear c5;try clear dN;try clear dO;try clear dR;try clear dS;try clear dU;try clear dV
   obtain⟨kq,bQ,rfl,HA,fB,aa,ae,ag,af,ah,HB⟩:=hcut
   cases kq with
   | zero=>exact absurd HA.out (by simp [Sb1.j2])
   | succ fH =>
    have H:=HA.out
    clear HA
    simp only [Sb1.j2] at H
    replace H:=jB H;rcases H with ⟨rfl,H⟩ | ⟨rfl,H⟩
    ·obtain⟨rfl,rfl,rfl,rfl,rfl⟩:=oJ5 H
     have iB:=ai.out
     have iC:=aj.out
     have iD:=ax.out
     have iE:=av.out
     have iF:=aH.out
     have iG:=aI.out
     have iH:=aJ.out
     have iI:=aK.out
     have o6:=jz5 aa
     have iJ:=aC.out
     have iK:=aA.out
     have iL:=aG.out
     have iM:=aD.out
     have iN:=aN.out
     have iO:=aQ.out
     have o7:=jz5 af
     go_wp2
     refine bodyPost_ret (results_cell_row rfl _ _ bg 27 #[.int .i64 2,.int .i64 aY,.int .i64 bu,.int .i64 0,.int .i64 0] (0,0) _ rfl (qF af) Tryz.underlying27 rfl (by kernel_rfl)) rfl ?_
     exact⟨qW,qB⟩
    have dQ:=aM H
    clear H
    go_upto_region 10 with (fail)
    go_cut [63] (fun v63 wc=>∃ (kq:Nat) (bR:Bool),v63 = .bool bR/\Aside0 (Sb1.j3 kq bR bA aY bq bu aZ bi bn bv bz=some (r1,r2,r3,r4,r5))/\Aside0 (kq<=fH)/\Aside0 (wc.heap[bG]?=some (.cells #[.int .i64 bA,.int .i64 aY,.int .i64 bq,.int .i64 bu,.int .i64 aZ] 27 (0,0)))/\Aside0 (wc.heap[bH]?=some (.cells #[.int .i64 bi,.int .i64 bn] 118 (0,0)))/\Aside0 (wc.heap[bI]?=some (.cells #[.int .i64 bv,.int .i64 bz] 118 (0,0)))/\Aside0 (wc.heap[bg]?=some (.cells #[.int .i64 0,.int .i64 0,.int .i64 0,.int .i64 0,.int .i64 0] 27 (0,0)))/\Aside0 (wc.heap[bF]?=some (.cells #[.int .i64 bN,.int .i64 bM] 118 (0,0)))/\Aside0 (Below w.heap.size w wc))
    case first =>
     have H:=dQ.out
     clear dQ
     obtain⟨eD,sQ,H⟩:=qE H
     try dsimp only at H
     replace H:=jB H;rcases H with ⟨rfl,H⟩ | ⟨rfl,H⟩
     ·have H':=aM H
      clear H
      have iP:=aj.out
      have iQ:=ai.out
      have iR:=ay.out
      have iT:=az.out
      have iU:=aA.out
      have iV:=aC.out
      have iW:=aT.out
      have iX:=aU.out
      have o8:=jz2 ae
      exact Sb1_4
     have H':=aM H
     clear H
     have iY:=aj.out
     have iZ:=ai.out
     have ja:=ay.out
     have je:=az.out
     have jf:=aA.out
     have jg:=aC.out
     have jh:=aT.out
     have jk:=aU.out
     have o9:=jz2 ae
     exact Sb1_4
    clear dQ
    try clear c5;try clear dN;try clear dO;try clear dR;try clear dS;try clear dU;try clear dV
    obtain⟨kq,bR,rfl,HA,pq,aa,ae,ag,af,ah,HB⟩:=hcut
    cases kq with
    | zero=>exact absurd HA.out (by simp [Sb1.j3])
    | succ bV =>
     have H:=HA.out
     clear HA
     simp only [Sb1.j3] at H
     replace H:=jB H;rcases H with ⟨rfl,H⟩ | ⟨rfl,H⟩
     ·obtain⟨rfl,rfl,rfl,rfl,rfl⟩:=oJ5 H
      have jl:=ai.out
      have jm:=aj.out
      have jo:=ax.out
      have jr:=av.out
      have jv:=aH.out
      have jw:=aI.out
      have jy:=aJ.out
      have jA:=aK.out
      have pz:=jz5 aa
      have jH:=aC.out
      have jK:=aA.out
      have jM:=aG.out
      have jN:=aD.out
      have jO:=aN.out
      have jQ:=aQ.out
      have pE:=jz5 af
      go_wp2
      refine bodyPost_ret (results_cell_row rfl _ _ bg 27 #[.int .i64 2,.int .i64 aY,.int .i64 bu,.int .i64 0,.int .i64 0] (0,0) _ rfl (qF af) Tryz.underlying27 rfl (by kernel_rfl)) rfl ?_
      exact⟨qW,qB⟩
     obtain⟨eF,sS,H⟩:=qE H
     try dsimp only at H
     replace H:=jB H;rcases H with ⟨rfl,H⟩ | ⟨rfl,H⟩
     ·obtain⟨cz,bP⟩:=ky ((([3,10]:List Int)):List Int)
      first|replace H:=kz bP H|rw [<- bP.out] at H
      obtain⟨eG,fI,H⟩:=qE H
      try dsimp only at H
      replace H:=jB H;rcases H with ⟨rfl,H⟩ | ⟨rfl,H⟩
      ·obtain⟨rfl,rfl,rfl,rfl,rfl⟩:=oJ5 H
       have jS:=aj.out
       have jT:=ai.out
       have jW:=ay.out
       have jY:=az.out
       have jZ:=aA.out
       have j4:=aC.out
       have j5:=aT.out
       have j6:=aU.out
       have pF:=jz2 ae
       go_wp2_with (first|((with_reducible refine jc 114 78 rfl rfl ?_);refine jG Tryz.func114 #[.agg #[.int .i64 bi,.int .i64 bn],.int .i64 0] ?_;refine (Sb5.calls _ _ _ _ _ (Aside0.out (by assumption))).mono ?_;rintro e cB ⟨rfl,hb⟩;refine⟨_,rfl,?_⟩;replace aa:=kB aa hb;replace ae:=kB ae hb;replace ag:=kB ag hb;replace af:=kB af hb;replace ah:=kB ah hb;replace HB:=kH hb;clear hb;have cK:=ax.out;have cO:=av.out;have df:=aH.out;have dh:=aI.out;have di:=aJ.out;have dn:=aK.out;have dw:=jz5 aa)|((with_reducible refine jd 86 rfl ?_);(try (refine gate_guard (by rfl) ?_;dsimp only));refine jV (Kd.int .i64) 3 ([3,10]:List Int) [.int .i64 3,.int .i64 10] (Reps.one (show Kd.M (Kd.int .i64) _ _ _ 3 [.int .i64 3] from rfl) (Reps.one (show Kd.M (Kd.int .i64) _ _ _ 10 [.int .i64 10] from rfl) (Reps.none _ _))) ?_;intro kg au aV hb;(first|rw [<- bP.out] at aV|(simp only [Int.reduceToNat] at aV;rw [<- bP.out] at aV));have bE:=kL aV;replace aa:=kB aa hb;replace ae:=kB ae hb;replace ag:=kB ag hb;replace af:=kB af hb;replace ah:=kB ah hb;replace HB:=kH hb;clear hb aV;obtain⟨bJ,bK,bL⟩:=Kd.R_slice bE.out;subst bL)|(go_at_call 124;(with_reducible refine (Sb0.calls bV aZ _ _ cz true _ ?bC ?bD fI.out).mono ?_);(case bC=>exact kC (Kd.R_reads' bE.out).2.2);(case bD=>exact (Kd.R_reads' bE.out).2.1);rintro e w' ⟨rfl,⟨nd,rfl⟩⟩;(try (rw [drewN_self au];generalize hq_:World.drewN au _=au;have dx:Aside0 (Kd.R (Kd.int .i64) 3 au w.heap.size (fun _=>True) (.slice bJ cz.length bK) cz):=⟨by rw [<- hq_];exact (qR bE)⟩;have dz:Aside0 (au.heap[bG]?=some (.cells #[.int .i64 bA,.int .i64 aY,.int .i64 bq,.int .i64 bu,.int .i64 aZ] 27 (0,0))):=⟨by rw [<- hq_];exact (qK aa)⟩;have dA:Aside0 (au.heap[bH]?=some (.cells #[.int .i64 bi,.int .i64 bn] 118 (0,0))):=⟨by rw [<- hq_];exact (qK ae)⟩;have dB:Aside0 (au.heap[bI]?=some (.cells #[.int .i64 bv,.int .i64 bz] 118 (0,0))):=⟨by rw [<- hq_];exact (qK ag)⟩;have dC:Aside0 (au.heap[bg]?=some (.cells #[.int .i64 0,.int .i64 0,.int .i64 0,.int .i64 0,.int .i64 0] 27 (0,0))):=⟨by rw [<- hq_];exact (qK af)⟩;have dD:Aside0 (au.heap[bF]?=some (.cells #[.int .i64 bN,.int .i64 bM] 118 (0,0))):=⟨by rw [<- hq_];exact (qK ah)⟩;have dE:Aside0 (Below w.heap.size w au):=⟨by rw [<- hq_];exact qB⟩;clear bE aa ae ag af ah HB hq_;have bE:=dx;have aa:=dz;have ae:=dA;have ag:=dB;have af:=dC;have ah:=dD;have HB:=dE;clear dx dz dA dB dC dD dE));have dF:=jz5 aa;have dG:=aG.out;have dH:=aD.out;have fJ:=aN.out;have fK:=aQ.out;have fM:=jz5 af))
       refine bodyPost_ret (results_cell_row rfl _ _ bg 27 #[.int .i64 1,.int .i64 aY,.int .i64 0,.int .i64 0,.int .i64 0] (0,0) _ rfl (qF af) Tryz.underlying27 rfl (by kernel_rfl)) rfl ?_
       exact⟨qW,qB⟩
      obtain⟨rfl,rfl,rfl,rfl,rfl⟩:=oJ5 H
      have ko:=aj.out
      have kr:=ai.out
      have ku:=ay.out
      have kv:=az.out
      have kw:=aA.out
      have kD:=aC.out
      have kE:=aT.out
      have kF:=aU.out
      have pG:=jz2 ae
      go_wp2_with (first|((with_reducible refine jc 114 78 rfl rfl ?_);refine jG Tryz.func114 #[.agg #[.int .i64 bi,.int .i64 bn],.int .i64 0] ?_;refine (Sb5.calls _ _ _ _ _ (Aside0.out (by assumption))).mono ?_;rintro e cB ⟨rfl,hb⟩;refine⟨_,rfl,?_⟩;replace aa:=kB aa hb;replace ae:=kB ae hb;replace ag:=kB ag hb;replace af:=kB af hb;replace ah:=kB ah hb;replace HB:=kH hb;clear hb;have cK:=ax.out;have cO:=av.out;have df:=aH.out;have dh:=aI.out;have di:=aJ.out;have dn:=aK.out;have dw:=jz5 aa)|((with_reducible refine jd 86 rfl ?_);(try (refine gate_guard (by rfl) ?_;dsimp only));refine jV (Kd.int .i64) 3 ([3,10]:List Int) [.int .i64 3,.int .i64 10] (Reps.one (show Kd.M (Kd.int .i64) _ _ _ 3 [.int .i64 3] from rfl) (Reps.one (show Kd.M (Kd.int .i64) _ _ _ 10 [.int .i64 10] from rfl) (Reps.none _ _))) ?_;intro kg au aV hb;(first|rw [<- bP.out] at aV|(simp only [Int.reduceToNat] at aV;rw [<- bP.out] at aV));have bE:=kL aV;replace aa:=kB aa hb;replace ae:=kB ae hb;replace ag:=kB ag hb;replace af:=kB af hb;replace ah:=kB ah hb;replace HB:=kH hb;clear hb aV;obtain⟨bJ,bK,bL⟩:=Kd.R_slice bE.out;subst bL)|(go_at_call 124;(with_reducible refine (Sb0.calls bV aZ _ _ cz false _ ?bC ?bD fI.out).mono ?_);(case bC=>exact kC (Kd.R_reads' bE.out).2.2);(case bD=>exact (Kd.R_reads' bE.out).2.1);rintro e w' ⟨rfl,⟨nd,rfl⟩⟩;(try (rw [drewN_self au];generalize hq_:World.drewN au _=au;have dx:Aside0 (Kd.R (Kd.int .i64) 3 au w.heap.size (fun _=>True) (.slice bJ cz.length bK) cz):=⟨by rw [<- hq_];exact (qR bE)⟩;have dz:Aside0 (au.heap[bG]?=some (.cells #[.int .i64 bA,.int .i64 aY,.int .i64 bq,.int .i64 bu,.int .i64 aZ] 27 (0,0))):=⟨by rw [<- hq_];exact (qK aa)⟩;have dA:Aside0 (au.heap[bH]?=some (.cells #[.int .i64 bi,.int .i64 bn] 118 (0,0))):=⟨by rw [<- hq_];exact (qK ae)⟩;have dB:Aside0 (au.heap[bI]?=some (.cells #[.int .i64 bv,.int .i64 bz] 118 (0,0))):=⟨by rw [<- hq_];exact (qK ag)⟩;have dC:Aside0 (au.heap[bg]?=some (.cells #[.int .i64 0,.int .i64 0,.int .i64 0,.int .i64 0,.int .i64 0] 27 (0,0))):=⟨by rw [<- hq_];exact (qK af)⟩;have dD:Aside0 (au.heap[bF]?=some (.cells #[.int .i64 bN,.int .i64 bM] 118 (0,0))):=⟨by rw [<- hq_];exact (qK ah)⟩;have dE:Aside0 (Below w.heap.size w au):=⟨by rw [<- hq_];exact qB⟩;clear bE aa ae ag af ah HB hq_;have bE:=dx;have aa:=dz;have ae:=dA;have ag:=dB;have af:=dC;have ah:=dD;have HB:=dE;clear dx dz dA dB dC dD dE));have dF:=jz5 aa;have dG:=aG.out;have dH:=aD.out;have fJ:=aN.out;have fK:=aQ.out;have fM:=jz5 af))
      refine bodyPost_ret (results_cell_row rfl _ _ bg 27 #[.int .i64 bA,.int .i64 aY,.int .i64 bq,.int .i64 bu,.int .i64 aZ] (0,0) _ rfl (qF af) Tryz.underlying27 rfl (by kernel_rfl)) rfl ?_
      exact⟨qW,qB⟩
     obtain⟨eH,sU,H⟩:=qE H
     try dsimp only at H
     replace H:=jB H;rcases H with ⟨rfl,H⟩ | ⟨rfl,H⟩
     ·obtain⟨bZ,bO⟩:=ky ((([3,10]:List Int)):List Int)
      first|replace H:=kz bO H|rw [<- bO.out] at H
      obtain⟨eO,fe,H⟩:=qE H
      try dsimp only at H
      replace H:=jB H;rcases H with ⟨rfl,H⟩ | ⟨rfl,H⟩
      ·obtain⟨rfl,rfl,rfl,rfl,rfl⟩:=oJ5 H
       have kJ:=aj.out
       have kP:=ai.out
       have kU:=ay.out
       have kV:=az.out
       have kX:=aA.out
       have kY:=aC.out
       have kZ:=aT.out
       have lc:=aU.out
       have pI:=jz2 ae
       go_wp2_with (first|((with_reducible refine jc 114 78 rfl rfl ?_);refine jG Tryz.func114 #[.agg #[.int .i64 bi,.int .i64 bn],.int .i64 0] ?_;refine (Sb5.calls _ _ _ _ _ (Aside0.out (by assumption))).mono ?_;rintro e cB ⟨rfl,hb⟩;refine⟨_,rfl,?_⟩;replace aa:=kB aa hb;replace ae:=kB ae hb;replace ag:=kB ag hb;replace af:=kB af hb;replace ah:=kB ah hb;replace HB:=kH hb;clear hb;have cK:=av.out;have cO:=ax.out;have df:=aD.out;have dh:=aG.out;have di:=aW.out;have dn:=aX.out;have dw:=jz2 ag)|(go_at_call 114;(with_reducible refine (Sb5.calls _ _ _ _ _ (Aside0.out (by assumption))).mono ?_);rintro e eQ ⟨rfl,hb⟩;replace aa:=kB aa hb;replace ae:=kB ae hb;replace ag:=kB ag hb;replace af:=kB af hb;replace ah:=kB ah hb;replace HB:=kH hb;clear hb;have eT:=aH.out;have eU:=aI.out;have eX:=aJ.out;have eY:=aK.out;have eZ:=jz5 aa)|((with_reducible refine jd 86 rfl ?_);(try (refine gate_guard (by rfl) ?_;dsimp only));refine jV (Kd.int .i64) 3 ([3,10]:List Int) [.int .i64 3,.int .i64 10] (Reps.one (show Kd.M (Kd.int .i64) _ _ _ 3 [.int .i64 3] from rfl) (Reps.one (show Kd.M (Kd.int .i64) _ _ _ 10 [.int .i64 10] from rfl) (Reps.none _ _))) ?_;intro fO au aV hb;(first|rw [<- bO.out] at aV|(simp only [Int.reduceToNat] at aV;rw [<- bO.out] at aV));have bB:=kL aV;replace aa:=kB aa hb;replace ae:=kB ae hb;replace ag:=kB ag hb;replace af:=kB af hb;replace ah:=kB ah hb;replace HB:=kH hb;clear hb aV;obtain⟨bJ,bK,bL⟩:=Kd.R_slice bB.out;subst bL)|(go_at_call 124;(with_reducible refine (Sb0.calls bV aZ _ _ bZ true _ ?bC ?bD fe.out).mono ?_);(case bC=>exact kC (Kd.R_reads' bB.out).2.2);(case bD=>exact (Kd.R_reads' bB.out).2.1);rintro e w' ⟨rfl,⟨nd,rfl⟩⟩;(try (rw [drewN_self au];generalize hq_:World.drewN au _=au;have dx:Aside0 (Kd.R (Kd.int .i64) 3 au w.heap.size (fun _=>True) (.slice bJ bZ.length bK) bZ):=⟨by rw [<- hq_];exact (qR bB)⟩;have dz:Aside0 (au.heap[bG]?=some (.cells #[.int .i64 bA,.int .i64 aY,.int .i64 bq,.int .i64 bu,.int .i64 aZ] 27 (0,0))):=⟨by rw [<- hq_];exact (qK aa)⟩;have dA:Aside0 (au.heap[bH]?=some (.cells #[.int .i64 bi,.int .i64 bn] 118 (0,0))):=⟨by rw [<- hq_];exact (qK ae)⟩;have dB:Aside0 (au.heap[bI]?=some (.cells #[.int .i64 bv,.int .i64 bz] 118 (0,0))):=⟨by rw [<- hq_];exact (qK ag)⟩;have dC:Aside0 (au.heap[bg]?=some (.cells #[.int .i64 0,.int .i64 0,.int .i64 0,.int .i64 0,.int .i64 0] 27 (0,0))):=⟨by rw [<- hq_];exact (qK af)⟩;have dD:Aside0 (au.heap[bF]?=some (.cells #[.int .i64 bN,.int .i64 bM] 118 (0,0))):=⟨by rw [<- hq_];exact (qK ah)⟩;have dE:Aside0 (Below w.heap.size w au):=⟨by rw [<- hq_];exact qB⟩;clear bB aa ae ag af ah HB hq_;have bB:=dx;have aa:=dz;have ae:=dA;have ag:=dB;have af:=dC;have ah:=dD;have HB:=dE;clear dx dz dA dB dC dD dE));have dF:=jz5 aa;have dG:=aN.out;have dH:=aQ.out;have fo:=jz5 af))
       refine bodyPost_ret (results_cell_row rfl _ _ bg 27 #[.int .i64 1,.int .i64 aY,.int .i64 0,.int .i64 0,.int .i64 0] (0,0) _ rfl (qF af) Tryz.underlying27 rfl (by kernel_rfl)) rfl ?_
       exact⟨qW,qB⟩
      obtain⟨rfl,rfl,rfl,rfl,rfl⟩:=oJ5 H
      have lg:=aj.out
      have lh:=ai.out
      have ll:=ay.out
      have lu:=az.out
      have lw:=aA.out
      have lC:=aC.out
      have lD:=aT.out
      have lF:=aU.out
      have pJ:=jz2 ae
      exact Sb1_0
     obtain⟨rfl,rfl,rfl,rfl,rfl⟩:=oJ5 H
     have lG:=aj.out
     have lH:=ai.out
     have lI:=ay.out
     have lJ:=az.out
     have lK:=aA.out
     have lL:=aC.out
     have lM:=aT.out
     have lN:=aU.out
     have pK:=jz2 ae
     exact Sb1_0
def Sb4.f (k:Nat) (aN aQ au ay aT:Int) (l1:List (S118)) (a2:Int):Option (Int × Int × Int × Int × Int):=if 0 < (l1.length:Int) then (if ((rd_T118 l1 0).f0)=0 then (some (aN,aQ,au,ay,aT)) else (if aN=2 then (if 0<=au then (if au < (l1.length:Int) then (if ((rd_T118 l1 au).f0)=1 then (some (1,aQ,0,0,(rd_T118 l1 au).f1)) else (some (aN,aQ,au,ay,aT))) else (none)) else (none)) else (if aN=3 then (if 0<=au then (if au < (l1.length:Int) then (if 0<=ay then (if ay < (l1.length:Int) then ((Sb1.f k aN aQ au ay aT ((rd_T118 l1 au).f0) ((rd_T118 l1 au).f1) ((rd_T118 l1 ay).f0) ((rd_T118 l1 ay).f1)).bind fun bE=>(some (bE.1,bE.2.1,bE.2.2.1,bE.2.2.2.1,bE.2.2.2.2))) else (none)) else (none)) else (none)) else (none)) else (if aN=5 then (if 0<=au then (if au < (l1.length:Int) then ((Sb5.f ((rd_T118 l1 au).f0) ((rd_T118 l1 au).f1) 0).bind fun cz=>(if cz=true then (some (4,0,0,0,aT)) else (if ((rd_T118 l1 au).f0)=1 then (some (4,0,0,0,wrap64 (a2+1))) else (some (aN,aQ,au,ay,aT))))) else (none)) else (none)) else (some (aN,aQ,au,ay,aT)))))) else (none)
def Sb4.T6:Bool × List (List Nat × List Nat):=(true,[([],[]),([0],[0]),([],[]),([],[]),([3],[3]),([2,4],[2,4]),([5],[5]),([6],[6]),([1,7],[1,7]),([8,0,1,2,3,4,5,6,7,8],[8])])
def Sb4.B6:List Nat:=[0,1,0,0,8,28,60,124,255,511]
theorem Sb4.tab6:rtab .any (opsOf Tryz.f98 6)=Sb4.T6:=by kernel_rfl
theorem Sb4.bits6:waitsOk Sb4.T6.2 Sb4.B6=true:=by kernel_rfl
def Sb4.T8:Bool × List (List Nat × List Nat):=(true,[([],[]),([],[]),([],[]),([2],[2]),([1,3],[1,3]),([4],[4]),([],[]),([],[]),([7],[7]),([6,8],[6,8]),([9],[9]),([0,5,10],[0,5,10]),([11,11,0,1,2,3,4,5,6,7,8,9,10,11],[11])])
def Sb4.B8:List Nat:=[0,0,0,4,14,30,0,0,128,448,960,2047,4095]
theorem Sb4.tab8:rtab .any (opsOf Tryz.f98 8)=Sb4.T8:=by kernel_rfl
theorem Sb4.bits8:waitsOk Sb4.T8.2 Sb4.B8=true:=by kernel_rfl
theorem Sb4_0 {G:Prop} (h:G:=by
  go_enter Tryz.func98,Tryz.ntmps98
  go_wp2_with (first|((with_reducible refine jd 3 rfl ?_);refine jX _ 27 ?_;intro aC hg bL hbox hb;have af:=aM hbox;have bC:=kG hg;replace HB:=kH hb;clear hb hbox hg)|((with_reducible refine jd 6 rfl ?_);refine jX _ 27 ?_;intro ae hg bF hbox hb;have aj:=aM hbox;have av:=kG hg;have aa:=kN hg af;have ai:=kM hg af;replace af:=kB af hb;replace HB:=kH hb;clear hb hbox hg;have az:0<=(0:Int):=(by omega);have aA:0 < (l1.length:Int):=qD;obtain⟨ax,bg,ag,ah⟩:=at_T118 HR1.out 0 az aA;cases bg;have bD:(0 < l1.length)=True:=eq_true (by omega);(try rw [show ((0:Int)).toNat=0 from rfl] at ag);(try rw [show 0*2=0 from rfl] at ag);(try rw [Addr.add_zero'] at ag);(try rw [show ((0:Int)).toNat=0 from rfl] at ah);(try rw [show 0*2=0 from rfl] at ah);(try rw [Addr.add_zero'] at ah);replace ag:=kx HB ag;replace ah:=kx HB ah;replace az:=eq_true az;replace aA:=eq_true aA;have bM:=aa.out;have bN:=ai.out;have bO:=jz5 af;have eH:=jz5 aj))
  refine bodyPost_ret (results_cell_row rfl _ _ ae 27 #[.int .i64 aN,.int .i64 aQ,.int .i64 au,.int .i64 ay,.int .i64 aT] (0,0) _ rfl (qF aj) Tryz.underlying27 rfl (by kernel_rfl)) rfl ?_
  exact⟨qW,qB⟩):G:=h
theorem Sb4.calls (k:Nat) (aN aQ au ay aT:Int) (A1:Option Addr) (c1:Nat) (l1:List (S118)) (a2 r1 r2 r3 r4 r5:Int) (w:World) (hr1:Kd.C k118 w A1 l1.length l1) (hc1:l1.length<=c1) (h:Sb4.f k aN aQ au ay aT l1 a2=some (r1,r2,r3,r4,r5)) :
  Calls Tryz.prog 98 #[.agg #[.int .i64 aN,.int .i64 aQ,.int .i64 au,.int .i64 ay,.int .i64 aT],.slice A1 l1.length c1,.int .i64 a2] w fun e w'=>e = .returned (.agg #[.int .i64 r1,.int .i64 r2,.int .i64 r3,.int .i64 r4,.int .i64 r5])/\Below w.heap.size w w':=by
 have fM:=Tryz.underlying27
 have eX:=Tryz.underlying118
 have HR1:=aM hr1
 have gD:=aM hc1
 clear hr1 hc1
 have HB:=aM (Below.refl w.heap.size w)
 have H:=h;unfold Sb4.f at H
 clear h
 replace H:=jU H;obtain⟨c4,H⟩:=H
 have fO:=decide_eq_true c4
 have fP:decide (0 < l1.length)=true:=decide_eq_true (by omega)
 clear c4
 replace H:=jE H;rcases H with ⟨eO,eP,H⟩ | ⟨c5,eO,eP,H⟩
 ·obtain⟨rfl,rfl,rfl,rfl,rfl⟩:=oJ5 H
  exact Sb4_0
 replace H:=jE H;rcases H with ⟨cB,cK,H⟩ | ⟨c11,cB,cK,H⟩
 ·replace H:=jI H;obtain⟨eY,H⟩:=H
  replace H:=jI H;obtain⟨eZ,H⟩:=H
  replace H:=jE H;rcases H with ⟨cO,df,H⟩ | ⟨c14,cO,df,H⟩
  ·obtain⟨rfl,rfl,rfl,rfl,rfl⟩:=oJ5 H
   go_enter Tryz.func98,Tryz.ntmps98
   try go_wp2_with (first|((with_reducible refine jd 3 rfl ?_);refine jX _ 27 ?_;intro aC hg bL hbox hb;have af:=aM hbox;have bC:=kG hg;replace HB:=kH hb;clear hb hbox hg)|((with_reducible refine jd 6 rfl ?_);refine jX _ 27 ?_;intro ae hg bF hbox hb;have aj:=aM hbox;have av:=kG hg;have aa:=kN hg af;have ai:=kM hg af;replace af:=kB af hb;replace HB:=kH hb;clear hb hbox hg;have az:0<=(0:Int):=(by omega);have aA:0 < (l1.length:Int):=qD;obtain⟨ax,bg,ag,ah⟩:=at_T118 HR1.out 0 az aA;cases bg;have bD:(0 < l1.length)=True:=eq_true (by omega);(try rw [show ((0:Int)).toNat=0 from rfl] at ag);(try rw [show 0*2=0 from rfl] at ag);(try rw [Addr.add_zero'] at ag);(try rw [show ((0:Int)).toNat=0 from rfl] at ah);(try rw [show 0*2=0 from rfl] at ah);(try rw [Addr.add_zero'] at ah);replace ag:=kx HB ag;replace ah:=kx HB ah;replace az:=eq_true az;replace aA:=eq_true aA;have bM:=aa.out;have bN:=ai.out;have bO:=jz5 af;have bH:0<=(au:Int):=qD;have bI:au < (l1.length:Int):=qD;obtain⟨bP,bS,aW,aX⟩:=at_T118 HR1.out au bH bI;obtain rfl:ax=bP:=(by injection bS);replace aW:=kx HB aW;replace aX:=kx HB aX;replace bH:=eq_true bH;replace bI:=eq_true bI))
   replace af:=aM (blk_drew af.out)
   replace aj:=aM (blk_drew aj.out)
   replace HB:=aM (below_drew1 HB.out)
   have bT:0<=(au:Int):=qD
   have bU:au < (l1.length:Int):=qD
   obtain⟨dh,eQ,bi,bn⟩:=at_T118 HR1.out au bT bU
   have aU:=bn
   have aV:=bi
   obtain rfl:ax=dh:=(by injection eQ)
   replace bi:=kx HB bi
   replace bn:=kx HB bn
   replace bT:=eq_true bT
   replace bU:=eq_true bU
   refine start_ (n:=10) (S:=fun w'=>w'.cell? ⟨aC,0,none⟩=some (.int .i64 aN)/\w'.cell? ⟨aC,1,none⟩=some (.int .i64 aQ)/\w'.cell? ⟨aC,2,none⟩=some (.int .i64 au)/\w'.cell? ⟨aC,3,none⟩=some (.int .i64 ay)/\w'.cell? ⟨aC,4,none⟩=some (.int .i64 aT)/\w'.cell? (ax.add ((au).toNat*2))=some (.int .i64 ((rd_T118 l1 au).f0))/\w'.cell? ⟨(ax.add ((au).toNat*2)).block,(ax.add ((au).toNat*2)).off+1,none⟩=some (.int .i64 ((rd_T118 l1 au).f1))) (ds:=[]) (jb 10 0) (by kernel_rfl) rfl rfl ⟨(blk_cell af.out 0).trans rfl,(blk_cell af.out 1).trans rfl,(blk_cell af.out 2).trans rfl,(blk_cell af.out 3).trans rfl,(blk_cell af.out 4).trans rfl,(kx HB aV),(kx HB aU)⟩ (fun hHeld=>?_);refine with_tabW Sb4.tab6 Sb4.bits6 (fun HT_ HW_=>?_)
   generalize bF.drew=di at af aj HB bi bn hHeld ⊢
   refine jp 0 24 (jb 10 1) ?_
   refine jp 2 26 (jb 10 5) ?_
   refine jp 3 27 (jb 10 13) ?_
   refine jt 1 25 (jb 10 15) ?_
   refine jt 4 28 (jb 10 31) ?_
   refine jp 5 29 (jb 10 63) ?_
   refine jp 6 30 (jb 10 127) ?_
   refine jt 7 31 (jb 10 255) ?_
   refine jp 8 32 (jb 10 511) ?_
   refine one_ (i:=9) (N:=none) (jb 10 1023) rfl rfl (one_of HT_.out (by kernel_rfl)) (by decide) (fun K hK=>?_)
   have fQ:di.cell? ⟨ae,0,none⟩=some (.int .i64 0):=(blk_cell aj.out 0).trans rfl
   have fe:=blk_frozen aj.out 0
   have dN:=aa.out
   have dO:=ai.out
   have fT:di.cell? ⟨ae,1,none⟩=some (.int .i64 0):=(blk_cell aj.out 1).trans rfl
   have fo:=blk_frozen aj.out 1
   have dP:=aa.out
   have dQ:=ai.out
   have fU:di.cell? ⟨ae,2,none⟩=some (.int .i64 0):=(blk_cell aj.out 2).trans rfl
   have fq:=blk_frozen aj.out 2
   have dR:=aa.out
   have dS:=ai.out
   have fV:di.cell? ⟨ae,3,none⟩=some (.int .i64 0):=(blk_cell aj.out 3).trans rfl
   have fu:=blk_frozen aj.out 3
   have dU:=aa.out
   have dV:=ai.out
   have fZ:di.cell? ⟨ae,4,none⟩=some (.int .i64 0):=(blk_cell aj.out 4).trans rfl
   have fw:=blk_frozen aj.out 4
   have dW:=aa.out
   have dX:=ai.out
   refine skip_ (w1:=?_) (by rfl) rfl ?_ ?_
   rotate_left
   ·go_simp
    rfl
   refine hK.out _ _ ⟨((cell_far (p:=⟨ae,_,none⟩) aa.out _).trans (((cell_far (p:=⟨ae,_,none⟩) aa.out _).trans (((cell_far (p:=⟨ae,_,none⟩) aa.out _).trans (((cell_far (p:=⟨ae,_,none⟩) aa.out _).trans (((cell_far (p:=⟨ae,_,none⟩) aa.out _).trans (hHeld.1)))))))))),((cell_far (p:=⟨ae,_,none⟩) aa.out _).trans (((cell_far (p:=⟨ae,_,none⟩) aa.out _).trans (((cell_far (p:=⟨ae,_,none⟩) aa.out _).trans (((cell_far (p:=⟨ae,_,none⟩) aa.out _).trans (((cell_far (p:=⟨ae,_,none⟩) aa.out _).trans (hHeld.2.1)))))))))),((cell_far (p:=⟨ae,_,none⟩) aa.out _).trans (((cell_far (p:=⟨ae,_,none⟩) aa.out _).trans (((cell_far (p:=⟨ae,_,none⟩) aa.out _).trans (((cell_far (p:=⟨ae,_,none⟩) aa.out _).trans (((cell_far (p:=⟨ae,_,none⟩) aa.out _).trans (hHeld.2.2.1)))))))))),((cell_far (p:=⟨ae,_,none⟩) aa.out _).trans (((cell_far (p:=⟨ae,_,none⟩) aa.out _).trans (((cell_far (p:=⟨ae,_,none⟩) aa.out _).trans (((cell_far (p:=⟨ae,_,none⟩) aa.out _).trans (((cell_far (p:=⟨ae,_,none⟩) aa.out _).trans (hHeld.2.2.2.1)))))))))),((cell_far (p:=⟨ae,_,none⟩) aa.out _).trans (((cell_far (p:=⟨ae,_,none⟩) aa.out _).trans (((cell_far (p:=⟨ae,_,none⟩) aa.out _).trans (((cell_far (p:=⟨ae,_,none⟩) aa.out _).trans (((cell_far (p:=⟨ae,_,none⟩) aa.out _).trans (hHeld.2.2.2.2.1)))))))))),((cell_far (p:=⟨ae,_,none⟩) (kf (kn aV av)) _).trans (((cell_far (p:=⟨ae,_,none⟩) (kf (kn aV av)) _).trans (((cell_far (p:=⟨ae,_,none⟩) (kf (kn aV av)) _).trans (((cell_far (p:=⟨ae,_,none⟩) (kf (kn aV av)) _).trans (((cell_far (p:=⟨ae,_,none⟩) (kf (kn aV av)) _).trans (hHeld.2.2.2.2.2.1)))))))))),((cell_far (p:=⟨ae,_,none⟩) (kf (kn aU av)) _).trans (((cell_far (p:=⟨ae,_,none⟩) (kf (kn aU av)) _).trans (((cell_far (p:=⟨ae,_,none⟩) (kf (kn aU av)) _).trans (((cell_far (p:=⟨ae,_,none⟩) (kf (kn aU av)) _).trans (((cell_far (p:=⟨ae,_,none⟩) (kf (kn aU av)) _).trans (hHeld.2.2.2.2.2.2))))))))))⟩ (fun hHeld=>?_)
   clear hK K
   refine done_ (done_of HT_.out (by kernel_rfl)) ?_
   try go_wp2
   refine bodyPost_ret (results_cell_row rfl _ _ ae 27 #[.int .i64 1,.int .i64 aQ,.int .i64 0,.int .i64 0,.int .i64 ((rd_T118 l1 au).f1)] (0,0) _ rfl (qF aj) Tryz.underlying27 rfl (by kernel_rfl)) rfl ?_
   exact⟨qW,qB⟩
  obtain⟨rfl,rfl,rfl,rfl,rfl⟩:=oJ5 H
  go_enter Tryz.func98,Tryz.ntmps98
  go_wp2_with (first|((with_reducible refine jd 3 rfl ?_);refine jX _ 27 ?_;intro aC hg bL hbox hb;have af:=aM hbox;have bC:=kG hg;replace HB:=kH hb;clear hb hbox hg)|((with_reducible refine jd 6 rfl ?_);refine jX _ 27 ?_;intro ae hg bF hbox hb;have aj:=aM hbox;have av:=kG hg;have aa:=kN hg af;have ai:=kM hg af;replace af:=kB af hb;replace HB:=kH hb;clear hb hbox hg;have az:0<=(0:Int):=(by omega);have aA:0 < (l1.length:Int):=qD;obtain⟨ax,bg,ag,ah⟩:=at_T118 HR1.out 0 az aA;cases bg;have bD:(0 < l1.length)=True:=eq_true (by omega);(try rw [show ((0:Int)).toNat=0 from rfl] at ag);(try rw [show 0*2=0 from rfl] at ag);(try rw [Addr.add_zero'] at ag);(try rw [show ((0:Int)).toNat=0 from rfl] at ah);(try rw [show 0*2=0 from rfl] at ah);(try rw [Addr.add_zero'] at ah);replace ag:=kx HB ag;replace ah:=kx HB ah;replace az:=eq_true az;replace aA:=eq_true aA;have bM:=aa.out;have bN:=ai.out;have bO:=jz5 af;have bH:0<=(au:Int):=qD;have bI:au < (l1.length:Int):=qD;obtain⟨bP,bS,aW,aX⟩:=at_T118 HR1.out au bH bI;obtain rfl:ax=bP:=(by injection bS);replace aW:=kx HB aW;replace aX:=kx HB aX;replace bH:=eq_true bH;replace bI:=eq_true bI;have eH:=jz5 aj))
  refine bodyPost_ret (results_cell_row rfl _ _ ae 27 #[.int .i64 aN,.int .i64 aQ,.int .i64 au,.int .i64 ay,.int .i64 aT] (0,0) _ rfl (qF aj) Tryz.underlying27 rfl (by kernel_rfl)) rfl ?_
  exact⟨qW,qB⟩
 replace H:=jE H;rcases H with ⟨dn,dw,H⟩ | ⟨gF,dn,dw,H⟩
 ·replace H:=jI H;obtain⟨fA,H⟩:=H
  replace H:=jI H;obtain⟨fB,H⟩:=H
  replace H:=jI H;obtain⟨fC,H⟩:=H
  replace H:=jI H;obtain⟨fD,H⟩:=H
  obtain⟨⟨dx,dz,dA,dB,dC⟩,gm,H⟩:=qE H
  try dsimp only at H
  obtain⟨rfl,rfl,rfl,rfl,rfl⟩:=oJ5 H
  go_enter Tryz.func98,Tryz.ntmps98
  try go_wp2_with (first|((with_reducible refine jd 3 rfl ?_);refine jX _ 27 ?_;intro aC hg bL hbox hb;have af:=aM hbox;have bC:=kG hg;replace HB:=kH hb;clear hb hbox hg)|((with_reducible refine jd 6 rfl ?_);refine jX _ 27 ?_;intro ae hg bF hbox hb;have aj:=aM hbox;have av:=kG hg;have aa:=kN hg af;have ai:=kM hg af;replace af:=kB af hb;replace HB:=kH hb;clear hb hbox hg;have az:0<=(0:Int):=(by omega);have aA:0 < (l1.length:Int):=qD;obtain⟨ax,bg,ag,ah⟩:=at_T118 HR1.out 0 az aA;cases bg;have bD:(0 < l1.length)=True:=eq_true (by omega);(try rw [show ((0:Int)).toNat=0 from rfl] at ag);(try rw [show 0*2=0 from rfl] at ag);(try rw [Addr.add_zero'] at ag);(try rw [show ((0:Int)).toNat=0 from rfl] at ah);(try rw [show 0*2=0 from rfl] at ah);(try rw [Addr.add_zero'] at ah);replace ag:=kx HB ag;replace ah:=kx HB ah;replace az:=eq_true az;replace aA:=eq_true aA;have bM:=aa.out;have bN:=ai.out;have bO:=jz5 af))
  replace af:=aM (blk_drew af.out)
  replace aj:=aM (blk_drew aj.out)
  replace HB:=aM (below_drew1 HB.out)
  have bV:0<=(au:Int):=qD
  have bW:au < (l1.length:Int):=qD
  obtain⟨dD,eT,bq,bu⟩:=at_T118 HR1.out au bV bW
  have aH:=bu
  have aI:=bq
  obtain rfl:ax=dD:=(by injection eT)
  replace bq:=kx HB bq
  replace bu:=kx HB bu
  replace bV:=eq_true bV
  replace bW:=eq_true bW
  have bX:0<=(ay:Int):=qD
  have bY:ay < (l1.length:Int):=qD
  obtain⟨dE,eU,bv,bz⟩:=at_T118 HR1.out ay bX bY
  have aJ:=bz
  have aK:=bv
  obtain rfl:ax=dE:=(by injection eU)
  replace bv:=kx HB bv
  replace bz:=kx HB bz
  replace bX:=eq_true bX
  replace bY:=eq_true bY
  refine start_ (n:=13) (S:=fun w'=>w'.cell? ⟨aC,0,none⟩=some (.int .i64 aN)/\w'.cell? ⟨aC,1,none⟩=some (.int .i64 aQ)/\w'.cell? ⟨aC,2,none⟩=some (.int .i64 au)/\w'.cell? ⟨aC,3,none⟩=some (.int .i64 ay)/\w'.cell? ⟨aC,4,none⟩=some (.int .i64 aT)/\w'.cell? (ax.add ((au).toNat*2))=some (.int .i64 ((rd_T118 l1 au).f0))/\w'.cell? ⟨(ax.add ((au).toNat*2)).block,(ax.add ((au).toNat*2)).off+1,none⟩=some (.int .i64 ((rd_T118 l1 au).f1))/\w'.cell? (ax.add ((ay).toNat*2))=some (.int .i64 ((rd_T118 l1 ay).f0))/\w'.cell? ⟨(ax.add ((ay).toNat*2)).block,(ax.add ((ay).toNat*2)).off+1,none⟩=some (.int .i64 ((rd_T118 l1 ay).f1))) (ds:=[]) (jb 13 0) (by kernel_rfl) rfl rfl ⟨(blk_cell af.out 0).trans rfl,(blk_cell af.out 1).trans rfl,(blk_cell af.out 2).trans rfl,(blk_cell af.out 3).trans rfl,(blk_cell af.out 4).trans rfl,(kx HB aI),(kx HB aH),(kx HB aK),(kx HB aJ)⟩ (fun hHeld=>?_);refine with_tabW Sb4.tab8 Sb4.bits8 (fun HT_ HW_=>?_)
  generalize bF.drew=gG at af aj HB bq bu bv bz hHeld ⊢
  refine jp 1 36 (jb 13 2) ?_
  refine jp 2 37 (jb 13 6) ?_
  refine jp 6 41 (jb 13 70) ?_
  refine jp 7 42 (jb 13 198) ?_
  refine jt 0 35 (jb 13 199) ?_
  refine jt 3 38 (jb 13 207) ?_
  refine jp 4 39 (jb 13 223) ?_
  refine jt 5 40 (jb 13 255) ?_
  refine jt 8 43 (jb 13 511) ?_
  refine jp 9 44 (jb 13 1023) ?_
  refine jt 10 45 (jb 13 2047) ?_
  refine one_ (i:=11) (N:=some 46) (jb 13 4095) rfl rfl (one_of HT_.out (by kernel_rfl)) (by decide) (fun K hK=>?_)
  refine goes_ Tryz.func113 (by kernel_rfl) rfl #[.agg #[.int .i64 aN,.int .i64 aQ,.int .i64 au,.int .i64 ay,.int .i64 aT],.agg #[.int .i64 ((rd_T118 l1 au).f0),.int .i64 ((rd_T118 l1 au).f1)],.agg #[.int .i64 ((rd_T118 l1 ay).f0),.int .i64 ((rd_T118 l1 ay).f1)]] (by rfl) rfl rfl qM ?_
  with_reducible refine (Sb1.calls k aN aQ au ay aT ((rd_T118 l1 au).f0) ((rd_T118 l1 au).f1) ((rd_T118 l1 ay).f0) ((rd_T118 l1 ay).f1) dx dz dA dB dC _ gm.out).mono ?_
  rintro e dF ⟨rfl,hb⟩
  refine⟨_,rfl,?_⟩
  replace af:=kB af hb
  replace aj:=kB aj hb
  replace HB:=kH hb
  (try clear hb)
  (try clear hb2)
  (try clear hk)
  (try clear hi)
  refine hK.out _ _ ⟨(blk_cell af.out 0).trans rfl,(blk_cell af.out 1).trans rfl,(blk_cell af.out 2).trans rfl,(blk_cell af.out 3).trans rfl,(blk_cell af.out 4).trans rfl,(kx HB aI),(kx HB aH),(kx HB aK),(kx HB aJ)⟩ (fun hHeld=>?_)
  clear hK K
  refine norm_ (a':=?_) ?_ ?_
  rotate_left
  ·show Act.put _ (some 46) _=_
   simp only [Act.put,List.setIfInBounds_toArray,List.set_cons_zero,List.set_cons_succ,i64_w,i32_w]
   rfl
  refine one_ (i:=12) (N:=none) (jb 13 8191) rfl rfl (one_of HT_.out (by kernel_rfl)) (by decide) (fun K hK=>?_)
  have gp:dF.cell? ⟨ae,0,none⟩=some (.int .i64 0):=(blk_cell aj.out 0).trans rfl
  have fE:=blk_frozen aj.out 0
  have dY:=aa.out
  have dZ:=ai.out
  have gq:dF.cell? ⟨ae,1,none⟩=some (.int .i64 0):=(blk_cell aj.out 1).trans rfl
  have fF:=blk_frozen aj.out 1
  have d9:=aa.out
  have ed:=ai.out
  have gu:dF.cell? ⟨ae,2,none⟩=some (.int .i64 0):=(blk_cell aj.out 2).trans rfl
  have fG:=blk_frozen aj.out 2
  have ek:=aa.out
  have eu:=ai.out
  have gz:dF.cell? ⟨ae,3,none⟩=some (.int .i64 0):=(blk_cell aj.out 3).trans rfl
  have fH:=blk_frozen aj.out 3
  have eB:=aa.out
  have eD:=ai.out
  have gB:dF.cell? ⟨ae,4,none⟩=some (.int .i64 0):=(blk_cell aj.out 4).trans rfl
  have fI:=blk_frozen aj.out 4
  have eF:=aa.out
  have eG:=ai.out
  refine skip_ (w1:=?_) (by rfl) rfl ?_ ?_
  rotate_left
  ·go_simp
   rfl
  refine hK.out _ _ ⟨((cell_far (p:=⟨ae,_,none⟩) aa.out _).trans (((cell_far (p:=⟨ae,_,none⟩) aa.out _).trans (((cell_far (p:=⟨ae,_,none⟩) aa.out _).trans (((cell_far (p:=⟨ae,_,none⟩) aa.out _).trans (((cell_far (p:=⟨ae,_,none⟩) aa.out _).trans (hHeld.1)))))))))),((cell_far (p:=⟨ae,_,none⟩) aa.out _).trans (((cell_far (p:=⟨ae,_,none⟩) aa.out _).trans (((cell_far (p:=⟨ae,_,none⟩) aa.out _).trans (((cell_far (p:=⟨ae,_,none⟩) aa.out _).trans (((cell_far (p:=⟨ae,_,none⟩) aa.out _).trans (hHeld.2.1)))))))))),((cell_far (p:=⟨ae,_,none⟩) aa.out _).trans (((cell_far (p:=⟨ae,_,none⟩) aa.out _).trans (((cell_far (p:=⟨ae,_,none⟩) aa.out _).trans (((cell_far (p:=⟨ae,_,none⟩) aa.out _).trans (((cell_far (p:=⟨ae,_,none⟩) aa.out _).trans (hHeld.2.2.1)))))))))),((cell_far (p:=⟨ae,_,none⟩) aa.out _).trans (((cell_far (p:=⟨ae,_,none⟩) aa.out _).trans (((cell_far (p:=⟨ae,_,none⟩) aa.out _).trans (((cell_far (p:=⟨ae,_,none⟩) aa.out _).trans (((cell_far (p:=⟨ae,_,none⟩) aa.out _).trans (hHeld.2.2.2.1)))))))))),((cell_far (p:=⟨ae,_,none⟩) aa.out _).trans (((cell_far (p:=⟨ae,_,none⟩) aa.out _).trans (((cell_far (p:=⟨ae,_,none⟩) aa.out _).trans (((cell_far (p:=⟨ae,_,none⟩) aa.out _).trans (((cell_far (p:=⟨ae,_,none⟩) aa.out _).trans (hHeld.2.2.2.2.1)))))))))),((cell_far (p:=⟨ae,_,none⟩) (kf (kn aI av)) _).trans (((cell_far (p:=⟨ae,_,none⟩) (kf (kn aI av)) _).trans (((cell_far (p:=⟨ae,_,none⟩) (kf (kn aI av)) _).trans (((cell_far (p:=⟨ae,_,none⟩) (kf (kn aI av)) _).trans (((cell_far (p:=⟨ae,_,none⟩) (kf (kn aI av)) _).trans (hHeld.2.2.2.2.2.1)))))))))),((cell_far (p:=⟨ae,_,none⟩) (kf (kn aH av)) _).trans (((cell_far (p:=⟨ae,_,none⟩) (kf (kn aH av)) _).trans (((cell_far (p:=⟨ae,_,none⟩) (kf (kn aH av)) _).trans (((cell_far (p:=⟨ae,_,none⟩) (kf (kn aH av)) _).trans (((cell_far (p:=⟨ae,_,none⟩) (kf (kn aH av)) _).trans (hHeld.2.2.2.2.2.2.1)))))))))),((cell_far (p:=⟨ae,_,none⟩) (kf (kn aK av)) _).trans (((cell_far (p:=⟨ae,_,none⟩) (kf (kn aK av)) _).trans (((cell_far (p:=⟨ae,_,none⟩) (kf (kn aK av)) _).trans (((cell_far (p:=⟨ae,_,none⟩) (kf (kn aK av)) _).trans (((cell_far (p:=⟨ae,_,none⟩) (kf (kn aK av)) _).trans (hHeld.2.2.2.2.2.2.2.1)))))))))),((cell_far (p:=⟨ae,_,none⟩) (kf (kn aJ av)) _).trans (((cell_far (p:=⟨ae,_,none⟩) (kf (kn aJ av)) _).trans (((cell_far (p:=⟨ae,_,none⟩) (kf (kn aJ av)) _).trans (((cell_far (p:=⟨ae,_,none⟩) (kf (kn aJ av)) _).trans (((cell_far (p:=⟨ae,_,none⟩) (kf (kn aJ av)) _).trans (hHeld.2.2.2.2.2.2.2.2))))))))))⟩ (fun hHeld=>?_)
  clear hK K
  refine done_ (done_of HT_.out (by kernel_rfl)) ?_
  try go_wp2
  refine bodyPost_ret (results_cell_row rfl _ _ ae 27 #[.int .i64 dx,.int .i64 dz,.int .i64 dA,.int .i64 dB,.int .i64 dC] (0,0) _ rfl (qF aj) Tryz.underlying27 rfl (by kernel_rfl)) rfl ?_
  exact⟨qW,qB⟩
 replace H:=jE H;rcases H with ⟨dG,dH,H⟩ | ⟨gH,dG,dH,H⟩
 ·replace H:=jI H;obtain⟨fJ,H⟩:=H
  replace H:=jI H;obtain⟨fK,H⟩:=H
  obtain⟨cz,gI,H⟩:=qE H
  try dsimp only at H
  replace H:=jB H;rcases H with ⟨rfl,H⟩ | ⟨rfl,H⟩
  ·obtain⟨rfl,rfl,rfl,rfl,rfl⟩:=oJ5 H
   go_enter Tryz.func98,Tryz.ntmps98
   go_wp2_with (first|((with_reducible refine jd 3 rfl ?_);refine jX _ 27 ?_;intro aC hg bL hbox hb;have af:=aM hbox;have bC:=kG hg;replace HB:=kH hb;clear hb hbox hg)|((with_reducible refine jd 6 rfl ?_);refine jX _ 27 ?_;intro ae hg bF hbox hb;have aj:=aM hbox;have av:=kG hg;have aa:=kN hg af;have ai:=kM hg af;replace af:=kB af hb;replace HB:=kH hb;clear hb hbox hg;have az:0<=(0:Int):=(by omega);have aA:0 < (l1.length:Int):=qD;obtain⟨ax,bg,ag,ah⟩:=at_T118 HR1.out 0 az aA;cases bg;have bD:(0 < l1.length)=True:=eq_true (by omega);(try rw [show ((0:Int)).toNat=0 from rfl] at ag);(try rw [show 0*2=0 from rfl] at ag);(try rw [Addr.add_zero'] at ag);(try rw [show ((0:Int)).toNat=0 from rfl] at ah);(try rw [show 0*2=0 from rfl] at ah);(try rw [Addr.add_zero'] at ah);replace ag:=kx HB ag;replace ah:=kx HB ah;replace az:=eq_true az;replace aA:=eq_true aA;have bM:=aa.out;have bN:=ai.out;have bO:=jz5 af;have bA:0<=(au:Int):=qD;have bB:au < (l1.length:Int):=qD;obtain⟨bG,bQ,aD,aG⟩:=at_T118 HR1.out au bA bB;obtain rfl:ax=bG:=(by injection bQ);replace aD:=kx HB aD;replace aG:=kx HB aG;replace bA:=eq_true bA;replace bB:=eq_true bB)|((with_reducible refine jc 114 54 rfl rfl ?_);refine jG Tryz.func114 #[.agg #[.int .i64 ((rd_T118 l1 au).f0),.int .i64 ((rd_T118 l1 au).f1)],.int .i64 0] ?_;refine (Sb5.calls _ _ _ _ _ (Aside0.out (by assumption))).mono ?_;rintro e dI ⟨rfl,hb⟩;refine⟨_,rfl,?_⟩;replace af:=kB af hb;replace aj:=kB aj hb;replace HB:=kH hb;clear hb;have dJ:=jz5 af;have dK:=jz5 aj))
   refine bodyPost_ret (results_cell_row rfl _ _ ae 27 #[.int .i64 4,.int .i64 0,.int .i64 0,.int .i64 0,.int .i64 aT] (0,0) _ rfl (qF aj) Tryz.underlying27 rfl (by kernel_rfl)) rfl ?_
   exact⟨qW,qB⟩
  replace H:=jE H;rcases H with ⟨dL,dM,H⟩ | ⟨c59,dL,dM,H⟩
  ·obtain⟨rfl,rfl,rfl,rfl,rfl⟩:=oJ5 H
   go_enter Tryz.func98,Tryz.ntmps98
   go_wp2_with (first|((with_reducible refine jd 3 rfl ?_);refine jX _ 27 ?_;intro aC hg bL hbox hb;have af:=aM hbox;have bC:=kG hg;replace HB:=kH hb;clear hb hbox hg)|((with_reducible refine jd 6 rfl ?_);refine jX _ 27 ?_;intro ae hg bF hbox hb;have aj:=aM hbox;have av:=kG hg;have aa:=kN hg af;have ai:=kM hg af;replace af:=kB af hb;replace HB:=kH hb;clear hb hbox hg;have az:0<=(0:Int):=(by omega);have aA:0 < (l1.length:Int):=qD;obtain⟨ax,bg,ag,ah⟩:=at_T118 HR1.out 0 az aA;cases bg;have bD:(0 < l1.length)=True:=eq_true (by omega);(try rw [show ((0:Int)).toNat=0 from rfl] at ag);(try rw [show 0*2=0 from rfl] at ag);(try rw [Addr.add_zero'] at ag);(try rw [show ((0:Int)).toNat=0 from rfl] at ah);(try rw [show 0*2=0 from rfl] at ah);(try rw [Addr.add_zero'] at ah);replace ag:=kx HB ag;replace ah:=kx HB ah;replace az:=eq_true az;replace aA:=eq_true aA;have bM:=aa.out;have bN:=ai.out;have bO:=jz5 af;have bA:0<=(au:Int):=qD;have bB:au < (l1.length:Int):=qD;obtain⟨bG,bQ,aD,aG⟩:=at_T118 HR1.out au bA bB;obtain rfl:ax=bG:=(by injection bQ);replace aD:=kx HB aD;replace aG:=kx HB aG;replace bA:=eq_true bA;replace bB:=eq_true bB)|((with_reducible refine jc 114 54 rfl rfl ?_);refine jG Tryz.func114 #[.agg #[.int .i64 ((rd_T118 l1 au).f0),.int .i64 ((rd_T118 l1 au).f1)],.int .i64 0] ?_;refine (Sb5.calls _ _ _ _ _ (Aside0.out (by assumption))).mono ?_;rintro e dI ⟨rfl,hb⟩;refine⟨_,rfl,?_⟩;replace af:=kB af hb;replace aj:=kB aj hb;replace HB:=kH hb;clear hb;have dJ:=jz5 af;have bJ:0<=(au:Int):=qD;have bK:au < (l1.length:Int):=qD;obtain⟨bR,bZ,aY,aZ⟩:=at_T118 HR1.out au bJ bK;obtain rfl:ax=bR:=(by injection bZ);replace aY:=kx HB aY;replace aZ:=kx HB aZ;replace bJ:=eq_true bJ;replace bK:=eq_true bK;have dK:=jz5 aj))
   refine bodyPost_ret (results_cell_row rfl _ _ ae 27 #[.int .i64 4,.int .i64 0,.int .i64 0,.int .i64 0,.int .i64 (wrap64 (a2+1))] (0,0) _ rfl (qF aj) Tryz.underlying27 rfl (by kernel_rfl)) rfl ?_
   exact⟨qW,qB⟩
  obtain⟨rfl,rfl,rfl,rfl,rfl⟩:=oJ5 H
  go_enter Tryz.func98,Tryz.ntmps98
  go_wp2_with (first|((with_reducible refine jd 3 rfl ?_);refine jX _ 27 ?_;intro aC hg bL hbox hb;have af:=aM hbox;have bC:=kG hg;replace HB:=kH hb;clear hb hbox hg)|((with_reducible refine jd 6 rfl ?_);refine jX _ 27 ?_;intro ae hg bF hbox hb;have aj:=aM hbox;have av:=kG hg;have aa:=kN hg af;have ai:=kM hg af;replace af:=kB af hb;replace HB:=kH hb;clear hb hbox hg;have az:0<=(0:Int):=(by omega);have aA:0 < (l1.length:Int):=qD;obtain⟨ax,bg,ag,ah⟩:=at_T118 HR1.out 0 az aA;cases bg;have bD:(0 < l1.length)=True:=eq_true (by omega);(try rw [show ((0:Int)).toNat=0 from rfl] at ag);(try rw [show 0*2=0 from rfl] at ag);(try rw [Addr.add_zero'] at ag);(try rw [show ((0:Int)).toNat=0 from rfl] at ah);(try rw [show 0*2=0 from rfl] at ah);(try rw [Addr.add_zero'] at ah);replace ag:=kx HB ag;replace ah:=kx HB ah;replace az:=eq_true az;replace aA:=eq_true aA;have bM:=aa.out;have bN:=ai.out;have bO:=jz5 af;have bA:0<=(au:Int):=qD;have bB:au < (l1.length:Int):=qD;obtain⟨bG,bQ,aD,aG⟩:=at_T118 HR1.out au bA bB;obtain rfl:ax=bG:=(by injection bQ);replace aD:=kx HB aD;replace aG:=kx HB aG;replace bA:=eq_true bA;replace bB:=eq_true bB)|((with_reducible refine jc 114 54 rfl rfl ?_);refine jG Tryz.func114 #[.agg #[.int .i64 ((rd_T118 l1 au).f0),.int .i64 ((rd_T118 l1 au).f1)],.int .i64 0] ?_;refine (Sb5.calls _ _ _ _ _ (Aside0.out (by assumption))).mono ?_;rintro e dI ⟨rfl,hb⟩;refine⟨_,rfl,?_⟩;replace af:=kB af hb;replace aj:=kB aj hb;replace HB:=kH hb;clear hb;have dJ:=jz5 af;have bJ:0<=(au:Int):=qD;have bK:au < (l1.length:Int):=qD;obtain⟨bR,bZ,aY,aZ⟩:=at_T118 HR1.out au bJ bK;obtain rfl:ax=bR:=(by injection bZ);replace aY:=kx HB aY;replace aZ:=kx HB aZ;replace bJ:=eq_true bJ;replace bK:=eq_true bK;have dK:=jz5 aj))
  refine bodyPost_ret (results_cell_row rfl _ _ ae 27 #[.int .i64 aN,.int .i64 aQ,.int .i64 au,.int .i64 ay,.int .i64 aT] (0,0) _ rfl (qF aj) Tryz.underlying27 rfl (by kernel_rfl)) rfl ?_
  exact⟨qW,qB⟩
 obtain⟨rfl,rfl,rfl,rfl,rfl⟩:=oJ5 H
 exact Sb4_0
def Sao.l0:Nat->List (S27)->List (S27)->List (List (S118))->Int->Option ((List (S27)) × Bool)
 | 0,_,_,_,_=>none
 | k+1,x0,x4,x5,x6=>if x6 < (x0.length:Int) then (if 0<=x6 then (if x6 < (x5.length:Int) then ((Sb4.f k ((rd_T27 x0 x6).f0) ((rd_T27 x0 x6).f1) ((rd_T27 x0 x6).f2) ((rd_T27 x0 x6).f3) ((rd_T27 x0 x6).f4) (rd_L8 x5 x6) x6).bind fun aK=>(if x4.length < 3518437208883 then (Sao.l0 k x0 (x4 ++ [(⟨aK.1,aK.2.1,aK.2.2.1,aK.2.2.2.1,aK.2.2.2.2⟩:S27)]) x5 (wrap64 (x6+1))) else (none))) else (none)) else (none)) else (some (x4,true))
def Sao.f (k:Nat) (l0:List (S27)):Option ((List (S27)) × Bool):=(some (([]:List (S27)):List (S27))).bind fun bC=>((Saf.f k l0).bind fun bK=>(if bK=true then ((San.f k l0).bind fun aD=>(Sao.l0 k l0 bC aD 0)) else (some (bC,false))))
def Sao.T8:Bool × List (List Nat × List Nat):=(true,[([],[]),([],[]),([],[]),([1,2],[1,2]),([3],[3]),([],[]),([],[]),([5,6],[5,6]),([7],[7]),([],[]),([4,8,9],[4,8,9]),([10],[10]),([0,11,10],[0,11]),([12,12,0,1,2,3,4,5,6,7,8,9,10,11,12],[0,12])])
def Sao.B8:List Nat:=[0,0,0,6,14,0,0,96,224,0,1022,2046,4095,8191]
theorem Sao.tab8:rtab .any (opsOf Tryz.f83 8)=Sao.T8:=by kernel_rfl
theorem Sao.bits8:waitsOk Sao.T8.2 Sao.B8=true:=by kernel_rfl
theorem Sao.calls (k:Nat) (A0:Option Addr) (c0:Nat) (l0 r1:List (S27)) (r2:Bool) (w:World) (hr0:Kd.C k27 w A0 l0.length l0) (hc0:l0.length<=c0) (h:Sao.f k l0=some (r1,r2)) :
  Calls Tryz.prog 83 #[.slice A0 l0.length c0] w fun e w'=>∃ cB:Value,e = .returned (.tuple #[cB,.bool r2])/\Kd.R k27 27 w' w.heap.size (fun _=>True) cB r1/\Below w.heap.size w w':=by
 have dx:=Tryz.underlying27
 have bR:=aM hr0
 have bT:=aM hc0
 clear hr0 hc0
 have HB:=aM (Below.refl w.heap.size w)
 have H:=h;unfold Sao.f at H
 clear h
 obtain⟨bC,aH⟩:=ky ((([]:List (S27))):List (S27))
 first|replace H:=kz aH H|rw [<- aH.out] at H
 obtain⟨bK,A2,H⟩:=qE H
 try dsimp only at H
 replace H:=jB H;rcases H with ⟨rfl,H⟩ | ⟨rfl,H⟩
 ·obtain⟨aD,A4,H⟩:=qE H
  try dsimp only at H
  have H':=aM H
  clear H
  go_enter Tryz.func83,Tryz.ntmps83
  go_wp2_with (first|((with_reducible refine jd 7 rfl ?_);refine jV k27 27 ([]:List (S27)) [] (Reps.none _ _) ?_;intro bU w5 bL hb;(first|rw [<- aH.out] at bL|(simp only [Int.reduceToNat] at bL;rw [<- aH.out] at bL));have ae:=kL bL;replace HB:=kH hb;clear hb bL)|((with_reducible refine jc 36 9 rfl rfl ?_);refine jG Tryz.func36 #[.slice A0 l0.length c0] ?_;refine (Saf.calls k _ _ l0 true _ ?aA ?aC A2.out).mono ?_;(case aA=>exact kC (Kd.C_below bR.out HB.out));(case aC=>exact bT.out);rintro e w7 ⟨rfl,hb⟩;refine⟨_,rfl,?_⟩;replace ae:=kR ae hb;replace HB:=kH hb;clear hb)|((with_reducible refine jc 97 13 rfl rfl ?_);refine jG Tryz.func97 #[.slice A0 l0.length c0] ?_;refine (San.calls k _ _ l0 aD _ ?aA ?aC A4.out).mono ?_;(case aA=>exact kC (Kd.C_below bR.out HB.out));(case aC=>exact bT.out);rintro e w8 ⟨bV,rfl,ho0,hb⟩;refine⟨_,rfl,?_⟩;have bM:=aM (Kd.S_lower ho0 (below_size qB));replace ae:=kR ae hb;replace HB:=kH hb;clear hb;(try clear ho0)))
  go_loopg [4,6] k (fun kq v4 v6 w'=>∃ (aY:List (S27)) (aa:Int),v6 = .int .i64 aa/\Aside0 (Sao.l0 kq l0 aY aD aa=some (r1,r2))/\Aside0 (kq<=k)/\Aside0 (Kd.R k27 27 w' w.heap.size (fun _=>True) v4 aY)/\Aside0 (Kd.S (Kd.slice 118 k118) 104 w' w.heap.size (fun _=>True) bV aD)/\Aside0 (Below w.heap.size w w'))
  case atStart=>exact⟨(bC),(0),qZ,H',⟨Nat.le_refl _⟩,⟨qR ae⟩,⟨qS bM⟩,⟨qB⟩⟩
  clear H'
  obtain⟨aY,aa,rfl,HA,cK,aG,ai,HB⟩:=hrel
  rcases gk with _|k1
  ·exact absurd HA.out (by simp [Sao.l0])
  have H:=HA.out
  clear HA
  simp only [Sao.l0] at H
  replace H:=jD H;rcases H with ⟨bW,H⟩ | ⟨bW,H⟩
  ·replace H:=jI H;obtain⟨cO,H⟩:=H
   replace H:=jI H;obtain⟨df,H⟩:=H
   obtain⟨⟨aZ,bg,bi,bn,bq⟩,dz,H⟩:=qE H
   try dsimp only at H
   replace H:=jL H;obtain⟨bN,H⟩:=H
   obtain⟨bX,bu⟩:=ky ((aY ++ [(⟨aZ,bg,bi,bn,bq⟩:S27)]):List (S27))
   first|replace H:=kz bu H|rw [<- bu.out] at H
   have H':=aM H
   clear H
   try go_wp2
   replace aG:=aM (Kd.R_drew aG.out)
   replace ai:=aM (Kd.S_drew ai.out)
   replace HB:=aM (below_drew1 HB.out)
   have bG:0<=(aa:Int):=qD
   have bH:aa < (l0.length:Int):=qD
   obtain⟨af,bY,aj,au,av,ax,ay⟩:=at_T27 bR.out aa bG bH
   have aN:=ay
   have aQ:=ax
   have aT:=av
   have aU:=au
   have aV:=aj
   cases bY
   replace aj:=kx HB aj
   replace au:=kx HB au
   replace av:=kx HB av
   replace ax:=kx HB ax
   replace ay:=kx HB ay
   replace bG:=eq_true bG
   replace bH:=eq_true bH
   obtain⟨dA,dB,bO⟩:=Kd.S_slice ai.out
   (first|subst bO|(injection bO with dh dC di;have dD:=dh.symm;have dE:=di.symm;clear dh dC di;subst dD;subst dE))
   have bD:0<=(aa:Int):=qD
   have bE:aa < (aD.length:Int):=qD
   obtain⟨bP,bv,bz,bZ,aI,aW,aX⟩:=at_L8 (Kd.S_reads' ai.out).2.2 aa bD bE
   cases bZ
   obtain⟨dn,bI,bJ,bA⟩:=Kd.S_get ai.out [] aa bD (by first|exact bE|exact qD|(have e_:=(Kd.S_reads' ai.out).1;omega))
   obtain⟨bS,rfl,aJ⟩:=bJ
   have ag:=bA 0 _ rfl
   rw [Nat.add_zero,show ((Kd.slice 118 k118)).sz=1 from rfl,Nat.mul_one] at ag
   replace ag:=Option.some.inj (ag.symm.trans aI)
   rw [ag] at aJ
   have ah:=aM (show Kd.R k118 118 _ _ _ _ (rd_L8 aD aa) from aJ)
   clear ag aJ
   clear bA bI
   have az:=aM aX
   have bF:=aM aW
   clear aX aW
   replace bD:=eq_true bD
   replace bE:=eq_true bE
   refine start_ (n:=14) (S:=fun w'=>w'.cell? (af.add ((aa).toNat*5))=some (.int .i64 ((rd_T27 l0 aa).f0))/\w'.cell? ⟨(af.add ((aa).toNat*5)).block,(af.add ((aa).toNat*5)).off+1,none⟩=some (.int .i64 ((rd_T27 l0 aa).f1))/\w'.cell? ⟨(af.add ((aa).toNat*5)).block,(af.add ((aa).toNat*5)).off+2,none⟩=some (.int .i64 ((rd_T27 l0 aa).f2))/\w'.cell? ⟨(af.add ((aa).toNat*5)).block,(af.add ((aa).toNat*5)).off+3,none⟩=some (.int .i64 ((rd_T27 l0 aa).f3))/\w'.cell? ⟨(af.add ((aa).toNat*5)).block,(af.add ((aa).toNat*5)).off+4,none⟩=some (.int .i64 ((rd_T27 l0 aa).f4))/\w'.cell? (bP.add (aa).toNat)=some (.slice bv (rd_L8 aD aa).length bz)) (ds:=[11,12]) (jb 14 0) (by kernel_rfl) rfl rfl ⟨(kx HB aV),(kx HB aU),(kx HB aT),(kx HB aQ),(kx HB aN),aI⟩ (fun hHeld=>?_);refine with_tabW Sao.tab8 Sao.bits8 (fun HT_ HW_=>?_)
   generalize wr.drew=dG at aG ai HB ah az aj au av ax ay aI hHeld ⊢
   refine jp 0 20 (jb 14 1) ?_
   refine jp 1 21 (jb 14 3) ?_
   refine jp 2 22 (jb 14 7) ?_
   refine jp 3 23 (jb 14 15) ?_
   refine jp 5 25 (jb 14 47) ?_
   refine jp 6 26 (jb 14 111) ?_
   refine jp 7 27 (jb 14 239) ?_
   refine jp 9 29 (jb 14 751) ?_
   refine jt 4 24 (jb 14 767) ?_
   refine jt 8 28 (jb 14 1023) ?_
   refine one_ (i:=10) (N:=some 30) (jb 14 2047) rfl rfl (one_of HT_.out (by kernel_rfl)) (by decide) (fun K hK=>?_)
   refine goes_ Tryz.func98 (by kernel_rfl) rfl #[.agg #[.int .i64 ((rd_T27 l0 aa).f0),.int .i64 ((rd_T27 l0 aa).f1),.int .i64 ((rd_T27 l0 aa).f2),.int .i64 ((rd_T27 l0 aa).f3),.int .i64 ((rd_T27 l0 aa).f4)],.slice bv (rd_L8 aD aa).length bz,.int .i64 aa] (by rfl) rfl rfl qM ?_
   with_reducible refine (Sb4.calls k1 ((rd_T27 l0 aa).f0) ((rd_T27 l0 aa).f1) ((rd_T27 l0 aa).f2) ((rd_T27 l0 aa).f3) ((rd_T27 l0 aa).f4) _ _ (rd_L8 aD aa) aa aZ bg bi bn bq _ ?aA ?aC dz.out).mono ?_
   (case aA=>repeat (first|exact (kC az.out)|(with_reducible refine Kd.C_alloc ?_ _)|(with_reducible refine Kd.C_drewN ?_ _)|(with_reducible refine Kd.C_drew ?_)))
   (case aC=>exact bF.out)
   rintro e w16 ⟨rfl,hb⟩
   have cz:=(hb.cell (World.block_lt_of_cell? _ _ (hHeld.2.2.2.2.2))).trans (hHeld.2.2.2.2.2)
   refine⟨_,rfl,?_⟩
   replace aG:=kR aG hb
   replace ai:=kS ai hb
   replace ah:=kR ah hb
   replace az:=kQ az hb
   replace HB:=kH hb
   (try clear hb)
   (try clear hb2)
   (try clear hk)
   (try clear hi)
   refine hK.out _ _ ⟨(kx HB aV),(kx HB aU),(kx HB aT),(kx HB aQ),(kx HB aN),cz⟩ (fun hHeld=>?_)
   clear hK K
   refine norm_ (a':=?_) ?_ ?_
   rotate_left
   ·show Act.put _ (some 30) _=_
    simp only [Act.put,List.setIfInBounds_toArray,List.set_cons_zero,List.set_cons_succ,i64_w,i32_w]
    rfl
   refine last_ (i:=11) (N:=some 31) (jb 14 4095) rfl rfl (one_of HT_.out (by kernel_rfl)) (by decide) (fun K hK=>?_)
   refine value_ (w1:=?_) (v:=?_) (by rfl) rfl ?_ ?_
   rotate_left 2
   ·go_simp
    constructor
    ·rfl
    rfl
   refine hK.out _ _ ?_
   clear hK K
   refine norm_ (a':=?_) ?_ ?_
   rotate_left
   ·show Act.put _ (some 31) _=_
    simp only [Act.put,List.setIfInBounds_toArray,List.set_cons_zero,List.set_cons_succ,i64_w,i32_w]
    rfl
   refine last_ (i:=12) (N:=some 32) (jb 14 8191) rfl rfl (one_of HT_.out (by kernel_rfl)) (by decide) (fun K hK=>?_)
   refine Kd.R_append_step k27 (w0:=w) w.heap.size (by rfl) (.tmp 20) (.tmp 31) 23 27 (.agg #[(.int .i64 0),(.int .i64 0),(.int .i64 0),(.int .i64 0),(.int .i64 0)]) 40 rfl Tryz.underlying23 info27 rfl (by decide) (by omega) u4 aY (⟨aZ,bg,bi,bn,bq⟩:S27) [.int .i64 aZ,.int .i64 bg,.int .i64 bi,.int .i64 bn,.int .i64 bq] (fun _=>True) (fun _=>False) rfl rfl ?aP (fun _ hk=>hk.elim) ?aF ?aO ?aB ?aS ?aL ?_
   (case aP=>exact k27_mkM _ _ _ (⟨aZ,bg,bi,bn,bq⟩:S27))
   (case aB=>exact qB)
   (case aF=>exact (fun _ _=>trivial))
   (case aO=>exact (qR aG))
   (case aS=>exact (below_size qB))
   (case aL=>have:=bN.out;omega)
   intro dF dH ho hb hg hat
   rw [<- bu.out] at ho
   have bQ:=aM ho
   replace ai:=aM (Kd.S_over' (qS ai) (Kd.R_typed (qR aG)) (by decide) hg)
   replace ah:=aM (Kd.R_over' (qR ah) (Kd.R_typed (qR aG)) (by decide) hg)
   replace HB:=aM hb
   clear aG
   clear ho hb hg hat
   refine hK.out _ _ ?_
   clear hK K
   refine norm_ (a':=?_) ?_ ?_
   rotate_left
   ·show Act.put _ (some 32) _=_
    simp only [Act.put,List.setIfInBounds_toArray,List.set_cons_zero,List.set_cons_succ,i64_w,i32_w]
    rfl
   refine jp 13 4 (jb 14 16383) ?_
   refine done_ (done_of HT_.out (by kernel_rfl)) ?_
   try go_wp2
   go_roundg k1
   case measure=>have:=cK.out;omega
   exact⟨(bX),(wrap64 (aa+1)),qZ,H',⟨by have:=cK.out;omega⟩,⟨qR bQ⟩,⟨qS ai⟩,⟨qB⟩⟩
  obtain⟨rfl,rfl⟩:=oJ2 H
  go_wp2
  go_ret2
  exact⟨_,qW,qR aG,qB⟩
 obtain⟨rfl,rfl⟩:=oJ2 H
 go_enter Tryz.func83,Tryz.ntmps83
 go_wp2_with (first|((with_reducible refine jd 7 rfl ?_);refine jV k27 27 ([]:List (S27)) [] (Reps.none _ _) ?_;intro bU dI bB hb;(first|rw [<- aH.out] at bB|(simp only [Int.reduceToNat] at bB;rw [<- aH.out] at bB));have ae:=kL bB;replace HB:=kH hb;clear hb bB)|((with_reducible refine jc 36 9 rfl rfl ?_);refine jG Tryz.func36 #[.slice A0 l0.length c0] ?_;refine (Saf.calls k _ _ l0 false _ ?aA ?aC A2.out).mono ?_;(case aA=>exact kC (Kd.C_below bR.out HB.out));(case aC=>exact bT.out);rintro e dJ ⟨rfl,hb⟩;refine⟨_,rfl,?_⟩;replace ae:=kR ae hb;replace HB:=kH hb;clear hb))
 go_ret2
 exact⟨_,qW,qR ae,qB⟩
def Sbd.l0:Nat->List Int->Int->Option (List Int)
 | 0,_,_=>none
 | k+1,x1,x2=>if x2 < 12 then (if x1.length < 17592186044416 then (Sbd.l0 k (x1 ++ [x2]) (wrap64 (x2+1))) else (none)) else (some x1)
def Sbd.f (k:Nat)  : Option (List Int):=Sbd.l0 k (([]:List Int)) 0
theorem Sbd.calls (k:Nat)  (r:List Int) (w:World) (h:Sbd.f k  = some r) :
  Calls Tryz.prog 115 #[] w fun e w'=>∃ ay:Value,e = .returned (ay)/\Kd.R (Kd.int .i64) 3 w' w.heap.size (fun _=>True) ay r/\Below w.heap.size w w':=by
 have HB:=aM (Below.refl w.heap.size w)
 have H:(Sbd.l0 k (([]:List Int)) 0)=some r:=h
 clear h
 obtain⟨au,aa⟩:=ky ((([]:List Int)):List Int)
 first|replace H:=kz aa H|rw [<- aa.out] at H
 have H':=aM H
 clear H
 go_enter Tryz.func115,Tryz.ntmps115
 go_wp2_with (first|((with_reducible refine jd 3 rfl ?_);refine jV (Kd.int .i64) 3 ([]:List Int) [] (Reps.none _ _) ?_;intro aC w1 ho2 hb;(first|rw [<- aa.out] at ho2|(simp only [Int.reduceToNat] at ho2;rw [<- aa.out] at ho2));have ai:=kL ho2;replace HB:=kH hb;clear hb ho2))
 go_loopg [1,2] k (fun kq v1 v2 w'=>∃ (af:List Int) (ae:Int),v2 = .int .i64 ae/\Aside0 (Sbd.l0 kq af ae=some r)/\Aside0 (kq<=k)/\Aside0 (Kd.R (Kd.int .i64) 3 w' w.heap.size (fun _=>True) v1 af)/\Aside0 (Below w.heap.size w w'))
 case atStart=>exact⟨(au),(0),qZ,H',⟨Nat.le_refl _⟩,⟨qR ai⟩,⟨qB⟩⟩
 clear H'
 obtain⟨af,ae,rfl,HA,az,ah,HB⟩:=hrel
 rcases gk with _|k1
 ·exact absurd HA.out (by simp [Sbd.l0])
 have H:=HA.out
 clear HA
 simp only [Sbd.l0] at H
 replace H:=jD H;rcases H with ⟨av,H⟩ | ⟨av,H⟩
 ·replace H:=jL H;obtain⟨ax,H⟩:=H
  obtain⟨aD,ag⟩:=ky ((af ++ [ae]):List Int)
  first|replace H:=kz ag H|rw [<- ag.out] at H
  have H':=aM H
  clear H
  go_wp2_with (first|((with_reducible refine gate_builtin (b:=.append) (xs:=#[.tmp 8,.tmp 10]) rfl ?_);at_builtin;refine Kd.R_append (Kd.int .i64) (w0:=w) w.heap.size rfl (.tmp 8) (.tmp 10) 43 3 (.int .i64 0) 8 rfl Tryz.underlying43 info3 rfl (by decide) (by omega) u1 af ae [.int .i64 ae] (fun _=>True) (fun _=>False) rfl rfl ?aP (fun _ hk=>hk.elim) ?aF ?aO ?aB ?aS ?aL ?_;(case aP=>exact rfl);(case aB=>exact qB);(case aF=>exact (fun _ _=>trivial));(case aO=>exact (qR ah));(case aS=>exact (below_size qB));(case aL=>have:=ax.out;omega);intro aG aH ho hb hg hat;rw [<- ag.out] at ho;have aj:=aM ho;replace HB:=aM hb;clear ah;clear ho hb hg hat))
  go_roundg k1
  case measure=>have:=az.out;omega
  exact⟨_,_,qZ,H',⟨by have:=az.out;omega⟩,⟨qR aj⟩,⟨qB⟩⟩
 obtain rfl:=oJ H
 go_wp2
 go_ret
 exact⟨_,qW,qR ah,qB⟩
def Sb9.l0:Nat->List Int->Int->Int->Int->Int->Int->Int->Int->Option (List Int)
 | 0,_,_,_,_,_,_,_,_=>none
 | k+1,x5,x6,x7,xa,xb,xc,xd,xe=>if x7 < 12 then (if 0<=x7 then (if x7 < (x5.length:Int) then (if (rd x5 x7)=x6 then (Sb9.l0 k (x5.set (x7:Int).toNat x7) x6 (wrap64 (x7+1)) xa xb xc xd xe) else (Sb9.l0 k x5 x6 (wrap64 (x7+1)) xa xb xc xd xe)) else (none)) else (none)) else (if 0<=x6 then (if x6 < (x5.length:Int) then ((some (x5.set (x6:Int).toNat x6:List Int)).bind fun aN=>(if xa=2 then (some (aN.set (x6:Int).toNat xc)) else (some aN))) else (none)) else (none))
def Sb9.f (k:Nat) (ai aj ag au av:Int) (l1:List Int):Option (List Int):=(some (([]:List Int):List Int)).bind fun aQ=>(if aQ.length+l1.length < 17592186044416 then ((some (aQ ++ l1:List Int)).bind fun aZ=>((Sat.f ai aj ag au av).bind fun ae=>(if ae < 0 then (some aZ) else (Sb9.l0 k aZ ae 0 ai aj ag au av)))) else (none))
theorem Sb9.calls (k:Nat) (ai aj ag au av:Int) (A1:Option Addr) (c1:Nat) (l1 r:List Int) (w:World) (hr1:Kd.C (Kd.int .i64) w A1 l1.length l1) (hc1:l1.length<=c1) (h:Sb9.f k ai aj ag au av l1=some r) :
  Calls Tryz.prog 125 #[.agg #[.int .i64 ai,.int .i64 aj,.int .i64 ag,.int .i64 au,.int .i64 av],.slice A1 l1.length c1] w fun e w'=>∃ dI:Value,e = .returned (dI)/\Kd.R (Kd.int .i64) 3 w' w.heap.size (fun _=>True) dI r/\Below w.heap.size w w':=by
 have dQ:=Tryz.underlying27
 have HR1:=aM hr1
 have ed:=aM hc1
 clear hr1 hc1
 have HB:=aM (Below.refl w.heap.size w)
 have H:=h;unfold Sb9.f at H
 clear h
 obtain⟨aQ,aD⟩:=ky ((([]:List Int)):List Int)
 first|replace H:=kz aD H|rw [<- aD.out] at H
 replace H:=jL H;obtain⟨bG,H⟩:=H
 obtain⟨aZ,aI⟩:=ky ((aQ ++ l1):List Int)
 first|replace H:=kz aI H|rw [<- aI.out] at H
 obtain⟨ae,A4,H⟩:=qE H
 try dsimp only at H
 replace H:=jD H;rcases H with ⟨bH,H⟩ | ⟨bH,H⟩
 ·obtain rfl:=oJ H
  go_enter Tryz.func125,Tryz.ntmps125
  go_wp2_with (first|((with_reducible refine jd 2 rfl ?_);refine jX _ 27 ?_;intro ay hg w6 hbox hb;have aa:=aM hbox;have bI:=kG hg;replace HB:=kH hb;clear hb hbox hg)|((with_reducible refine jd 8 rfl ?_);refine jV (Kd.int .i64) 3 ([]:List Int) [] (Reps.none _ _) ?_;intro bn w7 bJ hb;(first|rw [<- aD.out] at bJ|(simp only [Int.reduceToNat] at bJ;rw [<- aD.out] at bJ));have az:=kL bJ;replace aa:=kB aa hb;replace HB:=kH hb;clear hb bJ)|((with_reducible refine gate_builtin (b:=.append) (xs:=#[.tmp 8,.tmp 9]) rfl ?_);at_builtin;refine Kd.R_append_rows (Kd.int .i64) (w0:=w) w.heap.size rfl (.tmp 8) (.tmp 9) 43 3 (.int .i64 0) 8 rfl Tryz.underlying43 info3 rfl (by decide) (by omega) bn aQ l1 _ _ _ (fun _=>True) (fun _=>False) rfl rfl ?aO ?aR (fun _ _ h=>h) (fun _ h=>h.elim) ?aF ?aB ?aS ?aL ?_;(case aR=>exact kC (Kd.C_below HR1.out HB.out));(case aB=>exact qB);(case aF=>exact (fun _ _=>trivial));(case aO=>exact (qR az));(case aS=>exact (below_size qB));(case aL=>have:=bG.out;omega);intro bK w9 ho hb hg hat;rw [<- aI.out] at ho;have aA:=aM ho;replace aa:=aM (blk_grown (g:=ay) (o:=.cells #[.int .i64 ai,.int .i64 aj,.int .i64 ag,.int .i64 au,.int .i64 av] 27 (0,0)) (qK aa) hg (Kd.R_ne az.out aa.out (by decide)));replace HB:=aM hb;clear az;clear ho hb hg hat;have dR:=jz5 aa)|((with_reducible refine jc 68 12 rfl rfl ?_);refine jG Tryz.func68 #[.agg #[.int .i64 ai,.int .i64 aj,.int .i64 ag,.int .i64 au,.int .i64 av]] ?_;refine (Sat.calls ai aj ag au av ae _ A4.out).mono ?_;rintro e ek ⟨rfl,hb⟩;refine⟨_,rfl,?_⟩;replace aA:=kR aA hb;replace aa:=kB aa hb;replace HB:=kH hb;clear hb))
  go_ret
  exact⟨_,qW,qR aA,qB⟩
 have H':=aM H
 clear H
 go_enter Tryz.func125,Tryz.ntmps125
 go_wp2_with (first|((with_reducible refine jd 2 rfl ?_);refine jX _ 27 ?_;intro ay hg eu hbox hb;have aa:=aM hbox;have bI:=kG hg;replace HB:=kH hb;clear hb hbox hg)|((with_reducible refine jd 8 rfl ?_);refine jV (Kd.int .i64) 3 ([]:List Int) [] (Reps.none _ _) ?_;intro bn eB aT hb;(first|rw [<- aD.out] at aT|(simp only [Int.reduceToNat] at aT;rw [<- aD.out] at aT));have az:=kL aT;replace aa:=kB aa hb;replace HB:=kH hb;clear hb aT)|((with_reducible refine gate_builtin (b:=.append) (xs:=#[.tmp 8,.tmp 9]) rfl ?_);at_builtin;refine Kd.R_append_rows (Kd.int .i64) (w0:=w) w.heap.size rfl (.tmp 8) (.tmp 9) 43 3 (.int .i64 0) 8 rfl Tryz.underlying43 info3 rfl (by decide) (by omega) bn aQ l1 _ _ _ (fun _=>True) (fun _=>False) rfl rfl ?aO ?aR (fun _ _ h=>h) (fun _ h=>h.elim) ?aF ?aB ?aS ?aL ?_;(case aR=>exact kC (Kd.C_below HR1.out HB.out));(case aB=>exact qB);(case aF=>exact (fun _ _=>trivial));(case aO=>exact (qR az));(case aS=>exact (below_size qB));(case aL=>have:=bG.out;omega);intro bK eD ho hb hg hat;rw [<- aI.out] at ho;have aA:=aM ho;replace aa:=aM (blk_grown (g:=ay) (o:=.cells #[.int .i64 ai,.int .i64 aj,.int .i64 ag,.int .i64 au,.int .i64 av] 27 (0,0)) (qK aa) hg (Kd.R_ne az.out aa.out (by decide)));replace HB:=aM hb;clear az;clear ho hb hg hat;have bX:=jz5 aa)|((with_reducible refine jc 68 12 rfl rfl ?_);refine jG Tryz.func68 #[.agg #[.int .i64 ai,.int .i64 aj,.int .i64 ag,.int .i64 au,.int .i64 av]] ?_;refine (Sat.calls ai aj ag au av ae _ A4.out).mono ?_;rintro e eF ⟨rfl,hb⟩;refine⟨_,rfl,?_⟩;replace aA:=kR aA hb;replace aa:=kB aa hb;replace HB:=kH hb;clear hb))
 go_loopg [7] k (fun kq v7 w'=>∃ (ax:List Int) (ah:Int),v7 = .int .i64 ah/\Aside0 (Sb9.l0 kq ax ae ah ai aj ag au av=some r)/\Aside0 (kq<=k)/\Aside0 (Kd.R (Kd.int .i64) 3 w' w.heap.size (fun _=>True) bK ax)/\Aside0 (w'.heap[ay]?=some (.cells #[.int .i64 ai,.int .i64 aj,.int .i64 ag,.int .i64 au,.int .i64 av] 27 (0,0)))/\Aside0 (Below w.heap.size w w'))
 case atStart=>exact⟨(aZ),(0),qZ,H',⟨Nat.le_refl _⟩,⟨qR aA⟩,⟨qK aa⟩,⟨qB⟩⟩
 clear H'
 try clear c1;try clear bH;try clear bX
 obtain⟨ax,ah,rfl,HA,bW,af,aa,HB⟩:=hrel
 rcases gk with _|k1
 ·exact absurd HA.out (by simp [Sb9.l0])
 have H:=HA.out
 clear HA
 simp only [Sb9.l0] at H
 replace H:=jD H;rcases H with ⟨bL,H⟩ | ⟨bL,H⟩
 ·replace H:=jI H;obtain⟨dJ,H⟩:=H
  replace H:=jI H;obtain⟨dK,H⟩:=H
  replace H:=jE H;rcases H with ⟨bM,bN,H⟩ | ⟨c21,bM,bN,H⟩
  ·obtain⟨bO,aU⟩:=ky ((ax.set (ah:Int).toNat ah):List Int)
   first|replace H:=kz aU H|rw [<- aU.out] at H
   have H':=aM H
   clear H
   obtain⟨dS,bY,bZ⟩:=Kd.R_slice af.out
   subst bZ
   have aG:0<=(ah:Int):=qD
   have aH:ah < (ax.length:Int):=qD
   obtain⟨bP,bq,aJ⟩:=Kd.at_int (Kd.R_reads' af.out).2.2 ah aG aH
   cases bq
   replace aG:=eq_true aG
   replace aH:=eq_true aH
   have cz:0<=(ah:Int):=qD
   have q22:(ah:Int) < ((ax.length:Int):Int):=qD
   obtain⟨bu,dU,bQ,bR,cB,dV,bS⟩:=Kd.R_form af.out (by omega)
   (first|cases bQ|(injection bQ with ea_ en_ ec_;(first|subst ea_|(injection ea_ with ea_;subst ea_));subst ec_;clear en_))
   have cK:=aM bR
   have dW:=aM bS
   clear bR cB bS
   (first|simp only [add_plain] at aJ|skip)
   obtain⟨cO,df⟩:=Kd.R_celln 0 af.out (ah:Int) cz q22
   replace cz:=eq_true cz
   replace q22:=eq_true q22
   have bv:=Kd.R_putg af.out (ah:Int) ah
   go_wp2_with (first|((with_reducible refine gate_store (t:=3) (p:=29) rfl ?_);refine store_event (t:=3) (p:=29) (v:=?dh) (w1:=(wr.setCell ⟨bu,(ah:Int).toNat,none⟩ (.int .i64 ah))) ?hg ?ho ?hn ?hr ?_;(case ho=>rfl);(case hg=>rfl);(case hn=>rfl);(case hr=>first|(go_simp;done)|(go_simp;rfl));intro di hw;have hg:wr.grownBy di (some bu):=(by rw [hw];exact bv.2);have hp_:Kd.R (Kd.int .i64) 3 di w.heap.size (fun _=>True) (.slice (some ⟨bu,0,none⟩) ax.length bY) bO:=(by rw [hw,aU.out];exact bv.1);clear bv;replace aa:=aM (blk_grown (g:=ay) (o:=.cells #[.int .i64 ai,.int .i64 aj,.int .i64 ag,.int .i64 au,.int .i64 av] 27 (0,0)) (qK aa) hg (Kd.R_ne af.out aa.out (by decide)));replace af:=aM hp_;replace HB:=aM ((by rw [hw];exact below_set (HB.out) cK.out:Below w.heap.size w di));clear hg hw hp_))
   go_roundg k1
   case measure=>have:=bW.out;omega
   exact⟨(bO),(wrap64 (ah+1)),qZ,H',⟨by have:=bW.out;omega⟩,⟨qR af⟩,⟨qK aa⟩,⟨qB⟩⟩
  have H':=aM H
  clear H
  obtain⟨dX,dY,dn⟩:=Kd.R_slice af.out
  subst dn
  have aG:0<=(ah:Int):=qD
  have aH:ah < (ax.length:Int):=qD
  obtain⟨bP,bq,aJ⟩:=Kd.at_int (Kd.R_reads' af.out).2.2 ah aG aH
  cases bq
  replace aG:=eq_true aG
  replace aH:=eq_true aH
  go_wp2
  go_roundg k1
  case measure=>have:=bW.out;omega
  exact⟨(ax),(wrap64 (ah+1)),qZ,H',⟨by have:=bW.out;omega⟩,⟨qR af⟩,⟨qK aa⟩,⟨qB⟩⟩
 replace H:=jI H;obtain⟨dL,H⟩:=H
 replace H:=jI H;obtain⟨dM,H⟩:=H
 obtain⟨aN,aK⟩:=ky ((ax.set (ae:Int).toNat ae):List Int)
 first|replace H:=kz aK H|rw [<- aK.out] at H
 replace H:=jE H;rcases H with ⟨bT,bU,H⟩ | ⟨eG,bT,bU,H⟩
 ·obtain⟨dw,aV⟩:=ky ((aN.set (ae:Int).toNat ag):List Int)
  first|replace H:=kz aV H|rw [<- aV.out] at H
  obtain rfl:=oJ H
  have p29:0<=(ae:Int):=qD
  have bz:(ae:Int) < ((ax.length:Int):Int):=qD
  obtain⟨aC,bg,aW,aX,bA,dx,aY⟩:=Kd.R_form af.out (by omega)
  (first|cases aW|(injection aW with ea_ en_ ec_;(first|subst ea_|(injection ea_ with ea_;subst ea_));subst ec_;clear en_))
  have bi:=aM aX
  have dz:=aM aY
  clear aX bA aY
  obtain⟨bB,bC⟩:=Kd.R_celln 0 af.out (ae:Int) p29 bz
  replace p29:=eq_true p29
  replace bz:=eq_true bz
  have bD:=Kd.R_putg af.out (ae:Int) ae
  go_wp2_with (first|((with_reducible refine gate_store (t:=3) (p:=33) rfl ?_);refine store_event (t:=3) (p:=33) (v:=?dA) (w1:=(wr.setCell ⟨aC,(ae:Int).toNat,none⟩ (.int .i64 ae))) ?hg ?ho ?hn ?hr ?_;(case ho=>rfl);(case hg=>rfl);(case hn=>rfl);(case hr=>first|(go_simp;done)|(go_simp;rfl));intro bV hw;have hg:wr.grownBy bV (some aC):=(by rw [hw];exact bD.2);have hp_:Kd.R (Kd.int .i64) 3 bV w.heap.size (fun _=>True) (.slice (some ⟨aC,0,none⟩) ax.length bg) aN:=(by rw [hw,aK.out];exact bD.1);clear bD;replace aa:=aM (blk_grown (g:=ay) (o:=.cells #[.int .i64 ai,.int .i64 aj,.int .i64 ag,.int .i64 au,.int .i64 av] 27 (0,0)) (qK aa) hg (Kd.R_ne af.out aa.out (by decide)));replace af:=aM hp_;replace HB:=aM ((by rw [hw];exact below_set (HB.out) bi.out:Below w.heap.size w bV));clear hg hw hp_;have dZ:=jz5 aa;have p31:0<=(ae:Int):=qD;have dB:(ae:Int) < ((ax.length:Int):Int):=qD;obtain⟨dC,dD⟩:=Kd.R_celln 0 af.out (ae:Int) p31 dB;replace p31:=eq_true p31;replace dB:=eq_true dB;obtain⟨dN,dO⟩:=Kd.R_celln 0 af.out (ae:Int) (qD) (qD);have bE:=Kd.R_putg af.out (ae:Int) ag)|((with_reducible refine gate_store (t:=3) (p:=41) rfl ?_);refine store_event (t:=3) (p:=41) (v:=?dE) (w1:=(bV.setCell ⟨aC,(ae:Int).toNat,none⟩ (.int .i64 ag))) ?hg ?ho ?hn ?hr ?_;(case ho=>rfl);(case hg=>rfl);(case hn=>rfl);(case hr=>first|(go_simp;done)|(go_simp;rfl));intro dF hw;have hg:bV.grownBy dF (some aC):=(by rw [hw];exact bE.2);have hp_:Kd.R (Kd.int .i64) 3 dF w.heap.size (fun _=>True) (.slice (some ⟨aC,0,none⟩) ax.length bg) dw:=(by rw [hw,aV.out];exact bE.1);clear bE;replace aa:=aM (blk_grown (g:=ay) (o:=.cells #[.int .i64 ai,.int .i64 aj,.int .i64 ag,.int .i64 au,.int .i64 av] 27 (0,0)) (qK aa) hg (Kd.R_ne af.out aa.out (by decide)));replace af:=aM hp_;replace HB:=aM ((by rw [hw];exact below_set (HB.out) bi.out:Below w.heap.size w dF));clear hg hw hp_))
  go_ret
  exact⟨_,qW,qR af,qB⟩
 obtain rfl:=oJ H
 have p29:0<=(ae:Int):=qD
 have bz:(ae:Int) < ((ax.length:Int):Int):=qD
 obtain⟨aC,bg,aW,aX,bA,dx,aY⟩:=Kd.R_form af.out (by omega)
 (first|cases aW|(injection aW with ea_ en_ ec_;(first|subst ea_|(injection ea_ with ea_;subst ea_));subst ec_;clear en_))
 have bi:=aM aX
 have dz:=aM aY
 clear aX bA aY
 obtain⟨bB,bC⟩:=Kd.R_celln 0 af.out (ae:Int) p29 bz
 replace p29:=eq_true p29
 replace bz:=eq_true bz
 have bF:=Kd.R_putg af.out (ae:Int) ae
 go_wp2_with (first|((with_reducible refine gate_store (t:=3) (p:=33) rfl ?_);refine store_event (t:=3) (p:=33) (v:=?dG) (w1:=(wr.setCell ⟨aC,(ae:Int).toNat,none⟩ (.int .i64 ae))) ?hg ?ho ?hn ?hr ?_;(case ho=>rfl);(case hg=>rfl);(case hn=>rfl);(case hr=>first|(go_simp;done)|(go_simp;rfl));intro dH hw;have hg:wr.grownBy dH (some aC):=(by rw [hw];exact bF.2);have hp_:Kd.R (Kd.int .i64) 3 dH w.heap.size (fun _=>True) (.slice (some ⟨aC,0,none⟩) ax.length bg) aN:=(by rw [hw,aK.out];exact bF.1);clear bF;replace aa:=aM (blk_grown (g:=ay) (o:=.cells #[.int .i64 ai,.int .i64 aj,.int .i64 ag,.int .i64 au,.int .i64 av] 27 (0,0)) (qK aa) hg (Kd.R_ne af.out aa.out (by decide)));replace af:=aM hp_;replace HB:=aM ((by rw [hw];exact below_set (HB.out) bi.out:Below w.heap.size w dH));clear hg hw hp_;have d9:=jz5 aa))
 go_ret
 exact⟨_,qW,qR af,qB⟩
def Sba.l0:Nat->List (List Int)->Int->List Int->Bool->Int->Option (Bool × (List (List Int)))
 | 0,_,_,_,_,_=>none
 | k+1,x0,x1,x2,x7,x8=>if x8 < 12 then (if 0<=x1 then (if x1 < (x0.length:Int) then (if 0<=x8 then (if x8 < ((rd_L9 x0 x1).length:Int) then (if (rd (rd_L9 x0 x1) x8)=x8 then (Sba.l0 k x0 x1 x2 x7 (wrap64 (x8+1))) else (if x8 < (x2.length:Int) then (if (rd (rd_L9 x0 x1) x8)=(rd x2 x8) then (Sba.l0 k x0 x1 x2 x7 (wrap64 (x8+1))) else (Sba.l0 k (x0.set (x1:Int).toNat ((rd_L9 x0 x1).set (x8:Int).toNat x8)) x1 x2 true (wrap64 (x8+1)))) else (none))) else (none)) else (none)) else (none)) else (none)) else (some (x7,x0))
def Sba.f (k:Nat) (l0:List (List Int)) (a1:Int) (l2:List Int):Option (Bool × (List (List Int))):=if 0<=a1 then (if a1 < (l0.length:Int) then (if ((rd_L9 l0 a1).length:Int)=0 then ((some (([]:List Int):List Int)).bind fun dH=>(if dH.length+l2.length < 17592186044416 then (some (true,(l0.set (a1:Int).toNat (dH ++ l2)))) else (none))) else (Sba.l0 k l0 a1 l2 false 0)) else (none)) else (none)
theorem Sba.calls (k:Nat) (aG:Nat->Prop) (bC:Value) (l0:List (List Int)) (a1:Int) (A2:Option Addr) (c2:Nat) (l2:List Int) (r1:Bool) (r2:List (List Int)) (w0 w:World) (hB:Below w0.heap.size w0 w) (ho0:Kd.S (Kd.slice 3 (Kd.int .i64)) 43 w w0.heap.size aG bC l0) (hr2:∀ W_,Kept w W_ (fun k_=>aG k_)->Kd.C (Kd.int .i64) W_ A2 l2.length l2) (hc2:l2.length<=c2) (h:Sba.f k l0 a1 l2=some (r1,r2)) :
  Calls Tryz.prog 126 #[bC,.int .i64 a1,.slice A2 l2.length c2] w fun e w'=>e = .returned (.bool r1)/\Kd.S (Kd.slice 3 (Kd.int .i64)) 43 w' w0.heap.size (fun k_=>(aG k_\/w.heap.size<=k_)) bC r2/\Below w0.heap.size w0 w'/\Kept w w' (fun k_=>aG k_):=by
 have aD:=aM (show Kd.S (Kd.slice 3 (Kd.int .i64)) 43 w w0.heap.size (fun k_=>(aG k_\/w.heap.size<=k_)) bC l0 from Kd.S_mono ho0 (fun k_ hk=>(.inl hk)))
 have HR2:=aM hr2
 have jv:=aM hc2
 clear hr2 hc2
 have HK:=aM (Kept.refl w (fun k_=>aG k_))
 have HW0:=aM hB.size
 have HB:=aM hB
 clear hB
 have H:=h;unfold Sba.f at H
 clear h
 replace H:=jI H;obtain⟨gW,H⟩:=H
 replace H:=jI H;obtain⟨gX,H⟩:=H
 replace H:=jE H;rcases H with ⟨fO,fP,H⟩ | ⟨c6,fO,fP,H⟩
 ·obtain⟨dH,dz⟩:=ky ((([]:List Int)):List Int)
  first|replace H:=kz dz H|rw [<- dz.out] at H
  replace H:=jL H;obtain⟨gY,H⟩:=H
  obtain⟨bD,dI⟩:=ky ((dH ++ l2):List Int)
  first|replace H:=kz dI H|rw [<- dI.out] at H
  obtain⟨gZ,dJ⟩:=ky ((l0.set (a1:Int).toNat bD):List (List Int))
  first|replace H:=kz dJ H|rw [<- dJ.out] at H
  obtain⟨rfl,rfl⟩:=oJ2 H
  obtain⟨jw,fK,jf⟩:=Kd.S_slice aD.out
  subst jf
  have bv:0<=(a1:Int):=qD
  have bz:a1 < (l0.length:Int):=qD
  obtain⟨aH,dK,dL,eX,ax,aI,aJ⟩:=at_L9 (Kd.S_reads' aD.out).2.2 a1 bv bz
  cases eX
  obtain⟨fQ,bX,bY,bi⟩:=Kd.S_get aD.out [] a1 bv (by first|exact bz|exact qD|(have e_:=(Kd.S_reads' aD.out).1;omega))
  obtain⟨dW,rfl,ay⟩:=bY
  have au:=bi 0 _ rfl
  rw [Nat.add_zero,show ((Kd.slice 3 (Kd.int .i64))).sz=1 from rfl,Nat.mul_one] at au
  replace au:=Option.some.inj (au.symm.trans ax)
  rw [au] at ay
  have ai:=aM (show Kd.R (Kd.int .i64) 3 _ _ _ _ (rd_L9 l0 a1) from ay)
  clear au ay
  have bE:=aM ax
  clear bi bX
  have bF:=aM aJ
  have dX:=aM aI
  clear aJ aI
  replace bv:=eq_true bv
  replace bz:=eq_true bz
  go_enter Tryz.func126,Tryz.ntmps126
  go_wp2_with (first|((with_reducible refine jd 17 rfl ?_);refine jV (Kd.int .i64) 3 ([]:List Int) [] (Reps.none _ _) ?_;intro ib jy bZ hb;(first|rw [<- dz.out] at bZ|(simp only [Int.reduceToNat] at bZ;rw [<- dz.out] at bZ));have dM:=aM (Kd.R_lower (Kd.R_new' (Kd.R_newM (M:=fun k_=>(aG k_\/w.heap.size<=k_)) bZ (by first|exact HK.out.1|exact (show Kept w _ (fun k_=>aG k_) from qT).1) (fun k_ h_=>.inr h_)) (Kd.R_lt (qR ai))) (below_size qB));replace aD:=aM (Kd.S_elder' (qS aD) (Kd.R_base bZ) hb);replace ai:=kO ai bZ hb;replace bF:=kQ bF hb;replace bE:=kW hb bE;replace HK:=kT hb;replace HB:=kH hb;clear hb bZ)|((with_reducible refine gate_builtin (b:=.append) (xs:=#[.tmp 17,.tmp 18]) rfl ?_);at_builtin;refine Kd.R_append_rows (Kd.int .i64) (w0:=w0) w0.heap.size rfl (.tmp 17) (.tmp 18) 43 3 (.int .i64 0) 8 rfl Tryz.underlying43 info3 rfl (by decide) (by omega) ib dH l2 _ _ _ (fun k_=>(aG k_\/w.heap.size<=k_)/\some k_≠(.slice dK (rd_L9 l0 a1).length dL:Value).ownBlock) (fun _=>False) rfl rfl ?aO ?aR (fun _ _ h=>h) (fun _ h=>h.elim) ?aF ?aB ?aS ?aL ?_;(case aR=>exact Kd.C_kept_now HR2.out qT);(case aB=>exact qB);(case aF=>exact (fun k_ hk=>⟨(.inr (Nat.le_trans (by first|exact HK.out.1|exact (show Kept w _ (fun k_=>aG k_) from qT).1) hk)),Kd.fresh' (Kd.R_lt (qR ai)) k_ hk⟩));(case aO=>exact (by (with_reducible repeat (first|apply Kd.R_alloc|apply Kd.R_drewN|apply Kd.R_drew));exact Kd.R_mono dM.out (fun _ hk=>⟨hk.1.1,hk.2⟩)));(case aS=>exact (below_size qB));(case aL=>have:=gY.out;omega);intro jg eY ho hb hg hat;rw [<- dI.out] at ho;have bP:=aM (Kd.S_after (ok:=(fun k_=>(aG k_\/w.heap.size<=k_))) (qS aD) hg hat);have bQ:=aM (Kd.R_after (ok:=(fun k_=>(aG k_\/w.heap.size<=k_)/\some k_≠(.slice (some aH) l0.length fK:Value).ownBlock)) (qR ai) hg hat);have bR:=aM hb;have bS:=aM (Kept.of_grown (S:=(fun k_=>aG k_)) hg qT (fun k_ e_=>(dM.out.1 k_ e_).1.1));have fT:=aM ho;clear aD;clear ai;clear HB;clear HK;clear dM;have aD:=bP;have ai:=bQ;have HB:=bR;have HK:=bS;have bA:=fT;obtain⟨Aoz,coz,eoz⟩:=Kd.R_slice bA.out;subst eoz;clear bP bQ bR bS fT;clear ho hb hg hat;have p8:0<=(a1:Int):=qD;have q8:(a1:Int) < ((l0.length:Int):Int):=qD;obtain⟨dF,jA,iK,iL,jh,jH,iM⟩:=Kd.S_form aD.out (by omega);(first|cases iK|(injection iK with ea_ en_ ec_;(first|subst ea_|(injection ea_ with ea_;subst ea_));subst ec_;clear en_));have jk:=aM iL;have jK:=aM iM;clear iL jh iM;have iN:=aM (show (aG dF\/w.heap.size<=dF) from ((Kd.S_R aD.out).1 _ rfl).1);(first|simp only [add_plain] at ax|skip);obtain⟨_,jM,ic,iO,fU,fV,_,_⟩:=Kd.S_elem aD.out [] (a1:Int) p8 q8;obtain⟨iP,rfl,iQ⟩:=iO;have fZ:=fU 0 _ rfl;have gm:=fV 0;(try simp only [show ((Kd.slice 3 (Kd.int .i64))).sz=1 from rfl,Nat.mul_one,Nat.add_zero] at fZ);(try simp only [show ((Kd.slice 3 (Kd.int .i64))).sz=1 from rfl,Nat.mul_one,Nat.add_zero] at gm);clear ic fU fV;(try clear iO);replace p8:=eq_true p8;replace q8:=eq_true q8;have eZ:=aM (show Kd.S (Kd.slice 3 (Kd.int .i64)) 43 eY w0.heap.size (fun k_=>((fun k_=>(aG k_\/w.heap.size<=k_))) k_/\¬ ((fun k_=>some k_=((.slice Aoz bD.length coz):Value).ownBlock)) k_) (.slice (some ⟨dF,0,none⟩) l0.length fK) l0 from (by (with_reducible repeat (first|apply Kd.S_alloc|apply Kd.S_drewN|apply Kd.S_drew));exact Kd.S_mono aD.out (by first|exact fun k_ hk=>⟨hk.1,fun e_=>hk.2 e_⟩|exact fun k_ hk=>hk)));obtain⟨gp,ig,dN,dO,bT,bU,cz,dP⟩:=Kd.S_elem eZ.out [] (a1:Int) (qD) (by have h_:(a1:Int) < ((l0.length:Int):Int):=qD;first|exact h_|(have e_:=(Kd.S_reads' aD.out).1;omega)|simpa using h_);obtain⟨fe,rfl,fo⟩:=dO;have dG:=Kd.S_seg dP (qD) (by have h_:(a1:Int) < ((l0.length:Int):Int):=qD;first|exact h_|(have e_:=(Kd.S_reads' aD.out).1;omega)|simpa using h_) (seg:=[(.slice Aoz bD.length coz)]) (j:=0) (show 1<=1 from by decide) (x':=bD) (Kd.M_row (Kd.R_mono (Kd.R_tight rfl (Kd.R_mono (ok':=fun k_=>((fun k_=>(aG k_\/w.heap.size<=k_))) k_/\k_≠dF) (Kd.R_apart' (bA.out) (Kd.S_typed aD.out) (by decide)) (fun k_ hk=>⟨hk.1.1,fun e_=>(hk.2) (by rw [e_];rfl)⟩))) (fun _ h_=>Or.inr (h_)))) (fun _ hk=>hk) (fun k_ hk_=>((Kd.R_mono (ok':=fun k_=>((fun k_=>(aG k_\/w.heap.size<=k_))) k_/\k_≠dF) (Kd.R_apart' (bA.out) (Kd.S_typed aD.out) (by decide)) (fun k_ hk=>⟨hk.1.1,fun e_=>(hk.2) (by rw [e_];rfl)⟩))).1 k_ hk_.symm);have cB:=bT 0 _ rfl;(try simp only [show ((Kd.slice 3 (Kd.int .i64))).sz=1 from rfl,Nat.mul_one,Nat.add_zero] at cB);have cK:=bU 0;(try simp only [show ((Kd.slice 3 (Kd.int .i64))).sz=1 from rfl,Nat.mul_one,Nat.add_zero] at cK);clear dN bT bU cz dP;(try clear dO);(try simp only [show ((Kd.slice 3 (Kd.int .i64))).sz=1 from rfl,Nat.mul_one,Nat.add_zero] at dG))|((with_reducible refine gate_store (t:=43) (p:=20) rfl ?_);(try (rw [drewN_self eY];generalize hq_:World.drewN eY _=eY;have bP:=aM (Kd.S_at hq_ aD.out);have bQ:=aM (Kd.R_at hq_ ai.out);have bR:=aM (kept_at hq_ HK.out);have bS:=aM (below_at hq_ HB.out);clear hq_ aD ai HK HB;have aD:=bP;have ai:=bQ;have HK:=bR;have HB:=bS;clear bP bQ bR bS;(try (have eZ:=aM (show Kd.S (Kd.slice 3 (Kd.int .i64)) 43 eY w0.heap.size (fun k_=>((fun k_=>(aG k_\/w.heap.size<=k_))) k_/\¬ ((fun k_=>some k_=((.slice Aoz bD.length coz):Value).ownBlock)) k_) (.slice (some ⟨dF,0,none⟩) l0.length fK) l0 from (by (with_reducible repeat (first|apply Kd.S_alloc|apply Kd.S_drewN|apply Kd.S_drew));exact Kd.S_mono aD.out (by first|exact fun k_ hk=>⟨hk.1,fun e_=>hk.2 e_⟩|exact fun k_ hk=>hk)))));(try (obtain⟨gp,ig,dN,dO,bT,bU,cz,dP⟩:=Kd.S_elem eZ.out [] (a1:Int) (qD) (by have h_:(a1:Int) < ((l0.length:Int):Int):=qD;first|exact h_|(have e_:=(Kd.S_reads' aD.out).1;omega)|simpa using h_)));(try (obtain⟨fe,rfl,fo⟩:=dO));(try (have dG:=Kd.S_seg dP (qD) (by have h_:(a1:Int) < ((l0.length:Int):Int):=qD;first|exact h_|(have e_:=(Kd.S_reads' aD.out).1;omega)|simpa using h_) (seg:=[(.slice Aoz bD.length coz)]) (j:=0) (show 1<=1 from by decide) (x':=bD) (Kd.M_row (Kd.R_mono (Kd.R_tight rfl (Kd.R_mono (ok':=fun k_=>((fun k_=>(aG k_\/w.heap.size<=k_))) k_/\k_≠dF) (Kd.R_apart' (bA.out) (Kd.S_typed aD.out) (by decide)) (fun k_ hk=>⟨hk.1.1,fun e_=>(hk.2) (by rw [e_];rfl)⟩))) (fun _ h_=>Or.inr (h_)))) (fun _ hk=>hk) (fun k_ hk_=>((Kd.R_mono (ok':=fun k_=>((fun k_=>(aG k_\/w.heap.size<=k_))) k_/\k_≠dF) (Kd.R_apart' (bA.out) (Kd.S_typed aD.out) (by decide)) (fun k_ hk=>⟨hk.1.1,fun e_=>(hk.2) (by rw [e_];rfl)⟩))).1 k_ hk_.symm)));(try (have cB:=bT 0 _ rfl));(try (try simp only [show ((Kd.slice 3 (Kd.int .i64))).sz=1 from rfl,Nat.mul_one,Nat.add_zero] at cB));(try (have cK:=bU 0));(try (try simp only [show ((Kd.slice 3 (Kd.int .i64))).sz=1 from rfl,Nat.mul_one,Nat.add_zero] at cK));(try (clear dN bT bU cz dP;(try clear dO)));(try (try simp only [show ((Kd.slice 3 (Kd.int .i64))).sz=1 from rfl,Nat.mul_one,Nat.add_zero] at dG))));refine store_event (t:=43) (p:=20) (v:=?ik) (w1:=(eY.setCell ⟨dF,(a1:Int).toNat,none⟩ ((.slice Aoz bD.length coz)))) ?hg ?ho ?hn ?hr ?_;(case ho=>rfl);(case hg=>rfl);(case hn=>rfl);(case hr=>first|(go_simp;done)|(go_simp;rfl));intro il hw;have hg:eY.grownBy il (some dF):=(by rw [hw];exact dG.2);have hp_:Kd.S (Kd.slice 3 (Kd.int .i64)) 43 il w0.heap.size (fun k_=>(aG k_\/w.heap.size<=k_)) (.slice (some ⟨dF,0,none⟩) l0.length fK) gZ:=(by rw [hw,dJ.out];exact dG.1);clear dG;replace ai:=aM (Kd.R_after (v:=(.slice (some ⟨dF,0,none⟩) l0.length fK)) (v1:=(.slice (some ⟨dF,0,none⟩) l0.length fK)) (ok:=(fun k_=>(aG k_\/w.heap.size<=k_)/\some k_≠((.slice Aoz bD.length coz):Value).ownBlock)) (by (with_reducible repeat (first|apply Kd.R_alloc|apply Kd.R_drewN|apply Kd.R_drew));exact Kd.R_mono ai.out (fun _ hk=>⟨⟨hk.1.1,hk.2⟩,hk.1.2⟩)) hg (.inl rfl));replace HB:=aM ((by rw [hw];exact below_set (HB.out) jk.out:Below w0.heap.size w0 il));replace HK:=aM (Kept.of_grown (S:=(fun k_=>aG k_)) hg qT (fun k_ e_=>((Kd.S_R aD.out).1 k_ e_).1));replace aD:=aM hp_;clear bA;clear hg hw hp_))
  go_ret
  exact⟨qW,qS aD,qB,qT⟩
 have iq:¬ ((rd_L9 l0 a1)=[]):=fun h_=>c6 (by rw [h_];rfl)
 have H':=aM H
 clear H
 obtain⟨jl,dY,iw⟩:=Kd.S_slice aD.out
 subst iw
 have bv:0<=(a1:Int):=qD
 have bz:a1 < (l0.length:Int):=qD
 obtain⟨aH,dK,dL,eX,ax,aI,aJ⟩:=at_L9 (Kd.S_reads' aD.out).2.2 a1 bv bz
 cases eX
 obtain⟨fQ,bX,bY,bi⟩:=Kd.S_get aD.out [] a1 bv (by first|exact bz|exact qD|(have e_:=(Kd.S_reads' aD.out).1;omega))
 obtain⟨dW,rfl,ay⟩:=bY
 have au:=bi 0 _ rfl
 rw [Nat.add_zero,show ((Kd.slice 3 (Kd.int .i64))).sz=1 from rfl,Nat.mul_one] at au
 replace au:=Option.some.inj (au.symm.trans ax)
 rw [au] at ay
 have ai:=aM (show Kd.R (Kd.int .i64) 3 _ _ _ _ (rd_L9 l0 a1) from ay)
 clear au ay
 have bE:=aM ax
 clear bi bX
 have bF:=aM aJ
 have dX:=aM aI
 clear aJ aI
 replace bv:=eq_true bv
 replace bz:=eq_true bz
 go_enter Tryz.func126,Tryz.ntmps126
 go_wp2
 repeat (go_quiet (fail);try go_wp2)
 go_loopg [7,8] k (fun kq v7 v8 w'=>∃ (af:List (List Int)) (dQ:Bool) (ag:Int),v7 = .bool dQ/\v8 = .int .i64 ag/\Aside0 (Sba.l0 kq af a1 l2 dQ ag=some (r1,r2))/\Aside0 (kq<=k)/\Aside0 (Kd.S (Kd.slice 3 (Kd.int .i64)) 43 w' w0.heap.size (fun k_=>(aG k_\/w.heap.size<=k_)) (.slice (some aH) l0.length dY) af)/\Aside0 (Kept w w' (fun k_=>aG k_))/\Aside0 (Below w0.heap.size w0 w'))
 case atStart=>exact⟨(l0),(false),(0),qZ,qZ,H',⟨Nat.le_refl _⟩,⟨qS aD⟩,⟨qT⟩,⟨qB⟩⟩
 clear H'
 try clear c2;try clear gW;try clear gX;try clear c6;try clear fO;try clear fP;try clear iq;try clear ax;try clear bv;try clear bz
 obtain⟨af,dQ,ag,rfl,rfl,HA,fM,ae,HK,HB⟩:=hrel
 have aK:=(Kd.S_reads' ae.out).1
 rw [aK] at ae
 (try simp only [aK])
 rcases gk with _|k1
 ·exact absurd HA.out (by simp [Sba.l0])
 have H:=HA.out
 clear HA
 simp only [Sba.l0] at H
 replace H:=jD H;rcases H with ⟨gq,H⟩ | ⟨gq,H⟩
 ·replace H:=jI H;obtain⟨iR,H⟩:=H
  replace H:=jI H;obtain⟨iT,H⟩:=H
  replace H:=jI H;obtain⟨iU,H⟩:=H
  replace H:=jI H;obtain⟨iV,H⟩:=H
  replace H:=jE H;rcases H with ⟨gu,gz,H⟩ | ⟨c21,gu,gz,H⟩
  ·have H':=aM H
   clear H
   have bG:0<=(a1:Int):=qD
   have bH:a1 < (af.length:Int):=qD
   obtain⟨dR,fq,bI,fu,az,aN,aQ⟩:=at_L9 (Kd.S_reads' ae.out).2.2 a1 bG bH
   obtain rfl:aH=dR:=(by injection fu)
   obtain⟨gB,cO,df,bn⟩:=Kd.S_get ae.out [] a1 bG (by first|exact bH|exact qD|(have e_:=(Kd.S_reads' ae.out).1;omega))
   obtain⟨dZ,rfl,aA⟩:=df
   have av:=bn 0 _ rfl
   rw [Nat.add_zero,show ((Kd.slice 3 (Kd.int .i64))).sz=1 from rfl,Nat.mul_one] at av
   replace av:=Option.some.inj (av.symm.trans az)
   rw [av] at aA
   have bg:=aM (show Kd.R (Kd.int .i64) 3 _ _ _ _ (rd_L9 af a1) from aA)
   clear av aA
   have d9:=aM az
   clear bn cO
   have bJ:=aM aQ
   have ed:=aM aN
   clear aQ aN
   replace bG:=eq_true bG
   replace bH:=eq_true bH
   have dh:0<=(ag:Int):=qD
   have di:ag < ((rd_L9 af a1).length:Int):=qD
   obtain⟨gD,fw,ek⟩:=Kd.at_int (kC bJ.out) ag dh di
   cases fw
   replace dh:=eq_true dh
   replace di:=eq_true di
   go_wp2
   repeat (go_quiet (fail);try go_wp2)
   (try simp only [<- aK])
   go_roundg k1
   case measure=>have:=fM.out;omega
   exact⟨(af),(dQ),(wrap64 (ag+1)),qZ,qZ,H',⟨by have:=fM.out;omega⟩,⟨by (try simp only [aK]);(with_reducible repeat (first|apply Kd.S_alloc|apply Kd.S_drewN|apply Kd.S_drew));exact ae.out⟩,⟨qT⟩,⟨qB⟩⟩
  replace H:=jI H;obtain⟨iW,H⟩:=H
  have eQ:=aM H;clear H
  have bG:0<=(a1:Int):=qD
  have bH:a1 < (af.length:Int):=qD
  obtain⟨dR,fq,bI,fu,az,aN,aQ⟩:=at_L9 (Kd.S_reads' ae.out).2.2 a1 bG bH
  obtain rfl:aH=dR:=(by injection fu)
  obtain⟨gB,cO,df,bn⟩:=Kd.S_get ae.out [] a1 bG (by first|exact bH|exact qD|(have e_:=(Kd.S_reads' ae.out).1;omega))
  obtain⟨dZ,rfl,aA⟩:=df
  have av:=bn 0 _ rfl
  rw [Nat.add_zero,show ((Kd.slice 3 (Kd.int .i64))).sz=1 from rfl,Nat.mul_one] at av
  replace av:=Option.some.inj (av.symm.trans az)
  rw [av] at aA
  have bg:=aM (show Kd.R (Kd.int .i64) 3 _ _ _ _ (rd_L9 af a1) from aA)
  clear av aA
  have d9:=aM az
  clear bn cO
  have bJ:=aM aQ
  have ed:=aM aN
  clear aQ aN
  replace bG:=eq_true bG
  replace bH:=eq_true bH
  have dh:0<=(ag:Int):=qD
  have di:ag < ((rd_L9 af a1).length:Int):=qD
  obtain⟨gD,fw,ek⟩:=Kd.at_int (kC bJ.out) ag dh di
  cases fw
  replace dh:=eq_true dh
  replace di:=eq_true di
  have eu:0<=(a1:Int):=qD
  have eB:a1 < (af.length:Int):=qD
  obtain⟨gF,iy,iA,iB,bK,dA,dB⟩:=at_L9 (Kd.S_reads' ae.out).2.2 a1 eu eB
  obtain rfl:aH=gF:=(by injection iB)
  obtain⟨iX,fA,fB,dS⟩:=Kd.S_get ae.out [] a1 eu (by first|exact eB|exact qD|(have e_:=(Kd.S_reads' ae.out).1;omega))
  obtain⟨gM,rfl,bL⟩:=fB
  have aT:=dS 0 _ rfl
  rw [Nat.add_zero,show ((Kd.slice 3 (Kd.int .i64))).sz=1 from rfl,Nat.mul_one] at aT
  replace aT:=Option.some.inj (aT.symm.trans bK)
  rw [aT] at bL
  have bM:=aM (show Kd.R (Kd.int .i64) 3 _ _ _ _ (rd_L9 af a1) from bL)
  clear aT bL
  have gN:=aM bK
  clear dS fA
  have eD:=aM dB
  have gP:=aM dA
  clear dB dA
  replace eu:=eq_true eu
  replace eB:=eq_true eB
  have ea_:=Option.some.inj (az.symm.trans bK)
  injection ea_ with ea_ en_ ec_
  subst ea_
  subst ec_
  clear en_
  have fC:0<=(ag:Int):=qD
  have fD:ag < ((rd_L9 af a1).length:Int):=qD
  obtain⟨iY,iC,eF⟩:=Kd.at_int (kC eD.out) ag fC fD
  cases iC
  replace fC:=eq_true fC
  replace fD:=eq_true fD
  have fE:0<=(ag:Int):=qD
  have fF:ag < (l2.length:Int):=qD
  obtain⟨iZ,iD,gQ⟩:=Kd.at_int (Kd.C_kept_now HR2.out HK.out) ag fE fF
  cases iD
  replace fE:=eq_true fE
  replace fF:=eq_true fF
  have H:=eQ.out;clear eQ
  replace H:=jE H;rcases H with ⟨gG,gH,H⟩ | ⟨c23,gG,gH,H⟩
  ·have H':=aM H
   clear H
   go_wp2
   repeat (go_quiet (fail);try go_wp2)
   (try simp only [<- aK])
   go_roundg k1
   case measure=>have:=fM.out;omega
   exact⟨(af),(dQ),(wrap64 (ag+1)),qZ,qZ,H',⟨by have:=fM.out;omega⟩,⟨by (try simp only [aK]);(with_reducible repeat (first|apply Kd.S_alloc|apply Kd.S_drewN|apply Kd.S_drew));exact ae.out⟩,⟨qT⟩,⟨qB⟩⟩
  obtain⟨eG,bV⟩:=ky (((rd_L9 af a1).set (ag:Int).toNat ag):List Int)
  first|replace H:=kz bV H|rw [<- bV.out] at H
  obtain⟨eH,bW⟩:=ky ((af.set (a1:Int).toNat eG):List (List Int))
  first|replace H:=kz bW H|rw [<- bW.out] at H
  have H':=aM H
  clear H
  have eO:0<=(a1:Int):=qD
  have eP:a1 < (af.length:Int):=qD
  obtain⟨gI,iE,iF,iG,bN,dC,dD⟩:=at_L9 (Kd.S_reads' ae.out).2.2 a1 eO eP
  obtain rfl:aH=gI:=(by injection iG)
  obtain⟨ja,fG,fH,dU⟩:=Kd.S_get ae.out [] a1 eO (by first|exact eP|exact qD|(have e_:=(Kd.S_reads' ae.out).1;omega))
  obtain⟨gT,rfl,bO⟩:=fH
  have aU:=dU 0 _ rfl
  rw [Nat.add_zero,show ((Kd.slice 3 (Kd.int .i64))).sz=1 from rfl,Nat.mul_one] at aU
  replace aU:=Option.some.inj (aU.symm.trans bN)
  rw [aU] at bO
  have aa:=aM (show Kd.R (Kd.int .i64) 3 _ _ _ _ (rd_L9 af a1) from bO)
  clear aU bO
  have aj:=aM bN
  clear dU fG
  have gU:=aM dD
  have gV:=aM dC
  clear dD dC
  replace eO:=eq_true eO
  replace eP:=eq_true eP
  have ea_:=Option.some.inj (az.symm.trans bN)
  injection ea_ with ea_ en_ ec_
  subst ea_
  subst ec_
  clear en_
  have iH:0<=(ag:Int):=qD
  have q24:(ag:Int) < (((rd_L9 af a1).length:Int):Int):=qD
  obtain⟨bq,jm,gJ,gK,iI,jo,gL⟩:=Kd.R_form aa.out (by omega)
  (first|cases gJ|(injection gJ with ea_ en_ ec_;(first|subst ea_|(injection ea_ with ea_;subst ea_));subst ec_;clear en_))
  have fI:=aM gK
  have jr:=aM gL
  clear gK iI gL
  have iJ:=aM (show (aG bq\/w.heap.size<=bq) from (aa.out.1 _ rfl).1)
  (first|simp only [add_plain] at eF|skip)
  obtain⟨aX,aY⟩:=Kd.R_celln 0 aa.out (ag:Int) iH q24
  replace iH:=eq_true iH
  replace q24:=eq_true q24
  have dn:(a1:Int) < (af.length:Int):=(by have h_:(a1:Int) < ((af.length:Int):Int):=qD;first|exact h_|(have e_:=(Kd.S_reads' ae.out).1;omega)|simpa only [List.length_set,List.length_set] using h_)
  obtain⟨bB,fJ,bu,dw,aC,aV,aW⟩:=Kd.S_borrow ae.out [] (a1:Int) (qD) dn
  obtain⟨dx,rfl,ah⟩:=dw
  have hv25:=aC 0 _ rfl
  rw [Nat.add_zero,show ((Kd.slice 3 (Kd.int .i64))).sz=1 from rfl,Nat.mul_one] at hv25
  replace hv25:=Option.some.inj (hv25.symm.trans aj.out)
  subst hv25
  clear aC bu
  replace ah:=(show Kd.R (Kd.int .i64) 3 _ _ _ _ (rd_L9 af a1) from ah)
  have aZ:=Kd.R_putg ah (ag:Int) ag
  go_wp2_with (first|((with_reducible refine gate_store (t:=3) (p:=54) rfl ?_);(try (rw [drewN_self wr];generalize hq_:World.drewN wr _=wr;(try (have nx_:=aM (cell_at hq_ aj.out);clear aj;have aj:=nx_;clear nx_));have bP:=aM (Kd.S_at hq_ ae.out);have bQ:=aM (Kd.R_at hq_ aa.out);have bR:=aM (kept_at hq_ HK.out);have bS:=aM (below_at hq_ HB.out);(try (have aX:=cell_at hq_ aX));(try (have aY:=frozen_at hq_ aY));clear hq_ ae aa HK HB;have ae:=bP;have aa:=bQ;have HK:=bR;have HB:=bS;clear bP bQ bR bS;(try (have dn:(a1:Int) < (af.length:Int):=(by have h_:(a1:Int) < ((af.length:Int):Int):=qD;first|exact h_|(have e_:=(Kd.S_reads' ae.out).1;omega)|simpa only [List.length_set,List.length_set] using h_)));(try (obtain⟨bB,fJ,bu,dw,aC,aV,aW⟩:=Kd.S_borrow ae.out [] (a1:Int) (qD) dn));(try (obtain⟨dx,rfl,ah⟩:=dw));(try (have hv25:=aC 0 _ rfl));(try (rw [Nat.add_zero,show ((Kd.slice 3 (Kd.int .i64))).sz=1 from rfl,Nat.mul_one] at hv25));(try (replace hv25:=Option.some.inj (hv25.symm.trans aj.out)));(try (subst hv25));(try (clear aC bu));(try (replace ah:=(show Kd.R (Kd.int .i64) 3 _ _ _ _ (rd_L9 af a1) from ah)));(try (have aZ:=Kd.R_putg ah (ag:Int) ag))));refine store_event (t:=3) (p:=54) (v:=?dV) (w1:=(wr.setCell ⟨bq,(ag:Int).toNat,none⟩ (.int .i64 ag))) ?hg ?ho ?hn ?hr ?_;(case ho=>rfl);(case hg=>rfl);(case hn=>rfl);(case hr=>first|(go_simp;done)|(go_simp;rfl));intro dE hw;have hg:wr.grownBy dE (some bq):=(by rw [hw];exact aZ.2);have hz_:Kd.R (Kd.int .i64) 3 dE w0.heap.size bB (.slice (some ⟨bq,0,none⟩) (rd_L9 af a1).length bI) eG:=(by rw [hw,bV.out];exact aZ.1);have hp_:Kd.S (Kd.slice 3 (Kd.int .i64)) 43 dE w0.heap.size (fun k_=>(aG k_\/w.heap.size<=k_)) (.slice (some aH) af.length dY) eH:=(by rw [bW.out];exact aW hg (fun k_ e_=>by injection e_ with e_;subst e_;exact ah.1 _ rfl) (Kd.M_row hz_));have hm_:=Kd.R_mono hz_ aV;clear aZ aW;have eT:=aM hm_;have eU:=aM ((Kd.R_reads' hm_).2.1);replace ae:=aM hp_;replace HB:=aM ((by rw [hw];exact below_set (HB.out) fI.out:Below w0.heap.size w0 dE));replace HK:=aM (Kept.of_grown (S:=(fun k_=>aG k_)) hg qT (fun k_ e_=>(aa.out.1 k_ e_).1));clear bg bM aa;clear hg hw hp_ hz_ hm_ aV))
  repeat (go_quiet (first|((with_reducible refine gate_store (t:=3) (p:=54) rfl ?_);(try (rw [drewN_self wr];generalize hq_:World.drewN wr _=wr;(try (have nx_:=aM (cell_at hq_ aj.out);clear aj;have aj:=nx_;clear nx_));have bP:=aM (Kd.S_at hq_ ae.out);have bQ:=aM (Kd.R_at hq_ aa.out);have bR:=aM (kept_at hq_ HK.out);have bS:=aM (below_at hq_ HB.out);(try (have aX:=cell_at hq_ aX));(try (have aY:=frozen_at hq_ aY));clear hq_ ae aa HK HB;have ae:=bP;have aa:=bQ;have HK:=bR;have HB:=bS;clear bP bQ bR bS;(try (have dn:(a1:Int) < (af.length:Int):=(by have h_:(a1:Int) < ((af.length:Int):Int):=qD;first|exact h_|(have e_:=(Kd.S_reads' ae.out).1;omega)|simpa only [List.length_set,List.length_set] using h_)));(try (obtain⟨bB,fJ,bu,dw,aC,aV,aW⟩:=Kd.S_borrow ae.out [] (a1:Int) (qD) dn));(try (obtain⟨dx,rfl,ah⟩:=dw));(try (have hv25:=aC 0 _ rfl));(try (rw [Nat.add_zero,show ((Kd.slice 3 (Kd.int .i64))).sz=1 from rfl,Nat.mul_one] at hv25));(try (replace hv25:=Option.some.inj (hv25.symm.trans aj.out)));(try (subst hv25));(try (clear aC bu));(try (replace ah:=(show Kd.R (Kd.int .i64) 3 _ _ _ _ (rd_L9 af a1) from ah)));(try (have aZ:=Kd.R_putg ah (ag:Int) ag))));refine store_event (t:=3) (p:=54) (v:=?dV) (w1:=(wr.setCell ⟨bq,(ag:Int).toNat,none⟩ (.int .i64 ag))) ?hg ?ho ?hn ?hr ?_;(case ho=>rfl);(case hg=>rfl);(case hn=>rfl);(case hr=>first|(go_simp;done)|(go_simp;rfl));intro dE hw;have hg:wr.grownBy dE (some bq):=(by rw [hw];exact aZ.2);have hz_:Kd.R (Kd.int .i64) 3 dE w0.heap.size bB (.slice (some ⟨bq,0,none⟩) (rd_L9 af a1).length bI) eG:=(by rw [hw,bV.out];exact aZ.1);have hp_:Kd.S (Kd.slice 3 (Kd.int .i64)) 43 dE w0.heap.size (fun k_=>(aG k_\/w.heap.size<=k_)) (.slice (some aH) af.length dY) eH:=(by rw [bW.out];exact aW hg (fun k_ e_=>by injection e_ with e_;subst e_;exact ah.1 _ rfl) (Kd.M_row hz_));have hm_:=Kd.R_mono hz_ aV;clear aZ aW;have bP:=aM hp_;have bQ:=aM ((by rw [hw];exact below_set (HB.out) fI.out:Below w0.heap.size w0 dE));have bR:=aM (Kept.of_grown (S:=(fun k_=>aG k_)) hg qT (fun k_ e_=>(aa.out.1 k_ e_).1));have bS:=aM hm_;have fT:=aM ((Kd.R_reads' hm_).2.1);clear ae;clear HB;clear HK;clear bg;clear bM;clear aa;have ae:=bP;have HB:=bQ;have HK:=bR;have eT:=bS;have eU:=fT;clear bP bQ bR bS fT;clear hg hw hp_ hz_ hm_ aV));try go_wp2_with (first|((with_reducible refine gate_store (t:=3) (p:=54) rfl ?_);(try (rw [drewN_self wr];generalize hq_:World.drewN wr _=wr;(try (have nx_:=aM (cell_at hq_ aj.out);clear aj;have aj:=nx_;clear nx_));have bP:=aM (Kd.S_at hq_ ae.out);have bQ:=aM (Kd.R_at hq_ aa.out);have bR:=aM (kept_at hq_ HK.out);have bS:=aM (below_at hq_ HB.out);(try (have aX:=cell_at hq_ aX));(try (have aY:=frozen_at hq_ aY));clear hq_ ae aa HK HB;have ae:=bP;have aa:=bQ;have HK:=bR;have HB:=bS;clear bP bQ bR bS;(try (have dn:(a1:Int) < (af.length:Int):=(by have h_:(a1:Int) < ((af.length:Int):Int):=qD;first|exact h_|(have e_:=(Kd.S_reads' ae.out).1;omega)|simpa only [List.length_set,List.length_set] using h_)));(try (obtain⟨bB,fJ,bu,dw,aC,aV,aW⟩:=Kd.S_borrow ae.out [] (a1:Int) (qD) dn));(try (obtain⟨dx,rfl,ah⟩:=dw));(try (have hv25:=aC 0 _ rfl));(try (rw [Nat.add_zero,show ((Kd.slice 3 (Kd.int .i64))).sz=1 from rfl,Nat.mul_one] at hv25));(try (replace hv25:=Option.some.inj (hv25.symm.trans aj.out)));(try (subst hv25));(try (clear aC bu));(try (replace ah:=(show Kd.R (Kd.int .i64) 3 _ _ _ _ (rd_L9 af a1) from ah)));(try (have aZ:=Kd.R_putg ah (ag:Int) ag))));refine store_event (t:=3) (p:=54) (v:=?dV) (w1:=(wr.setCell ⟨bq,(ag:Int).toNat,none⟩ (.int .i64 ag))) ?hg ?ho ?hn ?hr ?_;(case ho=>rfl);(case hg=>rfl);(case hn=>rfl);(case hr=>first|(go_simp;done)|(go_simp;rfl));intro dE hw;have hg:wr.grownBy dE (some bq):=(by rw [hw];exact aZ.2);have hz_:Kd.R (Kd.int .i64) 3 dE w0.heap.size bB (.slice (some ⟨bq,0,none⟩) (rd_L9 af a1).length bI) eG:=(by rw [hw,bV.out];exact aZ.1);have hp_:Kd.S (Kd.slice 3 (Kd.int .i64)) 43 dE w0.heap.size (fun k_=>(aG k_\/w.heap.size<=k_)) (.slice (some aH) af.length dY) eH:=(by rw [bW.out];exact aW hg (fun k_ e_=>by injection e_ with e_;subst e_;exact ah.1 _ rfl) (Kd.M_row hz_));have hm_:=Kd.R_mono hz_ aV;clear aZ aW;have eT:=aM hm_;have eU:=aM ((Kd.R_reads' hm_).2.1);replace ae:=aM hp_;replace HB:=aM ((by rw [hw];exact below_set (HB.out) fI.out:Below w0.heap.size w0 dE));replace HK:=aM (Kept.of_grown (S:=(fun k_=>aG k_)) hg qT (fun k_ e_=>(aa.out.1 k_ e_).1));clear bg bM aa;clear hg hw hp_ hz_ hm_ aV)))
  (try simp only [<- aK])
  go_roundg k1
  case measure=>have:=fM.out;omega
  exact⟨(eH),(true),(wrap64 (ag+1)),qZ,qZ,H',⟨by have:=fM.out;omega⟩,⟨by (try simp only [aK]);(with_reducible repeat (first|apply Kd.S_alloc|apply Kd.S_drewN|apply Kd.S_drew));exact ae.out⟩,⟨qT⟩,⟨qB⟩⟩
 obtain⟨rfl,rfl⟩:=oJ2 H
 go_wp2
 repeat (go_quiet (fail);try go_wp2)
 go_ret
 exact⟨qW,(by first|exact (qS ae)|(simp only [aK];exact (qS ae))),qB,qT⟩
mutual
def Sbc.l0:Nat->List (S27)->List (List Int)->Bool->Int->Option (Bool × (List (List Int)))
 | 0,_,_,_,_=>none
 | k+1,x0,x1,x5,x6=>if x6 < (x0.length:Int) then (if 0<=x6 then (if x6 < (x1.length:Int) then (if ((rd_L9 x1 x6).length:Int)=0 then (Sbc.l0 k x0 x1 x5 (wrap64 (x6+1))) else ((SaT.f k x0 x6).bind fun ag=>((Sb9.f k ((rd_T27 x0 x6).f0) ((rd_T27 x0 x6).f1) ((rd_T27 x0 x6).f2) ((rd_T27 x0 x6).f3) ((rd_T27 x0 x6).f4) (rd_L9 x1 x6)).bind fun aj=>(Sbc.l1 k x0 x1 x5 x6 ag aj 0)))) else (none)) else (none)) else (some (x5,x1))
def Sbc.l1:Nat->List (S27)->List (List Int)->Bool->Int->List Int->List Int->Int->Option (Bool × (List (List Int)))
 | 0,_,_,_,_,_,_,_=>none
 | k+1,x0,x1,x5,x6,x7,x8,x9=>if x9 < (x7.length:Int) then (if 0<=x9 then ((Sba.f k x1 (rd x7 x9) x8).bind fun bM=>(if bM.1=true then (Sbc.l1 k x0 bM.2 true x6 x7 x8 (wrap64 (x9+1))) else (Sbc.l1 k x0 bM.2 x5 x6 x7 x8 (wrap64 (x9+1))))) else (none)) else (Sbc.l0 k x0 x1 x5 (wrap64 (x6+1)))
end
def Sbc.f (k:Nat) (l0:List (S27)) (l1:List (List Int)):Option (Bool × (List (List Int))):=Sbc.l0 k l0 l1 false 0
def Sbc.T7:Bool × List (List Nat × List Nat):=(true,[([],[]),([],[]),([0,1],[0,1]),([2],[2]),([],[]),([],[]),([4,5],[4,5]),([6],[6]),([3,7],[3,7]),([8,8,0,1,2,3,4,5,6,7,8],[8])])
def Sbc.B7:List Nat:=[0,0,3,7,0,0,48,112,255,511]
theorem Sbc.tab7:rtab .any (opsOf Tryz.f116 7)=Sbc.T7:=by kernel_rfl
theorem Sbc.bits7:waitsOk Sbc.T7.2 Sbc.B7=true:=by kernel_rfl
theorem Sbc.calls (k:Nat) (A0:Option Addr) (c0:Nat) (l0:List (S27)) (aA:Nat->Prop) (aX:Value) (l1:List (List Int)) (r1:Bool) (r2:List (List Int)) (w0 w:World) (hB:Below w0.heap.size w0 w) (hr0:∀ W_,Kept w W_ (fun k_=>aA k_)->Kd.C k27 W_ A0 l0.length l0) (hc0:l0.length<=c0) (ho1:Kd.S (Kd.slice 3 (Kd.int .i64)) 43 w w0.heap.size aA aX l1) (h:Sbc.f k l0 l1=some (r1,r2)) :
  Calls Tryz.prog 116 #[.slice A0 l0.length c0,aX] w fun e w'=>e = .returned (.bool r1)/\Kd.S (Kd.slice 3 (Kd.int .i64)) 43 w' w0.heap.size (fun k_=>(aA k_\/w.heap.size<=k_)) aX r2/\Below w0.heap.size w0 w'/\Kept w w' (fun k_=>aA k_):=by
 have eX:=Tryz.underlying27
 have bR:=aM hr0
 have eY:=aM hc0
 clear hr0 hc0
 have eZ:=aM (show Kd.S (Kd.slice 3 (Kd.int .i64)) 43 w w0.heap.size (fun k_=>(aA k_\/w.heap.size<=k_)) aX l1 from Kd.S_mono ho1 (fun k_ hk=>(.inl hk)))
 have HK:=aM (Kept.refl w (fun k_=>aA k_))
 have HW0:=aM hB.size
 have HB:=aM hB
 clear hB
 have H:(Sbc.l0 k l0 l1 false 0)=some (r1,r2):=h
 clear h
 have H':=aM H
 clear H
 go_enter Tryz.func116,Tryz.ntmps116
 go_wp2
 go_loopg [5,6] k (fun kq v5 v6 w'=>∃ (aC:List (List Int)) (bS:Bool) (aa:Int),v5 = .bool bS/\v6 = .int .i64 aa/\Aside0 (Sbc.l0 kq l0 aC bS aa=some (r1,r2))/\Aside0 (kq<=k)/\Aside0 (Kd.S (Kd.slice 3 (Kd.int .i64)) 43 w' w0.heap.size (fun k_=>(aA k_\/w.heap.size<=k_)) aX aC)/\Aside0 (Kept w w' (fun k_=>aA k_))/\Aside0 (Below w0.heap.size w0 w'))
 case atStart=>exact⟨(l1),(false),(0),qZ,qZ,H',⟨Nat.le_refl _⟩,⟨qS eZ⟩,⟨qT⟩,⟨qB⟩⟩
 clear H'
 obtain⟨aC,bS,aa,rfl,rfl,HA,dn,af,HK,HB⟩:=hrel
 rcases gk with _|k1
 ·exact absurd HA.out (by simp [Sbc.l0])
 have H:=HA.out
 clear HA
 simp only [Sbc.l0] at H
 replace H:=jD H;rcases H with ⟨dG,H⟩ | ⟨dG,H⟩
 ·replace H:=jI H;obtain⟨dU,H⟩:=H
  replace H:=jI H;obtain⟨dV,H⟩:=H
  replace H:=jE H;rcases H with ⟨dH,dI,H⟩ | ⟨c6,dH,dI,H⟩
  ·have H':=aM H
   clear H
   obtain⟨fC,fD,fe⟩:=Kd.S_slice af.out
   subst fe
   have bu:0<=(aa:Int):=qD
   have bv:aa < (aC.length:Int):=qD
   obtain⟨aQ,dx,dz,dA,aT,aD,aG⟩:=at_L9 (Kd.S_reads' af.out).2.2 aa bu bv
   cases dA
   obtain⟨dJ,bN,bO,aY⟩:=Kd.S_get af.out [] aa bu (by first|exact bv|exact qD|(have e_:=(Kd.S_reads' af.out).1;omega))
   obtain⟨cO,rfl,az⟩:=bO
   have ah:=aY 0 _ rfl
   rw [Nat.add_zero,show ((Kd.slice 3 (Kd.int .i64))).sz=1 from rfl,Nat.mul_one] at ah
   replace ah:=Option.some.inj (ah.symm.trans aT)
   rw [ah] at az
   have au:=aM (show Kd.R (Kd.int .i64) 3 _ _ _ _ (rd_L9 aC aa) from az)
   clear ah az
   clear aY bN
   have ax:=aM aG
   have df:=aM aD
   clear aG aD
   replace bu:=eq_true bu
   replace bv:=eq_true bv
   go_wp2
   go_roundg k1
   case measure=>have:=dn.out;omega
   exact⟨(aC),(bS),(wrap64 (aa+1)),qZ,qZ,H',⟨by have:=dn.out;omega⟩,⟨qS af⟩,⟨qT⟩,⟨qB⟩⟩
  have dW:¬ ((rd_L9 aC aa)=[]):=fun h_=>c6 (by rw [h_];rfl)
  obtain⟨ag,A8,H⟩:=qE H
  try dsimp only at H
  obtain⟨aj,A9,H⟩:=qE H
  try dsimp only at H
  have H':=aM H
  clear H
  obtain⟨fo,bT,dX⟩:=Kd.S_slice af.out
  subst dX
  have bu:0<=(aa:Int):=qD
  have bv:aa < (aC.length:Int):=qD
  obtain⟨aQ,dx,dz,dA,aT,aD,aG⟩:=at_L9 (Kd.S_reads' af.out).2.2 aa bu bv
  cases dA
  obtain⟨dJ,bN,bO,aY⟩:=Kd.S_get af.out [] aa bu (by first|exact bv|exact qD|(have e_:=(Kd.S_reads' af.out).1;omega))
  obtain⟨cO,rfl,az⟩:=bO
  have ah:=aY 0 _ rfl
  rw [Nat.add_zero,show ((Kd.slice 3 (Kd.int .i64))).sz=1 from rfl,Nat.mul_one] at ah
  replace ah:=Option.some.inj (ah.symm.trans aT)
  rw [ah] at az
  have au:=aM (show Kd.R (Kd.int .i64) 3 _ _ _ _ (rd_L9 aC aa) from az)
  clear ah az
  clear aY bN
  have ax:=aM aG
  have df:=aM aD
  clear aG aD
  replace bu:=eq_true bu
  replace bv:=eq_true bv
  try go_wp2_with (first|((with_reducible refine jc 55 24 rfl rfl ?_);refine jG Tryz.func55 #[.slice A0 l0.length c0,.int .i64 aa] ?_;refine (SaT.calls k1 _ _ l0 aa ag _ ?aZ ?bg A8.out).mono ?_;(case aZ=>exact Kd.C_kept_now bR.out qT);(case bg=>exact eY.out);rintro e fq ⟨dB,rfl,ho0,hb⟩;refine⟨_,rfl,?_⟩;have bi:=aM (Kd.R_lower (Kd.R_new' (Kd.R_newM (M:=fun k_=>(aA k_\/w.heap.size<=k_)) ho0 (by first|exact HK.out.1|exact (show Kept w _ (fun k_=>aA k_) from qT).1) (fun k_ h_=>.inr h_)) (Kd.R_lt (qR au))) (below_size qB));replace af:=aM (Kd.S_elder' (qS af) (Kd.R_base ho0) hb);replace au:=kO au ho0 hb;replace ax:=kQ ax hb;replace HK:=kT hb;replace HB:=kH hb;clear hb;(try clear ho0)))
  replace af:=aM (Kd.S_drew af.out)
  replace au:=aM (Kd.R_drew au.out)
  replace bi:=aM (Kd.R_drew bi.out)
  replace ax:=aM (Kd.C_drew ax.out)
  replace HK:=aM (Kept.drew HK.out)
  replace HB:=aM (below_drew1 HB.out)
  have aH:0<=(aa:Int):=qD
  have aI:aa < (l0.length:Int):=qD
  obtain⟨aJ,dY,bE,bF,bG,bH,bI⟩:=at_T27 (Kd.C_kept_now bR.out HK.out) aa aH aI
  have dN:=bI
  have dO:=bH
  have dP:=bG
  have dQ:=bF
  have dR:=bE
  cases dY
  replace aH:=eq_true aH
  replace aI:=eq_true aI
  have bU:0<=(aa:Int):=qD
  have bV:aa < (aC.length:Int):=qD
  obtain⟨dK,bW,bX,dZ,aU,bP,bQ⟩:=at_L9 (Kd.S_reads' af.out).2.2 aa bU bV
  obtain rfl:aQ=dK:=(by injection dZ)
  obtain⟨eG,dC,dD,bY⟩:=Kd.S_get af.out [] aa bU (by first|exact bV|exact qD|(have e_:=(Kd.S_reads' af.out).1;omega))
  obtain⟨dS,rfl,bJ⟩:=dD
  have aK:=bY 0 _ rfl
  rw [Nat.add_zero,show ((Kd.slice 3 (Kd.int .i64))).sz=1 from rfl,Nat.mul_one] at aK
  replace aK:=Option.some.inj (aK.symm.trans aU)
  rw [aK] at bJ
  have aV:=aM (show Kd.R (Kd.int .i64) 3 _ _ _ _ (rd_L9 aC aa) from bJ)
  clear aK bJ
  clear bY dC
  have aW:=aM bQ
  have dh:=aM bP
  clear bQ bP
  replace bU:=eq_true bU
  replace bV:=eq_true bV
  refine start_ (n:=10) (S:=fun w'=>w'.cell? (aJ.add ((aa).toNat*5))=some (.int .i64 ((rd_T27 l0 aa).f0))/\w'.cell? ⟨(aJ.add ((aa).toNat*5)).block,(aJ.add ((aa).toNat*5)).off+1,none⟩=some (.int .i64 ((rd_T27 l0 aa).f1))/\w'.cell? ⟨(aJ.add ((aa).toNat*5)).block,(aJ.add ((aa).toNat*5)).off+2,none⟩=some (.int .i64 ((rd_T27 l0 aa).f2))/\w'.cell? ⟨(aJ.add ((aa).toNat*5)).block,(aJ.add ((aa).toNat*5)).off+3,none⟩=some (.int .i64 ((rd_T27 l0 aa).f3))/\w'.cell? ⟨(aJ.add ((aa).toNat*5)).block,(aJ.add ((aa).toNat*5)).off+4,none⟩=some (.int .i64 ((rd_T27 l0 aa).f4))/\w'.cell? (aQ.add (aa).toNat)=some (.slice bW (rd_L9 aC aa).length bX)) (ds:=[]) (jb 10 0) (by kernel_rfl) rfl rfl ⟨(foot_T27_0 (bR.out _ (by repeat (first|exact HK.out|apply Kept.alloc|apply Kept.drewN|apply Kept.drew))) aa (of_eq_true aH) (of_eq_true aI)),(foot_T27_1 (bR.out _ (by repeat (first|exact HK.out|apply Kept.alloc|apply Kept.drewN|apply Kept.drew))) aa (of_eq_true aH) (of_eq_true aI)),(foot_T27_2 (bR.out _ (by repeat (first|exact HK.out|apply Kept.alloc|apply Kept.drewN|apply Kept.drew))) aa (of_eq_true aH) (of_eq_true aI)),(foot_T27_3 (bR.out _ (by repeat (first|exact HK.out|apply Kept.alloc|apply Kept.drewN|apply Kept.drew))) aa (of_eq_true aH) (of_eq_true aI)),(foot_T27_4 (bR.out _ (by repeat (first|exact HK.out|apply Kept.alloc|apply Kept.drewN|apply Kept.drew))) aa (of_eq_true aH) (of_eq_true aI)),aU⟩ (fun hHeld=>?_);refine with_tabW Sbc.tab7 Sbc.bits7 (fun HT_ HW_=>?_)
  generalize fq.drew=fE at af au bi ax HK HB aV aW bE bF bG bH bI aU hHeld ⊢
  refine jp 0 25 (jb 10 1) ?_
  refine jp 1 26 (jb 10 3) ?_
  refine jp 2 27 (jb 10 7) ?_
  refine jp 4 29 (jb 10 23) ?_
  refine jp 5 30 (jb 10 55) ?_
  refine jp 6 31 (jb 10 119) ?_
  refine jt 3 28 (jb 10 127) ?_
  refine jt 7 32 (jb 10 255) ?_
  refine one_ (i:=8) (N:=some 33) (jb 10 511) rfl rfl (one_of HT_.out (by kernel_rfl)) (by decide) (fun K hK=>?_)
  refine goes_ Tryz.func125 (by kernel_rfl) rfl #[.agg #[.int .i64 ((rd_T27 l0 aa).f0),.int .i64 ((rd_T27 l0 aa).f1),.int .i64 ((rd_T27 l0 aa).f2),.int .i64 ((rd_T27 l0 aa).f3),.int .i64 ((rd_T27 l0 aa).f4)],.slice bW (rd_L9 aC aa).length bX] (by rfl) rfl rfl qM ?_
  with_reducible refine (Sb9.calls k1 ((rd_T27 l0 aa).f0) ((rd_T27 l0 aa).f1) ((rd_T27 l0 aa).f2) ((rd_T27 l0 aa).f3) ((rd_T27 l0 aa).f4) _ _ (rd_L9 aC aa) aj _ ?aZ ?bg A9.out).mono ?_
  (case aZ=>repeat (first|exact (kC aW.out)|(with_reducible refine Kd.C_alloc ?_ _)|(with_reducible refine Kd.C_drewN ?_ _)|(with_reducible refine Kd.C_drew ?_)))
  (case bg=>exact dh.out)
  rintro e fF ⟨dE,rfl,ho0,hb⟩
  have d9:=(hb.cell (World.block_lt_of_cell? _ _ (hHeld.2.2.2.2.2))).trans (hHeld.2.2.2.2.2)
  refine⟨_,rfl,?_⟩
  have dL:=aM (Kd.R_lower (Kd.R_new' (Kd.R_new' (Kd.R_new' (Kd.R_newM (M:=fun k_=>(aA k_\/w.heap.size<=k_)) ho0 (by first|exact HK.out.1|exact (show Kept w _ (fun k_=>aA k_) from qT).1) (fun k_ h_=>.inr h_)) (Kd.R_lt (qR au))) (Kd.R_lt (qR bi))) (Kd.R_lt (qR aV))) (below_size qB))
  replace af:=aM (Kd.S_elder' (qS af) (Kd.R_base ho0) hb)
  replace au:=kO au ho0 hb
  replace bi:=kO bi ho0 hb
  replace aV:=kO aV ho0 hb
  replace ax:=kQ ax hb
  replace aW:=kQ aW hb
  replace HK:=kT hb
  replace HB:=kH hb
  (try clear hb)
  (try clear hb2)
  (try clear hk)
  (try clear hi)
  (try clear ho0)
  refine hK.out _ _ ⟨(foot_T27_0 (bR.out _ (by repeat (first|exact HK.out|apply Kept.alloc|apply Kept.drewN|apply Kept.drew))) aa (of_eq_true aH) (of_eq_true aI)),(foot_T27_1 (bR.out _ (by repeat (first|exact HK.out|apply Kept.alloc|apply Kept.drewN|apply Kept.drew))) aa (of_eq_true aH) (of_eq_true aI)),(foot_T27_2 (bR.out _ (by repeat (first|exact HK.out|apply Kept.alloc|apply Kept.drewN|apply Kept.drew))) aa (of_eq_true aH) (of_eq_true aI)),(foot_T27_3 (bR.out _ (by repeat (first|exact HK.out|apply Kept.alloc|apply Kept.drewN|apply Kept.drew))) aa (of_eq_true aH) (of_eq_true aI)),(foot_T27_4 (bR.out _ (by repeat (first|exact HK.out|apply Kept.alloc|apply Kept.drewN|apply Kept.drew))) aa (of_eq_true aH) (of_eq_true aI)),d9⟩ (fun hHeld=>?_)
  clear hK K
  refine norm_ (a':=?_) ?_ ?_
  rotate_left
  ·show Act.put _ (some 33) _=_
   simp only [Act.put,List.setIfInBounds_toArray,List.set_cons_zero,List.set_cons_succ,i64_w,i32_w]
   rfl
  refine jp 9 8 (jb 10 1023) ?_
  refine done_ (done_of HT_.out (by kernel_rfl)) ?_
  try go_wp2
  go_loopg [5,9] k1 (fun kq v5 v9 w'=>∃ (bz:List (List Int)) (di:Bool) (aN:Int),v5 = .bool di/\v9 = .int .i64 aN/\Aside0 (Sbc.l1 kq l0 bz di aa ag aj aN=some (r1,r2))/\Aside0 (kq<=k1)/\Aside0 (Kd.S (Kd.slice 3 (Kd.int .i64)) 43 w' w0.heap.size (fun k_=>(aA k_\/w.heap.size<=k_)/\some k_≠(dB:Value).ownBlock/\some k_≠(dE:Value).ownBlock) (.slice (some aQ) aC.length bT) bz)/\Aside0 (Kd.R (Kd.int .i64) 3 w' w0.heap.size (fun k_=>(aA k_\/w.heap.size<=k_)/\some k_≠(dE:Value).ownBlock) dB ag)/\Aside0 (Kd.R (Kd.int .i64) 3 w' w0.heap.size (fun k_=>(aA k_\/w.heap.size<=k_)/\some k_≠(dB:Value).ownBlock) dE aj)/\Aside0 (Kept w w' (fun k_=>aA k_))/\Aside0 (Below w0.heap.size w0 w'))
  case atStart=>exact⟨(aC),(bS),(0),qZ,qZ,H',⟨Nat.le_refl _⟩,⟨by (with_reducible repeat (first|apply Kd.S_alloc|apply Kd.S_drewN|apply Kd.S_drew));exact Kd.S_mono af.out (fun _ hk=>⟨hk.1.1,⟨hk.1.2,hk.2⟩⟩)⟩,⟨by (with_reducible repeat (first|apply Kd.R_alloc|apply Kd.R_drewN|apply Kd.R_drew));exact Kd.R_mono bi.out (fun _ hk=>⟨hk.1.1.1,hk.2⟩)⟩,⟨by (with_reducible repeat (first|apply Kd.R_alloc|apply Kd.R_drewN|apply Kd.R_drew));exact Kd.R_mono dL.out (fun _ hk=>⟨hk.1.1.1.1,hk.1.2⟩)⟩,⟨qT⟩,⟨qB⟩⟩
  clear H'
  try clear dG;try clear dU;try clear dV;try clear c6;try clear dH;try clear dI;try clear dW;try clear aT;try clear bE;try clear bF;try clear bG;try clear bH;try clear bI;try clear aU;try clear bu;try clear aH;try clear bU;try clear bv;try clear aI;try clear bV
  obtain⟨bz,di,aN,rfl,rfl,HA,dF,af,av,ai,HK,HB⟩:=hrel
  have ay:=(Kd.S_reads' af.out).1
  rw [ay] at af
  (try simp only [ay])
  (try simp only [ay] at av)
  (try simp only [ay] at ai)
  rcases gk with _|k2
  ·exact absurd HA.out (by simp [Sbc.l1])
  have H:=HA.out
  clear HA
  simp only [Sbc.l1] at H
  replace H:=jD H;rcases H with ⟨dM,H⟩ | ⟨dM,H⟩
  ·replace H:=jI H;obtain⟨eH,H⟩:=H
   obtain⟨⟨eO,dw⟩,eP,H⟩:=qE H
   try dsimp only at H
   replace H:=jB H;rcases H with ⟨rfl,H⟩ | ⟨rfl,H⟩
   ·have H':=aM H
    clear H
    obtain⟨fu,bK,ed⟩:=Kd.R_slice av.out
    subst ed
    have bn:0<=(aN:Int):=qD
    have bq:aN < (ag.length:Int):=qD
    obtain⟨ae,bZ,cz⟩:=Kd.at_int (Kd.R_reads' av.out).2.2 aN bn bq
    cases bZ
    replace bn:=eq_true bn
    replace bq:=eq_true bq
    obtain⟨bA,bB,ek⟩:=Kd.R_slice ai.out
    subst ek
    go_wp2_with (first|((with_reducible refine jc 126 46 rfl rfl ?_);refine jG Tryz.func126 #[.slice (some aQ) bz.length bT,.int .i64 (rd ag aN),.slice bA aj.length bB] ?_;refine (Sba.calls k2 ?eQ (.slice (some aQ) bz.length bT) bz (rd ag aN) _ _ aj true dw w0 _ ?aZ ?bg ?cB ?cK eP.out).mono ?_;(case bg=>exact Kd.S_bound af.out);(case aZ=>exact qB);(case cB=>exact Kd.C_kept_own (Kd.R_tight rfl ai.out) (fun k_ hk_ hs_=>by first|exact hs_.1.2 hk_|exact hs_.1.2.1 hk_|exact hs_.1.2.2 hk_|exact hs_.1.1.2 hk_|exact hs_.1.1.1.2 hk_|exact tyap ai.out (by decide) hk_ hs_.2.2.2));(case cK=>exact (Kd.R_reads' ai.out).2.1);rintro e eu ⟨rfl,hy0,hb,hkp⟩;refine⟨_,rfl,?_⟩;replace af:=aM ((by first|exact Kd.S_mono (ok':=fun k_=>(((aA k_\/w.heap.size<=k_))/\(some k_≠(.slice (some ae) ag.length bK:Value).ownBlock/\some k_≠(.slice bA aj.length bB:Value).ownBlock))) hy0 (fun k_ h_=>Or.elim h_ (fun h_=>h_.1) (fun h_=>.inr (by first|exact Nat.le_trans HK.out.1 h_|exact Nat.le_trans (below_size HB.out) h_)))|exact Kd.S_mono (ok':=fun k_=>(((aA k_\/w.heap.size<=k_))/\(some k_≠(.slice (some ae) ag.length bK:Value).ownBlock/\some k_≠(.slice bA aj.length bB:Value).ownBlock))) hy0 (fun _ _=>trivial)|exact Kd.S_mono (ok':=fun k_=>(((aA k_\/w.heap.size<=k_))/\(some k_≠(.slice (some ae) ag.length bK:Value).ownBlock/\some k_≠(.slice bA aj.length bB:Value).ownBlock))) hy0 (fun k_ h_=>Or.elim h_ (fun h_=>h_.1) (fun h_=>⟨.inr (Nat.le_trans HK.out.1 h_),fun e_=>by have:=Kd.R_lt av.out k_ e_.symm;omega⟩))|exact Kd.S_mono (ok':=fun k_=>(((aA k_\/w.heap.size<=k_))/\(some k_≠(.slice (some ae) ag.length bK:Value).ownBlock/\some k_≠(.slice bA aj.length bB:Value).ownBlock))) hy0 (fun k_ h_=>Or.elim h_ (fun h_=>h_.1) (fun h_=>⟨.inr (Nat.le_trans HK.out.1 h_),fun e_=>by have:=Kd.R_lt ai.out k_ e_.symm;omega⟩))|exact Kd.S_mono (ok':=fun k_=>(((aA k_\/w.heap.size<=k_))/\(some k_≠(.slice (some ae) ag.length bK:Value).ownBlock/\some k_≠(.slice bA aj.length bB:Value).ownBlock))) hy0 (fun k_ h_=>Or.elim h_ (fun h_=>h_.1) (fun h_=>⟨⟨.inr (Nat.le_trans HK.out.1 h_),fun e_=>by have:=Kd.R_lt av.out k_ e_.symm;omega⟩,fun e_=>by have:=Kd.R_lt ai.out k_ e_.symm;omega⟩))|exact Kd.S_mono (ok':=fun k_=>(((aA k_\/w.heap.size<=k_))/\(some k_≠(.slice (some ae) ag.length bK:Value).ownBlock/\some k_≠(.slice bA aj.length bB:Value).ownBlock))) hy0 (fun k_ h_=>Or.elim h_ (fun h_=>h_.1) (fun h_=>⟨⟨.inr (Nat.le_trans HK.out.1 h_),fun e_=>by have:=Kd.R_lt ai.out k_ e_.symm;omega⟩,fun e_=>by have:=Kd.R_lt av.out k_ e_.symm;omega⟩))|exact Kd.S_mono (ok':=fun k_=>(((aA k_\/w.heap.size<=k_))/\(some k_≠(.slice (some ae) ag.length bK:Value).ownBlock/\some k_≠(.slice bA aj.length bB:Value).ownBlock))) hy0 (fun k_ h_=>Or.elim h_ (fun h_=>h_.1) (fun h_=>⟨.inr (Nat.le_trans HK.out.1 h_),⟨fun e_=>by have:=Kd.R_lt av.out k_ e_.symm;omega,fun e_=>by have:=Kd.R_lt ai.out k_ e_.symm;omega⟩⟩))|exact Kd.S_mono (ok':=fun k_=>(((aA k_\/w.heap.size<=k_))/\(some k_≠(.slice (some ae) ag.length bK:Value).ownBlock/\some k_≠(.slice bA aj.length bB:Value).ownBlock))) hy0 (fun k_ h_=>Or.elim h_ (fun h_=>h_.1) (fun h_=>⟨.inr (Nat.le_trans HK.out.1 h_),⟨fun e_=>by have:=Kd.R_lt ai.out k_ e_.symm;omega,fun e_=>by have:=Kd.R_lt av.out k_ e_.symm;omega⟩⟩))));replace av:=aM (Kd.R_mono (ok':=fun k_=>(aA k_\/w.heap.size<=k_)/\some k_≠(.slice bA aj.length bB:Value).ownBlock) (Kd.R_keptB (Kd.R_tight rfl av.out) hkp (fun k_ hk_ hs_=>by first|exact hs_.1.2 hk_|exact hs_.1.2.1 hk_|exact hs_.1.2.2 hk_|exact hs_.1.1.2 hk_|exact hs_.1.1.1.2 hk_|exact tyap av.out (by decide) hk_ hs_.2.2.2)) (fun k_ hk_=>av.out.1 k_ hk_.1.symm));replace ai:=aM (Kd.R_mono (ok':=fun k_=>(aA k_\/w.heap.size<=k_)/\some k_≠(.slice (some ae) ag.length bK:Value).ownBlock) (Kd.R_keptB (Kd.R_tight rfl ai.out) hkp (fun k_ hk_ hs_=>by first|exact hs_.1.2 hk_|exact hs_.1.2.1 hk_|exact hs_.1.2.2 hk_|exact hs_.1.1.2 hk_|exact hs_.1.1.1.2 hk_|exact tyap ai.out (by decide) hk_ hs_.2.2.2)) (fun k_ hk_=>ai.out.1 k_ hk_.1.symm));replace HK:=aM (Kept.then_ (S:=(fun k_=>aA k_)) qT hkp (fun k_ hs_=>by first|exact hs_.1.1|exact hs_.1.1.1|exact hs_.1));replace HB:=aM hb;(try clear hb);(try clear hkp);(try clear hy0)))
    (try simp only [<- ay])
    go_roundg k2
    case measure=>have:=dn.out;have:=dF.out;omega
    exact⟨_,_,_,qZ,qZ,H',⟨by have:=dn.out;have:=dF.out;omega⟩,⟨by (try simp only [ay]);(with_reducible repeat (first|apply Kd.S_alloc|apply Kd.S_drewN|apply Kd.S_drew));exact af.out⟩,⟨by (try simp only [ay]);(with_reducible repeat (first|apply Kd.R_alloc|apply Kd.R_drewN|apply Kd.R_drew));exact av.out⟩,⟨by (try simp only [ay]);(with_reducible repeat (first|apply Kd.R_alloc|apply Kd.R_drewN|apply Kd.R_drew));exact ai.out⟩,⟨qT⟩,⟨qB⟩⟩
   have H':=aM H
   clear H
   obtain⟨fw,bL,eB⟩:=Kd.R_slice av.out
   subst eB
   have bn:0<=(aN:Int):=qD
   have bq:aN < (ag.length:Int):=qD
   obtain⟨ae,bZ,cz⟩:=Kd.at_int (Kd.R_reads' av.out).2.2 aN bn bq
   cases bZ
   replace bn:=eq_true bn
   replace bq:=eq_true bq
   obtain⟨bC,bD,eD⟩:=Kd.R_slice ai.out
   subst eD
   go_wp2_with (first|((with_reducible refine jc 126 46 rfl rfl ?_);refine jG Tryz.func126 #[.slice (some aQ) bz.length bT,.int .i64 (rd ag aN),.slice bC aj.length bD] ?_;refine (Sba.calls k2 ?eT (.slice (some aQ) bz.length bT) bz (rd ag aN) _ _ aj false dw w0 _ ?aZ ?bg ?cB ?cK eP.out).mono ?_;(case bg=>exact Kd.S_bound af.out);(case aZ=>exact qB);(case cB=>exact Kd.C_kept_own (Kd.R_tight rfl ai.out) (fun k_ hk_ hs_=>by first|exact hs_.1.2 hk_|exact hs_.1.2.1 hk_|exact hs_.1.2.2 hk_|exact hs_.1.1.2 hk_|exact hs_.1.1.1.2 hk_|exact tyap ai.out (by decide) hk_ hs_.2.2.2));(case cK=>exact (Kd.R_reads' ai.out).2.1);rintro e eu ⟨rfl,hy0,hb,hkp⟩;refine⟨_,rfl,?_⟩;replace af:=aM ((by first|exact Kd.S_mono (ok':=fun k_=>(((aA k_\/w.heap.size<=k_))/\(some k_≠(.slice (some ae) ag.length bL:Value).ownBlock/\some k_≠(.slice bC aj.length bD:Value).ownBlock))) hy0 (fun k_ h_=>Or.elim h_ (fun h_=>h_.1) (fun h_=>.inr (by first|exact Nat.le_trans HK.out.1 h_|exact Nat.le_trans (below_size HB.out) h_)))|exact Kd.S_mono (ok':=fun k_=>(((aA k_\/w.heap.size<=k_))/\(some k_≠(.slice (some ae) ag.length bL:Value).ownBlock/\some k_≠(.slice bC aj.length bD:Value).ownBlock))) hy0 (fun _ _=>trivial)|exact Kd.S_mono (ok':=fun k_=>(((aA k_\/w.heap.size<=k_))/\(some k_≠(.slice (some ae) ag.length bL:Value).ownBlock/\some k_≠(.slice bC aj.length bD:Value).ownBlock))) hy0 (fun k_ h_=>Or.elim h_ (fun h_=>h_.1) (fun h_=>⟨.inr (Nat.le_trans HK.out.1 h_),fun e_=>by have:=Kd.R_lt av.out k_ e_.symm;omega⟩))|exact Kd.S_mono (ok':=fun k_=>(((aA k_\/w.heap.size<=k_))/\(some k_≠(.slice (some ae) ag.length bL:Value).ownBlock/\some k_≠(.slice bC aj.length bD:Value).ownBlock))) hy0 (fun k_ h_=>Or.elim h_ (fun h_=>h_.1) (fun h_=>⟨.inr (Nat.le_trans HK.out.1 h_),fun e_=>by have:=Kd.R_lt ai.out k_ e_.symm;omega⟩))|exact Kd.S_mono (ok':=fun k_=>(((aA k_\/w.heap.size<=k_))/\(some k_≠(.slice (some ae) ag.length bL:Value).ownBlock/\some k_≠(.slice bC aj.length bD:Value).ownBlock))) hy0 (fun k_ h_=>Or.elim h_ (fun h_=>h_.1) (fun h_=>⟨⟨.inr (Nat.le_trans HK.out.1 h_),fun e_=>by have:=Kd.R_lt av.out k_ e_.symm;omega⟩,fun e_=>by have:=Kd.R_lt ai.out k_ e_.symm;omega⟩))|exact Kd.S_mono (ok':=fun k_=>(((aA k_\/w.heap.size<=k_))/\(some k_≠(.slice (some ae) ag.length bL:Value).ownBlock/\some k_≠(.slice bC aj.length bD:Value).ownBlock))) hy0 (fun k_ h_=>Or.elim h_ (fun h_=>h_.1) (fun h_=>⟨⟨.inr (Nat.le_trans HK.out.1 h_),fun e_=>by have:=Kd.R_lt ai.out k_ e_.symm;omega⟩,fun e_=>by have:=Kd.R_lt av.out k_ e_.symm;omega⟩))|exact Kd.S_mono (ok':=fun k_=>(((aA k_\/w.heap.size<=k_))/\(some k_≠(.slice (some ae) ag.length bL:Value).ownBlock/\some k_≠(.slice bC aj.length bD:Value).ownBlock))) hy0 (fun k_ h_=>Or.elim h_ (fun h_=>h_.1) (fun h_=>⟨.inr (Nat.le_trans HK.out.1 h_),⟨fun e_=>by have:=Kd.R_lt av.out k_ e_.symm;omega,fun e_=>by have:=Kd.R_lt ai.out k_ e_.symm;omega⟩⟩))|exact Kd.S_mono (ok':=fun k_=>(((aA k_\/w.heap.size<=k_))/\(some k_≠(.slice (some ae) ag.length bL:Value).ownBlock/\some k_≠(.slice bC aj.length bD:Value).ownBlock))) hy0 (fun k_ h_=>Or.elim h_ (fun h_=>h_.1) (fun h_=>⟨.inr (Nat.le_trans HK.out.1 h_),⟨fun e_=>by have:=Kd.R_lt ai.out k_ e_.symm;omega,fun e_=>by have:=Kd.R_lt av.out k_ e_.symm;omega⟩⟩))));replace av:=aM (Kd.R_mono (ok':=fun k_=>(aA k_\/w.heap.size<=k_)/\some k_≠(.slice bC aj.length bD:Value).ownBlock) (Kd.R_keptB (Kd.R_tight rfl av.out) hkp (fun k_ hk_ hs_=>by first|exact hs_.1.2 hk_|exact hs_.1.2.1 hk_|exact hs_.1.2.2 hk_|exact hs_.1.1.2 hk_|exact hs_.1.1.1.2 hk_|exact tyap av.out (by decide) hk_ hs_.2.2.2)) (fun k_ hk_=>av.out.1 k_ hk_.1.symm));replace ai:=aM (Kd.R_mono (ok':=fun k_=>(aA k_\/w.heap.size<=k_)/\some k_≠(.slice (some ae) ag.length bL:Value).ownBlock) (Kd.R_keptB (Kd.R_tight rfl ai.out) hkp (fun k_ hk_ hs_=>by first|exact hs_.1.2 hk_|exact hs_.1.2.1 hk_|exact hs_.1.2.2 hk_|exact hs_.1.1.2 hk_|exact hs_.1.1.1.2 hk_|exact tyap ai.out (by decide) hk_ hs_.2.2.2)) (fun k_ hk_=>ai.out.1 k_ hk_.1.symm));replace HK:=aM (Kept.then_ (S:=(fun k_=>aA k_)) qT hkp (fun k_ hs_=>by first|exact hs_.1.1|exact hs_.1.1.1|exact hs_.1));replace HB:=aM hb;(try clear hb);(try clear hkp);(try clear hy0)))
   (try simp only [<- ay])
   go_roundg k2
   case measure=>have:=dn.out;have:=dF.out;omega
   exact⟨_,_,_,qZ,qZ,H',⟨by have:=dn.out;have:=dF.out;omega⟩,⟨by (try simp only [ay]);(with_reducible repeat (first|apply Kd.S_alloc|apply Kd.S_drewN|apply Kd.S_drew));exact af.out⟩,⟨by (try simp only [ay]);(with_reducible repeat (first|apply Kd.R_alloc|apply Kd.R_drewN|apply Kd.R_drew));exact av.out⟩,⟨by (try simp only [ay]);(with_reducible repeat (first|apply Kd.R_alloc|apply Kd.R_drewN|apply Kd.R_drew));exact ai.out⟩,⟨qT⟩,⟨qB⟩⟩
  have H':=aM H
  clear H
  obtain⟨fA,fB,eF⟩:=Kd.R_slice av.out
  subst eF
  go_wp2
  (try simp only [<- ay])
  go_roundg k2
  case measure=>have:=dn.out;have:=dF.out;omega
  exact⟨(bz),(di),(wrap64 (aa+1)),qZ,qZ,H',⟨by have:=dn.out;have:=dF.out;omega⟩,⟨by (try simp only [ay]);(with_reducible repeat (first|apply Kd.S_alloc|apply Kd.S_drewN|apply Kd.S_drew));exact Kd.S_mono af.out (fun _ hk=>hk.1)⟩,⟨qT⟩,⟨qB⟩⟩
 obtain⟨rfl,rfl⟩:=oJ2 H
 go_wp2
 go_ret
 exact⟨qW,qS af,qB,qT⟩
end Go.Proofs.YtebpplallecogaaGreat.M
