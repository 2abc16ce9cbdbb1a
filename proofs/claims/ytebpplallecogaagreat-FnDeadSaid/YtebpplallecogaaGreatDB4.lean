/- Part 4 of the proof: A function as plain Lean and its contract: written by a program of this session's, turned from the kit's print. -/
import Derived.Test.YtebpplallecogaaGreatDB3
set_option linter.unusedVariables false
set_option linter.unusedSimpArgs false
set_option maxHeartbeats 8000000
set_option maxRecDepth 100000
namespace Go.Proofs.YtebpplallecogaaGreat.M
open Go.Proofs.Tryz Go.RowKit Go.Proofs.YtebpplallecogaaGreatW.PrintWords Go.Proofs.YtebpplallecogaaGreatW.PrintLast Go.Proofs.YtebpplallecogaaGreatW.PrintMore
attribute [local go_sem] max2_int min2_int max_two min_two max_three min_three max_four min_four
def Sb3.f (k:Nat) (aN aQ au ay aT:Int) (l1:List (S118)) (a2:Int):Option (Int × Int × Int × Int × Int):=if 0 < (l1.length:Int) then (if ((rd_T118 l1 0).f0)=0 then (some (aN,aQ,au,ay,aT)) else (if aN=2 then (if 0<=au then (if au < (l1.length:Int) then (if ((rd_T118 l1 au).f0)=1 then (some (1,aQ,0,0,(rd_T118 l1 au).f1)) else (some (aN,aQ,au,ay,aT))) else (none)) else (none)) else (if aN=3 then (if 0<=au then (if au < (l1.length:Int) then (if 0<=ay then (if ay < (l1.length:Int) then ((Sb0.f k aN aQ au ay aT ((rd_T118 l1 au).f0) ((rd_T118 l1 au).f1) ((rd_T118 l1 ay).f0) ((rd_T118 l1 ay).f1)).bind fun bE=>(some (bE.1,bE.2.1,bE.2.2.1,bE.2.2.2.1,bE.2.2.2.2))) else (none)) else (none)) else (none)) else (none)) else (if aN=5 then (if 0<=au then (if au < (l1.length:Int) then ((Sb4.f ((rd_T118 l1 au).f0) ((rd_T118 l1 au).f1) 0).bind fun cz=>(if cz=true then (some (4,0,0,0,aT)) else (if ((rd_T118 l1 au).f0)=1 then (some (4,0,0,0,wrap64 (a2+1))) else (some (aN,aQ,au,ay,aT))))) else (none)) else (none)) else (some (aN,aQ,au,ay,aT)))))) else (none)
def Sb3.T6:Bool × List (List Nat × List Nat):=(true,[([],[]),([0],[0]),([],[]),([],[]),([3],[3]),([2,4],[2,4]),([5],[5]),([6],[6]),([1,7],[1,7]),([8,0,1,2,3,4,5,6,7,8],[8])])
def Sb3.B6:List Nat:=[0,1,0,0,8,28,60,124,255,511]
theorem Sb3.tab6:rtab .any (opsOf f98 6)=Sb3.T6:=by kernel_rfl
theorem Sb3.bits6:waitsOk Sb3.T6.2 Sb3.B6=true:=by kernel_rfl
def Sb3.T8:Bool × List (List Nat × List Nat):=(true,[([],[]),([],[]),([],[]),([2],[2]),([1,3],[1,3]),([4],[4]),([],[]),([],[]),([7],[7]),([6,8],[6,8]),([9],[9]),([0,5,10],[0,5,10]),([11,11,0,1,2,3,4,5,6,7,8,9,10,11],[11])])
def Sb3.B8:List Nat:=[0,0,0,4,14,30,0,0,128,448,960,2047,4095]
theorem Sb3.tab8:rtab .any (opsOf f98 8)=Sb3.T8:=by kernel_rfl
theorem Sb3.bits8:waitsOk Sb3.T8.2 Sb3.B8=true:=by kernel_rfl
theorem Sb3_0 {G:Prop} (h:G:=by
  go_enter func98,ntmps98
  go_wp2_with (first|((with_reducible refine jd 3 rfl ?_);refine jX _ 27 ?_;intro aC hg bL hbox hb;have af:=aM hbox;have bC:=kG hg;replace HB:=kH hb;clear hb hbox hg)|((with_reducible refine jd 6 rfl ?_);refine jX _ 27 ?_;intro ae hg bF hbox hb;have aj:=aM hbox;have av:=kG hg;have aa:=kN hg af;have ai:=kM hg af;replace af:=kB af hb;replace HB:=kH hb;clear hb hbox hg;have az:0<=(0:Int):=(by omega);have aA:0 < (l1.length:Int):=qD;obtain⟨ax,bg,ag,ah⟩:=at_T118 HR1.out 0 az aA;cases bg;have bD:(0 < l1.length)=True:=eq_true (by omega);(try rw [show ((0:Int)).toNat=0 from rfl] at ag);(try rw [show 0*2=0 from rfl] at ag);(try rw [Addr.add_zero'] at ag);(try rw [show ((0:Int)).toNat=0 from rfl] at ah);(try rw [show 0*2=0 from rfl] at ah);(try rw [Addr.add_zero'] at ah);replace ag:=kx HB ag;replace ah:=kx HB ah;replace az:=eq_true az;replace aA:=eq_true aA;have bM:=aa.out;have bN:=ai.out;have bO:=jz5 af;have eO:=jz5 aj))
  refine bodyPost_ret (results_cell_row rfl _ _ ae 27 #[iV aN,iV aQ,iV au,iV ay,iV aT] (0,0) _ rfl (qF aj) underlying27 rfl (by kernel_rfl)) rfl ?_
  exact⟨qW,qB⟩):G:=h
theorem Sb3.calls (k:Nat) (aN aQ au ay aT:Int) (A1:Option Addr) (c1:Nat) (l1:List (S118)) (a2 r1 r2 r3 r4 r5:Int) (w:World) (hr1:Kd.C k118 w A1 l1.length l1) (hc1:l1.length<=c1) (h:Sb3.f k aN aQ au ay aT l1 a2=some (r1,r2,r3,r4,r5)) :
  Calls prog 98 #[.agg #[iV aN,iV aQ,iV au,iV ay,iV aT],.slice A1 l1.length c1,iV a2] w fun e w'=>e = .returned (.agg #[iV r1,iV r2,iV r3,iV r4,iV r5])/\Below w.heap.size w w':=by
 have fO:=underlying27
 have eY:=underlying118
 have HR1:=aM hr1
 have gF:=aM hc1
 clear hr1 hc1
 have HB:=aM (Below.refl w.heap.size w)
 have H:=h;unfold Sb3.f at H
 clear h
 replace H:=jU H;obtain⟨c4,H⟩:=H
 have fP:=decide_eq_true c4
 have fQ:decide (0 < l1.length)=true:=decide_eq_true (by omega)
 clear c4
 replace H:=jE H;rcases H with ⟨eP,eQ,H⟩ | ⟨c5,eP,eQ,H⟩
 ·obtain⟨rfl,rfl,rfl,rfl,rfl⟩:=oJ5 H
  exact Sb3_0
 replace H:=jE H;rcases H with ⟨cB,cK,H⟩ | ⟨c11,cB,cK,H⟩
 ·replace H:=jI H;obtain⟨eZ,H⟩:=H
  replace H:=jI H;obtain⟨fe,H⟩:=H
  replace H:=jE H;rcases H with ⟨cO,df,H⟩ | ⟨c14,cO,df,H⟩
  ·obtain⟨rfl,rfl,rfl,rfl,rfl⟩:=oJ5 H
   go_enter func98,ntmps98
   try go_wp2_with (first|((with_reducible refine jd 3 rfl ?_);refine jX _ 27 ?_;intro aC hg bL hbox hb;have af:=aM hbox;have bC:=kG hg;replace HB:=kH hb;clear hb hbox hg)|((with_reducible refine jd 6 rfl ?_);refine jX _ 27 ?_;intro ae hg bF hbox hb;have aj:=aM hbox;have av:=kG hg;have aa:=kN hg af;have ai:=kM hg af;replace af:=kB af hb;replace HB:=kH hb;clear hb hbox hg;have az:0<=(0:Int):=(by omega);have aA:0 < (l1.length:Int):=qD;obtain⟨ax,bg,ag,ah⟩:=at_T118 HR1.out 0 az aA;cases bg;have bD:(0 < l1.length)=True:=eq_true (by omega);(try rw [show ((0:Int)).toNat=0 from rfl] at ag);(try rw [show 0*2=0 from rfl] at ag);(try rw [Addr.add_zero'] at ag);(try rw [show ((0:Int)).toNat=0 from rfl] at ah);(try rw [show 0*2=0 from rfl] at ah);(try rw [Addr.add_zero'] at ah);replace ag:=kx HB ag;replace ah:=kx HB ah;replace az:=eq_true az;replace aA:=eq_true aA;have bM:=aa.out;have bN:=ai.out;have bO:=jz5 af;have bH:0<=(au:Int):=qD;have bI:au < (l1.length:Int):=qD;obtain⟨bP,bS,aW,aX⟩:=at_T118 HR1.out au bH bI;obtain rfl:ax=bP:=(by injection bS);replace aW:=kx HB aW;replace aX:=kx HB aX;replace bH:=eq_true bH;replace bI:=eq_true bI))
   replace af:=aM (blk_drew af.out)
   replace aj:=aM (blk_drew aj.out)
   replace HB:=aM (below_drew1 HB.out)
   have bT:0<=(au:Int):=qD
   have bU:au < (l1.length:Int):=qD
   obtain⟨dh,eT,bi,bn⟩:=at_T118 HR1.out au bT bU
   have aU:=bn
   have aV:=bi
   obtain rfl:ax=dh:=(by injection eT)
   replace bi:=kx HB bi
   replace bn:=kx HB bn
   replace bT:=eq_true bT
   replace bU:=eq_true bU
   refine start_ (n:=10) (S:=fun w'=>w'.cell? ⟨aC,0,none⟩=some (iV aN)/\w'.cell? ⟨aC,1,none⟩=some (iV aQ)/\w'.cell? ⟨aC,2,none⟩=some (iV au)/\w'.cell? ⟨aC,3,none⟩=some (iV ay)/\w'.cell? ⟨aC,4,none⟩=some (iV aT)/\w'.cell? (ax.add ((au).toNat*2))=some (iV ((rd_T118 l1 au).f0))/\w'.cell? ⟨(ax.add ((au).toNat*2)).block,(ax.add ((au).toNat*2)).off+1,none⟩=some (iV ((rd_T118 l1 au).f1))) (ds:=[]) (jb 10 0) (by kernel_rfl) rfl rfl ⟨(blk_cell af.out 0).trans rfl,(blk_cell af.out 1).trans rfl,(blk_cell af.out 2).trans rfl,(blk_cell af.out 3).trans rfl,(blk_cell af.out 4).trans rfl,(kx HB aV),(kx HB aU)⟩ (fun hHeld=>?_);refine with_tabW Sb3.tab6 Sb3.bits6 (fun HT_ HW_=>?_)
   generalize bF.drew=di at af aj HB bi bn hHeld ⊢
   refine jp 0 24 (jb 10 1) ?_
   refine jp 2 26 (jb 10 5) ?_
   refine jp 3 27 (jb 10 13) ?_
   refine jt 1 25 (jb 10 15) ?_
   refine jt 4 28 (jb 10 31) ?_
   refine jp 5 29 (jb 10 63) ?_
   refine jp 6 30 (jb 10 127) ?_
   refine jt 7 31 (jb 10 255) ?_
   refine jp 8 32 (jb 10 511) ?_
   refine one_ (i:=9) (N:=none) (jb 10 1023) rfl rfl (one_of HT_.out (by kernel_rfl)) (by decide) (fun K hK=>?_)
   have fT:di.cell? ⟨ae,0,none⟩=some (iV 0):=(blk_cell aj.out 0).trans rfl
   have fo:=blk_frozen aj.out 0
   have dN:=aa.out
   have dO:=ai.out
   have fU:di.cell? ⟨ae,1,none⟩=some (iV 0):=(blk_cell aj.out 1).trans rfl
   have fq:=blk_frozen aj.out 1
   have dP:=aa.out
   have dQ:=ai.out
   have fV:di.cell? ⟨ae,2,none⟩=some (iV 0):=(blk_cell aj.out 2).trans rfl
   have fu:=blk_frozen aj.out 2
   have dR:=aa.out
   have dS:=ai.out
   have fZ:di.cell? ⟨ae,3,none⟩=some (iV 0):=(blk_cell aj.out 3).trans rfl
   have fw:=blk_frozen aj.out 3
   have dU:=aa.out
   have dV:=ai.out
   have gm:di.cell? ⟨ae,4,none⟩=some (iV 0):=(blk_cell aj.out 4).trans rfl
   have fA:=blk_frozen aj.out 4
   have dW:=aa.out
   have dX:=ai.out
   refine skip_ (w1:=?_) (by rfl) rfl ?_ ?_
   rotate_left
   ·go_simp
    rfl
   refine hK.out _ _ ⟨((cell_far (p:=⟨ae,_,none⟩) aa.out _).trans (((cell_far (p:=⟨ae,_,none⟩) aa.out _).trans (((cell_far (p:=⟨ae,_,none⟩) aa.out _).trans (((cell_far (p:=⟨ae,_,none⟩) aa.out _).trans (((cell_far (p:=⟨ae,_,none⟩) aa.out _).trans (hHeld.1)))))))))),((cell_far (p:=⟨ae,_,none⟩) aa.out _).trans (((cell_far (p:=⟨ae,_,none⟩) aa.out _).trans (((cell_far (p:=⟨ae,_,none⟩) aa.out _).trans (((cell_far (p:=⟨ae,_,none⟩) aa.out _).trans (((cell_far (p:=⟨ae,_,none⟩) aa.out _).trans (hHeld.2.1)))))))))),((cell_far (p:=⟨ae,_,none⟩) aa.out _).trans (((cell_far (p:=⟨ae,_,none⟩) aa.out _).trans (((cell_far (p:=⟨ae,_,none⟩) aa.out _).trans (((cell_far (p:=⟨ae,_,none⟩) aa.out _).trans (((cell_far (p:=⟨ae,_,none⟩) aa.out _).trans (hHeld.2.2.1)))))))))),((cell_far (p:=⟨ae,_,none⟩) aa.out _).trans (((cell_far (p:=⟨ae,_,none⟩) aa.out _).trans (((cell_far (p:=⟨ae,_,none⟩) aa.out _).trans (((cell_far (p:=⟨ae,_,none⟩) aa.out _).trans (((cell_far (p:=⟨ae,_,none⟩) aa.out _).trans (hHeld.2.2.2.1)))))))))),((cell_far (p:=⟨ae,_,none⟩) aa.out _).trans (((cell_far (p:=⟨ae,_,none⟩) aa.out _).trans (((cell_far (p:=⟨ae,_,none⟩) aa.out _).trans (((cell_far (p:=⟨ae,_,none⟩) aa.out _).trans (((cell_far (p:=⟨ae,_,none⟩) aa.out _).trans (hHeld.2.2.2.2.1)))))))))),((cell_far (p:=⟨ae,_,none⟩) (kf (kn aV av)) _).trans (((cell_far (p:=⟨ae,_,none⟩) (kf (kn aV av)) _).trans (((cell_far (p:=⟨ae,_,none⟩) (kf (kn aV av)) _).trans (((cell_far (p:=⟨ae,_,none⟩) (kf (kn aV av)) _).trans (((cell_far (p:=⟨ae,_,none⟩) (kf (kn aV av)) _).trans (hHeld.2.2.2.2.2.1)))))))))),((cell_far (p:=⟨ae,_,none⟩) (kf (kn aU av)) _).trans (((cell_far (p:=⟨ae,_,none⟩) (kf (kn aU av)) _).trans (((cell_far (p:=⟨ae,_,none⟩) (kf (kn aU av)) _).trans (((cell_far (p:=⟨ae,_,none⟩) (kf (kn aU av)) _).trans (((cell_far (p:=⟨ae,_,none⟩) (kf (kn aU av)) _).trans (hHeld.2.2.2.2.2.2))))))))))⟩ (fun hHeld=>?_)
   clear hK K
   refine done_ (done_of HT_.out (by kernel_rfl)) ?_
   try go_wp2
   refine bodyPost_ret (results_cell_row rfl _ _ ae 27 #[iV 1,iV aQ,iV 0,iV 0,iV ((rd_T118 l1 au).f1)] (0,0) _ rfl (qF aj) underlying27 rfl (by kernel_rfl)) rfl ?_
   exact⟨qW,qB⟩
  obtain⟨rfl,rfl,rfl,rfl,rfl⟩:=oJ5 H
  go_enter func98,ntmps98
  go_wp2_with (first|((with_reducible refine jd 3 rfl ?_);refine jX _ 27 ?_;intro aC hg bL hbox hb;have af:=aM hbox;have bC:=kG hg;replace HB:=kH hb;clear hb hbox hg)|((with_reducible refine jd 6 rfl ?_);refine jX _ 27 ?_;intro ae hg bF hbox hb;have aj:=aM hbox;have av:=kG hg;have aa:=kN hg af;have ai:=kM hg af;replace af:=kB af hb;replace HB:=kH hb;clear hb hbox hg;have az:0<=(0:Int):=(by omega);have aA:0 < (l1.length:Int):=qD;obtain⟨ax,bg,ag,ah⟩:=at_T118 HR1.out 0 az aA;cases bg;have bD:(0 < l1.length)=True:=eq_true (by omega);(try rw [show ((0:Int)).toNat=0 from rfl] at ag);(try rw [show 0*2=0 from rfl] at ag);(try rw [Addr.add_zero'] at ag);(try rw [show ((0:Int)).toNat=0 from rfl] at ah);(try rw [show 0*2=0 from rfl] at ah);(try rw [Addr.add_zero'] at ah);replace ag:=kx HB ag;replace ah:=kx HB ah;replace az:=eq_true az;replace aA:=eq_true aA;have bM:=aa.out;have bN:=ai.out;have bO:=jz5 af;have bH:0<=(au:Int):=qD;have bI:au < (l1.length:Int):=qD;obtain⟨bP,bS,aW,aX⟩:=at_T118 HR1.out au bH bI;obtain rfl:ax=bP:=(by injection bS);replace aW:=kx HB aW;replace aX:=kx HB aX;replace bH:=eq_true bH;replace bI:=eq_true bI;have eO:=jz5 aj))
  refine bodyPost_ret (results_cell_row rfl _ _ ae 27 #[iV aN,iV aQ,iV au,iV ay,iV aT] (0,0) _ rfl (qF aj) underlying27 rfl (by kernel_rfl)) rfl ?_
  exact⟨qW,qB⟩
 replace H:=jE H;rcases H with ⟨dn,dw,H⟩ | ⟨gG,dn,dw,H⟩
 ·replace H:=jI H;obtain⟨fB,H⟩:=H
  replace H:=jI H;obtain⟨fC,H⟩:=H
  replace H:=jI H;obtain⟨fD,H⟩:=H
  replace H:=jI H;obtain⟨fE,H⟩:=H
  obtain⟨⟨dx,dz,dA,dB,dC⟩,gp,H⟩:=qE H
  try dsimp only at H
  obtain⟨rfl,rfl,rfl,rfl,rfl⟩:=oJ5 H
  go_enter func98,ntmps98
  try go_wp2_with (first|((with_reducible refine jd 3 rfl ?_);refine jX _ 27 ?_;intro aC hg bL hbox hb;have af:=aM hbox;have bC:=kG hg;replace HB:=kH hb;clear hb hbox hg)|((with_reducible refine jd 6 rfl ?_);refine jX _ 27 ?_;intro ae hg bF hbox hb;have aj:=aM hbox;have av:=kG hg;have aa:=kN hg af;have ai:=kM hg af;replace af:=kB af hb;replace HB:=kH hb;clear hb hbox hg;have az:0<=(0:Int):=(by omega);have aA:0 < (l1.length:Int):=qD;obtain⟨ax,bg,ag,ah⟩:=at_T118 HR1.out 0 az aA;cases bg;have bD:(0 < l1.length)=True:=eq_true (by omega);(try rw [show ((0:Int)).toNat=0 from rfl] at ag);(try rw [show 0*2=0 from rfl] at ag);(try rw [Addr.add_zero'] at ag);(try rw [show ((0:Int)).toNat=0 from rfl] at ah);(try rw [show 0*2=0 from rfl] at ah);(try rw [Addr.add_zero'] at ah);replace ag:=kx HB ag;replace ah:=kx HB ah;replace az:=eq_true az;replace aA:=eq_true aA;have bM:=aa.out;have bN:=ai.out;have bO:=jz5 af))
  replace af:=aM (blk_drew af.out)
  replace aj:=aM (blk_drew aj.out)
  replace HB:=aM (below_drew1 HB.out)
  have bV:0<=(au:Int):=qD
  have bW:au < (l1.length:Int):=qD
  obtain⟨dD,eU,bq,bu⟩:=at_T118 HR1.out au bV bW
  have aH:=bu
  have aI:=bq
  obtain rfl:ax=dD:=(by injection eU)
  replace bq:=kx HB bq
  replace bu:=kx HB bu
  replace bV:=eq_true bV
  replace bW:=eq_true bW
  have bX:0<=(ay:Int):=qD
  have bY:ay < (l1.length:Int):=qD
  obtain⟨dE,eX,bv,bz⟩:=at_T118 HR1.out ay bX bY
  have aJ:=bz
  have aK:=bv
  obtain rfl:ax=dE:=(by injection eX)
  replace bv:=kx HB bv
  replace bz:=kx HB bz
  replace bX:=eq_true bX
  replace bY:=eq_true bY
  refine start_ (n:=13) (S:=fun w'=>w'.cell? ⟨aC,0,none⟩=some (iV aN)/\w'.cell? ⟨aC,1,none⟩=some (iV aQ)/\w'.cell? ⟨aC,2,none⟩=some (iV au)/\w'.cell? ⟨aC,3,none⟩=some (iV ay)/\w'.cell? ⟨aC,4,none⟩=some (iV aT)/\w'.cell? (ax.add ((au).toNat*2))=some (iV ((rd_T118 l1 au).f0))/\w'.cell? ⟨(ax.add ((au).toNat*2)).block,(ax.add ((au).toNat*2)).off+1,none⟩=some (iV ((rd_T118 l1 au).f1))/\w'.cell? (ax.add ((ay).toNat*2))=some (iV ((rd_T118 l1 ay).f0))/\w'.cell? ⟨(ax.add ((ay).toNat*2)).block,(ax.add ((ay).toNat*2)).off+1,none⟩=some (iV ((rd_T118 l1 ay).f1))) (ds:=[]) (jb 13 0) (by kernel_rfl) rfl rfl ⟨(blk_cell af.out 0).trans rfl,(blk_cell af.out 1).trans rfl,(blk_cell af.out 2).trans rfl,(blk_cell af.out 3).trans rfl,(blk_cell af.out 4).trans rfl,(kx HB aI),(kx HB aH),(kx HB aK),(kx HB aJ)⟩ (fun hHeld=>?_);refine with_tabW Sb3.tab8 Sb3.bits8 (fun HT_ HW_=>?_)
  generalize bF.drew=gH at af aj HB bq bu bv bz hHeld ⊢
  refine jp 1 36 (jb 13 2) ?_
  refine jp 2 37 (jb 13 6) ?_
  refine jp 6 41 (jb 13 70) ?_
  refine jp 7 42 (jb 13 198) ?_
  refine jt 0 35 (jb 13 199) ?_
  refine jt 3 38 (jb 13 207) ?_
  refine jp 4 39 (jb 13 223) ?_
  refine jt 5 40 (jb 13 255) ?_
  refine jt 8 43 (jb 13 511) ?_
  refine jp 9 44 (jb 13 1023) ?_
  refine jt 10 45 (jb 13 2047) ?_
  refine one_ (i:=11) (N:=some 46) (jb 13 4095) rfl rfl (one_of HT_.out (by kernel_rfl)) (by decide) (fun K hK=>?_)
  refine goes_ func113 (by kernel_rfl) rfl #[.agg #[iV aN,iV aQ,iV au,iV ay,iV aT],.agg #[iV ((rd_T118 l1 au).f0),iV ((rd_T118 l1 au).f1)],.agg #[iV ((rd_T118 l1 ay).f0),iV ((rd_T118 l1 ay).f1)]] (by rfl) rfl rfl qM ?_
  with_reducible refine (Sb0.calls k aN aQ au ay aT ((rd_T118 l1 au).f0) ((rd_T118 l1 au).f1) ((rd_T118 l1 ay).f0) ((rd_T118 l1 ay).f1) dx dz dA dB dC _ gp.out).mono ?_
  rintro e dF ⟨rfl,hb⟩
  refine⟨_,rfl,?_⟩
  replace af:=kB af hb
  replace aj:=kB aj hb
  replace HB:=kH hb
  (try clear hb)
  (try clear hb2)
  (try clear hk)
  (try clear hi)
  refine hK.out _ _ ⟨(blk_cell af.out 0).trans rfl,(blk_cell af.out 1).trans rfl,(blk_cell af.out 2).trans rfl,(blk_cell af.out 3).trans rfl,(blk_cell af.out 4).trans rfl,(kx HB aI),(kx HB aH),(kx HB aK),(kx HB aJ)⟩ (fun hHeld=>?_)
  clear hK K
  refine norm_ (a':=?_) ?_ ?_
  rotate_left
  ·show Act.put _ (some 46) _=_
   simp only [Act.put,List.setIfInBounds_toArray,List.set_cons_zero,List.set_cons_succ,i64_w,i32_w]
   rfl
  refine one_ (i:=12) (N:=none) (jb 13 8191) rfl rfl (one_of HT_.out (by kernel_rfl)) (by decide) (fun K hK=>?_)
  have gq:dF.cell? ⟨ae,0,none⟩=some (iV 0):=(blk_cell aj.out 0).trans rfl
  have fF:=blk_frozen aj.out 0
  have dY:=aa.out
  have dZ:=ai.out
  have gu:dF.cell? ⟨ae,1,none⟩=some (iV 0):=(blk_cell aj.out 1).trans rfl
  have fG:=blk_frozen aj.out 1
  have d9:=aa.out
  have ek:=ai.out
  have gz:dF.cell? ⟨ae,2,none⟩=some (iV 0):=(blk_cell aj.out 2).trans rfl
  have fH:=blk_frozen aj.out 2
  have eu:=aa.out
  have eB:=ai.out
  have gB:dF.cell? ⟨ae,3,none⟩=some (iV 0):=(blk_cell aj.out 3).trans rfl
  have fI:=blk_frozen aj.out 3
  have eD:=aa.out
  have eF:=ai.out
  have gD:dF.cell? ⟨ae,4,none⟩=some (iV 0):=(blk_cell aj.out 4).trans rfl
  have fJ:=blk_frozen aj.out 4
  have eG:=aa.out
  have eH:=ai.out
  refine skip_ (w1:=?_) (by rfl) rfl ?_ ?_
  rotate_left
  ·go_simp
   rfl
  refine hK.out _ _ ⟨((cell_far (p:=⟨ae,_,none⟩) aa.out _).trans (((cell_far (p:=⟨ae,_,none⟩) aa.out _).trans (((cell_far (p:=⟨ae,_,none⟩) aa.out _).trans (((cell_far (p:=⟨ae,_,none⟩) aa.out _).trans (((cell_far (p:=⟨ae,_,none⟩) aa.out _).trans (hHeld.1)))))))))),((cell_far (p:=⟨ae,_,none⟩) aa.out _).trans (((cell_far (p:=⟨ae,_,none⟩) aa.out _).trans (((cell_far (p:=⟨ae,_,none⟩) aa.out _).trans (((cell_far (p:=⟨ae,_,none⟩) aa.out _).trans (((cell_far (p:=⟨ae,_,none⟩) aa.out _).trans (hHeld.2.1)))))))))),((cell_far (p:=⟨ae,_,none⟩) aa.out _).trans (((cell_far (p:=⟨ae,_,none⟩) aa.out _).trans (((cell_far (p:=⟨ae,_,none⟩) aa.out _).trans (((cell_far (p:=⟨ae,_,none⟩) aa.out _).trans (((cell_far (p:=⟨ae,_,none⟩) aa.out _).trans (hHeld.2.2.1)))))))))),((cell_far (p:=⟨ae,_,none⟩) aa.out _).trans (((cell_far (p:=⟨ae,_,none⟩) aa.out _).trans (((cell_far (p:=⟨ae,_,none⟩) aa.out _).trans (((cell_far (p:=⟨ae,_,none⟩) aa.out _).trans (((cell_far (p:=⟨ae,_,none⟩) aa.out _).trans (hHeld.2.2.2.1)))))))))),((cell_far (p:=⟨ae,_,none⟩) aa.out _).trans (((cell_far (p:=⟨ae,_,none⟩) aa.out _).trans (((cell_far (p:=⟨ae,_,none⟩) aa.out _).trans (((cell_far (p:=⟨ae,_,none⟩) aa.out _).trans (((cell_far (p:=⟨ae,_,none⟩) aa.out _).trans (hHeld.2.2.2.2.1)))))))))),((cell_far (p:=⟨ae,_,none⟩) (kf (kn aI av)) _).trans (((cell_far (p:=⟨ae,_,none⟩) (kf (kn aI av)) _).trans (((cell_far (p:=⟨ae,_,none⟩) (kf (kn aI av)) _).trans (((cell_far (p:=⟨ae,_,none⟩) (kf (kn aI av)) _).trans (((cell_far (p:=⟨ae,_,none⟩) (kf (kn aI av)) _).trans (hHeld.2.2.2.2.2.1)))))))))),((cell_far (p:=⟨ae,_,none⟩) (kf (kn aH av)) _).trans (((cell_far (p:=⟨ae,_,none⟩) (kf (kn aH av)) _).trans (((cell_far (p:=⟨ae,_,none⟩) (kf (kn aH av)) _).trans (((cell_far (p:=⟨ae,_,none⟩) (kf (kn aH av)) _).trans (((cell_far (p:=⟨ae,_,none⟩) (kf (kn aH av)) _).trans (hHeld.2.2.2.2.2.2.1)))))))))),((cell_far (p:=⟨ae,_,none⟩) (kf (kn aK av)) _).trans (((cell_far (p:=⟨ae,_,none⟩) (kf (kn aK av)) _).trans (((cell_far (p:=⟨ae,_,none⟩) (kf (kn aK av)) _).trans (((cell_far (p:=⟨ae,_,none⟩) (kf (kn aK av)) _).trans (((cell_far (p:=⟨ae,_,none⟩) (kf (kn aK av)) _).trans (hHeld.2.2.2.2.2.2.2.1)))))))))),((cell_far (p:=⟨ae,_,none⟩) (kf (kn aJ av)) _).trans (((cell_far (p:=⟨ae,_,none⟩) (kf (kn aJ av)) _).trans (((cell_far (p:=⟨ae,_,none⟩) (kf (kn aJ av)) _).trans (((cell_far (p:=⟨ae,_,none⟩) (kf (kn aJ av)) _).trans (((cell_far (p:=⟨ae,_,none⟩) (kf (kn aJ av)) _).trans (hHeld.2.2.2.2.2.2.2.2))))))))))⟩ (fun hHeld=>?_)
  clear hK K
  refine done_ (done_of HT_.out (by kernel_rfl)) ?_
  try go_wp2
  refine bodyPost_ret (results_cell_row rfl _ _ ae 27 #[iV dx,iV dz,iV dA,iV dB,iV dC] (0,0) _ rfl (qF aj) underlying27 rfl (by kernel_rfl)) rfl ?_
  exact⟨qW,qB⟩
 replace H:=jE H;rcases H with ⟨dG,dH,H⟩ | ⟨gI,dG,dH,H⟩
 ·replace H:=jI H;obtain⟨fK,H⟩:=H
  replace H:=jI H;obtain⟨fM,H⟩:=H
  obtain⟨cz,gJ,H⟩:=qE H
  try dsimp only at H
  replace H:=jB H;rcases H with ⟨rfl,H⟩ | ⟨rfl,H⟩
  ·obtain⟨rfl,rfl,rfl,rfl,rfl⟩:=oJ5 H
   go_enter func98,ntmps98
   go_wp2_with (first|((with_reducible refine jd 3 rfl ?_);refine jX _ 27 ?_;intro aC hg bL hbox hb;have af:=aM hbox;have bC:=kG hg;replace HB:=kH hb;clear hb hbox hg)|((with_reducible refine jd 6 rfl ?_);refine jX _ 27 ?_;intro ae hg bF hbox hb;have aj:=aM hbox;have av:=kG hg;have aa:=kN hg af;have ai:=kM hg af;replace af:=kB af hb;replace HB:=kH hb;clear hb hbox hg;have az:0<=(0:Int):=(by omega);have aA:0 < (l1.length:Int):=qD;obtain⟨ax,bg,ag,ah⟩:=at_T118 HR1.out 0 az aA;cases bg;have bD:(0 < l1.length)=True:=eq_true (by omega);(try rw [show ((0:Int)).toNat=0 from rfl] at ag);(try rw [show 0*2=0 from rfl] at ag);(try rw [Addr.add_zero'] at ag);(try rw [show ((0:Int)).toNat=0 from rfl] at ah);(try rw [show 0*2=0 from rfl] at ah);(try rw [Addr.add_zero'] at ah);replace ag:=kx HB ag;replace ah:=kx HB ah;replace az:=eq_true az;replace aA:=eq_true aA;have bM:=aa.out;have bN:=ai.out;have bO:=jz5 af;have bA:0<=(au:Int):=qD;have bB:au < (l1.length:Int):=qD;obtain⟨bG,bQ,aD,aG⟩:=at_T118 HR1.out au bA bB;obtain rfl:ax=bG:=(by injection bQ);replace aD:=kx HB aD;replace aG:=kx HB aG;replace bA:=eq_true bA;replace bB:=eq_true bB)|((with_reducible refine jc 114 54 rfl rfl ?_);refine jG func114 #[.agg #[iV ((rd_T118 l1 au).f0),iV ((rd_T118 l1 au).f1)],iV 0] ?_;refine (Sb4.calls _ _ _ _ _ (Aside0.out (by assumption))).mono ?_;rintro e dI ⟨rfl,hb⟩;refine⟨_,rfl,?_⟩;replace af:=kB af hb;replace aj:=kB aj hb;replace HB:=kH hb;clear hb;have dJ:=jz5 af;have dK:=jz5 aj))
   refine bodyPost_ret (results_cell_row rfl _ _ ae 27 #[iV 4,iV 0,iV 0,iV 0,iV aT] (0,0) _ rfl (qF aj) underlying27 rfl (by kernel_rfl)) rfl ?_
   exact⟨qW,qB⟩
  replace H:=jE H;rcases H with ⟨dL,dM,H⟩ | ⟨c59,dL,dM,H⟩
  ·obtain⟨rfl,rfl,rfl,rfl,rfl⟩:=oJ5 H
   go_enter func98,ntmps98
   go_wp2_with (first|((with_reducible refine jd 3 rfl ?_);refine jX _ 27 ?_;intro aC hg bL hbox hb;have af:=aM hbox;have bC:=kG hg;replace HB:=kH hb;clear hb hbox hg)|((with_reducible refine jd 6 rfl ?_);refine jX _ 27 ?_;intro ae hg bF hbox hb;have aj:=aM hbox;have av:=kG hg;have aa:=kN hg af;have ai:=kM hg af;replace af:=kB af hb;replace HB:=kH hb;clear hb hbox hg;have az:0<=(0:Int):=(by omega);have aA:0 < (l1.length:Int):=qD;obtain⟨ax,bg,ag,ah⟩:=at_T118 HR1.out 0 az aA;cases bg;have bD:(0 < l1.length)=True:=eq_true (by omega);(try rw [show ((0:Int)).toNat=0 from rfl] at ag);(try rw [show 0*2=0 from rfl] at ag);(try rw [Addr.add_zero'] at ag);(try rw [show ((0:Int)).toNat=0 from rfl] at ah);(try rw [show 0*2=0 from rfl] at ah);(try rw [Addr.add_zero'] at ah);replace ag:=kx HB ag;replace ah:=kx HB ah;replace az:=eq_true az;replace aA:=eq_true aA;have bM:=aa.out;have bN:=ai.out;have bO:=jz5 af;have bA:0<=(au:Int):=qD;have bB:au < (l1.length:Int):=qD;obtain⟨bG,bQ,aD,aG⟩:=at_T118 HR1.out au bA bB;obtain rfl:ax=bG:=(by injection bQ);replace aD:=kx HB aD;replace aG:=kx HB aG;replace bA:=eq_true bA;replace bB:=eq_true bB)|((with_reducible refine jc 114 54 rfl rfl ?_);refine jG func114 #[.agg #[iV ((rd_T118 l1 au).f0),iV ((rd_T118 l1 au).f1)],iV 0] ?_;refine (Sb4.calls _ _ _ _ _ (Aside0.out (by assumption))).mono ?_;rintro e dI ⟨rfl,hb⟩;refine⟨_,rfl,?_⟩;replace af:=kB af hb;replace aj:=kB aj hb;replace HB:=kH hb;clear hb;have dJ:=jz5 af;have bJ:0<=(au:Int):=qD;have bK:au < (l1.length:Int):=qD;obtain⟨bR,bZ,aY,aZ⟩:=at_T118 HR1.out au bJ bK;obtain rfl:ax=bR:=(by injection bZ);replace aY:=kx HB aY;replace aZ:=kx HB aZ;replace bJ:=eq_true bJ;replace bK:=eq_true bK;have dK:=jz5 aj))
   refine bodyPost_ret (results_cell_row rfl _ _ ae 27 #[iV 4,iV 0,iV 0,iV 0,iV (wrap64 (a2+1))] (0,0) _ rfl (qF aj) underlying27 rfl (by kernel_rfl)) rfl ?_
   exact⟨qW,qB⟩
  obtain⟨rfl,rfl,rfl,rfl,rfl⟩:=oJ5 H
  go_enter func98,ntmps98
  go_wp2_with (first|((with_reducible refine jd 3 rfl ?_);refine jX _ 27 ?_;intro aC hg bL hbox hb;have af:=aM hbox;have bC:=kG hg;replace HB:=kH hb;clear hb hbox hg)|((with_reducible refine jd 6 rfl ?_);refine jX _ 27 ?_;intro ae hg bF hbox hb;have aj:=aM hbox;have av:=kG hg;have aa:=kN hg af;have ai:=kM hg af;replace af:=kB af hb;replace HB:=kH hb;clear hb hbox hg;have az:0<=(0:Int):=(by omega);have aA:0 < (l1.length:Int):=qD;obtain⟨ax,bg,ag,ah⟩:=at_T118 HR1.out 0 az aA;cases bg;have bD:(0 < l1.length)=True:=eq_true (by omega);(try rw [show ((0:Int)).toNat=0 from rfl] at ag);(try rw [show 0*2=0 from rfl] at ag);(try rw [Addr.add_zero'] at ag);(try rw [show ((0:Int)).toNat=0 from rfl] at ah);(try rw [show 0*2=0 from rfl] at ah);(try rw [Addr.add_zero'] at ah);replace ag:=kx HB ag;replace ah:=kx HB ah;replace az:=eq_true az;replace aA:=eq_true aA;have bM:=aa.out;have bN:=ai.out;have bO:=jz5 af;have bA:0<=(au:Int):=qD;have bB:au < (l1.length:Int):=qD;obtain⟨bG,bQ,aD,aG⟩:=at_T118 HR1.out au bA bB;obtain rfl:ax=bG:=(by injection bQ);replace aD:=kx HB aD;replace aG:=kx HB aG;replace bA:=eq_true bA;replace bB:=eq_true bB)|((with_reducible refine jc 114 54 rfl rfl ?_);refine jG func114 #[.agg #[iV ((rd_T118 l1 au).f0),iV ((rd_T118 l1 au).f1)],iV 0] ?_;refine (Sb4.calls _ _ _ _ _ (Aside0.out (by assumption))).mono ?_;rintro e dI ⟨rfl,hb⟩;refine⟨_,rfl,?_⟩;replace af:=kB af hb;replace aj:=kB aj hb;replace HB:=kH hb;clear hb;have dJ:=jz5 af;have bJ:0<=(au:Int):=qD;have bK:au < (l1.length:Int):=qD;obtain⟨bR,bZ,aY,aZ⟩:=at_T118 HR1.out au bJ bK;obtain rfl:ax=bR:=(by injection bZ);replace aY:=kx HB aY;replace aZ:=kx HB aZ;replace bJ:=eq_true bJ;replace bK:=eq_true bK;have dK:=jz5 aj))
  refine bodyPost_ret (results_cell_row rfl _ _ ae 27 #[iV aN,iV aQ,iV au,iV ay,iV aT] (0,0) _ rfl (qF aj) underlying27 rfl (by kernel_rfl)) rfl ?_
  exact⟨qW,qB⟩
 obtain⟨rfl,rfl,rfl,rfl,rfl⟩:=oJ5 H
 exact Sb3_0
def San.l0:Nat->List (S27)->List (S27)->List (List (S118))->Int->Option ((List (S27)) × Bool)
 | 0,_,_,_,_=>none
 | k+1,x0,x4,x5,x6=>if x6 < (x0.length:Int) then (if 0<=x6 then (if x6 < (x5.length:Int) then ((Sb3.f k ((rd_T27 x0 x6).f0) ((rd_T27 x0 x6).f1) ((rd_T27 x0 x6).f2) ((rd_T27 x0 x6).f3) ((rd_T27 x0 x6).f4) (rd_L8 x5 x6) x6).bind fun aK=>(if x4.length < 3518437208883 then (San.l0 k x0 (x4 ++ [(⟨aK.1,aK.2.1,aK.2.2.1,aK.2.2.2.1,aK.2.2.2.2⟩:S27)]) x5 (wrap64 (x6+1))) else (none))) else (none)) else (none)) else (some (x4,true))
def San.f (k:Nat) (l0:List (S27)):Option ((List (S27)) × Bool):=(some (([]:List (S27)):List (S27))).bind fun bC=>((Saf.f k l0).bind fun bK=>(if bK=true then ((Sam.f k l0).bind fun aD=>(San.l0 k l0 bC aD 0)) else (some (bC,false))))
def San.T8:Bool × List (List Nat × List Nat):=(true,[([],[]),([],[]),([],[]),([1,2],[1,2]),([3],[3]),([],[]),([],[]),([5,6],[5,6]),([7],[7]),([],[]),([4,8,9],[4,8,9]),([10],[10]),([0,11,10],[0,11]),([12,12,0,1,2,3,4,5,6,7,8,9,10,11,12],[0,12])])
def San.B8:List Nat:=[0,0,0,6,14,0,0,96,224,0,1022,2046,4095,8191]
theorem San.tab8:rtab .any (opsOf f83 8)=San.T8:=by kernel_rfl
theorem San.bits8:waitsOk San.T8.2 San.B8=true:=by kernel_rfl
theorem San.calls (k:Nat) (A0:Option Addr) (c0:Nat) (l0 r1:List (S27)) (r2:Bool) (w:World) (hr0:Kd.C k27 w A0 l0.length l0) (hc0:l0.length<=c0) (h:San.f k l0=some (r1,r2)) :
  Calls prog 83 #[.slice A0 l0.length c0] w fun e w'=>∃ cB:Value,e = .returned (.tuple #[cB,.bool r2])/\Kd.R k27 27 w' w.heap.size (fun _=>True) cB r1/\Below w.heap.size w w':=by
 have dx:=underlying27
 have bR:=aM hr0
 have bT:=aM hc0
 clear hr0 hc0
 have HB:=aM (Below.refl w.heap.size w)
 have H:=h;unfold San.f at H
 clear h
 obtain⟨bC,aH⟩:=ky ((([]:List (S27))):List (S27))
 first|replace H:=kz aH H|rw [<- aH.out] at H
 obtain⟨bK,A2,H⟩:=qE H
 try dsimp only at H
 replace H:=jB H;rcases H with ⟨rfl,H⟩ | ⟨rfl,H⟩
 ·obtain⟨aD,A4,H⟩:=qE H
  try dsimp only at H
  have H':=aM H
  clear H
  go_enter func83,ntmps83
  go_wp2_with (first|((with_reducible refine jd 7 rfl ?_);refine jV k27 27 ([]:List (S27)) [] (Reps.none _ _) ?_;intro bU w5 bL hb;(first|rw [<- aH.out] at bL|(simp only [Int.reduceToNat] at bL;rw [<- aH.out] at bL));have ae:=kL bL;replace HB:=kH hb;clear hb bL)|((with_reducible refine jc 36 9 rfl rfl ?_);refine jG func36 #[.slice A0 l0.length c0] ?_;refine (Saf.calls k _ _ l0 true _ ?aA ?aC A2.out).mono ?_;(case aA=>exact kC (Kd.C_below bR.out HB.out));(case aC=>exact bT.out);rintro e w7 ⟨rfl,hb⟩;refine⟨_,rfl,?_⟩;replace ae:=kR ae hb;replace HB:=kH hb;clear hb)|((with_reducible refine jc 97 13 rfl rfl ?_);refine jG func97 #[.slice A0 l0.length c0] ?_;refine (Sam.calls k _ _ l0 aD _ ?aA ?aC A4.out).mono ?_;(case aA=>exact kC (Kd.C_below bR.out HB.out));(case aC=>exact bT.out);rintro e w8 ⟨bV,rfl,ho0,hb⟩;refine⟨_,rfl,?_⟩;have bM:=aM (Kd.S_lower ho0 (below_size qB));replace ae:=kR ae hb;replace HB:=kH hb;clear hb;(try clear ho0)))
  go_loopg [4,6] k (fun kq v4 v6 w'=>∃ (aY:List (S27)) (aa:Int),v6 = iV aa/\Aside0 (San.l0 kq l0 aY aD aa=some (r1,r2))/\Aside0 (kq<=k)/\Aside0 (Kd.R k27 27 w' w.heap.size (fun _=>True) v4 aY)/\Aside0 (Kd.S (Kd.slice 118 k118) 104 w' w.heap.size (fun _=>True) bV aD)/\Aside0 (Below w.heap.size w w'))
  case atStart=>exact⟨(bC),(0),qZ,H',⟨Nat.le_refl _⟩,⟨qR ae⟩,⟨qS bM⟩,⟨qB⟩⟩
  clear H'
  obtain⟨aY,aa,rfl,HA,cK,aG,ai,HB⟩:=hrel
  rcases gk with _|k1
  ·exact absurd HA.out (by simp [San.l0])
  have H:=HA.out
  clear HA
  simp only [San.l0] at H
  replace H:=jD H;rcases H with ⟨bW,H⟩ | ⟨bW,H⟩
  ·replace H:=jI H;obtain⟨cO,H⟩:=H
   replace H:=jI H;obtain⟨df,H⟩:=H
   obtain⟨⟨aZ,bg,bi,bn,bq⟩,dz,H⟩:=qE H
   try dsimp only at H
   replace H:=jL H;obtain⟨bN,H⟩:=H
   obtain⟨bX,bu⟩:=ky ((aY ++ [(⟨aZ,bg,bi,bn,bq⟩:S27)]):List (S27))
   first|replace H:=kz bu H|rw [<- bu.out] at H
   have H':=aM H
   clear H
   try go_wp2
   replace aG:=aM (Kd.R_drew aG.out)
   replace ai:=aM (Kd.S_drew ai.out)
   replace HB:=aM (below_drew1 HB.out)
   have bG:0<=(aa:Int):=qD
   have bH:aa < (l0.length:Int):=qD
   obtain⟨af,bY,aj,au,av,ax,ay⟩:=at_T27 bR.out aa bG bH
   have aN:=ay
   have aQ:=ax
   have aT:=av
   have aU:=au
   have aV:=aj
   cases bY
   replace aj:=kx HB aj
   replace au:=kx HB au
   replace av:=kx HB av
   replace ax:=kx HB ax
   replace ay:=kx HB ay
   replace bG:=eq_true bG
   replace bH:=eq_true bH
   obtain⟨dA,dB,bO⟩:=Kd.S_slice ai.out
   (first|subst bO|(injection bO with dh dC di;have dD:=dh.symm;have dE:=di.symm;clear dh dC di;subst dD;subst dE))
   have bD:0<=(aa:Int):=qD
   have bE:aa < (aD.length:Int):=qD
   obtain⟨bP,bv,bz,bZ,aI,aW,aX⟩:=at_L8 (Kd.S_reads' ai.out).2.2 aa bD bE
   cases bZ
   obtain⟨dn,bI,bJ,bA⟩:=Kd.S_get ai.out [] aa bD (by first|exact bE|exact qD|(have e_:=(Kd.S_reads' ai.out).1;omega))
   obtain⟨bS,rfl,aJ⟩:=bJ
   have ag:=bA 0 _ rfl
   rw [Nat.add_zero,show ((Kd.slice 118 k118)).sz=1 from rfl,Nat.mul_one] at ag
   replace ag:=Option.some.inj (ag.symm.trans aI)
   rw [ag] at aJ
   have ah:=aM (show Kd.R k118 118 _ _ _ _ (rd_L8 aD aa) from aJ)
   clear ag aJ
   clear bA bI
   have az:=aM aX
   have bF:=aM aW
   clear aX aW
   replace bD:=eq_true bD
   replace bE:=eq_true bE
   refine start_ (n:=14) (S:=fun w'=>w'.cell? (af.add ((aa).toNat*5))=some (iV ((rd_T27 l0 aa).f0))/\w'.cell? ⟨(af.add ((aa).toNat*5)).block,(af.add ((aa).toNat*5)).off+1,none⟩=some (iV ((rd_T27 l0 aa).f1))/\w'.cell? ⟨(af.add ((aa).toNat*5)).block,(af.add ((aa).toNat*5)).off+2,none⟩=some (iV ((rd_T27 l0 aa).f2))/\w'.cell? ⟨(af.add ((aa).toNat*5)).block,(af.add ((aa).toNat*5)).off+3,none⟩=some (iV ((rd_T27 l0 aa).f3))/\w'.cell? ⟨(af.add ((aa).toNat*5)).block,(af.add ((aa).toNat*5)).off+4,none⟩=some (iV ((rd_T27 l0 aa).f4))/\w'.cell? (bP.add (aa).toNat)=some (.slice bv (rd_L8 aD aa).length bz)) (ds:=[11,12]) (jb 14 0) (by kernel_rfl) rfl rfl ⟨(kx HB aV),(kx HB aU),(kx HB aT),(kx HB aQ),(kx HB aN),aI⟩ (fun hHeld=>?_);refine with_tabW San.tab8 San.bits8 (fun HT_ HW_=>?_)
   generalize wr.drew=dG at aG ai HB ah az aj au av ax ay aI hHeld ⊢
   refine jp 0 20 (jb 14 1) ?_
   refine jp 1 21 (jb 14 3) ?_
   refine jp 2 22 (jb 14 7) ?_
   refine jp 3 23 (jb 14 15) ?_
   refine jp 5 25 (jb 14 47) ?_
   refine jp 6 26 (jb 14 111) ?_
   refine jp 7 27 (jb 14 239) ?_
   refine jp 9 29 (jb 14 751) ?_
   refine jt 4 24 (jb 14 767) ?_
   refine jt 8 28 (jb 14 1023) ?_
   refine one_ (i:=10) (N:=some 30) (jb 14 2047) rfl rfl (one_of HT_.out (by kernel_rfl)) (by decide) (fun K hK=>?_)
   refine goes_ func98 (by kernel_rfl) rfl #[.agg #[iV ((rd_T27 l0 aa).f0),iV ((rd_T27 l0 aa).f1),iV ((rd_T27 l0 aa).f2),iV ((rd_T27 l0 aa).f3),iV ((rd_T27 l0 aa).f4)],.slice bv (rd_L8 aD aa).length bz,iV aa] (by rfl) rfl rfl qM ?_
   with_reducible refine (Sb3.calls k1 ((rd_T27 l0 aa).f0) ((rd_T27 l0 aa).f1) ((rd_T27 l0 aa).f2) ((rd_T27 l0 aa).f3) ((rd_T27 l0 aa).f4) _ _ (rd_L8 aD aa) aa aZ bg bi bn bq _ ?aA ?aC dz.out).mono ?_
   (case aA=>repeat (first|exact (kC az.out)|(with_reducible refine Kd.C_alloc ?_ _)|(with_reducible refine Kd.C_drewN ?_ _)|(with_reducible refine Kd.C_drew ?_)))
   (case aC=>exact bF.out)
   rintro e w16 ⟨rfl,hb⟩
   have cz:=(hb.cell (World.block_lt_of_cell? _ _ (hHeld.2.2.2.2.2))).trans (hHeld.2.2.2.2.2)
   refine⟨_,rfl,?_⟩
   replace aG:=kR aG hb
   replace ai:=kS ai hb
   replace ah:=kR ah hb
   replace az:=kQ az hb
   replace HB:=kH hb
   (try clear hb)
   (try clear hb2)
   (try clear hk)
   (try clear hi)
   refine hK.out _ _ ⟨(kx HB aV),(kx HB aU),(kx HB aT),(kx HB aQ),(kx HB aN),cz⟩ (fun hHeld=>?_)
   clear hK K
   refine norm_ (a':=?_) ?_ ?_
   rotate_left
   ·show Act.put _ (some 30) _=_
    simp only [Act.put,List.setIfInBounds_toArray,List.set_cons_zero,List.set_cons_succ,i64_w,i32_w]
    rfl
   refine last_ (i:=11) (N:=some 31) (jb 14 4095) rfl rfl (one_of HT_.out (by kernel_rfl)) (by decide) (fun K hK=>?_)
   refine value_ (w1:=?_) (v:=?_) (by rfl) rfl ?_ ?_
   rotate_left 2
   ·go_simp
    constructor
    ·rfl
    rfl
   refine hK.out _ _ ?_
   clear hK K
   refine norm_ (a':=?_) ?_ ?_
   rotate_left
   ·show Act.put _ (some 31) _=_
    simp only [Act.put,List.setIfInBounds_toArray,List.set_cons_zero,List.set_cons_succ,i64_w,i32_w]
    rfl
   refine last_ (i:=12) (N:=some 32) (jb 14 8191) rfl rfl (one_of HT_.out (by kernel_rfl)) (by decide) (fun K hK=>?_)
   refine Kd.R_append_step k27 (w0:=w) w.heap.size (by rfl) (.tmp 20) (.tmp 31) 23 27 (.agg #[(iV 0),(iV 0),(iV 0),(iV 0),(iV 0)]) 40 rfl underlying23 info27 rfl (by decide) (by omega) u4 aY (⟨aZ,bg,bi,bn,bq⟩:S27) [iV aZ,iV bg,iV bi,iV bn,iV bq] (fun _=>True) (fun _=>False) rfl rfl ?aP (fun _ hk=>hk.elim) ?aF ?aO ?aB ?aS ?aL ?_
   (case aP=>exact k27_mkM _ _ _ (⟨aZ,bg,bi,bn,bq⟩:S27))
   (case aB=>exact qB)
   (case aF=>exact (fun _ _=>trivial))
   (case aO=>exact (qR aG))
   (case aS=>exact (below_size qB))
   (case aL=>have:=bN.out;omega)
   intro dF dH ho hb hg hat
   rw [<- bu.out] at ho
   have bQ:=aM ho
   replace ai:=aM (Kd.S_over' (qS ai) (Kd.R_typed (qR aG)) (by decide) hg)
   replace ah:=aM (Kd.R_over' (qR ah) (Kd.R_typed (qR aG)) (by decide) hg)
   replace HB:=aM hb
   clear aG
   clear ho hb hg hat
   refine hK.out _ _ ?_
   clear hK K
   refine norm_ (a':=?_) ?_ ?_
   rotate_left
   ·show Act.put _ (some 32) _=_
    simp only [Act.put,List.setIfInBounds_toArray,List.set_cons_zero,List.set_cons_succ,i64_w,i32_w]
    rfl
   refine jp 13 4 (jb 14 16383) ?_
   refine done_ (done_of HT_.out (by kernel_rfl)) ?_
   try go_wp2
   go_roundg k1
   case measure=>have:=cK.out;omega
   exact⟨(bX),(wrap64 (aa+1)),qZ,H',⟨by have:=cK.out;omega⟩,⟨qR bQ⟩,⟨qS ai⟩,⟨qB⟩⟩
  obtain⟨rfl,rfl⟩:=oJ2 H
  go_wp2
  go_ret2
  exact⟨_,qW,qR aG,qB⟩
 obtain⟨rfl,rfl⟩:=oJ2 H
 go_enter func83,ntmps83
 go_wp2_with (first|((with_reducible refine jd 7 rfl ?_);refine jV k27 27 ([]:List (S27)) [] (Reps.none _ _) ?_;intro bU dI bB hb;(first|rw [<- aH.out] at bB|(simp only [Int.reduceToNat] at bB;rw [<- aH.out] at bB));have ae:=kL bB;replace HB:=kH hb;clear hb bB)|((with_reducible refine jc 36 9 rfl rfl ?_);refine jG func36 #[.slice A0 l0.length c0] ?_;refine (Saf.calls k _ _ l0 false _ ?aA ?aC A2.out).mono ?_;(case aA=>exact kC (Kd.C_below bR.out HB.out));(case aC=>exact bT.out);rintro e dJ ⟨rfl,hb⟩;refine⟨_,rfl,?_⟩;replace ae:=kR ae hb;replace HB:=kH hb;clear hb))
 go_ret2
 exact⟨_,qW,qR ae,qB⟩
def Sbc.l0:Nat->List Int->Int->Option (List Int)
 | 0,_,_=>none
 | k+1,x1,x2=>if x2 < 12 then (if x1.length < 17592186044416 then (Sbc.l0 k (x1 ++ [x2]) (wrap64 (x2+1))) else (none)) else (some x1)
def Sbc.f (k:Nat)  : Option (List Int):=Sbc.l0 k (([]:List Int)) 0
theorem Sbc.calls (k:Nat)  (r:List Int) (w:World) (h:Sbc.f k  = some r) :
  Calls prog 115 #[] w fun e w'=>∃ ay:Value,e = .returned (ay)/\Kd.R (Kd.int .i64) 3 w' w.heap.size (fun _=>True) ay r/\Below w.heap.size w w':=by
 have HB:=aM (Below.refl w.heap.size w)
 have H:(Sbc.l0 k (([]:List Int)) 0)=some r:=h
 clear h
 obtain⟨au,aa⟩:=ky ((([]:List Int)):List Int)
 first|replace H:=kz aa H|rw [<- aa.out] at H
 have H':=aM H
 clear H
 go_enter func115,ntmps115
 go_wp2_with (first|((with_reducible refine jd 3 rfl ?_);refine jV (Kd.int .i64) 3 ([]:List Int) [] (Reps.none _ _) ?_;intro aC w1 ho2 hb;(first|rw [<- aa.out] at ho2|(simp only [Int.reduceToNat] at ho2;rw [<- aa.out] at ho2));have ai:=kL ho2;replace HB:=kH hb;clear hb ho2))
 go_loopg [1,2] k (fun kq v1 v2 w'=>∃ (af:List Int) (ae:Int),v2 = iV ae/\Aside0 (Sbc.l0 kq af ae=some r)/\Aside0 (kq<=k)/\Aside0 (Kd.R (Kd.int .i64) 3 w' w.heap.size (fun _=>True) v1 af)/\Aside0 (Below w.heap.size w w'))
 case atStart=>exact⟨(au),(0),qZ,H',⟨Nat.le_refl _⟩,⟨qR ai⟩,⟨qB⟩⟩
 clear H'
 obtain⟨af,ae,rfl,HA,az,ah,HB⟩:=hrel
 rcases gk with _|k1
 ·exact absurd HA.out (by simp [Sbc.l0])
 have H:=HA.out
 clear HA
 simp only [Sbc.l0] at H
 replace H:=jD H;rcases H with ⟨av,H⟩ | ⟨av,H⟩
 ·replace H:=jL H;obtain⟨ax,H⟩:=H
  obtain⟨aD,ag⟩:=ky ((af ++ [ae]):List Int)
  first|replace H:=kz ag H|rw [<- ag.out] at H
  have H':=aM H
  clear H
  go_wp2_with (first|((with_reducible refine gate_builtin (b:=.append) (xs:=#[.tmp 8,.tmp 10]) rfl ?_);at_builtin;refine Kd.R_append (Kd.int .i64) (w0:=w) w.heap.size rfl (.tmp 8) (.tmp 10) 43 3 (iV 0) 8 rfl underlying43 info3 rfl (by decide) (by omega) u1 af ae [iV ae] (fun _=>True) (fun _=>False) rfl rfl ?aP (fun _ hk=>hk.elim) ?aF ?aO ?aB ?aS ?aL ?_;(case aP=>exact rfl);(case aB=>exact qB);(case aF=>exact (fun _ _=>trivial));(case aO=>exact (qR ah));(case aS=>exact (below_size qB));(case aL=>have:=ax.out;omega);intro aG aH ho hb hg hat;rw [<- ag.out] at ho;have aj:=aM ho;replace HB:=aM hb;clear ah;clear ho hb hg hat))
  go_roundg k1
  case measure=>have:=az.out;omega
  exact⟨_,_,qZ,H',⟨by have:=az.out;omega⟩,⟨qR aj⟩,⟨qB⟩⟩
 obtain rfl:=oJ H
 go_wp2
 go_ret
 exact⟨_,qW,qR ah,qB⟩
def Sb8.l0:Nat->List Int->Int->Int->Int->Int->Int->Int->Int->Option (List Int)
 | 0,_,_,_,_,_,_,_,_=>none
 | k+1,x5,x6,x7,xa,xb,xc,xd,xe=>if x7 < 12 then (if 0<=x7 then (if x7 < (x5.length:Int) then (if (rd x5 x7)=x6 then (Sb8.l0 k (x5.set (x7:Int).toNat x7) x6 (wrap64 (x7+1)) xa xb xc xd xe) else (Sb8.l0 k x5 x6 (wrap64 (x7+1)) xa xb xc xd xe)) else (none)) else (none)) else (if 0<=x6 then (if x6 < (x5.length:Int) then ((some (x5.set (x6:Int).toNat x6:List Int)).bind fun aN=>(if xa=2 then (some (aN.set (x6:Int).toNat xc)) else (some aN))) else (none)) else (none))
def Sb8.f (k:Nat) (ai aj ag au av:Int) (l1:List Int):Option (List Int):=(some (([]:List Int):List Int)).bind fun aQ=>(if aQ.length+l1.length < 17592186044416 then ((some (aQ ++ l1:List Int)).bind fun aZ=>((Sas.f ai aj ag au av).bind fun ae=>(if ae < 0 then (some aZ) else (Sb8.l0 k aZ ae 0 ai aj ag au av)))) else (none))
theorem Sb8.calls (k:Nat) (ai aj ag au av:Int) (A1:Option Addr) (c1:Nat) (l1 r:List Int) (w:World) (hr1:Kd.C (Kd.int .i64) w A1 l1.length l1) (hc1:l1.length<=c1) (h:Sb8.f k ai aj ag au av l1=some r) :
  Calls prog 125 #[.agg #[iV ai,iV aj,iV ag,iV au,iV av],.slice A1 l1.length c1] w fun e w'=>∃ dI:Value,e = .returned (dI)/\Kd.R (Kd.int .i64) 3 w' w.heap.size (fun _=>True) dI r/\Below w.heap.size w w':=by
 have dQ:=underlying27
 have HR1:=aM hr1
 have ek:=aM hc1
 clear hr1 hc1
 have HB:=aM (Below.refl w.heap.size w)
 have H:=h;unfold Sb8.f at H
 clear h
 obtain⟨aQ,aD⟩:=ky ((([]:List Int)):List Int)
 first|replace H:=kz aD H|rw [<- aD.out] at H
 replace H:=jL H;obtain⟨bG,H⟩:=H
 obtain⟨aZ,aI⟩:=ky ((aQ ++ l1):List Int)
 first|replace H:=kz aI H|rw [<- aI.out] at H
 obtain⟨ae,A4,H⟩:=qE H
 try dsimp only at H
 replace H:=jD H;rcases H with ⟨bH,H⟩ | ⟨bH,H⟩
 ·obtain rfl:=oJ H
  go_enter func125,ntmps125
  go_wp2_with (first|((with_reducible refine jd 2 rfl ?_);refine jX _ 27 ?_;intro ay hg w6 hbox hb;have aa:=aM hbox;have bI:=kG hg;replace HB:=kH hb;clear hb hbox hg)|((with_reducible refine jd 8 rfl ?_);refine jV (Kd.int .i64) 3 ([]:List Int) [] (Reps.none _ _) ?_;intro bn w7 bJ hb;(first|rw [<- aD.out] at bJ|(simp only [Int.reduceToNat] at bJ;rw [<- aD.out] at bJ));have az:=kL bJ;replace aa:=kB aa hb;replace HB:=kH hb;clear hb bJ)|((with_reducible refine gate_builtin (b:=.append) (xs:=#[.tmp 8,.tmp 9]) rfl ?_);at_builtin;refine Kd.R_append_rows (Kd.int .i64) (w0:=w) w.heap.size rfl (.tmp 8) (.tmp 9) 43 3 (iV 0) 8 rfl underlying43 info3 rfl (by decide) (by omega) bn aQ l1 _ _ _ (fun _=>True) (fun _=>False) rfl rfl ?aO ?aR (fun _ _ h=>h) (fun _ h=>h.elim) ?aF ?aB ?aS ?aL ?_;(case aR=>exact kC (Kd.C_below HR1.out HB.out));(case aB=>exact qB);(case aF=>exact (fun _ _=>trivial));(case aO=>exact (qR az));(case aS=>exact (below_size qB));(case aL=>have:=bG.out;omega);intro bK w9 ho hb hg hat;rw [<- aI.out] at ho;have aA:=aM ho;replace aa:=aM (blk_grown (g:=ay) (o:=.cells #[iV ai,iV aj,iV ag,iV au,iV av] 27 (0,0)) (qK aa) hg (Kd.R_ne az.out aa.out (by decide)));replace HB:=aM hb;clear az;clear ho hb hg hat;have dR:=jz5 aa)|((with_reducible refine jc 68 12 rfl rfl ?_);refine jG func68 #[.agg #[iV ai,iV aj,iV ag,iV au,iV av]] ?_;refine (Sas.calls ai aj ag au av ae _ A4.out).mono ?_;rintro e eu ⟨rfl,hb⟩;refine⟨_,rfl,?_⟩;replace aA:=kR aA hb;replace aa:=kB aa hb;replace HB:=kH hb;clear hb))
  go_ret
  exact⟨_,qW,qR aA,qB⟩
 have H':=aM H
 clear H
 go_enter func125,ntmps125
 go_wp2_with (first|((with_reducible refine jd 2 rfl ?_);refine jX _ 27 ?_;intro ay hg eB hbox hb;have aa:=aM hbox;have bI:=kG hg;replace HB:=kH hb;clear hb hbox hg)|((with_reducible refine jd 8 rfl ?_);refine jV (Kd.int .i64) 3 ([]:List Int) [] (Reps.none _ _) ?_;intro bn eD aT hb;(first|rw [<- aD.out] at aT|(simp only [Int.reduceToNat] at aT;rw [<- aD.out] at aT));have az:=kL aT;replace aa:=kB aa hb;replace HB:=kH hb;clear hb aT)|((with_reducible refine gate_builtin (b:=.append) (xs:=#[.tmp 8,.tmp 9]) rfl ?_);at_builtin;refine Kd.R_append_rows (Kd.int .i64) (w0:=w) w.heap.size rfl (.tmp 8) (.tmp 9) 43 3 (iV 0) 8 rfl underlying43 info3 rfl (by decide) (by omega) bn aQ l1 _ _ _ (fun _=>True) (fun _=>False) rfl rfl ?aO ?aR (fun _ _ h=>h) (fun _ h=>h.elim) ?aF ?aB ?aS ?aL ?_;(case aR=>exact kC (Kd.C_below HR1.out HB.out));(case aB=>exact qB);(case aF=>exact (fun _ _=>trivial));(case aO=>exact (qR az));(case aS=>exact (below_size qB));(case aL=>have:=bG.out;omega);intro bK eF ho hb hg hat;rw [<- aI.out] at ho;have aA:=aM ho;replace aa:=aM (blk_grown (g:=ay) (o:=.cells #[iV ai,iV aj,iV ag,iV au,iV av] 27 (0,0)) (qK aa) hg (Kd.R_ne az.out aa.out (by decide)));replace HB:=aM hb;clear az;clear ho hb hg hat;have bX:=jz5 aa)|((with_reducible refine jc 68 12 rfl rfl ?_);refine jG func68 #[.agg #[iV ai,iV aj,iV ag,iV au,iV av]] ?_;refine (Sas.calls ai aj ag au av ae _ A4.out).mono ?_;rintro e eG ⟨rfl,hb⟩;refine⟨_,rfl,?_⟩;replace aA:=kR aA hb;replace aa:=kB aa hb;replace HB:=kH hb;clear hb))
 go_loopg [7] k (fun kq v7 w'=>∃ (ax:List Int) (ah:Int),v7 = iV ah/\Aside0 (Sb8.l0 kq ax ae ah ai aj ag au av=some r)/\Aside0 (kq<=k)/\Aside0 (Kd.R (Kd.int .i64) 3 w' w.heap.size (fun _=>True) bK ax)/\Aside0 (w'.heap[ay]?=some (.cells #[iV ai,iV aj,iV ag,iV au,iV av] 27 (0,0)))/\Aside0 (Below w.heap.size w w'))
 case atStart=>exact⟨(aZ),(0),qZ,H',⟨Nat.le_refl _⟩,⟨qR aA⟩,⟨qK aa⟩,⟨qB⟩⟩
 clear H'
 try clear c1;try clear bH;try clear bX
 obtain⟨ax,ah,rfl,HA,bW,af,aa,HB⟩:=hrel
 rcases gk with _|k1
 ·exact absurd HA.out (by simp [Sb8.l0])
 have H:=HA.out
 clear HA
 simp only [Sb8.l0] at H
 replace H:=jD H;rcases H with ⟨bL,H⟩ | ⟨bL,H⟩
 ·replace H:=jI H;obtain⟨dJ,H⟩:=H
  replace H:=jI H;obtain⟨dK,H⟩:=H
  replace H:=jE H;rcases H with ⟨bM,bN,H⟩ | ⟨c21,bM,bN,H⟩
  ·obtain⟨bO,aU⟩:=ky ((ax.set (ah:Int).toNat ah):List Int)
   first|replace H:=kz aU H|rw [<- aU.out] at H
   have H':=aM H
   clear H
   obtain⟨dS,bY,bZ⟩:=Kd.R_slice af.out
   subst bZ
   have aG:0<=(ah:Int):=qD
   have aH:ah < (ax.length:Int):=qD
   obtain⟨bP,bq,aJ⟩:=Kd.at_int (Kd.R_reads' af.out).2.2 ah aG aH
   cases bq
   replace aG:=eq_true aG
   replace aH:=eq_true aH
   have cz:0<=(ah:Int):=qD
   have q22:(ah:Int) < ((ax.length:Int):Int):=qD
   obtain⟨bu,dU,bQ,bR,cB,dV,bS⟩:=Kd.R_form af.out (by omega)
   (first|cases bQ|(injection bQ with ea_ en_ ec_;(first|subst ea_|(injection ea_ with ea_;subst ea_));subst ec_;clear en_))
   have cK:=aM bR
   have dW:=aM bS
   clear bR cB bS
   (first|simp only [add_plain] at aJ|skip)
   obtain⟨cO,df⟩:=Kd.R_celln 0 af.out (ah:Int) cz q22
   replace cz:=eq_true cz
   replace q22:=eq_true q22
   have bv:=Kd.R_putg af.out (ah:Int) ah
   go_wp2_with (first|((with_reducible refine gate_store (t:=3) (p:=29) rfl ?_);refine store_event (t:=3) (p:=29) (v:=?dh) (w1:=(wr.setCell ⟨bu,(ah:Int).toNat,none⟩ (iV ah))) ?hg ?ho ?hn ?hr ?_;(case ho=>rfl);(case hg=>rfl);(case hn=>rfl);(case hr=>first|(go_simp;done)|(go_simp;rfl));intro di hw;have hg:wr.grownBy di (some bu):=(by rw [hw];exact bv.2);have hp_:Kd.R (Kd.int .i64) 3 di w.heap.size (fun _=>True) (.slice (some ⟨bu,0,none⟩) ax.length bY) bO:=(by rw [hw,aU.out];exact bv.1);clear bv;replace aa:=aM (blk_grown (g:=ay) (o:=.cells #[iV ai,iV aj,iV ag,iV au,iV av] 27 (0,0)) (qK aa) hg (Kd.R_ne af.out aa.out (by decide)));replace af:=aM hp_;replace HB:=aM ((by rw [hw];exact below_set (HB.out) cK.out:Below w.heap.size w di));clear hg hw hp_))
   go_roundg k1
   case measure=>have:=bW.out;omega
   exact⟨(bO),(wrap64 (ah+1)),qZ,H',⟨by have:=bW.out;omega⟩,⟨qR af⟩,⟨qK aa⟩,⟨qB⟩⟩
  have H':=aM H
  clear H
  obtain⟨dX,dY,dn⟩:=Kd.R_slice af.out
  subst dn
  have aG:0<=(ah:Int):=qD
  have aH:ah < (ax.length:Int):=qD
  obtain⟨bP,bq,aJ⟩:=Kd.at_int (Kd.R_reads' af.out).2.2 ah aG aH
  cases bq
  replace aG:=eq_true aG
  replace aH:=eq_true aH
  go_wp2
  go_roundg k1
  case measure=>have:=bW.out;omega
  exact⟨(ax),(wrap64 (ah+1)),qZ,H',⟨by have:=bW.out;omega⟩,⟨qR af⟩,⟨qK aa⟩,⟨qB⟩⟩
 replace H:=jI H;obtain⟨dL,H⟩:=H
 replace H:=jI H;obtain⟨dM,H⟩:=H
 obtain⟨aN,aK⟩:=ky ((ax.set (ae:Int).toNat ae):List Int)
 first|replace H:=kz aK H|rw [<- aK.out] at H
 replace H:=jE H;rcases H with ⟨bT,bU,H⟩ | ⟨eH,bT,bU,H⟩
 ·obtain⟨dw,aV⟩:=ky ((aN.set (ae:Int).toNat ag):List Int)
  first|replace H:=kz aV H|rw [<- aV.out] at H
  obtain rfl:=oJ H
  have p29:0<=(ae:Int):=qD
  have bz:(ae:Int) < ((ax.length:Int):Int):=qD
  obtain⟨aC,bg,aW,aX,bA,dx,aY⟩:=Kd.R_form af.out (by omega)
  (first|cases aW|(injection aW with ea_ en_ ec_;(first|subst ea_|(injection ea_ with ea_;subst ea_));subst ec_;clear en_))
  have bi:=aM aX
  have dz:=aM aY
  clear aX bA aY
  obtain⟨bB,bC⟩:=Kd.R_celln 0 af.out (ae:Int) p29 bz
  replace p29:=eq_true p29
  replace bz:=eq_true bz
  have bD:=Kd.R_putg af.out (ae:Int) ae
  go_wp2_with (first|((with_reducible refine gate_store (t:=3) (p:=33) rfl ?_);refine store_event (t:=3) (p:=33) (v:=?dA) (w1:=(wr.setCell ⟨aC,(ae:Int).toNat,none⟩ (iV ae))) ?hg ?ho ?hn ?hr ?_;(case ho=>rfl);(case hg=>rfl);(case hn=>rfl);(case hr=>first|(go_simp;done)|(go_simp;rfl));intro bV hw;have hg:wr.grownBy bV (some aC):=(by rw [hw];exact bD.2);have hp_:Kd.R (Kd.int .i64) 3 bV w.heap.size (fun _=>True) (.slice (some ⟨aC,0,none⟩) ax.length bg) aN:=(by rw [hw,aK.out];exact bD.1);clear bD;replace aa:=aM (blk_grown (g:=ay) (o:=.cells #[iV ai,iV aj,iV ag,iV au,iV av] 27 (0,0)) (qK aa) hg (Kd.R_ne af.out aa.out (by decide)));replace af:=aM hp_;replace HB:=aM ((by rw [hw];exact below_set (HB.out) bi.out:Below w.heap.size w bV));clear hg hw hp_;have dZ:=jz5 aa;have p31:0<=(ae:Int):=qD;have dB:(ae:Int) < ((ax.length:Int):Int):=qD;obtain⟨dC,dD⟩:=Kd.R_celln 0 af.out (ae:Int) p31 dB;replace p31:=eq_true p31;replace dB:=eq_true dB;obtain⟨dN,dO⟩:=Kd.R_celln 0 af.out (ae:Int) (qD) (qD);have bE:=Kd.R_putg af.out (ae:Int) ag)|((with_reducible refine gate_store (t:=3) (p:=41) rfl ?_);refine store_event (t:=3) (p:=41) (v:=?dE) (w1:=(bV.setCell ⟨aC,(ae:Int).toNat,none⟩ (iV ag))) ?hg ?ho ?hn ?hr ?_;(case ho=>rfl);(case hg=>rfl);(case hn=>rfl);(case hr=>first|(go_simp;done)|(go_simp;rfl));intro dF hw;have hg:bV.grownBy dF (some aC):=(by rw [hw];exact bE.2);have hp_:Kd.R (Kd.int .i64) 3 dF w.heap.size (fun _=>True) (.slice (some ⟨aC,0,none⟩) ax.length bg) dw:=(by rw [hw,aV.out];exact bE.1);clear bE;replace aa:=aM (blk_grown (g:=ay) (o:=.cells #[iV ai,iV aj,iV ag,iV au,iV av] 27 (0,0)) (qK aa) hg (Kd.R_ne af.out aa.out (by decide)));replace af:=aM hp_;replace HB:=aM ((by rw [hw];exact below_set (HB.out) bi.out:Below w.heap.size w dF));clear hg hw hp_))
  go_ret
  exact⟨_,qW,qR af,qB⟩
 obtain rfl:=oJ H
 have p29:0<=(ae:Int):=qD
 have bz:(ae:Int) < ((ax.length:Int):Int):=qD
 obtain⟨aC,bg,aW,aX,bA,dx,aY⟩:=Kd.R_form af.out (by omega)
 (first|cases aW|(injection aW with ea_ en_ ec_;(first|subst ea_|(injection ea_ with ea_;subst ea_));subst ec_;clear en_))
 have bi:=aM aX
 have dz:=aM aY
 clear aX bA aY
 obtain⟨bB,bC⟩:=Kd.R_celln 0 af.out (ae:Int) p29 bz
 replace p29:=eq_true p29
 replace bz:=eq_true bz
 have bF:=Kd.R_putg af.out (ae:Int) ae
 go_wp2_with (first|((with_reducible refine gate_store (t:=3) (p:=33) rfl ?_);refine store_event (t:=3) (p:=33) (v:=?dG) (w1:=(wr.setCell ⟨aC,(ae:Int).toNat,none⟩ (iV ae))) ?hg ?ho ?hn ?hr ?_;(case ho=>rfl);(case hg=>rfl);(case hn=>rfl);(case hr=>first|(go_simp;done)|(go_simp;rfl));intro dH hw;have hg:wr.grownBy dH (some aC):=(by rw [hw];exact bF.2);have hp_:Kd.R (Kd.int .i64) 3 dH w.heap.size (fun _=>True) (.slice (some ⟨aC,0,none⟩) ax.length bg) aN:=(by rw [hw,aK.out];exact bF.1);clear bF;replace aa:=aM (blk_grown (g:=ay) (o:=.cells #[iV ai,iV aj,iV ag,iV au,iV av] 27 (0,0)) (qK aa) hg (Kd.R_ne af.out aa.out (by decide)));replace af:=aM hp_;replace HB:=aM ((by rw [hw];exact below_set (HB.out) bi.out:Below w.heap.size w dH));clear hg hw hp_;have d9:=jz5 aa))
 go_ret
 exact⟨_,qW,qR af,qB⟩
def Sb9.l0:Nat->List (List Int)->Int->List Int->Bool->Int->Option (Bool × (List (List Int)))
 | 0,_,_,_,_,_=>none
 | k+1,x0,x1,x2,x7,x8=>if x8 < 12 then (if 0<=x1 then (if x1 < (x0.length:Int) then (if 0<=x8 then (if x8 < ((rd_L9 x0 x1).length:Int) then (if (rd (rd_L9 x0 x1) x8)=x8 then (Sb9.l0 k x0 x1 x2 x7 (wrap64 (x8+1))) else (if x8 < (x2.length:Int) then (if (rd (rd_L9 x0 x1) x8)=(rd x2 x8) then (Sb9.l0 k x0 x1 x2 x7 (wrap64 (x8+1))) else (Sb9.l0 k (x0.set (x1:Int).toNat ((rd_L9 x0 x1).set (x8:Int).toNat x8)) x1 x2 true (wrap64 (x8+1)))) else (none))) else (none)) else (none)) else (none)) else (none)) else (some (x7,x0))
def Sb9.f (k:Nat) (l0:List (List Int)) (a1:Int) (l2:List Int):Option (Bool × (List (List Int))):=if 0<=a1 then (if a1 < (l0.length:Int) then (if ((rd_L9 l0 a1).length:Int)=0 then ((some (([]:List Int):List Int)).bind fun dH=>(if dH.length+l2.length < 17592186044416 then (some (true,(l0.set (a1:Int).toNat (dH ++ l2)))) else (none))) else (Sb9.l0 k l0 a1 l2 false 0)) else (none)) else (none)
theorem Sb9.calls (k:Nat) (aG:Nat->Prop) (bC:Value) (l0:List (List Int)) (a1:Int) (A2:Option Addr) (c2:Nat) (l2:List Int) (r1:Bool) (r2:List (List Int)) (w0 w:World) (hB:Below w0.heap.size w0 w) (ho0:Kd.S (Kd.slice 3 (Kd.int .i64)) 43 w w0.heap.size aG bC l0) (hr2:∀ W_,Kept w W_ (fun k_=>aG k_)->Kd.C (Kd.int .i64) W_ A2 l2.length l2) (hc2:l2.length<=c2) (h:Sb9.f k l0 a1 l2=some (r1,r2)) :
  Calls prog 126 #[bC,iV a1,.slice A2 l2.length c2] w fun e w'=>e = .returned (.bool r1)/\Kd.S (Kd.slice 3 (Kd.int .i64)) 43 w' w0.heap.size (fun k_=>(aG k_\/w.heap.size<=k_)) bC r2/\Below w0.heap.size w0 w'/\Kept w w' (fun k_=>aG k_):=by
 have aD:=aM (show Kd.S (Kd.slice 3 (Kd.int .i64)) 43 w w0.heap.size (fun k_=>(aG k_\/w.heap.size<=k_)) bC l0 from Kd.S_mono ho0 (fun k_ hk=>(.inl hk)))
 have HR2:=aM hr2
 have jy:=aM hc2
 clear hr2 hc2
 have HK:=aM (Kept.refl w (fun k_=>aG k_))
 have HW0:=aM hB.size
 have HB:=aM hB
 clear hB
 have H:=h;unfold Sb9.f at H
 clear h
 replace H:=jI H;obtain⟨gX,H⟩:=H
 replace H:=jI H;obtain⟨gY,H⟩:=H
 replace H:=jE H;rcases H with ⟨fP,fQ,H⟩ | ⟨c6,fP,fQ,H⟩
 ·obtain⟨dH,dz⟩:=ky ((([]:List Int)):List Int)
  first|replace H:=kz dz H|rw [<- dz.out] at H
  replace H:=jL H;obtain⟨gZ,H⟩:=H
  obtain⟨bD,dI⟩:=ky ((dH ++ l2):List Int)
  first|replace H:=kz dI H|rw [<- dI.out] at H
  obtain⟨ib,dJ⟩:=ky ((l0.set (a1:Int).toNat bD):List (List Int))
  first|replace H:=kz dJ H|rw [<- dJ.out] at H
  obtain⟨rfl,rfl⟩:=oJ2 H
  obtain⟨jA,fM,jh⟩:=Kd.S_slice aD.out
  subst jh
  have bv:0<=(a1:Int):=qD
  have bz:a1 < (l0.length:Int):=qD
  obtain⟨aH,dK,dL,eY,ax,aI,aJ⟩:=at_L9 (Kd.S_reads' aD.out).2.2 a1 bv bz
  cases eY
  obtain⟨fT,bX,bY,bi⟩:=Kd.S_get aD.out [] a1 bv (by first|exact bz|exact qD|(have e_:=(Kd.S_reads' aD.out).1;omega))
  obtain⟨dW,rfl,ay⟩:=bY
  have au:=bi 0 _ rfl
  rw [Nat.add_zero,show ((Kd.slice 3 (Kd.int .i64))).sz=1 from rfl,Nat.mul_one] at au
  replace au:=Option.some.inj (au.symm.trans ax)
  rw [au] at ay
  have ai:=aM (show Kd.R (Kd.int .i64) 3 _ _ _ _ (rd_L9 l0 a1) from ay)
  clear au ay
  have bE:=aM ax
  clear bi bX
  have bF:=aM aJ
  have dX:=aM aI
  clear aJ aI
  replace bv:=eq_true bv
  replace bz:=eq_true bz
  go_enter func126,ntmps126
  go_wp2_with (first|((with_reducible refine jd 17 rfl ?_);refine jV (Kd.int .i64) 3 ([]:List Int) [] (Reps.none _ _) ?_;intro ic jH bZ hb;(first|rw [<- dz.out] at bZ|(simp only [Int.reduceToNat] at bZ;rw [<- dz.out] at bZ));have dM:=aM (Kd.R_lower (Kd.R_new' (Kd.R_newM (M:=fun k_=>(aG k_\/w.heap.size<=k_)) bZ (by first|exact HK.out.1|exact (show Kept w _ (fun k_=>aG k_) from qT).1) (fun k_ h_=>.inr h_)) (Kd.R_lt (qR ai))) (below_size qB));replace aD:=aM (Kd.S_elder' (qS aD) (Kd.R_base bZ) hb);replace ai:=kO ai bZ hb;replace bF:=kQ bF hb;replace bE:=kW hb bE;replace HK:=kT hb;replace HB:=kH hb;clear hb bZ)|((with_reducible refine gate_builtin (b:=.append) (xs:=#[.tmp 17,.tmp 18]) rfl ?_);at_builtin;refine Kd.R_append_rows (Kd.int .i64) (w0:=w0) w0.heap.size rfl (.tmp 17) (.tmp 18) 43 3 (iV 0) 8 rfl underlying43 info3 rfl (by decide) (by omega) ic dH l2 _ _ _ (fun k_=>(aG k_\/w.heap.size<=k_)/\some k_≠(.slice dK (rd_L9 l0 a1).length dL:Value).ownBlock) (fun _=>False) rfl rfl ?aO ?aR (fun _ _ h=>h) (fun _ h=>h.elim) ?aF ?aB ?aS ?aL ?_;(case aR=>exact Kd.C_kept_now HR2.out qT);(case aB=>exact qB);(case aF=>exact (fun k_ hk=>⟨(.inr (Nat.le_trans (by first|exact HK.out.1|exact (show Kept w _ (fun k_=>aG k_) from qT).1) hk)),Kd.fresh' (Kd.R_lt (qR ai)) k_ hk⟩));(case aO=>exact (by (with_reducible repeat (first|apply Kd.R_alloc|apply Kd.R_drewN|apply Kd.R_drew));exact Kd.R_mono dM.out (fun _ hk=>⟨hk.1.1,hk.2⟩)));(case aS=>exact (below_size qB));(case aL=>have:=gZ.out;omega);intro jk eZ ho hb hg hat;rw [<- dI.out] at ho;have bP:=aM (Kd.S_after (ok:=(fun k_=>(aG k_\/w.heap.size<=k_))) (qS aD) hg hat);have bQ:=aM (Kd.R_after (ok:=(fun k_=>(aG k_\/w.heap.size<=k_)/\some k_≠(.slice (some aH) l0.length fM:Value).ownBlock)) (qR ai) hg hat);have bR:=aM hb;have bS:=aM (Kept.of_grown (S:=(fun k_=>aG k_)) hg qT (fun k_ e_=>(dM.out.1 k_ e_).1.1));have fU:=aM ho;clear aD;clear ai;clear HB;clear HK;clear dM;have aD:=bP;have ai:=bQ;have HB:=bR;have HK:=bS;have bA:=fU;obtain⟨Aoz,coz,eoz⟩:=Kd.R_slice bA.out;subst eoz;clear bP bQ bR bS fU;clear ho hb hg hat;have p8:0<=(a1:Int):=qD;have q8:(a1:Int) < ((l0.length:Int):Int):=qD;obtain⟨dF,jK,iL,iM,jl,jM,iN⟩:=Kd.S_form aD.out (by omega);(first|cases iL|(injection iL with ea_ en_ ec_;(first|subst ea_|(injection ea_ with ea_;subst ea_));subst ec_;clear en_));have jm:=aM iM;have jN:=aM iN;clear iM jl iN;have iO:=aM (show (aG dF\/w.heap.size<=dF) from ((Kd.S_R aD.out).1 _ rfl).1);(first|simp only [add_plain] at ax|skip);obtain⟨_,jO,ig,iP,fV,fZ,_,_⟩:=Kd.S_elem aD.out [] (a1:Int) p8 q8;obtain⟨iQ,rfl,iR⟩:=iP;have gm:=fV 0 _ rfl;have gp:=fZ 0;(try simp only [show ((Kd.slice 3 (Kd.int .i64))).sz=1 from rfl,Nat.mul_one,Nat.add_zero] at gm);(try simp only [show ((Kd.slice 3 (Kd.int .i64))).sz=1 from rfl,Nat.mul_one,Nat.add_zero] at gp);clear ig fV fZ;(try clear iP);replace p8:=eq_true p8;replace q8:=eq_true q8;have fe:=aM (show Kd.S (Kd.slice 3 (Kd.int .i64)) 43 eZ w0.heap.size (fun k_=>((fun k_=>(aG k_\/w.heap.size<=k_))) k_/\¬ ((fun k_=>some k_=((.slice Aoz bD.length coz):Value).ownBlock)) k_) (.slice (some ⟨dF,0,none⟩) l0.length fM) l0 from (by (with_reducible repeat (first|apply Kd.S_alloc|apply Kd.S_drewN|apply Kd.S_drew));exact Kd.S_mono aD.out (by first|exact fun k_ hk=>⟨hk.1,fun e_=>hk.2 e_⟩|exact fun k_ hk=>hk)));obtain⟨gq,ik,dN,dO,bT,bU,cz,dP⟩:=Kd.S_elem fe.out [] (a1:Int) (qD) (by have h_:(a1:Int) < ((l0.length:Int):Int):=qD;first|exact h_|(have e_:=(Kd.S_reads' aD.out).1;omega)|simpa using h_);obtain⟨fo,rfl,fq⟩:=dO;have dG:=Kd.S_seg dP (qD) (by have h_:(a1:Int) < ((l0.length:Int):Int):=qD;first|exact h_|(have e_:=(Kd.S_reads' aD.out).1;omega)|simpa using h_) (seg:=[(.slice Aoz bD.length coz)]) (j:=0) (show 1<=1 from by decide) (x':=bD) (Kd.M_row (Kd.R_mono (Kd.R_tight rfl (Kd.R_mono (ok':=fun k_=>((fun k_=>(aG k_\/w.heap.size<=k_))) k_/\k_≠dF) (Kd.R_apart' (bA.out) (Kd.S_typed aD.out) (by decide)) (fun k_ hk=>⟨hk.1.1,fun e_=>(hk.2) (by rw [e_];rfl)⟩))) (fun _ h_=>Or.inr (h_)))) (fun _ hk=>hk) (fun k_ hk_=>((Kd.R_mono (ok':=fun k_=>((fun k_=>(aG k_\/w.heap.size<=k_))) k_/\k_≠dF) (Kd.R_apart' (bA.out) (Kd.S_typed aD.out) (by decide)) (fun k_ hk=>⟨hk.1.1,fun e_=>(hk.2) (by rw [e_];rfl)⟩))).1 k_ hk_.symm);have cB:=bT 0 _ rfl;(try simp only [show ((Kd.slice 3 (Kd.int .i64))).sz=1 from rfl,Nat.mul_one,Nat.add_zero] at cB);have cK:=bU 0;(try simp only [show ((Kd.slice 3 (Kd.int .i64))).sz=1 from rfl,Nat.mul_one,Nat.add_zero] at cK);clear dN bT bU cz dP;(try clear dO);(try simp only [show ((Kd.slice 3 (Kd.int .i64))).sz=1 from rfl,Nat.mul_one,Nat.add_zero] at dG))|((with_reducible refine gate_store (t:=43) (p:=20) rfl ?_);(try (rw [drewN_self eZ];generalize hq_:World.drewN eZ _=eZ;have bP:=aM (Kd.S_at hq_ aD.out);have bQ:=aM (Kd.R_at hq_ ai.out);have bR:=aM (kept_at hq_ HK.out);have bS:=aM (below_at hq_ HB.out);clear hq_ aD ai HK HB;have aD:=bP;have ai:=bQ;have HK:=bR;have HB:=bS;clear bP bQ bR bS;(try (have fe:=aM (show Kd.S (Kd.slice 3 (Kd.int .i64)) 43 eZ w0.heap.size (fun k_=>((fun k_=>(aG k_\/w.heap.size<=k_))) k_/\¬ ((fun k_=>some k_=((.slice Aoz bD.length coz):Value).ownBlock)) k_) (.slice (some ⟨dF,0,none⟩) l0.length fM) l0 from (by (with_reducible repeat (first|apply Kd.S_alloc|apply Kd.S_drewN|apply Kd.S_drew));exact Kd.S_mono aD.out (by first|exact fun k_ hk=>⟨hk.1,fun e_=>hk.2 e_⟩|exact fun k_ hk=>hk)))));(try (obtain⟨gq,ik,dN,dO,bT,bU,cz,dP⟩:=Kd.S_elem fe.out [] (a1:Int) (qD) (by have h_:(a1:Int) < ((l0.length:Int):Int):=qD;first|exact h_|(have e_:=(Kd.S_reads' aD.out).1;omega)|simpa using h_)));(try (obtain⟨fo,rfl,fq⟩:=dO));(try (have dG:=Kd.S_seg dP (qD) (by have h_:(a1:Int) < ((l0.length:Int):Int):=qD;first|exact h_|(have e_:=(Kd.S_reads' aD.out).1;omega)|simpa using h_) (seg:=[(.slice Aoz bD.length coz)]) (j:=0) (show 1<=1 from by decide) (x':=bD) (Kd.M_row (Kd.R_mono (Kd.R_tight rfl (Kd.R_mono (ok':=fun k_=>((fun k_=>(aG k_\/w.heap.size<=k_))) k_/\k_≠dF) (Kd.R_apart' (bA.out) (Kd.S_typed aD.out) (by decide)) (fun k_ hk=>⟨hk.1.1,fun e_=>(hk.2) (by rw [e_];rfl)⟩))) (fun _ h_=>Or.inr (h_)))) (fun _ hk=>hk) (fun k_ hk_=>((Kd.R_mono (ok':=fun k_=>((fun k_=>(aG k_\/w.heap.size<=k_))) k_/\k_≠dF) (Kd.R_apart' (bA.out) (Kd.S_typed aD.out) (by decide)) (fun k_ hk=>⟨hk.1.1,fun e_=>(hk.2) (by rw [e_];rfl)⟩))).1 k_ hk_.symm)));(try (have cB:=bT 0 _ rfl));(try (try simp only [show ((Kd.slice 3 (Kd.int .i64))).sz=1 from rfl,Nat.mul_one,Nat.add_zero] at cB));(try (have cK:=bU 0));(try (try simp only [show ((Kd.slice 3 (Kd.int .i64))).sz=1 from rfl,Nat.mul_one,Nat.add_zero] at cK));(try (clear dN bT bU cz dP;(try clear dO)));(try (try simp only [show ((Kd.slice 3 (Kd.int .i64))).sz=1 from rfl,Nat.mul_one,Nat.add_zero] at dG))));refine store_event (t:=43) (p:=20) (v:=?il) (w1:=(eZ.setCell ⟨dF,(a1:Int).toNat,none⟩ ((.slice Aoz bD.length coz)))) ?hg ?ho ?hn ?hr ?_;(case ho=>rfl);(case hg=>rfl);(case hn=>rfl);(case hr=>first|(go_simp;done)|(go_simp;rfl));intro iq hw;have hg:eZ.grownBy iq (some dF):=(by rw [hw];exact dG.2);have hp_:Kd.S (Kd.slice 3 (Kd.int .i64)) 43 iq w0.heap.size (fun k_=>(aG k_\/w.heap.size<=k_)) (.slice (some ⟨dF,0,none⟩) l0.length fM) ib:=(by rw [hw,dJ.out];exact dG.1);clear dG;replace ai:=aM (Kd.R_after (v:=(.slice (some ⟨dF,0,none⟩) l0.length fM)) (v1:=(.slice (some ⟨dF,0,none⟩) l0.length fM)) (ok:=(fun k_=>(aG k_\/w.heap.size<=k_)/\some k_≠((.slice Aoz bD.length coz):Value).ownBlock)) (by (with_reducible repeat (first|apply Kd.R_alloc|apply Kd.R_drewN|apply Kd.R_drew));exact Kd.R_mono ai.out (fun _ hk=>⟨⟨hk.1.1,hk.2⟩,hk.1.2⟩)) hg (.inl rfl));replace HB:=aM ((by rw [hw];exact below_set (HB.out) jm.out:Below w0.heap.size w0 iq));replace HK:=aM (Kept.of_grown (S:=(fun k_=>aG k_)) hg qT (fun k_ e_=>((Kd.S_R aD.out).1 k_ e_).1));replace aD:=aM hp_;clear bA;clear hg hw hp_))
  go_ret
  exact⟨qW,qS aD,qB,qT⟩
 have iw:¬ ((rd_L9 l0 a1)=[]):=fun h_=>c6 (by rw [h_];rfl)
 have H':=aM H
 clear H
 obtain⟨jo,dY,iy⟩:=Kd.S_slice aD.out
 subst iy
 have bv:0<=(a1:Int):=qD
 have bz:a1 < (l0.length:Int):=qD
 obtain⟨aH,dK,dL,eY,ax,aI,aJ⟩:=at_L9 (Kd.S_reads' aD.out).2.2 a1 bv bz
 cases eY
 obtain⟨fT,bX,bY,bi⟩:=Kd.S_get aD.out [] a1 bv (by first|exact bz|exact qD|(have e_:=(Kd.S_reads' aD.out).1;omega))
 obtain⟨dW,rfl,ay⟩:=bY
 have au:=bi 0 _ rfl
 rw [Nat.add_zero,show ((Kd.slice 3 (Kd.int .i64))).sz=1 from rfl,Nat.mul_one] at au
 replace au:=Option.some.inj (au.symm.trans ax)
 rw [au] at ay
 have ai:=aM (show Kd.R (Kd.int .i64) 3 _ _ _ _ (rd_L9 l0 a1) from ay)
 clear au ay
 have bE:=aM ax
 clear bi bX
 have bF:=aM aJ
 have dX:=aM aI
 clear aJ aI
 replace bv:=eq_true bv
 replace bz:=eq_true bz
 go_enter func126,ntmps126
 go_wp2
 repeat (go_quiet (fail);try go_wp2)
 go_loopg [7,8] k (fun kq v7 v8 w'=>∃ (af:List (List Int)) (dQ:Bool) (ag:Int),v7 = .bool dQ/\v8 = iV ag/\Aside0 (Sb9.l0 kq af a1 l2 dQ ag=some (r1,r2))/\Aside0 (kq<=k)/\Aside0 (Kd.S (Kd.slice 3 (Kd.int .i64)) 43 w' w0.heap.size (fun k_=>(aG k_\/w.heap.size<=k_)) (.slice (some aH) l0.length dY) af)/\Aside0 (Kept w w' (fun k_=>aG k_))/\Aside0 (Below w0.heap.size w0 w'))
 case atStart=>exact⟨(l0),(false),(0),qZ,qZ,H',⟨Nat.le_refl _⟩,⟨qS aD⟩,⟨qT⟩,⟨qB⟩⟩
 clear H'
 try clear c2;try clear gX;try clear gY;try clear c6;try clear fP;try clear fQ;try clear iw;try clear ax;try clear bv;try clear bz
 obtain⟨af,dQ,ag,rfl,rfl,HA,fO,ae,HK,HB⟩:=hrel
 have aK:=(Kd.S_reads' ae.out).1
 rw [aK] at ae
 (try simp only [aK])
 rcases gk with _|k1
 ·exact absurd HA.out (by simp [Sb9.l0])
 have H:=HA.out
 clear HA
 simp only [Sb9.l0] at H
 replace H:=jD H;rcases H with ⟨gu,H⟩ | ⟨gu,H⟩
 ·replace H:=jI H;obtain⟨iT,H⟩:=H
  replace H:=jI H;obtain⟨iU,H⟩:=H
  replace H:=jI H;obtain⟨iW,H⟩:=H
  replace H:=jI H;obtain⟨iX,H⟩:=H
  replace H:=jE H;rcases H with ⟨gz,gB,H⟩ | ⟨c21,gz,gB,H⟩
  ·have H':=aM H
   clear H
   have bG:0<=(a1:Int):=qD
   have bH:a1 < (af.length:Int):=qD
   obtain⟨dR,fu,bI,fw,az,aN,aQ⟩:=at_L9 (Kd.S_reads' ae.out).2.2 a1 bG bH
   obtain rfl:aH=dR:=(by injection fw)
   obtain⟨gD,cO,df,bn⟩:=Kd.S_get ae.out [] a1 bG (by first|exact bH|exact qD|(have e_:=(Kd.S_reads' ae.out).1;omega))
   obtain⟨dZ,rfl,aA⟩:=df
   have av:=bn 0 _ rfl
   rw [Nat.add_zero,show ((Kd.slice 3 (Kd.int .i64))).sz=1 from rfl,Nat.mul_one] at av
   replace av:=Option.some.inj (av.symm.trans az)
   rw [av] at aA
   have bg:=aM (show Kd.R (Kd.int .i64) 3 _ _ _ _ (rd_L9 af a1) from aA)
   clear av aA
   have d9:=aM az
   clear bn cO
   have bJ:=aM aQ
   have ek:=aM aN
   clear aQ aN
   replace bG:=eq_true bG
   replace bH:=eq_true bH
   have dh:0<=(ag:Int):=qD
   have di:ag < ((rd_L9 af a1).length:Int):=qD
   obtain⟨gF,fA,eu⟩:=Kd.at_int (kC bJ.out) ag dh di
   cases fA
   replace dh:=eq_true dh
   replace di:=eq_true di
   go_wp2
   repeat (go_quiet (fail);try go_wp2)
   (try simp only [<- aK])
   go_roundg k1
   case measure=>have:=fO.out;omega
   exact⟨(af),(dQ),(wrap64 (ag+1)),qZ,qZ,H',⟨by have:=fO.out;omega⟩,⟨by (try simp only [aK]);(with_reducible repeat (first|apply Kd.S_alloc|apply Kd.S_drewN|apply Kd.S_drew));exact ae.out⟩,⟨qT⟩,⟨qB⟩⟩
  replace H:=jI H;obtain⟨iY,H⟩:=H
  have eT:=aM H;clear H
  have bG:0<=(a1:Int):=qD
  have bH:a1 < (af.length:Int):=qD
  obtain⟨dR,fu,bI,fw,az,aN,aQ⟩:=at_L9 (Kd.S_reads' ae.out).2.2 a1 bG bH
  obtain rfl:aH=dR:=(by injection fw)
  obtain⟨gD,cO,df,bn⟩:=Kd.S_get ae.out [] a1 bG (by first|exact bH|exact qD|(have e_:=(Kd.S_reads' ae.out).1;omega))
  obtain⟨dZ,rfl,aA⟩:=df
  have av:=bn 0 _ rfl
  rw [Nat.add_zero,show ((Kd.slice 3 (Kd.int .i64))).sz=1 from rfl,Nat.mul_one] at av
  replace av:=Option.some.inj (av.symm.trans az)
  rw [av] at aA
  have bg:=aM (show Kd.R (Kd.int .i64) 3 _ _ _ _ (rd_L9 af a1) from aA)
  clear av aA
  have d9:=aM az
  clear bn cO
  have bJ:=aM aQ
  have ek:=aM aN
  clear aQ aN
  replace bG:=eq_true bG
  replace bH:=eq_true bH
  have dh:0<=(ag:Int):=qD
  have di:ag < ((rd_L9 af a1).length:Int):=qD
  obtain⟨gF,fA,eu⟩:=Kd.at_int (kC bJ.out) ag dh di
  cases fA
  replace dh:=eq_true dh
  replace di:=eq_true di
  have eB:0<=(a1:Int):=qD
  have eD:a1 < (af.length:Int):=qD
  obtain⟨gG,iA,iB,iC,bK,dA,dB⟩:=at_L9 (Kd.S_reads' ae.out).2.2 a1 eB eD
  obtain rfl:aH=gG:=(by injection iC)
  obtain⟨iZ,fB,fC,dS⟩:=Kd.S_get ae.out [] a1 eB (by first|exact eD|exact qD|(have e_:=(Kd.S_reads' ae.out).1;omega))
  obtain⟨gN,rfl,bL⟩:=fC
  have aT:=dS 0 _ rfl
  rw [Nat.add_zero,show ((Kd.slice 3 (Kd.int .i64))).sz=1 from rfl,Nat.mul_one] at aT
  replace aT:=Option.some.inj (aT.symm.trans bK)
  rw [aT] at bL
  have bM:=aM (show Kd.R (Kd.int .i64) 3 _ _ _ _ (rd_L9 af a1) from bL)
  clear aT bL
  have gP:=aM bK
  clear dS fB
  have eF:=aM dB
  have gQ:=aM dA
  clear dB dA
  replace eB:=eq_true eB
  replace eD:=eq_true eD
  have ea_:=Option.some.inj (az.symm.trans bK)
  injection ea_ with ea_ en_ ec_
  subst ea_
  subst ec_
  clear en_
  have fD:0<=(ag:Int):=qD
  have fE:ag < ((rd_L9 af a1).length:Int):=qD
  obtain⟨ja,iD,eG⟩:=Kd.at_int (kC eF.out) ag fD fE
  cases iD
  replace fD:=eq_true fD
  replace fE:=eq_true fE
  have fF:0<=(ag:Int):=qD
  have fG:ag < (l2.length:Int):=qD
  obtain⟨je,iE,gT⟩:=Kd.at_int (Kd.C_kept_now HR2.out HK.out) ag fF fG
  cases iE
  replace fF:=eq_true fF
  replace fG:=eq_true fG
  have H:=eT.out;clear eT
  replace H:=jE H;rcases H with ⟨gH,gI,H⟩ | ⟨c23,gH,gI,H⟩
  ·have H':=aM H
   clear H
   go_wp2
   repeat (go_quiet (fail);try go_wp2)
   (try simp only [<- aK])
   go_roundg k1
   case measure=>have:=fO.out;omega
   exact⟨(af),(dQ),(wrap64 (ag+1)),qZ,qZ,H',⟨by have:=fO.out;omega⟩,⟨by (try simp only [aK]);(with_reducible repeat (first|apply Kd.S_alloc|apply Kd.S_drewN|apply Kd.S_drew));exact ae.out⟩,⟨qT⟩,⟨qB⟩⟩
  obtain⟨eH,bV⟩:=ky (((rd_L9 af a1).set (ag:Int).toNat ag):List Int)
  first|replace H:=kz bV H|rw [<- bV.out] at H
  obtain⟨eO,bW⟩:=ky ((af.set (a1:Int).toNat eH):List (List Int))
  first|replace H:=kz bW H|rw [<- bW.out] at H
  have H':=aM H
  clear H
  have eP:0<=(a1:Int):=qD
  have eQ:a1 < (af.length:Int):=qD
  obtain⟨gJ,iF,iG,iH,bN,dC,dD⟩:=at_L9 (Kd.S_reads' ae.out).2.2 a1 eP eQ
  obtain rfl:aH=gJ:=(by injection iH)
  obtain⟨jf,fH,fI,dU⟩:=Kd.S_get ae.out [] a1 eP (by first|exact eQ|exact qD|(have e_:=(Kd.S_reads' ae.out).1;omega))
  obtain⟨gU,rfl,bO⟩:=fI
  have aU:=dU 0 _ rfl
  rw [Nat.add_zero,show ((Kd.slice 3 (Kd.int .i64))).sz=1 from rfl,Nat.mul_one] at aU
  replace aU:=Option.some.inj (aU.symm.trans bN)
  rw [aU] at bO
  have aa:=aM (show Kd.R (Kd.int .i64) 3 _ _ _ _ (rd_L9 af a1) from bO)
  clear aU bO
  have aj:=aM bN
  clear dU fH
  have gV:=aM dD
  have gW:=aM dC
  clear dD dC
  replace eP:=eq_true eP
  replace eQ:=eq_true eQ
  have ea_:=Option.some.inj (az.symm.trans bN)
  injection ea_ with ea_ en_ ec_
  subst ea_
  subst ec_
  clear en_
  have iI:0<=(ag:Int):=qD
  have q24:(ag:Int) < (((rd_L9 af a1).length:Int):Int):=qD
  obtain⟨bq,jr,gK,gL,iJ,jv,gM⟩:=Kd.R_form aa.out (by omega)
  (first|cases gK|(injection gK with ea_ en_ ec_;(first|subst ea_|(injection ea_ with ea_;subst ea_));subst ec_;clear en_))
  have fJ:=aM gL
  have jw:=aM gM
  clear gL iJ gM
  have iK:=aM (show (aG bq\/w.heap.size<=bq) from (aa.out.1 _ rfl).1)
  (first|simp only [add_plain] at eG|skip)
  obtain⟨aX,aY⟩:=Kd.R_celln 0 aa.out (ag:Int) iI q24
  replace iI:=eq_true iI
  replace q24:=eq_true q24
  have dn:(a1:Int) < (af.length:Int):=(by have h_:(a1:Int) < ((af.length:Int):Int):=qD;first|exact h_|(have e_:=(Kd.S_reads' ae.out).1;omega)|simpa only [List.length_set,List.length_set] using h_)
  obtain⟨bB,fK,bu,dw,aC,aV,aW⟩:=Kd.S_borrow ae.out [] (a1:Int) (qD) dn
  obtain⟨dx,rfl,ah⟩:=dw
  have hv25:=aC 0 _ rfl
  rw [Nat.add_zero,show ((Kd.slice 3 (Kd.int .i64))).sz=1 from rfl,Nat.mul_one] at hv25
  replace hv25:=Option.some.inj (hv25.symm.trans aj.out)
  subst hv25
  clear aC bu
  replace ah:=(show Kd.R (Kd.int .i64) 3 _ _ _ _ (rd_L9 af a1) from ah)
  have aZ:=Kd.R_putg ah (ag:Int) ag
  go_wp2_with (first|((with_reducible refine gate_store (t:=3) (p:=54) rfl ?_);(try (rw [drewN_self wr];generalize hq_:World.drewN wr _=wr;(try (have nx_:=aM (cell_at hq_ aj.out);clear aj;have aj:=nx_;clear nx_));have bP:=aM (Kd.S_at hq_ ae.out);have bQ:=aM (Kd.R_at hq_ aa.out);have bR:=aM (kept_at hq_ HK.out);have bS:=aM (below_at hq_ HB.out);(try (have aX:=cell_at hq_ aX));(try (have aY:=frozen_at hq_ aY));clear hq_ ae aa HK HB;have ae:=bP;have aa:=bQ;have HK:=bR;have HB:=bS;clear bP bQ bR bS;(try (have dn:(a1:Int) < (af.length:Int):=(by have h_:(a1:Int) < ((af.length:Int):Int):=qD;first|exact h_|(have e_:=(Kd.S_reads' ae.out).1;omega)|simpa only [List.length_set,List.length_set] using h_)));(try (obtain⟨bB,fK,bu,dw,aC,aV,aW⟩:=Kd.S_borrow ae.out [] (a1:Int) (qD) dn));(try (obtain⟨dx,rfl,ah⟩:=dw));(try (have hv25:=aC 0 _ rfl));(try (rw [Nat.add_zero,show ((Kd.slice 3 (Kd.int .i64))).sz=1 from rfl,Nat.mul_one] at hv25));(try (replace hv25:=Option.some.inj (hv25.symm.trans aj.out)));(try (subst hv25));(try (clear aC bu));(try (replace ah:=(show Kd.R (Kd.int .i64) 3 _ _ _ _ (rd_L9 af a1) from ah)));(try (have aZ:=Kd.R_putg ah (ag:Int) ag))));refine store_event (t:=3) (p:=54) (v:=?dV) (w1:=(wr.setCell ⟨bq,(ag:Int).toNat,none⟩ (iV ag))) ?hg ?ho ?hn ?hr ?_;(case ho=>rfl);(case hg=>rfl);(case hn=>rfl);(case hr=>first|(go_simp;done)|(go_simp;rfl));intro dE hw;have hg:wr.grownBy dE (some bq):=(by rw [hw];exact aZ.2);have hz_:Kd.R (Kd.int .i64) 3 dE w0.heap.size bB (.slice (some ⟨bq,0,none⟩) (rd_L9 af a1).length bI) eH:=(by rw [hw,bV.out];exact aZ.1);have hp_:Kd.S (Kd.slice 3 (Kd.int .i64)) 43 dE w0.heap.size (fun k_=>(aG k_\/w.heap.size<=k_)) (.slice (some aH) af.length dY) eO:=(by rw [bW.out];exact aW hg (fun k_ e_=>by injection e_ with e_;subst e_;exact ah.1 _ rfl) (Kd.M_row hz_));have hm_:=Kd.R_mono hz_ aV;clear aZ aW;have eU:=aM hm_;have eX:=aM ((Kd.R_reads' hm_).2.1);replace ae:=aM hp_;replace HB:=aM ((by rw [hw];exact below_set (HB.out) fJ.out:Below w0.heap.size w0 dE));replace HK:=aM (Kept.of_grown (S:=(fun k_=>aG k_)) hg qT (fun k_ e_=>(aa.out.1 k_ e_).1));clear bg bM aa;clear hg hw hp_ hz_ hm_ aV))
  repeat (go_quiet (first|((with_reducible refine gate_store (t:=3) (p:=54) rfl ?_);(try (rw [drewN_self wr];generalize hq_:World.drewN wr _=wr;(try (have nx_:=aM (cell_at hq_ aj.out);clear aj;have aj:=nx_;clear nx_));have bP:=aM (Kd.S_at hq_ ae.out);have bQ:=aM (Kd.R_at hq_ aa.out);have bR:=aM (kept_at hq_ HK.out);have bS:=aM (below_at hq_ HB.out);(try (have aX:=cell_at hq_ aX));(try (have aY:=frozen_at hq_ aY));clear hq_ ae aa HK HB;have ae:=bP;have aa:=bQ;have HK:=bR;have HB:=bS;clear bP bQ bR bS;(try (have dn:(a1:Int) < (af.length:Int):=(by have h_:(a1:Int) < ((af.length:Int):Int):=qD;first|exact h_|(have e_:=(Kd.S_reads' ae.out).1;omega)|simpa only [List.length_set,List.length_set] using h_)));(try (obtain⟨bB,fK,bu,dw,aC,aV,aW⟩:=Kd.S_borrow ae.out [] (a1:Int) (qD) dn));(try (obtain⟨dx,rfl,ah⟩:=dw));(try (have hv25:=aC 0 _ rfl));(try (rw [Nat.add_zero,show ((Kd.slice 3 (Kd.int .i64))).sz=1 from rfl,Nat.mul_one] at hv25));(try (replace hv25:=Option.some.inj (hv25.symm.trans aj.out)));(try (subst hv25));(try (clear aC bu));(try (replace ah:=(show Kd.R (Kd.int .i64) 3 _ _ _ _ (rd_L9 af a1) from ah)));(try (have aZ:=Kd.R_putg ah (ag:Int) ag))));refine store_event (t:=3) (p:=54) (v:=?dV) (w1:=(wr.setCell ⟨bq,(ag:Int).toNat,none⟩ (iV ag))) ?hg ?ho ?hn ?hr ?_;(case ho=>rfl);(case hg=>rfl);(case hn=>rfl);(case hr=>first|(go_simp;done)|(go_simp;rfl));intro dE hw;have hg:wr.grownBy dE (some bq):=(by rw [hw];exact aZ.2);have hz_:Kd.R (Kd.int .i64) 3 dE w0.heap.size bB (.slice (some ⟨bq,0,none⟩) (rd_L9 af a1).length bI) eH:=(by rw [hw,bV.out];exact aZ.1);have hp_:Kd.S (Kd.slice 3 (Kd.int .i64)) 43 dE w0.heap.size (fun k_=>(aG k_\/w.heap.size<=k_)) (.slice (some aH) af.length dY) eO:=(by rw [bW.out];exact aW hg (fun k_ e_=>by injection e_ with e_;subst e_;exact ah.1 _ rfl) (Kd.M_row hz_));have hm_:=Kd.R_mono hz_ aV;clear aZ aW;have bP:=aM hp_;have bQ:=aM ((by rw [hw];exact below_set (HB.out) fJ.out:Below w0.heap.size w0 dE));have bR:=aM (Kept.of_grown (S:=(fun k_=>aG k_)) hg qT (fun k_ e_=>(aa.out.1 k_ e_).1));have bS:=aM hm_;have fU:=aM ((Kd.R_reads' hm_).2.1);clear ae;clear HB;clear HK;clear bg;clear bM;clear aa;have ae:=bP;have HB:=bQ;have HK:=bR;have eU:=bS;have eX:=fU;clear bP bQ bR bS fU;clear hg hw hp_ hz_ hm_ aV));try go_wp2_with (first|((with_reducible refine gate_store (t:=3) (p:=54) rfl ?_);(try (rw [drewN_self wr];generalize hq_:World.drewN wr _=wr;(try (have nx_:=aM (cell_at hq_ aj.out);clear aj;have aj:=nx_;clear nx_));have bP:=aM (Kd.S_at hq_ ae.out);have bQ:=aM (Kd.R_at hq_ aa.out);have bR:=aM (kept_at hq_ HK.out);have bS:=aM (below_at hq_ HB.out);(try (have aX:=cell_at hq_ aX));(try (have aY:=frozen_at hq_ aY));clear hq_ ae aa HK HB;have ae:=bP;have aa:=bQ;have HK:=bR;have HB:=bS;clear bP bQ bR bS;(try (have dn:(a1:Int) < (af.length:Int):=(by have h_:(a1:Int) < ((af.length:Int):Int):=qD;first|exact h_|(have e_:=(Kd.S_reads' ae.out).1;omega)|simpa only [List.length_set,List.length_set] using h_)));(try (obtain⟨bB,fK,bu,dw,aC,aV,aW⟩:=Kd.S_borrow ae.out [] (a1:Int) (qD) dn));(try (obtain⟨dx,rfl,ah⟩:=dw));(try (have hv25:=aC 0 _ rfl));(try (rw [Nat.add_zero,show ((Kd.slice 3 (Kd.int .i64))).sz=1 from rfl,Nat.mul_one] at hv25));(try (replace hv25:=Option.some.inj (hv25.symm.trans aj.out)));(try (subst hv25));(try (clear aC bu));(try (replace ah:=(show Kd.R (Kd.int .i64) 3 _ _ _ _ (rd_L9 af a1) from ah)));(try (have aZ:=Kd.R_putg ah (ag:Int) ag))));refine store_event (t:=3) (p:=54) (v:=?dV) (w1:=(wr.setCell ⟨bq,(ag:Int).toNat,none⟩ (iV ag))) ?hg ?ho ?hn ?hr ?_;(case ho=>rfl);(case hg=>rfl);(case hn=>rfl);(case hr=>first|(go_simp;done)|(go_simp;rfl));intro dE hw;have hg:wr.grownBy dE (some bq):=(by rw [hw];exact aZ.2);have hz_:Kd.R (Kd.int .i64) 3 dE w0.heap.size bB (.slice (some ⟨bq,0,none⟩) (rd_L9 af a1).length bI) eH:=(by rw [hw,bV.out];exact aZ.1);have hp_:Kd.S (Kd.slice 3 (Kd.int .i64)) 43 dE w0.heap.size (fun k_=>(aG k_\/w.heap.size<=k_)) (.slice (some aH) af.length dY) eO:=(by rw [bW.out];exact aW hg (fun k_ e_=>by injection e_ with e_;subst e_;exact ah.1 _ rfl) (Kd.M_row hz_));have hm_:=Kd.R_mono hz_ aV;clear aZ aW;have eU:=aM hm_;have eX:=aM ((Kd.R_reads' hm_).2.1);replace ae:=aM hp_;replace HB:=aM ((by rw [hw];exact below_set (HB.out) fJ.out:Below w0.heap.size w0 dE));replace HK:=aM (Kept.of_grown (S:=(fun k_=>aG k_)) hg qT (fun k_ e_=>(aa.out.1 k_ e_).1));clear bg bM aa;clear hg hw hp_ hz_ hm_ aV)))
  (try simp only [<- aK])
  go_roundg k1
  case measure=>have:=fO.out;omega
  exact⟨(eO),(true),(wrap64 (ag+1)),qZ,qZ,H',⟨by have:=fO.out;omega⟩,⟨by (try simp only [aK]);(with_reducible repeat (first|apply Kd.S_alloc|apply Kd.S_drewN|apply Kd.S_drew));exact ae.out⟩,⟨qT⟩,⟨qB⟩⟩
 obtain⟨rfl,rfl⟩:=oJ2 H
 go_wp2
 repeat (go_quiet (fail);try go_wp2)
 go_ret
 exact⟨qW,(by first|exact (qS ae)|(simp only [aK];exact (qS ae))),qB,qT⟩
mutual
def Sbb.l0:Nat->List (S27)->List (List Int)->Bool->Int->Option (Bool × (List (List Int)))
 | 0,_,_,_,_=>none
 | k+1,x0,x1,x5,x6=>if x6 < (x0.length:Int) then (if 0<=x6 then (if x6 < (x1.length:Int) then (if ((rd_L9 x1 x6).length:Int)=0 then (Sbb.l0 k x0 x1 x5 (wrap64 (x6+1))) else ((SaS.f k x0 x6).bind fun ag=>((Sb8.f k ((rd_T27 x0 x6).f0) ((rd_T27 x0 x6).f1) ((rd_T27 x0 x6).f2) ((rd_T27 x0 x6).f3) ((rd_T27 x0 x6).f4) (rd_L9 x1 x6)).bind fun aj=>(Sbb.l1 k x0 x1 x5 x6 ag aj 0)))) else (none)) else (none)) else (some (x5,x1))
def Sbb.l1:Nat->List (S27)->List (List Int)->Bool->Int->List Int->List Int->Int->Option (Bool × (List (List Int)))
 | 0,_,_,_,_,_,_,_=>none
 | k+1,x0,x1,x5,x6,x7,x8,x9=>if x9 < (x7.length:Int) then (if 0<=x9 then ((Sb9.f k x1 (rd x7 x9) x8).bind fun bM=>(if bM.1=true then (Sbb.l1 k x0 bM.2 true x6 x7 x8 (wrap64 (x9+1))) else (Sbb.l1 k x0 bM.2 x5 x6 x7 x8 (wrap64 (x9+1))))) else (none)) else (Sbb.l0 k x0 x1 x5 (wrap64 (x6+1)))
end
def Sbb.f (k:Nat) (l0:List (S27)) (l1:List (List Int)):Option (Bool × (List (List Int))):=Sbb.l0 k l0 l1 false 0
def Sbb.T7:Bool × List (List Nat × List Nat):=(true,[([],[]),([],[]),([0,1],[0,1]),([2],[2]),([],[]),([],[]),([4,5],[4,5]),([6],[6]),([3,7],[3,7]),([8,8,0,1,2,3,4,5,6,7,8],[8])])
def Sbb.B7:List Nat:=[0,0,3,7,0,0,48,112,255,511]
theorem Sbb.tab7:rtab .any (opsOf f116 7)=Sbb.T7:=by kernel_rfl
theorem Sbb.bits7:waitsOk Sbb.T7.2 Sbb.B7=true:=by kernel_rfl
theorem Sbb.calls (k:Nat) (A0:Option Addr) (c0:Nat) (l0:List (S27)) (aA:Nat->Prop) (aX:Value) (l1:List (List Int)) (r1:Bool) (r2:List (List Int)) (w0 w:World) (hB:Below w0.heap.size w0 w) (hr0:∀ W_,Kept w W_ (fun k_=>aA k_)->Kd.C k27 W_ A0 l0.length l0) (hc0:l0.length<=c0) (ho1:Kd.S (Kd.slice 3 (Kd.int .i64)) 43 w w0.heap.size aA aX l1) (h:Sbb.f k l0 l1=some (r1,r2)) :
  Calls prog 116 #[.slice A0 l0.length c0,aX] w fun e w'=>e = .returned (.bool r1)/\Kd.S (Kd.slice 3 (Kd.int .i64)) 43 w' w0.heap.size (fun k_=>(aA k_\/w.heap.size<=k_)) aX r2/\Below w0.heap.size w0 w'/\Kept w w' (fun k_=>aA k_):=by
 have eY:=underlying27
 have bR:=aM hr0
 have eZ:=aM hc0
 clear hr0 hc0
 have fe:=aM (show Kd.S (Kd.slice 3 (Kd.int .i64)) 43 w w0.heap.size (fun k_=>(aA k_\/w.heap.size<=k_)) aX l1 from Kd.S_mono ho1 (fun k_ hk=>(.inl hk)))
 have HK:=aM (Kept.refl w (fun k_=>aA k_))
 have HW0:=aM hB.size
 have HB:=aM hB
 clear hB
 have H:(Sbb.l0 k l0 l1 false 0)=some (r1,r2):=h
 clear h
 have H':=aM H
 clear H
 go_enter func116,ntmps116
 go_wp2
 go_loopg [5,6] k (fun kq v5 v6 w'=>∃ (aC:List (List Int)) (bS:Bool) (aa:Int),v5 = .bool bS/\v6 = iV aa/\Aside0 (Sbb.l0 kq l0 aC bS aa=some (r1,r2))/\Aside0 (kq<=k)/\Aside0 (Kd.S (Kd.slice 3 (Kd.int .i64)) 43 w' w0.heap.size (fun k_=>(aA k_\/w.heap.size<=k_)) aX aC)/\Aside0 (Kept w w' (fun k_=>aA k_))/\Aside0 (Below w0.heap.size w0 w'))
 case atStart=>exact⟨(l1),(false),(0),qZ,qZ,H',⟨Nat.le_refl _⟩,⟨qS fe⟩,⟨qT⟩,⟨qB⟩⟩
 clear H'
 obtain⟨aC,bS,aa,rfl,rfl,HA,dn,af,HK,HB⟩:=hrel
 rcases gk with _|k1
 ·exact absurd HA.out (by simp [Sbb.l0])
 have H:=HA.out
 clear HA
 simp only [Sbb.l0] at H
 replace H:=jD H;rcases H with ⟨dG,H⟩ | ⟨dG,H⟩
 ·replace H:=jI H;obtain⟨dU,H⟩:=H
  replace H:=jI H;obtain⟨dV,H⟩:=H
  replace H:=jE H;rcases H with ⟨dH,dI,H⟩ | ⟨c6,dH,dI,H⟩
  ·have H':=aM H
   clear H
   obtain⟨fD,fE,fo⟩:=Kd.S_slice af.out
   subst fo
   have bu:0<=(aa:Int):=qD
   have bv:aa < (aC.length:Int):=qD
   obtain⟨aQ,dx,dz,dA,aT,aD,aG⟩:=at_L9 (Kd.S_reads' af.out).2.2 aa bu bv
   cases dA
   obtain⟨dJ,bN,bO,aY⟩:=Kd.S_get af.out [] aa bu (by first|exact bv|exact qD|(have e_:=(Kd.S_reads' af.out).1;omega))
   obtain⟨cO,rfl,az⟩:=bO
   have ah:=aY 0 _ rfl
   rw [Nat.add_zero,show ((Kd.slice 3 (Kd.int .i64))).sz=1 from rfl,Nat.mul_one] at ah
   replace ah:=Option.some.inj (ah.symm.trans aT)
   rw [ah] at az
   have au:=aM (show Kd.R (Kd.int .i64) 3 _ _ _ _ (rd_L9 aC aa) from az)
   clear ah az
   clear aY bN
   have ax:=aM aG
   have df:=aM aD
   clear aG aD
   replace bu:=eq_true bu
   replace bv:=eq_true bv
   go_wp2
   go_roundg k1
   case measure=>have:=dn.out;omega
   exact⟨(aC),(bS),(wrap64 (aa+1)),qZ,qZ,H',⟨by have:=dn.out;omega⟩,⟨qS af⟩,⟨qT⟩,⟨qB⟩⟩
  have dW:¬ ((rd_L9 aC aa)=[]):=fun h_=>c6 (by rw [h_];rfl)
  obtain⟨ag,A8,H⟩:=qE H
  try dsimp only at H
  obtain⟨aj,A9,H⟩:=qE H
  try dsimp only at H
  have H':=aM H
  clear H
  obtain⟨fq,bT,dX⟩:=Kd.S_slice af.out
  subst dX
  have bu:0<=(aa:Int):=qD
  have bv:aa < (aC.length:Int):=qD
  obtain⟨aQ,dx,dz,dA,aT,aD,aG⟩:=at_L9 (Kd.S_reads' af.out).2.2 aa bu bv
  cases dA
  obtain⟨dJ,bN,bO,aY⟩:=Kd.S_get af.out [] aa bu (by first|exact bv|exact qD|(have e_:=(Kd.S_reads' af.out).1;omega))
  obtain⟨cO,rfl,az⟩:=bO
  have ah:=aY 0 _ rfl
  rw [Nat.add_zero,show ((Kd.slice 3 (Kd.int .i64))).sz=1 from rfl,Nat.mul_one] at ah
  replace ah:=Option.some.inj (ah.symm.trans aT)
  rw [ah] at az
  have au:=aM (show Kd.R (Kd.int .i64) 3 _ _ _ _ (rd_L9 aC aa) from az)
  clear ah az
  clear aY bN
  have ax:=aM aG
  have df:=aM aD
  clear aG aD
  replace bu:=eq_true bu
  replace bv:=eq_true bv
  try go_wp2_with (first|((with_reducible refine jc 55 24 rfl rfl ?_);refine jG func55 #[.slice A0 l0.length c0,iV aa] ?_;refine (SaS.calls k1 _ _ l0 aa ag _ ?aZ ?bg A8.out).mono ?_;(case aZ=>exact Kd.C_kept_now bR.out qT);(case bg=>exact eZ.out);rintro e fu ⟨dB,rfl,ho0,hb⟩;refine⟨_,rfl,?_⟩;have bi:=aM (Kd.R_lower (Kd.R_new' (Kd.R_newM (M:=fun k_=>(aA k_\/w.heap.size<=k_)) ho0 (by first|exact HK.out.1|exact (show Kept w _ (fun k_=>aA k_) from qT).1) (fun k_ h_=>.inr h_)) (Kd.R_lt (qR au))) (below_size qB));replace af:=aM (Kd.S_elder' (qS af) (Kd.R_base ho0) hb);replace au:=kO au ho0 hb;replace ax:=kQ ax hb;replace HK:=kT hb;replace HB:=kH hb;clear hb;(try clear ho0)))
  replace af:=aM (Kd.S_drew af.out)
  replace au:=aM (Kd.R_drew au.out)
  replace bi:=aM (Kd.R_drew bi.out)
  replace ax:=aM (Kd.C_drew ax.out)
  replace HK:=aM (Kept.drew HK.out)
  replace HB:=aM (below_drew1 HB.out)
  have aH:0<=(aa:Int):=qD
  have aI:aa < (l0.length:Int):=qD
  obtain⟨aJ,dY,bE,bF,bG,bH,bI⟩:=at_T27 (Kd.C_kept_now bR.out HK.out) aa aH aI
  have dN:=bI
  have dO:=bH
  have dP:=bG
  have dQ:=bF
  have dR:=bE
  cases dY
  replace aH:=eq_true aH
  replace aI:=eq_true aI
  have bU:0<=(aa:Int):=qD
  have bV:aa < (aC.length:Int):=qD
  obtain⟨dK,bW,bX,dZ,aU,bP,bQ⟩:=at_L9 (Kd.S_reads' af.out).2.2 aa bU bV
  obtain rfl:aQ=dK:=(by injection dZ)
  obtain⟨eH,dC,dD,bY⟩:=Kd.S_get af.out [] aa bU (by first|exact bV|exact qD|(have e_:=(Kd.S_reads' af.out).1;omega))
  obtain⟨dS,rfl,bJ⟩:=dD
  have aK:=bY 0 _ rfl
  rw [Nat.add_zero,show ((Kd.slice 3 (Kd.int .i64))).sz=1 from rfl,Nat.mul_one] at aK
  replace aK:=Option.some.inj (aK.symm.trans aU)
  rw [aK] at bJ
  have aV:=aM (show Kd.R (Kd.int .i64) 3 _ _ _ _ (rd_L9 aC aa) from bJ)
  clear aK bJ
  clear bY dC
  have aW:=aM bQ
  have dh:=aM bP
  clear bQ bP
  replace bU:=eq_true bU
  replace bV:=eq_true bV
  refine start_ (n:=10) (S:=fun w'=>w'.cell? (aJ.add ((aa).toNat*5))=some (iV ((rd_T27 l0 aa).f0))/\w'.cell? ⟨(aJ.add ((aa).toNat*5)).block,(aJ.add ((aa).toNat*5)).off+1,none⟩=some (iV ((rd_T27 l0 aa).f1))/\w'.cell? ⟨(aJ.add ((aa).toNat*5)).block,(aJ.add ((aa).toNat*5)).off+2,none⟩=some (iV ((rd_T27 l0 aa).f2))/\w'.cell? ⟨(aJ.add ((aa).toNat*5)).block,(aJ.add ((aa).toNat*5)).off+3,none⟩=some (iV ((rd_T27 l0 aa).f3))/\w'.cell? ⟨(aJ.add ((aa).toNat*5)).block,(aJ.add ((aa).toNat*5)).off+4,none⟩=some (iV ((rd_T27 l0 aa).f4))/\w'.cell? (aQ.add (aa).toNat)=some (.slice bW (rd_L9 aC aa).length bX)) (ds:=[]) (jb 10 0) (by kernel_rfl) rfl rfl ⟨(foot_T27_0 (bR.out _ (by repeat (first|exact HK.out|apply Kept.alloc|apply Kept.drewN|apply Kept.drew))) aa (of_eq_true aH) (of_eq_true aI)),(foot_T27_1 (bR.out _ (by repeat (first|exact HK.out|apply Kept.alloc|apply Kept.drewN|apply Kept.drew))) aa (of_eq_true aH) (of_eq_true aI)),(foot_T27_2 (bR.out _ (by repeat (first|exact HK.out|apply Kept.alloc|apply Kept.drewN|apply Kept.drew))) aa (of_eq_true aH) (of_eq_true aI)),(foot_T27_3 (bR.out _ (by repeat (first|exact HK.out|apply Kept.alloc|apply Kept.drewN|apply Kept.drew))) aa (of_eq_true aH) (of_eq_true aI)),(foot_T27_4 (bR.out _ (by repeat (first|exact HK.out|apply Kept.alloc|apply Kept.drewN|apply Kept.drew))) aa (of_eq_true aH) (of_eq_true aI)),aU⟩ (fun hHeld=>?_);refine with_tabW Sbb.tab7 Sbb.bits7 (fun HT_ HW_=>?_)
  generalize fu.drew=fF at af au bi ax HK HB aV aW bE bF bG bH bI aU hHeld ⊢
  refine jp 0 25 (jb 10 1) ?_
  refine jp 1 26 (jb 10 3) ?_
  refine jp 2 27 (jb 10 7) ?_
  refine jp 4 29 (jb 10 23) ?_
  refine jp 5 30 (jb 10 55) ?_
  refine jp 6 31 (jb 10 119) ?_
  refine jt 3 28 (jb 10 127) ?_
  refine jt 7 32 (jb 10 255) ?_
  refine one_ (i:=8) (N:=some 33) (jb 10 511) rfl rfl (one_of HT_.out (by kernel_rfl)) (by decide) (fun K hK=>?_)
  refine goes_ func125 (by kernel_rfl) rfl #[.agg #[iV ((rd_T27 l0 aa).f0),iV ((rd_T27 l0 aa).f1),iV ((rd_T27 l0 aa).f2),iV ((rd_T27 l0 aa).f3),iV ((rd_T27 l0 aa).f4)],.slice bW (rd_L9 aC aa).length bX] (by rfl) rfl rfl qM ?_
  with_reducible refine (Sb8.calls k1 ((rd_T27 l0 aa).f0) ((rd_T27 l0 aa).f1) ((rd_T27 l0 aa).f2) ((rd_T27 l0 aa).f3) ((rd_T27 l0 aa).f4) _ _ (rd_L9 aC aa) aj _ ?aZ ?bg A9.out).mono ?_
  (case aZ=>repeat (first|exact (kC aW.out)|(with_reducible refine Kd.C_alloc ?_ _)|(with_reducible refine Kd.C_drewN ?_ _)|(with_reducible refine Kd.C_drew ?_)))
  (case bg=>exact dh.out)
  rintro e fG ⟨dE,rfl,ho0,hb⟩
  have d9:=(hb.cell (World.block_lt_of_cell? _ _ (hHeld.2.2.2.2.2))).trans (hHeld.2.2.2.2.2)
  refine⟨_,rfl,?_⟩
  have dL:=aM (Kd.R_lower (Kd.R_new' (Kd.R_new' (Kd.R_new' (Kd.R_newM (M:=fun k_=>(aA k_\/w.heap.size<=k_)) ho0 (by first|exact HK.out.1|exact (show Kept w _ (fun k_=>aA k_) from qT).1) (fun k_ h_=>.inr h_)) (Kd.R_lt (qR au))) (Kd.R_lt (qR bi))) (Kd.R_lt (qR aV))) (below_size qB))
  replace af:=aM (Kd.S_elder' (qS af) (Kd.R_base ho0) hb)
  replace au:=kO au ho0 hb
  replace bi:=kO bi ho0 hb
  replace aV:=kO aV ho0 hb
  replace ax:=kQ ax hb
  replace aW:=kQ aW hb
  replace HK:=kT hb
  replace HB:=kH hb
  (try clear hb)
  (try clear hb2)
  (try clear hk)
  (try clear hi)
  (try clear ho0)
  refine hK.out _ _ ⟨(foot_T27_0 (bR.out _ (by repeat (first|exact HK.out|apply Kept.alloc|apply Kept.drewN|apply Kept.drew))) aa (of_eq_true aH) (of_eq_true aI)),(foot_T27_1 (bR.out _ (by repeat (first|exact HK.out|apply Kept.alloc|apply Kept.drewN|apply Kept.drew))) aa (of_eq_true aH) (of_eq_true aI)),(foot_T27_2 (bR.out _ (by repeat (first|exact HK.out|apply Kept.alloc|apply Kept.drewN|apply Kept.drew))) aa (of_eq_true aH) (of_eq_true aI)),(foot_T27_3 (bR.out _ (by repeat (first|exact HK.out|apply Kept.alloc|apply Kept.drewN|apply Kept.drew))) aa (of_eq_true aH) (of_eq_true aI)),(foot_T27_4 (bR.out _ (by repeat (first|exact HK.out|apply Kept.alloc|apply Kept.drewN|apply Kept.drew))) aa (of_eq_true aH) (of_eq_true aI)),d9⟩ (fun hHeld=>?_)
  clear hK K
  refine norm_ (a':=?_) ?_ ?_
  rotate_left
  ·show Act.put _ (some 33) _=_
   simp only [Act.put,List.setIfInBounds_toArray,List.set_cons_zero,List.set_cons_succ,i64_w,i32_w]
   rfl
  refine jp 9 8 (jb 10 1023) ?_
  refine done_ (done_of HT_.out (by kernel_rfl)) ?_
  try go_wp2
  go_loopg [5,9] k1 (fun kq v5 v9 w'=>∃ (bz:List (List Int)) (di:Bool) (aN:Int),v5 = .bool di/\v9 = iV aN/\Aside0 (Sbb.l1 kq l0 bz di aa ag aj aN=some (r1,r2))/\Aside0 (kq<=k1)/\Aside0 (Kd.S (Kd.slice 3 (Kd.int .i64)) 43 w' w0.heap.size (fun k_=>(aA k_\/w.heap.size<=k_)/\some k_≠(dB:Value).ownBlock/\some k_≠(dE:Value).ownBlock) (.slice (some aQ) aC.length bT) bz)/\Aside0 (Kd.R (Kd.int .i64) 3 w' w0.heap.size (fun k_=>(aA k_\/w.heap.size<=k_)/\some k_≠(dE:Value).ownBlock) dB ag)/\Aside0 (Kd.R (Kd.int .i64) 3 w' w0.heap.size (fun k_=>(aA k_\/w.heap.size<=k_)/\some k_≠(dB:Value).ownBlock) dE aj)/\Aside0 (Kept w w' (fun k_=>aA k_))/\Aside0 (Below w0.heap.size w0 w'))
  case atStart=>exact⟨(aC),(bS),(0),qZ,qZ,H',⟨Nat.le_refl _⟩,⟨by (with_reducible repeat (first|apply Kd.S_alloc|apply Kd.S_drewN|apply Kd.S_drew));exact Kd.S_mono af.out (fun _ hk=>⟨hk.1.1,⟨hk.1.2,hk.2⟩⟩)⟩,⟨by (with_reducible repeat (first|apply Kd.R_alloc|apply Kd.R_drewN|apply Kd.R_drew));exact Kd.R_mono bi.out (fun _ hk=>⟨hk.1.1.1,hk.2⟩)⟩,⟨by (with_reducible repeat (first|apply Kd.R_alloc|apply Kd.R_drewN|apply Kd.R_drew));exact Kd.R_mono dL.out (fun _ hk=>⟨hk.1.1.1.1,hk.1.2⟩)⟩,⟨qT⟩,⟨qB⟩⟩
  clear H'
  try clear dG;try clear dU;try clear dV;try clear c6;try clear dH;try clear dI;try clear dW;try clear aT;try clear bE;try clear bF;try clear bG;try clear bH;try clear bI;try clear aU;try clear bu;try clear aH;try clear bU;try clear bv;try clear aI;try clear bV
  obtain⟨bz,di,aN,rfl,rfl,HA,dF,af,av,ai,HK,HB⟩:=hrel
  have ay:=(Kd.S_reads' af.out).1
  rw [ay] at af
  (try simp only [ay])
  (try simp only [ay] at av)
  (try simp only [ay] at ai)
  rcases gk with _|k2
  ·exact absurd HA.out (by simp [Sbb.l1])
  have H:=HA.out
  clear HA
  simp only [Sbb.l1] at H
  replace H:=jD H;rcases H with ⟨dM,H⟩ | ⟨dM,H⟩
  ·replace H:=jI H;obtain⟨eO,H⟩:=H
   obtain⟨⟨eP,dw⟩,eQ,H⟩:=qE H
   try dsimp only at H
   replace H:=jB H;rcases H with ⟨rfl,H⟩ | ⟨rfl,H⟩
   ·have H':=aM H
    clear H
    obtain⟨fw,bK,ek⟩:=Kd.R_slice av.out
    subst ek
    have bn:0<=(aN:Int):=qD
    have bq:aN < (ag.length:Int):=qD
    obtain⟨ae,bZ,cz⟩:=Kd.at_int (Kd.R_reads' av.out).2.2 aN bn bq
    cases bZ
    replace bn:=eq_true bn
    replace bq:=eq_true bq
    obtain⟨bA,bB,eu⟩:=Kd.R_slice ai.out
    subst eu
    go_wp2_with (first|((with_reducible refine jc 126 46 rfl rfl ?_);refine jG func126 #[.slice (some aQ) bz.length bT,iV (rd ag aN),.slice bA aj.length bB] ?_;refine (Sb9.calls k2 ?eT (.slice (some aQ) bz.length bT) bz (rd ag aN) _ _ aj true dw w0 _ ?aZ ?bg ?cB ?cK eQ.out).mono ?_;(case bg=>exact Kd.S_bound af.out);(case aZ=>exact qB);(case cB=>exact Kd.C_kept_own (Kd.R_tight rfl ai.out) (fun k_ hk_ hs_=>by first|exact hs_.1.2 hk_|exact hs_.1.2.1 hk_|exact hs_.1.2.2 hk_|exact hs_.1.1.2 hk_|exact hs_.1.1.1.2 hk_|exact tyap ai.out (by decide) hk_ hs_.2.2.2));(case cK=>exact (Kd.R_reads' ai.out).2.1);rintro e eB ⟨rfl,hy0,hb,hkp⟩;refine⟨_,rfl,?_⟩;replace af:=aM ((by first|exact Kd.S_mono (ok':=fun k_=>(((aA k_\/w.heap.size<=k_))/\(some k_≠(.slice (some ae) ag.length bK:Value).ownBlock/\some k_≠(.slice bA aj.length bB:Value).ownBlock))) hy0 (fun k_ h_=>Or.elim h_ (fun h_=>h_.1) (fun h_=>.inr (by first|exact Nat.le_trans HK.out.1 h_|exact Nat.le_trans (below_size HB.out) h_)))|exact Kd.S_mono (ok':=fun k_=>(((aA k_\/w.heap.size<=k_))/\(some k_≠(.slice (some ae) ag.length bK:Value).ownBlock/\some k_≠(.slice bA aj.length bB:Value).ownBlock))) hy0 (fun _ _=>trivial)|exact Kd.S_mono (ok':=fun k_=>(((aA k_\/w.heap.size<=k_))/\(some k_≠(.slice (some ae) ag.length bK:Value).ownBlock/\some k_≠(.slice bA aj.length bB:Value).ownBlock))) hy0 (fun k_ h_=>Or.elim h_ (fun h_=>h_.1) (fun h_=>⟨.inr (Nat.le_trans HK.out.1 h_),fun e_=>by have:=Kd.R_lt av.out k_ e_.symm;omega⟩))|exact Kd.S_mono (ok':=fun k_=>(((aA k_\/w.heap.size<=k_))/\(some k_≠(.slice (some ae) ag.length bK:Value).ownBlock/\some k_≠(.slice bA aj.length bB:Value).ownBlock))) hy0 (fun k_ h_=>Or.elim h_ (fun h_=>h_.1) (fun h_=>⟨.inr (Nat.le_trans HK.out.1 h_),fun e_=>by have:=Kd.R_lt ai.out k_ e_.symm;omega⟩))|exact Kd.S_mono (ok':=fun k_=>(((aA k_\/w.heap.size<=k_))/\(some k_≠(.slice (some ae) ag.length bK:Value).ownBlock/\some k_≠(.slice bA aj.length bB:Value).ownBlock))) hy0 (fun k_ h_=>Or.elim h_ (fun h_=>h_.1) (fun h_=>⟨⟨.inr (Nat.le_trans HK.out.1 h_),fun e_=>by have:=Kd.R_lt av.out k_ e_.symm;omega⟩,fun e_=>by have:=Kd.R_lt ai.out k_ e_.symm;omega⟩))|exact Kd.S_mono (ok':=fun k_=>(((aA k_\/w.heap.size<=k_))/\(some k_≠(.slice (some ae) ag.length bK:Value).ownBlock/\some k_≠(.slice bA aj.length bB:Value).ownBlock))) hy0 (fun k_ h_=>Or.elim h_ (fun h_=>h_.1) (fun h_=>⟨⟨.inr (Nat.le_trans HK.out.1 h_),fun e_=>by have:=Kd.R_lt ai.out k_ e_.symm;omega⟩,fun e_=>by have:=Kd.R_lt av.out k_ e_.symm;omega⟩))|exact Kd.S_mono (ok':=fun k_=>(((aA k_\/w.heap.size<=k_))/\(some k_≠(.slice (some ae) ag.length bK:Value).ownBlock/\some k_≠(.slice bA aj.length bB:Value).ownBlock))) hy0 (fun k_ h_=>Or.elim h_ (fun h_=>h_.1) (fun h_=>⟨.inr (Nat.le_trans HK.out.1 h_),⟨fun e_=>by have:=Kd.R_lt av.out k_ e_.symm;omega,fun e_=>by have:=Kd.R_lt ai.out k_ e_.symm;omega⟩⟩))|exact Kd.S_mono (ok':=fun k_=>(((aA k_\/w.heap.size<=k_))/\(some k_≠(.slice (some ae) ag.length bK:Value).ownBlock/\some k_≠(.slice bA aj.length bB:Value).ownBlock))) hy0 (fun k_ h_=>Or.elim h_ (fun h_=>h_.1) (fun h_=>⟨.inr (Nat.le_trans HK.out.1 h_),⟨fun e_=>by have:=Kd.R_lt ai.out k_ e_.symm;omega,fun e_=>by have:=Kd.R_lt av.out k_ e_.symm;omega⟩⟩))));replace av:=aM (Kd.R_mono (ok':=fun k_=>(aA k_\/w.heap.size<=k_)/\some k_≠(.slice bA aj.length bB:Value).ownBlock) (Kd.R_keptB (Kd.R_tight rfl av.out) hkp (fun k_ hk_ hs_=>by first|exact hs_.1.2 hk_|exact hs_.1.2.1 hk_|exact hs_.1.2.2 hk_|exact hs_.1.1.2 hk_|exact hs_.1.1.1.2 hk_|exact tyap av.out (by decide) hk_ hs_.2.2.2)) (fun k_ hk_=>av.out.1 k_ hk_.1.symm));replace ai:=aM (Kd.R_mono (ok':=fun k_=>(aA k_\/w.heap.size<=k_)/\some k_≠(.slice (some ae) ag.length bK:Value).ownBlock) (Kd.R_keptB (Kd.R_tight rfl ai.out) hkp (fun k_ hk_ hs_=>by first|exact hs_.1.2 hk_|exact hs_.1.2.1 hk_|exact hs_.1.2.2 hk_|exact hs_.1.1.2 hk_|exact hs_.1.1.1.2 hk_|exact tyap ai.out (by decide) hk_ hs_.2.2.2)) (fun k_ hk_=>ai.out.1 k_ hk_.1.symm));replace HK:=aM (Kept.then_ (S:=(fun k_=>aA k_)) qT hkp (fun k_ hs_=>by first|exact hs_.1.1|exact hs_.1.1.1|exact hs_.1));replace HB:=aM hb;(try clear hb);(try clear hkp);(try clear hy0)))
    (try simp only [<- ay])
    go_roundg k2
    case measure=>have:=dn.out;have:=dF.out;omega
    exact⟨_,_,_,qZ,qZ,H',⟨by have:=dn.out;have:=dF.out;omega⟩,⟨by (try simp only [ay]);(with_reducible repeat (first|apply Kd.S_alloc|apply Kd.S_drewN|apply Kd.S_drew));exact af.out⟩,⟨by (try simp only [ay]);(with_reducible repeat (first|apply Kd.R_alloc|apply Kd.R_drewN|apply Kd.R_drew));exact av.out⟩,⟨by (try simp only [ay]);(with_reducible repeat (first|apply Kd.R_alloc|apply Kd.R_drewN|apply Kd.R_drew));exact ai.out⟩,⟨qT⟩,⟨qB⟩⟩
   have H':=aM H
   clear H
   obtain⟨fA,bL,eD⟩:=Kd.R_slice av.out
   subst eD
   have bn:0<=(aN:Int):=qD
   have bq:aN < (ag.length:Int):=qD
   obtain⟨ae,bZ,cz⟩:=Kd.at_int (Kd.R_reads' av.out).2.2 aN bn bq
   cases bZ
   replace bn:=eq_true bn
   replace bq:=eq_true bq
   obtain⟨bC,bD,eF⟩:=Kd.R_slice ai.out
   subst eF
   go_wp2_with (first|((with_reducible refine jc 126 46 rfl rfl ?_);refine jG func126 #[.slice (some aQ) bz.length bT,iV (rd ag aN),.slice bC aj.length bD] ?_;refine (Sb9.calls k2 ?eU (.slice (some aQ) bz.length bT) bz (rd ag aN) _ _ aj false dw w0 _ ?aZ ?bg ?cB ?cK eQ.out).mono ?_;(case bg=>exact Kd.S_bound af.out);(case aZ=>exact qB);(case cB=>exact Kd.C_kept_own (Kd.R_tight rfl ai.out) (fun k_ hk_ hs_=>by first|exact hs_.1.2 hk_|exact hs_.1.2.1 hk_|exact hs_.1.2.2 hk_|exact hs_.1.1.2 hk_|exact hs_.1.1.1.2 hk_|exact tyap ai.out (by decide) hk_ hs_.2.2.2));(case cK=>exact (Kd.R_reads' ai.out).2.1);rintro e eB ⟨rfl,hy0,hb,hkp⟩;refine⟨_,rfl,?_⟩;replace af:=aM ((by first|exact Kd.S_mono (ok':=fun k_=>(((aA k_\/w.heap.size<=k_))/\(some k_≠(.slice (some ae) ag.length bL:Value).ownBlock/\some k_≠(.slice bC aj.length bD:Value).ownBlock))) hy0 (fun k_ h_=>Or.elim h_ (fun h_=>h_.1) (fun h_=>.inr (by first|exact Nat.le_trans HK.out.1 h_|exact Nat.le_trans (below_size HB.out) h_)))|exact Kd.S_mono (ok':=fun k_=>(((aA k_\/w.heap.size<=k_))/\(some k_≠(.slice (some ae) ag.length bL:Value).ownBlock/\some k_≠(.slice bC aj.length bD:Value).ownBlock))) hy0 (fun _ _=>trivial)|exact Kd.S_mono (ok':=fun k_=>(((aA k_\/w.heap.size<=k_))/\(some k_≠(.slice (some ae) ag.length bL:Value).ownBlock/\some k_≠(.slice bC aj.length bD:Value).ownBlock))) hy0 (fun k_ h_=>Or.elim h_ (fun h_=>h_.1) (fun h_=>⟨.inr (Nat.le_trans HK.out.1 h_),fun e_=>by have:=Kd.R_lt av.out k_ e_.symm;omega⟩))|exact Kd.S_mono (ok':=fun k_=>(((aA k_\/w.heap.size<=k_))/\(some k_≠(.slice (some ae) ag.length bL:Value).ownBlock/\some k_≠(.slice bC aj.length bD:Value).ownBlock))) hy0 (fun k_ h_=>Or.elim h_ (fun h_=>h_.1) (fun h_=>⟨.inr (Nat.le_trans HK.out.1 h_),fun e_=>by have:=Kd.R_lt ai.out k_ e_.symm;omega⟩))|exact Kd.S_mono (ok':=fun k_=>(((aA k_\/w.heap.size<=k_))/\(some k_≠(.slice (some ae) ag.length bL:Value).ownBlock/\some k_≠(.slice bC aj.length bD:Value).ownBlock))) hy0 (fun k_ h_=>Or.elim h_ (fun h_=>h_.1) (fun h_=>⟨⟨.inr (Nat.le_trans HK.out.1 h_),fun e_=>by have:=Kd.R_lt av.out k_ e_.symm;omega⟩,fun e_=>by have:=Kd.R_lt ai.out k_ e_.symm;omega⟩))|exact Kd.S_mono (ok':=fun k_=>(((aA k_\/w.heap.size<=k_))/\(some k_≠(.slice (some ae) ag.length bL:Value).ownBlock/\some k_≠(.slice bC aj.length bD:Value).ownBlock))) hy0 (fun k_ h_=>Or.elim h_ (fun h_=>h_.1) (fun h_=>⟨⟨.inr (Nat.le_trans HK.out.1 h_),fun e_=>by have:=Kd.R_lt ai.out k_ e_.symm;omega⟩,fun e_=>by have:=Kd.R_lt av.out k_ e_.symm;omega⟩))|exact Kd.S_mono (ok':=fun k_=>(((aA k_\/w.heap.size<=k_))/\(some k_≠(.slice (some ae) ag.length bL:Value).ownBlock/\some k_≠(.slice bC aj.length bD:Value).ownBlock))) hy0 (fun k_ h_=>Or.elim h_ (fun h_=>h_.1) (fun h_=>⟨.inr (Nat.le_trans HK.out.1 h_),⟨fun e_=>by have:=Kd.R_lt av.out k_ e_.symm;omega,fun e_=>by have:=Kd.R_lt ai.out k_ e_.symm;omega⟩⟩))|exact Kd.S_mono (ok':=fun k_=>(((aA k_\/w.heap.size<=k_))/\(some k_≠(.slice (some ae) ag.length bL:Value).ownBlock/\some k_≠(.slice bC aj.length bD:Value).ownBlock))) hy0 (fun k_ h_=>Or.elim h_ (fun h_=>h_.1) (fun h_=>⟨.inr (Nat.le_trans HK.out.1 h_),⟨fun e_=>by have:=Kd.R_lt ai.out k_ e_.symm;omega,fun e_=>by have:=Kd.R_lt av.out k_ e_.symm;omega⟩⟩))));replace av:=aM (Kd.R_mono (ok':=fun k_=>(aA k_\/w.heap.size<=k_)/\some k_≠(.slice bC aj.length bD:Value).ownBlock) (Kd.R_keptB (Kd.R_tight rfl av.out) hkp (fun k_ hk_ hs_=>by first|exact hs_.1.2 hk_|exact hs_.1.2.1 hk_|exact hs_.1.2.2 hk_|exact hs_.1.1.2 hk_|exact hs_.1.1.1.2 hk_|exact tyap av.out (by decide) hk_ hs_.2.2.2)) (fun k_ hk_=>av.out.1 k_ hk_.1.symm));replace ai:=aM (Kd.R_mono (ok':=fun k_=>(aA k_\/w.heap.size<=k_)/\some k_≠(.slice (some ae) ag.length bL:Value).ownBlock) (Kd.R_keptB (Kd.R_tight rfl ai.out) hkp (fun k_ hk_ hs_=>by first|exact hs_.1.2 hk_|exact hs_.1.2.1 hk_|exact hs_.1.2.2 hk_|exact hs_.1.1.2 hk_|exact hs_.1.1.1.2 hk_|exact tyap ai.out (by decide) hk_ hs_.2.2.2)) (fun k_ hk_=>ai.out.1 k_ hk_.1.symm));replace HK:=aM (Kept.then_ (S:=(fun k_=>aA k_)) qT hkp (fun k_ hs_=>by first|exact hs_.1.1|exact hs_.1.1.1|exact hs_.1));replace HB:=aM hb;(try clear hb);(try clear hkp);(try clear hy0)))
   (try simp only [<- ay])
   go_roundg k2
   case measure=>have:=dn.out;have:=dF.out;omega
   exact⟨_,_,_,qZ,qZ,H',⟨by have:=dn.out;have:=dF.out;omega⟩,⟨by (try simp only [ay]);(with_reducible repeat (first|apply Kd.S_alloc|apply Kd.S_drewN|apply Kd.S_drew));exact af.out⟩,⟨by (try simp only [ay]);(with_reducible repeat (first|apply Kd.R_alloc|apply Kd.R_drewN|apply Kd.R_drew));exact av.out⟩,⟨by (try simp only [ay]);(with_reducible repeat (first|apply Kd.R_alloc|apply Kd.R_drewN|apply Kd.R_drew));exact ai.out⟩,⟨qT⟩,⟨qB⟩⟩
  have H':=aM H
  clear H
  obtain⟨fB,fC,eG⟩:=Kd.R_slice av.out
  subst eG
  go_wp2
  (try simp only [<- ay])
  go_roundg k2
  case measure=>have:=dn.out;have:=dF.out;omega
  exact⟨(bz),(di),(wrap64 (aa+1)),qZ,qZ,H',⟨by have:=dn.out;have:=dF.out;omega⟩,⟨by (try simp only [ay]);(with_reducible repeat (first|apply Kd.S_alloc|apply Kd.S_drewN|apply Kd.S_drew));exact Kd.S_mono af.out (fun _ hk=>hk.1)⟩,⟨qT⟩,⟨qB⟩⟩
 obtain⟨rfl,rfl⟩:=oJ2 H
 go_wp2
 go_ret
 exact⟨qW,qS af,qB,qT⟩
mutual
def Sah.l0:Nat->List (S27)->List (List Int)->Int->Option ((List (List Int)))
 | 0,_,_,_=>none
 | k+1,x0,x3,x4=>if x4 < (x0.length:Int) then (if x3.length < 5864062014805 then (Sah.l0 k x0 (x3 ++ [(([]:List Int))]) (wrap64 (x4+1))) else (none)) else ((Sbc.f k).bind fun aA=>(if 0 < (x3.length:Int) then (Sah.l1 k x0 (x3.set (0:Int).toNat aA)) else (none)))
def Sah.l1:Nat->List (S27)->List (List Int)->Option ((List (List Int)))
 | 0,_,_=>none
 | k+1,x0,x3=>(Sbb.f k x0 x3).bind fun bu=>(if bu.1=true then (Sah.l1 k x0 bu.2) else (Sah.l2 k x0 bu.2 0))
def Sah.l2:Nat->List (S27)->List (List Int)->Int->Option ((List (List Int)))
 | 0,_,_,_=>none
 | k+1,x0,x3,x5=>if x5 < (x0.length:Int) then (if 0<=x5 then (if x5 < (x3.length:Int) then (if ((rd_L9 x3 x5).length:Int)=0 then ((Sbc.f k).bind fun aC=>(Sah.l2 k x0 (x3.set (x5:Int).toNat aC) (wrap64 (x5+1)))) else (Sah.l2 k x0 x3 (wrap64 (x5+1)))) else (none)) else (none)) else (some x3)
end
def Sah.f (k:Nat) (l0:List (S27)):Option ((List (List Int))):=(some (([]:List (List Int)):List (List Int))).bind fun bE=>((Saf.f k l0).bind fun bS=>(if bS=true then (Sah.l0 k l0 bE 0) else (some bE)))
theorem Sah.calls (k:Nat) (A0:Option Addr) (c0:Nat) (l0:List (S27)) (r:List (List Int)) (w:World) (hr0:Kd.C k27 w A0 l0.length l0) (hc0:l0.length<=c0) (h:Sah.f k l0=some r) :
  Calls prog 99 #[.slice A0 l0.length c0] w fun e w'=>∃ fG:Value,e = .returned (fG)/\Kd.S (Kd.slice 3 (Kd.int .i64)) 43 w' w.heap.size (fun _=>True) fG r/\Below w.heap.size w w':=by
 have eH:=aM hr0
 have eO:=aM hc0
 clear hr0 hc0
 have HB:=aM (Below.refl w.heap.size w)
 have H:=h;unfold Sah.f at H
 clear h
 obtain⟨bE,aI⟩:=ky ((([]:List (List Int))):List (List Int))
 first|replace H:=kz aI H|rw [<- aI.out] at H
 obtain⟨bS,A2,H⟩:=qE H
 try dsimp only at H
 replace H:=jB H;rcases H with ⟨rfl,H⟩ | ⟨rfl,H⟩
 ·have H':=aM H
  clear H
  go_enter func99,ntmps99
  go_wp2_with (first|((with_reducible refine jd 6 rfl ?_);refine Kd.S_lit (Kd.slice 3 (Kd.int .i64)) _ 43 ?hg (N:=6) ?hd (xs:=([]:List (List Int))) (inner:=[]) (ok:=fun _=>True) (okp:=fun _=>True) ?hr ?hp (fun _ hk=>hk) trivial (Below.refl _ _) (Nat.le_refl _) (by simp) ?_;(case hd=>rfl);(case hg=>rfl);(case hr=>first|(go_simp;done)|(go_simp;rfl));(case hp=>exact (Reps.none _ _));intro dH w4 dI hb hg_ hnew_;clear hg_ hnew_;(first|rw [<- aI.out] at dI|(simp only [Int.reduceToNat] at dI;rw [<- aI.out] at dI));have ay:=aM (Kd.S_lower dI (below_size qB));replace HB:=kH hb;clear hb dI)|((with_reducible refine jc 36 8 rfl rfl ?_);refine jG func36 #[.slice A0 l0.length c0] ?_;refine (Saf.calls k _ _ l0 true _ ?aK ?aN A2.out).mono ?_;(case aK=>exact kC (Kd.C_below eH.out HB.out));(case aN=>exact eO.out);rintro e w6 ⟨rfl,hb⟩;refine⟨_,rfl,?_⟩;replace ay:=kS ay hb;replace HB:=kH hb;clear hb))
  go_loopg [3,4] k (fun kq v3 v4 w'=>∃ (az:List (List Int)) (dh:Int),v4 = iV dh/\Aside0 (Sah.l0 kq l0 az dh=some r)/\Aside0 (kq<=k)/\Aside0 (Kd.S (Kd.slice 3 (Kd.int .i64)) 43 w' w.heap.size (fun _=>True) v3 az)/\Aside0 (Below w.heap.size w w'))
  case atStart=>exact⟨(bE),(0),qZ,H',⟨Nat.le_refl _⟩,⟨qS ay⟩,⟨qB⟩⟩
  clear H'
  obtain⟨az,dh,rfl,HA,bT,aa,HB⟩:=hrel
  rcases gk with _|k1
  ·exact absurd HA.out (by simp [Sah.l0])
  have H:=HA.out
  clear HA
  simp only [Sah.l0] at H
  replace H:=jD H;rcases H with ⟨di,H⟩ | ⟨di,H⟩
  ·obtain⟨bF,aY⟩:=ky ((([]:List Int)):List Int)
   first|replace H:=kz aY H|rw [<- aY.out] at H
   replace H:=jL H;obtain⟨eQ,H⟩:=H
   obtain⟨fH,bv⟩:=ky ((az ++ [bF]):List (List Int))
   first|replace H:=kz bv H|rw [<- bv.out] at H
   have H':=aM H
   clear H
   go_wp2_with (first|((with_reducible refine jd 18 rfl ?_);refine jV (Kd.int .i64) 3 ([]:List Int) [] (Reps.none _ _) ?_;intro fI gu bG hb;(first|rw [<- aY.out] at bG|(simp only [Int.reduceToNat] at bG;rw [<- aY.out] at bG));have aZ:=kL bG;replace aa:=aM (Kd.S_elder' (qS aa) (Kd.R_base bG) hb);replace HB:=kH hb;clear hb bG;obtain⟨dJ,dK,eT⟩:=Kd.R_slice aZ.out;subst eT)|((with_reducible refine gate_builtin (b:=.append) (xs:=#[.tmp 17,.tmp 19]) rfl ?_);at_builtin;refine Kd.S_append (Kd.slice 3 (Kd.int .i64)) (w0:=w) w.heap.size rfl (.tmp 17) (.tmp 19) 105 43 (.slice none 0 0) 24 rfl underlying105 info43 rfl (by decide) (by omega) u3 az bF [.slice dJ bF.length dK] (fun _=>True) (fun k_=>some k_=(.slice dJ bF.length dK:Value).ownBlock) rfl rfl ?aP (fun k_ hk_=>((Kd.R_mono (ok':=fun k_=>((fun _=>True)) k_/\some k_≠(u3:Value).ownBlock) (Kd.R_apart' (aZ.out) (Kd.S_typed aa.out) (by decide)) (fun k_ hk=>⟨trivial,hk.2⟩))).1 k_ hk_.symm) ?aF ?aO ?aB ?aS ?aL ?_;(case aP=>exact Kd.M_row (Kd.R_mono (Kd.R_tight rfl (Kd.R_mono (ok':=fun k_=>((fun _=>True)) k_/\some k_≠(u3:Value).ownBlock) (Kd.R_apart' (aZ.out) (Kd.S_typed aa.out) (by decide)) (fun k_ hk=>⟨trivial,hk.2⟩))) (fun _ h_=>h_)));(case aB=>exact qB);(case aF=>exact (fun _ _=>trivial));(case aO=>exact (by (with_reducible repeat (first|apply Kd.S_alloc|apply Kd.S_drewN|apply Kd.S_drew));exact Kd.S_mono aa.out (by first|exact fun k_ hk=>⟨trivial,fun e_=>hk.2 e_⟩|exact fun k_ hk=>hk)));(case aS=>exact (below_size qB));(case aL=>have:=eQ.out;omega);intro fJ gz ho hb hg hat;rw [<- bv.out] at ho;have dn:=aM ho;replace HB:=aM hb;clear aa aZ;clear ho hb hg hat))
   go_roundg k1
   case measure=>have:=bT.out;omega
   exact⟨_,_,qZ,H',⟨by have:=bT.out;omega⟩,⟨qS dn⟩,⟨qB⟩⟩
  obtain⟨aA,gB,H⟩:=qE H
  try dsimp only at H
  replace H:=jU H;obtain⟨c14,H⟩:=H
  have bU:=decide_eq_true c14
  have bV:decide (0 < az.length)=true:=decide_eq_true (by omega)
  clear c14
  obtain⟨bW,bz⟩:=ky ((az.set (0:Int).toNat aA):List (List Int))
  first|replace H:=kz bz H|rw [<- bz.out] at H
  have H':=aM H
  clear H
  go_wp2_with (first|((with_reducible refine jc 115 22 rfl rfl ?_);refine jG func115 #[] ?_;refine (Sbc.calls k1  aA _ gB.out).mono ?_;rintro e w16 ⟨fK,rfl,ho0,hb⟩;refine⟨_,rfl,?_⟩;have bg:=kL ho0;replace aa:=aM (Kd.S_elder' (qS aa) (Kd.R_base ho0) hb);replace HB:=kH hb;clear hb;(try clear hk);(try clear ho0);obtain⟨Aoz,coz,eoz⟩:=Kd.R_slice bg.out;subst eoz;have dL:0<=(0:Int):=(by omega);have dM:(0:Int) < ((az.length:Int):Int):=qD;have dN:(0 < az.length)=True:=eq_true (by omega);obtain⟨ai,aJ,dO,dP,eU,gD,dQ⟩:=Kd.S_form aa.out (by omega);(first|cases dO|(injection dO with ea_ en_ ec_;(first|subst ea_|(injection ea_ with ea_;subst ea_));subst ec_;clear en_));have dR:=aM dP;have gF:=aM dQ;clear dP eU dQ;obtain⟨_,gG,dS,dU,bX,bY,_,_⟩:=Kd.S_elem aa.out [] (0:Int) dL dM;obtain⟨eX,rfl,eY⟩:=dU;have aQ:=bX 0 _ rfl;have bA:=bY 0;(try simp only [show ((Kd.slice 3 (Kd.int .i64))).sz=1 from rfl,Nat.mul_one,Nat.add_zero] at aQ);(try simp only [show ((Kd.slice 3 (Kd.int .i64))).sz=1 from rfl,Nat.mul_one,Nat.add_zero] at bA);clear dS bX bY;(try clear dU);(try rw [show ((0:Int)).toNat=0 from rfl] at aQ);(try simp only [Nat.reduceMul,Nat.zero_mul,Nat.zero_add,Nat.reduceAdd] at aQ);(try rw [show ((0:Int)).toNat=0 from rfl] at bA);(try simp only [Nat.reduceMul,Nat.zero_mul,Nat.zero_add,Nat.reduceAdd] at bA);replace dL:=eq_true dL;replace dM:=eq_true dM;have n_:=aM (Kd.S_mono (ok':=(fun k_=>some k_≠((.slice Aoz aA.length coz):Value).ownBlock)) aa.out (fun k_ hk=>hk.2));clear aa;have aa:=n_;clear n_;have eZ:=aM (show Kd.S (Kd.slice 3 (Kd.int .i64)) 43 w16 w.heap.size (fun k_=>((fun _=>True)) k_/\¬ ((fun k_=>some k_=((.slice Aoz aA.length coz):Value).ownBlock)) k_) (.slice (some ⟨ai,0,none⟩) az.length aJ) az from (by (with_reducible repeat (first|apply Kd.S_alloc|apply Kd.S_drewN|apply Kd.S_drew));exact Kd.S_mono aa.out (by first|exact fun k_ hk=>⟨trivial,fun e_=>hk e_⟩|exact fun k_ hk=>hk)));obtain⟨fM,gH,dV,dW,bZ,cz,dw,dX⟩:=Kd.S_elem eZ.out [] (0:Int) (by omega) (by have h_:(0:Int) < ((az.length:Int):Int):=qD;first|exact h_|(have e_:=(Kd.S_reads' aa.out).1;omega)|simpa using h_);obtain⟨fe,rfl,fo⟩:=dW;have bO:=Kd.S_seg dX (by omega) (by have h_:(0:Int) < ((az.length:Int):Int):=qD;first|exact h_|(have e_:=(Kd.S_reads' aa.out).1;omega)|simpa using h_) (seg:=[(.slice Aoz aA.length coz)]) (j:=0) (show 1<=1 from by decide) (x':=aA) (Kd.M_row (Kd.R_mono (Kd.R_tight rfl (Kd.R_mono (ok':=fun k_=>((fun _=>True)) k_/\k_≠ai) (Kd.R_apart' (bg.out) (Kd.S_typed aa.out) (by decide)) (fun k_ hk=>⟨trivial,fun e_=>(hk.2) (by rw [e_];rfl)⟩))) (fun _ h_=>Or.inr (h_)))) (fun _ hk=>hk) (fun k_ hk_=>((Kd.R_mono (ok':=fun k_=>((fun _=>True)) k_/\k_≠ai) (Kd.R_apart' (bg.out) (Kd.S_typed aa.out) (by decide)) (fun k_ hk=>⟨trivial,fun e_=>(hk.2) (by rw [e_];rfl)⟩))).1 k_ hk_.symm);have aT:=bZ 0 _ rfl;(try simp only [show ((Kd.slice 3 (Kd.int .i64))).sz=1 from rfl,Nat.mul_one,Nat.add_zero] at aT);(try rw [show ((0:Int)).toNat=0 from rfl] at aT);(try simp only [Nat.reduceMul,Nat.zero_mul,Nat.zero_add,Nat.reduceAdd] at aT);have bB:=cz 0;(try simp only [show ((Kd.slice 3 (Kd.int .i64))).sz=1 from rfl,Nat.mul_one,Nat.add_zero] at bB);(try rw [show ((0:Int)).toNat=0 from rfl] at bB);(try simp only [Nat.reduceMul,Nat.zero_mul,Nat.zero_add,Nat.reduceAdd] at bB);clear dV bZ cz dw dX;(try clear dW);(try simp only [show ((Kd.slice 3 (Kd.int .i64))).sz=1 from rfl,Nat.mul_one,Nat.add_zero] at bO))|((with_reducible refine gate_store (t:=43) (p:=23) rfl ?_);refine store_event (t:=43) (p:=23) (v:=?fq) (w1:=(w16.setCell ⟨ai,0,none⟩ ((.slice Aoz aA.length coz)))) ?hg ?ho ?hn ?hr ?_;(case ho=>rfl);(case hg=>rfl);(case hn=>rfl);(case hr=>first|(go_simp;done)|(go_simp;rfl));intro fu hw;have hg:w16.grownBy fu (some ai):=(by rw [hw];exact bO.2);have hp_:Kd.S (Kd.slice 3 (Kd.int .i64)) 43 fu w.heap.size (fun _=>True) (.slice (some ⟨ai,0,none⟩) az.length aJ) bW:=(by rw [hw,bz.out];exact bO.1);clear bO;replace aa:=aM hp_;replace HB:=aM ((by rw [hw];exact below_set (HB.out) dR.out:Below w.heap.size w fu));clear bg;clear hg hw hp_))
  go_loopg [] k1 (fun kq w'=>∃ (aW:List (List Int)),Aside0 (Sah.l1 kq l0 aW=some r)/\Aside0 (kq<=k1)/\Aside0 (Kd.S (Kd.slice 3 (Kd.int .i64)) 43 w' w.heap.size (fun _=>True) (.slice (some ⟨ai,0,none⟩) az.length aJ) aW)/\Aside0 (Below w.heap.size w w'))
  case atStart=>exact⟨(bW),H',⟨Nat.le_refl _⟩,⟨qS aa⟩,⟨qB⟩⟩
  clear H'
  try clear di;try clear c14;try clear bU;try clear bV;try clear dL;try clear dM;try clear dN;try clear aQ;try clear aT
  obtain⟨aW,HA,dG,aa,HB⟩:=hrel
  have aU:=(Kd.S_reads' aa.out).1
  rw [aU] at aa
  (try simp only [aU])
  rcases gk with _|k2
  ·exact absurd HA.out (by simp [Sah.l1])
  have H:=HA.out
  clear HA
  simp only [Sah.l1] at H
  obtain⟨⟨fO,bH⟩,fP,H⟩:=qE H
  try dsimp only at H
  replace H:=jB H;rcases H with ⟨rfl,H⟩ | ⟨rfl,H⟩
  ·have H':=aM H
   clear H
   go_wp2_with (first|((with_reducible refine jc 116 26 rfl rfl ?_);refine jG func116 #[.slice A0 l0.length c0,.slice (some ⟨ai,0,none⟩) aW.length aJ] ?_;refine (Sbb.calls k2 _ _ l0 ?fQ (.slice (some ⟨ai,0,none⟩) aW.length aJ) aW true bH w _ ?aK ?aN ?bI ?bJ fP.out).mono ?_;(case bJ=>exact Kd.S_bound aa.out);(case aK=>exact qB);(case aN=>exact Kd.C_kept_came k27_heap eH.out qB (fun k_ hs_=>(by first|exact Kd.R_base aa.out k_ hs_.symm|exact hs_.2.1)));(case bI=>exact eO.out);rintro e gI ⟨rfl,hy0,hb,hkp⟩;refine⟨_,rfl,?_⟩;replace aa:=aM ((by first|exact Kd.S_mono (ok':=fun k_=>True) hy0 (fun k_ h_=>Or.elim h_ (fun h_=>h_.1) (fun h_=>.inr (by first|exact Nat.le_trans HK.out.1 h_|exact Nat.le_trans (below_size HB.out) h_)))|exact Kd.S_mono (ok':=fun k_=>True) hy0 (fun _ _=>trivial)));replace HB:=aM hb;(try clear hb);(try clear hkp);(try clear hy0)))
   (try simp only [<- aU])
   go_roundg k2
   case measure=>have:=bT.out;have:=dG.out;omega
   exact⟨_,H',⟨by have:=bT.out;have:=dG.out;omega⟩,⟨by (try simp only [aU]);(with_reducible repeat (first|apply Kd.S_alloc|apply Kd.S_drewN|apply Kd.S_drew));exact aa.out⟩,⟨qB⟩⟩
  have H':=aM H
  clear H
  go_wp2_with (first|((with_reducible refine jc 116 26 rfl rfl ?_);refine jG func116 #[.slice A0 l0.length c0,.slice (some ⟨ai,0,none⟩) aW.length aJ] ?_;refine (Sbb.calls k2 _ _ l0 ?fT (.slice (some ⟨ai,0,none⟩) aW.length aJ) aW false bH w _ ?aK ?aN ?bI ?bJ fP.out).mono ?_;(case bJ=>exact Kd.S_bound aa.out);(case aK=>exact qB);(case aN=>exact Kd.C_kept_came k27_heap eH.out qB (fun k_ hs_=>(by first|exact Kd.R_base aa.out k_ hs_.symm|exact hs_.2.1)));(case bI=>exact eO.out);rintro e gP ⟨rfl,hy0,hb,hkp⟩;refine⟨_,rfl,?_⟩;replace aa:=aM ((by first|exact Kd.S_mono (ok':=fun k_=>True) hy0 (fun k_ h_=>Or.elim h_ (fun h_=>h_.1) (fun h_=>.inr (by first|exact Nat.le_trans HK.out.1 h_|exact Nat.le_trans (below_size HB.out) h_)))|exact Kd.S_mono (ok':=fun k_=>True) hy0 (fun _ _=>trivial)));replace HB:=aM hb;(try clear hb);(try clear hkp);(try clear hy0)))
  go_loopg [5] k2 (fun kq v5 w'=>∃ (au:List (List Int)) (ag:Int),v5 = iV ag/\Aside0 (Sah.l2 kq l0 au ag=some r)/\Aside0 (kq<=k2)/\Aside0 (Kd.S (Kd.slice 3 (Kd.int .i64)) 43 w' w.heap.size (fun _=>True) (.slice (some ⟨ai,0,none⟩) aW.length aJ) au)/\Aside0 (Below w.heap.size w w'))
  case atStart=>exact⟨(bH),(0),qZ,H',⟨Nat.le_refl _⟩,⟨by (try simp only [aU]);(with_reducible repeat (first|apply Kd.S_alloc|apply Kd.S_drewN|apply Kd.S_drew));exact aa.out⟩,⟨qB⟩⟩
  clear H'
  try clear di;try clear c14;try clear bU;try clear bV;try clear dL;try clear dM;try clear dN;try clear aQ;try clear aT
  obtain⟨au,ag,rfl,HA,eP,aa,HB⟩:=hrel
  have aX:=(Kd.S_reads' aa.out).1
  rw [aX] at aa
  (try simp only [aX])
  rcases gk with _|k3
  ·exact absurd HA.out (by simp [Sah.l2])
  have H:=HA.out
  clear HA
  simp only [Sah.l2] at H
  replace H:=jD H;rcases H with ⟨dY,H⟩ | ⟨dY,H⟩
  ·replace H:=jI H;obtain⟨fU,H⟩:=H
   replace H:=jI H;obtain⟨fV,H⟩:=H
   replace H:=jE H;rcases H with ⟨dZ,d9,H⟩ | ⟨gJ,dZ,d9,H⟩
   ·obtain⟨aC,gQ,H⟩:=qE H
    try dsimp only at H
    obtain⟨ek,bC⟩:=ky ((au.set (ag:Int).toNat aC):List (List Int))
    first|replace H:=kz bC H|rw [<- bC.out] at H
    have H':=aM H
    clear H
    have aD:0<=(ag:Int):=qD
    have aG:ag < (au.length:Int):=qD
    obtain⟨bD,bP,bQ,bK,af,av,ax⟩:=at_L9 (Kd.S_reads' aa.out).2.2 ag aD aG
    obtain rfl:(⟨ai,0,none⟩:Addr)=bD:=(by injection bK)
    obtain⟨dx,bi,bn,aH⟩:=Kd.S_get aa.out [] ag aD (by first|exact aG|exact qD|(have e_:=(Kd.S_reads' aa.out).1;omega))
    obtain⟨bL,rfl,ah⟩:=bn
    have ae:=aH 0 _ rfl
    rw [Nat.add_zero,show ((Kd.slice 3 (Kd.int .i64))).sz=1 from rfl,Nat.mul_one] at ae
    replace ae:=Option.some.inj (ae.symm.trans af)
    rw [ae] at ah
    have aj:=aM (show Kd.R (Kd.int .i64) 3 _ _ _ _ (rd_L9 au ag) from ah)
    clear ae ah
    clear aH bi
    (first|simp only [add_plain] at af|simp only [add_at] at af|simp only [Addr.add,Nat.zero_add] at af|skip)
    have aV:=aM ax
    have bM:=aM av
    clear ax av
    replace aD:=eq_true aD
    replace aG:=eq_true aG
    go_wp2_with (first|((with_reducible refine jc 115 41 rfl rfl ?_);refine jG func115 #[] ?_;refine (Sbc.calls _ _ _ (Aside0.out (by assumption))).mono ?_;rintro e dz ⟨fZ,rfl,ho0,hb⟩;refine⟨_,rfl,?_⟩;have bq:=aM (Kd.R_lower (Kd.R_new' ho0 (Kd.R_lt (qR aj))) (below_size qB));replace aa:=aM (Kd.S_elder' (qS aa) (Kd.R_base ho0) hb);replace aj:=kO aj ho0 hb;replace aV:=kQ aV hb;replace HB:=kH hb;clear hb;(try clear hk);(try clear ho0);obtain⟨Aoz,coz,eoz⟩:=Kd.R_slice bq.out;subst eoz;have p28:0<=(ag:Int):=qD;have fw:(ag:Int) < ((au.length:Int):Int):=qD;obtain⟨_,gK,eu,eB,cB,cK,_,_⟩:=Kd.S_elem aa.out [] (ag:Int) p28 fw;obtain⟨fA,rfl,fB⟩:=eB;have dA:=cB 0 _ rfl;have dB:=cK 0;(try simp only [show ((Kd.slice 3 (Kd.int .i64))).sz=1 from rfl,Nat.mul_one,Nat.add_zero] at dA);(try simp only [show ((Kd.slice 3 (Kd.int .i64))).sz=1 from rfl,Nat.mul_one,Nat.add_zero] at dB);clear eu cB cK;(try clear eB);replace p28:=eq_true p28;replace fw:=eq_true fw;have n_:=aM (Kd.S_mono (ok':=(fun k_=>some k_≠((.slice Aoz aC.length coz):Value).ownBlock)) aa.out (fun k_ hk=>hk.2));clear aa;have aa:=n_;clear n_;have fC:=aM (show Kd.S (Kd.slice 3 (Kd.int .i64)) 43 dz w.heap.size (fun k_=>((fun _=>True)) k_/\¬ ((fun k_=>some k_=((.slice Aoz aC.length coz):Value).ownBlock)) k_) (.slice (some ⟨ai,0,none⟩) au.length aJ) au from (by (with_reducible repeat (first|apply Kd.S_alloc|apply Kd.S_drewN|apply Kd.S_drew));exact Kd.S_mono aa.out (by first|exact fun k_ hk=>⟨trivial,fun e_=>hk e_⟩|exact fun k_ hk=>hk)));obtain⟨gm,gL,eD,eF,cO,df,dC,eG⟩:=Kd.S_elem fC.out [] (ag:Int) (qD) (by have h_:(ag:Int) < ((au.length:Int):Int):=qD;first|exact h_|(have e_:=(Kd.S_reads' aa.out).1;omega)|simpa using h_);obtain⟨fD,rfl,fE⟩:=eF;have bR:=Kd.S_seg eG (qD) (by have h_:(ag:Int) < ((au.length:Int):Int):=qD;first|exact h_|(have e_:=(Kd.S_reads' aa.out).1;omega)|simpa using h_) (seg:=[(.slice Aoz aC.length coz)]) (j:=0) (show 1<=1 from by decide) (x':=aC) (Kd.M_row (Kd.R_mono (Kd.R_tight rfl (Kd.R_mono (ok':=fun k_=>((fun _=>True)) k_/\k_≠ai) (Kd.R_apart' (bq.out) (Kd.S_typed aa.out) (by decide)) (fun k_ hk=>⟨trivial,fun e_=>(hk.2) (by rw [e_];rfl)⟩))) (fun _ h_=>Or.inr (h_)))) (fun _ hk=>hk) (fun k_ hk_=>((Kd.R_mono (ok':=fun k_=>((fun _=>True)) k_/\k_≠ai) (Kd.R_apart' (bq.out) (Kd.S_typed aa.out) (by decide)) (fun k_ hk=>⟨trivial,fun e_=>(hk.2) (by rw [e_];rfl)⟩))).1 k_ hk_.symm);have dD:=cO 0 _ rfl;(try simp only [show ((Kd.slice 3 (Kd.int .i64))).sz=1 from rfl,Nat.mul_one,Nat.add_zero] at dD);have dE:=df 0;(try simp only [show ((Kd.slice 3 (Kd.int .i64))).sz=1 from rfl,Nat.mul_one,Nat.add_zero] at dE);clear eD cO df dC eG;(try clear eF);(try simp only [show ((Kd.slice 3 (Kd.int .i64))).sz=1 from rfl,Nat.mul_one,Nat.add_zero] at bR))|((with_reducible refine gate_store (t:=43) (p:=42) rfl ?_);refine store_event (t:=43) (p:=42) (v:=?fF) (w1:=(dz.setCell ⟨ai,(ag:Int).toNat,none⟩ ((.slice Aoz aC.length coz)))) ?hg ?ho ?hn ?hr ?_;(case ho=>rfl);(case hg=>rfl);(case hn=>rfl);(case hr=>first|(go_simp;done)|(go_simp;rfl));intro dF hw;have hg:dz.grownBy dF (some ai):=(by rw [hw];exact bR.2);have hp_:Kd.S (Kd.slice 3 (Kd.int .i64)) 43 dF w.heap.size (fun _=>True) (.slice (some ⟨ai,0,none⟩) au.length aJ) ek:=(by rw [hw,bC.out];exact bR.1);clear bR;replace aa:=aM hp_;replace aj:=aM (Kd.R_after (v:=(.slice (some ⟨ai,0,none⟩) au.length aJ)) (v1:=(.slice (some ⟨ai,0,none⟩) au.length aJ)) (ok:=(fun k_=>some k_≠((.slice Aoz aC.length coz):Value).ownBlock)) (by (with_reducible repeat (first|apply Kd.R_alloc|apply Kd.R_drewN|apply Kd.R_drew));exact Kd.R_mono aj.out (fun _ hk=>⟨hk.2,hk.1.2⟩)) hg (.inl rfl));replace HB:=aM ((by rw [hw];exact below_set (HB.out) dR.out:Below w.heap.size w dF));clear bq;clear hg hw hp_))
    (try simp only [<- aX])
    go_roundg k3
    case measure=>have:=bT.out;have:=dG.out;have:=eP.out;omega
    exact⟨_,_,qZ,H',⟨by have:=bT.out;have:=dG.out;have:=eP.out;omega⟩,⟨by (try simp only [aU]);(try simp only [aX]);(with_reducible repeat (first|apply Kd.S_alloc|apply Kd.S_drewN|apply Kd.S_drew));exact aa.out⟩,⟨qB⟩⟩
   have gp:¬ ((rd_L9 au ag)=[]):=fun h_=>gJ (by rw [h_];rfl)
   have H':=aM H
   clear H
   have aD:0<=(ag:Int):=qD
   have aG:ag < (au.length:Int):=qD
   obtain⟨bD,bP,bQ,bK,af,av,ax⟩:=at_L9 (Kd.S_reads' aa.out).2.2 ag aD aG
   obtain rfl:(⟨ai,0,none⟩:Addr)=bD:=(by injection bK)
   obtain⟨dx,bi,bn,aH⟩:=Kd.S_get aa.out [] ag aD (by first|exact aG|exact qD|(have e_:=(Kd.S_reads' aa.out).1;omega))
   obtain⟨bL,rfl,ah⟩:=bn
   have ae:=aH 0 _ rfl
   rw [Nat.add_zero,show ((Kd.slice 3 (Kd.int .i64))).sz=1 from rfl,Nat.mul_one] at ae
   replace ae:=Option.some.inj (ae.symm.trans af)
   rw [ae] at ah
   have aj:=aM (show Kd.R (Kd.int .i64) 3 _ _ _ _ (rd_L9 au ag) from ah)
   clear ae ah
   clear aH bi
   (first|simp only [add_plain] at af|simp only [add_at] at af|simp only [Addr.add,Nat.zero_add] at af|skip)
   have aV:=aM ax
   have bM:=aM av
   clear ax av
   replace aD:=eq_true aD
   replace aG:=eq_true aG
   go_wp2
   (try simp only [<- aX])
   go_roundg k3
   case measure=>have:=bT.out;have:=dG.out;have:=eP.out;omega
   exact⟨(au),(wrap64 (ag+1)),qZ,H',⟨by have:=bT.out;have:=dG.out;have:=eP.out;omega⟩,⟨by (try simp only [aU]);(try simp only [aX]);(with_reducible repeat (first|apply Kd.S_alloc|apply Kd.S_drewN|apply Kd.S_drew));exact aa.out⟩,⟨qB⟩⟩
  obtain rfl:=oJ H
  go_wp2
  go_ret
  exact⟨_,qW,qS aa,qB⟩
 obtain rfl:=oJ H
 go_enter func99,ntmps99
 go_wp2_with (first|((with_reducible refine jd 6 rfl ?_);refine Kd.S_lit (Kd.slice 3 (Kd.int .i64)) _ 43 ?hg (N:=6) ?hd (xs:=([]:List (List Int))) (inner:=[]) (ok:=fun _=>True) (okp:=fun _=>True) ?hr ?hp (fun _ hk=>hk) trivial (Below.refl _ _) (Nat.le_refl _) (by simp) ?_;(case hd=>rfl);(case hg=>rfl);(case hr=>first|(go_simp;done)|(go_simp;rfl));(case hp=>exact (Reps.none _ _));intro dH gM bN hb hg_ hnew_;clear hg_ hnew_;(first|rw [<- aI.out] at bN|(simp only [Int.reduceToNat] at bN;rw [<- aI.out] at bN));have ay:=aM (Kd.S_lower bN (below_size qB));replace HB:=kH hb;clear hb bN)|((with_reducible refine jc 36 8 rfl rfl ?_);refine jG func36 #[.slice A0 l0.length c0] ?_;refine (Saf.calls k _ _ l0 false _ ?aK ?aN A2.out).mono ?_;(case aK=>exact kC (Kd.C_below eH.out HB.out));(case aN=>exact eO.out);rintro e gN ⟨rfl,hb⟩;refine⟨_,rfl,?_⟩;replace ay:=kS ay hb;replace HB:=kH hb;clear hb))
 go_ret
 exact⟨_,qW,qS ay,qB⟩
def Sba.j0:Nat->List Int->Int->Bool->Int->Int->Int->Int->Int->Option (Int × Int × Int × Int × Int)
 | 0,_,_,_,_,_,_,_,_=>none
 | k+1,x1,x6,x7,aA,aC,af,au,aD=>if x7=true then (if 0<=af then (if af < (x1.length:Int) then (some (aA,aC,rd x1 af,au,aD)) else (none)) else (none)) else (if x6=3 then (if 0<=af then (if af < (x1.length:Int) then (if 0<=au then (if au < (x1.length:Int) then (some (aA,aC,rd x1 af,rd x1 au,aD)) else (none)) else (none)) else (none)) else (none)) else (some (aA,aC,af,au,aD)))
def Sba.f (k:Nat) (aa ay aj ax az:Int) (l1:List Int):Option (Int × Int × Int × Int × Int):=if aa=2 then (Sba.j0 k l1 aa (aa == 2) aa ay aj ax az) else (if aa=5 then (Sba.j0 k l1 aa (aa == 5) aa ay aj ax az) else (if aa=6 then (Sba.j0 k l1 aa (aa == 6) aa ay aj ax az) else (Sba.j0 k l1 aa (aa == 9) aa ay aj ax az)))
theorem Sba.calls (k:Nat) (aa ay aj ax az:Int) (A1:Option Addr) (c1:Nat) (l1:List Int) (r1 r2 r3 r4 r5:Int) (w:World) (hr1:Kd.C (Kd.int .i64) w A1 l1.length l1) (hc1:l1.length<=c1) (h:Sba.f k aa ay aj ax az l1=some (r1,r2,r3,r4,r5)) :
  Calls prog 100 #[.agg #[iV aa,iV ay,iV aj,iV ax,iV az],.slice A1 l1.length c1] w fun e w'=>e = .returned (.agg #[iV r1,iV r2,iV r3,iV r4,iV r5])/\Below w.heap.size w w':=by
 have bV:=underlying27
 have HR1:=aM hr1
 have dh:=aM hc1
 clear hr1 hc1
 have HB:=aM (Below.refl w.heap.size w)
 have H:=h;unfold Sba.f at H
 clear h
 have bC:=aM H
 clear H
 go_enter func100,ntmps100
 go_upto_if 7 with (first|((with_reducible refine jd 2 rfl ?_);refine jX _ 27 ?_;intro aK hg w4 hbox hb;have ae:=aM hbox;have aZ:=kG hg;replace HB:=kH hb;clear hb hbox hg)|((with_reducible refine jd 4 rfl ?_);refine jX _ 27 ?_;intro aG hg w5 hbox hb;have ag:=aM hbox;have bD:=kG hg;have ah:=kN hg ae;have ai:=kM hg ae;replace ae:=kB ae hb;replace HB:=kH hb;clear hb hbox hg;have bW:=ah.out;have bX:=ai.out;have bY:=jz5 ae))
 (try simp only [Act.put,List.setIfInBounds_toArray,List.set_cons_zero,List.set_cons_succ])
 go_cut [7] (fun v7 wc=>∃ (kq:Nat) (bg:Bool),v7 = .bool bg/\Aside0 (Sba.j0 kq l1 aa bg aa ay aj ax az=some (r1,r2,r3,r4,r5))/\Aside0 (kq<=k)/\Aside0 (wc.heap[aK]?=some (.cells #[iV aa,iV ay,iV aj,iV ax,iV az] 27 (0,0)))/\Aside0 (wc.heap[aG]?=some (.cells #[iV 0,iV 0,iV 0,iV 0,iV 0] 27 (0,0)))/\Aside0 (Below w.heap.size w wc))
 case first =>
  have H:=bC.out
  clear bC
  replace H:=jE H;rcases H with ⟨aN,bE,H⟩ | ⟨c8,aN,bE,H⟩
  ·(first|rw [aN]|(simp only [i64_w,i32_w];rw [aN])|skip)
   have H':=aM H
   clear H
   go_wp2
   go_meet
   exact⟨_,((aa == 2)),qZ,H',⟨by first|omega|exact Nat.le_refl _⟩,⟨qK ae⟩,⟨qK ag⟩,⟨qB⟩⟩
  (first|rw [aN]|(simp only [i64_w,i32_w];rw [aN])|skip)
  replace H:=jE H;rcases H with ⟨bF,bG,H⟩ | ⟨c9,bF,bG,H⟩
  ·have H':=aM H
   clear H
   go_wp2
   go_meet
   exact⟨_,((aa == 5)),qZ,H',⟨by first|omega|exact Nat.le_refl _⟩,⟨qK ae⟩,⟨qK ag⟩,⟨qB⟩⟩
  replace H:=jE H;rcases H with ⟨bn,bq,H⟩ | ⟨c10,bn,bq,H⟩
  ·have H':=aM H
   clear H
   go_wp2
   go_meet
   exact⟨_,((aa == 6)),qZ,H',⟨by first|omega|exact Nat.le_refl _⟩,⟨qK ae⟩,⟨qK ag⟩,⟨qB⟩⟩
  have H':=aM H
  clear H
  go_wp2
  go_meet
  exact⟨_,((aa == 9)),qZ,H',⟨by first|omega|exact Nat.le_refl _⟩,⟨qK ae⟩,⟨qK ag⟩,⟨qB⟩⟩
 clear bC
 try clear c1;try clear bY
 obtain⟨kq,bg,rfl,HA,HJ2,ae,ag,HB⟩:=hcut
 cases kq with
 | zero=>exact absurd HA.out (by simp [Sba.j0])
 | succ di =>
  have H:=HA.out
  clear HA
  simp only [Sba.j0] at H
  replace H:=jB H;rcases H with ⟨rfl,H⟩ | ⟨rfl,H⟩
  ·replace H:=jI H;obtain⟨bI,H⟩:=H
   replace H:=jI H;obtain⟨bJ,H⟩:=H
   obtain⟨rfl,rfl,rfl,rfl,rfl⟩:=oJ5 H
   have bK:=ah.out
   have bL:=ai.out
   have bZ:=jz5 ae
   have aQ:0<=(aj:Int):=qD
   have aT:aj < (l1.length:Int):=qD
   obtain⟨bH,bu,aH⟩:=Kd.at_int HR1.out aj aQ aT
   cases bu
   replace aH:=kx HB aH
   replace aQ:=eq_true aQ
   replace aT:=eq_true aT
   have cz:=jz5 ag
   go_wp2
   refine bodyPost_ret (results_cell_row rfl _ _ aG 27 #[iV aa,iV ay,iV (rd l1 aj),iV ax,iV az] (0,0) _ rfl (qF ag) underlying27 rfl (by kernel_rfl)) rfl ?_
   exact⟨qW,qB⟩
  replace H:=jE H;rcases H with ⟨bv,bz,H⟩ | ⟨c17,bv,bz,H⟩
  ·replace H:=jI H;obtain⟨bM,H⟩:=H
   replace H:=jI H;obtain⟨bN,H⟩:=H
   replace H:=jI H;obtain⟨bO,H⟩:=H
   replace H:=jI H;obtain⟨bP,H⟩:=H
   obtain⟨rfl,rfl,rfl,rfl,rfl⟩:=oJ5 H
   have bQ:=ah.out
   have bR:=ai.out
   have cB:=jz5 ae
   have aU:0<=(aj:Int):=qD
   have aV:aj < (l1.length:Int):=qD
   obtain⟨aW,bA,aI⟩:=Kd.at_int HR1.out aj aU aV
   cases bA
   replace aI:=kx HB aI
   replace aU:=eq_true aU
   replace aV:=eq_true aV
   have aX:0<=(ax:Int):=qD
   have aY:ax < (l1.length:Int):=qD
   obtain⟨bi,bB,av⟩:=Kd.at_int HR1.out ax aX aY
   obtain rfl:aW=bi:=(by injection bB)
   have aJ:aW.block≠aK:=kn av aZ
   replace av:=kx HB av
   replace av:=(cell_far (p:=⟨aK,2,none⟩) (kf (aJ)) (iV (rd l1 aj))).trans av
   clear aJ
   replace aX:=eq_true aX
   replace aY:=eq_true aY
   have cK:=jz5 ag
   go_wp2
   refine bodyPost_ret (results_cell_row rfl _ _ aG 27 #[iV aa,iV ay,iV (rd l1 aj),iV (rd l1 ax),iV az] (0,0) _ rfl (qF ag) underlying27 rfl (by kernel_rfl)) rfl ?_
   exact⟨qW,qB⟩
  obtain⟨rfl,rfl,rfl,rfl,rfl⟩:=oJ5 H
  have bS:=ah.out
  have bT:=ai.out
  have cO:=jz5 ae
  have df:=jz5 ag
  go_wp2
  refine bodyPost_ret (results_cell_row rfl _ _ aG 27 #[iV aa,iV ay,iV aj,iV ax,iV az] (0,0) _ rfl (qF ag) underlying27 rfl (by kernel_rfl)) rfl ?_
  exact⟨qW,qB⟩
def Sai.l0:Nat->List (S27)->List (S27)->List (List Int)->Int->Option ((List (S27)) × Bool)
 | 0,_,_,_,_=>none
 | k+1,x0,x4,x5,x6=>if x6 < (x0.length:Int) then (if 0<=x6 then (if x6 < (x5.length:Int) then ((Sba.f k ((rd_T27 x0 x6).f0) ((rd_T27 x0 x6).f1) ((rd_T27 x0 x6).f2) ((rd_T27 x0 x6).f3) ((rd_T27 x0 x6).f4) (rd_L9 x5 x6)).bind fun aD=>(if x4.length < 3518437208883 then (Sai.l0 k x0 (x4 ++ [(⟨aD.1,aD.2.1,aD.2.2.1,aD.2.2.2.1,aD.2.2.2.2⟩:S27)]) x5 (wrap64 (x6+1))) else (none))) else (none)) else (none)) else (some (x4,true))
def Sai.f (k:Nat) (l0:List (S27)):Option ((List (S27)) × Bool):=(some (([]:List (S27)):List (S27))).bind fun bu=>((Saf.f k l0).bind fun bK=>(if bK=true then ((Sah.f k l0).bind fun ai=>(Sai.l0 k l0 bu ai 0)) else (some (bu,false))))
def Sai.T8:Bool × List (List Nat × List Nat):=(true,[([],[]),([],[]),([],[]),([1,2],[1,2]),([3],[3]),([],[]),([],[]),([5,6],[5,6]),([7],[7]),([4,8],[4,8]),([9],[9]),([0,10,9],[0,10]),([11,11,0,1,2,3,4,5,6,7,8,9,10,11],[0,11])])
def Sai.B8:List Nat:=[0,0,0,6,14,0,0,96,224,510,1022,2047,4095]
theorem Sai.tab8:rtab .any (opsOf f84 8)=Sai.T8:=by kernel_rfl
theorem Sai.bits8:waitsOk Sai.T8.2 Sai.B8=true:=by kernel_rfl
theorem Sai.calls (k:Nat) (A0:Option Addr) (c0:Nat) (l0 r1:List (S27)) (r2:Bool) (w:World) (hr0:Kd.C k27 w A0 l0.length l0) (hc0:l0.length<=c0) (h:Sai.f k l0=some (r1,r2)) :
  Calls prog 84 #[.slice A0 l0.length c0] w fun e w'=>∃ cK:Value,e = .returned (.tuple #[cK,.bool r2])/\Kd.R k27 27 w' w.heap.size (fun _=>True) cK r1/\Below w.heap.size w w':=by
 have dz:=underlying27
 have bX:=aM hr0
 have bY:=aM hc0
 clear hr0 hc0
 have HB:=aM (Below.refl w.heap.size w)
 have H:=h;unfold Sai.f at H
 clear h
 obtain⟨bu,aA⟩:=ky ((([]:List (S27))):List (S27))
 first|replace H:=kz aA H|rw [<- aA.out] at H
 obtain⟨bK,A2,H⟩:=qE H
 try dsimp only at H
 replace H:=jB H;rcases H with ⟨rfl,H⟩ | ⟨rfl,H⟩
 ·obtain⟨ai,A4,H⟩:=qE H
  try dsimp only at H
  have H':=aM H
  clear H
  go_enter func84,ntmps84
  go_wp2_with (first|((with_reducible refine jd 7 rfl ?_);refine jV k27 27 ([]:List (S27)) [] (Reps.none _ _) ?_;intro bO w5 bP hb;(first|rw [<- aA.out] at bP|(simp only [Int.reduceToNat] at bP;rw [<- aA.out] at bP));have ae:=kL bP;replace HB:=kH hb;clear hb bP)|((with_reducible refine jc 36 9 rfl rfl ?_);refine jG func36 #[.slice A0 l0.length c0] ?_;refine (Saf.calls k _ _ l0 true _ ?aG ?aH A2.out).mono ?_;(case aG=>exact kC (Kd.C_below bX.out HB.out));(case aH=>exact bY.out);rintro e w7 ⟨rfl,hb⟩;refine⟨_,rfl,?_⟩;replace ae:=kR ae hb;replace HB:=kH hb;clear hb)|((with_reducible refine jc 99 13 rfl rfl ?_);refine jG func99 #[.slice A0 l0.length c0] ?_;refine (Sah.calls k _ _ l0 ai _ ?aG ?aH A4.out).mono ?_;(case aG=>exact kC (Kd.C_below bX.out HB.out));(case aH=>exact bY.out);rintro e w8 ⟨bQ,rfl,ho0,hb⟩;refine⟨_,rfl,?_⟩;have bL:=aM (Kd.S_lower ho0 (below_size qB));replace ae:=kR ae hb;replace HB:=kH hb;clear hb;(try clear ho0)))
  go_loopg [4,6] k (fun kq v4 v6 w'=>∃ (bD:List (S27)) (aa:Int),v6 = iV aa/\Aside0 (Sai.l0 kq l0 bD ai aa=some (r1,r2))/\Aside0 (kq<=k)/\Aside0 (Kd.R k27 27 w' w.heap.size (fun _=>True) v4 bD)/\Aside0 (Kd.S (Kd.slice 3 (Kd.int .i64)) 43 w' w.heap.size (fun _=>True) bQ ai)/\Aside0 (Below w.heap.size w w'))
  case atStart=>exact⟨(bu),(0),qZ,H',⟨Nat.le_refl _⟩,⟨qR ae⟩,⟨qS bL⟩,⟨qB⟩⟩
  clear H'
  obtain⟨bD,aa,rfl,HA,cO,aK,aC,HB⟩:=hrel
  rcases gk with _|k1
  ·exact absurd HA.out (by simp [Sai.l0])
  have H:=HA.out
  clear HA
  simp only [Sai.l0] at H
  replace H:=jD H;rcases H with ⟨bZ,H⟩ | ⟨bZ,H⟩
  ·replace H:=jI H;obtain⟨df,H⟩:=H
   replace H:=jI H;obtain⟨dh,H⟩:=H
   obtain⟨⟨aN,aQ,aT,aU,aV⟩,dA,H⟩:=qE H
   try dsimp only at H
   replace H:=jL H;obtain⟨bR,H⟩:=H
   obtain⟨bS,bq⟩:=ky ((bD ++ [(⟨aN,aQ,aT,aU,aV⟩:S27)]):List (S27))
   first|replace H:=kz bq H|rw [<- bq.out] at H
   have H':=aM H
   clear H
   try go_wp2
   replace aK:=aM (Kd.R_drew aK.out)
   replace aC:=aM (Kd.S_drew aC.out)
   replace HB:=aM (below_drew1 HB.out)
   have bE:0<=(aa:Int):=qD
   have bF:aa < (l0.length:Int):=qD
   obtain⟨af,bT,aj,au,av,ax,ay⟩:=at_T27 bX.out aa bE bF
   have aW:=ay
   have aX:=ax
   have aY:=av
   have aZ:=au
   have bg:=aj
   cases bT
   replace aj:=kx HB aj
   replace au:=kx HB au
   replace av:=kx HB av
   replace ax:=kx HB ax
   replace ay:=kx HB ay
   replace bE:=eq_true bE
   replace bF:=eq_true bF
   obtain⟨dB,dC,bU⟩:=Kd.S_slice aC.out
   (first|subst bU|(injection bU with di dD dn;have dE:=di.symm;have dF:=dn.symm;clear di dD dn;subst dE;subst dF))
   have bv:0<=(aa:Int):=qD
   have bz:aa < (ai.length:Int):=qD
   obtain⟨bM,bA,bB,bV,aI,bi,bn⟩:=at_L9 (Kd.S_reads' aC.out).2.2 aa bv bz
   cases bV
   obtain⟨cz,bI,bJ,bC⟩:=Kd.S_get aC.out [] aa bv (by first|exact bz|exact qD|(have e_:=(Kd.S_reads' aC.out).1;omega))
   obtain⟨bW,rfl,aJ⟩:=bJ
   have ag:=bC 0 _ rfl
   rw [Nat.add_zero,show ((Kd.slice 3 (Kd.int .i64))).sz=1 from rfl,Nat.mul_one] at ag
   replace ag:=Option.some.inj (ag.symm.trans aI)
   rw [ag] at aJ
   have ah:=aM (show Kd.R (Kd.int .i64) 3 _ _ _ _ (rd_L9 ai aa) from aJ)
   clear ag aJ
   clear bC bI
   have az:=aM bn
   have bG:=aM bi
   clear bn bi
   replace bv:=eq_true bv
   replace bz:=eq_true bz
   refine start_ (n:=13) (S:=fun w'=>w'.cell? (af.add ((aa).toNat*5))=some (iV ((rd_T27 l0 aa).f0))/\w'.cell? ⟨(af.add ((aa).toNat*5)).block,(af.add ((aa).toNat*5)).off+1,none⟩=some (iV ((rd_T27 l0 aa).f1))/\w'.cell? ⟨(af.add ((aa).toNat*5)).block,(af.add ((aa).toNat*5)).off+2,none⟩=some (iV ((rd_T27 l0 aa).f2))/\w'.cell? ⟨(af.add ((aa).toNat*5)).block,(af.add ((aa).toNat*5)).off+3,none⟩=some (iV ((rd_T27 l0 aa).f3))/\w'.cell? ⟨(af.add ((aa).toNat*5)).block,(af.add ((aa).toNat*5)).off+4,none⟩=some (iV ((rd_T27 l0 aa).f4))/\w'.cell? (bM.add (aa).toNat)=some (.slice bA (rd_L9 ai aa).length bB)) (ds:=[10,11]) (jb 13 0) (by kernel_rfl) rfl rfl ⟨(kx HB bg),(kx HB aZ),(kx HB aY),(kx HB aX),(kx HB aW),aI⟩ (fun hHeld=>?_);refine with_tabW Sai.tab8 Sai.bits8 (fun HT_ HW_=>?_)
   generalize wr.drew=dG at aK aC HB ah az aj au av ax ay aI hHeld ⊢
   refine jp 0 20 (jb 13 1) ?_
   refine jp 1 21 (jb 13 3) ?_
   refine jp 2 22 (jb 13 7) ?_
   refine jp 3 23 (jb 13 15) ?_
   refine jp 5 25 (jb 13 47) ?_
   refine jp 6 26 (jb 13 111) ?_
   refine jp 7 27 (jb 13 239) ?_
   refine jt 4 24 (jb 13 255) ?_
   refine jt 8 28 (jb 13 511) ?_
   refine one_ (i:=9) (N:=some 29) (jb 13 1023) rfl rfl (one_of HT_.out (by kernel_rfl)) (by decide) (fun K hK=>?_)
   refine goes_ func100 (by kernel_rfl) rfl #[.agg #[iV ((rd_T27 l0 aa).f0),iV ((rd_T27 l0 aa).f1),iV ((rd_T27 l0 aa).f2),iV ((rd_T27 l0 aa).f3),iV ((rd_T27 l0 aa).f4)],.slice bA (rd_L9 ai aa).length bB] (by rfl) rfl rfl qM ?_
   with_reducible refine (Sba.calls k1 ((rd_T27 l0 aa).f0) ((rd_T27 l0 aa).f1) ((rd_T27 l0 aa).f2) ((rd_T27 l0 aa).f3) ((rd_T27 l0 aa).f4) _ _ (rd_L9 ai aa) aN aQ aT aU aV _ ?aG ?aH dA.out).mono ?_
   (case aG=>repeat (first|exact (kC az.out)|(with_reducible refine Kd.C_alloc ?_ _)|(with_reducible refine Kd.C_drewN ?_ _)|(with_reducible refine Kd.C_drew ?_)))
   (case aH=>exact bG.out)
   rintro e w16 ⟨rfl,hb⟩
   have cB:=(hb.cell (World.block_lt_of_cell? _ _ (hHeld.2.2.2.2.2))).trans (hHeld.2.2.2.2.2)
   refine⟨_,rfl,?_⟩
   replace aK:=kR aK hb
   replace aC:=kS aC hb
   replace ah:=kR ah hb
   replace az:=kQ az hb
   replace HB:=kH hb
   (try clear hb)
   (try clear hb2)
   (try clear hk)
   (try clear hi)
   refine hK.out _ _ ⟨(kx HB bg),(kx HB aZ),(kx HB aY),(kx HB aX),(kx HB aW),cB⟩ (fun hHeld=>?_)
   clear hK K
   refine norm_ (a':=?_) ?_ ?_
   rotate_left
   ·show Act.put _ (some 29) _=_
    simp only [Act.put,List.setIfInBounds_toArray,List.set_cons_zero,List.set_cons_succ,i64_w,i32_w]
    rfl
   refine last_ (i:=10) (N:=some 30) (jb 13 2047) rfl rfl (one_of HT_.out (by kernel_rfl)) (by decide) (fun K hK=>?_)
   refine value_ (w1:=?_) (v:=?_) (by rfl) rfl ?_ ?_
   rotate_left 2
   ·go_simp
    constructor
    ·rfl
    rfl
   refine hK.out _ _ ?_
   clear hK K
   refine norm_ (a':=?_) ?_ ?_
   rotate_left
   ·show Act.put _ (some 30) _=_
    simp only [Act.put,List.setIfInBounds_toArray,List.set_cons_zero,List.set_cons_succ,i64_w,i32_w]
    rfl
   refine last_ (i:=11) (N:=some 31) (jb 13 4095) rfl rfl (one_of HT_.out (by kernel_rfl)) (by decide) (fun K hK=>?_)
   refine Kd.R_append_step k27 (w0:=w) w.heap.size (by rfl) (.tmp 20) (.tmp 30) 23 27 (.agg #[(iV 0),(iV 0),(iV 0),(iV 0),(iV 0)]) 40 rfl underlying23 info27 rfl (by decide) (by omega) u4 bD (⟨aN,aQ,aT,aU,aV⟩:S27) [iV aN,iV aQ,iV aT,iV aU,iV aV] (fun _=>True) (fun _=>False) rfl rfl ?aP (fun _ hk=>hk.elim) ?aF ?aO ?aB ?aS ?aL ?_
   (case aP=>exact k27_mkM _ _ _ (⟨aN,aQ,aT,aU,aV⟩:S27))
   (case aB=>exact qB)
   (case aF=>exact (fun _ _=>trivial))
   (case aO=>exact (qR aK))
   (case aS=>exact (below_size qB))
   (case aL=>have:=bR.out;omega)
   intro dw dH ho hb hg hat
   rw [<- bq.out] at ho
   have bN:=aM ho
   replace aC:=aM (Kd.S_over' (qS aC) (Kd.R_typed (qR aK)) (by decide) hg)
   replace ah:=aM (Kd.R_over' (qR ah) (Kd.R_typed (qR aK)) (by decide) hg)
   replace HB:=aM hb
   clear aK
   clear ho hb hg hat
   refine hK.out _ _ ?_
   clear hK K
   refine norm_ (a':=?_) ?_ ?_
   rotate_left
   ·show Act.put _ (some 31) _=_
    simp only [Act.put,List.setIfInBounds_toArray,List.set_cons_zero,List.set_cons_succ,i64_w,i32_w]
    rfl
   refine jp 12 4 (jb 13 8191) ?_
   refine done_ (done_of HT_.out (by kernel_rfl)) ?_
   try go_wp2
   go_roundg k1
   case measure=>have:=cO.out;omega
   exact⟨(bS),(wrap64 (aa+1)),qZ,H',⟨by have:=cO.out;omega⟩,⟨qR bN⟩,⟨qS aC⟩,⟨qB⟩⟩
  obtain⟨rfl,rfl⟩:=oJ2 H
  go_wp2
  go_ret2
  exact⟨_,qW,qR aK,qB⟩
 obtain⟨rfl,rfl⟩:=oJ2 H
 go_enter func84,ntmps84
 go_wp2_with (first|((with_reducible refine jd 7 rfl ?_);refine jV k27 27 ([]:List (S27)) [] (Reps.none _ _) ?_;intro bO dI bH hb;(first|rw [<- aA.out] at bH|(simp only [Int.reduceToNat] at bH;rw [<- aA.out] at bH));have ae:=kL bH;replace HB:=kH hb;clear hb bH)|((with_reducible refine jc 36 9 rfl rfl ?_);refine jG func36 #[.slice A0 l0.length c0] ?_;refine (Saf.calls k _ _ l0 false _ ?aG ?aH A2.out).mono ?_;(case aG=>exact kC (Kd.C_below bX.out HB.out));(case aH=>exact bY.out);rintro e dJ ⟨rfl,hb⟩;refine⟨_,rfl,?_⟩;replace ae:=kR ae hb;replace HB:=kH hb;clear hb))
 go_ret2
 exact⟨_,qW,qR ae,qB⟩
def Sbg.l0:Nat->List (S27)->Int->Int->Int->Option (Int)
 | 0,_,_,_,_=>none
 | k+1,x0,x1,x5,x6=>if x6 < (x0.length:Int) then (if 0<=x5 then (if x5 < (x0.length:Int) then (if ((rd_T27 x0 x5).f0)=4 then (Sbg.l0 k x0 x1 ((rd_T27 x0 x5).f4) (wrap64 (x6+1))) else (some x5)) else (none)) else (none)) else (some x1)
def Sbg.f (k:Nat) (l0:List (S27)) (a1:Int):Option (Int):=Sbg.l0 k l0 a1 a1 0
theorem Sbg.calls (k:Nat) (A0:Option Addr) (c0:Nat) (l0:List (S27)) (a1 r:Int) (w:World) (hr0:Kd.C k27 w A0 l0.length l0) (hc0:l0.length<=c0) (h:Sbg.f k l0 a1=some r) :
  Calls prog 101 #[.slice A0 l0.length c0,iV a1] w fun e w'=>e = .returned (iV r)/\Drawn0 w w':=by
 have aN:=aM hr0
 have aZ:=aM hc0
 clear hr0 hc0
 have H:(Sbg.l0 k l0 a1 a1 0)=some r:=h
 clear h
 have H':=aM H
 clear H
 go_enter func101,ntmps101
 go_wp2
 go_loopg [5,6] k (fun kq v5 v6 w'=>∃ (aa:Int) (ay:Int),v5 = iV aa/\v6 = iV ay/\Aside0 (Sbg.l0 kq l0 a1 aa ay=some r)/\Aside0 (kq<=k)/\Drawn0 w w')
 case atStart=>exact⟨(a1),(0),qZ,qZ,H',⟨Nat.le_refl _⟩,by repeat (first|exact Drawn0.refl _|apply Drawn0.step)⟩
 clear H'
 obtain⟨aa,ay,rfl,rfl,HA,aV,⟨m1,rfl⟩⟩:=hrel
 rcases gk with _|k1
 ·exact absurd HA.out (by simp [Sbg.l0])
 have H:=HA.out
 clear HA
 simp only [Sbg.l0] at H
 replace H:=jD H;rcases H with ⟨aQ,H⟩ | ⟨aQ,H⟩
 ·replace H:=jI H;obtain⟨aX,H⟩:=H
  replace H:=jI H;obtain⟨aY,H⟩:=H
  replace H:=jE H;rcases H with ⟨aT,aU,H⟩ | ⟨c6,aT,aU,H⟩
  ·have H':=aM H
   clear H
   obtain⟨ae,af,ag,ah,ai,aj,au,aA,aC⟩:=jT27 aN aa
   cases af
   have av:0<=(aa:Int):=qD
   have ax:aa < (l0.length:Int):=qD
   obtain⟨az,aD,aG,aH,aI,aJ,aK⟩:=at_T27 aN.out aa av ax
   obtain rfl:ae=az:=(by injection aD)
   replace av:=eq_true av
   replace ax:=eq_true ax
   go_wp2
   go_roundg k1
   case measure=>have:=aV.out;omega
   exact⟨((rd_T27 l0 aa).f4),(wrap64 (ay+1)),qZ,qZ,H',⟨by have:=aV.out;omega⟩,by repeat (first|exact Drawn0.refl _|apply Drawn0.step)⟩
  obtain rfl:=oJ H
  obtain⟨ae,af,ag,ah,ai,aj,au,aA,aC⟩:=jT27 aN aa
  cases af
  go_wp2
  go_ret
  exact⟨qZ,qU⟩
 obtain rfl:=oJ H
 go_wp2
 go_ret
 exact⟨qZ,qU⟩
def Sao.l0:Nat->List (S27)->List (S27)->Int->Option ((List (S27)) × Bool)
 | 0,_,_,_=>none
 | k+1,x0,x4,x5=>if x5 < (x0.length:Int) then (if 0<=x5 then (if ((rd_T27 x0 x5).f0)=4 then ((Sbg.f k x0 ((rd_T27 x0 x5).f4)).bind fun aA=>(if x4.length < 3518437208883 then (Sao.l0 k x0 (x4 ++ [(⟨(rd_T27 x0 x5).f0,(rd_T27 x0 x5).f1,(rd_T27 x0 x5).f2,(rd_T27 x0 x5).f3,aA⟩:S27)]) (wrap64 (x5+1))) else (none))) else (if ((rd_T27 x0 x5).f0)=5 then ((Sbg.f k x0 ((rd_T27 x0 x5).f4)).bind fun aC=>(if x4.length < 3518437208883 then (Sao.l0 k x0 (x4 ++ [(⟨(rd_T27 x0 x5).f0,(rd_T27 x0 x5).f1,(rd_T27 x0 x5).f2,(rd_T27 x0 x5).f3,aC⟩:S27)]) (wrap64 (x5+1))) else (none))) else (if x4.length < 3518437208883 then (Sao.l0 k x0 (x4 ++ [(⟨(rd_T27 x0 x5).f0,(rd_T27 x0 x5).f1,(rd_T27 x0 x5).f2,(rd_T27 x0 x5).f3,(rd_T27 x0 x5).f4⟩:S27)]) (wrap64 (x5+1))) else (none)))) else (none)) else (some (x4,true))
def Sao.f (k:Nat) (l0:List (S27)):Option ((List (S27)) × Bool):=(some (([]:List (S27)):List (S27))).bind fun aU=>((Saf.f k l0).bind fun aX=>(if aX=true then (Sao.l0 k l0 aU 0) else (some (aU,false))))
theorem Sao.calls (k:Nat) (A0:Option Addr) (c0:Nat) (l0 r1:List (S27)) (r2:Bool) (w:World) (hr0:Kd.C k27 w A0 l0.length l0) (hc0:l0.length<=c0) (h:Sao.f k l0=some (r1,r2)) :
  Calls prog 85 #[.slice A0 l0.length c0] w fun e w'=>∃ bY:Value,e = .returned (.tuple #[bY,.bool r2])/\Kd.R k27 27 w' w.heap.size (fun _=>True) bY r1/\Below w.heap.size w w':=by
 have di:=underlying27
 have aY:=aM hr0
 have bJ:=aM hc0
 clear hr0 hc0
 have HB:=aM (Below.refl w.heap.size w)
 have H:=h;unfold Sao.f at H
 clear h
 obtain⟨aU,aD⟩:=ky ((([]:List (S27))):List (S27))
 first|replace H:=kz aD H|rw [<- aD.out] at H
 obtain⟨aX,A2,H⟩:=qE H
 try dsimp only at H
 replace H:=jB H;rcases H with ⟨rfl,H⟩ | ⟨rfl,H⟩
 ·have H':=aM H
  clear H
  go_enter func85,ntmps85
  go_wp2_with (first|((with_reducible refine jd 7 rfl ?_);refine jV k27 27 ([]:List (S27)) [] (Reps.none _ _) ?_;intro bq w4 bu hb;(first|rw [<- aD.out] at bu|(simp only [Int.reduceToNat] at bu;rw [<- aD.out] at bu));have az:=kL bu;replace HB:=kH hb;clear hb bu)|((with_reducible refine jc 36 9 rfl rfl ?_);refine jG func36 #[.slice A0 l0.length c0] ?_;refine (Saf.calls k _ _ l0 true _ ?aG ?aH A2.out).mono ?_;(case aG=>exact kC (Kd.C_below aY.out HB.out));(case aH=>exact bJ.out);rintro e w6 ⟨rfl,hb⟩;refine⟨_,rfl,?_⟩;replace az:=kR az hb;replace HB:=kH hb;clear hb))
  go_loopg [4,5] k (fun kq v4 v5 w'=>∃ (aI:List (S27)) (aa:Int),v5 = iV aa/\Aside0 (Sao.l0 kq l0 aI aa=some (r1,r2))/\Aside0 (kq<=k)/\Aside0 (Kd.R k27 27 w' w.heap.size (fun _=>True) v4 aI)/\Aside0 (Below w.heap.size w w'))
  case atStart=>exact⟨(aU),(0),qZ,H',⟨Nat.le_refl _⟩,⟨qR az⟩,⟨qB⟩⟩
  clear H'
  obtain⟨aI,aa,rfl,HA,bn,av,HB⟩:=hrel
  rcases gk with _|k1
  ·exact absurd HA.out (by simp [Sao.l0])
  have H:=HA.out
  clear HA
  simp only [Sao.l0] at H
  replace H:=jD H;rcases H with ⟨bK,H⟩ | ⟨bK,H⟩
  ·replace H:=jI H;obtain⟨dn,H⟩:=H
   replace H:=jE H;rcases H with ⟨bL,bM,H⟩ | ⟨c9,bL,bM,H⟩
   ·obtain⟨aA,dw,H⟩:=qE H
    try dsimp only at H
    replace H:=jL H;obtain⟨bv,H⟩:=H
    obtain⟨bZ,aN⟩:=ky ((aI ++ [(⟨(rd_T27 l0 aa).f0,(rd_T27 l0 aa).f1,(rd_T27 l0 aa).f2,(rd_T27 l0 aa).f3,aA⟩:S27)]):List (S27))
    first|replace H:=kz aN H|rw [<- aN.out] at H
    have H':=aM H
    clear H
    have ax:0<=(aa:Int):=qD
    have ay:aa < (l0.length:Int):=qD
    obtain⟨aJ,aK,ag,ah,ai,aj,au⟩:=at_T27 aY.out aa ax ay
    cases aK
    replace ag:=kx HB ag
    replace ah:=kx HB ah
    replace ai:=kx HB ai
    replace aj:=kx HB aj
    replace au:=kx HB au
    replace ax:=eq_true ax
    replace ay:=eq_true ay
    go_wp2_with (first|((with_reducible refine jd 6 rfl ?_);refine jX _ 27 ?_;intro ae hg bz hbox hb;have af:=aM hbox;have aV:=kG hg;replace av:=aM (Kd.R_below (Kd.R_elderB (qR av) ae (Nat.le_of_eq hg.symm)) hb);replace HB:=kH hb;clear hb hbox hg;have bA:=jz5 af)|((with_reducible refine jc 101 33 rfl rfl ?_);refine jG func101 #[.slice (some aJ) l0.length c0,iV ((rd_T27 l0 aa).f4)] ?_;refine (Sbg.calls k1 _ _ l0 ((rd_T27 l0 aa).f4) aA _ ?aG ?aH dw.out).mono ?_;(case aG=>exact Kd.C_below aY.out qB);(case aH=>exact bJ.out);rintro e bN ⟨rfl,hd⟩;refine⟨_,rfl,?_⟩;have hb:=hd.below;have bB:=aM (Kd.R_below (show Kd.R k27 27 _ w.heap.size (fun k_=>k_≠ae) u4 aI from (by (with_reducible repeat (first|apply Kd.R_alloc|apply Kd.R_drewN|apply Kd.R_drew));exact Kd.R_mono (Kd.R_far (p:=⟨ae,4,none⟩) (Kd.R_far (p:=⟨ae,3,none⟩) (Kd.R_far (p:=⟨ae,2,none⟩) (Kd.R_far (p:=⟨ae,1,none⟩) (Kd.R_far (p:=⟨ae,0,none⟩) (Kd.R_mono av.out (fun k_ hk=>(⟨hk,hk.2⟩:_/\k_≠ae))) (fun _ hk=>hk.2) (iV ((rd_T27 l0 aa).f0))) (fun _ hk=>hk.2) (iV ((rd_T27 l0 aa).f1))) (fun _ hk=>hk.2) (iV ((rd_T27 l0 aa).f2))) (fun _ hk=>hk.2) (iV ((rd_T27 l0 aa).f3))) (fun _ hk=>hk.2) (iV ((rd_T27 l0 aa).f4))) (fun _ hk=>hk.1.2))) hb);have bC:=aM (below_step (show Below w.heap.size w _ from qB) hb);have bD:Aside0 (bN.heap[ae]?=some (.cells #[iV ((rd_T27 l0 aa).f0),iV ((rd_T27 l0 aa).f1),iV ((rd_T27 l0 aa).f2),iV ((rd_T27 l0 aa).f3),iV ((rd_T27 l0 aa).f4)] 27 (0,0))):=⟨(hb.block ae (blk_lt (g:=ae) (o:=.cells #[iV ((rd_T27 l0 aa).f0),iV ((rd_T27 l0 aa).f1),iV ((rd_T27 l0 aa).f2),iV ((rd_T27 l0 aa).f3),iV ((rd_T27 l0 aa).f4)] 27 (0,0)) (qF af))).trans (qF af)⟩;clear av HB af hd hb;have av:=bB;have HB:=bC;have af:=bD;clear bB bC bD;have bO:=blk_cell af.out 0;have bP:=blk_frozen af.out 0;have bQ:=blk_cell af.out 1;have bR:=blk_frozen af.out 1;have bS:=blk_cell af.out 2;have bT:=blk_frozen af.out 2;have bU:=blk_cell af.out 3;have bV:=blk_frozen af.out 3;have bW:=blk_cell af.out 4;have bX:=blk_frozen af.out 4)|((with_reducible refine gate_builtin (b:=.append) (xs:=#[.tmp 35,.tmp 37]) rfl ?_);at_builtin;refine Kd.R_append k27 (w0:=w) w.heap.size rfl (.tmp 35) (.tmp 37) 23 27 (.agg #[(iV 0),(iV 0),(iV 0),(iV 0),(iV 0)]) 40 rfl underlying23 info27 rfl (by decide) (by omega) u4 aI (⟨(rd_T27 l0 aa).f0,(rd_T27 l0 aa).f1,(rd_T27 l0 aa).f2,(rd_T27 l0 aa).f3,aA⟩:S27) [iV ((rd_T27 l0 aa).f0),iV ((rd_T27 l0 aa).f1),iV ((rd_T27 l0 aa).f2),iV ((rd_T27 l0 aa).f3),iV aA] (fun k_=>k_≠ae) (fun _=>False) rfl (by first|(go_simp;done)|(go_simp;rfl)) ?aP (fun _ hk=>hk.elim) ?aF ?aO ?aB ?aS ?aL ?_;(case aP=>exact k27_mkM _ _ _ (⟨(rd_T27 l0 aa).f0,(rd_T27 l0 aa).f1,(rd_T27 l0 aa).f2,(rd_T27 l0 aa).f3,aA⟩:S27));(case aB=>exact qB);(case aF=>exact (fun k_ hk=>Kd.freshB (g:=ae) (o:=.cells #[iV ((rd_T27 l0 aa).f0),iV ((rd_T27 l0 aa).f1),iV ((rd_T27 l0 aa).f2),iV ((rd_T27 l0 aa).f3),iV aA] 27 (0,0)) (qF af) k_ hk));(case aO=>exact (by (with_reducible repeat (first|apply Kd.R_alloc|apply Kd.R_drewN|apply Kd.R_drew));exact Kd.R_far (p:=⟨ae,4,none⟩) av.out (fun _ hk=>hk) _));(case aS=>exact (below_size qB));(case aL=>have:=bv.out;omega);intro cz bE ho hb hg hat;rw [<- aN.out] at ho;have aZ:=aM ho;replace af:=aM (blk_grown (g:=ae) (o:=.cells #[iV ((rd_T27 l0 aa).f0),iV ((rd_T27 l0 aa).f1),iV ((rd_T27 l0 aa).f2),iV ((rd_T27 l0 aa).f3),iV aA] 27 (0,0)) (qF af) hg (Kd.R_away av.out (fun _ hk=>hk)));replace HB:=aM hb;clear av;clear ho hb hg hat))
    go_roundg k1
    case measure=>have:=bn.out;omega
    exact⟨_,_,qZ,H',⟨by have:=bn.out;omega⟩,⟨by (with_reducible repeat (first|apply Kd.R_alloc|apply Kd.R_drewN|apply Kd.R_drew));exact Kd.R_mono aZ.out (fun _ hk=>trivial)⟩,⟨qB⟩⟩
   replace H:=jE H;rcases H with ⟨bF,bG,H⟩ | ⟨c15,bF,bG,H⟩
   ·obtain⟨aC,dx,H⟩:=qE H
    try dsimp only at H
    replace H:=jL H;obtain⟨bH,H⟩:=H
    obtain⟨cB,aQ⟩:=ky ((aI ++ [(⟨(rd_T27 l0 aa).f0,(rd_T27 l0 aa).f1,(rd_T27 l0 aa).f2,(rd_T27 l0 aa).f3,aC⟩:S27)]):List (S27))
    first|replace H:=kz aQ H|rw [<- aQ.out] at H
    have H':=aM H
    clear H
    have ax:0<=(aa:Int):=qD
    have ay:aa < (l0.length:Int):=qD
    obtain⟨aJ,aK,ag,ah,ai,aj,au⟩:=at_T27 aY.out aa ax ay
    cases aK
    replace ag:=kx HB ag
    replace ah:=kx HB ah
    replace ai:=kx HB ai
    replace aj:=kx HB aj
    replace au:=kx HB au
    replace ax:=eq_true ax
    replace ay:=eq_true ay
    go_wp2_with (first|((with_reducible refine jd 6 rfl ?_);refine jX _ 27 ?_;intro ae hg bz hbox hb;have af:=aM hbox;have aV:=kG hg;replace av:=aM (Kd.R_below (Kd.R_elderB (qR av) ae (Nat.le_of_eq hg.symm)) hb);replace HB:=kH hb;clear hb hbox hg;have bA:=jz5 af)|((with_reducible refine jc 101 33 rfl rfl ?_);refine jG func101 #[.slice (some aJ) l0.length c0,iV ((rd_T27 l0 aa).f4)] ?_;refine (Sbg.calls k1 _ _ l0 ((rd_T27 l0 aa).f4) aC _ ?aG ?aH dx.out).mono ?_;(case aG=>exact Kd.C_below aY.out qB);(case aH=>exact bJ.out);rintro e dz ⟨rfl,hd⟩;refine⟨_,rfl,?_⟩;have hb:=hd.below;have bB:=aM (Kd.R_below (show Kd.R k27 27 _ w.heap.size (fun k_=>k_≠ae) u4 aI from (by (with_reducible repeat (first|apply Kd.R_alloc|apply Kd.R_drewN|apply Kd.R_drew));exact Kd.R_mono (Kd.R_far (p:=⟨ae,4,none⟩) (Kd.R_far (p:=⟨ae,3,none⟩) (Kd.R_far (p:=⟨ae,2,none⟩) (Kd.R_far (p:=⟨ae,1,none⟩) (Kd.R_far (p:=⟨ae,0,none⟩) (Kd.R_mono av.out (fun k_ hk=>(⟨hk,hk.2⟩:_/\k_≠ae))) (fun _ hk=>hk.2) (iV ((rd_T27 l0 aa).f0))) (fun _ hk=>hk.2) (iV ((rd_T27 l0 aa).f1))) (fun _ hk=>hk.2) (iV ((rd_T27 l0 aa).f2))) (fun _ hk=>hk.2) (iV ((rd_T27 l0 aa).f3))) (fun _ hk=>hk.2) (iV ((rd_T27 l0 aa).f4))) (fun _ hk=>hk.1.2))) hb);have bC:=aM (below_step (show Below w.heap.size w _ from qB) hb);have bD:Aside0 (dz.heap[ae]?=some (.cells #[iV ((rd_T27 l0 aa).f0),iV ((rd_T27 l0 aa).f1),iV ((rd_T27 l0 aa).f2),iV ((rd_T27 l0 aa).f3),iV ((rd_T27 l0 aa).f4)] 27 (0,0))):=⟨(hb.block ae (blk_lt (g:=ae) (o:=.cells #[iV ((rd_T27 l0 aa).f0),iV ((rd_T27 l0 aa).f1),iV ((rd_T27 l0 aa).f2),iV ((rd_T27 l0 aa).f3),iV ((rd_T27 l0 aa).f4)] 27 (0,0)) (qF af))).trans (qF af)⟩;clear av HB af hd hb;have av:=bB;have HB:=bC;have af:=bD;clear bB bC bD;have bO:=blk_cell af.out 0;have bP:=blk_frozen af.out 0;have bQ:=blk_cell af.out 1;have bR:=blk_frozen af.out 1;have bS:=blk_cell af.out 2;have bT:=blk_frozen af.out 2;have bU:=blk_cell af.out 3;have bV:=blk_frozen af.out 3;have bW:=blk_cell af.out 4;have bX:=blk_frozen af.out 4)|((with_reducible refine gate_builtin (b:=.append) (xs:=#[.tmp 35,.tmp 37]) rfl ?_);at_builtin;refine Kd.R_append k27 (w0:=w) w.heap.size rfl (.tmp 35) (.tmp 37) 23 27 (.agg #[(iV 0),(iV 0),(iV 0),(iV 0),(iV 0)]) 40 rfl underlying23 info27 rfl (by decide) (by omega) u4 aI (⟨(rd_T27 l0 aa).f0,(rd_T27 l0 aa).f1,(rd_T27 l0 aa).f2,(rd_T27 l0 aa).f3,aC⟩:S27) [iV ((rd_T27 l0 aa).f0),iV ((rd_T27 l0 aa).f1),iV ((rd_T27 l0 aa).f2),iV ((rd_T27 l0 aa).f3),iV aC] (fun k_=>k_≠ae) (fun _=>False) rfl (by first|(go_simp;done)|(go_simp;rfl)) ?aP (fun _ hk=>hk.elim) ?aF ?aO ?aB ?aS ?aL ?_;(case aP=>exact k27_mkM _ _ _ (⟨(rd_T27 l0 aa).f0,(rd_T27 l0 aa).f1,(rd_T27 l0 aa).f2,(rd_T27 l0 aa).f3,aC⟩:S27));(case aB=>exact qB);(case aF=>exact (fun k_ hk=>Kd.freshB (g:=ae) (o:=.cells #[iV ((rd_T27 l0 aa).f0),iV ((rd_T27 l0 aa).f1),iV ((rd_T27 l0 aa).f2),iV ((rd_T27 l0 aa).f3),iV aC] 27 (0,0)) (qF af) k_ hk));(case aO=>exact (by (with_reducible repeat (first|apply Kd.R_alloc|apply Kd.R_drewN|apply Kd.R_drew));exact Kd.R_far (p:=⟨ae,4,none⟩) av.out (fun _ hk=>hk) _));(case aS=>exact (below_size qB));(case aL=>have:=bH.out;omega);intro cK bE ho hb hg hat;rw [<- aQ.out] at ho;have bg:=aM ho;replace af:=aM (blk_grown (g:=ae) (o:=.cells #[iV ((rd_T27 l0 aa).f0),iV ((rd_T27 l0 aa).f1),iV ((rd_T27 l0 aa).f2),iV ((rd_T27 l0 aa).f3),iV aC] 27 (0,0)) (qF af) hg (Kd.R_away av.out (fun _ hk=>hk)));replace HB:=aM hb;clear av;clear ho hb hg hat))
    go_roundg k1
    case measure=>have:=bn.out;omega
    exact⟨_,_,qZ,H',⟨by have:=bn.out;omega⟩,⟨by (with_reducible repeat (first|apply Kd.R_alloc|apply Kd.R_drewN|apply Kd.R_drew));exact Kd.R_mono bg.out (fun _ hk=>trivial)⟩,⟨qB⟩⟩
   replace H:=jL H;obtain⟨bI,H⟩:=H
   obtain⟨cO,aT⟩:=ky ((aI ++ [(⟨(rd_T27 l0 aa).f0,(rd_T27 l0 aa).f1,(rd_T27 l0 aa).f2,(rd_T27 l0 aa).f3,(rd_T27 l0 aa).f4⟩:S27)]):List (S27))
   first|replace H:=kz aT H|rw [<- aT.out] at H
   have H':=aM H
   clear H
   have ax:0<=(aa:Int):=qD
   have ay:aa < (l0.length:Int):=qD
   obtain⟨aJ,aK,ag,ah,ai,aj,au⟩:=at_T27 aY.out aa ax ay
   cases aK
   replace ag:=kx HB ag
   replace ah:=kx HB ah
   replace ai:=kx HB ai
   replace aj:=kx HB aj
   replace au:=kx HB au
   replace ax:=eq_true ax
   replace ay:=eq_true ay
   go_wp2_with (first|((with_reducible refine jd 6 rfl ?_);refine jX _ 27 ?_;intro ae hg bz hbox hb;have af:=aM hbox;have aV:=kG hg;replace av:=aM (Kd.R_below (Kd.R_elderB (qR av) ae (Nat.le_of_eq hg.symm)) hb);replace HB:=kH hb;clear hb hbox hg;have bA:=jz5 af)|((with_reducible refine gate_builtin (b:=.append) (xs:=#[.tmp 35,.tmp 37]) rfl ?_);at_builtin;refine Kd.R_append k27 (w0:=w) w.heap.size rfl (.tmp 35) (.tmp 37) 23 27 (.agg #[(iV 0),(iV 0),(iV 0),(iV 0),(iV 0)]) 40 rfl underlying23 info27 rfl (by decide) (by omega) u4 aI (⟨(rd_T27 l0 aa).f0,(rd_T27 l0 aa).f1,(rd_T27 l0 aa).f2,(rd_T27 l0 aa).f3,(rd_T27 l0 aa).f4⟩:S27) [iV ((rd_T27 l0 aa).f0),iV ((rd_T27 l0 aa).f1),iV ((rd_T27 l0 aa).f2),iV ((rd_T27 l0 aa).f3),iV ((rd_T27 l0 aa).f4)] (fun k_=>k_≠ae) (fun _=>False) rfl (by first|(go_simp;done)|(go_simp;rfl)) ?aP (fun _ hk=>hk.elim) ?aF ?aO ?aB ?aS ?aL ?_;(case aP=>exact k27_mkM _ _ _ (⟨(rd_T27 l0 aa).f0,(rd_T27 l0 aa).f1,(rd_T27 l0 aa).f2,(rd_T27 l0 aa).f3,(rd_T27 l0 aa).f4⟩:S27));(case aB=>exact qB);(case aF=>exact (fun k_ hk=>Kd.freshB (g:=ae) (o:=.cells #[iV ((rd_T27 l0 aa).f0),iV ((rd_T27 l0 aa).f1),iV ((rd_T27 l0 aa).f2),iV ((rd_T27 l0 aa).f3),iV ((rd_T27 l0 aa).f4)] 27 (0,0)) (qF af) k_ hk));(case aO=>exact (by (with_reducible repeat (first|apply Kd.R_alloc|apply Kd.R_drewN|apply Kd.R_drew));exact Kd.R_mono (Kd.R_far (p:=⟨ae,4,none⟩) (Kd.R_far (p:=⟨ae,3,none⟩) (Kd.R_far (p:=⟨ae,2,none⟩) (Kd.R_far (p:=⟨ae,1,none⟩) (Kd.R_far (p:=⟨ae,0,none⟩) (Kd.R_mono av.out (fun k_ hk=>(⟨hk,hk.2⟩:_/\k_≠ae))) (fun _ hk=>hk.2) (iV ((rd_T27 l0 aa).f0))) (fun _ hk=>hk.2) (iV ((rd_T27 l0 aa).f1))) (fun _ hk=>hk.2) (iV ((rd_T27 l0 aa).f2))) (fun _ hk=>hk.2) (iV ((rd_T27 l0 aa).f3))) (fun _ hk=>hk.2) (iV ((rd_T27 l0 aa).f4))) (fun _ hk=>hk.1.2)));(case aS=>exact (below_size qB));(case aL=>have:=bI.out;omega);intro df bE ho hb hg hat;rw [<- aT.out] at ho;have bi:=aM ho;replace af:=aM (blk_grown (g:=ae) (o:=.cells #[iV ((rd_T27 l0 aa).f0),iV ((rd_T27 l0 aa).f1),iV ((rd_T27 l0 aa).f2),iV ((rd_T27 l0 aa).f3),iV ((rd_T27 l0 aa).f4)] 27 (0,0)) (qF af) hg (Kd.R_away av.out (fun _ hk=>hk.2)));replace HB:=aM hb;clear av;clear ho hb hg hat))
   go_roundg k1
   case measure=>have:=bn.out;omega
   exact⟨_,_,qZ,H',⟨by have:=bn.out;omega⟩,⟨by (with_reducible repeat (first|apply Kd.R_alloc|apply Kd.R_drewN|apply Kd.R_drew));exact Kd.R_mono bi.out (fun _ hk=>trivial)⟩,⟨qB⟩⟩
  obtain⟨rfl,rfl⟩:=oJ2 H
  go_wp2
  go_ret2
  exact⟨_,qW,qR av,qB⟩
 obtain⟨rfl,rfl⟩:=oJ2 H
 go_enter func85,ntmps85
 go_wp2_with (first|((with_reducible refine jd 7 rfl ?_);refine jV k27 27 ([]:List (S27)) [] (Reps.none _ _) ?_;intro bq dA aW hb;(first|rw [<- aD.out] at aW|(simp only [Int.reduceToNat] at aW;rw [<- aD.out] at aW));have az:=kL aW;replace HB:=kH hb;clear hb aW)|((with_reducible refine jc 36 9 rfl rfl ?_);refine jG func36 #[.slice A0 l0.length c0] ?_;refine (Saf.calls k _ _ l0 false _ ?aG ?aH A2.out).mono ?_;(case aG=>exact kC (Kd.C_below aY.out HB.out));(case aH=>exact bJ.out);rintro e dB ⟨rfl,hb⟩;refine⟨_,rfl,?_⟩;replace az:=kR az hb;replace HB:=kH hb;clear hb))
 go_ret2
 exact⟨_,qW,qR az,qB⟩
end Go.Proofs.YtebpplallecogaaGreat.M
-- JUMPED
namespace Go.Proofs.YtebpplallecogaaGreat.M
open Go.Proofs.Tryz Go.RowKit Go.Proofs.YtebpplallecogaaGreatW.PrintWords Go.Proofs.YtebpplallecogaaGreatW.PrintLast Go.Proofs.YtebpplallecogaaGreatW.PrintMore
attribute [local go_sem] max2_int min2_int max_two min_two max_three min_three max_four min_four
def Sbe.j0:Nat->Int->Int->Bool->Int->Int->Int->Int->Int->Option (Bool)
 | 0,_,_,_,_,_,_,_,_=>none
 | k+1,x1,x6,x7,aA,aj,au,aC,av=>if x7=true then (some (av == (wrap64 (x1+1)))) else (if x6=2 then (some (aj == au)) else (some false))
def Sbe.f (k:Nat) (aa af ag ah ai a1:Int):Option (Bool):=if aa=4 then (Sbe.j0 k a1 aa (aa == 4) aa af ag ah ai) else (Sbe.j0 k a1 aa (aa == 5) aa af ag ah ai)
theorem Sbe.mono_l:∀ k,(∀ y0 y1 y2 y3 y4 y5 y6 y7,LeO (Sbe.j0 k y0 y1 y2 y3 y4 y5 y6 y7) (Sbe.j0 (k+1) y0 y1 y2 y3 y4 y5 y6 y7))
 | 0=>fun _ _ _ _ _ _ _ _ r h=>by simp [Sbe.j0] at h
 | k+1=>by
  have aK:=Sbe.mono_l k
  intros;unfold Sbe.j0;exact mM
theorem Sbe.mono:∀ a0 a1 a2 a3 a4 a5 k,LeO (Sbe.f k a0 a1 a2 a3 a4 a5) (Sbe.f (k+1) a0 a1 a2 a3 a4 a5):=by
 intro a0 a1 a2 a3 a4 a5 k;have aK:=Sbe.mono_l k;unfold Sbe.f;exact mM
theorem Sbe.calls (k:Nat) (aa af ag ah ai a1:Int) (r:Bool) (w:World) (h:Sbe.f k aa af ag ah ai a1=some r) :
  Calls prog 103 #[.agg #[iV aa,iV af,iV ag,iV ah,iV ai],iV a1] w fun e w'=>e = .returned (.bool r)/\Below w.heap.size w w':=by
 have aN:=underlying27
 have HB:=aM (Below.refl w.heap.size w)
 have H:=h;unfold Sbe.f at H
 clear h
 have aD:=aM H
 clear H
 go_enter func103,ntmps103
 go_upto_if 7 with (first|((with_reducible refine jd 2 rfl ?_);refine jX _ 27 ?_;intro ay hg w4 hbox hb;have ae:=aM hbox;have aG:=kG hg;replace HB:=kH hb;clear hb hbox hg;have aQ:=jz5 ae))
 (try simp only [Act.put,List.setIfInBounds_toArray,List.set_cons_zero,List.set_cons_succ])
 go_cut [7] (fun v7 wc=>∃ (kq:Nat) (az:Bool),v7 = .bool az/\Aside0 (Sbe.j0 kq a1 aa az aa af ag ah ai=some r)/\Aside0 (kq<=k)/\Aside0 (wc.heap[ay]?=some (.cells #[iV aa,iV af,iV ag,iV ah,iV ai] 27 (0,0)))/\Aside0 (Below w.heap.size w wc))
 case first =>
  have H:=aD.out
  clear aD
  replace H:=jE H;rcases H with ⟨ax,aH,H⟩ | ⟨c6,ax,aH,H⟩
  ·(first|rw [ax]|(simp only [i64_w,i32_w];rw [ax])|skip)
   have H':=aM H
   clear H
   go_wp2
   go_meet
   exact⟨_,((aa == 4)),qZ,H',⟨by first|omega|exact Nat.le_refl _⟩,⟨qK ae⟩,⟨qB⟩⟩
  (first|rw [ax]|(simp only [i64_w,i32_w];rw [ax])|skip)
  have H':=aM H
  clear H
  go_wp2
  go_meet
  exact⟨_,((aa == 5)),qZ,H',⟨by first|omega|exact Nat.le_refl _⟩,⟨qK ae⟩,⟨qB⟩⟩
 clear aD
 try clear aQ
 obtain⟨kq,az,rfl,HA,HJ2,ae,HB⟩:=hcut
 cases kq with
 | zero=>exact absurd HA.out (by simp [Sbe.j0])
 | succ aU =>
  have H:=HA.out
  clear HA
  simp only [Sbe.j0] at H
  replace H:=jB H;rcases H with ⟨rfl,H⟩ | ⟨rfl,H⟩
  ·obtain rfl:=oJ H
   have aV:=jz5 ae
   go_wp2
   go_ret
   exact⟨qW,qB⟩
  replace H:=jE H;rcases H with ⟨aI,aJ,H⟩ | ⟨c9,aI,aJ,H⟩
  ·obtain rfl:=oJ H
   have aT:=jz5 ae
   go_wp2
   go_ret
   exact⟨qW,qB⟩
  obtain rfl:=oJ H
  go_wp2
  go_ret
  exact⟨qW,qB⟩
end Go.Proofs.YtebpplallecogaaGreat.M
namespace Go.Proofs.YtebpplallecogaaGreat.M
open Go.Proofs.Tryz Go.RowKit Go.Proofs.YtebpplallecogaaGreatW.PrintWords Go.Proofs.YtebpplallecogaaGreatW.PrintLast Go.Proofs.YtebpplallecogaaGreatW.PrintMore
attribute [local go_sem] max2_int min2_int max_two min_two max_three min_three max_four min_four
def Sbf.l0:Nat->List Bool->Int->Int->Int->Option (Int)
 | 0,_,_,_,_=>none
 | k+1,x0,x1,x5,x6=>if x6 < x1 then (if 0<=x6 then (if x6 < (x0.length:Int) then (if rdOf false x0 x6=true then (Sbf.l0 k x0 x1 (wrap64 (x5+1)) (wrap64 (x6+1))) else (Sbf.l0 k x0 x1 x5 (wrap64 (x6+1)))) else (none)) else (none)) else (some x5)
def Sbf.f (k:Nat) (l0:List Bool) (a1:Int):Option (Int):=Sbf.l0 k l0 a1 0 0
theorem Sbf.mono_l:∀ k,(∀ y0 y1 y2 y3,LeO (Sbf.l0 k y0 y1 y2 y3) (Sbf.l0 (k+1) y0 y1 y2 y3))
 | 0=>fun _ _ _ _ r h=>by simp [Sbf.l0] at h
 | k+1=>by
  have aA:=Sbf.mono_l k
  intros;unfold Sbf.l0;exact mM
theorem Sbf.mono:∀ a0 a1 k,LeO (Sbf.f k a0 a1) (Sbf.f (k+1) a0 a1):=by
 intro a0 a1 k;have aA:=Sbf.mono_l k;unfold Sbf.f;exact mM
theorem Sbf.calls (k:Nat) (A0:Option Addr) (c0:Nat) (l0:List Bool) (a1 r:Int) (w:World) (hr0:Kd.C Kd.bool w A0 l0.length l0) (hc0:l0.length<=c0) (h:Sbf.f k l0 a1=some r) :
  Calls prog 104 #[.slice A0 l0.length c0,iV a1] w fun e w'=>e = .returned (iV r)/\Drawn0 w w':=by
 have az:=aM hr0
 have aH:=aM hc0
 clear hr0 hc0
 have H:(Sbf.l0 k l0 a1 0 0)=some r:=h
 clear h
 have H':=aM H
 clear H
 go_enter func104,ntmps104
 go_wp2
 go_loopg [5,6] k (fun kq v5 v6 w'=>∃ (ah:Int) (aa:Int),v5 = iV ah/\v6 = iV aa/\Aside0 (Sbf.l0 kq l0 a1 ah aa=some r)/\Aside0 (kq<=k)/\Drawn0 w w')
 case atStart=>exact⟨(0),(0),qZ,qZ,H',⟨Nat.le_refl _⟩,by repeat (first|exact Drawn0.refl _|apply Drawn0.step)⟩
 clear H'
 obtain⟨ah,aa,rfl,rfl,HA,ax,⟨m1,rfl⟩⟩:=hrel
 rcases gk with _|k1
 ·exact absurd HA.out (by simp [Sbf.l0])
 have H:=HA.out
 clear HA
 simp only [Sbf.l0] at H
 replace H:=jD H;rcases H with ⟨ay,H⟩ | ⟨ay,H⟩
 ·replace H:=jI H;obtain⟨aC,H⟩:=H
  replace H:=jI H;obtain⟨aD,H⟩:=H
  obtain⟨aG,aj⟩:∃ b_:Bool,b_=(rdOf false l0 aa):=⟨_,rfl⟩
  replace H:(if aG=true then (Sbf.l0 k1 l0 a1 (wrap64 (ah+1)) (wrap64 (aa+1))) else (Sbf.l0 k1 l0 a1 ah (wrap64 (aa+1))))=some r:=by rw [<- aj] at H;exact H
  have av:=aM aj;clear aj
  replace H:=jB H;rcases H with ⟨rfl,H⟩ | ⟨rfl,H⟩
  ·have H':=aM H
   clear H
   have ae:0<=(aa:Int):=qD
   have af:aa < (l0.length:Int):=qD
   obtain⟨au,ai,ag⟩:=Kd.at_bool az.out aa ae af
   (try rw [<- av.out] at ag)
   cases ai
   replace ae:=eq_true ae
   replace af:=eq_true af
   go_wp2
   go_roundg k1
   case measure=>have:=ax.out;omega
   exact⟨(wrap64 (ah+1)),(wrap64 (aa+1)),qZ,qZ,H',⟨by have:=ax.out;omega⟩,by repeat (first|exact Drawn0.refl _|apply Drawn0.step)⟩
  have H':=aM H
  clear H
  have ae:0<=(aa:Int):=qD
  have af:aa < (l0.length:Int):=qD
  obtain⟨au,ai,ag⟩:=Kd.at_bool az.out aa ae af
  (try rw [<- av.out] at ag)
  cases ai
  replace ae:=eq_true ae
  replace af:=eq_true af
  go_wp2
  go_roundg k1
  case measure=>have:=ax.out;omega
  exact⟨(ah),(wrap64 (aa+1)),qZ,qZ,H',⟨by have:=ax.out;omega⟩,by repeat (first|exact Drawn0.refl _|apply Drawn0.step)⟩
 obtain rfl:=oJ H
 go_wp2
 go_ret
 exact⟨qZ,qU⟩
mutual
def SaT.l0:Nat->List (S27)->List Bool->Bool->Int->Option (Bool × List Bool)
 | 0,_,_,_,_=>none
 | k+1,x0,x1,x5,x6=>if x6 < (x0.length:Int) then (if 0<=x6 then (if x6 < (x1.length:Int) then (if rdOf false x1 x6=true then ((SaS.f k x0 x6).bind fun aa=>(SaT.l1 k x0 x1 x5 x6 aa 0)) else (SaT.l0 k x0 x1 x5 (wrap64 (x6+1)))) else (none)) else (none)) else (some (x5,x1))
def SaT.l1:Nat->List (S27)->List Bool->Bool->Int->List Int->Int->Option (Bool × List Bool)
 | 0,_,_,_,_,_,_=>none
 | k+1,x0,x1,x5,x6,x7,x8=>if x8 < (x7.length:Int) then (if 0<=x8 then (if 0<=(rd x7 x8) then (if (rd x7 x8) < (x1.length:Int) then (if (rdOf false x1 (rd x7 x8)=true) then (SaT.l1 k x0 x1 x5 x6 x7 (wrap64 (x8+1))) else (SaT.l1 k x0 (x1.set ((rd x7 x8):Int).toNat true) true x6 x7 (wrap64 (x8+1)))) else (none)) else (none)) else (none)) else (SaT.l0 k x0 x1 x5 (wrap64 (x6+1)))
end
def SaT.f (k:Nat) (l0:List (S27)) (l1:List Bool):Option (Bool × List Bool):=SaT.l0 k l0 l1 false 0
theorem SaT.mono_l:∀ k,(∀ y0 y1 y2 y3,LeO (SaT.l0 k y0 y1 y2 y3) (SaT.l0 (k+1) y0 y1 y2 y3))/\(∀ y0 y1 y2 y3 y4 y5,LeO (SaT.l1 k y0 y1 y2 y3 y4 y5) (SaT.l1 (k+1) y0 y1 y2 y3 y4 y5))
 | 0=>⟨fun _ _ _ _ r h=>by simp [SaT.l0] at h,fun _ _ _ _ _ _ r h=>by simp [SaT.l1] at h⟩
 | k+1=>by
  obtain⟨dx,ih1⟩:=SaT.mono_l k;have m0:=@SaS.mono
  exact⟨by intros;unfold SaT.l0;exact mM,by intros;unfold SaT.l1;exact mM⟩
theorem SaT.mono:∀ a0 a1 k,LeO (SaT.f k a0 a1) (SaT.f (k+1) a0 a1):=by
 intro a0 a1 k;obtain⟨dx,ih1⟩:=SaT.mono_l k;unfold SaT.f;have m0:=@SaS.mono;exact mM
theorem SaT.calls (k:Nat) (A0:Option Addr) (c0:Nat) (l0:List (S27)) (aD:Nat->Prop) (ax:Value) (l1:List Bool) (r1:Bool) (r2:List Bool) (w0 w:World) (hB:Below w0.heap.size w0 w) (hr0:∀ W_,Kept w W_ (fun k_=>aD k_)->Kd.C k27 W_ A0 l0.length l0) (hc0:l0.length<=c0) (ho1:Kd.R Kd.bool 4 w w0.heap.size aD ax l1) (h:SaT.f k l0 l1=some (r1,r2)) :
  Calls prog 117 #[.slice A0 l0.length c0,ax] w fun e w'=>e = .returned (.bool r1)/\Kd.R Kd.bool 4 w' w0.heap.size (fun k_=>(aD k_\/w.heap.size<=k_)) ax r2/\Below w0.heap.size w0 w'/\Kept w w' (fun k_=>aD k_):=by
 have dz:=aM hr0
 have dA:=aM hc0
 clear hr0 hc0
 have dB:=aM (show Kd.R Kd.bool 4 w w0.heap.size (fun k_=>(aD k_\/w.heap.size<=k_)) ax l1 from Kd.R_mono ho1 (fun k_ hk=>(.inl hk)))
 have HK:=aM (Kept.refl w (fun k_=>aD k_))
 have HW0:=aM hB.size
 have HB:=aM hB
 clear hB
 have H:(SaT.l0 k l0 l1 false 0)=some (r1,r2):=h
 clear h
 have H':=aM H
 clear H
 go_enter func117,ntmps117
 go_wp2
 go_loopg [5,6] k (fun kq v5 v6 w'=>∃ (ay:List Bool) (aG:Bool) (ag:Int),v5 = .bool aG/\v6 = iV ag/\Aside0 (SaT.l0 kq l0 ay aG ag=some (r1,r2))/\Aside0 (kq<=k)/\Aside0 (Kd.R Kd.bool 4 w' w0.heap.size (fun k_=>(aD k_\/w.heap.size<=k_)) ax ay)/\Aside0 (Kept w w' (fun k_=>aD k_))/\Aside0 (Below w0.heap.size w0 w'))
 case atStart=>exact⟨(l1),(false),(0),qZ,qZ,H',⟨Nat.le_refl _⟩,⟨qR dB⟩,⟨qT⟩,⟨qB⟩⟩
 clear H'
 obtain⟨ay,aG,ag,rfl,rfl,HA,aY,ae,HK,HB⟩:=hrel
 rcases gk with _|k1
 ·exact absurd HA.out (by simp [SaT.l0])
 have H:=HA.out
 clear HA
 simp only [SaT.l0] at H
 replace H:=jD H;rcases H with ⟨bB,H⟩ | ⟨bB,H⟩
 ·replace H:=jI H;obtain⟨bR,H⟩:=H
  replace H:=jI H;obtain⟨bS,H⟩:=H
  obtain⟨dC,aZ⟩:∃ b_:Bool,b_=(rdOf false ay ag):=⟨_,rfl⟩
  replace H:(if dC=true then ((SaS.f k1 l0 ag).bind fun aa=>(SaT.l1 k1 l0 ay aG ag aa 0)) else (SaT.l0 k1 l0 ay aG (wrap64 (ag+1))))=some (r1,r2):=by rw [<- aZ] at H;exact H
  have bg:=aM aZ;clear aZ
  replace H:=jB H;rcases H with ⟨rfl,H⟩ | ⟨rfl,H⟩
  ·obtain⟨aa,A8,H⟩:=qE H
   try dsimp only at H
   have H':=aM H
   clear H
   obtain⟨dN,bT,dD⟩:=Kd.R_slice ae.out
   subst dD
   have au:0<=(ag:Int):=qD
   have av:ag < (ay.length:Int):=qD
   obtain⟨aH,aK,ah⟩:=Kd.at_bool (Kd.R_reads' ae.out).2.2 ag au av
   (try rw [<- bg.out] at ah)
   cases aK
   replace au:=eq_true au
   replace av:=eq_true av
   go_wp2_with (first|((with_reducible refine jc 55 22 rfl rfl ?_);refine jG func55 #[.slice A0 l0.length c0,iV ag] ?_;refine (SaS.calls k1 _ _ l0 ag aa _ ?bC ?bD A8.out).mono ?_;(case bC=>exact Kd.C_kept_now dz.out qT);(case bD=>exact dA.out);rintro e dO ⟨bE,rfl,ho0,hb⟩;refine⟨_,rfl,?_⟩;have bi:=aM (Kd.R_lower (Kd.R_newM (M:=fun k_=>(aD k_\/w.heap.size<=k_)) ho0 (by first|exact HK.out.1|exact (show Kept w _ (fun k_=>aD k_) from qT).1) (fun k_ h_=>.inr h_)) (below_size qB));replace ae:=kR ae hb;replace HK:=kT hb;replace HB:=kH hb;clear hb;(try clear ho0)))
   go_loopg [5,8] k1 (fun kq v5 v8 w'=>∃ (aj:List Bool) (aJ:Bool) (af:Int),v5 = .bool aJ/\v8 = iV af/\Aside0 (SaT.l1 kq l0 aj aJ ag aa af=some (r1,r2))/\Aside0 (kq<=k1)/\Aside0 (Kd.R Kd.bool 4 w' w0.heap.size (fun k_=>(aD k_\/w.heap.size<=k_)) (.slice (some aH) ay.length bT) aj)/\Aside0 (Kd.R (Kd.int .i64) 3 w' w0.heap.size (fun k_=>(aD k_\/w.heap.size<=k_)) bE aa)/\Aside0 (Kept w w' (fun k_=>aD k_))/\Aside0 (Below w0.heap.size w0 w'))
   case atStart=>exact⟨(ay),(aG),(0),qZ,qZ,H',⟨Nat.le_refl _⟩,⟨qR ae⟩,⟨by (with_reducible repeat (first|apply Kd.R_alloc|apply Kd.R_drewN|apply Kd.R_drew));exact Kd.R_mono bi.out (fun _ hk=>hk.1)⟩,⟨qT⟩,⟨qB⟩⟩
   clear H'
   try clear bB;try clear bR;try clear bS;try clear ah;try clear au;try clear av
   obtain⟨aj,aJ,af,rfl,rfl,HA,bA,ae,aA,HK,HB⟩:=hrel
   have ai:=(Kd.R_reads' ae.out).1
   rw [ai] at ae
   (try simp only [ai])
   (try simp only [ai] at aA)
   rcases gk with _|k2
   ·exact absurd HA.out (by simp [SaT.l1])
   have H:=HA.out
   clear HA
   simp only [SaT.l1] at H
   replace H:=jD H;rcases H with ⟨bF,H⟩ | ⟨bF,H⟩
   ·replace H:=jI H;obtain⟨di,H⟩:=H
    replace H:=jI H;obtain⟨dn,H⟩:=H
    replace H:=jI H;obtain⟨dw,H⟩:=H
    obtain⟨bU,aN⟩:∃ b_:Bool,b_=(rdOf false aj (rd aa af)):=⟨_,rfl⟩
    replace H:(if (bU=true) then (SaT.l1 k2 l0 aj aJ ag aa (wrap64 (af+1))) else (SaT.l1 k2 l0 (aj.set ((rd aa af):Int).toNat true) true ag aa (wrap64 (af+1))))=some (r1,r2):=by rw [<- aN] at H;exact H
    have bG:=aM aN;clear aN
    have bH:=aM H;clear H
    obtain⟨dE,dF,bV⟩:=Kd.R_slice aA.out
    subst bV
    have aQ:0<=(af:Int):=qD
    have aT:af < (aa.length:Int):=qD
    obtain⟨bn,bI,bJ⟩:=Kd.at_int (Kd.R_reads' aA.out).2.2 af aQ aT
    cases bI
    replace aQ:=eq_true aQ
    replace aT:=eq_true aT
    have aU:0<=((rd aa af):Int):=qD
    have aV:(rd aa af) < (aj.length:Int):=qD
    obtain⟨bq,bK,az⟩:=Kd.at_bool (Kd.R_reads' ae.out).2.2 (rd aa af) aU aV
    (try rw [<- bg.out] at az)
    (try rw [<- bG.out] at az)
    obtain rfl:aH=bq:=(by injection bK)
    replace aU:=eq_true aU
    replace aV:=eq_true aV
    have H:=bH.out;clear bH
    replace H:=jB H;rcases H with ⟨rfl,H⟩ | ⟨rfl,H⟩
    ·have H':=aM H
     clear H
     go_wp2
     (try simp only [<- ai])
     go_roundg k2
     case measure=>have:=aY.out;have:=bA.out;omega
     exact⟨(aj),(aJ),(wrap64 (af+1)),qZ,qZ,H',⟨by have:=aY.out;have:=bA.out;omega⟩,⟨by (try simp only [ai]);(with_reducible repeat (first|apply Kd.R_alloc|apply Kd.R_drewN|apply Kd.R_drew));exact ae.out⟩,⟨by (try simp only [ai]);(with_reducible repeat (first|apply Kd.R_alloc|apply Kd.R_drewN|apply Kd.R_drew));exact aA.out⟩,⟨qT⟩,⟨qB⟩⟩
    obtain⟨bL,aI⟩:=ky ((aj.set ((rd aa af):Int).toNat true):List Bool)
    first|replace H:=kz aI H|rw [<- aI.out] at H
    have H':=aM H
    clear H
    have aW:0<=(af:Int):=qD
    have aX:af < (aa.length:Int):=qD
    obtain⟨bu,bM,bN⟩:=Kd.at_int (Kd.R_reads' aA.out).2.2 af aW aX
    obtain rfl:bn=bu:=(by injection bM)
    replace aW:=eq_true aW
    replace aX:=eq_true aX
    have bW:0<=((rd aa af):Int):=qD
    have bX:((rd aa af):Int) < ((aj.length:Int):Int):=qD
    obtain⟨aC,dG,bO,bP,bY,dH,bQ⟩:=Kd.R_form ae.out (by omega)
    (first|cases bO|(injection bO with ea_ en_ ec_;(first|subst ea_|(injection ea_ with ea_;subst ea_));subst ec_;clear en_))
    have bZ:=aM bP
    have dI:=aM bQ
    clear bP bY bQ
    have cz:=aM (show (aD aC\/w.heap.size<=aC) from (ae.out.1 _ rfl))
    (first|simp only [add_plain] at ah|skip)
    (first|simp only [add_plain] at az|skip)
    obtain⟨cB,cK⟩:=Kd.R_celln false ae.out ((rd aa af):Int) bW bX
    replace bW:=eq_true bW
    replace bX:=eq_true bX
    have bv:=Kd.R_putg ae.out ((rd aa af):Int) true
    go_wp2_with (first|((with_reducible refine gate_store (t:=4) (p:=42) rfl ?_);refine store_event (t:=4) (p:=42) (v:=?cO) (w1:=(wr.setCell ⟨aC,((rd aa af):Int).toNat,none⟩ (.bool true))) ?hg ?ho ?hn ?hr ?_;(case ho=>rfl);(case hg=>rfl);(case hn=>rfl);(case hr=>first|(go_simp;done)|(go_simp;rfl));intro bz hw;have hg:wr.grownBy bz (some aC):=(by rw [hw];exact bv.2);have hp_:Kd.R Kd.bool 4 bz w0.heap.size (fun k_=>(aD k_\/w.heap.size<=k_)) (.slice (some ⟨aC,0,none⟩) aj.length bT) bL:=(by rw [hw,aI.out];exact bv.1);clear bv;replace aA:=aM (Kd.R_over' (v:=(.slice (some ⟨aC,0,none⟩) aj.length bT)) (qR aA) (Kd.R_typed ae.out) (by decide) hg);replace HB:=aM ((by rw [hw];exact below_set (HB.out) bZ.out:Below w0.heap.size w0 bz));replace HK:=aM (Kept.of_grown (S:=(fun k_=>aD k_)) hg qT (fun k_ e_=>(ae.out.1 k_ e_)));replace ae:=aM hp_;clear hg hw hp_))
    (try simp only [<- ai])
    rw [show (⟨aC,ag.toNat,none⟩:Addr)=(⟨aC,0,none⟩:Addr).add ag.toNat from (add_plain _ _).symm]
    go_roundg k2
    case measure=>have:=aY.out;have:=bA.out;omega
    exact⟨_,_,_,qZ,qZ,H',⟨by have:=aY.out;have:=bA.out;omega⟩,⟨by (try simp only [ai]);(with_reducible repeat (first|apply Kd.R_alloc|apply Kd.R_drewN|apply Kd.R_drew));exact ae.out⟩,⟨by (try simp only [ai]);(with_reducible repeat (first|apply Kd.R_alloc|apply Kd.R_drewN|apply Kd.R_drew));exact aA.out⟩,⟨qT⟩,⟨qB⟩⟩
   have H':=aM H
   clear H
   obtain⟨dJ,dK,df⟩:=Kd.R_slice aA.out
   subst df
   go_wp2
   (try simp only [<- ai])
   go_roundg k2
   case measure=>have:=aY.out;have:=bA.out;omega
   exact⟨(aj),(aJ),(wrap64 (ag+1)),qZ,qZ,H',⟨by have:=aY.out;have:=bA.out;omega⟩,⟨by (try simp only [ai]);(with_reducible repeat (first|apply Kd.R_alloc|apply Kd.R_drewN|apply Kd.R_drew));exact ae.out⟩,⟨qT⟩,⟨qB⟩⟩
  have H':=aM H
  clear H
  obtain⟨dL,dM,dh⟩:=Kd.R_slice ae.out
  subst dh
  have au:0<=(ag:Int):=qD
  have av:ag < (ay.length:Int):=qD
  obtain⟨aH,aK,ah⟩:=Kd.at_bool (Kd.R_reads' ae.out).2.2 ag au av
  (try rw [<- bg.out] at ah)
  cases aK
  replace au:=eq_true au
  replace av:=eq_true av
  go_wp2
  go_roundg k1
  case measure=>have:=aY.out;omega
  exact⟨(ay),(aG),(wrap64 (ag+1)),qZ,qZ,H',⟨by have:=aY.out;omega⟩,⟨qR ae⟩,⟨qT⟩,⟨qB⟩⟩
 obtain⟨rfl,rfl⟩:=oJ2 H
 go_wp2
 go_ret
 exact⟨qW,qR ae,qB,qT⟩
def Sae.l0:Nat->List (S27)->List Bool->Option (List Bool)
 | 0,_,_=>none
 | k+1,x0,x3=>(SaT.f k x0 x3).bind fun av=>(if av.1=true then (Sae.l0 k x0 av.2) else (some av.2))
def Sae.f (k:Nat) (l0:List (S27)):Option (List Bool):=(Saf.f k l0).bind fun aI=>(if aI=true then (if 0<=(l0.length:Int) then (if ((l0.length:Int):Int).toNat<=281474976710656 then ((some (List.replicate ((l0.length:Int):Int).toNat false:List Bool)).bind fun aa=>(if 0 < (aa.length:Int) then (Sae.l0 k l0 (aa.set (0:Int).toNat true)) else (none))) else (none)) else (none)) else (some (([]:List Bool))))
theorem Sae.mono_l:∀ k,(∀ y0 y1,LeO (Sae.l0 k y0 y1) (Sae.l0 (k+1) y0 y1))
 | 0=>fun _ _ r h=>by simp [Sae.l0] at h
 | k+1=>by
  have bL:=Sae.mono_l k;have m0:=@Saf.mono;have m1:=@SaT.mono
  intros;unfold Sae.l0;exact mM
theorem Sae.mono:∀ a0 k,LeO (Sae.f k a0) (Sae.f (k+1) a0):=by
 intro a0 k;have bL:=Sae.mono_l k;unfold Sae.f;have m0:=@Saf.mono;have m1:=@SaT.mono;exact mM
theorem Sae.calls (k:Nat) (A0:Option Addr) (c0:Nat) (l0:List (S27)) (r:List Bool) (w:World) (hr0:Kd.C k27 w A0 l0.length l0) (hc0:l0.length<=c0) (h:Sae.f k l0=some r) :
  Calls prog 102 #[.slice A0 l0.length c0] w fun e w'=>∃ bB:Value,e = .returned (bB)/\Kd.R Kd.bool 4 w' w.heap.size (fun _=>True) bB r/\Below w.heap.size w w':=by
 have aX:=aM hr0
 have aY:=aM hc0
 clear hr0 hc0
 have HB:=aM (Below.refl w.heap.size w)
 have H:=h;unfold Sae.f at H
 clear h
 obtain⟨aI,A2,H⟩:=qE H
 try dsimp only at H
 replace H:=jB H;rcases H with ⟨rfl,H⟩ | ⟨rfl,H⟩
 ·replace H:=jJ H;obtain⟨aZ,bg,H⟩:=H
  replace H:=jJ H;obtain⟨bi,bn,H⟩:=H
  obtain⟨aa,aj⟩:=ky ((List.replicate ((l0.length:Int):Int).toNat false):List Bool)
  first|replace H:=kz aj H|rw [<- aj.out] at H
  replace H:=jU H;obtain⟨c6,H⟩:=H
  have bq:=decide_eq_true c6
  have bu:decide (0 < aa.length)=true:=decide_eq_true (by omega)
  clear c6
  obtain⟨aJ,ax⟩:=ky ((aa.set (0:Int).toNat true):List Bool)
  first|replace H:=kz ax H|rw [<- ax.out] at H
  have H':=aM H
  clear H
  go_enter func102,ntmps102
  go_wp2_with (first|((with_reducible refine jc 36 5 rfl rfl ?_);refine jG func36 #[.slice A0 l0.length c0] ?_;refine (Saf.calls k _ _ l0 true _ ?ag ?ah A2.out).mono ?_;(case ag=>exact kC aX.out);(case ah=>exact aY.out);rintro e w8 ⟨rfl,hb⟩;refine⟨_,rfl,?_⟩;replace HB:=kH hb;clear hb)|((with_reducible refine jd 10 rfl ?_);refine Kd.R_make Kd.bool _ 4 rfl (N:=10) rfl 37 _ _ rfl (l0.length:Int) rfl rfl underlying37 (.bool false) 1 info4 rfl (by decide) (by omega) false (ok:=fun _=>True) (okp:=fun _=>True) rfl (fun _ hk=>hk) trivial (qD) (Nat.le_trans (Nat.mul_le_mul_right _ (qD:(l0.length:Int).toNat<=281474976710656)) (by omega)) (Below.refl _ _) (Nat.le_refl _) ?_;intro bC w9 az hb hg_ hnew_;clear hg_ hnew_;(first|rw [<- aj.out] at az|(simp only [Int.reduceToNat] at az;rw [<- aj.out] at az));have ae:=kL az;replace HB:=kH hb;clear hb az;have p7:0<=(0:Int):=(by omega);have q7:(0:Int) < ((aa.length:Int):Int):=qD;have bM:(0 < aa.length)=True:=eq_true (by omega);obtain⟨aH,aK,bD,bE,bN,bR,bF⟩:=Kd.R_form ae.out (by omega);(first|cases bD|(injection bD with ea_ en_ ec_;(first|subst ea_|(injection ea_ with ea_;subst ea_));subst ec_;clear en_));have bO:=aM bE;have bS:=aM bF;clear bE bN bF;obtain⟨aA,aN⟩:=Kd.R_celln false ae.out (0:Int) p7 q7;(try rw [show ((0:Int)).toNat=0 from rfl] at aA);(try simp only [Nat.reduceMul,Nat.zero_mul,Nat.zero_add,Nat.reduceAdd] at aA);(try rw [show ((0:Int)).toNat=0 from rfl] at aN);(try simp only [Nat.reduceMul,Nat.zero_mul,Nat.zero_add,Nat.reduceAdd] at aN);replace p7:=eq_true p7;replace q7:=eq_true q7;obtain⟨aQ,aT⟩:=Kd.R_celln false ae.out (0:Int) (by omega) (qD);(try simp only [Int.reduceToNat,Int.toNat_zero,Int.toNat_ofNat,Nat.reduceMul,Nat.zero_mul,Nat.zero_add] at aQ aT);(try rw [show ((0:Int)).toNat=0 from rfl] at aQ);(try rw [show ((0:Int)).toNat=0 from rfl] at aT);have aV:=Kd.R_putg ae.out (0:Int) true)|((with_reducible refine gate_store (t:=4) (p:=12) rfl ?_);refine store_event (t:=4) (p:=12) (v:=?bv) (w1:=(w9.setCell ⟨aH,(0:Int).toNat,none⟩ (.bool true))) ?hg ?ho ?hn ?hr ?_;(case ho=>rfl);(case hg=>rfl);(case hn=>rfl);(case hr=>first|(go_simp;done)|(go_simp;rfl));intro bz hw;have hg:w9.grownBy bz (some aH):=(by rw [hw];exact aV.2);have hp_:Kd.R Kd.bool 4 bz w.heap.size (fun _=>True) (.slice (some ⟨aH,0,none⟩) aa.length aK) aJ:=(by rw [hw,ax.out];exact aV.1);clear aV;replace ae:=aM hp_;replace HB:=aM ((by rw [hw];exact below_set (HB.out) bO.out:Below w.heap.size w bz));clear hg hw hp_))
  go_loopg [] k (fun kq w'=>∃ (ai:List Bool),Aside0 (Sae.l0 kq l0 ai=some r)/\Aside0 (kq<=k)/\Aside0 (Kd.R Kd.bool 4 w' w.heap.size (fun _=>True) (.slice (some ⟨aH,0,none⟩) aa.length aK) ai)/\Aside0 (Below w.heap.size w w'))
  case atStart=>exact⟨(aJ),H',⟨Nat.le_refl _⟩,⟨qR ae⟩,⟨qB⟩⟩
  clear H'
  try clear aZ;try clear bg;try clear bi;try clear bn;try clear c6;try clear bq;try clear bu;try clear p7;try clear q7;try clear bM;try clear aA
  obtain⟨ai,HA,bG,af,HB⟩:=hrel
  have ay:=(Kd.R_reads' af.out).1
  rw [ay] at af
  (try simp only [ay])
  rcases gk with _|k1
  ·exact absurd HA.out (by simp [Sae.l0])
  have H:=HA.out
  clear HA
  simp only [Sae.l0] at H
  obtain⟨⟨bH,aU⟩,bI,H⟩:=qE H
  try dsimp only at H
  replace H:=jB H;rcases H with ⟨rfl,H⟩ | ⟨rfl,H⟩
  ·have H':=aM H
   clear H
   go_wp2_with (first|((with_reducible refine jc 117 15 rfl rfl ?_);refine jG func117 #[.slice A0 l0.length c0,.slice (some ⟨aH,0,none⟩) ai.length aK] ?_;refine (SaT.calls k1 _ _ l0 (fun k_=>some k_=(.slice (some ⟨aH,0,none⟩) ai.length aK:Value).ownBlock) (.slice (some ⟨aH,0,none⟩) ai.length aK) ai true aU w _ ?ag ?ah ?aC ?aD bI.out).mono ?_;(case ag=>exact qB);(case ah=>exact Kd.C_kept_came k27_heap aX.out qB (fun k_ hs_=>(by first|exact Kd.R_base af.out k_ hs_.symm|exact hs_.2.1)));(case aC=>exact aY.out);(case aD=>exact Kd.R_tight rfl af.out);rintro e bA ⟨rfl,hy0,hb,hkp⟩;refine⟨_,rfl,?_⟩;replace af:=aM (Kd.R_reok rfl hy0 (fun k_ e_=>af.out.1 k_ e_));replace HB:=aM hb;(try clear hb);(try clear hkp);(try clear hy0)))
   (try simp only [<- ay])
   go_roundg k1
   case measure=>have:=bG.out;omega
   exact⟨_,H',⟨by have:=bG.out;omega⟩,⟨by (try simp only [ay]);(with_reducible repeat (first|apply Kd.R_alloc|apply Kd.R_drewN|apply Kd.R_drew));exact af.out⟩,⟨qB⟩⟩
  obtain rfl:=oJ H
  go_wp2_with (first|((with_reducible refine jc 117 15 rfl rfl ?_);refine jG func117 #[.slice A0 l0.length c0,.slice (some ⟨aH,0,none⟩) ai.length aK] ?_;refine (SaT.calls k1 _ _ l0 (fun k_=>some k_=(.slice (some ⟨aH,0,none⟩) ai.length aK:Value).ownBlock) (.slice (some ⟨aH,0,none⟩) ai.length aK) ai false aU w _ ?ag ?ah ?aC ?aD bI.out).mono ?_;(case ag=>exact qB);(case ah=>exact Kd.C_kept_came k27_heap aX.out qB (fun k_ hs_=>(by first|exact Kd.R_base af.out k_ hs_.symm|exact hs_.2.1)));(case aC=>exact aY.out);(case aD=>exact Kd.R_tight rfl af.out);rintro e bA ⟨rfl,hy0,hb,hkp⟩;refine⟨_,rfl,?_⟩;replace af:=aM (Kd.R_reok rfl hy0 (fun k_ e_=>af.out.1 k_ e_));replace HB:=aM hb;(try clear hb);(try clear hkp);(try clear hy0)))
  go_ret
  exact⟨_,qW,qR af,qB⟩
 obtain⟨bJ,au⟩:=ky ((([]:List Bool)):List Bool)
 first|replace H:=kz au H|rw [<- au.out] at H
 obtain rfl:=oJ H
 go_enter func102,ntmps102
 go_wp2_with (first|((with_reducible refine jc 36 5 rfl rfl ?_);refine jG func36 #[.slice A0 l0.length c0] ?_;refine (Saf.calls k _ _ l0 false _ ?ag ?ah A2.out).mono ?_;(case ag=>exact kC aX.out);(case ah=>exact aY.out);rintro e bP ⟨rfl,hb⟩;refine⟨_,rfl,?_⟩;replace HB:=kH hb;clear hb)|((with_reducible refine jd 7 rfl ?_);refine jV Kd.bool 4 ([]:List Bool) [] (Reps.none _ _) ?_;intro bK bQ aG hb;(first|rw [<- au.out] at aG|(simp only [Int.reduceToNat] at aG;rw [<- au.out] at aG));have aW:=kL aG;replace HB:=kH hb;clear hb aG))
 go_ret
 exact⟨_,qW,qR aW,qB⟩
end Go.Proofs.YtebpplallecogaaGreat.M
namespace Go.Proofs.YtebpplallecogaaGreat.M
open Go.Proofs.Tryz Go.RowKit Go.Proofs.YtebpplallecogaaGreatW.PrintWords Go.Proofs.YtebpplallecogaaGreatW.PrintLast Go.Proofs.YtebpplallecogaaGreatW.PrintMore
/-- With fuel enough,F answers v. -/
def Ev {α:Type} (F:Nat->Option α) (v:α):Prop:=∃ K,∀ k,K<=k->F k=some v
theorem Ev.pure {α:Type} {v:α}:Ev (fun _=>some v) v:=⟨0,fun _ _=>rfl⟩
theorem Ev.eq {α:Type} {F:Nat->Option α} {v u:α} (h:Ev F v) (e:v=u):Ev F u:=e ▸ h
theorem Ev.bind {α β:Type} {F:Nat->Option α} {G:Nat->α->Option β} {a:α} {b:β} (h:Ev F a) (g:Ev (fun k=>G k a) b):Ev (fun k=>(F k).bind (G k)) b:=by
 obtain⟨K,h⟩:=h
 obtain⟨L,g⟩:=g
 refine⟨max K L,fun k hk=>?_⟩
 show (F k).bind (G k)=some b
 rw [h k (by omega)]
 exact g k (by omega)
theorem Ev.succ {α:Type} {F:Nat->Option α} {v:α} (h:Ev (fun k=>F (k+1)) v):Ev F v:=by
 obtain⟨K,h⟩:=h
 refine⟨K+1,fun k hk=>?_⟩
 cases k with
 | zero=>omega
 | succ k=>exact h k (by omega)
theorem Ev.pos {α:Type} {c:Prop} [Decidable c] {A B:Nat->Option α} {v:α} (g:Ev A v) (h:c:=by first|assumption|omega|(simp;done)|(simp;omega)):Ev (fun k=>if c then A k else B k) v:=by
 simp only [if_pos h]
 exact g
theorem Ev.neg {α:Type} {c:Prop} [Decidable c] {A B:Nat->Option α} {v:α} (g:Ev B v) (h:¬ c:=by first|assumption|omega|(simp;done)|(simp;omega)):Ev (fun k=>if c then A k else B k) v:=by
 simp only [if_neg h]
 exact g
theorem Ev.some {α β:Type} {a:α} {G:Nat->α->Option β} {b:β} (g:Ev (fun k=>G k a) b):Ev (fun k=>(Option.some a).bind (G k)) b:=g
theorem Ev.const {α:Type} {x:Option α} {v:α} (h:x=Option.some v):Ev (fun _=>x) v:=⟨0,fun _ _=>h⟩
theorem Ev.get {α:Type} {F:Nat->Option α} {v:α} (h:Ev F v):∃ k,F k=Option.some v:=by
 obtain⟨K,h⟩:=h
 exact⟨K,h K (Nat.le_refl _)⟩
theorem wrap_id {x:Int} (h:-9223372036854775808<=x) (h':x < 9223372036854775808):wrap64 x=x:=by unfold wrap64;omega
theorem wrap_up {i:Nat} (h:i < 9223372036854775807):wrap64 ((i:Int)+1)=((i+1:Nat):Int):=by rw [wrap_id (by omega) (by omega)];omega
theorem rd_nat (xs:List Int) (i:Nat):rd xs (i:Int)=xs.getD i 0:=by simp [rd]
theorem rdOf_nat {α:Type} (d:α) (xs:List α) (i:Nat):rdOf d xs (i:Int)=xs.getD i d:=by simp [rdOf]
theorem wrap16 {n:Nat} (h:n < 65536):IntKind.u16.wrap (n:Int)=(n:Int):=by
 simp only [IntKind.wrap,IntKind.bits,IntKind.signed]
 simp
 omega
theorem ofInt16 {n:Nat} (h:n < 65536):(BitVec.ofInt 16 (n:Int)).toNat=n:=by
 simp [BitVec.toNat_ofInt]
 omega
theorem or_lt {a b n:Nat} (ha:a < 2 ^ n) (hb:b < 2 ^ n):a ||| b < 2 ^ n:=Nat.or_lt_two_pow ha hb
theorem bits_or {a b:Nat} (ha:a < 65536) (hb:b < 65536):Go.bits .or .u16 (a:Int) (b:Int)=((a ||| b:Nat):Int):=by
 have e:(BitVec.ofInt 16 (a:Int) ||| BitVec.ofInt 16 (b:Int)).toNat=a ||| b:=by rw [BitVec.toNat_or,ofInt16 ha,ofInt16 hb]
 show IntKind.u16.wrap ((BitVec.ofInt 16 (a:Int) ||| BitVec.ofInt 16 (b:Int)).toNat:Int)=_
 rw [e]
 exact wrap16 (or_lt (n:=16) ha hb)
/-- a without the elements of b. -/
def sdiff (a b:Nat):Nat:=a &&& (65535 - b)
theorem sdiff_bit {a b i:Nat} (ha:a < 65536) (hb:b < 65536):(sdiff a b).testBit i=(a.testBit i && !b.testBit i):=by
 unfold sdiff
 rw [Nat.testBit_and,show 65535 - b=2 ^ 16 - (b+1) from by omega,Nat.testBit_two_pow_sub_succ (by omega)]
 by_cases h:i < 16
 ·simp [h]
 have:a.testBit i=false:=Nat.testBit_lt_two_pow (Nat.lt_of_lt_of_le ha (show 2 ^ 16<=2 ^ i from Nat.pow_le_pow_right (by decide) (by omega)))
 simp [this]
theorem sdiff_le {a b:Nat}:sdiff a b<=a:=Nat.and_le_left
theorem bits_andNot {a b:Nat} (ha:a < 65536) (hb:b < 65536):Go.bits .andNot .u16 (a:Int) (b:Int)=((sdiff a b:Nat):Int):=by
 have e:(BitVec.ofInt 16 (a:Int) &&& ~~~ BitVec.ofInt 16 (b:Int)).toNat=sdiff a b:=by
  rw [BitVec.toNat_and,BitVec.toNat_not,ofInt16 ha,ofInt16 hb]
  unfold sdiff
  congr 1
 show IntKind.u16.wrap ((BitVec.ofInt 16 (a:Int) &&& ~~~ BitVec.ofInt 16 (b:Int)).toNat:Int)=_
 rw [e]
 exact wrap16 (Nat.lt_of_le_of_lt sdiff_le ha)
theorem pow16 {r:Nat} (h:r < 12):2 ^ r < 4096:=Nat.pow_lt_pow_right (a:=2) (by decide) (m:=r) (n:=12) h
theorem shl_one {r:Nat} (h:r < 12):shl .u16 1 (r:Int)=((2 ^ r:Nat):Int):=by
 have:=pow16 h
 unfold shl
 rw [show min ((r:Int)).toNat (IntKind.bits .u16)=r from by simp [IntKind.bits];omega,Int.one_mul,show (2:Int) ^ r=((2 ^ r:Nat):Int) from by simp]
 exact wrap16 (by omega)
theorem has_bit {s r:Nat} (hs:s < 65536) (hr:r < 16):(Go.bits .and .u16 (shr .u16 (s:Int) (r:Int)) 1 == 1)=s.testBit r:=by
 have e1:shr .u16 (s:Int) (r:Int)=((s / 2 ^ r:Nat):Int):=by
  unfold shr
  rw [show min ((r:Int)).toNat (IntKind.bits .u16)=r from by simp [IntKind.bits];omega]
  simp
 have hd:s / 2 ^ r < 65536:=Nat.lt_of_le_of_lt (Nat.div_le_self _ _) hs
 rw [e1]
 have e:(BitVec.ofInt 16 ((s / 2 ^ r:Nat):Int) &&& BitVec.ofInt 16 ((1:Nat):Int)).toNat=s / 2 ^ r &&& 1:=by rw [BitVec.toNat_and,ofInt16 hd,ofInt16 (by decide)]
 have e2:Go.bits .and .u16 ((s / 2 ^ r:Nat):Int) 1=((s / 2 ^ r % 2:Nat):Int):=by
  show IntKind.u16.wrap ((BitVec.ofInt 16 ((s / 2 ^ r:Nat):Int) &&& BitVec.ofInt 16 ((1:Nat):Int)).toNat:Int)=_
  rw [e,Nat.and_one_is_mod]
  exact wrap16 (by omega)
 rw [e2,Nat.testBit_eq_decide_div_mod_eq]
 by_cases h:s / 2 ^ r % 2=1
 ·simp [h]
 have:s / 2 ^ r % 2=0:=by omega
 simp [this]
/-- The flags of a set. -/
def row (s:Nat):List Bool:=(List.range 12).map fun r=>s.testBit r
theorem row_len (s:Nat):(row s).length=12:=by simp [row]
theorem row_get (s r:Nat) (h:r < 12):(row s).getD r false=s.testBit r:=by simp [row,h]
theorem row_zero:row 0=List.replicate 12 false:=by decide
theorem bit_hi {s r:Nat} (hs:s < 4096) (hr:¬ r < 12):s.testBit r=false:=Nat.testBit_lt_two_pow (Nat.lt_of_lt_of_le hs (show 2 ^ 12<=2 ^ r from Nat.pow_le_pow_right (by decide) (by omega)))
theorem set_ext {s t:Nat} (hs:s < 4096) (ht:t < 4096) (h:∀ r,r < 12->s.testBit r=t.testBit r):s=t:=by
 apply Nat.eq_of_testBit_eq
 intro r
 by_cases hr:r < 12
 ·exact h r hr
 rw [bit_hi hs hr,bit_hi ht hr]
theorem row_inj {s t:Nat} (hs:s < 4096) (ht:t < 4096) (h:row s=row t):s=t :=
 set_ext hs ht fun r hr=>by rw [<- row_get s r hr,<- row_get t r hr,h]
theorem row_ext {l:List Bool} {s:Nat} (hl:l.length=12) (h:∀ r,r < 12->l.getD r false=s.testBit r):l=row s:=by
 apply List.ext_getElem (by rw [hl,row_len])
 intro i h1 h2
 have:=h i (by omega)
 rw [List.getD_eq_getElem?_getD,List.getElem?_eq_getElem h1] at this
 simpa [row] using this
end Go.Proofs.YtebpplallecogaaGreat.M
namespace Go.Proofs.YtebpplallecogaaGreat.M
/-- Rows at n places: an order,a join,what a row at a place hands on to other places,a rank. -/
structure Sys (R:Type) where
 n:Nat
 ok:R->Prop
 le:R->R->Prop
 jn:R->R->R
 out:Nat->R->List (Nat × R)
 rk:R->Nat
 top:Nat
 d:R
 ini:R
structure Sys.Laws {R:Type} (S:Sys R):Prop where
 refl:∀ a,S.ok a->S.le a a
 trans:∀ a b c,S.ok a->S.ok b->S.ok c->S.le a b->S.le b c->S.le a c
 anti:∀ a b,S.ok a->S.ok b->S.le a b->S.le b a->a=b
 ub1:∀ a b,S.ok a->S.ok b->S.le a (S.jn a b)
 ub2:∀ a b,S.ok a->S.ok b->S.le b (S.jn a b)
 lub:∀ a b c,S.ok a->S.ok b->S.ok c->S.le a c->S.le b c->S.le (S.jn a b) c
 okj:∀ a b,S.ok a->S.ok b->S.ok (S.jn a b)
 oko:∀ i x,i < S.n->S.ok x->∀ p∈S.out i x,p.1 < S.n/\S.ok p.2
 mono:∀ i x y,i < S.n->S.ok x->S.ok y->S.le x y->∀ p∈S.out i x,∃ v,(p.1,v)∈S.out i y/\S.le p.2 v
 rank:∀ a b,S.ok a->S.ok b->S.le a b->a≠b->S.rk a < S.rk b
 rtop:∀ a,S.ok a->S.rk a<=S.top
 okd:S.ok S.d
 oki:S.ok S.ini
 bot:∀ a,S.ok a->S.le S.d a
 outd:∀ i,S.out i S.d=[]
 pos:0 < S.n
 inid:S.ini≠S.d
namespace Sys
variable {R:Type} (S:Sys R)
def at' (T:List R) (i:Nat):R:=T.getD i S.d
def St (T:List R):Prop:=T.length=S.n/\∀ i,i < S.n->S.ok (S.at' T i)
def Leq (T U:List R):Prop:=∀ i,i < S.n->S.le (S.at' T i) (S.at' U i)
def Cl (T:List R) (i:Nat):Prop:=∀ p∈S.out i (S.at' T i),S.le p.2 (S.at' T p.1)
def Sol (T:List R):Prop:=S.St T/\S.le S.ini (S.at' T 0)/\∀ i,i < S.n->S.Cl T i
def Lfp (T:List R):Prop:=S.Sol T/\∀ U,S.Sol U->S.Leq T U
def put (T:List R) (p:Nat × R):List R:=T.set p.1 (S.jn (S.at' T p.1) p.2)
def cap (T:List R):Nat:=(T.map fun x=>S.top - S.rk x).sum
variable {S}
theorem lfp_unique (L:S.Laws) {T U:List R} (hT:S.Lfp T) (hU:S.Lfp U):T=U:=by
 have h1:=hT.2 U hU.1
 have h2:=hU.2 T hT.1
 apply List.ext_getElem (hT.1.1.1.trans hU.1.1.1.symm)
 intro i a b
 have hi:i < S.n:=by rw [<- hT.1.1.1];exact a
 have e:=L.anti _ _ (hT.1.1.2 i hi) (hU.1.1.2 i hi) (h1 i hi) (h2 i hi)
 unfold at' at e
 rwa [List.getD_eq_getElem?_getD,List.getD_eq_getElem?_getD,List.getElem?_eq_getElem a,List.getElem?_eq_getElem b] at e
theorem at_set {T:List R} {e i:Nat} {v:R} (he:e < T.length):S.at' (T.set e v) i=if i=e then v else S.at' T i:=by
 unfold at'
 simp only [List.getD_eq_getElem?_getD,List.getElem?_set]
 by_cases h:e=i
 ·subst h
  simp [he]
 have:¬ i=e:=fun x=>h x.symm
 simp [h,this]
theorem put_at {T:List R} {p:Nat × R} {i:Nat} (hp:p.1 < T.length):S.at' (S.put T p) i=if i=p.1 then S.jn (S.at' T p.1) p.2 else S.at' T i:=at_set hp
theorem put_st (L:S.Laws) {T:List R} (h:S.St T) {p:Nat × R} (hp:p.1 < S.n) (ho:S.ok p.2):S.St (S.put T p):=by
 refine⟨by unfold put;rw [List.length_set];exact h.1,fun i hi=>?_⟩
 rw [put_at (by rw [h.1];exact hp)]
 split
 ·exact L.okj _ _ (h.2 _ hp) ho
 exact h.2 i hi
theorem put_up (L:S.Laws) {T:List R} (h:S.St T) {p:Nat × R} (hp:p.1 < S.n) (ho:S.ok p.2):S.Leq T (S.put T p):=by
 intro i hi
 rw [put_at (by rw [h.1];exact hp)]
 split
 ·rename_i e
  rw [e]
  exact L.ub1 _ _ (h.2 _ hp) ho
 exact L.refl _ (h.2 i hi)
theorem put_has (L:S.Laws) {T:List R} (h:S.St T) {p:Nat × R} (hp:p.1 < S.n) (ho:S.ok p.2):S.le p.2 (S.at' (S.put T p) p.1):=by
 rw [put_at (by rw [h.1];exact hp),if_pos rfl]
 exact L.ub2 _ _ (h.2 _ hp) ho
theorem put_le (L:S.Laws) {T U:List R} (h:S.St T) (hU:S.St U) {p:Nat × R} (hp:p.1 < S.n) (ho:S.ok p.2) (hl:S.Leq T U) (hv:S.le p.2 (S.at' U p.1)):S.Leq (S.put T p) U:=by
 intro i hi
 rw [put_at (by rw [h.1];exact hp)]
 split
 ·rename_i e
  subst e
  exact L.lub _ _ _ (h.2 _ hi) ho (hU.2 _ hi) (hl _ hi) hv
 exact hl i hi
theorem leq_trans (L:S.Laws) {T U V:List R} (hT:S.St T) (hU:S.St U) (hV:S.St V) (h:S.Leq T U) (g:S.Leq U V):S.Leq T V:=fun i hi=>L.trans _ _ _ (hT.2 i hi) (hU.2 i hi) (hV.2 i hi) (h i hi) (g i hi)
theorem leq_refl (L:S.Laws) {T:List R} (hT:S.St T):S.Leq T T:=fun i hi=>L.refl _ (hT.2 i hi)
theorem put_same {T:List R} {p:Nat × R} (hp:p.1 < T.length) (e:S.jn (S.at' T p.1) p.2=S.at' T p.1):S.put T p=T:=by
 unfold put
 rw [e]
 apply List.ext_getElem (by simp)
 intro i a b
 rw [List.getElem_set]
 split
 ·rename_i x
  subst x
  unfold at'
  rw [List.getD_eq_getElem?_getD,List.getElem?_eq_getElem hp]
  rfl
 rfl
theorem sum_set (f:R->Nat):∀ (T:List R) (e:Nat) (v:R) (h:e < T.length),((T.set e v).map f).sum+f (T.getD e S.d)=(T.map f).sum+f v
 | [],e,v,h=>by simp at h
 | x :: xs,0,v,h=>by simp;omega
 | x :: xs,e+1,v,h=>by
  have:=sum_set f xs e v (by simpa using h)
  simp only [List.set_cons_succ,List.map_cons,List.sum_cons,List.getD_cons_succ]
  omega
theorem put_cap (L:S.Laws) {T:List R} (h:S.St T) {p:Nat × R} (hp:p.1 < S.n) (ho:S.ok p.2) (ne:S.jn (S.at' T p.1) p.2≠S.at' T p.1):S.cap (S.put T p) < S.cap T:=by
 have hs:=sum_set (S:=S) (fun x=>S.top - S.rk x) T p.1 (S.jn (S.at' T p.1) p.2) (by rw [h.1];exact hp)
 have o1:=h.2 _ hp
 have o2:=L.okj _ _ o1 ho
 have hr:=L.rank _ _ o1 o2 (L.ub1 _ _ o1 ho) (fun x=>ne x.symm)
 have ht:=L.rtop _ o2
 unfold cap put
 unfold at' at *
 omega
/-- What a place hands on,all at once;whether it is new. -/
def pass [DecidableEq R] (S:Sys R):List (Nat × R)->List R->Bool->List R × Bool
 | [],T,b=>(T,b)
 | p :: ps,T,b=>pass S ps (S.put T p) (b || !decide (S.jn (S.at' T p.1) p.2=S.at' T p.1))
theorem pass_all [DecidableEq R] (L:S.Laws):∀ (ps:List (Nat × R)) (T:List R) (b:Bool),S.St T->(∀ p∈ps,p.1 < S.n/\S.ok p.2) ->
  S.St (pass S ps T b).1/\S.Leq T (pass S ps T b).1/\S.cap (pass S ps T b).1<=S.cap T/\((pass S ps T b).2=false->b=false/\(pass S ps T b).1=T/\∀ p∈ps,S.le p.2 (S.at' T p.1))/\((pass S ps T b).2=true->b=true\/S.cap (pass S ps T b).1 < S.cap T)/\(∀ U,S.St U->S.Leq T U->(∀ p∈ps,S.le p.2 (S.at' U p.1))->S.Leq (pass S ps T b).1 U)
 | [],T,b,h,_=>⟨h,leq_refl L h,Nat.le_refl _,fun e=>⟨e,rfl,by simp⟩,fun e=>.inl e,fun U _ g _=>g⟩
 | p :: ps,T,b,h,hp=>by
  have p1:=(hp p List.mem_cons_self).1
  have p2:=(hp p List.mem_cons_self).2
  have h1:=put_st L h p1 p2
  obtain⟨a1,a2,a3,a4,a5,a6⟩:=pass_all L ps (S.put T p) (b || !decide (S.jn (S.at' T p.1) p.2=S.at' T p.1)) h1 (fun q hq=>hp q (List.mem_cons_of_mem _ hq))
  have hc:S.cap (S.put T p)<=S.cap T:=by
   by_cases e:S.jn (S.at' T p.1) p.2=S.at' T p.1
   ·rw [put_same (by rw [h.1];exact p1) e]
    exact Nat.le_refl _
   exact Nat.le_of_lt (put_cap L h p1 p2 e)
  refine⟨a1,leq_trans L h h1 a1 (put_up L h p1 p2) a2,Nat.le_trans a3 hc,?_,?_,?_⟩
  ·intro e
   obtain⟨x,y,z⟩:=a4 e
   simp only [Bool.or_eq_false_iff,Bool.not_eq_eq_eq_not,Bool.not_false,decide_eq_true_eq] at x
   have hs:=put_same (by rw [h.1];exact p1) x.2
   refine⟨x.1,y.trans hs,fun q hq=>?_⟩
   rcases List.mem_cons.1 hq with rfl|hq
   ·have:=put_has L h p1 p2
    rwa [hs] at this
   have:=z q hq
   rwa [hs] at this
  ·intro e
   rcases a5 e with x|x
   ·simp only [Bool.or_eq_true,Bool.not_eq_eq_eq_not,Bool.not_true,decide_eq_false_iff_not] at x
    rcases x with x|x
    ·exact .inl x
    exact .inr (Nat.lt_of_le_of_lt a3 (put_cap L h p1 p2 x))
   exact .inr (Nat.lt_of_lt_of_le x hc)
  intro U hU hl hv
  exact a6 U hU (put_le L h hU p1 p2 hl (hv p List.mem_cons_self)) (fun q hq=>hv q (List.mem_cons_of_mem _ hq))
/-- The rest of a round,d places. -/
def rnds [DecidableEq R] (S:Sys R):Nat->List R->Bool->List R × Bool
 | 0,T,b=>(T,b)
 | d+1,T,b=>rnds S d (pass S (S.out (S.n - (d+1)) (S.at' T (S.n - (d+1)))) T b).1 (pass S (S.out (S.n - (d+1)) (S.at' T (S.n - (d+1)))) T b).2
theorem rnds_all [DecidableEq R] (L:S.Laws):∀ (d:Nat) (T:List R) (b:Bool),d<=S.n->S.St T ->
  S.St (rnds S d T b).1/\S.Leq T (rnds S d T b).1/\S.cap (rnds S d T b).1<=S.cap T/\((rnds S d T b).2=false->b=false/\(rnds S d T b).1=T/\∀ i,S.n - d<=i->i < S.n->S.Cl T i)/\((rnds S d T b).2=true->b=true\/S.cap (rnds S d T b).1 < S.cap T)/\(∀ U,S.Sol U->S.Leq T U->S.Leq (rnds S d T b).1 U)
 | 0,T,b,hd,h=>⟨h,leq_refl L h,Nat.le_refl _,fun e=>⟨e,rfl,fun i a b=>absurd a (by omega)⟩,fun e=>.inl e,fun U _ g=>g⟩
 | d+1,T,b,hd,h=>by
  have hi:S.n - (d+1) < S.n:=by omega
  obtain⟨b1,b2,b3,b4,b5,b6⟩:=pass_all L (S.out (S.n - (d+1)) (S.at' T (S.n - (d+1)))) T b h (L.oko _ _ hi (h.2 _ hi))
  obtain⟨a1,a2,a3,a4,a5,a6⟩:=rnds_all L d _ (pass S (S.out (S.n - (d+1)) (S.at' T (S.n - (d+1)))) T b).2 (by omega) b1
  refine⟨a1,leq_trans L h b1 a1 b2 a2,Nat.le_trans a3 b3,?_,?_,?_⟩
  ·intro e
   obtain⟨x,y,z⟩:=a4 e
   obtain⟨x',y',z'⟩:=b4 x
   refine⟨x',y.trans y',fun i h1 h2=>?_⟩
   by_cases e:i=S.n - (d+1)
   ·rw [e]
    exact z'
   have:=z i (by omega) h2
   rwa [y'] at this
  ·intro e
   rcases a5 e with x|x
   ·rcases b5 x with x|x
    ·exact .inl x
    exact .inr (Nat.lt_of_le_of_lt a3 x)
   exact .inr (Nat.lt_of_lt_of_le x b3)
  intro U hU hl
  refine a6 U hU (b6 U hU.1 hl fun p hp=>?_)
  obtain⟨v,m1,m2⟩:=L.mono _ _ _ hi (h.2 _ hi) (hU.1.2 _ hi) (hl _ hi) p hp
  have o1:=L.oko _ _ hi (h.2 _ hi) p hp
  have o2:=L.oko _ _ hi (hU.1.2 _ hi) _ m1
  exact L.trans _ _ _ o1.2 o2.2 (hU.1.2 _ o1.1) m2 (hU.2.2 _ hi _ m1)
/-- The first state. -/
def T0 (S:Sys R):List R:=(List.replicate S.n S.d).set 0 S.ini
theorem T0_at (L:S.Laws) (i:Nat):S.at' (T0 S) i=if i=0 then S.ini else S.d:=by
 unfold T0
 rw [at_set (by rw [List.length_replicate];exact L.pos)]
 split
 ·rfl
 unfold at'
 simp only [List.getD_eq_getElem?_getD,List.getElem?_replicate]
 split <;> rfl
theorem T0_st (L:S.Laws):S.St (T0 S):=by
 refine⟨by unfold T0;simp,fun i hi=>?_⟩
 rw [T0_at L]
 split
 ·exact L.oki
 exact L.okd
theorem T0_le (L:S.Laws) {U:List R} (h:S.Sol U):S.Leq (T0 S) U:=by
 intro i hi
 rw [T0_at L]
 split
 ·rename_i e
  subst e
  exact h.2.1
 exact L.bot _ (h.1.2 i hi)
/-- What holds between two rounds. -/
def Rd (S:Sys R) (T:List R):Prop:=S.St T/\S.le S.ini (S.at' T 0)/\∀ U,S.Sol U->S.Leq T U
theorem rd0 (L:S.Laws):Rd S (T0 S):=⟨T0_st L,by rw [T0_at L,if_pos rfl];exact L.refl _ L.oki,fun U h=>T0_le L h⟩
theorem rd_step [DecidableEq R] (L:S.Laws) {T:List R} (h:Rd S T):Rd S (rnds S S.n T false).1/\((rnds S S.n T false).2=true->S.cap (rnds S S.n T false).1 < S.cap T)/\((rnds S S.n T false).2=false->S.Lfp (rnds S S.n T false).1):=by
 obtain⟨h1,h2,h3⟩:=h
 obtain⟨a1,a2,a3,a4,a5,a6⟩:=rnds_all L S.n T false (Nat.le_refl _) h1
 refine⟨⟨a1,L.trans _ _ _ L.oki (h1.2 _ L.pos) (a1.2 _ L.pos) h2 (a2 _ L.pos),fun U hU=>a6 U hU (h3 U hU)⟩,fun e=>?_,fun e=>?_⟩
 ·rcases a5 e with x|x
  ·cases x
  exact x
 obtain⟨_,y,z⟩:=a4 e
 rw [y]
 exact⟨⟨h1,h2,fun i hi=>z i (by omega) hi⟩,h3⟩
end Sys
end Go.Proofs.YtebpplallecogaaGreat.M
namespace Go.Proofs.YtebpplallecogaaGreat.M
open Go.Proofs.Tryz Go.RowKit Go.Proofs.YtebpplallecogaaGreatW.PrintWords Go.Proofs.YtebpplallecogaaGreatW.PrintLast Go.Proofs.YtebpplallecogaaGreatW.PrintMore PM
abbrev SQ:=S27
def q_ (x:SQ):Q:=⟨x.f0,x.f1,x.f2,x.f3,x.f4⟩
def qs (c:List SQ):List Q:=c.map q_
/-- The quad at an index. -/
def qa (c:List SQ) (i:Nat):SQ:=c.getD i z27
theorem rd_qa (c:List SQ) (i:Nat):rd_T27 c (i:Int)=qa c i:=by simp [rd_T27,qa]
theorem at_qs (c:List SQ) (i:Nat):at_ (qs c) i=q_ (qa c i):=by
 unfold at_ qs qa
 simp only [List.getD_eq_getElem?_getD,List.getElem?_map]
 cases c[i]? <;> rfl
theorem qs_len (c:List SQ):(qs c).length=c.length:=by simp [qs]
theorem Sbl.e (a b c:Int):Sbl.f a b c=some (decide (b<=a/\a<=c)):=by
 unfold Sbl.f
 by_cases h:a>=b
 ·have:b<=a:=h
  simp [this]
 have:¬ b<=a:=h
 simp [this]
theorem SaG.e (x:Int) (u:Bool):SaG.f x u=some (rgU x u):=by
 cases u <;> simp only [SaG.f,rgU,Sbl.e,rgB,rg,Option.bind_some,if_true,Bool.false_eq_true,if_false]
theorem SaH.e (q:Q) (u v t:Bool):SaH.f q.op q.dst q.a q.b q.n u v t=some (rgs q.dst q.a q.b u v t):=by
 simp only [SaH.f,SaG.e,Option.bind_some,rgs]
 cases rgU q.dst u <;> cases rgU q.a v <;> simp
theorem some_bool {a b:Bool} (h:a=true↔b=true):some a=some b:=congrArg some (Bool.eq_iff_iff.2 h)
theorem ite_and (x y:Bool):(if x=true then some y else some false)=some (x && y):=by cases x <;> rfl
theorem ite_range (n m:Int):(if n>=0 then some (decide (n < m)) else some false)=some (decide (0<=n/\n < m)):=by
 by_cases h:n>=0
 ·rw [if_pos h]
  exact some_bool (by simp only [decide_eq_true_eq];omega)
 rw [if_neg h]
 exact some_bool (by simp only [decide_eq_true_eq,Bool.false_eq_true,false_iff];omega)
theorem Sau.e (q:Q) (m:Int):Sau.f q.op q.dst q.a q.b q.n m=some (qvB q m):=by
 simp only [Sau.f,SaH.e,Option.bind_some,Sax.f,Saq.f,Sbl.e]
 obtain⟨op,d,a,b,n⟩:=q
 have ho:op=1\/op=2\/op=3\/op=4\/op=5\/op=6\/op=7\/op=9\/op=8\/op=10\/(op≠1/\op≠2/\op≠3/\op≠4/\op≠5/\op≠6/\op≠7/\op≠9/\op≠8/\op≠10):=by omega
 rcases ho with h|h|h|h|h|h|h|h|h|h | ⟨h1,h2,h3,h4,h5,h6,h7,h8,h9,h10⟩
 case inr.inr.inr.inr.inr.inr.inr.inr.inr.inr =>
  simp only [if_neg h1,if_neg h2,if_neg h3,if_neg h4,if_neg h5,if_neg h6,if_neg h7,if_neg h8,if_neg h9,if_neg h10]
  refine some_bool ?_
  simp only [qvB_iff,QV,h1,h2,h3,h4,h5,h6,h7,h8,h9,h10,false_and,or_self,false_iff,not_false_eq_true,Bool.false_eq_true]
 all_goals
  have h':=h
  clear h
  subst h'
  simp only [reduceIte,Int.reduceEq,if_true,if_false]
  (try rw [ite_range])
  rw [ite_and]
  refine some_bool ?_
  rw [qvB_iff]
  simp only [QV,rgs,rgU,Bool.and_eq_true,rgB_iff,decide_eq_true_eq,if_true,if_false,Bool.false_eq_true,beq_iff_eq,Int.reduceEq,false_and,true_and,false_or,or_false,rg,wd]
  omega
theorem Sa4.e (q:Q) (m:Int):Sa4.f q.op q.dst q.a q.b q.n m=some (qvB q m):=rfl
instance (c:List Q):Decidable (CV c):=by unfold CV;infer_instance
/-- Whether a code is valid. -/
def cvB (c:List SQ):Bool:=decide (CV (qs c))
theorem cv_at {c:List SQ} (h:CV (qs c)) {i:Nat} (hi:i < c.length):QV (q_ (qa c i)) c.length:=by
 have:=h.2.2.1 i (by rw [qs_len];exact hi)
 rwa [at_qs,qs_len] at this
theorem Saf.l (c:List SQ) (h1:1<=c.length) (h6:c.length<=600):∀ (m i:Nat),i+m=c.length->(∀ j,j < i->QV (q_ (qa c j)) c.length)->Ev (fun k=>Saf.l0 k c (c.length:Int) (i:Int)) (cvB c)
 | 0,i,h,hv=>by
  refine Ev.succ ?_
  simp only [Saf.l0]
  rw [show wrap64 ((c.length:Int) - 1)=((c.length - 1:Nat):Int) from by rw [wrap_id (by omega) (by omega)];omega,rd_qa]
  refine Ev.neg (Ev.pos (Ev.pos ?_))
  have e:cvB c=decide ((qa c (c.length - 1)).f0=10\/(qa c (c.length - 1)).f0=4):=by
   unfold cvB
   refine decide_eq_decide.2 ?_
   unfold CV
   rw [qs_len,at_qs]
   refine⟨fun x=>x.2.2.2,fun x=>⟨h1,h6,fun j hj=>?_,x⟩⟩
   rw [at_qs]
   exact hv j (by omega)
  rw [e]
  by_cases hl:(qa c (c.length - 1)).f0=10
  ·refine Ev.pos ?_
   simp only [hl,true_or,decide_true]
   exact Ev.pure
  refine Ev.neg ?_
  refine Ev.const (some_bool ?_)
  simp [hl,rd_qa]
 | m+1,i,h,hv=>by
  refine Ev.succ ?_
  simp only [Saf.l0,rd_qa,wrap_up (show i < 9223372036854775807 by omega)]
  refine Ev.pos (Ev.pos (Ev.pos ?_))
  refine Ev.bind (a:=qvB (q_ (qa c i)) c.length) (Ev.const (Sau.e (q_ (qa c i)) _)) ?_
  by_cases hq:qvB (q_ (qa c i)) c.length=true
  ·refine Ev.pos (Saf.l c h1 h6 m (i+1) (by omega) fun j hj=>?_)
   by_cases hj':j < i
   ·exact hv j hj'
   rw [show j=i from by omega]
   exact qvB_iff.1 hq
  refine Ev.neg ?_
  refine Ev.const (some_bool ?_)
  simp only [Bool.false_eq_true,cvB,decide_eq_true_eq,false_iff]
  exact fun x=>hq (qvB_iff.2 (cv_at x (by omega)))
theorem Saf.ev (c:List SQ):Ev (fun k=>Saf.f k c) (cvB c):=by
 simp only [Saf.f,Sbl.e]
 refine Ev.some ?_
 by_cases h:1<=(c.length:Int)/\(c.length:Int)<=600
 ·refine Ev.pos ?_
  exact Saf.l c (by omega) (by omega) c.length 0 (by omega) (by omega)
 refine Ev.neg ?_
 refine Ev.const (some_bool ?_)
 simp only [Bool.false_eq_true,cvB,decide_eq_true_eq,false_iff]
 intro x
 have h1:=x.1
 have h2:=x.2.1
 rw [qs_len] at h1 h2
 omega
theorem Sa0.l (c:List SQ) (h1:1<=c.length) (h6:c.length<=600):∀ (m i:Nat),i+m=c.length->(∀ j,j < i->QV (q_ (qa c j)) c.length)->Ev (fun k=>Sa0.l0 k c c (c.length:Int) (i:Int)) (cvB c)
 | 0,i,h,hv=>by
  refine Ev.succ ?_
  simp only [Sa0.l0]
  rw [show wrap64 ((c.length:Int) - 1)=((c.length - 1:Nat):Int) from by rw [wrap_id (by omega) (by omega)];omega,rd_qa]
  refine Ev.neg (Ev.pos (Ev.pos ?_))
  have e:cvB c=decide ((qa c (c.length - 1)).f0=10\/(qa c (c.length - 1)).f0=4):=by
   unfold cvB
   refine decide_eq_decide.2 ?_
   unfold CV
   rw [qs_len,at_qs]
   refine⟨fun x=>x.2.2.2,fun x=>⟨h1,h6,fun j hj=>?_,x⟩⟩
   rw [at_qs]
   exact hv j (by omega)
  rw [e]
  by_cases hl:(qa c (c.length - 1)).f0=10
  ·refine Ev.pos ?_
   simp only [hl,true_or,decide_true]
   exact Ev.pure
  refine Ev.neg ?_
  refine Ev.const (some_bool ?_)
  simp [hl,rd_qa]
 | m+1,i,h,hv=>by
  refine Ev.succ ?_
  simp only [Sa0.l0,rd_qa,wrap_up (show i < 9223372036854775807 by omega)]
  refine Ev.pos (Ev.pos (Ev.pos ?_))
  refine Ev.bind (a:=qvB (q_ (qa c i)) c.length) (Ev.const (Sa4.e (q_ (qa c i)) _)) ?_
  by_cases hq:qvB (q_ (qa c i)) c.length=true
  ·refine Ev.pos (Sa0.l c h1 h6 m (i+1) (by omega) fun j hj=>?_)
   by_cases hj':j < i
   ·exact hv j hj'
   rw [show j=i from by omega]
   exact qvB_iff.1 hq
  refine Ev.neg ?_
  refine Ev.const (some_bool ?_)
  simp only [Bool.false_eq_true,cvB,decide_eq_true_eq,false_iff]
  exact fun x=>hq (qvB_iff.2 (cv_at x (by omega)))
theorem Sa0.ev (c:List SQ):Ev (fun k=>Sa0.f k c) (cvB c):=by
 simp only [Sa0.f]
 have no:¬ (1<=c.length/\c.length<=600)->Ev (fun k=>Sa0.j0 k c true) (cvB c):=by
  intro h
  refine Ev.succ ?_
  simp only [Sa0.j0]
  refine Ev.pos (Ev.const (some_bool ?_))
  simp only [Bool.false_eq_true,cvB,decide_eq_true_eq,false_iff]
  intro x
  have h1:=x.1
  have h2:=x.2.1
  rw [qs_len] at h1 h2
  omega
 by_cases h:(c.length:Int) < 1
 ·exact Ev.pos (no (by omega))
 refine Ev.neg ?_
 by_cases h2:(c.length:Int) > 600
 ·rw [decide_eq_true h2]
  exact no (by omega)
 rw [decide_eq_false h2]
 refine Ev.succ ?_
 simp only [Sa0.j0]
 refine Ev.neg ?_
 exact Sa0.l c (by omega) (by omega) c.length 0 (by omega) (by omega)
def ints (l:List Nat):List Int:=l.map fun (j:Nat)=>(j:Int)
theorem ints_len (l:List Nat):(ints l).length=l.length:=by simp [ints]
theorem rd_ints {l:List Nat} (i:Nat):rd (ints l) (i:Int)=((l.getD i 0:Nat):Int):=by
 rw [rd_nat]
 simp only [ints,List.getD_eq_getElem?_getD,List.getElem?_map]
 cases l[i]? <;> rfl
theorem qv_mono {q:Q} {m n:Int} (h:QV q m) (hm:m<=n):QV q n:=by
 rcases h with h|h|h | ⟨a,b,c,d,e,f⟩ | ⟨a,b,c,d,e,f⟩|h
 ·exact .inl h
 ·exact .inr (.inl h)
 ·exact .inr (.inr (.inl h))
 ·exact .inr (.inr (.inr (.inl ⟨a,b,c,d,e,Int.lt_of_lt_of_le f hm⟩)))
 ·exact .inr (.inr (.inr (.inr (.inl ⟨a,b,c,d,e,Int.lt_of_lt_of_le f hm⟩))))
 exact .inr (.inr (.inr (.inr (.inr h))))
theorem qv600 {q:Q} {m:Nat} (h:QV q m) (hm:m<=600):QV q 600:=qv_mono h (by omega)
theorem next_val {q:Q} {m:Nat} (h:QV q m) (hm:m<=600) (h4:q.op=4\/q.op=5):0<=q.n/\q.n < 600:=by unfold QV rg wd at h;omega
theorem SaS.ev {c:List SQ} (h:CV (qs c)) {i:Nat} (hi:i < c.length):Ev (fun k=>SaS.f k c (i:Int)) (ints (nx (q_ (qa c i)) i)):=by
 have hq:=cv_at h hi
 have h6:c.length<=600:=by have:=h.2.1;rwa [qs_len] at this
 simp only [SaS.f,rd_qa]
 refine Ev.pos (Ev.pos ?_)
 have hn:=next_val hq h6
 unfold nx
 by_cases c1:(qa c i).f0=10
 ·refine Ev.pos (Ev.eq Ev.pure ?_)
  simp [q_,c1,ints]
 refine Ev.neg ?_
 by_cases c2:(qa c i).f0=4
 ·refine Ev.pos (Ev.eq Ev.pure ?_)
  have:=hn (.inl c2)
  simp [q_,c1,c2,ints] at this ⊢
  omega
 refine Ev.neg ?_
 have w:=wrap_up (show i < 9223372036854775807 by omega)
 by_cases c3:(qa c i).f0=5
 ·refine Ev.pos ?_
  have:=hn (.inr c3)
  refine Ev.succ ?_
  simp only [SaS.j0,w]
  simp only [q_] at this
  by_cases c4:(qa c i).f4 < ((i+1:Nat):Int)
  ·rw [decide_eq_true c4]
   refine Ev.pos (Ev.eq Ev.pure ?_)
   have:(qa c i).f4 < (i:Int)+1:=by omega
   simp [q_,c1,c2,c3,ints,this]
   omega
  rw [decide_eq_false c4]
  refine Ev.neg (Ev.pos ?_)
  have d4:¬ (qa c i).f4 < (i:Int)+1:=by omega
  by_cases c5:(qa c i).f4 > ((i+1:Nat):Int)
  ·refine Ev.pos (Ev.eq Ev.pure ?_)
   have d5:(i:Int)+1 < (qa c i).f4:=by omega
   simp [q_,c1,c2,c3,ints,d4,d5]
   omega
  refine Ev.neg (Ev.eq Ev.pure ?_)
  have d5:¬ (i:Int)+1 < (qa c i).f4:=by omega
  simp [q_,c1,c2,c3,ints,d4,d5]
 refine Ev.neg ?_
 refine Ev.succ ?_
 simp only [SaS.j0,w]
 refine Ev.neg (Ev.neg (Ev.eq Ev.pure ?_))
 simp [q_,c1,c2,c3,ints]
theorem Sa8.ev {c:List SQ} (h:CV (qs c)) {i:Nat} (hi:i < c.length):Ev (fun k=>Sa8.f k (qa c i).f0 (qa c i).f1 (qa c i).f2 (qa c i).f3 (qa c i).f4 (i:Int)) (ints (nx (q_ (qa c i)) i)):=by
 have hq:=cv_at h hi
 have h6:c.length<=600:=by have:=h.2.1;rwa [qs_len] at this
 simp only [Sa8.f]
 have hn:=next_val hq h6
 unfold nx
 by_cases c1:(qa c i).f0=10
 ·refine Ev.pos (Ev.eq Ev.pure ?_)
  simp [q_,c1,ints]
 refine Ev.neg ?_
 by_cases c2:(qa c i).f0=4
 ·refine Ev.pos (Ev.eq Ev.pure ?_)
  have:=hn (.inl c2)
  simp [q_,c1,c2,ints] at this ⊢
  omega
 refine Ev.neg ?_
 have w:=wrap_up (show i < 9223372036854775807 by omega)
 by_cases c3:(qa c i).f0=5
 ·refine Ev.pos ?_
  have:=hn (.inr c3)
  refine Ev.succ ?_
  simp only [Sa8.j0,w]
  simp only [q_] at this
  by_cases c4:(qa c i).f4 < ((i+1:Nat):Int)
  ·rw [decide_eq_true c4]
   refine Ev.pos (Ev.eq Ev.pure ?_)
   have:(qa c i).f4 < (i:Int)+1:=by omega
   simp [q_,c1,c2,c3,ints,this]
   omega
  rw [decide_eq_false c4]
  refine Ev.neg (Ev.pos ?_)
  have d4:¬ (qa c i).f4 < (i:Int)+1:=by omega
  by_cases c5:(qa c i).f4 > ((i+1:Nat):Int)
  ·refine Ev.pos (Ev.eq Ev.pure ?_)
   have d5:(i:Int)+1 < (qa c i).f4:=by omega
   simp [q_,c1,c2,c3,ints,d4,d5]
   omega
  refine Ev.neg (Ev.eq Ev.pure ?_)
  have d5:¬ (i:Int)+1 < (qa c i).f4:=by omega
  simp [q_,c1,c2,c3,ints,d4,d5]
 refine Ev.neg ?_
 refine Ev.succ ?_
 simp only [Sa8.j0,w]
 refine Ev.neg (Ev.neg (Ev.eq Ev.pure ?_))
 simp [q_,c1,c2,c3,ints]
theorem Sas.e {q:Q} (h:QV q 600):Sas.f q.op q.dst q.a q.b q.n=some (sets q):=by
 simp only [Sas.f,Sau.e,Option.bind_some,qvB_iff.2 h,if_true,sets]
 (repeat' split) <;> first|rfl|(exfalso;omega)
theorem Sab.e (q:Q):Sab.f q.op q.dst q.a q.b q.n=some (sets q):=by
 simp only [Sab.f,sets]
 (repeat' split) <;> first|rfl|(exfalso;omega)
theorem sets_lt {q:Q} {m:Int} (h:QV q m):sets q < 12:=by unfold QV rg at h;unfold sets;split <;> omega
/-- The registers that a quad reads,as a list and as a set. -/
def usesL (q:Q):List Nat :=
 if q.op=2\/q.op=5\/q.op=6\/q.op=9 then [q.a.toNat] else if q.op=3 then (if q.a=q.b then [q.a.toNat] else [(mn q.a q.b).toNat,(mx q.a q.b).toNat]) else []
def usesN (q:Q):Nat:=if q.op=2\/q.op=5\/q.op=6\/q.op=9 then 2 ^ q.a.toNat else if q.op=3 then 2 ^ q.a.toNat ||| 2 ^ q.b.toNat else 0
theorem regs_of {q:Q} {m:Int} (h:QV q m):(0<=q.dst/\q.dst < 12)/\(0<=q.a/\q.a < 12)/\(0<=q.b/\q.b < 12):=by unfold QV rg at h;omega
theorem usesN_lt {q:Q} {m:Int} (h:QV q m):usesN q < 4096:=by
 obtain⟨_,⟨h1,h2⟩,h3,h4⟩:=regs_of h
 unfold usesN
 split
 ·exact pow16 (by omega)
 split
 ·exact or_lt (n:=12) (pow16 (by omega)) (pow16 (by omega))
 decide
theorem usesN_bit {q:Q} {m:Int} (h:QV q m) (r:Nat):(usesN q).testBit r=decide (uses q r):=by
 obtain⟨_,⟨h1,h2⟩,h3,h4⟩:=regs_of h
 apply Bool.eq_iff_iff.2
 rw [decide_eq_true_eq]
 unfold usesN uses
 split
 ·rename_i h
  simp only [Nat.testBit_two_pow,decide_eq_true_eq]
  omega
 split
 ·simp only [Nat.testBit_or,Nat.testBit_two_pow,Bool.or_eq_true,decide_eq_true_eq]
  omega
 simp
 omega
theorem Sat.ev {q:Q} (h:QV q 600):Ev (fun k=>Sat.f k q.op q.dst q.a q.b q.n) (ints (usesL q)):=by
 obtain⟨_,⟨h1,h2⟩,h3,h4⟩:=regs_of h
 simp only [Sat.f,Sau.e]
 refine Ev.some (Ev.pos ?_ (qvB_iff.2 h))
 have j:∀ b:Bool,(b=true↔q.op=2\/q.op=5\/q.op=6\/q.op=9)->Ev (fun k=>Sat.j0 k q.op b q.op q.dst q.a q.b q.n) (ints (usesL q)):=by
  intro b hb
  refine Ev.succ ?_
  simp only [Sat.j0]
  by_cases c1:b=true
  ·refine Ev.pos (Ev.eq Ev.pure ?_)
   unfold usesL
   rw [if_pos (hb.1 c1)]
   simp [ints]
   omega
  refine Ev.neg ?_
  have c0:=fun x=>c1 (hb.2 x)
  by_cases c2:q.op=3
  ·refine Ev.pos ?_
   by_cases c3:q.a=q.b
   ·refine Ev.pos (Ev.eq Ev.pure ?_)
    unfold usesL
    rw [if_neg c0,if_pos c2,if_pos c3]
    simp [ints]
    omega
   refine Ev.neg (Ev.eq Ev.pure ?_)
   unfold usesL
   rw [if_neg c0,if_pos c2,if_neg c3]
   simp only [ints,List.map_cons,List.map_nil,mn,mx]
   (repeat' split) <;> simp <;> omega
  refine Ev.neg (Ev.eq Ev.pure ?_)
  unfold usesL
  rw [if_neg c0,if_neg c2]
  rfl
 by_cases c1:q.op=2
 ·exact Ev.pos (j _ (by simp [c1]))
 refine Ev.neg ?_
 by_cases c2:q.op=5
 ·exact Ev.pos (j _ (by simp [c2]))
 refine Ev.neg ?_
 by_cases c3:q.op=6
 ·exact Ev.pos (j _ (by simp [c3]))
 exact Ev.neg (j _ (by simp only [beq_iff_eq];omega))
theorem Sac.ev {q:Q} {m:Int} (h:QV q m):Ev (fun k=>Sac.f k q.op q.dst q.a q.b q.n) (usesN q:Int):=by
 obtain⟨_,⟨h1,h2⟩,h3,h4⟩:=regs_of h
 have ea:shl .u16 1 q.a=((2 ^ q.a.toNat:Nat):Int):=by have:=shl_one (r:=q.a.toNat) (by omega);rwa [Int.toNat_of_nonneg h1] at this
 have eb:shl .u16 1 q.b=((2 ^ q.b.toNat:Nat):Int):=by have:=shl_one (r:=q.b.toNat) (by omega);rwa [Int.toNat_of_nonneg h3] at this
 have pa:=pow16 (r:=q.a.toNat) (by omega)
 have pb:=pow16 (r:=q.b.toNat) (by omega)
 simp only [Sac.f]
 have j:∀ b:Bool,(b=true↔q.op=2\/q.op=5\/q.op=6\/q.op=9)->Ev (fun k=>Sac.j0 k q.op b q.op q.dst q.a q.b q.n) (usesN q:Int):=by
  intro b hb
  refine Ev.succ ?_
  simp only [Sac.j0,ea,eb]
  by_cases c1:b=true
  ·refine Ev.pos (Ev.pos (Ev.eq Ev.pure ?_))
   unfold usesN
   rw [if_pos (hb.1 c1)]
  have c0:=fun x=>c1 (hb.2 x)
  refine Ev.neg ?_
  by_cases c2:q.op=3
  ·refine Ev.pos (Ev.pos (Ev.pos (Ev.eq Ev.pure ?_)))
   unfold usesN
   rw [if_neg c0,if_pos c2]
   exact bits_or (by omega) (by omega)
  refine Ev.neg (Ev.eq Ev.pure ?_)
  unfold usesN
  rw [if_neg c0,if_neg c2]
  rfl
 by_cases c1:q.op=2
 ·exact Ev.pos (j _ (by simp [c1]))
 refine Ev.neg ?_
 by_cases c2:q.op=5
 ·exact Ev.pos (j _ (by simp [c2]))
 refine Ev.neg ?_
 by_cases c3:q.op=6
 ·exact Ev.pos (j _ (by simp [c3]))
 exact Ev.neg (j _ (by simp only [beq_iff_eq];omega))
theorem sext64 {a:Int} (h:wd a):BitVec.ofInt 64 a=(BitVec.ofInt 32 a).signExtend 64:=by
 obtain⟨h1,h2⟩:=h
 apply BitVec.eq_of_toInt_eq
 rw [BitVec.toInt_signExtend_of_le (by decide),BitVec.toInt_ofInt,BitVec.toInt_ofInt,Int.bmod_def,Int.bmod_def]
 omega
theorem wrap_toInt (x:BitVec 64):IntKind.i64.wrap (x.toNat:Int)=x.toInt:=by
 rw [IntKind.wrap_i64,BitVec.toInt_eq_toNat_bmod,Int.bmod_def]
 have:=x.isLt
 omega
theorem wd_sext (x:BitVec 32):wd (x.signExtend 64).toInt:=by
 rw [BitVec.toInt_signExtend_of_le (by decide)]
 have h1:=BitVec.le_toInt x
 have h2:=BitVec.toInt_lt (x:=x)
 unfold wd
 simp at h1 h2
 omega
theorem wd_or {a b:Int} (ha:wd a) (hb:wd b):wd (Go.bits .or .i64 a b):=by
 show wd (IntKind.i64.wrap ((BitVec.ofInt 64 a ||| BitVec.ofInt 64 b).toNat:Int))
 rw [wrap_toInt,sext64 ha,sext64 hb,<- BitVec.signExtend_or]
 exact wd_sext _
theorem wd_xor {a b:Int} (ha:wd a) (hb:wd b):wd (Go.bits .xor .i64 a b):=by
 show wd (IntKind.i64.wrap ((BitVec.ofInt 64 a ^^^ BitVec.ofInt 64 b).toNat:Int))
 rw [wrap_toInt,sext64 ha,sext64 hb,<- BitVec.signExtend_xor]
 exact wd_sext _
theorem wd_and {a b:Int} (ha:wd a) (hb:wd b):wd (Go.bits .and .i64 a b):=by
 show wd (IntKind.i64.wrap ((BitVec.ofInt 64 a &&& BitVec.ofInt 64 b).toNat:Int))
 rw [wrap_toInt,sext64 ha,sext64 hb,<- BitVec.signExtend_and]
 exact wd_sext _
theorem and31 (b:Int):0<=Go.bits .and .i64 b 31:=by
 show 0<=IntKind.i64.wrap ((BitVec.ofInt 64 b &&& BitVec.ofInt 64 31).toNat:Int)
 have h:(BitVec.ofInt 64 b &&& BitVec.ofInt 64 31).toNat<=31:=by
  rw [BitVec.toNat_and,show (BitVec.ofInt 64 31).toNat=31 from by decide]
  exact Nat.and_le_right
 rw [IntKind.wrap_i64]
 omega
theorem wd_wrap (n:Int):wd (wrap32 n):=by unfold wd wrap32;omega
theorem Say.e (n:Int):Say.f n=some (wrap32 n):=by
 have k:(2147483647 < n.tmod 4294967296->wrap32 n=n.tmod 4294967296 - 4294967296)/\(n.tmod 4294967296 < -2147483648->wrap32 n=n.tmod 4294967296+4294967296)/\(n.tmod 4294967296<=2147483647->-2147483648<=n.tmod 4294967296->wrap32 n=n.tmod 4294967296)/\-4294967296 < n.tmod 4294967296/\n.tmod 4294967296 < 4294967296:=by
  unfold wrap32
  rcases (by omega:n < 0\/0<=n) with h|h
  ·have e:n.tmod 4294967296 = -((-n) % 4294967296):=by
    have:=Int.neg_tmod (-n) 4294967296
    rw [Int.neg_neg] at this
    rw [this,Int.tmod_eq_emod_of_nonneg (by omega)]
   rw [e];omega
  rw [Int.tmod_eq_emod_of_nonneg h];omega
 obtain⟨h1,h2,h3,h4,h5⟩:=k
 unfold Say.f
 split
 ·rename_i g
  rw [h1 g,wrap_id (by omega) (by omega)]
 split
 ·rename_i g
  rw [h2 g,wrap_id (by omega) (by omega)]
 rw [h3 (by omega) (by omega)]
/-- What an operator makes of two words. -/
def ap (o a b:Int):Int :=
 if o=1 then Go.bits .or .i64 a b else if o=2 then Go.bits .xor .i64 a b else if o=3 then Go.bits .and .i64 a b else if o=4 then (if a=b then 1 else 0) else if o=5 then (if a < b then 1 else 0)
 else if o=6 then wrap32 (shl .i64 a (Go.bits .and .i64 b 31)) else if o=7 then shr .i64 a (Go.bits .and .i64 b 31) else if o=8 then wrap32 (wrap64 (a+b)) else if o=9 then wrap32 (wrap64 (a - b)) else if o=10 then wrap32 (wrap64 (a*b))
 else if o=11 then (if b=0 then -1 else wrap32 (wrap64 (Int.tdiv a b))) else (if b=0 then a else Int.tmod a b)
theorem wd_shr {a:Int} (ha:wd a) (b:Int):wd (shr .i64 a b):=by
 unfold shr
 obtain⟨h1,h2⟩:=ha
 generalize min b.toNat (IntKind.bits .i64)=s
 have hp:(0:Int) < 2 ^ s:=Int.pow_pos (by decide)
 have h3:(1:Int)<=2 ^ s:=hp
 have h4:=Int.mul_le_mul_of_nonneg_left h3 (show (0:Int)<=2147483648 by decide)
 constructor
 ·rw [Int.le_ediv_iff_mul_le hp]
  omega
 apply Int.le_of_lt_add_one
 rw [Int.ediv_lt_iff_lt_mul hp]
 omega
theorem wd_tmod {a:Int} (ha:wd a) (b:Int):wd (Int.tmod a b):=by
 obtain⟨h1,h2⟩:=ha
 have h3:=Int.natAbs_tmod a b
 have h4:=Nat.mod_le a.natAbs b.natAbs
 unfold wd
 rcases (by omega:a < 0\/0<=a) with h|h
 ·have h5:=Int.tmod_nonneg b (show 0<=-a by omega)
  rw [Int.neg_tmod] at h5
  omega
 omega
theorem wd_flag (p:Prop) [Decidable p]:wd (if p then 1 else 0):=by
 by_cases h:p
 ·rw [if_pos h];decide
 rw [if_neg h];decide
theorem wd_ite {p:Prop} [Decidable p] {x y:Int} (hx:wd x) (hy:wd y):wd (if p then x else y):=by
 by_cases h:p
 ·rw [if_pos h];exact hx
 rw [if_neg h];exact hy
theorem wd_ap {o a b:Int} (ha:wd a) (hb:wd b):wd (ap o a b) :=
 wd_ite (wd_or ha hb) (wd_ite (wd_xor ha hb) (wd_ite (wd_and ha hb) (wd_ite (wd_flag _) (wd_ite (wd_flag _) (wd_ite (wd_wrap _) (wd_ite (wd_shr ha _) (wd_ite (wd_wrap _) (wd_ite (wd_wrap _) (wd_ite (wd_wrap _) (wd_ite (wd_ite (by decide) (wd_wrap _)) (wd_ite ha (wd_tmod ha _))))))))))))
theorem Sad.e {o a b:Int} (ho:1<=o/\o<=12) (ha:wd a) (hb:wd b):Ev (fun k=>Sad.f k o a b) (ap o a b,true):=by
 simp only [Sad.f,Saq.f,Sax.f,Sbl.e,Option.bind_some]
 refine Ev.pos (Ev.pos ?_ (decide_eq_true ha)) (decide_eq_true ho)
 refine Ev.succ ?_
 rw [decide_eq_true (show -2147483648<=b/\b<=2147483647 from hb)]
 simp only [Sad.j0,SaQ.f,SaN.f,SaP.f,SaO.f,Say.e,Option.bind_some,if_pos (and31 b),Bool.not_true,Bool.false_eq_true,if_false]
 refine Ev.const ?_
 unfold ap
 by_cases c1:o=1
 ·rw [if_pos c1,if_pos c1]
 rw [if_neg c1,if_neg c1]
 by_cases c2:o=2
 ·rw [if_pos c2,if_pos c2]
 rw [if_neg c2,if_neg c2]
 by_cases c3:o=3
 ·rw [if_pos c3,if_pos c3]
 rw [if_neg c3,if_neg c3]
 by_cases c4:o=4
 ·rw [if_pos c4,if_pos c4]
  by_cases e:a=b <;> simp [e]
 rw [if_neg c4,if_neg c4]
 by_cases c5:o=5
 ·rw [if_pos c5,if_pos c5]
  by_cases e:a < b <;> simp [e]
 rw [if_neg c5,if_neg c5]
 by_cases c6:o=6
 ·rw [if_pos c6,if_pos c6]
 rw [if_neg c6,if_neg c6]
 by_cases c7:o=7
 ·rw [if_pos c7,if_pos c7]
  simp
 rw [if_neg c7,if_neg c7]
 by_cases c8:o=8
 ·rw [if_pos c8,if_pos c8]
 rw [if_neg c8,if_neg c8]
 by_cases c9:o=9
 ·rw [if_pos c9,if_pos c9]
 rw [if_neg c9,if_neg c9]
 by_cases c10:o=10
 ·rw [if_pos c10,if_pos c10]
 rw [if_neg c10,if_neg c10]
 by_cases c11:o=11
 ·rw [if_pos c11,if_pos c11]
  by_cases e:b=0 <;> simp [e]
 rw [if_neg c11,if_neg c11]
 by_cases e:b=0 <;> simp [e]
theorem getD_set {α:Type} (l:List α) (i j:Nat) (x d:α) (h:i < l.length):(l.set i x).getD j d=if j=i then x else l.getD j d:=by
 simp only [List.getD_eq_getElem?_getD,List.getElem?_set]
 by_cases e:i=j
 ·subst e
  simp [h]
 have:¬ j=i:=fun x=>e x.symm
 simp [e,this]
theorem getD_mem {l:List Nat} {i:Nat} (h:i < l.length):l.getD i 0∈l:=by
 rw [List.getD_eq_getElem?_getD,List.getElem?_eq_getElem h]
 exact List.getElem_mem h
/-- A table of sets. -/
def Tab (n:Nat) (L:List Nat):Prop:=L.length=n/\∀ i,L.getD i 0 < 4096
theorem Tab.set {n:Nat} {L:List Nat} (h:Tab n L) (i x:Nat) (hx:x < 4096):Tab n (L.set i x):=by
 refine⟨by rw [List.length_set];exact h.1,fun j=>?_⟩
 by_cases hi:i < L.length
 ·rw [getD_set L i j x 0 hi]
  split
  ·exact hx
  exact h.2 j
 rw [List.set_eq_of_length_le (by omega)]
 exact h.2 j
def rows (L:List Nat):List (List Bool):=L.map row
theorem rows_len (L:List Nat):(rows L).length=L.length:=by simp [rows]
theorem rd_rows {L:List Nat} {i:Nat} (h:i < L.length):rd_L6 (rows L) (i:Int)=row (L.getD i 0):=by
 simp [rd_L6,rows,List.getD_eq_getElem?_getD,List.getElem?_eq_getElem h]
theorem rows_set (L:List Nat) (i x:Nat):(rows L).set i (row x)=rows (L.set i x):=by simp [rows,List.map_set]
theorem ints_set (L:List Nat) (i x:Nat):(ints L).set i (x:Int)=ints (L.set i x):=by simp [ints,List.map_set]
def joinL (L:List Nat) (s:Nat) (ns:List Nat):Nat:=ns.foldl (fun s j=>s ||| L.getD j 0) s
theorem joinL_lt {n:Nat} {L:List Nat} (h:Tab n L):∀ (ns:List Nat) (s:Nat),s < 4096->joinL L s ns < 4096
 | [],s,hs=>hs
 | j :: ns,s,hs=>joinL_lt h ns (s ||| L.getD j 0) (or_lt (n:=12) hs (h.2 j))
theorem joinL_bit (L:List Nat) (r:Nat):∀ (ns:List Nat) (s:Nat),(joinL L s ns).testBit r=true↔s.testBit r=true\/∃ j∈ns,(L.getD j 0).testBit r=true
 | [],s=>by simp [joinL]
 | j :: ns,s=>by
  have:=joinL_bit L r ns (s ||| L.getD j 0)
  rw [show joinL L s (j :: ns)=joinL L (s ||| L.getD j 0) ns from rfl,this]
  simp only [Nat.testBit_or,Bool.or_eq_true,List.mem_cons,exists_eq_or_imp,or_assoc]
/-- What is live behind a quad,and before it. -/
def aft (q:Q) (i:Nat) (L:List Nat):Nat:=joinL L 0 (nx q i)
def bef (q:Q) (s:Nat):Nat:=(if 0<=sets q then sdiff s (2 ^ (sets q).toNat) else s) ||| usesN q
def bf (c:List SQ) (L:List Nat) (i:Nat):Nat:=bef (q_ (qa c i)) (aft (q_ (qa c i)) i L)
theorem aft_lt {n:Nat} {L:List Nat} (h:Tab n L) (q:Q) (i:Nat):aft q i L < 4096:=joinL_lt h _ _ (by decide)
theorem cut_lt {q:Q} {s:Nat} (hs:s < 4096):(if 0<=sets q then sdiff s (2 ^ (sets q).toNat) else s) < 4096:=by
 split
 ·exact Nat.lt_of_le_of_lt sdiff_le hs
 exact hs
theorem bef_lt {q:Q} {m:Int} (h:QV q m) {s:Nat} (hs:s < 4096):bef q s < 4096:=or_lt (n:=12) (cut_lt hs) (usesN_lt h)
theorem bef_bit {q:Q} {m:Int} (h:QV q m) {s:Nat} (hs:s < 4096) (r:Nat):(bef q s).testBit r=true↔(s.testBit r=true/\sets q≠r)\/uses q r:=by
 unfold bef
 rw [Nat.testBit_or,usesN_bit h,Bool.or_eq_true,decide_eq_true_eq]
 refine or_congr ?_ Iff.rfl
 have h12:=sets_lt h
 split
 ·rename_i h0
  have:=pow16 (r:=(sets q).toNat) (by omega)
  rw [sdiff_bit (by omega) (by omega),Nat.testBit_two_pow]
  simp only [Bool.and_eq_true,Bool.not_eq_true',decide_eq_false_iff_not]
  refine and_congr Iff.rfl ?_
  omega
 rename_i h0
 refine⟨fun x=>⟨x,?_⟩,fun x=>x.1⟩
 omega
theorem SaU.in {L ns:List Nat} {n:Nat} (hL:Tab n L) {x9:Nat} (h9:x9 < ns.length) (hn:ns.getD x9 0 < L.length) {s:Nat} {v:List Bool}
  (g:Ev (fun k=>SaU.l0 k (rows L) (row (s ||| L.getD (ns.getD x9 0) 0)) (ints ns) (wrap64 ((x9:Int)+1))) v) :
  ∀ (d p:Nat),p+d=12->∀ l:List Bool,l.length=12->(∀ r,r < 12->l.getD r false=if r < p then (s ||| L.getD (ns.getD x9 0) 0).testBit r else s.testBit r)->Ev (fun k=>SaU.l1 k (rows L) l (ints ns) (x9:Int) (p:Int)) v
 | 0,p,hp,l,hl,hr=>by
  refine Ev.succ ?_
  simp only [SaU.l1]
  refine Ev.neg ?_
  rw [row_ext hl (s:=s ||| L.getD (ns.getD x9 0) 0) (fun r h=>by rw [hr r h,if_pos (by omega)])]
  exact g
 | d+1,p,hp,l,hl,hr=>by
  refine Ev.succ ?_
  simp only [SaU.l1,rdOf_nat,wrap_up (show p < 9223372036854775807 by omega),rd_ints,rd_rows hn,row_get _ p (by omega),row_len,rows_len,ints_len,Int.toNat_natCast]
  refine Ev.pos (Ev.pos (Ev.pos ?_))
  have hlp:=hr p (by omega)
  rw [if_neg (by omega)] at hlp
  have key:∀ b:Bool,b=(s ||| L.getD (ns.getD x9 0) 0).testBit p->Ev (fun k=>SaU.l1 k (rows L) (l.set p b) (ints ns) (x9:Int) ((p+1:Nat):Int)) v:=by
   intro b hb
   refine SaU.in hL h9 hn g d (p+1) (by omega) _ (by rw [List.length_set];exact hl) (fun r h=>?_)
   rw [getD_set l p r b false (by omega)]
   by_cases e:r=p
   ·subst e
    rw [if_pos rfl,if_pos (by omega),hb]
   rw [if_neg e,hr r h]
   by_cases e2:r < p
   ·rw [if_pos e2,if_pos (by omega)]
   rw [if_neg e2,if_neg (by omega)]
  by_cases hb:l.getD p false=true
  ·refine Ev.pos (key true ?_)
   rw [Nat.testBit_or,<- hlp,hb]
   rfl
  refine Ev.neg (Ev.pos (Ev.pos (Ev.pos (Ev.pos (Ev.pos (key _ ?_))))))
  rw [Nat.testBit_or,<- hlp,Bool.eq_false_iff.2 hb]
  rfl
theorem SaU.out {L ns:List Nat} {n:Nat} (hL:Tab n L) (h9:ns.length < 9223372036854775807) (hn:∀ j∈ns,j < n):∀ (d p:Nat),p+d=ns.length->∀ s:Nat,Ev (fun k=>SaU.l0 k (rows L) (row s) (ints ns) (p:Int)) (row (joinL L s (ns.drop p)))
 | 0,p,hp,s=>by
  refine Ev.succ ?_
  simp only [SaU.l0,ints_len]
  refine Ev.neg ?_
  rw [List.drop_eq_nil_of_le (by omega)]
  exact Ev.pure
 | d+1,p,hp,s=>by
  refine Ev.succ ?_
  simp only [SaU.l0,ints_len]
  refine Ev.pos ?_
  have hm:ns.getD p 0 < n:=hn _ (getD_mem (by omega))
  refine SaU.in hL (by omega) (by rw [hL.1];exact hm) ?_ 12 0 rfl (row s) (row_len s) (fun r h=>by rw [row_get s r h,if_neg (by omega)])
  rw [wrap_up (by omega),List.drop_eq_getElem_cons (show p < ns.length by omega)]
  have:=SaU.out hL h9 hn d (p+1) (by omega) (s ||| L.getD (ns.getD p 0) 0)
  rw [show ns.getD p 0=ns[p]'(by omega) from by rw [List.getD_eq_getElem?_getD,List.getElem?_eq_getElem (by omega)];rfl] at this ⊢
  exact this
theorem nx_len (q:Q) (i:Nat):(nx q i).length<=2:=by
 unfold nx
 (repeat' split) <;> simp
theorem nx_in {c:List SQ} (h:CV (qs c)) {i:Nat} (hi:i < c.length):∀ j∈nx (q_ (qa c i)) i,j < c.length:=by
 intro j hj
 have:=nx_lt h (i:=i) (j:=j) (by rw [qs_len];exact hi) (by rw [at_qs];exact hj)
 rwa [qs_len] at this
theorem SaU.ev {c:List SQ} (h:CV (qs c)) {L:List Nat} (hL:Tab c.length L) {i:Nat} (hi:i < c.length):Ev (fun k=>SaU.f k c (rows L) (i:Int)) (row (aft (q_ (qa c i)) i L)):=by
 simp only [SaU.f]
 refine Ev.pos (Ev.bind (SaS.ev h hi) ?_)
 rw [<- row_zero]
 have hl:=nx_len (q_ (qa c i)) i
 exact SaU.out hL (by omega) (nx_in h hi) (nx (q_ (qa c i)) i).length 0 (by omega) 0
theorem Sa7.out {L ns:List Nat} {n:Nat} (hL:Tab n L) (h9:ns.length < 9223372036854775807) (hn:∀ j∈ns,j < n):∀ (d p:Nat),p+d=ns.length->∀ s:Nat,s < 4096->Ev (fun k=>Sa7.l0 k (ints L) (s:Int) (ints ns) (ns.length:Int) (p:Int)) ((joinL L s (ns.drop p):Nat):Int)
 | 0,p,hp,s,hs=>by
  refine Ev.succ ?_
  simp only [Sa7.l0,ints_len]
  refine Ev.neg ?_
  rw [List.drop_eq_nil_of_le (by omega)]
  exact Ev.pure
 | d+1,p,hp,s,hs=>by
  refine Ev.succ ?_
  have hm:ns.getD p 0 < n:=hn _ (getD_mem (by omega))
  have hL1:=hL.1
  have hL2:=hL.2 (ns.getD p 0)
  simp only [Sa7.l0,ints_len,rd_ints,wrap_up (show p < 9223372036854775807 by omega),bits_or (show s < 65536 by omega) (show L.getD (ns.getD p 0) 0 < 65536 by omega)]
  refine Ev.pos (Ev.pos (Ev.pos (Ev.pos (Ev.pos ?_))))
  have:=Sa7.out hL h9 hn d (p+1) (by omega) (s ||| L.getD (ns.getD p 0) 0) (or_lt (n:=12) hs hL2)
  rw [List.drop_eq_getElem_cons (show p < ns.length by omega)]
  rw [show ns.getD p 0=ns[p]'(by omega) from by rw [List.getD_eq_getElem?_getD,List.getElem?_eq_getElem (by omega)];rfl] at this ⊢
  exact this
theorem Sa7.ev {c:List SQ} (h:CV (qs c)) {L:List Nat} (hL:Tab c.length L) {i:Nat} (hi:i < c.length):Ev (fun k=>Sa7.f k c (ints L) (i:Int)) ((aft (q_ (qa c i)) i L:Nat):Int):=by
 simp only [Sa7.f,rd_qa]
 refine Ev.pos (Ev.pos (Ev.bind (Sa8.ev h hi) ?_))
 have hl:=nx_len (q_ (qa c i)) i
 rw [ints_len]
 exact Sa7.out hL (by omega) (nx_in h hi) (nx (q_ (qa c i)) i).length 0 (by omega) 0 (by decide)
theorem row_on {s u:Nat} (h:u < 12):(row s).set u true=row (s ||| 2 ^ u):=by
 refine row_ext (by rw [List.length_set,row_len]) fun r hr=>?_
 rw [getD_set _ _ _ _ _ (by rw [row_len];exact h),row_get s r hr,Nat.testBit_or,Nat.testBit_two_pow]
 by_cases e:r=u
 ·subst e
  simp
 have:¬ u=r:=fun x=>e x.symm
 simp [e,this]
theorem row_off {s u:Nat} (hs:s < 4096) (h:u < 12):(row s).set u false=row (sdiff s (2 ^ u)):=by
 have:=pow16 h
 refine row_ext (by rw [List.length_set,row_len]) fun r hr=>?_
 rw [getD_set _ _ _ _ _ (by rw [row_len];exact h),row_get s r hr,sdiff_bit (by omega) (by omega),Nat.testBit_two_pow]
 by_cases e:r=u
 ·subst e
  simp
 have:¬ u=r:=fun x=>e x.symm
 simp [e,this]
def onL (s:Nat) (us:List Nat):Nat:=us.foldl (fun s u=>s ||| 2 ^ u) s
theorem SaV.out {us:List Nat} (h9:us.length < 9223372036854775807) (hu:∀ u∈us,u < 12):∀ (d p:Nat),p+d=us.length->∀ s:Nat,Ev (fun k=>SaV.l0 k (row s) (ints us) (p:Int)) (row (onL s (us.drop p)))
 | 0,p,hp,s=>by
  refine Ev.succ ?_
  simp only [SaV.l0,ints_len]
  refine Ev.neg ?_
  rw [List.drop_eq_nil_of_le (by omega)]
  exact Ev.pure
 | d+1,p,hp,s=>by
  refine Ev.succ ?_
  have hm:us.getD p 0 < 12:=hu _ (getD_mem (by omega))
  simp only [SaV.l0,ints_len,rd_ints,wrap_up (show p < 9223372036854775807 by omega),row_len,Int.toNat_natCast,row_on hm]
  refine Ev.pos (Ev.pos (Ev.pos (Ev.pos ?_)))
  have:=SaV.out h9 hu d (p+1) (by omega) (s ||| 2 ^ us.getD p 0)
  rw [List.drop_eq_getElem_cons (show p < us.length by omega)]
  rw [show us.getD p 0=us[p]'(by omega) from by rw [List.getD_eq_getElem?_getD,List.getElem?_eq_getElem (by omega)];rfl] at this ⊢
  exact this
theorem usesL_lt {q:Q} {m:Int} (h:QV q m):∀ u∈usesL q,u < 12:=by
 obtain⟨_,⟨h1,h2⟩,h3,h4⟩:=regs_of h
 unfold usesL
 intro u hu
 have e1:mn q.a q.b=q.a\/mn q.a q.b=q.b:=by unfold mn;split <;> simp
 have e2:mx q.a q.b=q.a\/mx q.a q.b=q.b:=by unfold mx;split <;> simp
 (repeat' split at hu) <;> simp at hu <;> omega
theorem usesL_len (q:Q):(usesL q).length<=2:=by
 unfold usesL
 (repeat' split) <;> simp
theorem onL_uses {q:Q} {m:Int} (h:QV q m) (s:Nat):onL s (usesL q)=s ||| usesN q:=by
 obtain⟨_,⟨h1,h2⟩,h3,h4⟩:=regs_of h
 unfold usesL usesN
 split
 ·rfl
 split
 ·split
  ·rename_i e
   rw [show q.b=q.a from e.symm,Nat.or_self]
   rfl
  show (s ||| _) ||| _=_
  rw [Nat.or_assoc]
  congr 1
  unfold mn mx
  split
  ·rename_i hlt
   rw [if_neg (by omega),Nat.or_comm]
  rename_i hlt
  rw [if_pos (by omega)]
 simp [onL]
theorem SaV.ev {q:Q} (h:QV q 600) {s:Nat} (hs:s < 4096):Ev (fun k=>SaV.f k q.op q.dst q.a q.b q.n (row s)) (row (bef q s)):=by
 have h12:=sets_lt h
 have hl:=usesL_len q
 simp only [SaV.f,Sas.e h,List.nil_append]
 refine Ev.some (Ev.pos (Ev.some (Ev.some ?_)) (by rw [row_len];simp))
 simp only [List.nil_append]
 have j:∀ t:Nat,Ev (fun k=>SaV.j0 k (row t) q.op q.dst q.a q.b q.n) (row (t ||| usesN q)):=by
  intro t
  refine Ev.succ ?_
  simp only [SaV.j0]
  refine Ev.bind (Sat.ev h) ?_
  rw [<- onL_uses h]
  exact SaV.out (by omega) (usesL_lt h) (usesL q).length 0 (by omega) t
 unfold bef
 by_cases h0:sets q>=0
 ·refine Ev.pos (Ev.some (Ev.pos (Ev.pos ?_ (by rw [row_len];omega))))
  rw [if_pos h0,row_off hs (by omega)]
  exact j _
 refine Ev.neg ?_
 rw [if_neg (by omega)]
 exact j s
theorem SaX.out {a b:List Bool} (h9:a.length < 9223372036854775807) (hl:a.length=b.length):∀ (d p:Nat),p+d=a.length->(∀ r,r < p->a.getD r false=b.getD r false)->Ev (fun k=>SaX.l0 k a b (p:Int)) (decide (a=b))
 | 0,p,hp,he=>by
  refine Ev.succ ?_
  simp only [SaX.l0]
  refine Ev.neg (Ev.const (some_bool ?_))
  have:a=b:=by
   apply List.ext_getElem hl
   intro i h1 h2
   have:=he i (by omega)
   rwa [List.getD_eq_getElem?_getD,List.getD_eq_getElem?_getD,List.getElem?_eq_getElem h1,List.getElem?_eq_getElem h2] at this
  simp [this]
 | d+1,p,hp,he=>by
  refine Ev.succ ?_
  simp only [SaX.l0,rdOf_nat,wrap_up (show p < 9223372036854775807 by omega)]
  refine Ev.pos (Ev.pos (Ev.pos ?_))
  by_cases e:a.getD p false=b.getD p false
  ·refine Ev.neg (SaX.out h9 hl d (p+1) (by omega) fun r hr=>?_) (by simpa using e)
   by_cases h:r=p
   ·rw [h]
    exact e
   exact he r (by omega)
  refine Ev.pos (Ev.const (some_bool ?_)) (by simpa using e)
  simp only [Bool.false_eq_true,decide_eq_true_eq,false_iff]
  intro x
  exact e (by rw [x])
theorem SaX.ev {s t:Nat} (hs:s < 4096) (ht:t < 4096):Ev (fun k=>SaX.f k (row s) (row t)) (decide (s=t)):=by
 simp only [SaX.f]
 refine Ev.eq (SaX.out (by rw [row_len];omega) (by rw [row_len,row_len]) 12 0 (by rw [row_len]) (by omega)) ?_
 exact decide_eq_decide.2 ⟨row_inj hs ht,fun h=>by rw [h]⟩
/-- One round,from the quad i - 1 down. -/
def rnd (c:List SQ):Nat->List Nat->Bool->List Nat × Bool
 | 0,L,b=>(L,b)
 | i+1,L,b=>rnd c i (L.set i (bf c L i)) (b || !decide (bf c L i=L.getD i 0))
theorem set_same {L:List Nat} {i:Nat} (h:i < L.length):L.set i (L.getD i 0)=L:=by
 apply List.ext_getElem (by simp)
 intro j h1 h2
 rw [List.getElem_set]
 split
 ·rename_i e
  subst e
  rw [List.getD_eq_getElem?_getD,List.getElem?_eq_getElem h]
  rfl
 rfl
theorem bf_lt {c:List SQ} (h:CV (qs c)) {L:List Nat} (hL:Tab c.length L) {i:Nat} (hi:i < c.length):bf c L i < 4096:=bef_lt (cv_at h hi) (aft_lt hL _ _)
theorem cv600 {c:List SQ} (h:CV (qs c)):1<=c.length/\c.length<=600:=by
 have h1:=h.1
 have h2:=h.2.1
 rw [qs_len] at h1 h2
 exact⟨h1,h2⟩
theorem qa600 {c:List SQ} (h:CV (qs c)) {i:Nat} (hi:i < c.length):QV (q_ (qa c i)) 600:=qv600 (cv_at h hi) (cv600 h).2
theorem SaW.out {c:List SQ} (h:CV (qs c)):∀ (i:Nat),i<=c.length->∀ (L:List Nat) (b:Bool),Tab c.length L->Ev (fun k=>SaW.l0 k c (rows L) b ((i:Int) - 1)) ((rnd c i L b).2,rows (rnd c i L b).1)
 | 0,hi,L,b,hL=>by
  refine Ev.succ ?_
  simp only [SaW.l0]
  exact Ev.neg Ev.pure
 | i+1,hi,L,b,hL=>by
  refine Ev.succ ?_
  have h6:=cv600 h
  have hL1:=hL.1
  simp only [SaW.l0,show ((i+1:Nat):Int) - 1=(i:Int) from by omega,rd_qa,rows_len,wrap_id (show -9223372036854775808<=(i:Int) - 1 by omega) (show (i:Int) - 1 < 9223372036854775808 by omega),rd_rows (show i < L.length by omega),Int.toNat_natCast]
  refine Ev.pos (Ev.pos (Ev.pos (Ev.bind (SaU.ev h hL (by omega)) (Ev.bind (SaV.ev (q:=q_ (qa c i)) (qa600 h (by omega)) (aft_lt hL _ _)) (Ev.pos (Ev.bind (SaX.ev (bf_lt h hL (by omega)) (hL.2 i)) ?_))))))
  have hT:=hL.set i (bf c L i) (bf_lt h hL (by omega))
  by_cases e:bf c L i=L.getD i 0
  ·refine Ev.pos ?_ (decide_eq_true e)
   have:=SaW.out h i (by omega) L b hL
   simp only [rnd]
   rw [e,set_same (by omega)]
   simpa using this
  refine Ev.neg ?_ (fun x=>e (of_decide_eq_true x))
  have:=SaW.out h i (by omega) _ true hT
  simp only [rnd]
  rw [show (b || !decide (bf c L i=L.getD i 0))=true from by rw [decide_eq_false e];simp]
  rw [show (rows L).set i (row (bef (q_ (qa c i)) (aft (q_ (qa c i)) i L)))=rows (L.set i (bf c L i)) from rows_set _ _ _]
  exact this
theorem Sa6.out {c:List SQ} (h:CV (qs c)) {v:List Int}:∀ (i:Nat),i<=c.length->∀ (L:List Nat) (b:Bool),Tab c.length L->Ev (fun k=>Sa6.l0 k c (ints (rnd c i L b).1) (rnd c i L b).2) v->Ev (fun k=>Sa6.l1 k c (ints L) b ((i:Int) - 1)) v
 | 0,hi,L,b,hL,g=>by
  refine Ev.succ ?_
  simp only [Sa6.l1]
  exact Ev.neg g
 | i+1,hi,L,b,hL,g=>by
  refine Ev.succ ?_
  have h6:=cv600 h
  have hL1:=hL.1
  have hq:=cv_at h (show i < c.length by omega)
  have hu:=usesN_lt hq
  have h12:=sets_lt hq
  have hb:=bf_lt h hL (show i < c.length by omega)
  have ha:=aft_lt hL (q_ (qa c i)) i
  have hT:=hL.set i (bf c L i) hb
  have ih:=fun b'=>Sa6.out (v:=v) h i (by omega) (L.set i (bf c L i)) b' hT
  have fin:Ev (fun k=>if ((bf c L i:Nat):Int)=rd (ints L) (i:Int) then Sa6.l1 k c (ints L) b (wrap64 ((i:Int) - 1)) else Sa6.l1 k c ((ints L).set ((i:Int)).toNat ((bf c L i:Nat):Int)) true (wrap64 ((i:Int) - 1))) v:=by
   rw [rd_ints,Int.toNat_natCast,ints_set,wrap_id (by omega) (by omega)]
   simp only [rnd] at g
   by_cases e:bf c L i=L.getD i 0
   ·refine Ev.pos ?_ (by omega)
    have:=ih b
    rw [e,set_same (by omega)] at this
    refine this ?_
    rw [e,set_same (by omega)] at g
    simpa using g
   refine Ev.neg ?_ (by omega)
   refine ih true ?_
   rw [show (b || !decide (bf c L i=L.getD i 0))=true from by rw [decide_eq_false e];simp] at g
   exact g
  simp only [Sa6.l1,show ((i+1:Nat):Int) - 1=(i:Int) from by omega,rd_qa]
  refine Ev.pos (Ev.bind (Sa7.ev h hL (by omega)) (Ev.pos (Ev.pos (Ev.bind (Ev.const (Sab.e (q_ (qa c i)))) ?_))))
  by_cases h0:sets (q_ (qa c i))>=0
  ·refine Ev.pos (Ev.pos (Ev.bind (Sac.ev (q:=q_ (qa c i)) hq) (Ev.pos ?_ (by rw [ints_len];omega))))
   have hp:=pow16 (r:=(sets (q_ (qa c i))).toNat) (by omega)
   have es:=shl_one (r:=(sets (q_ (qa c i))).toNat) (by omega)
   rw [Int.toNat_of_nonneg (by omega)] at es
   have hd:=Nat.lt_of_le_of_lt (sdiff_le (b:=2 ^ (sets (q_ (qa c i))).toNat)) ha
   rw [es,bits_andNot (by omega) (by omega),bits_or (by omega) (by omega)]
   have eb:sdiff (aft (q_ (qa c i)) i L) (2 ^ (sets (q_ (qa c i))).toNat) ||| usesN (q_ (qa c i))=bf c L i:=by
    unfold bf bef
    rw [if_pos (by omega)]
   rw [eb]
   exact fin
  refine Ev.neg (Ev.bind (Sac.ev (q:=q_ (qa c i)) hq) (Ev.pos ?_ (by rw [ints_len];omega)))
  rw [bits_or (by omega) (by omega)]
  have eb:aft (q_ (qa c i)) i L ||| usesN (q_ (qa c i))=bf c L i:=by
   unfold bf bef
   rw [if_neg (by omega)]
  rw [eb]
  exact fin
abbrev SF:=S118
theorem SF.ext' {a b:SF} (h:a.f0=b.f0) (g:a.f1=b.f1):a=b:=by cases a;cases b;simp only [S118.mk.injEq];exact⟨h,g⟩
instance:DecidableEq SF:=fun a b=>if h:a.f0=b.f0/\a.f1=b.f1 then .isTrue (SF.ext' h.1 h.2) else .isFalse (fun e=>h (by rw [e];exact⟨rfl,rfl⟩))
def zF:SF:=⟨0,0⟩
def fa (l:List SF) (r:Nat):SF:=l.getD r zF
def okF (f:SF):Prop:=(f.f0=0/\f.f1=0)\/(f.f0=1/\wd f.f1)\/(f.f0=2/\f.f1=0)
def jF (a b:SF):SF:=if a.f0=0 then b else if b.f0=0 then a else if a=b then a else ⟨2,0⟩
def leF (a b:SF):Prop:=a.f0=0\/a=b\/b.f0=2
theorem any_eq {f:SF} (h:okF f) (e:f.f0=2):f=⟨2,0⟩:=SF.ext' e (by unfold okF at h;simp only;omega)
theorem none_eq {f:SF} (h:okF f) (e:f.f0=0):f=⟨0,0⟩:=SF.ext' e (by unfold okF at h;simp only;omega)
theorem leF_refl (a:SF):leF a a:=.inr (.inl rfl)
theorem leF_trans {a b c:SF} (h:leF a b) (g:leF b c):leF a c:=by
 rcases h with h|h|h
 ·exact .inl h
 ·rw [h];exact g
 rcases g with g|g|g
 ·omega
 ·rw [<- g];exact .inr (.inr h)
 exact .inr (.inr g)
theorem leF_anti {a b:SF} (ha:okF a) (hb:okF b) (h:leF a b) (g:leF b a):a=b:=by
 rcases h with h|h|h
 ·rcases g with g|g|g
  ·rw [none_eq ha h,none_eq hb g]
  ·exact g.symm
  omega
 ·exact h
 rcases g with g|g|g
 ·omega
 ·exact g.symm
 rw [any_eq ha g,any_eq hb h]
theorem jF_ub1 (a b:SF):leF a (jF a b):=by
 unfold jF
 split
 ·rename_i h
  exact .inl h
 split
 ·exact leF_refl _
 split
 ·exact leF_refl _
 exact .inr (.inr rfl)
theorem jF_ub2 (a b:SF):leF b (jF a b):=by
 unfold jF
 split
 ·exact leF_refl _
 split
 ·rename_i h
  exact .inl h
 split
 ·rename_i h
  rw [h]
  exact leF_refl _
 exact .inr (.inr rfl)
theorem jF_lub {a b c:SF} (h:leF a c) (g:leF b c):leF (jF a b) c:=by
 unfold jF
 split
 ·exact g
 split
 ·exact h
 split
 ·exact h
 rcases h with h|h|h
 ·contradiction
 ·rcases g with g|g|g
  ·contradiction
  ·rename_i x
   exact absurd (h.trans g.symm) x
  exact .inr (.inr g)
 exact .inr (.inr h)
theorem jF_ok {a b:SF} (ha:okF a) (hb:okF b):okF (jF a b):=by
 unfold jF
 split
 ·exact hb
 split
 ·exact ha
 split
 ·exact ha
 exact .inr (.inr ⟨rfl,rfl⟩)
theorem leF_kind {a b:SF} (ha:okF a) (hb:okF b) (h:leF a b):a.f0.toNat<=b.f0.toNat/\(a≠b->a.f0.toNat < b.f0.toNat):=by
 rcases h with h|h|h
 ·refine⟨by omega,fun e=>?_⟩
  have:b.f0≠0:=fun x=>e (by rw [none_eq ha h,none_eq hb x])
  unfold okF at hb
  omega
 ·rw [h]
  exact⟨Nat.le_refl _,fun e=>absurd rfl e⟩
 refine⟨by unfold okF at ha;omega,fun e=>?_⟩
 have:a.f0≠2:=fun x=>e (by rw [any_eq ha x,any_eq hb h])
 unfold okF at ha
 omega
def mk12 {α:Type} (f:Nat->α):List α:=(List.range 12).map f
theorem mk12_len {α:Type} (f:Nat->α):(mk12 f).length=12:=by simp [mk12]
theorem mk12_get {α:Type} (f:Nat->α) (d:α) {r:Nat} (h:r < 12):(mk12 f).getD r d=f r:=by simp [mk12,h]
theorem ext12 {α:Type} (d:α) {a b:List α} (ha:a.length=12) (hb:b.length=12) (h:∀ r,r < 12->a.getD r d=b.getD r d):a=b:=by
 apply List.ext_getElem (ha.trans hb.symm)
 intro i h1 h2
 have:=h i (by omega)
 rwa [List.getD_eq_getElem?_getD,List.getD_eq_getElem?_getD,List.getElem?_eq_getElem h1,List.getElem?_eq_getElem h2] at this
def sumTo (f:Nat->Nat):Nat->Nat
 | 0=>0
 | n+1=>sumTo f n+f n
theorem sumTo_le {f g:Nat->Nat}:∀ n,(∀ r,r < n->f r<=g r)->sumTo f n<=sumTo g n
 | 0,_=>Nat.le_refl _
 | n+1,h=>Nat.add_le_add (sumTo_le n fun r hr=>h r (by omega)) (h n (by omega))
theorem sumTo_lt {f g:Nat->Nat}:∀ n,(∀ r,r < n->f r<=g r)->∀ r,r < n->f r < g r->sumTo f n < sumTo g n
 | 0,_,r,h,_=>by omega
 | n+1,h,r,hr,hl=>by
  unfold sumTo
  by_cases e:r=n
  ·have:=sumTo_le n fun r hr=>h r (by omega)
   rw [e] at hl
   omega
  have:=sumTo_lt n (fun r hr=>h r (by omega)) r (by omega) hl
  have:=h n (by omega)
  omega
theorem sumTo_const (k:Nat):∀ n,sumTo (fun _=>k) n=n*k
 | 0=>by simp [sumTo]
 | n+1=>by rw [sumTo,sumTo_const k n];rw [Nat.succ_mul]
theorem fa_set {l:List SF} (hl:l.length=12) {s r:Nat} (hs:s < 12) (v:SF):fa (l.set s v) r=if r=s then v else fa l r:=getD_set l s r v zF (by omega)
def okR (l:List SF):Prop:=l.length=12/\(∀ r,r < 12->okF (fa l r))/\((∀ r,r < 12->(fa l r).f0=0)\/(∀ r,r < 12->(fa l r).f0≠0))
def jR (a b:List SF):List SF:=mk12 fun r=>jF (fa a r) (fa b r)
def leR (a b:List SF):Prop:=∀ r,r < 12->leF (fa a r) (fa b r)
theorem fa_jR (a b:List SF) {r:Nat} (h:r < 12):fa (jR a b) r=jF (fa a r) (fa b r):=mk12_get _ _ h
def edges (q:Q) (i:Nat) (x:List SF):List Nat:=if q.op=5/\(fa x q.a.toNat).f0=1 then (if (fa x q.a.toNat).f1=0 then [q.n.toNat] else [i+1]) else nx q i
def valF (q:Q) (x:List SF):SF:=if q.op=1 then ⟨1,q.n⟩ else if q.op=2 then fa x q.a.toNat else if q.op=3 then (if (fa x q.a.toNat).f0=1/\(fa x q.b.toNat).f0=1 then ⟨1,ap q.n (fa x q.a.toNat).f1 (fa x q.b.toNat).f1⟩ else ⟨2,0⟩) else ⟨2,0⟩
def aftF (q:Q) (x:List SF):List SF:=if sets q < 0 then x else x.set (sets q).toNat (valF q x)
def rkF (x:List SF):Nat:=sumTo (fun r=>(fa x r).f0.toNat) 12
def FS (c:List SQ):Sys (List SF) where
 n:=c.length
 ok:=okR
 le:=leR
 jn:=jR
 out:=fun i x=>if (fa x 0).f0=0 then [] else (edges (q_ (qa c i)) i x).map fun e=>(e,aftF (q_ (qa c i)) x)
 rk:=rkF
 top:=24
 d:=List.replicate 12 zF
 ini:=List.replicate 12 ⟨1,0⟩
theorem edges_sub {q:Q} {i:Nat} {x:List SF} {e:Nat} (h:e∈edges q i x):e∈nx q i:=by
 unfold edges at h
 split at h
 ·rename_i g
  have e4:¬ q.op=10:=by omega
  have e5:¬ q.op=4:=by omega
  unfold nx
  rw [if_neg e4,if_neg e5,if_pos g.1]
  (repeat' split at h) <;> (repeat' split) <;> simp at h ⊢ <;> omega
 exact h
theorem some_row {l:List SF} (h:okR l) (g:(fa l 0).f0≠0):∀ r,r < 12->(fa l r).f0≠0:=by
 rcases h.2.2 with x|x
 ·exact absurd (x 0 (by omega)) g
 exact x
theorem regA {q:Q} {m:Int} (h:QV q m):q.a.toNat < 12/\q.b.toNat < 12:=by unfold QV rg wd at h;omega
theorem setsR {q:Q} {m:Int} (h:QV q m):(sets q).toNat < 12:=by unfold QV rg wd at h;unfold sets;split <;> omega
theorem valF_ok {q:Q} {m:Int} (h:QV q m) {x:List SF} (hx:okR x):okF (valF q x):=by
 have ⟨ra,rb⟩:=regA h
 unfold valF
 split
 ·exact .inr (.inl ⟨rfl,by unfold QV rg at h;simp only;unfold wd at h ⊢;omega⟩)
 split
 ·exact hx.2.1 _ ra
 split
 ·split
  ·rename_i g
   have a1:=hx.2.1 _ ra
   have b1:=hx.2.1 _ rb
   unfold okF at a1 b1
   refine .inr (.inl ⟨rfl,wd_ap ?_ ?_⟩)
   ·rcases a1 with x|x|x
    ·omega
    ·exact x.2
    omega
   rcases b1 with x|x|x
   ·omega
   ·exact x.2
   omega
  exact .inr (.inr ⟨rfl,rfl⟩)
 exact .inr (.inr ⟨rfl,rfl⟩)
theorem valF_some {q:Q} {m:Int} (h:QV q m) {x:List SF} (hx:∀ r,r < 12->(fa x r).f0≠0):(valF q x).f0≠0:=by
 have ⟨ra,rb⟩:=regA h
 unfold valF
 (repeat' split) <;> first|exact hx _ ra|simp
theorem aftF_ok {q:Q} {m:Int} (h:QV q m) {x:List SF} (hx:okR x) (g:(fa x 0).f0≠0):okR (aftF q x):=by
 unfold aftF
 split
 ·exact hx
 have hs:=setsR h
 have s:=some_row hx g
 refine⟨by rw [List.length_set];exact hx.1,fun r hr=>?_,.inr fun r hr=>?_⟩
 ·rw [fa_set hx.1 hs]
  split
  ·exact valF_ok h hx
  exact hx.2.1 r hr
 rw [fa_set hx.1 hs]
 split
 ·exact valF_some h s
 exact s r hr
theorem leF_const {a b:SF} (h:leF a b) (ha:a.f0≠0) (hb:b.f0=1):a=b:=by
 rcases h with h|h|h
 ·exact absurd h ha
 ·exact h
 omega
theorem valF_mono {q:Q} {m:Int} (h:QV q m) {x y:List SF} (hx:∀ r,r < 12->(fa x r).f0≠0) (hl:leR x y):leF (valF q x) (valF q y):=by
 have ⟨ra,rb⟩:=regA h
 unfold valF
 split
 ·exact leF_refl _
 split
 ·exact hl _ ra
 split
 ·by_cases g:(fa y q.a.toNat).f0=1/\(fa y q.b.toNat).f0=1
  ·have e1:=leF_const (hl _ ra) (hx _ ra) g.1
   have e2:=leF_const (hl _ rb) (hx _ rb) g.2
   rw [e1,e2]
   exact leF_refl _
  rw [if_neg g]
  exact .inr (.inr rfl)
 exact leF_refl _
theorem aftF_mono {q:Q} {m:Int} (h:QV q m) {x y:List SF} (ox:okR x) (oy:okR y) (hx:(fa x 0).f0≠0) (hl:leR x y):leR (aftF q x) (aftF q y):=by
 unfold aftF
 split
 ·exact hl
 have hs:=setsR h
 intro r hr
 rw [fa_set ox.1 hs,fa_set oy.1 hs]
 split
 ·exact valF_mono h (some_row ox hx) hl
 exact hl r hr
theorem fa_rep (f:SF) {r:Nat} (h:r < 12):fa (List.replicate 12 f) r=f:=by
 unfold fa
 rw [List.getD_eq_getElem?_getD,List.getElem?_replicate,if_pos h]
 rfl
theorem FS_laws {c:List SQ} (h:CV (qs c)):(FS c).Laws where
 refl:=fun a _ r _=>leF_refl _
 trans:=fun a b c _ _ _ h g r hr=>leF_trans (h r hr) (g r hr)
 anti:=fun a b ha hb h g=>ext12 zF ha.1 hb.1 fun r hr=>leF_anti (ha.2.1 r hr) (hb.2.1 r hr) (h r hr) (g r hr)
 ub1:=fun a b _ _ r hr=>by show leF _ (fa (jR a b) r);rw [fa_jR a b hr];exact jF_ub1 _ _
 ub2:=fun a b _ _ r hr=>by show leF _ (fa (jR a b) r);rw [fa_jR a b hr];exact jF_ub2 _ _
 lub:=fun a b c _ _ _ h g r hr=>by show leF (fa (jR a b) r) _;rw [fa_jR a b hr];exact jF_lub (h r hr) (g r hr)
 okj:=fun a b ha hb=>by
  refine⟨mk12_len _,fun r hr=>?_,?_⟩
  ·show okF (fa (jR a b) r)
   rw [fa_jR a b hr]
   exact jF_ok (ha.2.1 r hr) (hb.2.1 r hr)
  have k:∀ r,r < 12->((fa (jR a b) r).f0=0↔(fa a r).f0=0/\(fa b r).f0=0):=by
   intro r hr
   rw [fa_jR a b hr]
   unfold jF
   split
   ·simp_all
   split
   ·simp_all
   split <;> simp_all
  rcases ha.2.2 with x|x
  ·rcases hb.2.2 with y|y
   ·exact .inl fun r hr=>(k r hr).2 ⟨x r hr,y r hr⟩
   exact .inr fun r hr e=>y r hr ((k r hr).1 e).2
  exact .inr fun r hr e=>x r hr ((k r hr).1 e).1
 oko:=fun i x hi hx p hp=>by
  have hp':p∈(if (fa x 0).f0=0 then [] else (edges (q_ (qa c i)) i x).map fun e=>(e,aftF (q_ (qa c i)) x)):=hp
  split at hp'
  ·simp at hp'
  rename_i g
  obtain⟨e,he,rfl⟩:=List.mem_map.1 hp'
  have n:=nx_lt h (i:=i) (j:=e) (by rw [qs_len];exact hi) (by rw [at_qs];exact edges_sub he)
  rw [qs_len] at n
  exact⟨n,aftF_ok (cv_at h hi) hx g⟩
 mono:=fun i x y hi hx hy hl p hp=>by
  have hp':p∈(if (fa x 0).f0=0 then [] else (edges (q_ (qa c i)) i x).map fun e=>(e,aftF (q_ (qa c i)) x)):=hp
  split at hp'
  ·simp at hp'
  rename_i g
  obtain⟨e,he,rfl⟩:=List.mem_map.1 hp'
  have v:=cv_at h hi
  have sx:=some_row hx g
  have gy:(fa y 0).f0≠0:=by
   rcases hl 0 (by omega) with z|z|z
   ·exact absurd z g
   ·rw [<- z];exact g
   omega
  have ⟨ra,rb⟩:=regA v
  refine⟨aftF (q_ (qa c i)) y,?_,aftF_mono v hx hy g hl⟩
  show _∈(if (fa y 0).f0=0 then [] else (edges (q_ (qa c i)) i y).map fun e=>(e,aftF (q_ (qa c i)) y))
  rw [if_neg gy]
  refine List.mem_map.2 ⟨e,?_,rfl⟩
  by_cases k:(q_ (qa c i)).op=5/\(fa y (q_ (qa c i)).a.toNat).f0=1
  ·have e1:=leF_const (hl _ ra) (sx _ ra) k.2
   unfold edges at he ⊢
   rwa [e1] at he
  have:=edges_sub he
  unfold edges
  rwa [if_neg k]
 rank:=fun a b ha hb hl ne=>by
  have k:∃ r,r < 12/\fa a r≠fa b r:=by
   apply Classical.byContradiction
   intro x
   exact ne (ext12 zF ha.1 hb.1 fun r hr=>Classical.byContradiction fun y=>x ⟨r,hr,y⟩)
  obtain⟨r,hr,hne⟩:=k
  exact sumTo_lt 12 (fun r hr=>(leF_kind (ha.2.1 r hr) (hb.2.1 r hr) (hl r hr)).1) r hr ((leF_kind (ha.2.1 r hr) (hb.2.1 r hr) (hl r hr)).2 hne)
 rtop:=fun a ha=>by
  have:=sumTo_le (f:=fun r=>(fa a r).f0.toNat) (g:=fun _=>2) 12 (fun r hr=>by have:=ha.2.1 r hr;unfold okF at this;omega)
  rw [sumTo_const] at this
  exact this
 okd:=⟨by simp [FS],fun r hr=>by show okF (fa (List.replicate 12 zF) r);rw [fa_rep _ hr];exact .inl ⟨rfl,rfl⟩,.inl fun r hr=>by show (fa (List.replicate 12 zF) r).f0=0;rw [fa_rep _ hr];rfl⟩
 oki:=⟨by simp [FS],fun r hr=>by show okF (fa (List.replicate 12 ⟨1,0⟩) r);rw [fa_rep _ hr];exact .inr (.inl ⟨rfl,by decide⟩),.inr fun r hr=>by show (fa (List.replicate 12 ⟨1,0⟩) r).f0≠0;rw [fa_rep _ hr];simp⟩
 bot:=fun a _ r hr=>by show leF (fa (List.replicate 12 zF) r) _;rw [fa_rep _ hr];exact .inl rfl
 outd:=fun i=>by
  show (if (fa (List.replicate 12 zF) 0).f0=0 then [] else (edges (q_ (qa c i)) i (List.replicate 12 zF)).map fun e=>(e,aftF (q_ (qa c i)) (List.replicate 12 zF)))=[]
  exact if_pos (by rw [fa_rep _ (by omega)];rfl)
 pos:=(cv600 h).1
 inid:=fun e=>by
  have:=congrArg (fun l=>(fa l 0).f0) (show List.replicate 12 (⟨1,0⟩:SF)=List.replicate 12 zF from e)
  simp only [fa_rep _ (show 0 < 12 by omega)] at this
  cases this
theorem rd_fa (x:List SF) (r:Nat):rd_T118 x (r:Int)=fa x r:=by simp [rd_T118,fa];rfl
theorem rd_fa' (x:List SF) {i:Int} (h:0<=i):rd_T118 x i=fa x i.toNat:=by rw [<- rd_fa,Int.toNat_of_nonneg h]
theorem Sb5.e (a b:SF):Sb5.f a.f0 a.f1 b.f0 b.f1=some ((jF a b).f0,(jF a b).f1):=by
 unfold Sb5.f jF
 by_cases c1:a.f0=0
 ·rw [if_pos c1,if_pos c1]
 rw [if_neg c1,if_neg c1]
 by_cases c2:b.f0=0
 ·rw [if_pos c2,if_pos c2]
 rw [if_neg c2,if_neg c2]
 by_cases c3:a=b
 ·rw [if_pos c3,c3]
  simp
 rw [if_neg c3,if_neg]
 intro x
 simp only [Bool.and_eq_true,beq_iff_eq] at x
 exact c3 (SF.ext' x.1 x.2)
theorem wd_of {f:SF} (h:okF f) (g:f.f0=1):wd f.f1:=by
 rcases h with x|x|x
 ·omega
 ·exact x.2
 omega
theorem Sb6.ev {q:Q} (h1:1<=q.n/\q.n<=12) {a b:SF} (ha:okF a) (hb:okF b):Ev (fun k=>Sb6.f k q.op q.dst q.a q.b q.n a.f0 a.f1 b.f0 b.f1) (if a.f0=1/\b.f0=1 then (1,ap q.n a.f1 b.f1) else (2,0)):=by
 unfold Sb6.f
 by_cases c1:a.f0=1
 ·refine Ev.pos ?_
  by_cases c2:b.f0=1
  ·refine Ev.pos (Ev.bind (Sad.e h1 (wd_of ha c1) (wd_of hb c2)) (Ev.eq Ev.pure ?_))
   rw [if_pos ⟨c1,c2⟩]
  refine Ev.neg (Ev.eq Ev.pure ?_)
  rw [if_neg fun x=>c2 x.2]
 refine Ev.neg (Ev.eq Ev.pure ?_)
 rw [if_neg fun x=>c1 x.1]
theorem SaY.ev {q:Q} {m:Int} (h:QV q m) {x:List SF} (hx:okR x):Ev (fun k=>SaY.f k q.op q.dst q.a q.b q.n x) (aftF q x):=by
 have hl:=hx.1
 obtain⟨⟨d0,d1⟩,⟨a0,a1⟩,b0,b1⟩:=regs_of h
 unfold SaY.f aftF
 refine Ev.some (Ev.pos (Ev.some ?_) (by simp [hl]))
 simp only [List.nil_append,hl]
 by_cases c1:q.op=1
 ·have s:sets q=q.dst:=by unfold sets;rw [if_pos (.inl c1)]
  refine Ev.pos (Ev.pos (Ev.pos (Ev.eq Ev.pure ?_)))
  rw [s,if_neg (show ¬ q.dst < 0 by omega),valF,if_pos c1]
 refine Ev.neg ?_
 by_cases c2:q.op=2
 ·have s:sets q=q.dst:=by unfold sets;rw [if_pos (.inr (.inl c2))]
  refine Ev.pos (Ev.pos (Ev.pos (Ev.pos (Ev.pos (Ev.eq Ev.pure ?_)))))
  rw [s,if_neg (show ¬ q.dst < 0 by omega),valF,if_neg c1,if_pos c2,rd_fa' _ a0]
 refine Ev.neg ?_
 by_cases c7:q.op=7
 ·have s:sets q=q.dst:=by unfold sets;rw [if_pos (.inr (.inr (.inr c7)))]
  refine Ev.pos (Ev.pos (Ev.pos (Ev.eq Ev.pure ?_)))
  rw [s,if_neg (show ¬ q.dst < 0 by omega),valF,if_neg c1,if_neg c2,if_neg (by omega)]
 refine Ev.neg ?_
 by_cases c3:q.op=3
 ·have s:sets q=q.dst:=by unfold sets;rw [if_pos (.inr (.inr (.inl c3)))]
  have ⟨ra,rb⟩:=regA h
  have hn:1<=q.n/\q.n<=12:=by unfold QV at h;omega
  refine Ev.pos (Ev.pos (Ev.pos (Ev.pos (Ev.pos ?_))))
  rw [rd_fa' _ a0,rd_fa' _ b0]
  refine Ev.bind (Sb6.ev hn (hx.2.1 _ ra) (hx.2.1 _ rb)) (Ev.pos (Ev.pos (Ev.eq Ev.pure ?_)))
  rw [s,if_neg (show ¬ q.dst < 0 by omega),valF,if_neg c1,if_neg c2,if_pos c3]
  split <;> rfl
 refine Ev.neg (Ev.eq Ev.pure ?_)
 rw [if_pos (by unfold sets;rw [if_neg (by omega)];decide)]
theorem Sb2.ev {c:List SQ} (h:CV (qs c)) {i:Nat} (hi:i < c.length) {x:List SF} (hx:okR x):Ev (fun k=>Sb2.f k c x (i:Int)) (ints (edges (q_ (qa c i)) i x)):=by
 have hq:=cv_at h hi
 have h6:=cv600 h
 obtain⟨_,⟨a0,a1⟩,_⟩:=regs_of hq
 have a0':0<=(qa c i).f2:=a0
 have a1':(qa c i).f2 < 12:=a1
 simp only [Sb2.f,rd_qa,hx.1]
 refine Ev.pos (Ev.pos ?_)
 have n1:∀ b,b=true->edges (q_ (qa c i)) i x=nx (q_ (qa c i)) i->Ev (fun k=>Sb2.j0 k c x (i:Int) b (qa c i).f0 (qa c i).f1 (qa c i).f2 (qa c i).f3 (qa c i).f4) (ints (edges (q_ (qa c i)) i x)):=by
  intro b hb he
  refine Ev.succ ?_
  simp only [Sb2.j0]
  rw [hb,he]
  exact Ev.pos (Ev.bind (SaS.ev h hi) Ev.pure)
 by_cases c5:(qa c i).f0=5
 ·refine Ev.pos (Ev.pos (Ev.pos ?_))
  rw [rd_fa' _ a0']
  by_cases c1:(fa x (qa c i).f2.toNat).f0=1
  ·rw [show ((fa x (qa c i).f2.toNat).f0 != 1)=false from by simp [c1]]
   refine Ev.succ ?_
   simp only [Sb2.j0,hx.1]
   refine Ev.neg (Ev.pos (Ev.pos ?_))
   rw [rd_fa' _ a0']
   have n0:0<=(qa c i).f4:=by
    have:0<=(q_ (qa c i)).n:=by
     have k5:(q_ (qa c i)).op=5:=c5
     unfold QV at hq
     omega
    exact this
   have e:edges (q_ (qa c i)) i x=if (fa x (qa c i).f2.toNat).f1=0 then [(qa c i).f4.toNat] else [i+1]:=by
    unfold edges
    exact if_pos ⟨c5,c1⟩
   rw [e]
   by_cases c2:(fa x (qa c i).f2.toNat).f1=0
   ·refine Ev.pos (Ev.eq Ev.pure ?_)
    rw [if_pos c2]
    simp [ints]
    omega
   refine Ev.neg (Ev.eq Ev.pure ?_)
   rw [if_neg c2,wrap_up (show i < 9223372036854775807 by omega)]
   rfl
  exact n1 _ (by simp [c1]) (by unfold edges;exact if_neg fun x=>c1 x.2)
 exact Ev.neg (n1 _ rfl (by unfold edges;exact if_neg fun x=>c5 x.1))
/-- The first p facts of a row joined. -/
def jP (p:Nat) (a b:List SF):List SF:=mk12 fun r=>if r < p then jF (fa a r) (fa b r) else fa a r
theorem fa_jP (p:Nat) (a b:List SF) {r:Nat} (h:r < 12):fa (jP p a b) r=if r < p then jF (fa a r) (fa b r) else fa a r:=mk12_get _ _ h
theorem jP0 {a:List SF} (b:List SF) (h:a.length=12):jP 0 a b=a:=ext12 zF (mk12_len _) h fun r hr=>by
 show fa (jP 0 a b) r=_
 rw [fa_jP _ _ _ hr,if_neg (by omega)]
 rfl
theorem jP12 (a b:List SF):jP 12 a b=jR a b:=ext12 zF (mk12_len _) (mk12_len _) fun r hr=>by
 show fa (jP 12 a b) r=fa (jR a b) r
 rw [fa_jP _ _ _ hr,if_pos hr,fa_jR _ _ hr]
theorem jP_set (p:Nat) (hp:p < 12) (a b:List SF):(jP p a b).set p (jF (fa a p) (fa b p))=jP (p+1) a b:=by
 refine ext12 zF (by rw [List.length_set];exact mk12_len _) (mk12_len _) fun r hr=>?_
 show fa _ r=fa _ r
 rw [fa_set (l:=jP p a b) (mk12_len _) hp,fa_jP _ _ _ hr,fa_jP _ _ _ hr]
 by_cases e:r=p
 ·rw [if_pos e,if_pos (by omega),e]
 rw [if_neg e]
 by_cases l:r < p
 ·rw [if_pos l,if_pos (by omega)]
 rw [if_neg l,if_neg (by omega)]
theorem jP_same (p:Nat) (hp:p < 12) {a b:List SF} (h:jF (fa a p) (fa b p)=fa a p):jP p a b=jP (p+1) a b:=by
 refine ext12 zF (mk12_len _) (mk12_len _) fun r hr=>?_
 show fa _ r=fa _ r
 rw [fa_jP _ _ _ hr,fa_jP _ _ _ hr]
 by_cases e:r=p
 ·rw [if_neg (by omega),if_pos (by omega),e,h]
 by_cases l:r < p
 ·rw [if_pos l,if_pos (by omega)]
 rw [if_neg l,if_neg (by omega)]
theorem rd_set {α:Type} {T:List (List α)} {e:Nat} (h:e < T.length) (v:List α):(T.set e v).getD e []=v:=by
 rw [List.getD_eq_getElem?_getD,List.getElem?_set_self h]
 rfl
theorem Sb1.out {T:List (List SF)} {e:Nat} (he:e < T.length) (h9:T.length < 9223372036854775807) {a v:List SF} (hv:v.length=12):∀ (d p:Nat) (b:Bool),p+d=12->Ev (fun k=>Sb1.l0 k (T.set e (jP p a v)) (e:Int) v b (p:Int)) (b || !decide (jR a v=jP p a v),T.set e (jR a v))
 | 0,p,b,hp=>by
  refine Ev.succ ?_
  simp only [Sb1.l0]
  refine Ev.neg (Ev.eq Ev.pure ?_)
  rw [show p=12 from by omega,jP12]
  simp
 | d+1,p,b,hp=>by
  refine Ev.succ ?_
  have hr:rd_L8 (T.set e (jP p a v)) (e:Int)=jP p a v:=by
   unfold rd_L8
   rw [Int.toNat_natCast]
   exact rd_set he _
  have hL:(jP p a v).length=12:=mk12_len _
  simp only [Sb1.l0,hr,rd_fa,List.length_set,hL,hv,fa_jP p a v (show p < 12 by omega),if_neg (Nat.lt_irrefl p),wrap_up (show p < 9223372036854775807 by omega),Int.toNat_natCast,List.set_set]
  refine Ev.pos (Ev.pos (Ev.pos (Ev.pos (Ev.pos (Ev.pos ?_)))))
  rw [Sb5.e]
  refine Ev.some ?_
  have hc:(!((jF (fa a p) (fa v p)).f0 == (fa a p).f0) || !((jF (fa a p) (fa v p)).f1 == (fa a p).f1)) = !decide (jF (fa a p) (fa v p)=fa a p):=by
   rw [Bool.eq_iff_iff]
   simp only [Bool.or_eq_true,Bool.not_eq_eq_eq_not,Bool.not_true,beq_eq_false_iff_ne,ne_eq,decide_eq_false_iff_not]
   refine⟨fun x y=>by rw [y] at x;simp at x,fun x=>Classical.byContradiction fun y=>?_⟩
   simp only [not_or,Classical.not_not] at y
   exact x (SF.ext' y.1 y.2)
  simp only [hc]
  by_cases g:jF (fa a p) (fa v p)=fa a p
  ·rw [decide_eq_true g]
   refine Ev.neg ?_
   rw [jP_same p (by omega) g]
   exact Sb1.out he h9 hv d (p+1) b (by omega)
  rw [decide_eq_false g]
  refine Ev.pos ?_
  have:=Sb1.out he h9 (a:=a) hv d (p+1) true (by omega)
  rw [<- jP_set p (by omega)] at this
  refine Ev.eq this ?_
  have ne:¬ jR a v=jP p a v:=by
   intro x
   have y:fa (jR a v) p=fa (jP p a v) p:=by rw [x]
   rw [fa_jR _ _ (by omega),fa_jP _ _ _ (by omega),if_neg (Nat.lt_irrefl p)] at y
   exact g y
  rw [decide_eq_false ne]
  simp
theorem Sb1.ev {T:List (List SF)} {e:Nat} (he:e < T.length) (h9:T.length < 9223372036854775807) {a v:List SF} (ha:a.length=12) (hv:v.length=12) (hT:T.getD e []=a):Ev (fun k=>Sb1.f k T (e:Int) v) (!decide (jR a v=a),T.set e (jR a v)):=by
 have:=Sb1.out he h9 (a:=a) hv 12 0 false (by omega)
 rw [jP0 v ha] at this
 have hs:T.set e a=T:=by
  rw [<- hT]
  apply List.ext_getElem (by simp)
  intro i h1 h2
  rw [List.getElem_set]
  split
  ·rename_i x
   subst x
   rw [List.getD_eq_getElem?_getD,List.getElem?_eq_getElem he]
   rfl
  rfl
 rw [hs] at this
 refine Ev.eq this ?_
 rw [Bool.false_or]
theorem FS_at {c:List SQ} {T:List (List SF)} {e:Nat} (h:e < T.length):(FS c).at' T e=T.getD e []:=by
 show T.getD e (List.replicate 12 zF)=_
 rw [List.getD_eq_getElem?_getD,List.getD_eq_getElem?_getD,List.getElem?_eq_getElem h]
 rfl
theorem drop_cons {α:Type} (d:α) {l:List α} {p:Nat} (h:p < l.length):l.drop p=l.getD p d :: l.drop (p+1):=by
 rw [List.drop_eq_getElem_cons h,List.getD_eq_getElem?_getD,List.getElem?_eq_getElem h]
 rfl
theorem Sb7.in {c:List SQ} (h:CV (qs c)) {i:Nat} (hi:i < c.length) {v:List SF} (hv:okR v) {es:List Nat} (hl:es.length < 1000) (he:∀ e∈es,e < c.length) {R:Bool × List (List SF)}:∀ (d p:Nat) (T:List (List SF)) (b:Bool),p+d=es.length->(FS c).St T->Ev (fun k=>Sb7.l0 k c (Sys.pass (FS c) ((es.drop p).map fun e=>(e,v)) T b).1 (Sys.pass (FS c) ((es.drop p).map fun e=>(e,v)) T b).2 ((i+1:Nat):Int)) R->Ev (fun k=>Sb7.l1 k c T b (i:Int) (ints es) v (p:Int)) R
 | 0,p,T,b,hp,hT,g=>by
  refine Ev.succ ?_
  have h6:=cv600 h
  rw [List.drop_eq_nil_of_le (by omega)] at g
  simp only [Sb7.l1,ints_len,wrap_up (show i < 9223372036854775807 by omega)]
  exact Ev.neg g
 | d+1,p,T,b,hp,hT,g=>by
  refine Ev.succ ?_
  have h6:=cv600 h
  have hm:es.getD p 0 < c.length:=he _ (getD_mem (by omega))
  have hn:T.length=c.length:=hT.1
  have hc:=Sb1.ev (T:=T) (e:=es.getD p 0) (by omega) (by omega) (a:=(FS c).at' T (es.getD p 0)) (hT.2 _ hm).1 hv.1 (FS_at (c:=c) (by omega)).symm
  rw [drop_cons 0 (show p < es.length by omega)] at g
  have hT':=Sys.put_st (FS_laws h) hT (p:=(es.getD p 0,v)) hm hv
  simp only [Sb7.l1,ints_len,rd_ints,wrap_up (show p < 9223372036854775807 by omega)]
  refine Ev.pos (Ev.pos (Ev.bind hc ?_))
  have go:=fun b'=>Sb7.in h hi hv hl he (R:=R) d (p+1) (Sys.put (FS c) T (es.getD p 0,v)) b' (by omega) hT'
  by_cases e:jR ((FS c).at' T (es.getD p 0)) v=(FS c).at' T (es.getD p 0)
  ·rw [decide_eq_true e]
   refine Ev.neg (go b ?_)
   have:=g
   simp only [List.map_cons,Sys.pass] at this
   rwa [show decide ((FS c).jn ((FS c).at' T (es.getD p 0)) v=(FS c).at' T (es.getD p 0))=true from decide_eq_true e,Bool.not_true,Bool.or_false] at this
  rw [decide_eq_false e]
  refine Ev.pos (go true ?_)
  have:=g
  simp only [List.map_cons,Sys.pass] at this
  rwa [show decide ((FS c).jn ((FS c).at' T (es.getD p 0)) v=(FS c).at' T (es.getD p 0))=false from decide_eq_false e,Bool.not_false,Bool.or_true] at this
theorem edges_len (q:Q) (i:Nat) (x:List SF):(edges q i x).length<=2:=by
 unfold edges nx
 (repeat' split) <;> simp
theorem Sb7.out {c:List SQ} (h:CV (qs c)):∀ (d:Nat),d<=c.length->∀ (T:List (List SF)) (b:Bool),(FS c).St T->Ev (fun k=>Sb7.l0 k c T b ((c.length - d:Nat):Int)) ((Sys.rnds (FS c) d T b).2,(Sys.rnds (FS c) d T b).1)
 | 0,hd,T,b,hT=>by
  refine Ev.succ ?_
  simp only [Sb7.l0,Nat.sub_zero]
  exact Ev.neg Ev.pure
 | d+1,hd,T,b,hT=>by
  refine Ev.succ ?_
  have h6:=cv600 h
  have hi:c.length - (d+1) < c.length:=by omega
  have hn:T.length=c.length:=hT.1
  have hr:rd_L8 T ((c.length - (d+1):Nat):Int)=(FS c).at' T (c.length - (d+1)):=by
   rw [FS_at (by omega)]
   unfold rd_L8
   rw [Int.toNat_natCast]
  have ok:=hT.2 _ hi
  have hL:=ok.1
  have h0:rd_T118 ((FS c).at' T (c.length - (d+1))) 0=fa ((FS c).at' T (c.length - (d+1))) 0:=rd_fa _ 0
  have hw:=wrap_up (show c.length - (d+1) < 9223372036854775807 by omega)
  have hs:((c.length - (d+1)+1:Nat):Int)=((c.length - d:Nat):Int):=by congr 1;omega
  obtain⟨b1,_⟩:=Sys.pass_all (FS_laws h) ((FS c).out (c.length - (d+1)) ((FS c).at' T (c.length - (d+1)))) T b hT ((FS_laws h).oko _ _ hi ok)
  have ih:=Sb7.out h d (by omega) _ (Sys.pass (FS c) ((FS c).out (c.length - (d+1)) ((FS c).at' T (c.length - (d+1)))) T b).2 b1
  simp only [Sb7.l0,hr,hL,h0,hw,rd_qa]
  refine Ev.pos (Ev.pos (Ev.pos (Ev.pos ?_)))
  show Ev _ ((Sys.rnds (FS c) d (Sys.pass (FS c) ((FS c).out (c.length - (d+1)) ((FS c).at' T (c.length - (d+1)))) T b).1 (Sys.pass (FS c) ((FS c).out (c.length - (d+1)) ((FS c).at' T (c.length - (d+1)))) T b).2).2,(Sys.rnds (FS c) d (Sys.pass (FS c) ((FS c).out (c.length - (d+1)) ((FS c).at' T (c.length - (d+1)))) T b).1 (Sys.pass (FS c) ((FS c).out (c.length - (d+1)) ((FS c).at' T (c.length - (d+1)))) T b).2).1)
  by_cases g:(fa ((FS c).at' T (c.length - (d+1))) 0).f0=0
  ·refine Ev.pos ?_
   rw [hs]
   have e:(FS c).out (c.length - (d+1)) ((FS c).at' T (c.length - (d+1)))=[]:=if_pos g
   rw [e] at ih ⊢
   exact ih
  refine Ev.neg (Ev.bind (Sb2.ev h hi ok) (Ev.bind (SaY.ev (cv_at h hi) ok) ?_))
  have e:(FS c).out (c.length - (d+1)) ((FS c).at' T (c.length - (d+1)))=(edges (q_ (qa c (c.length - (d+1)))) (c.length - (d+1)) ((FS c).at' T (c.length - (d+1)))).map fun e=>(e,aftF (q_ (qa c (c.length - (d+1)))) ((FS c).at' T (c.length - (d+1)))):=if_neg g
  refine Sb7.in h hi (aftF_ok (cv_at h hi) ok g) (by have:=edges_len (q_ (qa c (c.length - (d+1)))) (c.length - (d+1)) ((FS c).at' T (c.length - (d+1)));omega) (fun e he=>?_) _ 0 T b (Nat.zero_add _) hT ?_
  ·have n:=nx_lt h (i:=c.length - (d+1)) (j:=e) (by rw [qs_len];exact hi) (by rw [at_qs];exact edges_sub he)
   rwa [qs_len] at n
  rw [List.drop_zero,<- e,hs]
  exact ih
theorem Sam.rounds {c:List SQ} (h:CV (qs c)):∀ (m:Nat) (T:List (List SF)),(FS c).Rd T->(FS c).cap T<=m->∃ U,(FS c).Lfp U/\Ev (fun k=>Sam.l2 k c T) U
 | m,T,hT,hm=>by
  obtain⟨a,b,e⟩:=Sys.rd_step (FS_laws h) hT
  have o:=Sb7.out h c.length (Nat.le_refl _) T false hT.1
  rw [Nat.sub_self] at o
  have o':Ev (fun k=>Sb7.f k c T) ((Sys.rnds (FS c) c.length T false).2,(Sys.rnds (FS c) c.length T false).1):=o
  cases g:(Sys.rnds (FS c) c.length T false).2 with
  | false =>
   refine⟨_,e g,Ev.succ ?_⟩
   simp only [Sam.l2]
   exact Ev.bind o' (Ev.neg Ev.pure (by simp [g]))
  | true =>
   have lt:=b g
   match m,hm with
   | 0,hm=>omega
   | m+1,hm =>
    obtain⟨U,hU,hE⟩:=Sam.rounds h m _ a (by have:(FS c).cap (Sys.rnds (FS c) c.length T false).1 < (FS c).cap T:=lt;show (FS c).cap (Sys.rnds (FS c) c.length T false).1<=m;omega)
    refine⟨U,hU,Ev.succ ?_⟩
    simp only [Sam.l2]
    exact Ev.bind o' (Ev.pos hE (by simp [g]))
theorem rep_set (n p:Nat) (hp:p < 12):((List.replicate p (⟨1,0⟩:SF)) ++ List.replicate (12 - p) zF).set p ⟨1,0⟩=(List.replicate (p+1) (⟨1,0⟩:SF)) ++ List.replicate (12 - (p+1)) zF:=by
 rw [List.set_append_right _ _ (by simp),List.length_replicate,Nat.sub_self,show 12 - p=(12 - (p+1))+1 from by omega,List.replicate_succ,List.set_cons_zero,List.replicate_succ',List.append_assoc]
 rfl
theorem Sam.first {c:List SQ} (h:CV (qs c)) {U:List (List SF)} (g:Ev (fun k=>Sam.l2 k c (Sys.T0 (FS c))) U):∀ (d p:Nat),p+d=12->Ev (fun k=>Sam.l1 k c ((List.replicate c.length (List.replicate 12 zF)).set 0 (List.replicate p ⟨1,0⟩ ++ List.replicate (12 - p) zF)) (p:Int)) U
 | 0,p,hp=>by
  have:p=12:=by omega
  subst this
  refine Ev.succ ?_
  simp only [Sam.l1]
  refine Ev.neg ?_
  have e:((List.replicate c.length (List.replicate 12 zF)).set 0 (List.replicate 12 (⟨1,0⟩:SF) ++ List.replicate (12 - 12) zF))=Sys.T0 (FS c):=by
   rw [Nat.sub_self,List.replicate_zero,List.append_nil]
   rfl
  rw [e]
  exact g
 | d+1,p,hp=>by
  have h6:=cv600 h
  refine Ev.succ ?_
  have hr:rd_L8 ((List.replicate c.length (List.replicate 12 zF)).set 0 (List.replicate p (⟨1,0⟩:SF) ++ List.replicate (12 - p) zF)) 0=List.replicate p (⟨1,0⟩:SF) ++ List.replicate (12 - p) zF:=by
   unfold rd_L8
   exact rd_set (by simp;omega) _
  have hl:(List.replicate p (⟨1,0⟩:SF) ++ List.replicate (12 - p) zF).length=12:=by simp;omega
  simp only [Sam.l1,hr,hl,List.length_set,List.length_replicate,wrap_up (show p < 9223372036854775807 by omega),Int.toNat_natCast,Int.toNat_zero,List.set_set,rep_set c.length p (by omega)]
  exact Ev.pos (Ev.pos (Ev.pos (Ev.pos (Sam.first h g d (p+1) (by omega)))))
theorem Sam.fill {c:List SQ} (h:CV (qs c)) {U:List (List SF)} (g:Ev (fun k=>Sam.l2 k c (Sys.T0 (FS c))) U):∀ (d p:Nat),p+d=c.length->Ev (fun k=>Sam.l0 k c (List.replicate p (List.replicate 12 zF)) (p:Int)) U
 | 0,p,hp=>by
  refine Ev.succ ?_
  simp only [Sam.l0]
  refine Ev.neg ?_
  have:=Sam.first h g 12 0 rfl
  have e:((List.replicate c.length (List.replicate 12 zF)).set 0 (List.replicate 0 (⟨1,0⟩:SF) ++ List.replicate (12 - 0) zF))=List.replicate p (List.replicate 12 zF):=by
   have:=(cv600 h).1
   obtain⟨n,hn⟩:∃ n,p=n+1:=⟨p - 1,by omega⟩
   rw [show c.length=n+1 from by omega,hn]
   rfl
  rw [e] at this
  exact this
 | d+1,p,hp=>by
  have h6:=cv600 h
  refine Ev.succ ?_
  have e:List.replicate p (List.replicate 12 zF) ++ [List.replicate 12 z118]=List.replicate (p+1) (List.replicate 12 zF):=(List.replicate_succ' ..).symm
  simp only [Sam.l0,List.length_replicate,e,wrap_up (show p < 9223372036854775807 by omega)]
  exact Ev.pos (Ev.pos (Ev.pos (Sam.fill h g d (p+1) (by omega))))
theorem Sam.ev {c:List SQ} (h:CV (qs c)):∃ U,(FS c).Lfp U/\Ev (fun k=>Sam.f k c) U:=by
 obtain⟨U,hU,hE⟩:=Sam.rounds h _ _ (Sys.rd0 (FS_laws h)) (Nat.le_refl _)
 refine⟨U,hU,?_⟩
 simp only [Sam.f]
 refine Ev.some (Ev.bind (Saf.ev c) (Ev.pos ?_ (decide_eq_true h)))
 exact Sam.fill h hE c.length 0 (Nat.zero_add _)
end Go.Proofs.YtebpplallecogaaGreat.M
