/- Part 2 of the proof: FnExactOptimizeCode holds, for every input. -/
import Derived.Test.YtahbkldagpfcaaaZF1
set_option linter.unusedVariables false
set_option linter.unusedSimpArgs false
set_option maxHeartbeats 8000000
set_option maxRecDepth 100000
namespace Go.Proofs.Ytahbkldagpfcaaa.M
open Go.RowKit Go.Proofs.YtahbkldagpfcaaaW.PrintWords Go.Proofs.YtahbkldagpfcaaaW.PrintLast Go.Proofs.YtahbkldagpfcaaaW.PrintMore
attribute [local go_sem] max2_int min2_int max_two min_two max_three min_three max_four min_four
def Sl33Fold.f (k:Nat) (a0_0:Int) (a0_1:Int) (a0_2:Int) (a0_3:Int) (a0_4:Int) (l1:List (S74)) (a2:Int):Option (Int × Int × Int × Int × Int):=if 0 < (l1.length:Int) then (if ((rd_T74 l1 0).f0)=0 then (some (a0_0,a0_1,a0_2,a0_3,a0_4)) else (if a0_0=2 then (if 0<=a0_2 then (if a0_2 < (l1.length:Int) then (if ((rd_T74 l1 a0_2).f0)=1 then (some (1,a0_1,0,0,(rd_T74 l1 a0_2).f1)) else (some (a0_0,a0_1,a0_2,a0_3,a0_4))) else (none)) else (none)) else (if a0_0=3 then (if 0<=a0_2 then (if a0_2 < (l1.length:Int) then (if 0<=a0_3 then (if a0_3 < (l1.length:Int) then ((Sl33Bin.f k a0_0 a0_1 a0_2 a0_3 a0_4 ((rd_T74 l1 a0_2).f0) ((rd_T74 l1 a0_2).f1) ((rd_T74 l1 a0_3).f0) ((rd_T74 l1 a0_3).f1)).bind fun bt647=>(some (bt647.1,bt647.2.1,bt647.2.2.1,bt647.2.2.2.1,bt647.2.2.2.2))) else (none)) else (none)) else (none)) else (none)) else (if a0_0=5 then (if 0<=a0_2 then (if a0_2 < (l1.length:Int) then ((Sl33Is.f ((rd_T74 l1 a0_2).f0) ((rd_T74 l1 a0_2).f1) 0).bind fun t653=>(if t653=true then (some (4,0,0,0,a0_4)) else (if ((rd_T74 l1 a0_2).f0)=1 then (some (4,0,0,0,wrap64 (a2+1))) else (some (a0_0,a0_1,a0_2,a0_3,a0_4))))) else (none)) else (none)) else (some (a0_0,a0_1,a0_2,a0_3,a0_4)))))) else (none)
theorem Sl33Fold.mono:∀ a0 a1 a2 a3 a4 a5 a6 k,LeO (Sl33Fold.f k a0 a1 a2 a3 a4 a5 a6) (Sl33Fold.f (k+1) a0 a1 a2 a3 a4 a5 a6):=by
 intro a0 a1 a2 a3 a4 a5 a6 k;unfold Sl33Fold.f;have m0:=@Sl33Bin.mono;exact mM
def Sl33Fold.T6:Bool × List (List Nat × List Nat):=(true,[([],[]),([0],[0]),([],[]),([],[]),([3],[3]),([2,4],[2,4]),([5],[5]),([6],[6]),([1,7],[1,7]),([8,0,1,2,3,4,5,6,7,8],[8])])
def Sl33Fold.B6:List Nat:=[0,1,0,0,8,28,60,124,255,511]
theorem Sl33Fold.tab6:rtab .any (opsOf Try.f85 6)=Sl33Fold.T6:=by kernel_rfl
theorem Sl33Fold.bits6:waitsOk Sl33Fold.T6.2 Sl33Fold.B6=true:=by kernel_rfl
def Sl33Fold.T8:Bool × List (List Nat × List Nat):=(true,[([],[]),([],[]),([],[]),([2],[2]),([1,3],[1,3]),([4],[4]),([],[]),([],[]),([7],[7]),([6,8],[6,8]),([9],[9]),([0,5,10],[0,5,10]),([11,11,0,1,2,3,4,5,6,7,8,9,10,11],[11])])
def Sl33Fold.B8:List Nat:=[0,0,0,4,14,30,0,0,128,448,960,2047,4095]
theorem Sl33Fold.tab8:rtab .any (opsOf Try.f85 8)=Sl33Fold.T8:=by kernel_rfl
theorem Sl33Fold.bits8:waitsOk Sl33Fold.T8.2 Sl33Fold.B8=true:=by kernel_rfl
theorem Sl33Fold_calls_s0 {G:Prop} (h:G:=by
  go_enter Try.func85,Try.ntmps85
  go_wp2_with (first|((with_reducible refine jd 3 rfl ?_);refine jX _ 46 ?_;intro gb640 hg w_0a hbox hb;have BK640:=aM hbox;have GW640:=kG hg;replace HB:=kH hb;clear hb hbox hg)|((with_reducible refine jd 6 rfl ?_);refine jX _ 46 ?_;intro gb641 hg w_1a hbox hb;have BK641:=aM hbox;have GW641:=kG hg;have NB640_641:=kN hg BK640;have NB641_640:=kM hg BK640;replace BK640:=kB BK640 hb;replace HB:=kH hb;clear hb hbox hg;have p642:0<=(0:Int):=(by omega);have q642:0 < (l1.length:Int):=qD;obtain⟨ad642,e642,hx642_0,hx642_1⟩:=at_T74 HR1.out 0 p642 q642;cases e642;have qi642:(0 < l1.length)=True:=eq_true (by omega);(try rw [show ((0:Int)).toNat=0 from rfl] at hx642_0);(try rw [show 0*2=0 from rfl] at hx642_0);(try rw [Addr.add_zero'] at hx642_0);(try rw [show ((0:Int)).toNat=0 from rfl] at hx642_1);(try rw [show 0*2=0 from rfl] at hx642_1);(try rw [Addr.add_zero'] at hx642_1);replace hx642_0:=kx HB hx642_0;replace hx642_1:=kx HB hx642_1;replace p642:=eq_true p642;replace q642:=eq_true q642;have h_1b:=NB640_641.out;have h_1c:=NB641_640.out;have c_1d:=jz5 BK640;have c_1e:=jz5 BK641))
  refine bodyPost_ret (results_cell_row rfl _ _ gb641 46 #[.int .i64 a0_0,.int .i64 a0_1,.int .i64 a0_2,.int .i64 a0_3,.int .i64 a0_4] (0,0) _ rfl (qF BK641) Try.underlying46 rfl (by kernel_rfl)) rfl ?_
  exact⟨qW,qB⟩):G:=h
theorem Sl33Fold.calls (k:Nat) (a0_0:Int) (a0_1:Int) (a0_2:Int) (a0_3:Int) (a0_4:Int) (A1:Option Addr) (c1:Nat) (l1:List (S74)) (a2:Int) (r1:Int) (r2:Int) (r3:Int) (r4:Int) (r5:Int) (w:World) (hr1:Kd.C k74 w A1 l1.length l1) (hc1:l1.length<=c1) (h:Sl33Fold.f k a0_0 a0_1 a0_2 a0_3 a0_4 l1 a2=some (r1,r2,r3,r4,r5)) :
  Calls Try.prog 85 #[.agg #[.int .i64 a0_0,.int .i64 a0_1,.int .i64 a0_2,.int .i64 a0_3,.int .i64 a0_4],.slice A1 l1.length c1,.int .i64 a2] w fun e w'=>e = .returned (.agg #[.int .i64 r1,.int .i64 r2,.int .i64 r3,.int .i64 r4,.int .i64 r5])/\Below w.heap.size w w':=by
 have hu46:=Try.underlying46
 have hu74:=Try.underlying74
 have HR1:=aM hr1
 have HC1:=aM hc1
 clear hr1 hc1
 have HB:=aM (Below.refl w.heap.size w)
 have H:=h;unfold Sl33Fold.f at H
 clear h
 replace H:=jU H;obtain⟨c4,H⟩:=H
 have c4b0:=decide_eq_true c4
 have c4b1:decide (0 < l1.length)=true:=decide_eq_true (by omega)
 clear c4
 replace H:=jE H;rcases H with ⟨c5b0,c5b1,H⟩ | ⟨c5,c5b0,c5b1,H⟩
 ·simp only [Option.some.injEq,Prod.mk.injEq] at H
  obtain⟨rfl,rfl,rfl,rfl,rfl⟩:=H
  exact Sl33Fold_calls_s0
 replace H:=jE H;rcases H with ⟨c11b0,c11b1,H⟩ | ⟨c11,c11b0,c11b1,H⟩
 ·replace H:=jI H;obtain⟨c12b0,H⟩:=H
  replace H:=jI H;obtain⟨c13b0,H⟩:=H
  replace H:=jE H;rcases H with ⟨c14b0,c14b1,H⟩ | ⟨c14,c14b0,c14b1,H⟩
  ·simp only [Option.some.injEq,Prod.mk.injEq] at H
   obtain⟨rfl,rfl,rfl,rfl,rfl⟩:=H
   go_enter Try.func85,Try.ntmps85
   try go_wp2_with (first|((with_reducible refine jd 3 rfl ?_);refine jX _ 46 ?_;intro gb640 hg w_0a hbox hb;have BK640:=aM hbox;have GW640:=kG hg;replace HB:=kH hb;clear hb hbox hg)|((with_reducible refine jd 6 rfl ?_);refine jX _ 46 ?_;intro gb641 hg w_1a hbox hb;have BK641:=aM hbox;have GW641:=kG hg;have NB640_641:=kN hg BK640;have NB641_640:=kM hg BK640;replace BK640:=kB BK640 hb;replace HB:=kH hb;clear hb hbox hg;have p642:0<=(0:Int):=(by omega);have q642:0 < (l1.length:Int):=qD;obtain⟨ad642,e642,hx642_0,hx642_1⟩:=at_T74 HR1.out 0 p642 q642;cases e642;have qi642:(0 < l1.length)=True:=eq_true (by omega);(try rw [show ((0:Int)).toNat=0 from rfl] at hx642_0);(try rw [show 0*2=0 from rfl] at hx642_0);(try rw [Addr.add_zero'] at hx642_0);(try rw [show ((0:Int)).toNat=0 from rfl] at hx642_1);(try rw [show 0*2=0 from rfl] at hx642_1);(try rw [Addr.add_zero'] at hx642_1);replace hx642_0:=kx HB hx642_0;replace hx642_1:=kx HB hx642_1;replace p642:=eq_true p642;replace q642:=eq_true q642;have h_1b:=NB640_641.out;have h_1c:=NB641_640.out;have c_1d:=jz5 BK640;have p643:0<=(a0_2:Int):=qD;have q643:a0_2 < (l1.length:Int):=qD;obtain⟨ad643,e643,hx643_0,hx643_1⟩:=at_T74 HR1.out a0_2 p643 q643;obtain rfl:ad642=ad643:=(by injection e643);replace hx643_0:=kx HB hx643_0;replace hx643_1:=kx HB hx643_1;replace p643:=eq_true p643;replace q643:=eq_true q643))
   replace BK640:=aM (blk_drew BK640.out)
   replace BK641:=aM (blk_drew BK641.out)
   replace HB:=aM (below_drew1 HB.out)
   have p644:0<=(a0_2:Int):=qD
   have q644:a0_2 < (l1.length:Int):=qD
   obtain⟨ad644,e644,hx644_0,hx644_1⟩:=at_T74 HR1.out a0_2 p644 q644
   have hw644_1:=hx644_1
   have hw644_0:=hx644_0
   obtain rfl:ad642=ad644:=(by injection e644)
   replace hx644_0:=kx HB hx644_0
   replace hx644_1:=kx HB hx644_1
   replace p644:=eq_true p644
   replace q644:=eq_true q644
   refine start_ (n:=10) (S:=fun w'=>w'.cell? ⟨gb640,0,none⟩=some (.int .i64 a0_0)/\w'.cell? ⟨gb640,1,none⟩=some (.int .i64 a0_1)/\w'.cell? ⟨gb640,2,none⟩=some (.int .i64 a0_2)/\w'.cell? ⟨gb640,3,none⟩=some (.int .i64 a0_3)/\w'.cell? ⟨gb640,4,none⟩=some (.int .i64 a0_4)/\w'.cell? (ad642.add ((a0_2).toNat*2))=some (.int .i64 ((rd_T74 l1 a0_2).f0))/\w'.cell? ⟨(ad642.add ((a0_2).toNat*2)).block,(ad642.add ((a0_2).toNat*2)).off+1,none⟩=some (.int .i64 ((rd_T74 l1 a0_2).f1))) (ds:=[]) (jb 10 0) (by kernel_rfl) rfl rfl ⟨(blk_cell BK640.out 0).trans rfl,(blk_cell BK640.out 1).trans rfl,(blk_cell BK640.out 2).trans rfl,(blk_cell BK640.out 3).trans rfl,(blk_cell BK640.out 4).trans rfl,(kx HB hw644_0),(kx HB hw644_1)⟩ (fun hHeld=>?_);refine with_tabW Sl33Fold.tab6 Sl33Fold.bits6 (fun HT_ HW_=>?_)
   generalize w_1a.drew=w19 at BK640 BK641 HB hx644_0 hx644_1 hHeld ⊢
   refine jp 0 24 (jb 10 1) ?_
   refine jp 2 26 (jb 10 5) ?_
   refine jp 3 27 (jb 10 13) ?_
   refine jt 1 25 (jb 10 15) ?_
   refine jt 4 28 (jb 10 31) ?_
   refine jp 5 29 (jb 10 63) ?_
   refine jp 6 30 (jb 10 127) ?_
   refine jt 7 31 (jb 10 255) ?_
   refine jp 8 32 (jb 10 511) ?_
   refine one_ (i:=9) (N:=none) (jb 10 1023) rfl rfl (one_of HT_.out (by kernel_rfl)) (by decide) (fun K hK=>?_)
   have hs20:w19.cell? ⟨gb641,0,none⟩=some (.int .i64 0):=(blk_cell BK641.out 0).trans rfl
   have hfs20:=blk_frozen BK641.out 0
   have hns20_0:=NB640_641.out
   have hms20_0:=NB641_640.out
   have hs21:w19.cell? ⟨gb641,1,none⟩=some (.int .i64 0):=(blk_cell BK641.out 1).trans rfl
   have hfs21:=blk_frozen BK641.out 1
   have hns21_0:=NB640_641.out
   have hms21_0:=NB641_640.out
   have hs22:w19.cell? ⟨gb641,2,none⟩=some (.int .i64 0):=(blk_cell BK641.out 2).trans rfl
   have hfs22:=blk_frozen BK641.out 2
   have hns22_0:=NB640_641.out
   have hms22_0:=NB641_640.out
   have hs23:w19.cell? ⟨gb641,3,none⟩=some (.int .i64 0):=(blk_cell BK641.out 3).trans rfl
   have hfs23:=blk_frozen BK641.out 3
   have hns23_0:=NB640_641.out
   have hms23_0:=NB641_640.out
   have hs24:w19.cell? ⟨gb641,4,none⟩=some (.int .i64 0):=(blk_cell BK641.out 4).trans rfl
   have hfs24:=blk_frozen BK641.out 4
   have hns24_0:=NB640_641.out
   have hms24_0:=NB641_640.out
   refine skip_ (w1:=?_) (by rfl) rfl ?_ ?_
   rotate_left
   ·go_simp
    rfl
   refine hK.out _ _ ⟨((cell_far (p:=⟨gb641,_,none⟩) NB640_641.out _).trans (((cell_far (p:=⟨gb641,_,none⟩) NB640_641.out _).trans (((cell_far (p:=⟨gb641,_,none⟩) NB640_641.out _).trans (((cell_far (p:=⟨gb641,_,none⟩) NB640_641.out _).trans (((cell_far (p:=⟨gb641,_,none⟩) NB640_641.out _).trans (hHeld.1)))))))))),((cell_far (p:=⟨gb641,_,none⟩) NB640_641.out _).trans (((cell_far (p:=⟨gb641,_,none⟩) NB640_641.out _).trans (((cell_far (p:=⟨gb641,_,none⟩) NB640_641.out _).trans (((cell_far (p:=⟨gb641,_,none⟩) NB640_641.out _).trans (((cell_far (p:=⟨gb641,_,none⟩) NB640_641.out _).trans (hHeld.2.1)))))))))),((cell_far (p:=⟨gb641,_,none⟩) NB640_641.out _).trans (((cell_far (p:=⟨gb641,_,none⟩) NB640_641.out _).trans (((cell_far (p:=⟨gb641,_,none⟩) NB640_641.out _).trans (((cell_far (p:=⟨gb641,_,none⟩) NB640_641.out _).trans (((cell_far (p:=⟨gb641,_,none⟩) NB640_641.out _).trans (hHeld.2.2.1)))))))))),((cell_far (p:=⟨gb641,_,none⟩) NB640_641.out _).trans (((cell_far (p:=⟨gb641,_,none⟩) NB640_641.out _).trans (((cell_far (p:=⟨gb641,_,none⟩) NB640_641.out _).trans (((cell_far (p:=⟨gb641,_,none⟩) NB640_641.out _).trans (((cell_far (p:=⟨gb641,_,none⟩) NB640_641.out _).trans (hHeld.2.2.2.1)))))))))),((cell_far (p:=⟨gb641,_,none⟩) NB640_641.out _).trans (((cell_far (p:=⟨gb641,_,none⟩) NB640_641.out _).trans (((cell_far (p:=⟨gb641,_,none⟩) NB640_641.out _).trans (((cell_far (p:=⟨gb641,_,none⟩) NB640_641.out _).trans (((cell_far (p:=⟨gb641,_,none⟩) NB640_641.out _).trans (hHeld.2.2.2.2.1)))))))))),((cell_far (p:=⟨gb641,_,none⟩) (kf (kn hw644_0 GW641)) _).trans (((cell_far (p:=⟨gb641,_,none⟩) (kf (kn hw644_0 GW641)) _).trans (((cell_far (p:=⟨gb641,_,none⟩) (kf (kn hw644_0 GW641)) _).trans (((cell_far (p:=⟨gb641,_,none⟩) (kf (kn hw644_0 GW641)) _).trans (((cell_far (p:=⟨gb641,_,none⟩) (kf (kn hw644_0 GW641)) _).trans (hHeld.2.2.2.2.2.1)))))))))),((cell_far (p:=⟨gb641,_,none⟩) (kf (kn hw644_1 GW641)) _).trans (((cell_far (p:=⟨gb641,_,none⟩) (kf (kn hw644_1 GW641)) _).trans (((cell_far (p:=⟨gb641,_,none⟩) (kf (kn hw644_1 GW641)) _).trans (((cell_far (p:=⟨gb641,_,none⟩) (kf (kn hw644_1 GW641)) _).trans (((cell_far (p:=⟨gb641,_,none⟩) (kf (kn hw644_1 GW641)) _).trans (hHeld.2.2.2.2.2.2))))))))))⟩ (fun hHeld=>?_)
   clear hK K
   refine done_ (done_of HT_.out (by kernel_rfl)) ?_
   try go_wp2
   refine bodyPost_ret (results_cell_row rfl _ _ gb641 46 #[.int .i64 1,.int .i64 a0_1,.int .i64 0,.int .i64 0,.int .i64 ((rd_T74 l1 a0_2).f1)] (0,0) _ rfl (qF BK641) Try.underlying46 rfl (by kernel_rfl)) rfl ?_
   exact⟨qW,qB⟩
  simp only [Option.some.injEq,Prod.mk.injEq] at H
  obtain⟨rfl,rfl,rfl,rfl,rfl⟩:=H
  go_enter Try.func85,Try.ntmps85
  go_wp2_with (first|((with_reducible refine jd 3 rfl ?_);refine jX _ 46 ?_;intro gb640 hg w_0a hbox hb;have BK640:=aM hbox;have GW640:=kG hg;replace HB:=kH hb;clear hb hbox hg)|((with_reducible refine jd 6 rfl ?_);refine jX _ 46 ?_;intro gb641 hg w_1a hbox hb;have BK641:=aM hbox;have GW641:=kG hg;have NB640_641:=kN hg BK640;have NB641_640:=kM hg BK640;replace BK640:=kB BK640 hb;replace HB:=kH hb;clear hb hbox hg;have p642:0<=(0:Int):=(by omega);have q642:0 < (l1.length:Int):=qD;obtain⟨ad642,e642,hx642_0,hx642_1⟩:=at_T74 HR1.out 0 p642 q642;cases e642;have qi642:(0 < l1.length)=True:=eq_true (by omega);(try rw [show ((0:Int)).toNat=0 from rfl] at hx642_0);(try rw [show 0*2=0 from rfl] at hx642_0);(try rw [Addr.add_zero'] at hx642_0);(try rw [show ((0:Int)).toNat=0 from rfl] at hx642_1);(try rw [show 0*2=0 from rfl] at hx642_1);(try rw [Addr.add_zero'] at hx642_1);replace hx642_0:=kx HB hx642_0;replace hx642_1:=kx HB hx642_1;replace p642:=eq_true p642;replace q642:=eq_true q642;have h_1b:=NB640_641.out;have h_1c:=NB641_640.out;have c_1d:=jz5 BK640;have p643:0<=(a0_2:Int):=qD;have q643:a0_2 < (l1.length:Int):=qD;obtain⟨ad643,e643,hx643_0,hx643_1⟩:=at_T74 HR1.out a0_2 p643 q643;obtain rfl:ad642=ad643:=(by injection e643);replace hx643_0:=kx HB hx643_0;replace hx643_1:=kx HB hx643_1;replace p643:=eq_true p643;replace q643:=eq_true q643;have c_1e:=jz5 BK641))
  refine bodyPost_ret (results_cell_row rfl _ _ gb641 46 #[.int .i64 a0_0,.int .i64 a0_1,.int .i64 a0_2,.int .i64 a0_3,.int .i64 a0_4] (0,0) _ rfl (qF BK641) Try.underlying46 rfl (by kernel_rfl)) rfl ?_
  exact⟨qW,qB⟩
 replace H:=jE H;rcases H with ⟨c30b0,c30b1,H⟩ | ⟨c30,c30b0,c30b1,H⟩
 ·replace H:=jI H;obtain⟨c31b0,H⟩:=H
  replace H:=jI H;obtain⟨c32b0,H⟩:=H
  replace H:=jI H;obtain⟨c33b0,H⟩:=H
  replace H:=jI H;obtain⟨c34b0,H⟩:=H
  obtain⟨⟨t647,t648,t649,t650,t651⟩,A35,H⟩:=qE H
  try dsimp only at H
  simp only [Option.some.injEq,Prod.mk.injEq] at H
  obtain⟨rfl,rfl,rfl,rfl,rfl⟩:=H
  go_enter Try.func85,Try.ntmps85
  try go_wp2_with (first|((with_reducible refine jd 3 rfl ?_);refine jX _ 46 ?_;intro gb640 hg w_0a hbox hb;have BK640:=aM hbox;have GW640:=kG hg;replace HB:=kH hb;clear hb hbox hg)|((with_reducible refine jd 6 rfl ?_);refine jX _ 46 ?_;intro gb641 hg w_1a hbox hb;have BK641:=aM hbox;have GW641:=kG hg;have NB640_641:=kN hg BK640;have NB641_640:=kM hg BK640;replace BK640:=kB BK640 hb;replace HB:=kH hb;clear hb hbox hg;have p642:0<=(0:Int):=(by omega);have q642:0 < (l1.length:Int):=qD;obtain⟨ad642,e642,hx642_0,hx642_1⟩:=at_T74 HR1.out 0 p642 q642;cases e642;have qi642:(0 < l1.length)=True:=eq_true (by omega);(try rw [show ((0:Int)).toNat=0 from rfl] at hx642_0);(try rw [show 0*2=0 from rfl] at hx642_0);(try rw [Addr.add_zero'] at hx642_0);(try rw [show ((0:Int)).toNat=0 from rfl] at hx642_1);(try rw [show 0*2=0 from rfl] at hx642_1);(try rw [Addr.add_zero'] at hx642_1);replace hx642_0:=kx HB hx642_0;replace hx642_1:=kx HB hx642_1;replace p642:=eq_true p642;replace q642:=eq_true q642;have h_1b:=NB640_641.out;have h_1c:=NB641_640.out;have c_1d:=jz5 BK640))
  replace BK640:=aM (blk_drew BK640.out)
  replace BK641:=aM (blk_drew BK641.out)
  replace HB:=aM (below_drew1 HB.out)
  have p645:0<=(a0_2:Int):=qD
  have q645:a0_2 < (l1.length:Int):=qD
  obtain⟨ad645,e645,hx645_0,hx645_1⟩:=at_T74 HR1.out a0_2 p645 q645
  have hw645_1:=hx645_1
  have hw645_0:=hx645_0
  obtain rfl:ad642=ad645:=(by injection e645)
  replace hx645_0:=kx HB hx645_0
  replace hx645_1:=kx HB hx645_1
  replace p645:=eq_true p645
  replace q645:=eq_true q645
  have p646:0<=(a0_3:Int):=qD
  have q646:a0_3 < (l1.length:Int):=qD
  obtain⟨ad646,e646,hx646_0,hx646_1⟩:=at_T74 HR1.out a0_3 p646 q646
  have hw646_1:=hx646_1
  have hw646_0:=hx646_0
  obtain rfl:ad642=ad646:=(by injection e646)
  replace hx646_0:=kx HB hx646_0
  replace hx646_1:=kx HB hx646_1
  replace p646:=eq_true p646
  replace q646:=eq_true q646
  refine start_ (n:=13) (S:=fun w'=>w'.cell? ⟨gb640,0,none⟩=some (.int .i64 a0_0)/\w'.cell? ⟨gb640,1,none⟩=some (.int .i64 a0_1)/\w'.cell? ⟨gb640,2,none⟩=some (.int .i64 a0_2)/\w'.cell? ⟨gb640,3,none⟩=some (.int .i64 a0_3)/\w'.cell? ⟨gb640,4,none⟩=some (.int .i64 a0_4)/\w'.cell? (ad642.add ((a0_2).toNat*2))=some (.int .i64 ((rd_T74 l1 a0_2).f0))/\w'.cell? ⟨(ad642.add ((a0_2).toNat*2)).block,(ad642.add ((a0_2).toNat*2)).off+1,none⟩=some (.int .i64 ((rd_T74 l1 a0_2).f1))/\w'.cell? (ad642.add ((a0_3).toNat*2))=some (.int .i64 ((rd_T74 l1 a0_3).f0))/\w'.cell? ⟨(ad642.add ((a0_3).toNat*2)).block,(ad642.add ((a0_3).toNat*2)).off+1,none⟩=some (.int .i64 ((rd_T74 l1 a0_3).f1))) (ds:=[]) (jb 13 0) (by kernel_rfl) rfl rfl ⟨(blk_cell BK640.out 0).trans rfl,(blk_cell BK640.out 1).trans rfl,(blk_cell BK640.out 2).trans rfl,(blk_cell BK640.out 3).trans rfl,(blk_cell BK640.out 4).trans rfl,(kx HB hw645_0),(kx HB hw645_1),(kx HB hw646_0),(kx HB hw646_1)⟩ (fun hHeld=>?_);refine with_tabW Sl33Fold.tab8 Sl33Fold.bits8 (fun HT_ HW_=>?_)
  generalize w_1a.drew=w40 at BK640 BK641 HB hx645_0 hx645_1 hx646_0 hx646_1 hHeld ⊢
  refine jp 1 36 (jb 13 2) ?_
  refine jp 2 37 (jb 13 6) ?_
  refine jp 6 41 (jb 13 70) ?_
  refine jp 7 42 (jb 13 198) ?_
  refine jt 0 35 (jb 13 199) ?_
  refine jt 3 38 (jb 13 207) ?_
  refine jp 4 39 (jb 13 223) ?_
  refine jt 5 40 (jb 13 255) ?_
  refine jt 8 43 (jb 13 511) ?_
  refine jp 9 44 (jb 13 1023) ?_
  refine jt 10 45 (jb 13 2047) ?_
  refine one_ (i:=11) (N:=some 46) (jb 13 4095) rfl rfl (one_of HT_.out (by kernel_rfl)) (by decide) (fun K hK=>?_)
  refine goes_ Try.func105 (by kernel_rfl) rfl #[.agg #[.int .i64 a0_0,.int .i64 a0_1,.int .i64 a0_2,.int .i64 a0_3,.int .i64 a0_4],.agg #[.int .i64 ((rd_T74 l1 a0_2).f0),.int .i64 ((rd_T74 l1 a0_2).f1)],.agg #[.int .i64 ((rd_T74 l1 a0_3).f0),.int .i64 ((rd_T74 l1 a0_3).f1)]] (by rfl) rfl rfl qM ?_
  with_reducible refine (Sl33Bin.calls k a0_0 a0_1 a0_2 a0_3 a0_4 ((rd_T74 l1 a0_2).f0) ((rd_T74 l1 a0_2).f1) ((rd_T74 l1 a0_3).f0) ((rd_T74 l1 a0_3).f1) t647 t648 t649 t650 t651 _ A35.out).mono ?_
  rintro e w41 ⟨rfl,hb⟩
  refine⟨_,rfl,?_⟩
  replace BK640:=kB BK640 hb
  replace BK641:=kB BK641 hb
  replace HB:=kH hb
  (try clear hb)
  (try clear hb2)
  (try clear hk)
  (try clear hi)
  refine hK.out _ _ ⟨(blk_cell BK640.out 0).trans rfl,(blk_cell BK640.out 1).trans rfl,(blk_cell BK640.out 2).trans rfl,(blk_cell BK640.out 3).trans rfl,(blk_cell BK640.out 4).trans rfl,(kx HB hw645_0),(kx HB hw645_1),(kx HB hw646_0),(kx HB hw646_1)⟩ (fun hHeld=>?_)
  clear hK K
  refine norm_ (a':=?_) ?_ ?_
  rotate_left
  ·show Act.put _ (some 46) _=_
   simp only [Act.put,List.setIfInBounds_toArray,List.set_cons_zero,List.set_cons_succ,i64_w,i32_w]
   rfl
  refine one_ (i:=12) (N:=none) (jb 13 8191) rfl rfl (one_of HT_.out (by kernel_rfl)) (by decide) (fun K hK=>?_)
  have hs42:w41.cell? ⟨gb641,0,none⟩=some (.int .i64 0):=(blk_cell BK641.out 0).trans rfl
  have hfs42:=blk_frozen BK641.out 0
  have hns42_0:=NB640_641.out
  have hms42_0:=NB641_640.out
  have hs43:w41.cell? ⟨gb641,1,none⟩=some (.int .i64 0):=(blk_cell BK641.out 1).trans rfl
  have hfs43:=blk_frozen BK641.out 1
  have hns43_0:=NB640_641.out
  have hms43_0:=NB641_640.out
  have hs44:w41.cell? ⟨gb641,2,none⟩=some (.int .i64 0):=(blk_cell BK641.out 2).trans rfl
  have hfs44:=blk_frozen BK641.out 2
  have hns44_0:=NB640_641.out
  have hms44_0:=NB641_640.out
  have hs45:w41.cell? ⟨gb641,3,none⟩=some (.int .i64 0):=(blk_cell BK641.out 3).trans rfl
  have hfs45:=blk_frozen BK641.out 3
  have hns45_0:=NB640_641.out
  have hms45_0:=NB641_640.out
  have hs46:w41.cell? ⟨gb641,4,none⟩=some (.int .i64 0):=(blk_cell BK641.out 4).trans rfl
  have hfs46:=blk_frozen BK641.out 4
  have hns46_0:=NB640_641.out
  have hms46_0:=NB641_640.out
  refine skip_ (w1:=?_) (by rfl) rfl ?_ ?_
  rotate_left
  ·go_simp
   rfl
  refine hK.out _ _ ⟨((cell_far (p:=⟨gb641,_,none⟩) NB640_641.out _).trans (((cell_far (p:=⟨gb641,_,none⟩) NB640_641.out _).trans (((cell_far (p:=⟨gb641,_,none⟩) NB640_641.out _).trans (((cell_far (p:=⟨gb641,_,none⟩) NB640_641.out _).trans (((cell_far (p:=⟨gb641,_,none⟩) NB640_641.out _).trans (hHeld.1)))))))))),((cell_far (p:=⟨gb641,_,none⟩) NB640_641.out _).trans (((cell_far (p:=⟨gb641,_,none⟩) NB640_641.out _).trans (((cell_far (p:=⟨gb641,_,none⟩) NB640_641.out _).trans (((cell_far (p:=⟨gb641,_,none⟩) NB640_641.out _).trans (((cell_far (p:=⟨gb641,_,none⟩) NB640_641.out _).trans (hHeld.2.1)))))))))),((cell_far (p:=⟨gb641,_,none⟩) NB640_641.out _).trans (((cell_far (p:=⟨gb641,_,none⟩) NB640_641.out _).trans (((cell_far (p:=⟨gb641,_,none⟩) NB640_641.out _).trans (((cell_far (p:=⟨gb641,_,none⟩) NB640_641.out _).trans (((cell_far (p:=⟨gb641,_,none⟩) NB640_641.out _).trans (hHeld.2.2.1)))))))))),((cell_far (p:=⟨gb641,_,none⟩) NB640_641.out _).trans (((cell_far (p:=⟨gb641,_,none⟩) NB640_641.out _).trans (((cell_far (p:=⟨gb641,_,none⟩) NB640_641.out _).trans (((cell_far (p:=⟨gb641,_,none⟩) NB640_641.out _).trans (((cell_far (p:=⟨gb641,_,none⟩) NB640_641.out _).trans (hHeld.2.2.2.1)))))))))),((cell_far (p:=⟨gb641,_,none⟩) NB640_641.out _).trans (((cell_far (p:=⟨gb641,_,none⟩) NB640_641.out _).trans (((cell_far (p:=⟨gb641,_,none⟩) NB640_641.out _).trans (((cell_far (p:=⟨gb641,_,none⟩) NB640_641.out _).trans (((cell_far (p:=⟨gb641,_,none⟩) NB640_641.out _).trans (hHeld.2.2.2.2.1)))))))))),((cell_far (p:=⟨gb641,_,none⟩) (kf (kn hw645_0 GW641)) _).trans (((cell_far (p:=⟨gb641,_,none⟩) (kf (kn hw645_0 GW641)) _).trans (((cell_far (p:=⟨gb641,_,none⟩) (kf (kn hw645_0 GW641)) _).trans (((cell_far (p:=⟨gb641,_,none⟩) (kf (kn hw645_0 GW641)) _).trans (((cell_far (p:=⟨gb641,_,none⟩) (kf (kn hw645_0 GW641)) _).trans (hHeld.2.2.2.2.2.1)))))))))),((cell_far (p:=⟨gb641,_,none⟩) (kf (kn hw645_1 GW641)) _).trans (((cell_far (p:=⟨gb641,_,none⟩) (kf (kn hw645_1 GW641)) _).trans (((cell_far (p:=⟨gb641,_,none⟩) (kf (kn hw645_1 GW641)) _).trans (((cell_far (p:=⟨gb641,_,none⟩) (kf (kn hw645_1 GW641)) _).trans (((cell_far (p:=⟨gb641,_,none⟩) (kf (kn hw645_1 GW641)) _).trans (hHeld.2.2.2.2.2.2.1)))))))))),((cell_far (p:=⟨gb641,_,none⟩) (kf (kn hw646_0 GW641)) _).trans (((cell_far (p:=⟨gb641,_,none⟩) (kf (kn hw646_0 GW641)) _).trans (((cell_far (p:=⟨gb641,_,none⟩) (kf (kn hw646_0 GW641)) _).trans (((cell_far (p:=⟨gb641,_,none⟩) (kf (kn hw646_0 GW641)) _).trans (((cell_far (p:=⟨gb641,_,none⟩) (kf (kn hw646_0 GW641)) _).trans (hHeld.2.2.2.2.2.2.2.1)))))))))),((cell_far (p:=⟨gb641,_,none⟩) (kf (kn hw646_1 GW641)) _).trans (((cell_far (p:=⟨gb641,_,none⟩) (kf (kn hw646_1 GW641)) _).trans (((cell_far (p:=⟨gb641,_,none⟩) (kf (kn hw646_1 GW641)) _).trans (((cell_far (p:=⟨gb641,_,none⟩) (kf (kn hw646_1 GW641)) _).trans (((cell_far (p:=⟨gb641,_,none⟩) (kf (kn hw646_1 GW641)) _).trans (hHeld.2.2.2.2.2.2.2.2))))))))))⟩ (fun hHeld=>?_)
  clear hK K
  refine done_ (done_of HT_.out (by kernel_rfl)) ?_
  try go_wp2
  refine bodyPost_ret (results_cell_row rfl _ _ gb641 46 #[.int .i64 t647,.int .i64 t648,.int .i64 t649,.int .i64 t650,.int .i64 t651] (0,0) _ rfl (qF BK641) Try.underlying46 rfl (by kernel_rfl)) rfl ?_
  exact⟨qW,qB⟩
 replace H:=jE H;rcases H with ⟨c47b0,c47b1,H⟩ | ⟨c47,c47b0,c47b1,H⟩
 ·replace H:=jI H;obtain⟨c48b0,H⟩:=H
  replace H:=jI H;obtain⟨c49b0,H⟩:=H
  obtain⟨t653,A50,H⟩:=qE H
  try dsimp only at H
  replace H:=jB H;rcases H with ⟨rfl,H⟩ | ⟨rfl,H⟩
  ·simp only [Option.some.injEq,Prod.mk.injEq] at H
   obtain⟨rfl,rfl,rfl,rfl,rfl⟩:=H
   go_enter Try.func85,Try.ntmps85
   go_wp2_with (first|((with_reducible refine jd 3 rfl ?_);refine jX _ 46 ?_;intro gb640 hg w_0a hbox hb;have BK640:=aM hbox;have GW640:=kG hg;replace HB:=kH hb;clear hb hbox hg)|((with_reducible refine jd 6 rfl ?_);refine jX _ 46 ?_;intro gb641 hg w_1a hbox hb;have BK641:=aM hbox;have GW641:=kG hg;have NB640_641:=kN hg BK640;have NB641_640:=kM hg BK640;replace BK640:=kB BK640 hb;replace HB:=kH hb;clear hb hbox hg;have p642:0<=(0:Int):=(by omega);have q642:0 < (l1.length:Int):=qD;obtain⟨ad642,e642,hx642_0,hx642_1⟩:=at_T74 HR1.out 0 p642 q642;cases e642;have qi642:(0 < l1.length)=True:=eq_true (by omega);(try rw [show ((0:Int)).toNat=0 from rfl] at hx642_0);(try rw [show 0*2=0 from rfl] at hx642_0);(try rw [Addr.add_zero'] at hx642_0);(try rw [show ((0:Int)).toNat=0 from rfl] at hx642_1);(try rw [show 0*2=0 from rfl] at hx642_1);(try rw [Addr.add_zero'] at hx642_1);replace hx642_0:=kx HB hx642_0;replace hx642_1:=kx HB hx642_1;replace p642:=eq_true p642;replace q642:=eq_true q642;have h_1b:=NB640_641.out;have h_1c:=NB641_640.out;have c_1d:=jz5 BK640;have p652:0<=(a0_2:Int):=qD;have q652:a0_2 < (l1.length:Int):=qD;obtain⟨ad652,e652,hx652_0,hx652_1⟩:=at_T74 HR1.out a0_2 p652 q652;obtain rfl:ad642=ad652:=(by injection e652);replace hx652_0:=kx HB hx652_0;replace hx652_1:=kx HB hx652_1;replace p652:=eq_true p652;replace q652:=eq_true q652)|((with_reducible refine jc 106 54 rfl rfl ?_);refine jG Try.func106 #[.agg #[.int .i64 ((rd_T74 l1 a0_2).f0),.int .i64 ((rd_T74 l1 a0_2).f1)],.int .i64 0] ?_;(with_reducible refine (Sl33Is.calls _ _ _ _ _ (Aside0.out (by assumption))).mono ?_);rintro e w_2a ⟨rfl,hb⟩;refine⟨_,rfl,?_⟩;replace BK640:=kB BK640 hb;replace BK641:=kB BK641 hb;replace HB:=kH hb;clear hb;have c_2b:=jz5 BK640;have c_2c:=jz5 BK641))
   refine bodyPost_ret (results_cell_row rfl _ _ gb641 46 #[.int .i64 4,.int .i64 0,.int .i64 0,.int .i64 0,.int .i64 a0_4] (0,0) _ rfl (qF BK641) Try.underlying46 rfl (by kernel_rfl)) rfl ?_
   exact⟨qW,qB⟩
  replace H:=jE H;rcases H with ⟨c59b0,c59b1,H⟩ | ⟨c59,c59b0,c59b1,H⟩
  ·simp only [Option.some.injEq,Prod.mk.injEq] at H
   obtain⟨rfl,rfl,rfl,rfl,rfl⟩:=H
   go_enter Try.func85,Try.ntmps85
   go_wp2_with (first|((with_reducible refine jd 3 rfl ?_);refine jX _ 46 ?_;intro gb640 hg w_0a hbox hb;have BK640:=aM hbox;have GW640:=kG hg;replace HB:=kH hb;clear hb hbox hg)|((with_reducible refine jd 6 rfl ?_);refine jX _ 46 ?_;intro gb641 hg w_1a hbox hb;have BK641:=aM hbox;have GW641:=kG hg;have NB640_641:=kN hg BK640;have NB641_640:=kM hg BK640;replace BK640:=kB BK640 hb;replace HB:=kH hb;clear hb hbox hg;have p642:0<=(0:Int):=(by omega);have q642:0 < (l1.length:Int):=qD;obtain⟨ad642,e642,hx642_0,hx642_1⟩:=at_T74 HR1.out 0 p642 q642;cases e642;have qi642:(0 < l1.length)=True:=eq_true (by omega);(try rw [show ((0:Int)).toNat=0 from rfl] at hx642_0);(try rw [show 0*2=0 from rfl] at hx642_0);(try rw [Addr.add_zero'] at hx642_0);(try rw [show ((0:Int)).toNat=0 from rfl] at hx642_1);(try rw [show 0*2=0 from rfl] at hx642_1);(try rw [Addr.add_zero'] at hx642_1);replace hx642_0:=kx HB hx642_0;replace hx642_1:=kx HB hx642_1;replace p642:=eq_true p642;replace q642:=eq_true q642;have h_1b:=NB640_641.out;have h_1c:=NB641_640.out;have c_1d:=jz5 BK640;have p652:0<=(a0_2:Int):=qD;have q652:a0_2 < (l1.length:Int):=qD;obtain⟨ad652,e652,hx652_0,hx652_1⟩:=at_T74 HR1.out a0_2 p652 q652;obtain rfl:ad642=ad652:=(by injection e652);replace hx652_0:=kx HB hx652_0;replace hx652_1:=kx HB hx652_1;replace p652:=eq_true p652;replace q652:=eq_true q652)|((with_reducible refine jc 106 54 rfl rfl ?_);refine jG Try.func106 #[.agg #[.int .i64 ((rd_T74 l1 a0_2).f0),.int .i64 ((rd_T74 l1 a0_2).f1)],.int .i64 0] ?_;(with_reducible refine (Sl33Is.calls _ _ _ _ _ (Aside0.out (by assumption))).mono ?_);rintro e w_2a ⟨rfl,hb⟩;refine⟨_,rfl,?_⟩;replace BK640:=kB BK640 hb;replace BK641:=kB BK641 hb;replace HB:=kH hb;clear hb;have c_2b:=jz5 BK640;have p654:0<=(a0_2:Int):=qD;have q654:a0_2 < (l1.length:Int):=qD;obtain⟨ad654,e654,hx654_0,hx654_1⟩:=at_T74 HR1.out a0_2 p654 q654;obtain rfl:ad642=ad654:=(by injection e654);replace hx654_0:=kx HB hx654_0;replace hx654_1:=kx HB hx654_1;replace p654:=eq_true p654;replace q654:=eq_true q654;have c_2c:=jz5 BK641))
   refine bodyPost_ret (results_cell_row rfl _ _ gb641 46 #[.int .i64 4,.int .i64 0,.int .i64 0,.int .i64 0,.int .i64 (wrap64 (a2+1))] (0,0) _ rfl (qF BK641) Try.underlying46 rfl (by kernel_rfl)) rfl ?_
   exact⟨qW,qB⟩
  simp only [Option.some.injEq,Prod.mk.injEq] at H
  obtain⟨rfl,rfl,rfl,rfl,rfl⟩:=H
  go_enter Try.func85,Try.ntmps85
  go_wp2_with (first|((with_reducible refine jd 3 rfl ?_);refine jX _ 46 ?_;intro gb640 hg w_0a hbox hb;have BK640:=aM hbox;have GW640:=kG hg;replace HB:=kH hb;clear hb hbox hg)|((with_reducible refine jd 6 rfl ?_);refine jX _ 46 ?_;intro gb641 hg w_1a hbox hb;have BK641:=aM hbox;have GW641:=kG hg;have NB640_641:=kN hg BK640;have NB641_640:=kM hg BK640;replace BK640:=kB BK640 hb;replace HB:=kH hb;clear hb hbox hg;have p642:0<=(0:Int):=(by omega);have q642:0 < (l1.length:Int):=qD;obtain⟨ad642,e642,hx642_0,hx642_1⟩:=at_T74 HR1.out 0 p642 q642;cases e642;have qi642:(0 < l1.length)=True:=eq_true (by omega);(try rw [show ((0:Int)).toNat=0 from rfl] at hx642_0);(try rw [show 0*2=0 from rfl] at hx642_0);(try rw [Addr.add_zero'] at hx642_0);(try rw [show ((0:Int)).toNat=0 from rfl] at hx642_1);(try rw [show 0*2=0 from rfl] at hx642_1);(try rw [Addr.add_zero'] at hx642_1);replace hx642_0:=kx HB hx642_0;replace hx642_1:=kx HB hx642_1;replace p642:=eq_true p642;replace q642:=eq_true q642;have h_1b:=NB640_641.out;have h_1c:=NB641_640.out;have c_1d:=jz5 BK640;have p652:0<=(a0_2:Int):=qD;have q652:a0_2 < (l1.length:Int):=qD;obtain⟨ad652,e652,hx652_0,hx652_1⟩:=at_T74 HR1.out a0_2 p652 q652;obtain rfl:ad642=ad652:=(by injection e652);replace hx652_0:=kx HB hx652_0;replace hx652_1:=kx HB hx652_1;replace p652:=eq_true p652;replace q652:=eq_true q652)|((with_reducible refine jc 106 54 rfl rfl ?_);refine jG Try.func106 #[.agg #[.int .i64 ((rd_T74 l1 a0_2).f0),.int .i64 ((rd_T74 l1 a0_2).f1)],.int .i64 0] ?_;(with_reducible refine (Sl33Is.calls _ _ _ _ _ (Aside0.out (by assumption))).mono ?_);rintro e w_2a ⟨rfl,hb⟩;refine⟨_,rfl,?_⟩;replace BK640:=kB BK640 hb;replace BK641:=kB BK641 hb;replace HB:=kH hb;clear hb;have c_2b:=jz5 BK640;have p654:0<=(a0_2:Int):=qD;have q654:a0_2 < (l1.length:Int):=qD;obtain⟨ad654,e654,hx654_0,hx654_1⟩:=at_T74 HR1.out a0_2 p654 q654;obtain rfl:ad642=ad654:=(by injection e654);replace hx654_0:=kx HB hx654_0;replace hx654_1:=kx HB hx654_1;replace p654:=eq_true p654;replace q654:=eq_true q654;have c_2c:=jz5 BK641))
  refine bodyPost_ret (results_cell_row rfl _ _ gb641 46 #[.int .i64 a0_0,.int .i64 a0_1,.int .i64 a0_2,.int .i64 a0_3,.int .i64 a0_4] (0,0) _ rfl (qF BK641) Try.underlying46 rfl (by kernel_rfl)) rfl ?_
  exact⟨qW,qB⟩
 simp only [Option.some.injEq,Prod.mk.injEq] at H
 obtain⟨rfl,rfl,rfl,rfl,rfl⟩:=H
 exact Sl33Fold_calls_s0
def SFoldCode.l0:Nat->List (S46)->List (S46)->List (List (S74))->Int->Option ((List (S46)) × Bool)
 | 0,_,_,_,_=>none
 | k+1,x0,x4,x5,x6=>if x6 < (x0.length:Int) then (if 0<=x6 then (if x6 < (x5.length:Int) then ((Sl33Fold.f k ((rd_T46 x0 x6).f0) ((rd_T46 x0 x6).f1) ((rd_T46 x0 x6).f2) ((rd_T46 x0 x6).f3) ((rd_T46 x0 x6).f4) (rd_L9 x5 x6) x6).bind fun bt664=>(if x4.length < 3518437208883 then (SFoldCode.l0 k x0 (x4 ++ [(⟨bt664.1,bt664.2.1,bt664.2.2.1,bt664.2.2.2.1,bt664.2.2.2.2⟩:S46)]) x5 (wrap64 (x6+1))) else (none))) else (none)) else (none)) else (some (x4,true))
def SFoldCode.f (k:Nat) (l0:List (S46)):Option ((List (S46)) × Bool):=(some (([]:List (S46)):List (S46))).bind fun y655=>((SCodeValid.f k l0).bind fun t658=>(if t658=true then ((SFactsOf.f k l0).bind fun t659=>(SFoldCode.l0 k l0 y655 t659 0)) else (some (y655,false))))
theorem SFoldCode.mono_l:∀ k,(∀ y0 y1 y2 y3,LeO (SFoldCode.l0 k y0 y1 y2 y3) (SFoldCode.l0 (k+1) y0 y1 y2 y3))
 | 0=>fun _ _ _ _ r h=>by simp [SFoldCode.l0] at h
 | k+1=>by
  have ih0:=SFoldCode.mono_l k;have m0:=@SCodeValid.mono;have m1:=@SFactsOf.mono;have m2:=@Sl33Fold.mono
  intros;unfold SFoldCode.l0;exact mM
theorem SFoldCode.mono:∀ a0 k,LeO (SFoldCode.f k a0) (SFoldCode.f (k+1) a0):=by
 intro a0 k;have ih0:=SFoldCode.mono_l k;unfold SFoldCode.f;have m0:=@SCodeValid.mono;have m1:=@SFactsOf.mono;have m2:=@Sl33Fold.mono;exact mM
def SFoldCode.T8:Bool × List (List Nat × List Nat):=(true,[([],[]),([],[]),([],[]),([1,2],[1,2]),([3],[3]),([],[]),([],[]),([5,6],[5,6]),([7],[7]),([],[]),([4,8,9],[4,8,9]),([10],[10]),([0,11,10],[0,11]),([12,12,0,1,2,3,4,5,6,7,8,9,10,11,12],[0,12])])
def SFoldCode.B8:List Nat:=[0,0,0,6,14,0,0,96,224,0,1022,2046,4095,8191]
theorem SFoldCode.tab8:rtab .any (opsOf Try.f63 8)=SFoldCode.T8:=by kernel_rfl
theorem SFoldCode.bits8:waitsOk SFoldCode.T8.2 SFoldCode.B8=true:=by kernel_rfl
theorem SFoldCode.calls (k:Nat) (A0:Option Addr) (c0:Nat) (l0:List (S46)) (r1:List (S46)) (r2:Bool) (w:World) (hr0:Kd.C k46 w A0 l0.length l0) (hc0:l0.length<=c0) (h:SFoldCode.f k l0=some (r1,r2)) :
  Calls Try.prog 63 #[.slice A0 l0.length c0] w fun e w'=>∃ v0_:Value,e = .returned (.tuple #[v0_,.bool r2])/\Kd.R k46 46 w' w.heap.size (fun _=>True) v0_ r1/\Below w.heap.size w w':=by
 have hu46:=Try.underlying46
 have HR0:=aM hr0
 have HC0:=aM hc0
 clear hr0 hc0
 have HB:=aM (Below.refl w.heap.size w)
 have H:=h;unfold SFoldCode.f at H
 clear h
 obtain⟨y655,Ny655⟩:=ky ((([]:List (S46))):List (S46))
 first|replace H:=kz Ny655 H|rw [<- Ny655.out] at H
 obtain⟨t658,A2,H⟩:=qE H
 try dsimp only at H
 replace H:=jB H;rcases H with ⟨rfl,H⟩ | ⟨rfl,H⟩
 ·obtain⟨t659,A4,H⟩:=qE H
  try dsimp only at H
  have H':=aM H
  clear H
  go_enter Try.func63,Try.ntmps63
  go_wp2_with (first|((with_reducible refine jd 7 rfl ?_);refine jV k46 46 ([]:List (S46)) [] (Reps.none _ _) ?_;intro v656 w5 ho6 hb;(first|rw [<- Ny655.out] at ho6|(simp only [Int.reduceToNat] at ho6;rw [<- Ny655.out] at ho6));have HO657:=kL ho6;replace HB:=kH hb;clear hb ho6)|((with_reducible refine jc 29 9 rfl rfl ?_);refine jG Try.func29 #[.slice A0 l0.length c0] ?_;(with_reducible refine (SCodeValid.calls k _ _ l0 true _ ?side1 ?side2 A2.out).mono ?_);(case side1=>exact kC (Kd.C_below HR0.out HB.out));(case side2=>exact HC0.out);rintro e w7 ⟨rfl,hb⟩;refine⟨_,rfl,?_⟩;replace HO657:=kR HO657 hb;replace HB:=kH hb;clear hb)|((with_reducible refine jc 84 13 rfl rfl ?_);refine jG Try.func84 #[.slice A0 l0.length c0] ?_;(with_reducible refine (SFactsOf.calls k _ _ l0 t659 _ ?side1 ?side2 A4.out).mono ?_);(case side1=>exact kC (Kd.C_below HR0.out HB.out));(case side2=>exact HC0.out);rintro e w8 ⟨v660,rfl,ho0,hb⟩;refine⟨_,rfl,?_⟩;have HO661:=aM (Kd.S_lower ho0 (below_size qB));replace HO657:=kR HO657 hb;replace HB:=kH hb;clear hb;(try clear ho0)))
  go_loopg [4,6] k (fun kq v4 v6 w'=>∃ (x4_1:List (S46)) (x6_1:Int),v6 = .int .i64 x6_1/\Aside0 (SFoldCode.l0 kq l0 x4_1 t659 x6_1=some (r1,r2))/\Aside0 (kq<=k)/\Aside0 (Kd.R k46 46 w' w.heap.size (fun _=>True) v4 x4_1)/\Aside0 (Kd.S (Kd.slice 74 k74) 91 w' w.heap.size (fun _=>True) v660 t659)/\Aside0 (Below w.heap.size w w'))
  case atStart=>exact⟨(y655),(0),qZ,H',⟨Nat.le_refl _⟩,⟨qR HO657⟩,⟨qS HO661⟩,⟨qB⟩⟩
  clear H'
  obtain⟨x4_1,x6_1,rfl,HA,HK1,HO_4,HO_5,HB⟩:=hrel
  rcases gk with _|k1
  ·exact absurd HA.out (by simp [SFoldCode.l0])
  have H:=HA.out
  clear HA
  simp only [SFoldCode.l0] at H
  replace H:=jD H;rcases H with ⟨c9b0,H⟩ | ⟨c9b0,H⟩
  ·replace H:=jI H;obtain⟨c10b0,H⟩:=H
   replace H:=jI H;obtain⟨c11b0,H⟩:=H
   obtain⟨⟨t664,t665,t666,t667,t668⟩,A12,H⟩:=qE H
   try dsimp only at H
   replace H:=jL H;obtain⟨LMc13,H⟩:=H
   obtain⟨y669,Ny669⟩:=ky ((x4_1 ++ [(⟨t664,t665,t666,t667,t668⟩:S46)]):List (S46))
   first|replace H:=kz Ny669 H|rw [<- Ny669.out] at H
   have H':=aM H
   clear H
   try go_wp2
   replace HO_4:=aM (Kd.R_drew HO_4.out)
   replace HO_5:=aM (Kd.S_drew HO_5.out)
   replace HB:=aM (below_drew1 HB.out)
   have p662:0<=(x6_1:Int):=qD
   have q662:x6_1 < (l0.length:Int):=qD
   obtain⟨ad662,e662,hx662_0,hx662_1,hx662_2,hx662_3,hx662_4⟩:=at_T46 HR0.out x6_1 p662 q662
   have hw662_4:=hx662_4
   have hw662_3:=hx662_3
   have hw662_2:=hx662_2
   have hw662_1:=hx662_1
   have hw662_0:=hx662_0
   cases e662
   replace hx662_0:=kx HB hx662_0
   replace hx662_1:=kx HB hx662_1
   replace hx662_2:=kx HB hx662_2
   replace hx662_3:=kx HB hx662_3
   replace hx662_4:=kx HB hx662_4
   replace p662:=eq_true p662
   replace q662:=eq_true q662
   obtain⟨Ao15,co15,eo15⟩:=Kd.S_slice HO_5.out
   (first|subst eo15|(injection eo15 with f1_ f2_ f3_;have f4_:=f1_.symm;have f5_:=f3_.symm;clear f1_ f2_ f3_;subst f4_;subst f5_))
   have p663:0<=(x6_1:Int):=qD
   have q663:x6_1 < (t659.length:Int):=qD
   obtain⟨ad663,A663_0,c663_0,e663,hx663_0,hl663_0,hi663_0⟩:=at_L9 (Kd.S_reads' HO_5.out).2.2 x6_1 p663 q663
   cases e663
   obtain⟨ce663,hce663,hMe663,hcc663⟩:=Kd.S_get HO_5.out [] x6_1 p663 (by first|exact q663|exact qD|(have e_:=(Kd.S_reads' HO_5.out).1;omega))
   obtain⟨ve663_0,rfl,ge663_0⟩:=hMe663
   have hv663_0:=hcc663 0 _ rfl
   rw [Nat.add_zero,show ((Kd.slice 74 k74)).sz=1 from rfl,Nat.mul_one] at hv663_0
   replace hv663_0:=Option.some.inj (hv663_0.symm.trans hx663_0)
   rw [hv663_0] at ge663_0
   have HL663_0:=aM (show Kd.R k74 74 _ _ _ _ (rd_L9 t659 x6_1) from ge663_0)
   clear hv663_0 ge663_0
   clear hcc663 hce663
   have HR663_0:=aM hi663_0
   have HC663_0:=aM hl663_0
   clear hi663_0 hl663_0
   replace p663:=eq_true p663
   replace q663:=eq_true q663
   refine start_ (n:=14) (S:=fun w'=>w'.cell? (ad662.add ((x6_1).toNat*5))=some (.int .i64 ((rd_T46 l0 x6_1).f0))/\w'.cell? ⟨(ad662.add ((x6_1).toNat*5)).block,(ad662.add ((x6_1).toNat*5)).off+1,none⟩=some (.int .i64 ((rd_T46 l0 x6_1).f1))/\w'.cell? ⟨(ad662.add ((x6_1).toNat*5)).block,(ad662.add ((x6_1).toNat*5)).off+2,none⟩=some (.int .i64 ((rd_T46 l0 x6_1).f2))/\w'.cell? ⟨(ad662.add ((x6_1).toNat*5)).block,(ad662.add ((x6_1).toNat*5)).off+3,none⟩=some (.int .i64 ((rd_T46 l0 x6_1).f3))/\w'.cell? ⟨(ad662.add ((x6_1).toNat*5)).block,(ad662.add ((x6_1).toNat*5)).off+4,none⟩=some (.int .i64 ((rd_T46 l0 x6_1).f4))/\w'.cell? (ad663.add (x6_1).toNat)=some (.slice A663_0 (rd_L9 t659 x6_1).length c663_0)) (ds:=[11,12]) (jb 14 0) (by kernel_rfl) rfl rfl ⟨(kx HB hw662_0),(kx HB hw662_1),(kx HB hw662_2),(kx HB hw662_3),(kx HB hw662_4),hx663_0⟩ (fun hHeld=>?_);refine with_tabW SFoldCode.tab8 SFoldCode.bits8 (fun HT_ HW_=>?_)
   generalize wr.drew=w14 at HO_4 HO_5 HB HL663_0 HR663_0 hx662_0 hx662_1 hx662_2 hx662_3 hx662_4 hx663_0 hHeld ⊢
   refine jp 0 20 (jb 14 1) ?_
   refine jp 1 21 (jb 14 3) ?_
   refine jp 2 22 (jb 14 7) ?_
   refine jp 3 23 (jb 14 15) ?_
   refine jp 5 25 (jb 14 47) ?_
   refine jp 6 26 (jb 14 111) ?_
   refine jp 7 27 (jb 14 239) ?_
   refine jp 9 29 (jb 14 751) ?_
   refine jt 4 24 (jb 14 767) ?_
   refine jt 8 28 (jb 14 1023) ?_
   refine one_ (i:=10) (N:=some 30) (jb 14 2047) rfl rfl (one_of HT_.out (by kernel_rfl)) (by decide) (fun K hK=>?_)
   refine goes_ Try.func85 (by kernel_rfl) rfl #[.agg #[.int .i64 ((rd_T46 l0 x6_1).f0),.int .i64 ((rd_T46 l0 x6_1).f1),.int .i64 ((rd_T46 l0 x6_1).f2),.int .i64 ((rd_T46 l0 x6_1).f3),.int .i64 ((rd_T46 l0 x6_1).f4)],.slice A663_0 (rd_L9 t659 x6_1).length c663_0,.int .i64 x6_1] (by rfl) rfl rfl qM ?_
   with_reducible refine (Sl33Fold.calls k1 ((rd_T46 l0 x6_1).f0) ((rd_T46 l0 x6_1).f1) ((rd_T46 l0 x6_1).f2) ((rd_T46 l0 x6_1).f3) ((rd_T46 l0 x6_1).f4) _ _ (rd_L9 t659 x6_1) x6_1 t664 t665 t666 t667 t668 _ ?side1 ?side2 A12.out).mono ?_
   (case side1=>repeat (first|exact (kC HR663_0.out)|(with_reducible refine Kd.C_alloc ?_ _)|(with_reducible refine Kd.C_drewN ?_ _)|(with_reducible refine Kd.C_drew ?_)))
   (case side2=>exact HC663_0.out)
   rintro e w16 ⟨rfl,hb⟩
   have HS5_:=(hb.cell (World.block_lt_of_cell? _ _ (hHeld.2.2.2.2.2))).trans (hHeld.2.2.2.2.2)
   refine⟨_,rfl,?_⟩
   replace HO_4:=kR HO_4 hb
   replace HO_5:=kS HO_5 hb
   replace HL663_0:=kR HL663_0 hb
   replace HR663_0:=kQ HR663_0 hb
   replace HB:=kH hb
   (try clear hb)
   (try clear hb2)
   (try clear hk)
   (try clear hi)
   refine hK.out _ _ ⟨(kx HB hw662_0),(kx HB hw662_1),(kx HB hw662_2),(kx HB hw662_3),(kx HB hw662_4),HS5_⟩ (fun hHeld=>?_)
   clear hK K
   refine norm_ (a':=?_) ?_ ?_
   rotate_left
   ·show Act.put _ (some 30) _=_
    simp only [Act.put,List.setIfInBounds_toArray,List.set_cons_zero,List.set_cons_succ,i64_w,i32_w]
    rfl
   refine last_ (i:=11) (N:=some 31) (jb 14 4095) rfl rfl (one_of HT_.out (by kernel_rfl)) (by decide) (fun K hK=>?_)
   refine value_ (w1:=?_) (v:=?_) (by rfl) rfl ?_ ?_
   rotate_left 2
   ·go_simp
    constructor
    ·rfl
    rfl
   refine hK.out _ _ ?_
   clear hK K
   refine norm_ (a':=?_) ?_ ?_
   rotate_left
   ·show Act.put _ (some 31) _=_
    simp only [Act.put,List.setIfInBounds_toArray,List.set_cons_zero,List.set_cons_succ,i64_w,i32_w]
    rfl
   refine last_ (i:=12) (N:=some 32) (jb 14 8191) rfl rfl (one_of HT_.out (by kernel_rfl)) (by decide) (fun K hK=>?_)
   refine Kd.R_append_step k46 (w0:=w) w.heap.size (by rfl) (.tmp 20) (.tmp 31) 25 46 (.agg #[(.int .i64 0),(.int .i64 0),(.int .i64 0),(.int .i64 0),(.int .i64 0)]) 40 rfl Try.underlying25 info46 rfl (by decide) (by omega) u4 x4_1 (⟨t664,t665,t666,t667,t668⟩:S46) [.int .i64 t664,.int .i64 t665,.int .i64 t666,.int .i64 t667,.int .i64 t668] (fun _=>True) (fun _=>False) rfl rfl ?aP (fun _ hk=>hk.elim) ?aF ?aO ?aB ?aS ?aL ?_
   (case aP=>exact k46_mkM _ _ _ (⟨t664,t665,t666,t667,t668⟩:S46))
   (case aB=>exact qB)
   (case aF=>exact (fun _ _=>trivial))
   (case aO=>exact (qR HO_4))
   (case aS=>exact (below_size qB))
   (case aL=>have:=LMc13.out;omega)
   intro v670 w17 ho hb hg hat
   rw [<- Ny669.out] at ho
   have HO671:=aM ho
   replace HO_5:=aM (Kd.S_over' (qS HO_5) (Kd.R_typed (qR HO_4)) (by decide) hg)
   replace HL663_0:=aM (Kd.R_over' (qR HL663_0) (Kd.R_typed (qR HO_4)) (by decide) hg)
   replace HB:=aM hb
   clear HO_4
   clear ho hb hg hat
   refine hK.out _ _ ?_
   clear hK K
   refine norm_ (a':=?_) ?_ ?_
   rotate_left
   ·show Act.put _ (some 32) _=_
    simp only [Act.put,List.setIfInBounds_toArray,List.set_cons_zero,List.set_cons_succ,i64_w,i32_w]
    rfl
   refine jp 13 4 (jb 14 16383) ?_
   refine done_ (done_of HT_.out (by kernel_rfl)) ?_
   try go_wp2
   go_roundg k1
   case measure=>have:=HK1.out;omega
   exact⟨(y669),(wrap64 (x6_1+1)),qZ,H',⟨by have:=HK1.out;omega⟩,⟨qR HO671⟩,⟨qS HO_5⟩,⟨qB⟩⟩
  simp only [Option.some.injEq,Prod.mk.injEq] at H
  obtain⟨rfl,rfl⟩:=H
  go_wp2
  go_ret2
  exact⟨_,by first|rfl|(simp [errW_none,errW_some] <;> rfl)|(simp [*,errW_none,errW_some] <;> rfl),qR HO_4,qB⟩
 simp only [Option.some.injEq,Prod.mk.injEq] at H
 obtain⟨rfl,rfl⟩:=H
 go_enter Try.func63,Try.ntmps63
 go_wp2_with (first|((with_reducible refine jd 7 rfl ?_);refine jV k46 46 ([]:List (S46)) [] (Reps.none _ _) ?_;intro v656 w18 ho19 hb;(first|rw [<- Ny655.out] at ho19|(simp only [Int.reduceToNat] at ho19;rw [<- Ny655.out] at ho19));have HO657:=kL ho19;replace HB:=kH hb;clear hb ho19)|((with_reducible refine jc 29 9 rfl rfl ?_);refine jG Try.func29 #[.slice A0 l0.length c0] ?_;(with_reducible refine (SCodeValid.calls k _ _ l0 false _ ?side1 ?side2 A2.out).mono ?_);(case side1=>exact kC (Kd.C_below HR0.out HB.out));(case side2=>exact HC0.out);rintro e w20 ⟨rfl,hb⟩;refine⟨_,rfl,?_⟩;replace HO657:=kR HO657 hb;replace HB:=kH hb;clear hb))
 go_ret2
 exact⟨_,by first|rfl|(simp [errW_none,errW_some] <;> rfl)|(simp [*,errW_none,errW_some] <;> rfl),qR HO657,qB⟩
def Sl34Self.l0:Nat->List Int->Int->Option (List Int)
 | 0,_,_=>none
 | k+1,x1,x2=>if x2 < 12 then (if x1.length < 17592186044416 then (Sl34Self.l0 k (x1 ++ [x2]) (wrap64 (x2+1))) else (none)) else (some x1)
def Sl34Self.f (k:Nat)  : Option (List Int):=Sl34Self.l0 k (([]:List Int)) 0
theorem Sl34Self.mono_l:∀ k,(∀ y0 y1,LeO (Sl34Self.l0 k y0 y1) (Sl34Self.l0 (k+1) y0 y1))
 | 0=>fun _ _ r h=>by simp [Sl34Self.l0] at h
 | k+1=>by
  have ih0:=Sl34Self.mono_l k
  intros;unfold Sl34Self.l0;exact mM
theorem Sl34Self.mono:∀ k,LeO (Sl34Self.f k ) (Sl34Self.f (k+1) ):=by
 intro  k;have ih0:=Sl34Self.mono_l k;unfold Sl34Self.f;exact mM
theorem Sl34Self.calls (k:Nat)  (r:List Int) (w:World) (h:Sl34Self.f k  = some r) :
  Calls Try.prog 107 #[] w fun e w'=>∃ v0_:Value,e = .returned (v0_)/\Kd.R (Kd.int .i64) 3 w' w.heap.size (fun _=>True) v0_ r/\Below w.heap.size w w':=by
 have HB:=aM (Below.refl w.heap.size w)
 have H:(Sl34Self.l0 k (([]:List Int)) 0)=some r:=h
 clear h
 obtain⟨y672,Ny672⟩:=ky ((([]:List Int)):List Int)
 first|replace H:=kz Ny672 H|rw [<- Ny672.out] at H
 have H':=aM H
 clear H
 go_enter Try.func107,Try.ntmps107
 go_wp2_with (first|((with_reducible refine jd 3 rfl ?_);refine jV (Kd.int .i64) 3 ([]:List Int) [] (Reps.none _ _) ?_;intro v673 w1 ho2 hb;(first|rw [<- Ny672.out] at ho2|(simp only [Int.reduceToNat] at ho2;rw [<- Ny672.out] at ho2));have HO674:=kL ho2;replace HB:=kH hb;clear hb ho2))
 go_loopg [1,2] k (fun kq v1 v2 w'=>∃ (x1_1:List Int) (x2_1:Int),v2 = .int .i64 x2_1/\Aside0 (Sl34Self.l0 kq x1_1 x2_1=some r)/\Aside0 (kq<=k)/\Aside0 (Kd.R (Kd.int .i64) 3 w' w.heap.size (fun _=>True) v1 x1_1)/\Aside0 (Below w.heap.size w w'))
 case atStart=>exact⟨(y672),(0),qZ,H',⟨Nat.le_refl _⟩,⟨qR HO674⟩,⟨qB⟩⟩
 clear H'
 obtain⟨x1_1,x2_1,rfl,HA,HK1,HO_1,HB⟩:=hrel
 rcases gk with _|k1
 ·exact absurd HA.out (by simp [Sl34Self.l0])
 have H:=HA.out
 clear HA
 simp only [Sl34Self.l0] at H
 replace H:=jD H;rcases H with ⟨c3b0,H⟩ | ⟨c3b0,H⟩
 ·replace H:=jL H;obtain⟨LMc4,H⟩:=H
  obtain⟨y675,Ny675⟩:=ky ((x1_1 ++ [x2_1]):List Int)
  first|replace H:=kz Ny675 H|rw [<- Ny675.out] at H
  have H':=aM H
  clear H
  go_wp2_with (first|((with_reducible refine gate_builtin (b:=.append) (xs:=#[.tmp 8,.tmp 10]) rfl ?_);at_builtin;refine Kd.R_append (Kd.int .i64) (w0:=w) w.heap.size rfl (.tmp 8) (.tmp 10) 31 3 (.int .i64 0) 8 rfl Try.underlying31 info3 rfl (by decide) (by omega) u1 x1_1 x2_1 [.int .i64 x2_1] (fun _=>True) (fun _=>False) rfl rfl ?aP (fun _ hk=>hk.elim) ?aF ?aO ?aB ?aS ?aL ?_;(case aP=>exact rfl);(case aB=>exact qB);(case aF=>exact (fun _ _=>trivial));(case aO=>exact (qR HO_1));(case aS=>exact (below_size qB));(case aL=>have:=LMc4.out;omega);intro v676 w_0a ho hb hg hat;rw [<- Ny675.out] at ho;have HO677:=aM ho;replace HB:=aM hb;clear HO_1;clear ho hb hg hat))
  go_roundg k1
  case measure=>have:=HK1.out;omega
  exact⟨_,_,qZ,H',⟨by have:=HK1.out;omega⟩,⟨qR HO677⟩,⟨qB⟩⟩
 obtain rfl:=Option.some.inj H
 go_wp2
 go_ret
 exact⟨_,by first|rfl|(simp [errW_none,errW_some] <;> rfl)|(simp [*,errW_none,errW_some] <;> rfl),qR HO_1,qB⟩
def SQuadSets.f (a0_0:Int) (a0_1:Int) (a0_2:Int) (a0_3:Int) (a0_4:Int):Option (Int):=(SQuadValid.f a0_0 a0_1 a0_2 a0_3 a0_4 600).bind fun t129=>(if t129=true then (if a0_0=1 then (some a0_1) else (if a0_0=2 then (some a0_1) else (if a0_0=3 then (some a0_1) else (if a0_0=7 then (some a0_1) else (some (-1)))))) else (some (-1)))
theorem SQuadSets_calls_s0 {G:Prop} (h:G:=by
  go_enter Try.func61,Try.ntmps61
  go_wp2_with (first|((with_reducible refine jd 1 rfl ?_);refine jX _ 46 ?_;intro gb128 hg w_0a hbox hb;have BK128:=aM hbox;have GW128:=kG hg;replace HB:=kH hb;clear hb hbox hg;have c_0b:=jz5 BK128)|((with_reducible refine jc 54 4 rfl rfl ?_);refine jG Try.func54 #[.agg #[.int .i64 a0_0,.int .i64 a0_1,.int .i64 a0_2,.int .i64 a0_3,.int .i64 a0_4],.int .i64 600] ?_;(with_reducible refine (SQuadValid.calls _ _ _ _ _ _ _ _ (Aside0.out (by assumption))).mono ?_);rintro e w_1a ⟨rfl,hb⟩;refine⟨_,rfl,?_⟩;replace BK128:=kB BK128 hb;replace HB:=kH hb;clear hb;have c_1b:=jz5 BK128))
  go_ret
  exact⟨qW,qB⟩):G:=h
theorem SQuadSets.calls (a0_0:Int) (a0_1:Int) (a0_2:Int) (a0_3:Int) (a0_4:Int) (r:Int) (w:World) (h:SQuadSets.f a0_0 a0_1 a0_2 a0_3 a0_4=some r) :
  Calls Try.prog 61 #[.agg #[.int .i64 a0_0,.int .i64 a0_1,.int .i64 a0_2,.int .i64 a0_3,.int .i64 a0_4]] w fun e w'=>e = .returned (.int .i64 r)/\Below w.heap.size w w':=by
 have hu46:=Try.underlying46
 have HB:=aM (Below.refl w.heap.size w)
 have H:=h;unfold SQuadSets.f at H
 clear h
 obtain⟨t129,A2,H⟩:=qE H
 try dsimp only at H
 replace H:=jB H;rcases H with ⟨rfl,H⟩ | ⟨rfl,H⟩
 ·replace H:=jE H;rcases H with ⟨c4b0,c4b1,H⟩ | ⟨c4,c4b0,c4b1,H⟩
  ·obtain rfl:=Option.some.inj H
   exact SQuadSets_calls_s0
  replace H:=jE H;rcases H with ⟨c9b0,c9b1,H⟩ | ⟨c9,c9b0,c9b1,H⟩
  ·obtain rfl:=Option.some.inj H
   exact SQuadSets_calls_s0
  replace H:=jE H;rcases H with ⟨c14b0,c14b1,H⟩ | ⟨c14,c14b0,c14b1,H⟩
  ·obtain rfl:=Option.some.inj H
   exact SQuadSets_calls_s0
  replace H:=jE H;rcases H with ⟨c19b0,c19b1,H⟩ | ⟨c19,c19b0,c19b1,H⟩
  ·obtain rfl:=Option.some.inj H
   exact SQuadSets_calls_s0
  obtain rfl:=Option.some.inj H
  exact SQuadSets_calls_s0
 obtain rfl:=Option.some.inj H
 exact SQuadSets_calls_s0
def Sl34After.l0:Nat->List Int->Int->Int->Int->Int->Int->Int->Int->Option (List Int)
 | 0,_,_,_,_,_,_,_,_=>none
 | k+1,x5,x6,x7,xa,xb,xc,xd,xe=>if x7 < 12 then (if 0<=x7 then (if x7 < (x5.length:Int) then (if (rd x5 x7)=x6 then (Sl34After.l0 k (x5.set (x7:Int).toNat x7) x6 (wrap64 (x7+1)) xa xb xc xd xe) else (Sl34After.l0 k x5 x6 (wrap64 (x7+1)) xa xb xc xd xe)) else (none)) else (none)) else (if 0<=x6 then (if x6 < (x5.length:Int) then ((some (x5.set (x6:Int).toNat x6:List Int)).bind fun y688=>(if xa=2 then (some (y688.set (x6:Int).toNat xc)) else (some y688))) else (none)) else (none))
def Sl34After.f (k:Nat) (a0_0:Int) (a0_1:Int) (a0_2:Int) (a0_3:Int) (a0_4:Int) (l1:List Int):Option (List Int):=(some (([]:List Int):List Int)).bind fun y679=>(if y679.length+l1.length < 17592186044416 then ((some (y679 ++ l1:List Int)).bind fun y682=>((SQuadSets.f a0_0 a0_1 a0_2 a0_3 a0_4).bind fun t685=>(if t685 < 0 then (some y682) else (Sl34After.l0 k y682 t685 0 a0_0 a0_1 a0_2 a0_3 a0_4)))) else (none))
theorem Sl34After.mono_l:∀ k,(∀ y0 y1 y2 y3 y4 y5 y6 y7,LeO (Sl34After.l0 k y0 y1 y2 y3 y4 y5 y6 y7) (Sl34After.l0 (k+1) y0 y1 y2 y3 y4 y5 y6 y7))
 | 0=>fun _ _ _ _ _ _ _ _ r h=>by simp [Sl34After.l0] at h
 | k+1=>by
  have ih0:=Sl34After.mono_l k
  intros;unfold Sl34After.l0;exact mM
theorem Sl34After.mono:∀ a0 a1 a2 a3 a4 a5 k,LeO (Sl34After.f k a0 a1 a2 a3 a4 a5) (Sl34After.f (k+1) a0 a1 a2 a3 a4 a5):=by
 intro a0 a1 a2 a3 a4 a5 k;have ih0:=Sl34After.mono_l k;unfold Sl34After.f;exact mM
theorem Sl34After.calls (k:Nat) (a0_0:Int) (a0_1:Int) (a0_2:Int) (a0_3:Int) (a0_4:Int) (A1:Option Addr) (c1:Nat) (l1:List Int) (r:List Int) (w:World) (hr1:Kd.C (Kd.int .i64) w A1 l1.length l1) (hc1:l1.length<=c1) (h:Sl34After.f k a0_0 a0_1 a0_2 a0_3 a0_4 l1=some r) :
  Calls Try.prog 117 #[.agg #[.int .i64 a0_0,.int .i64 a0_1,.int .i64 a0_2,.int .i64 a0_3,.int .i64 a0_4],.slice A1 l1.length c1] w fun e w'=>∃ v0_:Value,e = .returned (v0_)/\Kd.R (Kd.int .i64) 3 w' w.heap.size (fun _=>True) v0_ r/\Below w.heap.size w w':=by
 have hu46:=Try.underlying46
 have HR1:=aM hr1
 have HC1:=aM hc1
 clear hr1 hc1
 have HB:=aM (Below.refl w.heap.size w)
 have H:=h;unfold Sl34After.f at H
 clear h
 obtain⟨y679,Ny679⟩:=ky ((([]:List Int)):List Int)
 first|replace H:=kz Ny679 H|rw [<- Ny679.out] at H
 replace H:=jL H;obtain⟨LMc3,H⟩:=H
 obtain⟨y682,Ny682⟩:=ky ((y679 ++ l1):List Int)
 first|replace H:=kz Ny682 H|rw [<- Ny682.out] at H
 obtain⟨t685,A4,H⟩:=qE H
 try dsimp only at H
 replace H:=jD H;rcases H with ⟨c5b0,H⟩ | ⟨c5b0,H⟩
 ·obtain rfl:=Option.some.inj H
  go_enter Try.func117,Try.ntmps117
  go_wp2_with (first|((with_reducible refine jd 2 rfl ?_);refine jX _ 46 ?_;intro gb678 hg w6 hbox hb;have BK678:=aM hbox;have GW678:=kG hg;replace HB:=kH hb;clear hb hbox hg)|((with_reducible refine jd 8 rfl ?_);refine jV (Kd.int .i64) 3 ([]:List Int) [] (Reps.none _ _) ?_;intro v680 w7 ho8 hb;(first|rw [<- Ny679.out] at ho8|(simp only [Int.reduceToNat] at ho8;rw [<- Ny679.out] at ho8));have HO681:=kL ho8;replace BK678:=kB BK678 hb;replace HB:=kH hb;clear hb ho8)|((with_reducible refine gate_builtin (b:=.append) (xs:=#[.tmp 8,.tmp 9]) rfl ?_);at_builtin;refine Kd.R_append_rows (Kd.int .i64) (w0:=w) w.heap.size rfl (.tmp 8) (.tmp 9) 31 3 (.int .i64 0) 8 rfl Try.underlying31 info3 rfl (by decide) (by omega) v680 y679 l1 _ _ _ (fun _=>True) (fun _=>False) rfl rfl ?aO ?aR (fun _ _ h=>h) (fun _ h=>h.elim) ?aF ?aB ?aS ?aL ?_;(case aR=>exact kC (Kd.C_below HR1.out HB.out));(case aB=>exact qB);(case aF=>exact (fun _ _=>trivial));(case aO=>exact (qR HO681));(case aS=>exact (below_size qB));(case aL=>have:=LMc3.out;omega);intro v683 w9 ho hb hg hat;rw [<- Ny682.out] at ho;have HO684:=aM ho;replace BK678:=aM (blk_grown (g:=gb678) (o:=.cells #[.int .i64 a0_0,.int .i64 a0_1,.int .i64 a0_2,.int .i64 a0_3,.int .i64 a0_4] 46 (0,0)) (qK BK678) hg (Kd.R_ne HO681.out BK678.out (by decide)));replace HB:=aM hb;clear HO681;clear ho hb hg hat;have cz10:=jz5 BK678)|((with_reducible refine jc 61 12 rfl rfl ?_);refine jG Try.func61 #[.agg #[.int .i64 a0_0,.int .i64 a0_1,.int .i64 a0_2,.int .i64 a0_3,.int .i64 a0_4]] ?_;(with_reducible refine (SQuadSets.calls a0_0 a0_1 a0_2 a0_3 a0_4 t685 _ A4.out).mono ?_);rintro e w11 ⟨rfl,hb⟩;refine⟨_,rfl,?_⟩;replace HO684:=kR HO684 hb;replace BK678:=kB BK678 hb;replace HB:=kH hb;clear hb))
  go_ret
  exact⟨_,by first|rfl|(simp [errW_none,errW_some] <;> rfl)|(simp [*,errW_none,errW_some] <;> rfl),qR HO684,qB⟩
 have H':=aM H
 clear H
 go_enter Try.func117,Try.ntmps117
 go_wp2_with (first|((with_reducible refine jd 2 rfl ?_);refine jX _ 46 ?_;intro gb678 hg w12 hbox hb;have BK678:=aM hbox;have GW678:=kG hg;replace HB:=kH hb;clear hb hbox hg)|((with_reducible refine jd 8 rfl ?_);refine jV (Kd.int .i64) 3 ([]:List Int) [] (Reps.none _ _) ?_;intro v680 w13 ho14 hb;(first|rw [<- Ny679.out] at ho14|(simp only [Int.reduceToNat] at ho14;rw [<- Ny679.out] at ho14));have HO681:=kL ho14;replace BK678:=kB BK678 hb;replace HB:=kH hb;clear hb ho14)|((with_reducible refine gate_builtin (b:=.append) (xs:=#[.tmp 8,.tmp 9]) rfl ?_);at_builtin;refine Kd.R_append_rows (Kd.int .i64) (w0:=w) w.heap.size rfl (.tmp 8) (.tmp 9) 31 3 (.int .i64 0) 8 rfl Try.underlying31 info3 rfl (by decide) (by omega) v680 y679 l1 _ _ _ (fun _=>True) (fun _=>False) rfl rfl ?aO ?aR (fun _ _ h=>h) (fun _ h=>h.elim) ?aF ?aB ?aS ?aL ?_;(case aR=>exact kC (Kd.C_below HR1.out HB.out));(case aB=>exact qB);(case aF=>exact (fun _ _=>trivial));(case aO=>exact (qR HO681));(case aS=>exact (below_size qB));(case aL=>have:=LMc3.out;omega);intro v683 w15 ho hb hg hat;rw [<- Ny682.out] at ho;have HO684:=aM ho;replace BK678:=aM (blk_grown (g:=gb678) (o:=.cells #[.int .i64 a0_0,.int .i64 a0_1,.int .i64 a0_2,.int .i64 a0_3,.int .i64 a0_4] 46 (0,0)) (qK BK678) hg (Kd.R_ne HO681.out BK678.out (by decide)));replace HB:=aM hb;clear HO681;clear ho hb hg hat;have cz16:=jz5 BK678)|((with_reducible refine jc 61 12 rfl rfl ?_);refine jG Try.func61 #[.agg #[.int .i64 a0_0,.int .i64 a0_1,.int .i64 a0_2,.int .i64 a0_3,.int .i64 a0_4]] ?_;(with_reducible refine (SQuadSets.calls a0_0 a0_1 a0_2 a0_3 a0_4 t685 _ A4.out).mono ?_);rintro e w17 ⟨rfl,hb⟩;refine⟨_,rfl,?_⟩;replace HO684:=kR HO684 hb;replace BK678:=kB BK678 hb;replace HB:=kH hb;clear hb))
 go_loopg [7] k (fun kq v7 w'=>∃ (x5_1:List Int) (x7_1:Int),v7 = .int .i64 x7_1/\Aside0 (Sl34After.l0 kq x5_1 t685 x7_1 a0_0 a0_1 a0_2 a0_3 a0_4=some r)/\Aside0 (kq<=k)/\Aside0 (Kd.R (Kd.int .i64) 3 w' w.heap.size (fun _=>True) v683 x5_1)/\Aside0 (w'.heap[gb678]?=some (.cells #[.int .i64 a0_0,.int .i64 a0_1,.int .i64 a0_2,.int .i64 a0_3,.int .i64 a0_4] 46 (0,0)))/\Aside0 (Below w.heap.size w w'))
 case atStart=>exact⟨(y682),(0),qZ,H',⟨Nat.le_refl _⟩,⟨qR HO684⟩,⟨qK BK678⟩,⟨qB⟩⟩
 clear H'
 try clear c1;try clear c5b0;try clear cz16
 obtain⟨x5_1,x7_1,rfl,HA,HK1,HO_5,BK678,HB⟩:=hrel
 rcases gk with _|k1
 ·exact absurd HA.out (by simp [Sl34After.l0])
 have H:=HA.out
 clear HA
 simp only [Sl34After.l0] at H
 replace H:=jD H;rcases H with ⟨c18b0,H⟩ | ⟨c18b0,H⟩
 ·replace H:=jI H;obtain⟨c19b0,H⟩:=H
  replace H:=jI H;obtain⟨c20b0,H⟩:=H
  replace H:=jE H;rcases H with ⟨c21b0,c21b1,H⟩ | ⟨c21,c21b0,c21b1,H⟩
  ·obtain⟨y687,Ny687⟩:=ky ((x5_1.set (x7_1:Int).toNat x7_1):List Int)
   first|replace H:=kz Ny687 H|rw [<- Ny687.out] at H
   have H':=aM H
   clear H
   obtain⟨Ao23,co23,eo23⟩:=Kd.R_slice HO_5.out
   subst eo23
   have p686:0<=(x7_1:Int):=qD
   have q686:x7_1 < (x5_1.length:Int):=qD
   obtain⟨ad686,e686,hx686_0⟩:=Kd.at_int (Kd.R_reads' HO_5.out).2.2 x7_1 p686 q686
   cases e686
   replace p686:=eq_true p686
   replace q686:=eq_true q686
   have p22:0<=(x7_1:Int):=qD
   have q22:(x7_1:Int) < ((x5_1.length:Int):Int):=qD
   obtain⟨go22,co22,eo22,gb22,gl22,cl22,HG22⟩:=Kd.R_form HO_5.out (by omega)
   (first|cases eo22|(injection eo22 with ea_ en_ ec_;(first|subst ea_|(injection ea_ with ea_;subst ea_));subst ec_;clear en_))
   have GB22:=aM gb22
   have GG22:=aM HG22
   clear gb22 gl22 HG22
   (first|simp only [add_plain] at hx686_0|skip)
   obtain⟨hx22_0,hf22_0⟩:=Kd.R_celln 0 HO_5.out (x7_1:Int) p22 q22
   replace p22:=eq_true p22
   replace q22:=eq_true q22
   have HP24:=Kd.R_putg HO_5.out (x7_1:Int) x7_1
   go_wp2_with (first|((with_reducible refine gate_store (t:=3) (p:=29) rfl ?_);refine store_event (t:=3) (p:=29) (v:=?vo_w25) (w1:=(wr.setCell ⟨go22,(x7_1:Int).toNat,none⟩ (.int .i64 x7_1))) ?hg ?ho ?hn ?hr ?_;(case ho=>rfl);(case hg=>rfl);(case hn=>rfl);(case hr=>first|(go_simp;done)|(go_simp;rfl));intro w25 hw;have hg:wr.grownBy w25 (some go22):=(by rw [hw];exact HP24.2);have hp_:Kd.R (Kd.int .i64) 3 w25 w.heap.size (fun _=>True) (.slice (some ⟨go22,0,none⟩) x5_1.length co23) y687:=(by rw [hw,Ny687.out];exact HP24.1);clear HP24;replace BK678:=aM (blk_grown (g:=gb678) (o:=.cells #[.int .i64 a0_0,.int .i64 a0_1,.int .i64 a0_2,.int .i64 a0_3,.int .i64 a0_4] 46 (0,0)) (qK BK678) hg (Kd.R_ne HO_5.out BK678.out (by decide)));replace HO_5:=aM hp_;replace HB:=aM ((by rw [hw];exact below_set (HB.out) GB22.out:Below w.heap.size w w25));clear hg hw hp_))
   go_roundg k1
   case measure=>have:=HK1.out;omega
   exact⟨(y687),(wrap64 (x7_1+1)),qZ,H',⟨by have:=HK1.out;omega⟩,⟨qR HO_5⟩,⟨qK BK678⟩,⟨qB⟩⟩
  have H':=aM H
  clear H
  obtain⟨Ao26,co26,eo26⟩:=Kd.R_slice HO_5.out
  subst eo26
  have p686:0<=(x7_1:Int):=qD
  have q686:x7_1 < (x5_1.length:Int):=qD
  obtain⟨ad686,e686,hx686_0⟩:=Kd.at_int (Kd.R_reads' HO_5.out).2.2 x7_1 p686 q686
  cases e686
  replace p686:=eq_true p686
  replace q686:=eq_true q686
  go_wp2
  go_roundg k1
  case measure=>have:=HK1.out;omega
  exact⟨(x5_1),(wrap64 (x7_1+1)),qZ,H',⟨by have:=HK1.out;omega⟩,⟨qR HO_5⟩,⟨qK BK678⟩,⟨qB⟩⟩
 replace H:=jI H;obtain⟨c27b0,H⟩:=H
 replace H:=jI H;obtain⟨c28b0,H⟩:=H
 obtain⟨y688,Ny688⟩:=ky ((x5_1.set (t685:Int).toNat t685):List Int)
 first|replace H:=kz Ny688 H|rw [<- Ny688.out] at H
 replace H:=jE H;rcases H with ⟨c30b0,c30b1,H⟩ | ⟨c30,c30b0,c30b1,H⟩
 ·obtain⟨y689,Ny689⟩:=ky ((y688.set (t685:Int).toNat a0_2):List Int)
  first|replace H:=kz Ny689 H|rw [<- Ny689.out] at H
  obtain rfl:=Option.some.inj H
  have p29:0<=(t685:Int):=qD
  have q29:(t685:Int) < ((x5_1.length:Int):Int):=qD
  obtain⟨go29,co29,eo29,gb29,gl29,cl29,HG29⟩:=Kd.R_form HO_5.out (by omega)
  (first|cases eo29|(injection eo29 with ea_ en_ ec_;(first|subst ea_|(injection ea_ with ea_;subst ea_));subst ec_;clear en_))
  have GB29:=aM gb29
  have GG29:=aM HG29
  clear gb29 gl29 HG29
  obtain⟨hx29_0,hf29_0⟩:=Kd.R_celln 0 HO_5.out (t685:Int) p29 q29
  replace p29:=eq_true p29
  replace q29:=eq_true q29
  have HP32:=Kd.R_putg HO_5.out (t685:Int) t685
  go_wp2_with (first|((with_reducible refine gate_store (t:=3) (p:=33) rfl ?_);refine store_event (t:=3) (p:=33) (v:=?vo_w33) (w1:=(wr.setCell ⟨go29,(t685:Int).toNat,none⟩ (.int .i64 t685))) ?hg ?ho ?hn ?hr ?_;(case ho=>rfl);(case hg=>rfl);(case hn=>rfl);(case hr=>first|(go_simp;done)|(go_simp;rfl));intro w33 hw;have hg:wr.grownBy w33 (some go29):=(by rw [hw];exact HP32.2);have hp_:Kd.R (Kd.int .i64) 3 w33 w.heap.size (fun _=>True) (.slice (some ⟨go29,0,none⟩) x5_1.length co29) y688:=(by rw [hw,Ny688.out];exact HP32.1);clear HP32;replace BK678:=aM (blk_grown (g:=gb678) (o:=.cells #[.int .i64 a0_0,.int .i64 a0_1,.int .i64 a0_2,.int .i64 a0_3,.int .i64 a0_4] 46 (0,0)) (qK BK678) hg (Kd.R_ne HO_5.out BK678.out (by decide)));replace HO_5:=aM hp_;replace HB:=aM ((by rw [hw];exact below_set (HB.out) GB29.out:Below w.heap.size w w33));clear hg hw hp_;have cz34:=jz5 BK678;have p31:0<=(t685:Int):=qD;have q31:(t685:Int) < ((x5_1.length:Int):Int):=qD;obtain⟨hx31_0,hf31_0⟩:=Kd.R_celln 0 HO_5.out (t685:Int) p31 q31;replace p31:=eq_true p31;replace q31:=eq_true q31;obtain⟨hy35_,hz35_⟩:=Kd.R_celln 0 HO_5.out (t685:Int) (qD) (qD);have HP35:=Kd.R_putg HO_5.out (t685:Int) a0_2)|((with_reducible refine gate_store (t:=3) (p:=41) rfl ?_);refine store_event (t:=3) (p:=41) (v:=?vo_w36) (w1:=(w33.setCell ⟨go29,(t685:Int).toNat,none⟩ (.int .i64 a0_2))) ?hg ?ho ?hn ?hr ?_;(case ho=>rfl);(case hg=>rfl);(case hn=>rfl);(case hr=>first|(go_simp;done)|(go_simp;rfl));intro w36 hw;have hg:w33.grownBy w36 (some go29):=(by rw [hw];exact HP35.2);have hp_:Kd.R (Kd.int .i64) 3 w36 w.heap.size (fun _=>True) (.slice (some ⟨go29,0,none⟩) x5_1.length co29) y689:=(by rw [hw,Ny689.out];exact HP35.1);clear HP35;replace BK678:=aM (blk_grown (g:=gb678) (o:=.cells #[.int .i64 a0_0,.int .i64 a0_1,.int .i64 a0_2,.int .i64 a0_3,.int .i64 a0_4] 46 (0,0)) (qK BK678) hg (Kd.R_ne HO_5.out BK678.out (by decide)));replace HO_5:=aM hp_;replace HB:=aM ((by rw [hw];exact below_set (HB.out) GB29.out:Below w.heap.size w w36));clear hg hw hp_))
  go_ret
  exact⟨_,by first|rfl|(simp [errW_none,errW_some] <;> rfl)|(simp [*,errW_none,errW_some] <;> rfl),qR HO_5,qB⟩
 obtain rfl:=Option.some.inj H
 have p29:0<=(t685:Int):=qD
 have q29:(t685:Int) < ((x5_1.length:Int):Int):=qD
 obtain⟨go29,co29,eo29,gb29,gl29,cl29,HG29⟩:=Kd.R_form HO_5.out (by omega)
 (first|cases eo29|(injection eo29 with ea_ en_ ec_;(first|subst ea_|(injection ea_ with ea_;subst ea_));subst ec_;clear en_))
 have GB29:=aM gb29
 have GG29:=aM HG29
 clear gb29 gl29 HG29
 obtain⟨hx29_0,hf29_0⟩:=Kd.R_celln 0 HO_5.out (t685:Int) p29 q29
 replace p29:=eq_true p29
 replace q29:=eq_true q29
 have HP37:=Kd.R_putg HO_5.out (t685:Int) t685
 go_wp2_with (first|((with_reducible refine gate_store (t:=3) (p:=33) rfl ?_);refine store_event (t:=3) (p:=33) (v:=?vo_w38) (w1:=(wr.setCell ⟨go29,(t685:Int).toNat,none⟩ (.int .i64 t685))) ?hg ?ho ?hn ?hr ?_;(case ho=>rfl);(case hg=>rfl);(case hn=>rfl);(case hr=>first|(go_simp;done)|(go_simp;rfl));intro w38 hw;have hg:wr.grownBy w38 (some go29):=(by rw [hw];exact HP37.2);have hp_:Kd.R (Kd.int .i64) 3 w38 w.heap.size (fun _=>True) (.slice (some ⟨go29,0,none⟩) x5_1.length co29) y688:=(by rw [hw,Ny688.out];exact HP37.1);clear HP37;replace BK678:=aM (blk_grown (g:=gb678) (o:=.cells #[.int .i64 a0_0,.int .i64 a0_1,.int .i64 a0_2,.int .i64 a0_3,.int .i64 a0_4] 46 (0,0)) (qK BK678) hg (Kd.R_ne HO_5.out BK678.out (by decide)));replace HO_5:=aM hp_;replace HB:=aM ((by rw [hw];exact below_set (HB.out) GB29.out:Below w.heap.size w w38));clear hg hw hp_;have cz39:=jz5 BK678))
 go_ret
 exact⟨_,by first|rfl|(simp [errW_none,errW_some] <;> rfl)|(simp [*,errW_none,errW_some] <;> rfl),qR HO_5,qB⟩
def Sl34Carry.l0:Nat->List (List Int)->Int->List Int->Bool->Int->Option (Bool × (List (List Int)))
 | 0,_,_,_,_,_=>none
 | k+1,x0,x1,x2,x7,x8=>if x8 < 12 then (if 0<=x1 then (if x1 < (x0.length:Int) then (if 0<=x8 then (if x8 < ((rd_L7 x0 x1).length:Int) then (if (rd (rd_L7 x0 x1) x8)=x8 then (Sl34Carry.l0 k x0 x1 x2 x7 (wrap64 (x8+1))) else (if x8 < (x2.length:Int) then (if (rd (rd_L7 x0 x1) x8)=(rd x2 x8) then (Sl34Carry.l0 k x0 x1 x2 x7 (wrap64 (x8+1))) else (Sl34Carry.l0 k (x0.set (x1:Int).toNat ((rd_L7 x0 x1).set (x8:Int).toNat x8)) x1 x2 true (wrap64 (x8+1)))) else (none))) else (none)) else (none)) else (none)) else (none)) else (some (x7,x0))
def Sl34Carry.f (k:Nat) (l0:List (List Int)) (a1:Int) (l2:List Int):Option (Bool × (List (List Int))):=if 0<=a1 then (if a1 < (l0.length:Int) then (if ((rd_L7 l0 a1).length:Int)=0 then ((some (([]:List Int):List Int)).bind fun y691=>(if y691.length+l2.length < 17592186044416 then (some (true,(l0.set (a1:Int).toNat (y691 ++ l2)))) else (none))) else (Sl34Carry.l0 k l0 a1 l2 false 0)) else (none)) else (none)
theorem Sl34Carry.mono_l:∀ k,(∀ y0 y1 y2 y3 y4,LeO (Sl34Carry.l0 k y0 y1 y2 y3 y4) (Sl34Carry.l0 (k+1) y0 y1 y2 y3 y4))
 | 0=>fun _ _ _ _ _ r h=>by simp [Sl34Carry.l0] at h
 | k+1=>by
  have ih0:=Sl34Carry.mono_l k
  intros;unfold Sl34Carry.l0;exact mM
theorem Sl34Carry.mono:∀ a0 a1 a2 k,LeO (Sl34Carry.f k a0 a1 a2) (Sl34Carry.f (k+1) a0 a1 a2):=by
 intro a0 a1 a2 k;have ih0:=Sl34Carry.mono_l k;unfold Sl34Carry.f;exact mM
theorem Sl34Carry.calls (k:Nat) (P0_:Nat->Prop) (u9000_:Value) (l0:List (List Int)) (a1:Int) (A2:Option Addr) (c2:Nat) (l2:List Int) (r1:Bool) (r2:List (List Int)) (w0 w:World) (hB:Below w0.heap.size w0 w) (ho0:Kd.S (Kd.slice 3 (Kd.int .i64)) 31 w w0.heap.size P0_ u9000_ l0) (hr2:∀ W_,Kept w W_ (fun k_=>P0_ k_)->Kd.C (Kd.int .i64) W_ A2 l2.length l2) (hc2:l2.length<=c2) (h:Sl34Carry.f k l0 a1 l2=some (r1,r2)) :
  Calls Try.prog 118 #[u9000_,.int .i64 a1,.slice A2 l2.length c2] w fun e w'=>e = .returned (.bool r1)/\Kd.S (Kd.slice 3 (Kd.int .i64)) 31 w' w0.heap.size (fun k_=>(P0_ k_\/w.heap.size<=k_)) u9000_ r2/\Below w0.heap.size w0 w'/\Kept w w' (fun k_=>P0_ k_):=by
 have HO0:=aM (show Kd.S (Kd.slice 3 (Kd.int .i64)) 31 w w0.heap.size (fun k_=>(P0_ k_\/w.heap.size<=k_)) u9000_ l0 from Kd.S_mono ho0 (fun k_ hk=>(.inl hk)))
 have HR2:=aM hr2
 have HC2:=aM hc2
 clear hr2 hc2
 have HK:=aM (Kept.refl w (fun k_=>P0_ k_))
 have HW0:=aM hB.size
 have HB:=aM hB
 clear hB
 have H:=h;unfold Sl34Carry.f at H
 clear h
 replace H:=jI H;obtain⟨c4b0,H⟩:=H
 replace H:=jI H;obtain⟨c5b0,H⟩:=H
 replace H:=jE H;rcases H with ⟨c6b0,c6b1,H⟩ | ⟨c6,c6b0,c6b1,H⟩
 ·obtain⟨y691,Ny691⟩:=ky ((([]:List Int)):List Int)
  first|replace H:=kz Ny691 H|rw [<- Ny691.out] at H
  replace H:=jL H;obtain⟨LMc7,H⟩:=H
  obtain⟨y694,Ny694⟩:=ky ((y691 ++ l2):List Int)
  first|replace H:=kz Ny694 H|rw [<- Ny694.out] at H
  obtain⟨y697,Ny697⟩:=ky ((l0.set (a1:Int).toNat y694):List (List Int))
  first|replace H:=kz Ny697 H|rw [<- Ny697.out] at H
  simp only [Option.some.injEq,Prod.mk.injEq] at H
  obtain⟨rfl,rfl⟩:=H
  obtain⟨Ao9,co9,eo9⟩:=Kd.S_slice HO0.out
  subst eo9
  have p690:0<=(a1:Int):=qD
  have q690:a1 < (l0.length:Int):=qD
  obtain⟨ad690,A690_0,c690_0,e690,hx690_0,hl690_0,hi690_0⟩:=at_L7 (Kd.S_reads' HO0.out).2.2 a1 p690 q690
  cases e690
  obtain⟨ce690,hce690,hMe690,hcc690⟩:=Kd.S_get HO0.out [] a1 p690 (by first|exact q690|exact qD|(have e_:=(Kd.S_reads' HO0.out).1;omega))
  obtain⟨ve690_0,rfl,ge690_0⟩:=hMe690
  have hv690_0:=hcc690 0 _ rfl
  rw [Nat.add_zero,show ((Kd.slice 3 (Kd.int .i64))).sz=1 from rfl,Nat.mul_one] at hv690_0
  replace hv690_0:=Option.some.inj (hv690_0.symm.trans hx690_0)
  rw [hv690_0] at ge690_0
  have HL690_0:=aM (show Kd.R (Kd.int .i64) 3 _ _ _ _ (rd_L7 l0 a1) from ge690_0)
  clear hv690_0 ge690_0
  have HX690_0:=aM hx690_0
  clear hcc690 hce690
  have HR690_0:=aM hi690_0
  have HC690_0:=aM hl690_0
  clear hi690_0 hl690_0
  replace p690:=eq_true p690
  replace q690:=eq_true q690
  go_enter Try.func118,Try.ntmps118
  go_wp2_with (first|((with_reducible refine jd 17 rfl ?_);refine jV (Kd.int .i64) 3 ([]:List Int) [] (Reps.none _ _) ?_;intro v692 w10 ho11 hb;(first|rw [<- Ny691.out] at ho11|(simp only [Int.reduceToNat] at ho11;rw [<- Ny691.out] at ho11));have HO693:=aM (Kd.R_lower (Kd.R_new' (Kd.R_newM (M:=fun k_=>(P0_ k_\/w.heap.size<=k_)) ho11 (by first|exact HK.out.1|exact (show Kept w _ (fun k_=>P0_ k_) from qT).1) (fun k_ h_=>.inr h_)) (Kd.R_lt (qR HL690_0))) (below_size qB));replace HO0:=aM (Kd.S_elder' (qS HO0) (Kd.R_base ho11) hb);replace HL690_0:=kO HL690_0 ho11 hb;replace HR690_0:=kQ HR690_0 hb;replace HX690_0:=kW hb HX690_0;replace HK:=kT hb;replace HB:=kH hb;clear hb ho11)|((with_reducible refine gate_builtin (b:=.append) (xs:=#[.tmp 17,.tmp 18]) rfl ?_);at_builtin;refine Kd.R_append_rows (Kd.int .i64) (w0:=w0) w0.heap.size rfl (.tmp 17) (.tmp 18) 31 3 (.int .i64 0) 8 rfl Try.underlying31 info3 rfl (by decide) (by omega) v692 y691 l2 _ _ _ (fun k_=>(P0_ k_\/w.heap.size<=k_)/\some k_≠(.slice A690_0 (rd_L7 l0 a1).length c690_0:Value).ownBlock) (fun _=>False) rfl rfl ?aO ?aR (fun _ _ h=>h) (fun _ h=>h.elim) ?aF ?aB ?aS ?aL ?_;(case aR=>exact Kd.C_kept_now HR2.out qT);(case aB=>exact qB);(case aF=>exact (fun k_ hk=>⟨(.inr (Nat.le_trans (by first|exact HK.out.1|exact (show Kept w _ (fun k_=>P0_ k_) from qT).1) hk)),Kd.fresh' (Kd.R_lt (qR HL690_0)) k_ hk⟩));(case aO=>exact (by (with_reducible repeat (first|apply Kd.R_alloc|apply Kd.R_drewN|apply Kd.R_drew));exact Kd.R_mono HO693.out (fun _ hk=>⟨hk.1.1,hk.2⟩)));(case aS=>exact (below_size qB));(case aL=>have:=LMc7.out;omega);intro v695 w12 ho hb hg hat;rw [<- Ny694.out] at ho;have n0_:=aM (Kd.S_after (ok:=(fun k_=>(P0_ k_\/w.heap.size<=k_))) (qS HO0) hg hat);have n1_:=aM (Kd.R_after (ok:=(fun k_=>(P0_ k_\/w.heap.size<=k_)/\some k_≠(.slice (some ad690) l0.length co9:Value).ownBlock)) (qR HL690_0) hg hat);have n2_:=aM hb;have n3_:=aM (Kept.of_grown (S:=(fun k_=>P0_ k_)) hg qT (fun k_ e_=>(HO693.out.1 k_ e_).1.1));have n4_:=aM ho;clear HO0;clear HL690_0;clear HB;clear HK;clear HO693;have HO0:=n0_;have HL690_0:=n1_;have HB:=n2_;have HK:=n3_;have HO696:=n4_;obtain⟨Aoz,coz,eoz⟩:=Kd.R_slice HO696.out;subst eoz;clear n0_ n1_ n2_ n3_ n4_;clear ho hb hg hat;have p8:0<=(a1:Int):=qD;have q8:(a1:Int) < ((l0.length:Int):Int):=qD;obtain⟨go8,co8,eo8,gb8,gl8,cl8,HG8⟩:=Kd.S_form HO0.out (by omega);(first|cases eo8|(injection eo8 with ea_ en_ ec_;(first|subst ea_|(injection ea_ with ea_;subst ea_));subst ec_;clear en_));have GB8:=aM gb8;have GG8:=aM HG8;clear gb8 gl8 HG8;have HMgo8:=aM (show (P0_ go8\/w.heap.size<=go8) from ((Kd.S_R HO0.out).1 _ rfl).1);(first|simp only [add_plain] at hx690_0|skip);obtain⟨_,ce8,hcl8,hM8,hcc8,hfr8,_,_⟩:=Kd.S_elem HO0.out [] (a1:Int) p8 q8;obtain⟨ve8_0,rfl,ge8_0⟩:=hM8;have hx8_0:=hcc8 0 _ rfl;have hf8_0:=hfr8 0;(try simp only [show ((Kd.slice 3 (Kd.int .i64))).sz=1 from rfl,Nat.mul_one,Nat.add_zero] at hx8_0);(try simp only [show ((Kd.slice 3 (Kd.int .i64))).sz=1 from rfl,Nat.mul_one,Nat.add_zero] at hf8_0);clear hcl8 hcc8 hfr8;(try clear hM8);replace p8:=eq_true p8;replace q8:=eq_true q8;have HX13:=aM (show Kd.S (Kd.slice 3 (Kd.int .i64)) 31 w12 w0.heap.size (fun k_=>((fun k_=>(P0_ k_\/w.heap.size<=k_))) k_/\¬ ((fun k_=>some k_=((.slice Aoz y694.length coz):Value).ownBlock)) k_) (.slice (some ⟨go8,0,none⟩) l0.length co9) l0 from (by (with_reducible repeat (first|apply Kd.S_alloc|apply Kd.S_drewN|apply Kd.S_drew));exact Kd.S_mono HO0.out (by first|exact fun k_ hk=>⟨hk.1,fun e_=>hk.2 e_⟩|exact fun k_ hk=>hk)));obtain⟨oki13,ce13,hcl13,hM13,hcc13,hfr13,hoki13,hH13⟩:=Kd.S_elem HX13.out [] (a1:Int) (qD) (by have h_:(a1:Int) < ((l0.length:Int):Int):=qD;first|exact h_|(have e_:=(Kd.S_reads' HO0.out).1;omega)|simpa using h_);obtain⟨ve13_0,rfl,ge13_0⟩:=hM13;have HP13:=Kd.S_seg hH13 (qD) (by have h_:(a1:Int) < ((l0.length:Int):Int):=qD;first|exact h_|(have e_:=(Kd.S_reads' HO0.out).1;omega)|simpa using h_) (seg:=[(.slice Aoz y694.length coz)]) (j:=0) (show 1<=1 from by decide) (x':=y694) (Kd.M_row (Kd.R_mono (Kd.R_tight rfl (Kd.R_mono (ok':=fun k_=>((fun k_=>(P0_ k_\/w.heap.size<=k_))) k_/\k_≠go8) (Kd.R_apart' (HO696.out) (Kd.S_typed HO0.out) (by decide)) (fun k_ hk=>⟨hk.1.1,fun e_=>(hk.2) (by rw [e_];rfl)⟩))) (fun _ h_=>Or.inr (h_)))) (fun _ hk=>hk) (fun k_ hk_=>((Kd.R_mono (ok':=fun k_=>((fun k_=>(P0_ k_\/w.heap.size<=k_))) k_/\k_≠go8) (Kd.R_apart' (HO696.out) (Kd.S_typed HO0.out) (by decide)) (fun k_ hk=>⟨hk.1.1,fun e_=>(hk.2) (by rw [e_];rfl)⟩))).1 k_ hk_.symm);have hx13_0:=hcc13 0 _ rfl;(try simp only [show ((Kd.slice 3 (Kd.int .i64))).sz=1 from rfl,Nat.mul_one,Nat.add_zero] at hx13_0);have hf13_0:=hfr13 0;(try simp only [show ((Kd.slice 3 (Kd.int .i64))).sz=1 from rfl,Nat.mul_one,Nat.add_zero] at hf13_0);clear hcl13 hcc13 hfr13 hoki13 hH13;(try clear hM13);(try simp only [show ((Kd.slice 3 (Kd.int .i64))).sz=1 from rfl,Nat.mul_one,Nat.add_zero] at HP13))|((with_reducible refine gate_store (t:=31) (p:=20) rfl ?_);(try (rw [drewN_self w12];generalize hq_:World.drewN w12 _=w12;have n0_:=aM (Kd.S_at hq_ HO0.out);have n1_:=aM (Kd.R_at hq_ HL690_0.out);have n2_:=aM (kept_at hq_ HK.out);have n3_:=aM (below_at hq_ HB.out);clear hq_ HO0 HL690_0 HK HB;have HO0:=n0_;have HL690_0:=n1_;have HK:=n2_;have HB:=n3_;clear n0_ n1_ n2_ n3_;(try (have HX13:=aM (show Kd.S (Kd.slice 3 (Kd.int .i64)) 31 w12 w0.heap.size (fun k_=>((fun k_=>(P0_ k_\/w.heap.size<=k_))) k_/\¬ ((fun k_=>some k_=((.slice Aoz y694.length coz):Value).ownBlock)) k_) (.slice (some ⟨go8,0,none⟩) l0.length co9) l0 from (by (with_reducible repeat (first|apply Kd.S_alloc|apply Kd.S_drewN|apply Kd.S_drew));exact Kd.S_mono HO0.out (by first|exact fun k_ hk=>⟨hk.1,fun e_=>hk.2 e_⟩|exact fun k_ hk=>hk)))));(try (obtain⟨oki13,ce13,hcl13,hM13,hcc13,hfr13,hoki13,hH13⟩:=Kd.S_elem HX13.out [] (a1:Int) (qD) (by have h_:(a1:Int) < ((l0.length:Int):Int):=qD;first|exact h_|(have e_:=(Kd.S_reads' HO0.out).1;omega)|simpa using h_)));(try (obtain⟨ve13_0,rfl,ge13_0⟩:=hM13));(try (have HP13:=Kd.S_seg hH13 (qD) (by have h_:(a1:Int) < ((l0.length:Int):Int):=qD;first|exact h_|(have e_:=(Kd.S_reads' HO0.out).1;omega)|simpa using h_) (seg:=[(.slice Aoz y694.length coz)]) (j:=0) (show 1<=1 from by decide) (x':=y694) (Kd.M_row (Kd.R_mono (Kd.R_tight rfl (Kd.R_mono (ok':=fun k_=>((fun k_=>(P0_ k_\/w.heap.size<=k_))) k_/\k_≠go8) (Kd.R_apart' (HO696.out) (Kd.S_typed HO0.out) (by decide)) (fun k_ hk=>⟨hk.1.1,fun e_=>(hk.2) (by rw [e_];rfl)⟩))) (fun _ h_=>Or.inr (h_)))) (fun _ hk=>hk) (fun k_ hk_=>((Kd.R_mono (ok':=fun k_=>((fun k_=>(P0_ k_\/w.heap.size<=k_))) k_/\k_≠go8) (Kd.R_apart' (HO696.out) (Kd.S_typed HO0.out) (by decide)) (fun k_ hk=>⟨hk.1.1,fun e_=>(hk.2) (by rw [e_];rfl)⟩))).1 k_ hk_.symm)));(try (have hx13_0:=hcc13 0 _ rfl));(try (try simp only [show ((Kd.slice 3 (Kd.int .i64))).sz=1 from rfl,Nat.mul_one,Nat.add_zero] at hx13_0));(try (have hf13_0:=hfr13 0));(try (try simp only [show ((Kd.slice 3 (Kd.int .i64))).sz=1 from rfl,Nat.mul_one,Nat.add_zero] at hf13_0));(try (clear hcl13 hcc13 hfr13 hoki13 hH13;(try clear hM13)));(try (try simp only [show ((Kd.slice 3 (Kd.int .i64))).sz=1 from rfl,Nat.mul_one,Nat.add_zero] at HP13))));refine store_event (t:=31) (p:=20) (v:=?vo_w14) (w1:=(w12.setCell ⟨go8,(a1:Int).toNat,none⟩ ((.slice Aoz y694.length coz)))) ?hg ?ho ?hn ?hr ?_;(case ho=>rfl);(case hg=>rfl);(case hn=>rfl);(case hr=>first|(go_simp;done)|(go_simp;rfl));intro w14 hw;have hg:w12.grownBy w14 (some go8):=(by rw [hw];exact HP13.2);have hp_:Kd.S (Kd.slice 3 (Kd.int .i64)) 31 w14 w0.heap.size (fun k_=>(P0_ k_\/w.heap.size<=k_)) (.slice (some ⟨go8,0,none⟩) l0.length co9) y697:=(by rw [hw,Ny697.out];exact HP13.1);clear HP13;replace HL690_0:=aM (Kd.R_after (v:=(.slice (some ⟨go8,0,none⟩) l0.length co9)) (v1:=(.slice (some ⟨go8,0,none⟩) l0.length co9)) (ok:=(fun k_=>(P0_ k_\/w.heap.size<=k_)/\some k_≠((.slice Aoz y694.length coz):Value).ownBlock)) (by (with_reducible repeat (first|apply Kd.R_alloc|apply Kd.R_drewN|apply Kd.R_drew));exact Kd.R_mono HL690_0.out (fun _ hk=>⟨⟨hk.1.1,hk.2⟩,hk.1.2⟩)) hg (.inl rfl));replace HB:=aM ((by rw [hw];exact below_set (HB.out) GB8.out:Below w0.heap.size w0 w14));replace HK:=aM (Kept.of_grown (S:=(fun k_=>P0_ k_)) hg qT (fun k_ e_=>((Kd.S_R HO0.out).1 k_ e_).1));replace HO0:=aM hp_;clear HO696;clear hg hw hp_))
  go_ret
  exact⟨qW,qS HO0,qB,qT⟩
 have c6b2:¬ ((rd_L7 l0 a1)=[]):=fun h_=>c6 (by rw [h_];rfl)
 have H':=aM H
 clear H
 obtain⟨Ao15,co15,eo15⟩:=Kd.S_slice HO0.out
 subst eo15
 have p690:0<=(a1:Int):=qD
 have q690:a1 < (l0.length:Int):=qD
 obtain⟨ad690,A690_0,c690_0,e690,hx690_0,hl690_0,hi690_0⟩:=at_L7 (Kd.S_reads' HO0.out).2.2 a1 p690 q690
 cases e690
 obtain⟨ce690,hce690,hMe690,hcc690⟩:=Kd.S_get HO0.out [] a1 p690 (by first|exact q690|exact qD|(have e_:=(Kd.S_reads' HO0.out).1;omega))
 obtain⟨ve690_0,rfl,ge690_0⟩:=hMe690
 have hv690_0:=hcc690 0 _ rfl
 rw [Nat.add_zero,show ((Kd.slice 3 (Kd.int .i64))).sz=1 from rfl,Nat.mul_one] at hv690_0
 replace hv690_0:=Option.some.inj (hv690_0.symm.trans hx690_0)
 rw [hv690_0] at ge690_0
 have HL690_0:=aM (show Kd.R (Kd.int .i64) 3 _ _ _ _ (rd_L7 l0 a1) from ge690_0)
 clear hv690_0 ge690_0
 have HX690_0:=aM hx690_0
 clear hcc690 hce690
 have HR690_0:=aM hi690_0
 have HC690_0:=aM hl690_0
 clear hi690_0 hl690_0
 replace p690:=eq_true p690
 replace q690:=eq_true q690
 go_enter Try.func118,Try.ntmps118
 go_wp2
 repeat (go_quiet (fail);try go_wp2)
 go_loopg [7,8] k (fun kq v7 v8 w'=>∃ (x0_1:List (List Int)) (x7_1:Bool) (x8_1:Int),v7 = .bool x7_1/\v8 = .int .i64 x8_1/\Aside0 (Sl34Carry.l0 kq x0_1 a1 l2 x7_1 x8_1=some (r1,r2))/\Aside0 (kq<=k)/\Aside0 (Kd.S (Kd.slice 3 (Kd.int .i64)) 31 w' w0.heap.size (fun k_=>(P0_ k_\/w.heap.size<=k_)) (.slice (some ad690) l0.length co15) x0_1)/\Aside0 (Kept w w' (fun k_=>P0_ k_))/\Aside0 (Below w0.heap.size w0 w'))
 case atStart=>exact⟨(l0),(false),(0),qZ,qZ,H',⟨Nat.le_refl _⟩,⟨qS HO0⟩,⟨qT⟩,⟨qB⟩⟩
 clear H'
 try clear c2;try clear c4b0;try clear c5b0;try clear c6;try clear c6b0;try clear c6b1;try clear c6b2;try clear hx690_0;try clear p690;try clear q690
 obtain⟨x0_1,x7_1,x8_1,rfl,rfl,HA,HK1,HO_0,HK,HB⟩:=hrel
 have hl0_1:=(Kd.S_reads' HO_0.out).1
 rw [hl0_1] at HO_0
 (try simp only [hl0_1])
 rcases gk with _|k1
 ·exact absurd HA.out (by simp [Sl34Carry.l0])
 have H:=HA.out
 clear HA
 simp only [Sl34Carry.l0] at H
 replace H:=jD H;rcases H with ⟨c16b0,H⟩ | ⟨c16b0,H⟩
 ·replace H:=jI H;obtain⟨c17b0,H⟩:=H
  replace H:=jI H;obtain⟨c18b0,H⟩:=H
  replace H:=jI H;obtain⟨c19b0,H⟩:=H
  replace H:=jI H;obtain⟨c20b0,H⟩:=H
  replace H:=jE H;rcases H with ⟨c21b0,c21b1,H⟩ | ⟨c21,c21b0,c21b1,H⟩
  ·have H':=aM H
   clear H
   have p698:0<=(a1:Int):=qD
   have q698:a1 < (x0_1.length:Int):=qD
   obtain⟨ad698,A698_0,c698_0,e698,hx698_0,hl698_0,hi698_0⟩:=at_L7 (Kd.S_reads' HO_0.out).2.2 a1 p698 q698
   obtain rfl:ad690=ad698:=(by injection e698)
   obtain⟨ce698,hce698,hMe698,hcc698⟩:=Kd.S_get HO_0.out [] a1 p698 (by first|exact q698|exact qD|(have e_:=(Kd.S_reads' HO_0.out).1;omega))
   obtain⟨ve698_0,rfl,ge698_0⟩:=hMe698
   have hv698_0:=hcc698 0 _ rfl
   rw [Nat.add_zero,show ((Kd.slice 3 (Kd.int .i64))).sz=1 from rfl,Nat.mul_one] at hv698_0
   replace hv698_0:=Option.some.inj (hv698_0.symm.trans hx698_0)
   rw [hv698_0] at ge698_0
   have HL698_0:=aM (show Kd.R (Kd.int .i64) 3 _ _ _ _ (rd_L7 x0_1 a1) from ge698_0)
   clear hv698_0 ge698_0
   have HX698_0:=aM hx698_0
   clear hcc698 hce698
   have HR698_0:=aM hi698_0
   have HC698_0:=aM hl698_0
   clear hi698_0 hl698_0
   replace p698:=eq_true p698
   replace q698:=eq_true q698
   have p699:0<=(x8_1:Int):=qD
   have q699:x8_1 < ((rd_L7 x0_1 a1).length:Int):=qD
   obtain⟨ad699,e699,hx699_0⟩:=Kd.at_int (kC HR698_0.out) x8_1 p699 q699
   cases e699
   replace p699:=eq_true p699
   replace q699:=eq_true q699
   go_wp2
   repeat (go_quiet (fail);try go_wp2)
   (try simp only [<- hl0_1])
   go_roundg k1
   case measure=>have:=HK1.out;omega
   exact⟨(x0_1),(x7_1),(wrap64 (x8_1+1)),qZ,qZ,H',⟨by have:=HK1.out;omega⟩,⟨by (try simp only [hl0_1]);(with_reducible repeat (first|apply Kd.S_alloc|apply Kd.S_drewN|apply Kd.S_drew));exact HO_0.out⟩,⟨qT⟩,⟨qB⟩⟩
  replace H:=jI H;obtain⟨c22b0,H⟩:=H
  have HXc23:=aM H;clear H
  have p698:0<=(a1:Int):=qD
  have q698:a1 < (x0_1.length:Int):=qD
  obtain⟨ad698,A698_0,c698_0,e698,hx698_0,hl698_0,hi698_0⟩:=at_L7 (Kd.S_reads' HO_0.out).2.2 a1 p698 q698
  obtain rfl:ad690=ad698:=(by injection e698)
  obtain⟨ce698,hce698,hMe698,hcc698⟩:=Kd.S_get HO_0.out [] a1 p698 (by first|exact q698|exact qD|(have e_:=(Kd.S_reads' HO_0.out).1;omega))
  obtain⟨ve698_0,rfl,ge698_0⟩:=hMe698
  have hv698_0:=hcc698 0 _ rfl
  rw [Nat.add_zero,show ((Kd.slice 3 (Kd.int .i64))).sz=1 from rfl,Nat.mul_one] at hv698_0
  replace hv698_0:=Option.some.inj (hv698_0.symm.trans hx698_0)
  rw [hv698_0] at ge698_0
  have HL698_0:=aM (show Kd.R (Kd.int .i64) 3 _ _ _ _ (rd_L7 x0_1 a1) from ge698_0)
  clear hv698_0 ge698_0
  have HX698_0:=aM hx698_0
  clear hcc698 hce698
  have HR698_0:=aM hi698_0
  have HC698_0:=aM hl698_0
  clear hi698_0 hl698_0
  replace p698:=eq_true p698
  replace q698:=eq_true q698
  have p699:0<=(x8_1:Int):=qD
  have q699:x8_1 < ((rd_L7 x0_1 a1).length:Int):=qD
  obtain⟨ad699,e699,hx699_0⟩:=Kd.at_int (kC HR698_0.out) x8_1 p699 q699
  cases e699
  replace p699:=eq_true p699
  replace q699:=eq_true q699
  have p700:0<=(a1:Int):=qD
  have q700:a1 < (x0_1.length:Int):=qD
  obtain⟨ad700,A700_0,c700_0,e700,hx700_0,hl700_0,hi700_0⟩:=at_L7 (Kd.S_reads' HO_0.out).2.2 a1 p700 q700
  obtain rfl:ad690=ad700:=(by injection e700)
  obtain⟨ce700,hce700,hMe700,hcc700⟩:=Kd.S_get HO_0.out [] a1 p700 (by first|exact q700|exact qD|(have e_:=(Kd.S_reads' HO_0.out).1;omega))
  obtain⟨ve700_0,rfl,ge700_0⟩:=hMe700
  have hv700_0:=hcc700 0 _ rfl
  rw [Nat.add_zero,show ((Kd.slice 3 (Kd.int .i64))).sz=1 from rfl,Nat.mul_one] at hv700_0
  replace hv700_0:=Option.some.inj (hv700_0.symm.trans hx700_0)
  rw [hv700_0] at ge700_0
  have HL700_0:=aM (show Kd.R (Kd.int .i64) 3 _ _ _ _ (rd_L7 x0_1 a1) from ge700_0)
  clear hv700_0 ge700_0
  have HX700_0:=aM hx700_0
  clear hcc700 hce700
  have HR700_0:=aM hi700_0
  have HC700_0:=aM hl700_0
  clear hi700_0 hl700_0
  replace p700:=eq_true p700
  replace q700:=eq_true q700
  have ea_:=Option.some.inj (hx698_0.symm.trans hx700_0)
  injection ea_ with ea_ en_ ec_
  subst ea_
  subst ec_
  clear en_
  have p701:0<=(x8_1:Int):=qD
  have q701:x8_1 < ((rd_L7 x0_1 a1).length:Int):=qD
  obtain⟨ad701,e701,hx701_0⟩:=Kd.at_int (kC HR700_0.out) x8_1 p701 q701
  cases e701
  replace p701:=eq_true p701
  replace q701:=eq_true q701
  have p702:0<=(x8_1:Int):=qD
  have q702:x8_1 < (l2.length:Int):=qD
  obtain⟨ad702,e702,hx702_0⟩:=Kd.at_int (Kd.C_kept_now HR2.out HK.out) x8_1 p702 q702
  cases e702
  replace p702:=eq_true p702
  replace q702:=eq_true q702
  have H:=HXc23.out;clear HXc23
  replace H:=jE H;rcases H with ⟨c23b0,c23b1,H⟩ | ⟨c23,c23b0,c23b1,H⟩
  ·have H':=aM H
   clear H
   go_wp2
   repeat (go_quiet (fail);try go_wp2)
   (try simp only [<- hl0_1])
   go_roundg k1
   case measure=>have:=HK1.out;omega
   exact⟨(x0_1),(x7_1),(wrap64 (x8_1+1)),qZ,qZ,H',⟨by have:=HK1.out;omega⟩,⟨by (try simp only [hl0_1]);(with_reducible repeat (first|apply Kd.S_alloc|apply Kd.S_drewN|apply Kd.S_drew));exact HO_0.out⟩,⟨qT⟩,⟨qB⟩⟩
  obtain⟨y704,Ny704⟩:=ky (((rd_L7 x0_1 a1).set (x8_1:Int).toNat x8_1):List Int)
  first|replace H:=kz Ny704 H|rw [<- Ny704.out] at H
  obtain⟨y706,Ny706⟩:=ky ((x0_1.set (a1:Int).toNat y704):List (List Int))
  first|replace H:=kz Ny706 H|rw [<- Ny706.out] at H
  have H':=aM H
  clear H
  have p703:0<=(a1:Int):=qD
  have q703:a1 < (x0_1.length:Int):=qD
  obtain⟨ad703,A703_0,c703_0,e703,hx703_0,hl703_0,hi703_0⟩:=at_L7 (Kd.S_reads' HO_0.out).2.2 a1 p703 q703
  obtain rfl:ad690=ad703:=(by injection e703)
  obtain⟨ce703,hce703,hMe703,hcc703⟩:=Kd.S_get HO_0.out [] a1 p703 (by first|exact q703|exact qD|(have e_:=(Kd.S_reads' HO_0.out).1;omega))
  obtain⟨ve703_0,rfl,ge703_0⟩:=hMe703
  have hv703_0:=hcc703 0 _ rfl
  rw [Nat.add_zero,show ((Kd.slice 3 (Kd.int .i64))).sz=1 from rfl,Nat.mul_one] at hv703_0
  replace hv703_0:=Option.some.inj (hv703_0.symm.trans hx703_0)
  rw [hv703_0] at ge703_0
  have HL703_0:=aM (show Kd.R (Kd.int .i64) 3 _ _ _ _ (rd_L7 x0_1 a1) from ge703_0)
  clear hv703_0 ge703_0
  have HX703_0:=aM hx703_0
  clear hcc703 hce703
  have HR703_0:=aM hi703_0
  have HC703_0:=aM hl703_0
  clear hi703_0 hl703_0
  replace p703:=eq_true p703
  replace q703:=eq_true q703
  have ea_:=Option.some.inj (hx698_0.symm.trans hx703_0)
  injection ea_ with ea_ en_ ec_
  subst ea_
  subst ec_
  clear en_
  have p24:0<=(x8_1:Int):=qD
  have q24:(x8_1:Int) < (((rd_L7 x0_1 a1).length:Int):Int):=qD
  obtain⟨go24,co24,eo24,gb24,gl24,cl24,HG24⟩:=Kd.R_form HL703_0.out (by omega)
  (first|cases eo24|(injection eo24 with ea_ en_ ec_;(first|subst ea_|(injection ea_ with ea_;subst ea_));subst ec_;clear en_))
  have GB24:=aM gb24
  have GG24:=aM HG24
  clear gb24 gl24 HG24
  have HMgo24:=aM (show (P0_ go24\/w.heap.size<=go24) from (HL703_0.out.1 _ rfl).1)
  (first|simp only [add_plain] at hx701_0|skip)
  obtain⟨hx24_0,hf24_0⟩:=Kd.R_celln 0 HL703_0.out (x8_1:Int) p24 q24
  replace p24:=eq_true p24
  replace q24:=eq_true q24
  have hq25:(a1:Int) < (x0_1.length:Int):=(by have h_:(a1:Int) < ((x0_1.length:Int):Int):=qD;first|exact h_|(have e_:=(Kd.S_reads' HO_0.out).1;omega)|simpa only [List.length_set,List.length_set] using h_)
  obtain⟨oki25,ce25,hcl25,hM25,hcc25,hok25,hbk25⟩:=Kd.S_borrow HO_0.out [] (a1:Int) (qD) hq25
  obtain⟨ve25_0,rfl,ge25_0⟩:=hM25
  have hv25:=hcc25 0 _ rfl
  rw [Nat.add_zero,show ((Kd.slice 3 (Kd.int .i64))).sz=1 from rfl,Nat.mul_one] at hv25
  replace hv25:=Option.some.inj (hv25.symm.trans HX703_0.out)
  subst hv25
  clear hcc25 hcl25
  replace ge25_0:=(show Kd.R (Kd.int .i64) 3 _ _ _ _ (rd_L7 x0_1 a1) from ge25_0)
  have HP25:=Kd.R_putg ge25_0 (x8_1:Int) x8_1
  go_wp2_with (first|((with_reducible refine gate_store (t:=3) (p:=54) rfl ?_);(try (rw [drewN_self wr];generalize hq_:World.drewN wr _=wr;(try (have nx_:=aM (cell_at hq_ HX703_0.out);clear HX703_0;have HX703_0:=nx_;clear nx_));have n0_:=aM (Kd.S_at hq_ HO_0.out);have n1_:=aM (Kd.R_at hq_ HL703_0.out);have n2_:=aM (kept_at hq_ HK.out);have n3_:=aM (below_at hq_ HB.out);(try (have hx24_0:=cell_at hq_ hx24_0));(try (have hf24_0:=frozen_at hq_ hf24_0));clear hq_ HO_0 HL703_0 HK HB;have HO_0:=n0_;have HL703_0:=n1_;have HK:=n2_;have HB:=n3_;clear n0_ n1_ n2_ n3_;(try (have hq25:(a1:Int) < (x0_1.length:Int):=(by have h_:(a1:Int) < ((x0_1.length:Int):Int):=qD;first|exact h_|(have e_:=(Kd.S_reads' HO_0.out).1;omega)|simpa only [List.length_set,List.length_set] using h_)));(try (obtain⟨oki25,ce25,hcl25,hM25,hcc25,hok25,hbk25⟩:=Kd.S_borrow HO_0.out [] (a1:Int) (qD) hq25));(try (obtain⟨ve25_0,rfl,ge25_0⟩:=hM25));(try (have hv25:=hcc25 0 _ rfl));(try (rw [Nat.add_zero,show ((Kd.slice 3 (Kd.int .i64))).sz=1 from rfl,Nat.mul_one] at hv25));(try (replace hv25:=Option.some.inj (hv25.symm.trans HX703_0.out)));(try (subst hv25));(try (clear hcc25 hcl25));(try (replace ge25_0:=(show Kd.R (Kd.int .i64) 3 _ _ _ _ (rd_L7 x0_1 a1) from ge25_0)));(try (have HP25:=Kd.R_putg ge25_0 (x8_1:Int) x8_1))));refine store_event (t:=3) (p:=54) (v:=?vo_w26) (w1:=(wr.setCell ⟨go24,(x8_1:Int).toNat,none⟩ (.int .i64 x8_1))) ?hg ?ho ?hn ?hr ?_;(case ho=>rfl);(case hg=>rfl);(case hn=>rfl);(case hr=>first|(go_simp;done)|(go_simp;rfl));intro w26 hw;have hg:wr.grownBy w26 (some go24):=(by rw [hw];exact HP25.2);have hz_:Kd.R (Kd.int .i64) 3 w26 w0.heap.size oki25 (.slice (some ⟨go24,0,none⟩) (rd_L7 x0_1 a1).length c698_0) y704:=(by rw [hw,Ny704.out];exact HP25.1);have hp_:Kd.S (Kd.slice 3 (Kd.int .i64)) 31 w26 w0.heap.size (fun k_=>(P0_ k_\/w.heap.size<=k_)) (.slice (some ad690) x0_1.length co15) y706:=(by rw [Ny706.out];exact hbk25 hg (fun k_ e_=>by injection e_ with e_;subst e_;exact ge25_0.1 _ rfl) (Kd.M_row hz_));have hm_:=Kd.R_mono hz_ hok25;clear HP25 hbk25;have HL707:=aM hm_;have HC705:=aM ((Kd.R_reads' hm_).2.1);replace HO_0:=aM hp_;replace HB:=aM ((by rw [hw];exact below_set (HB.out) GB24.out:Below w0.heap.size w0 w26));replace HK:=aM (Kept.of_grown (S:=(fun k_=>P0_ k_)) hg qT (fun k_ e_=>(HL703_0.out.1 k_ e_).1));clear HL698_0 HL700_0 HL703_0;clear hg hw hp_ hz_ hm_ hok25))
  repeat (go_quiet (first|((with_reducible refine gate_store (t:=3) (p:=54) rfl ?_);(try (rw [drewN_self wr];generalize hq_:World.drewN wr _=wr;(try (have nx_:=aM (cell_at hq_ HX703_0.out);clear HX703_0;have HX703_0:=nx_;clear nx_));have n0_:=aM (Kd.S_at hq_ HO_0.out);have n1_:=aM (Kd.R_at hq_ HL703_0.out);have n2_:=aM (kept_at hq_ HK.out);have n3_:=aM (below_at hq_ HB.out);(try (have hx24_0:=cell_at hq_ hx24_0));(try (have hf24_0:=frozen_at hq_ hf24_0));clear hq_ HO_0 HL703_0 HK HB;have HO_0:=n0_;have HL703_0:=n1_;have HK:=n2_;have HB:=n3_;clear n0_ n1_ n2_ n3_;(try (have hq25:(a1:Int) < (x0_1.length:Int):=(by have h_:(a1:Int) < ((x0_1.length:Int):Int):=qD;first|exact h_|(have e_:=(Kd.S_reads' HO_0.out).1;omega)|simpa only [List.length_set,List.length_set] using h_)));(try (obtain⟨oki25,ce25,hcl25,hM25,hcc25,hok25,hbk25⟩:=Kd.S_borrow HO_0.out [] (a1:Int) (qD) hq25));(try (obtain⟨ve25_0,rfl,ge25_0⟩:=hM25));(try (have hv25:=hcc25 0 _ rfl));(try (rw [Nat.add_zero,show ((Kd.slice 3 (Kd.int .i64))).sz=1 from rfl,Nat.mul_one] at hv25));(try (replace hv25:=Option.some.inj (hv25.symm.trans HX703_0.out)));(try (subst hv25));(try (clear hcc25 hcl25));(try (replace ge25_0:=(show Kd.R (Kd.int .i64) 3 _ _ _ _ (rd_L7 x0_1 a1) from ge25_0)));(try (have HP25:=Kd.R_putg ge25_0 (x8_1:Int) x8_1))));refine store_event (t:=3) (p:=54) (v:=?vo_w26) (w1:=(wr.setCell ⟨go24,(x8_1:Int).toNat,none⟩ (.int .i64 x8_1))) ?hg ?ho ?hn ?hr ?_;(case ho=>rfl);(case hg=>rfl);(case hn=>rfl);(case hr=>first|(go_simp;done)|(go_simp;rfl));intro w26 hw;have hg:wr.grownBy w26 (some go24):=(by rw [hw];exact HP25.2);have hz_:Kd.R (Kd.int .i64) 3 w26 w0.heap.size oki25 (.slice (some ⟨go24,0,none⟩) (rd_L7 x0_1 a1).length c698_0) y704:=(by rw [hw,Ny704.out];exact HP25.1);have hp_:Kd.S (Kd.slice 3 (Kd.int .i64)) 31 w26 w0.heap.size (fun k_=>(P0_ k_\/w.heap.size<=k_)) (.slice (some ad690) x0_1.length co15) y706:=(by rw [Ny706.out];exact hbk25 hg (fun k_ e_=>by injection e_ with e_;subst e_;exact ge25_0.1 _ rfl) (Kd.M_row hz_));have hm_:=Kd.R_mono hz_ hok25;clear HP25 hbk25;have n0_:=aM hp_;have n1_:=aM ((by rw [hw];exact below_set (HB.out) GB24.out:Below w0.heap.size w0 w26));have n2_:=aM (Kept.of_grown (S:=(fun k_=>P0_ k_)) hg qT (fun k_ e_=>(HL703_0.out.1 k_ e_).1));have n3_:=aM hm_;have n4_:=aM ((Kd.R_reads' hm_).2.1);clear HO_0;clear HB;clear HK;clear HL698_0;clear HL700_0;clear HL703_0;have HO_0:=n0_;have HB:=n1_;have HK:=n2_;have HL707:=n3_;have HC705:=n4_;clear n0_ n1_ n2_ n3_ n4_;clear hg hw hp_ hz_ hm_ hok25));try go_wp2_with (first|((with_reducible refine gate_store (t:=3) (p:=54) rfl ?_);(try (rw [drewN_self wr];generalize hq_:World.drewN wr _=wr;(try (have nx_:=aM (cell_at hq_ HX703_0.out);clear HX703_0;have HX703_0:=nx_;clear nx_));have n0_:=aM (Kd.S_at hq_ HO_0.out);have n1_:=aM (Kd.R_at hq_ HL703_0.out);have n2_:=aM (kept_at hq_ HK.out);have n3_:=aM (below_at hq_ HB.out);(try (have hx24_0:=cell_at hq_ hx24_0));(try (have hf24_0:=frozen_at hq_ hf24_0));clear hq_ HO_0 HL703_0 HK HB;have HO_0:=n0_;have HL703_0:=n1_;have HK:=n2_;have HB:=n3_;clear n0_ n1_ n2_ n3_;(try (have hq25:(a1:Int) < (x0_1.length:Int):=(by have h_:(a1:Int) < ((x0_1.length:Int):Int):=qD;first|exact h_|(have e_:=(Kd.S_reads' HO_0.out).1;omega)|simpa only [List.length_set,List.length_set] using h_)));(try (obtain⟨oki25,ce25,hcl25,hM25,hcc25,hok25,hbk25⟩:=Kd.S_borrow HO_0.out [] (a1:Int) (qD) hq25));(try (obtain⟨ve25_0,rfl,ge25_0⟩:=hM25));(try (have hv25:=hcc25 0 _ rfl));(try (rw [Nat.add_zero,show ((Kd.slice 3 (Kd.int .i64))).sz=1 from rfl,Nat.mul_one] at hv25));(try (replace hv25:=Option.some.inj (hv25.symm.trans HX703_0.out)));(try (subst hv25));(try (clear hcc25 hcl25));(try (replace ge25_0:=(show Kd.R (Kd.int .i64) 3 _ _ _ _ (rd_L7 x0_1 a1) from ge25_0)));(try (have HP25:=Kd.R_putg ge25_0 (x8_1:Int) x8_1))));refine store_event (t:=3) (p:=54) (v:=?vo_w26) (w1:=(wr.setCell ⟨go24,(x8_1:Int).toNat,none⟩ (.int .i64 x8_1))) ?hg ?ho ?hn ?hr ?_;(case ho=>rfl);(case hg=>rfl);(case hn=>rfl);(case hr=>first|(go_simp;done)|(go_simp;rfl));intro w26 hw;have hg:wr.grownBy w26 (some go24):=(by rw [hw];exact HP25.2);have hz_:Kd.R (Kd.int .i64) 3 w26 w0.heap.size oki25 (.slice (some ⟨go24,0,none⟩) (rd_L7 x0_1 a1).length c698_0) y704:=(by rw [hw,Ny704.out];exact HP25.1);have hp_:Kd.S (Kd.slice 3 (Kd.int .i64)) 31 w26 w0.heap.size (fun k_=>(P0_ k_\/w.heap.size<=k_)) (.slice (some ad690) x0_1.length co15) y706:=(by rw [Ny706.out];exact hbk25 hg (fun k_ e_=>by injection e_ with e_;subst e_;exact ge25_0.1 _ rfl) (Kd.M_row hz_));have hm_:=Kd.R_mono hz_ hok25;clear HP25 hbk25;have HL707:=aM hm_;have HC705:=aM ((Kd.R_reads' hm_).2.1);replace HO_0:=aM hp_;replace HB:=aM ((by rw [hw];exact below_set (HB.out) GB24.out:Below w0.heap.size w0 w26));replace HK:=aM (Kept.of_grown (S:=(fun k_=>P0_ k_)) hg qT (fun k_ e_=>(HL703_0.out.1 k_ e_).1));clear HL698_0 HL700_0 HL703_0;clear hg hw hp_ hz_ hm_ hok25)))
  (try simp only [<- hl0_1])
  go_roundg k1
  case measure=>have:=HK1.out;omega
  exact⟨(y706),(true),(wrap64 (x8_1+1)),qZ,qZ,H',⟨by have:=HK1.out;omega⟩,⟨by (try simp only [hl0_1]);(with_reducible repeat (first|apply Kd.S_alloc|apply Kd.S_drewN|apply Kd.S_drew));exact HO_0.out⟩,⟨qT⟩,⟨qB⟩⟩
 simp only [Option.some.injEq,Prod.mk.injEq] at H
 obtain⟨rfl,rfl⟩:=H
 go_wp2
 repeat (go_quiet (fail);try go_wp2)
 go_ret
 exact⟨qW,(by first|exact (qS HO_0)|(simp only [hl0_1];exact (qS HO_0))),qB,qT⟩
mutual
def Sl34Round.l0:Nat->List (S46)->List (List Int)->Bool->Int->Option (Bool × (List (List Int)))
 | 0,_,_,_,_=>none
 | k+1,x0,x1,x5,x6=>if x6 < (x0.length:Int) then (if 0<=x6 then (if x6 < (x1.length:Int) then (if ((rd_L7 x1 x6).length:Int)=0 then (Sl34Round.l0 k x0 x1 x5 (wrap64 (x6+1))) else ((Sl31Next.f k x0 x6).bind fun t709=>((Sl34After.f k ((rd_T46 x0 x6).f0) ((rd_T46 x0 x6).f1) ((rd_T46 x0 x6).f2) ((rd_T46 x0 x6).f3) ((rd_T46 x0 x6).f4) (rd_L7 x1 x6)).bind fun t714=>(Sl34Round.l1 k x0 x1 x5 x6 t709 t714 0)))) else (none)) else (none)) else (some (x5,x1))
def Sl34Round.l1:Nat->List (S46)->List (List Int)->Bool->Int->List Int->List Int->Int->Option (Bool × (List (List Int)))
 | 0,_,_,_,_,_,_,_=>none
 | k+1,x0,x1,x5,x6,x7,x8,x9=>if x9 < (x7.length:Int) then (if 0<=x9 then ((Sl34Carry.f k x1 (rd x7 x9) x8).bind fun bt718=>(if bt718.1=true then (Sl34Round.l1 k x0 bt718.2 true x6 x7 x8 (wrap64 (x9+1))) else (Sl34Round.l1 k x0 bt718.2 x5 x6 x7 x8 (wrap64 (x9+1))))) else (none)) else (Sl34Round.l0 k x0 x1 x5 (wrap64 (x6+1)))
end
def Sl34Round.f (k:Nat) (l0:List (S46)) (l1:List (List Int)):Option (Bool × (List (List Int))):=Sl34Round.l0 k l0 l1 false 0
theorem Sl34Round.mono_l:∀ k,(∀ y0 y1 y2 y3,LeO (Sl34Round.l0 k y0 y1 y2 y3) (Sl34Round.l0 (k+1) y0 y1 y2 y3))/\(∀ y0 y1 y2 y3 y4 y5 y6,LeO (Sl34Round.l1 k y0 y1 y2 y3 y4 y5 y6) (Sl34Round.l1 (k+1) y0 y1 y2 y3 y4 y5 y6))
 | 0=>⟨fun _ _ _ _ r h=>by simp [Sl34Round.l0] at h,fun _ _ _ _ _ _ _ r h=>by simp [Sl34Round.l1] at h⟩
 | k+1=>by
  obtain⟨ih0,ih1⟩:=Sl34Round.mono_l k;have m0:=@Sl31Next.mono;have m1:=@Sl34After.mono;have m2:=@Sl34Carry.mono
  exact⟨by intros;unfold Sl34Round.l0;exact mM,by intros;unfold Sl34Round.l1;exact mM⟩
theorem Sl34Round.mono:∀ a0 a1 k,LeO (Sl34Round.f k a0 a1) (Sl34Round.f (k+1) a0 a1):=by
 intro a0 a1 k;obtain⟨ih0,ih1⟩:=Sl34Round.mono_l k;unfold Sl34Round.f;have m0:=@Sl31Next.mono;have m1:=@Sl34After.mono;have m2:=@Sl34Carry.mono;exact mM
def Sl34Round.T7:Bool × List (List Nat × List Nat):=(true,[([],[]),([],[]),([0,1],[0,1]),([2],[2]),([],[]),([],[]),([4,5],[4,5]),([6],[6]),([3,7],[3,7]),([8,8,0,1,2,3,4,5,6,7,8],[8])])
def Sl34Round.B7:List Nat:=[0,0,3,7,0,0,48,112,255,511]
theorem Sl34Round.tab7:rtab .any (opsOf Try.f108 7)=Sl34Round.T7:=by kernel_rfl
theorem Sl34Round.bits7:waitsOk Sl34Round.T7.2 Sl34Round.B7=true:=by kernel_rfl
theorem Sl34Round.calls (k:Nat) (A0:Option Addr) (c0:Nat) (l0:List (S46)) (P1_:Nat->Prop) (u9000_:Value) (l1:List (List Int)) (r1:Bool) (r2:List (List Int)) (w0 w:World) (hB:Below w0.heap.size w0 w) (hr0:∀ W_,Kept w W_ (fun k_=>P1_ k_)->Kd.C k46 W_ A0 l0.length l0) (hc0:l0.length<=c0) (ho1:Kd.S (Kd.slice 3 (Kd.int .i64)) 31 w w0.heap.size P1_ u9000_ l1) (h:Sl34Round.f k l0 l1=some (r1,r2)) :
  Calls Try.prog 108 #[.slice A0 l0.length c0,u9000_] w fun e w'=>e = .returned (.bool r1)/\Kd.S (Kd.slice 3 (Kd.int .i64)) 31 w' w0.heap.size (fun k_=>(P1_ k_\/w.heap.size<=k_)) u9000_ r2/\Below w0.heap.size w0 w'/\Kept w w' (fun k_=>P1_ k_):=by
 have hu46:=Try.underlying46
 have HR0:=aM hr0
 have HC0:=aM hc0
 clear hr0 hc0
 have HO1:=aM (show Kd.S (Kd.slice 3 (Kd.int .i64)) 31 w w0.heap.size (fun k_=>(P1_ k_\/w.heap.size<=k_)) u9000_ l1 from Kd.S_mono ho1 (fun k_ hk=>(.inl hk)))
 have HK:=aM (Kept.refl w (fun k_=>P1_ k_))
 have HW0:=aM hB.size
 have HB:=aM hB
 clear hB
 have H:(Sl34Round.l0 k l0 l1 false 0)=some (r1,r2):=h
 clear h
 have H':=aM H
 clear H
 go_enter Try.func108,Try.ntmps108
 go_wp2
 go_loopg [5,6] k (fun kq v5 v6 w'=>∃ (x1_1:List (List Int)) (x5_1:Bool) (x6_1:Int),v5 = .bool x5_1/\v6 = .int .i64 x6_1/\Aside0 (Sl34Round.l0 kq l0 x1_1 x5_1 x6_1=some (r1,r2))/\Aside0 (kq<=k)/\Aside0 (Kd.S (Kd.slice 3 (Kd.int .i64)) 31 w' w0.heap.size (fun k_=>(P1_ k_\/w.heap.size<=k_)) u9000_ x1_1)/\Aside0 (Kept w w' (fun k_=>P1_ k_))/\Aside0 (Below w0.heap.size w0 w'))
 case atStart=>exact⟨(l1),(false),(0),qZ,qZ,H',⟨Nat.le_refl _⟩,⟨qS HO1⟩,⟨qT⟩,⟨qB⟩⟩
 clear H'
 obtain⟨x1_1,x5_1,x6_1,rfl,rfl,HA,HK1,HO_1,HK,HB⟩:=hrel
 rcases gk with _|k1
 ·exact absurd HA.out (by simp [Sl34Round.l0])
 have H:=HA.out
 clear HA
 simp only [Sl34Round.l0] at H
 replace H:=jD H;rcases H with ⟨c3b0,H⟩ | ⟨c3b0,H⟩
 ·replace H:=jI H;obtain⟨c4b0,H⟩:=H
  replace H:=jI H;obtain⟨c5b0,H⟩:=H
  replace H:=jE H;rcases H with ⟨c6b0,c6b1,H⟩ | ⟨c6,c6b0,c6b1,H⟩
  ·have H':=aM H
   clear H
   obtain⟨Ao7,co7,eo7⟩:=Kd.S_slice HO_1.out
   subst eo7
   have p708:0<=(x6_1:Int):=qD
   have q708:x6_1 < (x1_1.length:Int):=qD
   obtain⟨ad708,A708_0,c708_0,e708,hx708_0,hl708_0,hi708_0⟩:=at_L7 (Kd.S_reads' HO_1.out).2.2 x6_1 p708 q708
   cases e708
   obtain⟨ce708,hce708,hMe708,hcc708⟩:=Kd.S_get HO_1.out [] x6_1 p708 (by first|exact q708|exact qD|(have e_:=(Kd.S_reads' HO_1.out).1;omega))
   obtain⟨ve708_0,rfl,ge708_0⟩:=hMe708
   have hv708_0:=hcc708 0 _ rfl
   rw [Nat.add_zero,show ((Kd.slice 3 (Kd.int .i64))).sz=1 from rfl,Nat.mul_one] at hv708_0
   replace hv708_0:=Option.some.inj (hv708_0.symm.trans hx708_0)
   rw [hv708_0] at ge708_0
   have HL708_0:=aM (show Kd.R (Kd.int .i64) 3 _ _ _ _ (rd_L7 x1_1 x6_1) from ge708_0)
   clear hv708_0 ge708_0
   clear hcc708 hce708
   have HR708_0:=aM hi708_0
   have HC708_0:=aM hl708_0
   clear hi708_0 hl708_0
   replace p708:=eq_true p708
   replace q708:=eq_true q708
   go_wp2
   go_roundg k1
   case measure=>have:=HK1.out;omega
   exact⟨(x1_1),(x5_1),(wrap64 (x6_1+1)),qZ,qZ,H',⟨by have:=HK1.out;omega⟩,⟨qS HO_1⟩,⟨qT⟩,⟨qB⟩⟩
  have c6b2:¬ ((rd_L7 x1_1 x6_1)=[]):=fun h_=>c6 (by rw [h_];rfl)
  obtain⟨t709,A8,H⟩:=qE H
  try dsimp only at H
  obtain⟨t714,A9,H⟩:=qE H
  try dsimp only at H
  have H':=aM H
  clear H
  obtain⟨Ao10,co10,eo10⟩:=Kd.S_slice HO_1.out
  subst eo10
  have p708:0<=(x6_1:Int):=qD
  have q708:x6_1 < (x1_1.length:Int):=qD
  obtain⟨ad708,A708_0,c708_0,e708,hx708_0,hl708_0,hi708_0⟩:=at_L7 (Kd.S_reads' HO_1.out).2.2 x6_1 p708 q708
  cases e708
  obtain⟨ce708,hce708,hMe708,hcc708⟩:=Kd.S_get HO_1.out [] x6_1 p708 (by first|exact q708|exact qD|(have e_:=(Kd.S_reads' HO_1.out).1;omega))
  obtain⟨ve708_0,rfl,ge708_0⟩:=hMe708
  have hv708_0:=hcc708 0 _ rfl
  rw [Nat.add_zero,show ((Kd.slice 3 (Kd.int .i64))).sz=1 from rfl,Nat.mul_one] at hv708_0
  replace hv708_0:=Option.some.inj (hv708_0.symm.trans hx708_0)
  rw [hv708_0] at ge708_0
  have HL708_0:=aM (show Kd.R (Kd.int .i64) 3 _ _ _ _ (rd_L7 x1_1 x6_1) from ge708_0)
  clear hv708_0 ge708_0
  clear hcc708 hce708
  have HR708_0:=aM hi708_0
  have HC708_0:=aM hl708_0
  clear hi708_0 hl708_0
  replace p708:=eq_true p708
  replace q708:=eq_true q708
  try go_wp2_with (first|((with_reducible refine jc 80 24 rfl rfl ?_);refine jG Try.func80 #[.slice A0 l0.length c0,.int .i64 x6_1] ?_;(with_reducible refine (Sl31Next.calls k1 _ _ l0 x6_1 t709 _ ?side1 ?side2 A8.out).mono ?_);(case side1=>exact Kd.C_kept_now HR0.out qT);(case side2=>exact HC0.out);rintro e w11 ⟨v710,rfl,ho0,hb⟩;refine⟨_,rfl,?_⟩;have HO711:=aM (Kd.R_lower (Kd.R_new' (Kd.R_newM (M:=fun k_=>(P1_ k_\/w.heap.size<=k_)) ho0 (by first|exact HK.out.1|exact (show Kept w _ (fun k_=>P1_ k_) from qT).1) (fun k_ h_=>.inr h_)) (Kd.R_lt (qR HL708_0))) (below_size qB));replace HO_1:=aM (Kd.S_elder' (qS HO_1) (Kd.R_base ho0) hb);replace HL708_0:=kO HL708_0 ho0 hb;replace HR708_0:=kQ HR708_0 hb;replace HK:=kT hb;replace HB:=kH hb;clear hb;(try clear ho0)))
  replace HO_1:=aM (Kd.S_drew HO_1.out)
  replace HL708_0:=aM (Kd.R_drew HL708_0.out)
  replace HO711:=aM (Kd.R_drew HO711.out)
  replace HR708_0:=aM (Kd.C_drew HR708_0.out)
  replace HK:=aM (Kept.drew HK.out)
  replace HB:=aM (below_drew1 HB.out)
  have p712:0<=(x6_1:Int):=qD
  have q712:x6_1 < (l0.length:Int):=qD
  obtain⟨ad712,e712,hx712_0,hx712_1,hx712_2,hx712_3,hx712_4⟩:=at_T46 (Kd.C_kept_now HR0.out HK.out) x6_1 p712 q712
  have hw712_4:=hx712_4
  have hw712_3:=hx712_3
  have hw712_2:=hx712_2
  have hw712_1:=hx712_1
  have hw712_0:=hx712_0
  cases e712
  replace p712:=eq_true p712
  replace q712:=eq_true q712
  have p713:0<=(x6_1:Int):=qD
  have q713:x6_1 < (x1_1.length:Int):=qD
  obtain⟨ad713,A713_0,c713_0,e713,hx713_0,hl713_0,hi713_0⟩:=at_L7 (Kd.S_reads' HO_1.out).2.2 x6_1 p713 q713
  obtain rfl:ad708=ad713:=(by injection e713)
  obtain⟨ce713,hce713,hMe713,hcc713⟩:=Kd.S_get HO_1.out [] x6_1 p713 (by first|exact q713|exact qD|(have e_:=(Kd.S_reads' HO_1.out).1;omega))
  obtain⟨ve713_0,rfl,ge713_0⟩:=hMe713
  have hv713_0:=hcc713 0 _ rfl
  rw [Nat.add_zero,show ((Kd.slice 3 (Kd.int .i64))).sz=1 from rfl,Nat.mul_one] at hv713_0
  replace hv713_0:=Option.some.inj (hv713_0.symm.trans hx713_0)
  rw [hv713_0] at ge713_0
  have HL713_0:=aM (show Kd.R (Kd.int .i64) 3 _ _ _ _ (rd_L7 x1_1 x6_1) from ge713_0)
  clear hv713_0 ge713_0
  clear hcc713 hce713
  have HR713_0:=aM hi713_0
  have HC713_0:=aM hl713_0
  clear hi713_0 hl713_0
  replace p713:=eq_true p713
  replace q713:=eq_true q713
  refine start_ (n:=10) (S:=fun w'=>w'.cell? (ad712.add ((x6_1).toNat*5))=some (.int .i64 ((rd_T46 l0 x6_1).f0))/\w'.cell? ⟨(ad712.add ((x6_1).toNat*5)).block,(ad712.add ((x6_1).toNat*5)).off+1,none⟩=some (.int .i64 ((rd_T46 l0 x6_1).f1))/\w'.cell? ⟨(ad712.add ((x6_1).toNat*5)).block,(ad712.add ((x6_1).toNat*5)).off+2,none⟩=some (.int .i64 ((rd_T46 l0 x6_1).f2))/\w'.cell? ⟨(ad712.add ((x6_1).toNat*5)).block,(ad712.add ((x6_1).toNat*5)).off+3,none⟩=some (.int .i64 ((rd_T46 l0 x6_1).f3))/\w'.cell? ⟨(ad712.add ((x6_1).toNat*5)).block,(ad712.add ((x6_1).toNat*5)).off+4,none⟩=some (.int .i64 ((rd_T46 l0 x6_1).f4))/\w'.cell? (ad708.add (x6_1).toNat)=some (.slice A713_0 (rd_L7 x1_1 x6_1).length c713_0)) (ds:=[]) (jb 10 0) (by kernel_rfl) rfl rfl ⟨(foot_T46_0 (HR0.out _ (by repeat (first|exact HK.out|apply Kept.alloc|apply Kept.drewN|apply Kept.drew))) x6_1 (of_eq_true p712) (of_eq_true q712)),(foot_T46_1 (HR0.out _ (by repeat (first|exact HK.out|apply Kept.alloc|apply Kept.drewN|apply Kept.drew))) x6_1 (of_eq_true p712) (of_eq_true q712)),(foot_T46_2 (HR0.out _ (by repeat (first|exact HK.out|apply Kept.alloc|apply Kept.drewN|apply Kept.drew))) x6_1 (of_eq_true p712) (of_eq_true q712)),(foot_T46_3 (HR0.out _ (by repeat (first|exact HK.out|apply Kept.alloc|apply Kept.drewN|apply Kept.drew))) x6_1 (of_eq_true p712) (of_eq_true q712)),(foot_T46_4 (HR0.out _ (by repeat (first|exact HK.out|apply Kept.alloc|apply Kept.drewN|apply Kept.drew))) x6_1 (of_eq_true p712) (of_eq_true q712)),hx713_0⟩ (fun hHeld=>?_);refine with_tabW Sl34Round.tab7 Sl34Round.bits7 (fun HT_ HW_=>?_)
  generalize w11.drew=w12 at HO_1 HL708_0 HO711 HR708_0 HK HB HL713_0 HR713_0 hx712_0 hx712_1 hx712_2 hx712_3 hx712_4 hx713_0 hHeld ⊢
  refine jp 0 25 (jb 10 1) ?_
  refine jp 1 26 (jb 10 3) ?_
  refine jp 2 27 (jb 10 7) ?_
  refine jp 4 29 (jb 10 23) ?_
  refine jp 5 30 (jb 10 55) ?_
  refine jp 6 31 (jb 10 119) ?_
  refine jt 3 28 (jb 10 127) ?_
  refine jt 7 32 (jb 10 255) ?_
  refine one_ (i:=8) (N:=some 33) (jb 10 511) rfl rfl (one_of HT_.out (by kernel_rfl)) (by decide) (fun K hK=>?_)
  refine goes_ Try.func117 (by kernel_rfl) rfl #[.agg #[.int .i64 ((rd_T46 l0 x6_1).f0),.int .i64 ((rd_T46 l0 x6_1).f1),.int .i64 ((rd_T46 l0 x6_1).f2),.int .i64 ((rd_T46 l0 x6_1).f3),.int .i64 ((rd_T46 l0 x6_1).f4)],.slice A713_0 (rd_L7 x1_1 x6_1).length c713_0] (by rfl) rfl rfl qM ?_
  with_reducible refine (Sl34After.calls k1 ((rd_T46 l0 x6_1).f0) ((rd_T46 l0 x6_1).f1) ((rd_T46 l0 x6_1).f2) ((rd_T46 l0 x6_1).f3) ((rd_T46 l0 x6_1).f4) _ _ (rd_L7 x1_1 x6_1) t714 _ ?side1 ?side2 A9.out).mono ?_
  (case side1=>repeat (first|exact (kC HR713_0.out)|(with_reducible refine Kd.C_alloc ?_ _)|(with_reducible refine Kd.C_drewN ?_ _)|(with_reducible refine Kd.C_drew ?_)))
  (case side2=>exact HC713_0.out)
  rintro e w13 ⟨v715,rfl,ho0,hb⟩
  have HS5_:=(hb.cell (World.block_lt_of_cell? _ _ (hHeld.2.2.2.2.2))).trans (hHeld.2.2.2.2.2)
  refine⟨_,rfl,?_⟩
  have HO716:=aM (Kd.R_lower (Kd.R_new' (Kd.R_new' (Kd.R_new' (Kd.R_newM (M:=fun k_=>(P1_ k_\/w.heap.size<=k_)) ho0 (by first|exact HK.out.1|exact (show Kept w _ (fun k_=>P1_ k_) from qT).1) (fun k_ h_=>.inr h_)) (Kd.R_lt (qR HL708_0))) (Kd.R_lt (qR HO711))) (Kd.R_lt (qR HL713_0))) (below_size qB))
  replace HO_1:=aM (Kd.S_elder' (qS HO_1) (Kd.R_base ho0) hb)
  replace HL708_0:=kO HL708_0 ho0 hb
  replace HO711:=kO HO711 ho0 hb
  replace HL713_0:=kO HL713_0 ho0 hb
  replace HR708_0:=kQ HR708_0 hb
  replace HR713_0:=kQ HR713_0 hb
  replace HK:=kT hb
  replace HB:=kH hb
  (try clear hb)
  (try clear hb2)
  (try clear hk)
  (try clear hi)
  (try clear ho0)
  refine hK.out _ _ ⟨(foot_T46_0 (HR0.out _ (by repeat (first|exact HK.out|apply Kept.alloc|apply Kept.drewN|apply Kept.drew))) x6_1 (of_eq_true p712) (of_eq_true q712)),(foot_T46_1 (HR0.out _ (by repeat (first|exact HK.out|apply Kept.alloc|apply Kept.drewN|apply Kept.drew))) x6_1 (of_eq_true p712) (of_eq_true q712)),(foot_T46_2 (HR0.out _ (by repeat (first|exact HK.out|apply Kept.alloc|apply Kept.drewN|apply Kept.drew))) x6_1 (of_eq_true p712) (of_eq_true q712)),(foot_T46_3 (HR0.out _ (by repeat (first|exact HK.out|apply Kept.alloc|apply Kept.drewN|apply Kept.drew))) x6_1 (of_eq_true p712) (of_eq_true q712)),(foot_T46_4 (HR0.out _ (by repeat (first|exact HK.out|apply Kept.alloc|apply Kept.drewN|apply Kept.drew))) x6_1 (of_eq_true p712) (of_eq_true q712)),HS5_⟩ (fun hHeld=>?_)
  clear hK K
  refine norm_ (a':=?_) ?_ ?_
  rotate_left
  ·show Act.put _ (some 33) _=_
   simp only [Act.put,List.setIfInBounds_toArray,List.set_cons_zero,List.set_cons_succ,i64_w,i32_w]
   rfl
  refine jp 9 8 (jb 10 1023) ?_
  refine done_ (done_of HT_.out (by kernel_rfl)) ?_
  try go_wp2
  go_loopg [5,9] k1 (fun kq v5 v9 w'=>∃ (x1_2:List (List Int)) (x5_2:Bool) (x9_2:Int),v5 = .bool x5_2/\v9 = .int .i64 x9_2/\Aside0 (Sl34Round.l1 kq l0 x1_2 x5_2 x6_1 t709 t714 x9_2=some (r1,r2))/\Aside0 (kq<=k1)/\Aside0 (Kd.S (Kd.slice 3 (Kd.int .i64)) 31 w' w0.heap.size (fun k_=>(P1_ k_\/w.heap.size<=k_)/\some k_≠(v710:Value).ownBlock/\some k_≠(v715:Value).ownBlock) (.slice (some ad708) x1_1.length co10) x1_2)/\Aside0 (Kd.R (Kd.int .i64) 3 w' w0.heap.size (fun k_=>(P1_ k_\/w.heap.size<=k_)/\some k_≠(v715:Value).ownBlock) v710 t709)/\Aside0 (Kd.R (Kd.int .i64) 3 w' w0.heap.size (fun k_=>(P1_ k_\/w.heap.size<=k_)/\some k_≠(v710:Value).ownBlock) v715 t714)/\Aside0 (Kept w w' (fun k_=>P1_ k_))/\Aside0 (Below w0.heap.size w0 w'))
  case atStart=>exact⟨(x1_1),(x5_1),(0),qZ,qZ,H',⟨Nat.le_refl _⟩,⟨by (with_reducible repeat (first|apply Kd.S_alloc|apply Kd.S_drewN|apply Kd.S_drew));exact Kd.S_mono HO_1.out (fun _ hk=>⟨hk.1.1,⟨hk.1.2,hk.2⟩⟩)⟩,⟨by (with_reducible repeat (first|apply Kd.R_alloc|apply Kd.R_drewN|apply Kd.R_drew));exact Kd.R_mono HO711.out (fun _ hk=>⟨hk.1.1.1,hk.2⟩)⟩,⟨by (with_reducible repeat (first|apply Kd.R_alloc|apply Kd.R_drewN|apply Kd.R_drew));exact Kd.R_mono HO716.out (fun _ hk=>⟨hk.1.1.1.1,hk.1.2⟩)⟩,⟨qT⟩,⟨qB⟩⟩
  clear H'
  try clear c3b0;try clear c4b0;try clear c5b0;try clear c6;try clear c6b0;try clear c6b1;try clear c6b2;try clear hx708_0;try clear hx712_0;try clear hx712_1;try clear hx712_2;try clear hx712_3;try clear hx712_4;try clear hx713_0;try clear p708;try clear p712;try clear p713;try clear q708;try clear q712;try clear q713
  obtain⟨x1_2,x5_2,x9_2,rfl,rfl,HA,HK2,HO_1,HO_7,HO_8,HK,HB⟩:=hrel
  have hl1_2:=(Kd.S_reads' HO_1.out).1
  rw [hl1_2] at HO_1
  (try simp only [hl1_2])
  (try simp only [hl1_2] at HO_7)
  (try simp only [hl1_2] at HO_8)
  rcases gk with _|k2
  ·exact absurd HA.out (by simp [Sl34Round.l1])
  have H:=HA.out
  clear HA
  simp only [Sl34Round.l1] at H
  replace H:=jD H;rcases H with ⟨c14b0,H⟩ | ⟨c14b0,H⟩
  ·replace H:=jI H;obtain⟨c15b0,H⟩:=H
   obtain⟨⟨t718,t719⟩,A16,H⟩:=qE H
   try dsimp only at H
   replace H:=jB H;rcases H with ⟨rfl,H⟩ | ⟨rfl,H⟩
   ·have H':=aM H
    clear H
    obtain⟨Ao18,co18,eo18⟩:=Kd.R_slice HO_7.out
    subst eo18
    have p717:0<=(x9_2:Int):=qD
    have q717:x9_2 < (t709.length:Int):=qD
    obtain⟨ad717,e717,hx717_0⟩:=Kd.at_int (Kd.R_reads' HO_7.out).2.2 x9_2 p717 q717
    cases e717
    replace p717:=eq_true p717
    replace q717:=eq_true q717
    obtain⟨Ao19,co19,eo19⟩:=Kd.R_slice HO_8.out
    subst eo19
    go_wp2_with (first|((with_reducible refine jc 118 46 rfl rfl ?_);refine jG Try.func118 #[.slice (some ad708) x1_2.length co10,.int .i64 (rd t709 x9_2),.slice Ao19 t714.length co19] ?_;(with_reducible refine (Sl34Carry.calls k2 ?P456_ (.slice (some ad708) x1_2.length co10) x1_2 (rd t709 x9_2) _ _ t714 true t719 w0 _ ?side1 ?side2 ?side3 ?side4 A16.out).mono ?_);(case side2=>exact Kd.S_bound HO_1.out);(case side1=>exact qB);(case side3=>exact Kd.C_kept_own (Kd.R_tight rfl HO_8.out) (fun k_ hk_ hs_=>by first|exact hs_.1.2 hk_|exact hs_.1.2.1 hk_|exact hs_.1.2.2 hk_|exact hs_.1.1.2 hk_|exact hs_.1.1.1.2 hk_|exact tyap HO_8.out (by decide) hk_ hs_.2.2.2));(case side4=>exact (Kd.R_reads' HO_8.out).2.1);rintro e w_0a ⟨rfl,hy0,hb,hkp⟩;refine⟨_,rfl,?_⟩;replace HO_1:=aM ((by first|exact Kd.S_mono (ok':=fun k_=>(((P1_ k_\/w.heap.size<=k_))/\(some k_≠(.slice (some ad717) t709.length co18:Value).ownBlock/\some k_≠(.slice Ao19 t714.length co19:Value).ownBlock))) hy0 (fun k_ h_=>Or.elim h_ (fun h_=>h_.1) (fun h_=>.inr (by first|exact Nat.le_trans HK.out.1 h_|exact Nat.le_trans (below_size HB.out) h_)))|exact Kd.S_mono (ok':=fun k_=>(((P1_ k_\/w.heap.size<=k_))/\(some k_≠(.slice (some ad717) t709.length co18:Value).ownBlock/\some k_≠(.slice Ao19 t714.length co19:Value).ownBlock))) hy0 (fun _ _=>trivial)|exact Kd.S_mono (ok':=fun k_=>(((P1_ k_\/w.heap.size<=k_))/\(some k_≠(.slice (some ad717) t709.length co18:Value).ownBlock/\some k_≠(.slice Ao19 t714.length co19:Value).ownBlock))) hy0 (fun k_ h_=>Or.elim h_ (fun h_=>h_.1) (fun h_=>⟨.inr (Nat.le_trans HK.out.1 h_),fun e_=>by have:=Kd.R_lt HO_7.out k_ e_.symm;omega⟩))|exact Kd.S_mono (ok':=fun k_=>(((P1_ k_\/w.heap.size<=k_))/\(some k_≠(.slice (some ad717) t709.length co18:Value).ownBlock/\some k_≠(.slice Ao19 t714.length co19:Value).ownBlock))) hy0 (fun k_ h_=>Or.elim h_ (fun h_=>h_.1) (fun h_=>⟨.inr (Nat.le_trans HK.out.1 h_),fun e_=>by have:=Kd.R_lt HO_8.out k_ e_.symm;omega⟩))|exact Kd.S_mono (ok':=fun k_=>(((P1_ k_\/w.heap.size<=k_))/\(some k_≠(.slice (some ad717) t709.length co18:Value).ownBlock/\some k_≠(.slice Ao19 t714.length co19:Value).ownBlock))) hy0 (fun k_ h_=>Or.elim h_ (fun h_=>h_.1) (fun h_=>⟨⟨.inr (Nat.le_trans HK.out.1 h_),fun e_=>by have:=Kd.R_lt HO_7.out k_ e_.symm;omega⟩,fun e_=>by have:=Kd.R_lt HO_8.out k_ e_.symm;omega⟩))|exact Kd.S_mono (ok':=fun k_=>(((P1_ k_\/w.heap.size<=k_))/\(some k_≠(.slice (some ad717) t709.length co18:Value).ownBlock/\some k_≠(.slice Ao19 t714.length co19:Value).ownBlock))) hy0 (fun k_ h_=>Or.elim h_ (fun h_=>h_.1) (fun h_=>⟨⟨.inr (Nat.le_trans HK.out.1 h_),fun e_=>by have:=Kd.R_lt HO_8.out k_ e_.symm;omega⟩,fun e_=>by have:=Kd.R_lt HO_7.out k_ e_.symm;omega⟩))|exact Kd.S_mono (ok':=fun k_=>(((P1_ k_\/w.heap.size<=k_))/\(some k_≠(.slice (some ad717) t709.length co18:Value).ownBlock/\some k_≠(.slice Ao19 t714.length co19:Value).ownBlock))) hy0 (fun k_ h_=>Or.elim h_ (fun h_=>h_.1) (fun h_=>⟨.inr (Nat.le_trans HK.out.1 h_),⟨fun e_=>by have:=Kd.R_lt HO_7.out k_ e_.symm;omega,fun e_=>by have:=Kd.R_lt HO_8.out k_ e_.symm;omega⟩⟩))|exact Kd.S_mono (ok':=fun k_=>(((P1_ k_\/w.heap.size<=k_))/\(some k_≠(.slice (some ad717) t709.length co18:Value).ownBlock/\some k_≠(.slice Ao19 t714.length co19:Value).ownBlock))) hy0 (fun k_ h_=>Or.elim h_ (fun h_=>h_.1) (fun h_=>⟨.inr (Nat.le_trans HK.out.1 h_),⟨fun e_=>by have:=Kd.R_lt HO_8.out k_ e_.symm;omega,fun e_=>by have:=Kd.R_lt HO_7.out k_ e_.symm;omega⟩⟩))));replace HO_7:=aM (Kd.R_mono (ok':=fun k_=>(P1_ k_\/w.heap.size<=k_)/\some k_≠(.slice Ao19 t714.length co19:Value).ownBlock) (Kd.R_keptB (Kd.R_tight rfl HO_7.out) hkp (fun k_ hk_ hs_=>by first|exact hs_.1.2 hk_|exact hs_.1.2.1 hk_|exact hs_.1.2.2 hk_|exact hs_.1.1.2 hk_|exact hs_.1.1.1.2 hk_|exact tyap HO_7.out (by decide) hk_ hs_.2.2.2)) (fun k_ hk_=>HO_7.out.1 k_ hk_.1.symm));replace HO_8:=aM (Kd.R_mono (ok':=fun k_=>(P1_ k_\/w.heap.size<=k_)/\some k_≠(.slice (some ad717) t709.length co18:Value).ownBlock) (Kd.R_keptB (Kd.R_tight rfl HO_8.out) hkp (fun k_ hk_ hs_=>by first|exact hs_.1.2 hk_|exact hs_.1.2.1 hk_|exact hs_.1.2.2 hk_|exact hs_.1.1.2 hk_|exact hs_.1.1.1.2 hk_|exact tyap HO_8.out (by decide) hk_ hs_.2.2.2)) (fun k_ hk_=>HO_8.out.1 k_ hk_.1.symm));replace HK:=aM (Kept.then_ (S:=(fun k_=>P1_ k_)) qT hkp (fun k_ hs_=>by first|exact hs_.1.1|exact hs_.1.1.1|exact hs_.1));replace HB:=aM hb;(try clear hb);(try clear hkp);(try clear hy0)))
    (try simp only [<- hl1_2])
    go_roundg k2
    case measure=>have:=HK1.out;have:=HK2.out;omega
    exact⟨_,_,_,qZ,qZ,H',⟨by have:=HK1.out;have:=HK2.out;omega⟩,⟨by (try simp only [hl1_2]);(with_reducible repeat (first|apply Kd.S_alloc|apply Kd.S_drewN|apply Kd.S_drew));exact HO_1.out⟩,⟨by (try simp only [hl1_2]);(with_reducible repeat (first|apply Kd.R_alloc|apply Kd.R_drewN|apply Kd.R_drew));exact HO_7.out⟩,⟨by (try simp only [hl1_2]);(with_reducible repeat (first|apply Kd.R_alloc|apply Kd.R_drewN|apply Kd.R_drew));exact HO_8.out⟩,⟨qT⟩,⟨qB⟩⟩
   have H':=aM H
   clear H
   obtain⟨Ao21,co21,eo21⟩:=Kd.R_slice HO_7.out
   subst eo21
   have p717:0<=(x9_2:Int):=qD
   have q717:x9_2 < (t709.length:Int):=qD
   obtain⟨ad717,e717,hx717_0⟩:=Kd.at_int (Kd.R_reads' HO_7.out).2.2 x9_2 p717 q717
   cases e717
   replace p717:=eq_true p717
   replace q717:=eq_true q717
   obtain⟨Ao22,co22,eo22⟩:=Kd.R_slice HO_8.out
   subst eo22
   go_wp2_with (first|((with_reducible refine jc 118 46 rfl rfl ?_);refine jG Try.func118 #[.slice (some ad708) x1_2.length co10,.int .i64 (rd t709 x9_2),.slice Ao22 t714.length co22] ?_;(with_reducible refine (Sl34Carry.calls k2 ?P479_ (.slice (some ad708) x1_2.length co10) x1_2 (rd t709 x9_2) _ _ t714 false t719 w0 _ ?side1 ?side2 ?side3 ?side4 A16.out).mono ?_);(case side2=>exact Kd.S_bound HO_1.out);(case side1=>exact qB);(case side3=>exact Kd.C_kept_own (Kd.R_tight rfl HO_8.out) (fun k_ hk_ hs_=>by first|exact hs_.1.2 hk_|exact hs_.1.2.1 hk_|exact hs_.1.2.2 hk_|exact hs_.1.1.2 hk_|exact hs_.1.1.1.2 hk_|exact tyap HO_8.out (by decide) hk_ hs_.2.2.2));(case side4=>exact (Kd.R_reads' HO_8.out).2.1);rintro e w_0a ⟨rfl,hy0,hb,hkp⟩;refine⟨_,rfl,?_⟩;replace HO_1:=aM ((by first|exact Kd.S_mono (ok':=fun k_=>(((P1_ k_\/w.heap.size<=k_))/\(some k_≠(.slice (some ad717) t709.length co21:Value).ownBlock/\some k_≠(.slice Ao22 t714.length co22:Value).ownBlock))) hy0 (fun k_ h_=>Or.elim h_ (fun h_=>h_.1) (fun h_=>.inr (by first|exact Nat.le_trans HK.out.1 h_|exact Nat.le_trans (below_size HB.out) h_)))|exact Kd.S_mono (ok':=fun k_=>(((P1_ k_\/w.heap.size<=k_))/\(some k_≠(.slice (some ad717) t709.length co21:Value).ownBlock/\some k_≠(.slice Ao22 t714.length co22:Value).ownBlock))) hy0 (fun _ _=>trivial)|exact Kd.S_mono (ok':=fun k_=>(((P1_ k_\/w.heap.size<=k_))/\(some k_≠(.slice (some ad717) t709.length co21:Value).ownBlock/\some k_≠(.slice Ao22 t714.length co22:Value).ownBlock))) hy0 (fun k_ h_=>Or.elim h_ (fun h_=>h_.1) (fun h_=>⟨.inr (Nat.le_trans HK.out.1 h_),fun e_=>by have:=Kd.R_lt HO_7.out k_ e_.symm;omega⟩))|exact Kd.S_mono (ok':=fun k_=>(((P1_ k_\/w.heap.size<=k_))/\(some k_≠(.slice (some ad717) t709.length co21:Value).ownBlock/\some k_≠(.slice Ao22 t714.length co22:Value).ownBlock))) hy0 (fun k_ h_=>Or.elim h_ (fun h_=>h_.1) (fun h_=>⟨.inr (Nat.le_trans HK.out.1 h_),fun e_=>by have:=Kd.R_lt HO_8.out k_ e_.symm;omega⟩))|exact Kd.S_mono (ok':=fun k_=>(((P1_ k_\/w.heap.size<=k_))/\(some k_≠(.slice (some ad717) t709.length co21:Value).ownBlock/\some k_≠(.slice Ao22 t714.length co22:Value).ownBlock))) hy0 (fun k_ h_=>Or.elim h_ (fun h_=>h_.1) (fun h_=>⟨⟨.inr (Nat.le_trans HK.out.1 h_),fun e_=>by have:=Kd.R_lt HO_7.out k_ e_.symm;omega⟩,fun e_=>by have:=Kd.R_lt HO_8.out k_ e_.symm;omega⟩))|exact Kd.S_mono (ok':=fun k_=>(((P1_ k_\/w.heap.size<=k_))/\(some k_≠(.slice (some ad717) t709.length co21:Value).ownBlock/\some k_≠(.slice Ao22 t714.length co22:Value).ownBlock))) hy0 (fun k_ h_=>Or.elim h_ (fun h_=>h_.1) (fun h_=>⟨⟨.inr (Nat.le_trans HK.out.1 h_),fun e_=>by have:=Kd.R_lt HO_8.out k_ e_.symm;omega⟩,fun e_=>by have:=Kd.R_lt HO_7.out k_ e_.symm;omega⟩))|exact Kd.S_mono (ok':=fun k_=>(((P1_ k_\/w.heap.size<=k_))/\(some k_≠(.slice (some ad717) t709.length co21:Value).ownBlock/\some k_≠(.slice Ao22 t714.length co22:Value).ownBlock))) hy0 (fun k_ h_=>Or.elim h_ (fun h_=>h_.1) (fun h_=>⟨.inr (Nat.le_trans HK.out.1 h_),⟨fun e_=>by have:=Kd.R_lt HO_7.out k_ e_.symm;omega,fun e_=>by have:=Kd.R_lt HO_8.out k_ e_.symm;omega⟩⟩))|exact Kd.S_mono (ok':=fun k_=>(((P1_ k_\/w.heap.size<=k_))/\(some k_≠(.slice (some ad717) t709.length co21:Value).ownBlock/\some k_≠(.slice Ao22 t714.length co22:Value).ownBlock))) hy0 (fun k_ h_=>Or.elim h_ (fun h_=>h_.1) (fun h_=>⟨.inr (Nat.le_trans HK.out.1 h_),⟨fun e_=>by have:=Kd.R_lt HO_8.out k_ e_.symm;omega,fun e_=>by have:=Kd.R_lt HO_7.out k_ e_.symm;omega⟩⟩))));replace HO_7:=aM (Kd.R_mono (ok':=fun k_=>(P1_ k_\/w.heap.size<=k_)/\some k_≠(.slice Ao22 t714.length co22:Value).ownBlock) (Kd.R_keptB (Kd.R_tight rfl HO_7.out) hkp (fun k_ hk_ hs_=>by first|exact hs_.1.2 hk_|exact hs_.1.2.1 hk_|exact hs_.1.2.2 hk_|exact hs_.1.1.2 hk_|exact hs_.1.1.1.2 hk_|exact tyap HO_7.out (by decide) hk_ hs_.2.2.2)) (fun k_ hk_=>HO_7.out.1 k_ hk_.1.symm));replace HO_8:=aM (Kd.R_mono (ok':=fun k_=>(P1_ k_\/w.heap.size<=k_)/\some k_≠(.slice (some ad717) t709.length co21:Value).ownBlock) (Kd.R_keptB (Kd.R_tight rfl HO_8.out) hkp (fun k_ hk_ hs_=>by first|exact hs_.1.2 hk_|exact hs_.1.2.1 hk_|exact hs_.1.2.2 hk_|exact hs_.1.1.2 hk_|exact hs_.1.1.1.2 hk_|exact tyap HO_8.out (by decide) hk_ hs_.2.2.2)) (fun k_ hk_=>HO_8.out.1 k_ hk_.1.symm));replace HK:=aM (Kept.then_ (S:=(fun k_=>P1_ k_)) qT hkp (fun k_ hs_=>by first|exact hs_.1.1|exact hs_.1.1.1|exact hs_.1));replace HB:=aM hb;(try clear hb);(try clear hkp);(try clear hy0)))
   (try simp only [<- hl1_2])
   go_roundg k2
   case measure=>have:=HK1.out;have:=HK2.out;omega
   exact⟨_,_,_,qZ,qZ,H',⟨by have:=HK1.out;have:=HK2.out;omega⟩,⟨by (try simp only [hl1_2]);(with_reducible repeat (first|apply Kd.S_alloc|apply Kd.S_drewN|apply Kd.S_drew));exact HO_1.out⟩,⟨by (try simp only [hl1_2]);(with_reducible repeat (first|apply Kd.R_alloc|apply Kd.R_drewN|apply Kd.R_drew));exact HO_7.out⟩,⟨by (try simp only [hl1_2]);(with_reducible repeat (first|apply Kd.R_alloc|apply Kd.R_drewN|apply Kd.R_drew));exact HO_8.out⟩,⟨qT⟩,⟨qB⟩⟩
  have H':=aM H
  clear H
  obtain⟨Ao24,co24,eo24⟩:=Kd.R_slice HO_7.out
  subst eo24
  go_wp2
  (try simp only [<- hl1_2])
  go_roundg k2
  case measure=>have:=HK1.out;have:=HK2.out;omega
  exact⟨(x1_2),(x5_2),(wrap64 (x6_1+1)),qZ,qZ,H',⟨by have:=HK1.out;have:=HK2.out;omega⟩,⟨by (try simp only [hl1_2]);(with_reducible repeat (first|apply Kd.S_alloc|apply Kd.S_drewN|apply Kd.S_drew));exact Kd.S_mono HO_1.out (fun _ hk=>hk.1)⟩,⟨qT⟩,⟨qB⟩⟩
 simp only [Option.some.injEq,Prod.mk.injEq] at H
 obtain⟨rfl,rfl⟩:=H
 go_wp2
 go_ret
 exact⟨qW,qS HO_1,qB,qT⟩
mutual
def SCopiesOf.l0:Nat->List (S46)->List (List Int)->Int->Option ((List (List Int)))
 | 0,_,_,_=>none
 | k+1,x0,x3,x4=>if x4 < (x0.length:Int) then (if x3.length < 5864062014805 then (SCopiesOf.l0 k x0 (x3 ++ [(([]:List Int))]) (wrap64 (x4+1))) else (none)) else ((Sl34Self.f k).bind fun t730=>(if 0 < (x3.length:Int) then (SCopiesOf.l1 k x0 (x3.set (0:Int).toNat t730)) else (none)))
def SCopiesOf.l1:Nat->List (S46)->List (List Int)->Option ((List (List Int)))
 | 0,_,_=>none
 | k+1,x0,x3=>(Sl34Round.f k x0 x3).bind fun bt734=>(if bt734.1=true then (SCopiesOf.l1 k x0 bt734.2) else (SCopiesOf.l2 k x0 bt734.2 0))
def SCopiesOf.l2:Nat->List (S46)->List (List Int)->Int->Option ((List (List Int)))
 | 0,_,_,_=>none
 | k+1,x0,x3,x5=>if x5 < (x0.length:Int) then (if 0<=x5 then (if x5 < (x3.length:Int) then (if ((rd_L7 x3 x5).length:Int)=0 then ((Sl34Self.f k).bind fun t737=>(SCopiesOf.l2 k x0 (x3.set (x5:Int).toNat t737) (wrap64 (x5+1)))) else (SCopiesOf.l2 k x0 x3 (wrap64 (x5+1)))) else (none)) else (none)) else (some x3)
end
def SCopiesOf.f (k:Nat) (l0:List (S46)):Option ((List (List Int))):=(some (([]:List (List Int)):List (List Int))).bind fun y720=>((SCodeValid.f k l0).bind fun t723=>(if t723=true then (SCopiesOf.l0 k l0 y720 0) else (some y720)))
theorem SCopiesOf.mono_l:∀ k,(∀ y0 y1 y2,LeO (SCopiesOf.l0 k y0 y1 y2) (SCopiesOf.l0 (k+1) y0 y1 y2))/\(∀ y0 y1,LeO (SCopiesOf.l1 k y0 y1) (SCopiesOf.l1 (k+1) y0 y1))/\(∀ y0 y1 y2,LeO (SCopiesOf.l2 k y0 y1 y2) (SCopiesOf.l2 (k+1) y0 y1 y2))
 | 0=>⟨fun _ _ _ r h=>by simp [SCopiesOf.l0] at h,fun _ _ r h=>by simp [SCopiesOf.l1] at h,fun _ _ _ r h=>by simp [SCopiesOf.l2] at h⟩
 | k+1=>by
  obtain⟨ih0,ih1,ih2⟩:=SCopiesOf.mono_l k;have m0:=@SCodeValid.mono;have m1:=@Sl34Round.mono;have m2:=@Sl34Self.mono
  exact⟨by intros;unfold SCopiesOf.l0;exact mM,by intros;unfold SCopiesOf.l1;exact mM,by intros;unfold SCopiesOf.l2;exact mM⟩
theorem SCopiesOf.mono:∀ a0 k,LeO (SCopiesOf.f k a0) (SCopiesOf.f (k+1) a0):=by
 intro a0 k;obtain⟨ih0,ih1,ih2⟩:=SCopiesOf.mono_l k;unfold SCopiesOf.f;have m0:=@SCodeValid.mono;have m1:=@Sl34Round.mono;have m2:=@Sl34Self.mono;exact mM
theorem SCopiesOf.calls (k:Nat) (A0:Option Addr) (c0:Nat) (l0:List (S46)) (r:List (List Int)) (w:World) (hr0:Kd.C k46 w A0 l0.length l0) (hc0:l0.length<=c0) (h:SCopiesOf.f k l0=some r) :
  Calls Try.prog 86 #[.slice A0 l0.length c0] w fun e w'=>∃ v0_:Value,e = .returned (v0_)/\Kd.S (Kd.slice 3 (Kd.int .i64)) 31 w' w.heap.size (fun _=>True) v0_ r/\Below w.heap.size w w':=by
 have HR0:=aM hr0
 have HC0:=aM hc0
 clear hr0 hc0
 have HB:=aM (Below.refl w.heap.size w)
 have H:=h;unfold SCopiesOf.f at H
 clear h
 obtain⟨y720,Ny720⟩:=ky ((([]:List (List Int))):List (List Int))
 first|replace H:=kz Ny720 H|rw [<- Ny720.out] at H
 obtain⟨t723,A2,H⟩:=qE H
 try dsimp only at H
 replace H:=jB H;rcases H with ⟨rfl,H⟩ | ⟨rfl,H⟩
 ·have H':=aM H
  clear H
  go_enter Try.func86,Try.ntmps86
  go_wp2_with (first|((with_reducible refine jd 6 rfl ?_);refine Kd.S_lit (Kd.slice 3 (Kd.int .i64)) _ 31 ?hg (N:=6) ?hd (xs:=([]:List (List Int))) (inner:=[]) (ok:=fun _=>True) (okp:=fun _=>True) ?hr ?hp (fun _ hk=>hk) trivial (Below.refl _ _) (Nat.le_refl _) (by simp) ?_;(case hd=>rfl);(case hg=>rfl);(case hr=>first|(go_simp;done)|(go_simp;rfl));(case hp=>exact (Reps.none _ _));intro v721 w4 ho5 hb hg_ hnew_;clear hg_ hnew_;(first|rw [<- Ny720.out] at ho5|(simp only [Int.reduceToNat] at ho5;rw [<- Ny720.out] at ho5));have HO722:=aM (Kd.S_lower ho5 (below_size qB));replace HB:=kH hb;clear hb ho5)|((with_reducible refine jc 29 8 rfl rfl ?_);refine jG Try.func29 #[.slice A0 l0.length c0] ?_;(with_reducible refine (SCodeValid.calls k _ _ l0 true _ ?side1 ?side2 A2.out).mono ?_);(case side1=>exact kC (Kd.C_below HR0.out HB.out));(case side2=>exact HC0.out);rintro e w6 ⟨rfl,hb⟩;refine⟨_,rfl,?_⟩;replace HO722:=kS HO722 hb;replace HB:=kH hb;clear hb))
  go_loopg [3,4] k (fun kq v3 v4 w'=>∃ (x3_1:List (List Int)) (x4_1:Int),v4 = .int .i64 x4_1/\Aside0 (SCopiesOf.l0 kq l0 x3_1 x4_1=some r)/\Aside0 (kq<=k)/\Aside0 (Kd.S (Kd.slice 3 (Kd.int .i64)) 31 w' w.heap.size (fun _=>True) v3 x3_1)/\Aside0 (Below w.heap.size w w'))
  case atStart=>exact⟨(y720),(0),qZ,H',⟨Nat.le_refl _⟩,⟨qS HO722⟩,⟨qB⟩⟩
  clear H'
  obtain⟨x3_1,x4_1,rfl,HA,HK1,HO_3,HB⟩:=hrel
  rcases gk with _|k1
  ·exact absurd HA.out (by simp [SCopiesOf.l0])
  have H:=HA.out
  clear HA
  simp only [SCopiesOf.l0] at H
  replace H:=jD H;rcases H with ⟨c7b0,H⟩ | ⟨c7b0,H⟩
  ·obtain⟨y724,Ny724⟩:=ky ((([]:List Int)):List Int)
   first|replace H:=kz Ny724 H|rw [<- Ny724.out] at H
   replace H:=jL H;obtain⟨LMc8,H⟩:=H
   obtain⟨y727,Ny727⟩:=ky ((x3_1 ++ [y724]):List (List Int))
   first|replace H:=kz Ny727 H|rw [<- Ny727.out] at H
   have H':=aM H
   clear H
   go_wp2_with (first|((with_reducible refine jd 18 rfl ?_);refine jV (Kd.int .i64) 3 ([]:List Int) [] (Reps.none _ _) ?_;intro v725 w_0a h_0b hb;(first|rw [<- Ny724.out] at h_0b|(simp only [Int.reduceToNat] at h_0b;rw [<- Ny724.out] at h_0b));have HO726:=kL h_0b;replace HO_3:=aM (Kd.S_elder' (qS HO_3) (Kd.R_base h_0b) hb);replace HB:=kH hb;clear hb h_0b;obtain⟨A_0c,c_0d,e_0e⟩:=Kd.R_slice HO726.out;subst e_0e)|((with_reducible refine gate_builtin (b:=.append) (xs:=#[.tmp 17,.tmp 19]) rfl ?_);at_builtin;refine Kd.S_append (Kd.slice 3 (Kd.int .i64)) (w0:=w) w.heap.size rfl (.tmp 17) (.tmp 19) 92 31 (.slice none 0 0) 24 rfl Try.underlying92 info31 rfl (by decide) (by omega) u3 x3_1 y724 [.slice A_0c y724.length c_0d] (fun _=>True) (fun k_=>some k_=(.slice A_0c y724.length c_0d:Value).ownBlock) rfl rfl ?aP (fun k_ hk_=>((Kd.R_mono (ok':=fun k_=>((fun _=>True)) k_/\some k_≠(u3:Value).ownBlock) (Kd.R_apart' (HO726.out) (Kd.S_typed HO_3.out) (by decide)) (fun k_ hk=>⟨trivial,hk.2⟩))).1 k_ hk_.symm) ?aF ?aO ?aB ?aS ?aL ?_;(case aP=>exact Kd.M_row (Kd.R_mono (Kd.R_tight rfl (Kd.R_mono (ok':=fun k_=>((fun _=>True)) k_/\some k_≠(u3:Value).ownBlock) (Kd.R_apart' (HO726.out) (Kd.S_typed HO_3.out) (by decide)) (fun k_ hk=>⟨trivial,hk.2⟩))) (fun _ h_=>h_)));(case aB=>exact qB);(case aF=>exact (fun _ _=>trivial));(case aO=>exact (by (with_reducible repeat (first|apply Kd.S_alloc|apply Kd.S_drewN|apply Kd.S_drew));exact Kd.S_mono HO_3.out (by first|exact fun k_ hk=>⟨trivial,fun e_=>hk.2 e_⟩|exact fun k_ hk=>hk)));(case aS=>exact (below_size qB));(case aL=>have:=LMc8.out;omega);intro v728 w_1a ho hb hg hat;rw [<- Ny727.out] at ho;have HO729:=aM ho;replace HB:=aM hb;clear HO_3 HO726;clear ho hb hg hat))
   go_roundg k1
   case measure=>have:=HK1.out;omega
   exact⟨_,_,qZ,H',⟨by have:=HK1.out;omega⟩,⟨qS HO729⟩,⟨qB⟩⟩
  obtain⟨t730,A13,H⟩:=qE H
  try dsimp only at H
  replace H:=jU H;obtain⟨c14,H⟩:=H
  have c14b0:=decide_eq_true c14
  have c14b1:decide (0 < x3_1.length)=true:=decide_eq_true (by omega)
  clear c14
  obtain⟨y733,Ny733⟩:=ky ((x3_1.set (0:Int).toNat t730):List (List Int))
  first|replace H:=kz Ny733 H|rw [<- Ny733.out] at H
  have H':=aM H
  clear H
  go_wp2_with (first|((with_reducible refine jc 107 22 rfl rfl ?_);refine jG Try.func107 #[] ?_;(with_reducible refine (Sl34Self.calls k1  t730 _ A13.out).mono ?_);rintro e w16 ⟨v731,rfl,ho0,hb⟩;refine⟨_,rfl,?_⟩;have HO732:=kL ho0;replace HO_3:=aM (Kd.S_elder' (qS HO_3) (Kd.R_base ho0) hb);replace HB:=kH hb;clear hb;(try clear hk);(try clear ho0);obtain⟨Aoz,coz,eoz⟩:=Kd.R_slice HO732.out;subst eoz;have p15:0<=(0:Int):=(by omega);have q15:(0:Int) < ((x3_1.length:Int):Int):=qD;have qi15:(0 < x3_1.length)=True:=eq_true (by omega);obtain⟨go15,co15,eo15,gb15,gl15,cl15,HG15⟩:=Kd.S_form HO_3.out (by omega);(first|cases eo15|(injection eo15 with ea_ en_ ec_;(first|subst ea_|(injection ea_ with ea_;subst ea_));subst ec_;clear en_));have GB15:=aM gb15;have GG15:=aM HG15;clear gb15 gl15 HG15;obtain⟨_,ce15,hcl15,hM15,hcc15,hfr15,_,_⟩:=Kd.S_elem HO_3.out [] (0:Int) p15 q15;obtain⟨ve15_0,rfl,ge15_0⟩:=hM15;have hx15_0:=hcc15 0 _ rfl;have hf15_0:=hfr15 0;(try simp only [show ((Kd.slice 3 (Kd.int .i64))).sz=1 from rfl,Nat.mul_one,Nat.add_zero] at hx15_0);(try simp only [show ((Kd.slice 3 (Kd.int .i64))).sz=1 from rfl,Nat.mul_one,Nat.add_zero] at hf15_0);clear hcl15 hcc15 hfr15;(try clear hM15);(try rw [show ((0:Int)).toNat=0 from rfl] at hx15_0);(try simp only [Nat.reduceMul,Nat.zero_mul,Nat.zero_add,Nat.reduceAdd] at hx15_0);(try rw [show ((0:Int)).toNat=0 from rfl] at hf15_0);(try simp only [Nat.reduceMul,Nat.zero_mul,Nat.zero_add,Nat.reduceAdd] at hf15_0);replace p15:=eq_true p15;replace q15:=eq_true q15;have n_:=aM (Kd.S_mono (ok':=(fun k_=>some k_≠((.slice Aoz t730.length coz):Value).ownBlock)) HO_3.out (fun k_ hk=>hk.2));clear HO_3;have HO_3:=n_;clear n_;have HX17:=aM (show Kd.S (Kd.slice 3 (Kd.int .i64)) 31 w16 w.heap.size (fun k_=>((fun _=>True)) k_/\¬ ((fun k_=>some k_=((.slice Aoz t730.length coz):Value).ownBlock)) k_) (.slice (some ⟨go15,0,none⟩) x3_1.length co15) x3_1 from (by (with_reducible repeat (first|apply Kd.S_alloc|apply Kd.S_drewN|apply Kd.S_drew));exact Kd.S_mono HO_3.out (by first|exact fun k_ hk=>⟨trivial,fun e_=>hk e_⟩|exact fun k_ hk=>hk)));obtain⟨oki17,ce17,hcl17,hM17,hcc17,hfr17,hoki17,hH17⟩:=Kd.S_elem HX17.out [] (0:Int) (by omega) (by have h_:(0:Int) < ((x3_1.length:Int):Int):=qD;first|exact h_|(have e_:=(Kd.S_reads' HO_3.out).1;omega)|simpa using h_);obtain⟨ve17_0,rfl,ge17_0⟩:=hM17;have HP17:=Kd.S_seg hH17 (by omega) (by have h_:(0:Int) < ((x3_1.length:Int):Int):=qD;first|exact h_|(have e_:=(Kd.S_reads' HO_3.out).1;omega)|simpa using h_) (seg:=[(.slice Aoz t730.length coz)]) (j:=0) (show 1<=1 from by decide) (x':=t730) (Kd.M_row (Kd.R_mono (Kd.R_tight rfl (Kd.R_mono (ok':=fun k_=>((fun _=>True)) k_/\k_≠go15) (Kd.R_apart' (HO732.out) (Kd.S_typed HO_3.out) (by decide)) (fun k_ hk=>⟨trivial,fun e_=>(hk.2) (by rw [e_];rfl)⟩))) (fun _ h_=>Or.inr (h_)))) (fun _ hk=>hk) (fun k_ hk_=>((Kd.R_mono (ok':=fun k_=>((fun _=>True)) k_/\k_≠go15) (Kd.R_apart' (HO732.out) (Kd.S_typed HO_3.out) (by decide)) (fun k_ hk=>⟨trivial,fun e_=>(hk.2) (by rw [e_];rfl)⟩))).1 k_ hk_.symm);have hx17_0:=hcc17 0 _ rfl;(try simp only [show ((Kd.slice 3 (Kd.int .i64))).sz=1 from rfl,Nat.mul_one,Nat.add_zero] at hx17_0);(try rw [show ((0:Int)).toNat=0 from rfl] at hx17_0);(try simp only [Nat.reduceMul,Nat.zero_mul,Nat.zero_add,Nat.reduceAdd] at hx17_0);have hf17_0:=hfr17 0;(try simp only [show ((Kd.slice 3 (Kd.int .i64))).sz=1 from rfl,Nat.mul_one,Nat.add_zero] at hf17_0);(try rw [show ((0:Int)).toNat=0 from rfl] at hf17_0);(try simp only [Nat.reduceMul,Nat.zero_mul,Nat.zero_add,Nat.reduceAdd] at hf17_0);clear hcl17 hcc17 hfr17 hoki17 hH17;(try clear hM17);(try simp only [show ((Kd.slice 3 (Kd.int .i64))).sz=1 from rfl,Nat.mul_one,Nat.add_zero] at HP17))|((with_reducible refine gate_store (t:=31) (p:=23) rfl ?_);refine store_event (t:=31) (p:=23) (v:=?vo_w18) (w1:=(w16.setCell ⟨go15,0,none⟩ ((.slice Aoz t730.length coz)))) ?hg ?ho ?hn ?hr ?_;(case ho=>rfl);(case hg=>rfl);(case hn=>rfl);(case hr=>first|(go_simp;done)|(go_simp;rfl));intro w18 hw;have hg:w16.grownBy w18 (some go15):=(by rw [hw];exact HP17.2);have hp_:Kd.S (Kd.slice 3 (Kd.int .i64)) 31 w18 w.heap.size (fun _=>True) (.slice (some ⟨go15,0,none⟩) x3_1.length co15) y733:=(by rw [hw,Ny733.out];exact HP17.1);clear HP17;replace HO_3:=aM hp_;replace HB:=aM ((by rw [hw];exact below_set (HB.out) GB15.out:Below w.heap.size w w18));clear HO732;clear hg hw hp_))
  go_loopg [] k1 (fun kq w'=>∃ (x3_2:List (List Int)),Aside0 (SCopiesOf.l1 kq l0 x3_2=some r)/\Aside0 (kq<=k1)/\Aside0 (Kd.S (Kd.slice 3 (Kd.int .i64)) 31 w' w.heap.size (fun _=>True) (.slice (some ⟨go15,0,none⟩) x3_1.length co15) x3_2)/\Aside0 (Below w.heap.size w w'))
  case atStart=>exact⟨(y733),H',⟨Nat.le_refl _⟩,⟨qS HO_3⟩,⟨qB⟩⟩
  clear H'
  try clear c7b0;try clear c14;try clear c14b0;try clear c14b1;try clear p15;try clear q15;try clear qi15;try clear hx15_0;try clear hx17_0
  obtain⟨x3_2,HA,HK2,HO_3,HB⟩:=hrel
  have hl3_2:=(Kd.S_reads' HO_3.out).1
  rw [hl3_2] at HO_3
  (try simp only [hl3_2])
  rcases gk with _|k2
  ·exact absurd HA.out (by simp [SCopiesOf.l1])
  have H:=HA.out
  clear HA
  simp only [SCopiesOf.l1] at H
  obtain⟨⟨t734,t735⟩,A19,H⟩:=qE H
  try dsimp only at H
  replace H:=jB H;rcases H with ⟨rfl,H⟩ | ⟨rfl,H⟩
  ·have H':=aM H
   clear H
   go_wp2_with (first|((with_reducible refine jc 108 26 rfl rfl ?_);refine jG Try.func108 #[.slice A0 l0.length c0,.slice (some ⟨go15,0,none⟩) x3_2.length co15] ?_;(with_reducible refine (Sl34Round.calls k2 _ _ l0 ?P264_ (.slice (some ⟨go15,0,none⟩) x3_2.length co15) x3_2 true t735 w _ ?side1 ?side2 ?side3 ?side4 A19.out).mono ?_);(case side4=>exact Kd.S_bound HO_3.out);(case side1=>exact qB);(case side2=>exact Kd.C_kept_came k46_heap HR0.out qB (fun k_ hs_=>(by first|exact Kd.R_base HO_3.out k_ hs_.symm|exact hs_.2.1)));(case side3=>exact HC0.out);rintro e w_2a ⟨rfl,hy0,hb,hkp⟩;refine⟨_,rfl,?_⟩;replace HO_3:=aM ((by first|exact Kd.S_mono (ok':=fun k_=>True) hy0 (fun k_ h_=>Or.elim h_ (fun h_=>h_.1) (fun h_=>.inr (by first|exact Nat.le_trans HK.out.1 h_|exact Nat.le_trans (below_size HB.out) h_)))|exact Kd.S_mono (ok':=fun k_=>True) hy0 (fun _ _=>trivial)));replace HB:=aM hb;(try clear hb);(try clear hkp);(try clear hy0)))
   (try simp only [<- hl3_2])
   go_roundg k2
   case measure=>have:=HK1.out;have:=HK2.out;omega
   exact⟨_,H',⟨by have:=HK1.out;have:=HK2.out;omega⟩,⟨by (try simp only [hl3_2]);(with_reducible repeat (first|apply Kd.S_alloc|apply Kd.S_drewN|apply Kd.S_drew));exact HO_3.out⟩,⟨qB⟩⟩
  have H':=aM H
  clear H
  go_wp2_with (first|((with_reducible refine jc 108 26 rfl rfl ?_);refine jG Try.func108 #[.slice A0 l0.length c0,.slice (some ⟨go15,0,none⟩) x3_2.length co15] ?_;(with_reducible refine (Sl34Round.calls k2 _ _ l0 ?P277_ (.slice (some ⟨go15,0,none⟩) x3_2.length co15) x3_2 false t735 w _ ?side1 ?side2 ?side3 ?side4 A19.out).mono ?_);(case side4=>exact Kd.S_bound HO_3.out);(case side1=>exact qB);(case side2=>exact Kd.C_kept_came k46_heap HR0.out qB (fun k_ hs_=>(by first|exact Kd.R_base HO_3.out k_ hs_.symm|exact hs_.2.1)));(case side3=>exact HC0.out);rintro e w22 ⟨rfl,hy0,hb,hkp⟩;refine⟨_,rfl,?_⟩;replace HO_3:=aM ((by first|exact Kd.S_mono (ok':=fun k_=>True) hy0 (fun k_ h_=>Or.elim h_ (fun h_=>h_.1) (fun h_=>.inr (by first|exact Nat.le_trans HK.out.1 h_|exact Nat.le_trans (below_size HB.out) h_)))|exact Kd.S_mono (ok':=fun k_=>True) hy0 (fun _ _=>trivial)));replace HB:=aM hb;(try clear hb);(try clear hkp);(try clear hy0)))
  go_loopg [5] k2 (fun kq v5 w'=>∃ (x3_3:List (List Int)) (x5_3:Int),v5 = .int .i64 x5_3/\Aside0 (SCopiesOf.l2 kq l0 x3_3 x5_3=some r)/\Aside0 (kq<=k2)/\Aside0 (Kd.S (Kd.slice 3 (Kd.int .i64)) 31 w' w.heap.size (fun _=>True) (.slice (some ⟨go15,0,none⟩) x3_2.length co15) x3_3)/\Aside0 (Below w.heap.size w w'))
  case atStart=>exact⟨(t735),(0),qZ,H',⟨Nat.le_refl _⟩,⟨by (try simp only [hl3_2]);(with_reducible repeat (first|apply Kd.S_alloc|apply Kd.S_drewN|apply Kd.S_drew));exact HO_3.out⟩,⟨qB⟩⟩
  clear H'
  try clear c7b0;try clear c14;try clear c14b0;try clear c14b1;try clear p15;try clear q15;try clear qi15;try clear hx15_0;try clear hx17_0
  obtain⟨x3_3,x5_3,rfl,HA,HK3,HO_3,HB⟩:=hrel
  have hl3_3:=(Kd.S_reads' HO_3.out).1
  rw [hl3_3] at HO_3
  (try simp only [hl3_3])
  rcases gk with _|k3
  ·exact absurd HA.out (by simp [SCopiesOf.l2])
  have H:=HA.out
  clear HA
  simp only [SCopiesOf.l2] at H
  replace H:=jD H;rcases H with ⟨c23b0,H⟩ | ⟨c23b0,H⟩
  ·replace H:=jI H;obtain⟨c24b0,H⟩:=H
   replace H:=jI H;obtain⟨c25b0,H⟩:=H
   replace H:=jE H;rcases H with ⟨c26b0,c26b1,H⟩ | ⟨c26,c26b0,c26b1,H⟩
   ·obtain⟨t737,A27,H⟩:=qE H
    try dsimp only at H
    obtain⟨y740,Ny740⟩:=ky ((x3_3.set (x5_3:Int).toNat t737):List (List Int))
    first|replace H:=kz Ny740 H|rw [<- Ny740.out] at H
    have H':=aM H
    clear H
    have p736:0<=(x5_3:Int):=qD
    have q736:x5_3 < (x3_3.length:Int):=qD
    obtain⟨ad736,A736_0,c736_0,e736,hx736_0,hl736_0,hi736_0⟩:=at_L7 (Kd.S_reads' HO_3.out).2.2 x5_3 p736 q736
    obtain rfl:(⟨go15,0,none⟩:Addr)=ad736:=(by injection e736)
    obtain⟨ce736,hce736,hMe736,hcc736⟩:=Kd.S_get HO_3.out [] x5_3 p736 (by first|exact q736|exact qD|(have e_:=(Kd.S_reads' HO_3.out).1;omega))
    obtain⟨ve736_0,rfl,ge736_0⟩:=hMe736
    have hv736_0:=hcc736 0 _ rfl
    rw [Nat.add_zero,show ((Kd.slice 3 (Kd.int .i64))).sz=1 from rfl,Nat.mul_one] at hv736_0
    replace hv736_0:=Option.some.inj (hv736_0.symm.trans hx736_0)
    rw [hv736_0] at ge736_0
    have HL736_0:=aM (show Kd.R (Kd.int .i64) 3 _ _ _ _ (rd_L7 x3_3 x5_3) from ge736_0)
    clear hv736_0 ge736_0
    clear hcc736 hce736
    (first|simp only [add_plain] at hx736_0|simp only [add_at] at hx736_0|simp only [Addr.add,Nat.zero_add] at hx736_0|skip)
    have HR736_0:=aM hi736_0
    have HC736_0:=aM hl736_0
    clear hi736_0 hl736_0
    replace p736:=eq_true p736
    replace q736:=eq_true q736
    go_wp2_with (first|((with_reducible refine jc 107 41 rfl rfl ?_);refine jG Try.func107 #[] ?_;(with_reducible refine (Sl34Self.calls _ _ _ (Aside0.out (by assumption))).mono ?_);rintro e w_3a ⟨v738,rfl,ho0,hb⟩;refine⟨_,rfl,?_⟩;have HO739:=aM (Kd.R_lower (Kd.R_new' ho0 (Kd.R_lt (qR HL736_0))) (below_size qB));replace HO_3:=aM (Kd.S_elder' (qS HO_3) (Kd.R_base ho0) hb);replace HL736_0:=kO HL736_0 ho0 hb;replace HR736_0:=kQ HR736_0 hb;replace HB:=kH hb;clear hb;(try clear hk);(try clear ho0);obtain⟨Aoz,coz,eoz⟩:=Kd.R_slice HO739.out;subst eoz;have p28:0<=(x5_3:Int):=qD;have q28:(x5_3:Int) < ((x3_3.length:Int):Int):=qD;obtain⟨_,ce28,hcl28,hM28,hcc28,hfr28,_,_⟩:=Kd.S_elem HO_3.out [] (x5_3:Int) p28 q28;obtain⟨ve28_0,rfl,ge28_0⟩:=hM28;have hx28_0:=hcc28 0 _ rfl;have hf28_0:=hfr28 0;(try simp only [show ((Kd.slice 3 (Kd.int .i64))).sz=1 from rfl,Nat.mul_one,Nat.add_zero] at hx28_0);(try simp only [show ((Kd.slice 3 (Kd.int .i64))).sz=1 from rfl,Nat.mul_one,Nat.add_zero] at hf28_0);clear hcl28 hcc28 hfr28;(try clear hM28);replace p28:=eq_true p28;replace q28:=eq_true q28;have n_:=aM (Kd.S_mono (ok':=(fun k_=>some k_≠((.slice Aoz t737.length coz):Value).ownBlock)) HO_3.out (fun k_ hk=>hk.2));clear HO_3;have HO_3:=n_;clear n_;have HX30:=aM (show Kd.S (Kd.slice 3 (Kd.int .i64)) 31 w_3a w.heap.size (fun k_=>((fun _=>True)) k_/\¬ ((fun k_=>some k_=((.slice Aoz t737.length coz):Value).ownBlock)) k_) (.slice (some ⟨go15,0,none⟩) x3_3.length co15) x3_3 from (by (with_reducible repeat (first|apply Kd.S_alloc|apply Kd.S_drewN|apply Kd.S_drew));exact Kd.S_mono HO_3.out (by first|exact fun k_ hk=>⟨trivial,fun e_=>hk e_⟩|exact fun k_ hk=>hk)));obtain⟨oki30,ce30,hcl30,hM30,hcc30,hfr30,hoki30,hH30⟩:=Kd.S_elem HX30.out [] (x5_3:Int) (qD) (by have h_:(x5_3:Int) < ((x3_3.length:Int):Int):=qD;first|exact h_|(have e_:=(Kd.S_reads' HO_3.out).1;omega)|simpa using h_);obtain⟨ve30_0,rfl,ge30_0⟩:=hM30;have HP30:=Kd.S_seg hH30 (qD) (by have h_:(x5_3:Int) < ((x3_3.length:Int):Int):=qD;first|exact h_|(have e_:=(Kd.S_reads' HO_3.out).1;omega)|simpa using h_) (seg:=[(.slice Aoz t737.length coz)]) (j:=0) (show 1<=1 from by decide) (x':=t737) (Kd.M_row (Kd.R_mono (Kd.R_tight rfl (Kd.R_mono (ok':=fun k_=>((fun _=>True)) k_/\k_≠go15) (Kd.R_apart' (HO739.out) (Kd.S_typed HO_3.out) (by decide)) (fun k_ hk=>⟨trivial,fun e_=>(hk.2) (by rw [e_];rfl)⟩))) (fun _ h_=>Or.inr (h_)))) (fun _ hk=>hk) (fun k_ hk_=>((Kd.R_mono (ok':=fun k_=>((fun _=>True)) k_/\k_≠go15) (Kd.R_apart' (HO739.out) (Kd.S_typed HO_3.out) (by decide)) (fun k_ hk=>⟨trivial,fun e_=>(hk.2) (by rw [e_];rfl)⟩))).1 k_ hk_.symm);have hx30_0:=hcc30 0 _ rfl;(try simp only [show ((Kd.slice 3 (Kd.int .i64))).sz=1 from rfl,Nat.mul_one,Nat.add_zero] at hx30_0);have hf30_0:=hfr30 0;(try simp only [show ((Kd.slice 3 (Kd.int .i64))).sz=1 from rfl,Nat.mul_one,Nat.add_zero] at hf30_0);clear hcl30 hcc30 hfr30 hoki30 hH30;(try clear hM30);(try simp only [show ((Kd.slice 3 (Kd.int .i64))).sz=1 from rfl,Nat.mul_one,Nat.add_zero] at HP30))|((with_reducible refine gate_store (t:=31) (p:=42) rfl ?_);refine store_event (t:=31) (p:=42) (v:=?vo_w31) (w1:=(w_3a.setCell ⟨go15,(x5_3:Int).toNat,none⟩ ((.slice Aoz t737.length coz)))) ?hg ?ho ?hn ?hr ?_;(case ho=>rfl);(case hg=>rfl);(case hn=>rfl);(case hr=>first|(go_simp;done)|(go_simp;rfl));intro w_4a hw;have hg:w_3a.grownBy w_4a (some go15):=(by rw [hw];exact HP30.2);have hp_:Kd.S (Kd.slice 3 (Kd.int .i64)) 31 w_4a w.heap.size (fun _=>True) (.slice (some ⟨go15,0,none⟩) x3_3.length co15) y740:=(by rw [hw,Ny740.out];exact HP30.1);clear HP30;replace HO_3:=aM hp_;replace HL736_0:=aM (Kd.R_after (v:=(.slice (some ⟨go15,0,none⟩) x3_3.length co15)) (v1:=(.slice (some ⟨go15,0,none⟩) x3_3.length co15)) (ok:=(fun k_=>some k_≠((.slice Aoz t737.length coz):Value).ownBlock)) (by (with_reducible repeat (first|apply Kd.R_alloc|apply Kd.R_drewN|apply Kd.R_drew));exact Kd.R_mono HL736_0.out (fun _ hk=>⟨hk.2,hk.1.2⟩)) hg (.inl rfl));replace HB:=aM ((by rw [hw];exact below_set (HB.out) GB15.out:Below w.heap.size w w_4a));clear HO739;clear hg hw hp_))
    (try simp only [<- hl3_3])
    go_roundg k3
    case measure=>have:=HK1.out;have:=HK2.out;have:=HK3.out;omega
    exact⟨_,_,qZ,H',⟨by have:=HK1.out;have:=HK2.out;have:=HK3.out;omega⟩,⟨by (try simp only [hl3_2]);(try simp only [hl3_3]);(with_reducible repeat (first|apply Kd.S_alloc|apply Kd.S_drewN|apply Kd.S_drew));exact HO_3.out⟩,⟨qB⟩⟩
   have c26b2:¬ ((rd_L7 x3_3 x5_3)=[]):=fun h_=>c26 (by rw [h_];rfl)
   have H':=aM H
   clear H
   have p736:0<=(x5_3:Int):=qD
   have q736:x5_3 < (x3_3.length:Int):=qD
   obtain⟨ad736,A736_0,c736_0,e736,hx736_0,hl736_0,hi736_0⟩:=at_L7 (Kd.S_reads' HO_3.out).2.2 x5_3 p736 q736
   obtain rfl:(⟨go15,0,none⟩:Addr)=ad736:=(by injection e736)
   obtain⟨ce736,hce736,hMe736,hcc736⟩:=Kd.S_get HO_3.out [] x5_3 p736 (by first|exact q736|exact qD|(have e_:=(Kd.S_reads' HO_3.out).1;omega))
   obtain⟨ve736_0,rfl,ge736_0⟩:=hMe736
   have hv736_0:=hcc736 0 _ rfl
   rw [Nat.add_zero,show ((Kd.slice 3 (Kd.int .i64))).sz=1 from rfl,Nat.mul_one] at hv736_0
   replace hv736_0:=Option.some.inj (hv736_0.symm.trans hx736_0)
   rw [hv736_0] at ge736_0
   have HL736_0:=aM (show Kd.R (Kd.int .i64) 3 _ _ _ _ (rd_L7 x3_3 x5_3) from ge736_0)
   clear hv736_0 ge736_0
   clear hcc736 hce736
   (first|simp only [add_plain] at hx736_0|simp only [add_at] at hx736_0|simp only [Addr.add,Nat.zero_add] at hx736_0|skip)
   have HR736_0:=aM hi736_0
   have HC736_0:=aM hl736_0
   clear hi736_0 hl736_0
   replace p736:=eq_true p736
   replace q736:=eq_true q736
   go_wp2
   (try simp only [<- hl3_3])
   go_roundg k3
   case measure=>have:=HK1.out;have:=HK2.out;have:=HK3.out;omega
   exact⟨(x3_3),(wrap64 (x5_3+1)),qZ,H',⟨by have:=HK1.out;have:=HK2.out;have:=HK3.out;omega⟩,⟨by (try simp only [hl3_2]);(try simp only [hl3_3]);(with_reducible repeat (first|apply Kd.S_alloc|apply Kd.S_drewN|apply Kd.S_drew));exact HO_3.out⟩,⟨qB⟩⟩
  obtain rfl:=Option.some.inj H
  go_wp2
  go_ret
  exact⟨_,by first|rfl|(simp [errW_none,errW_some] <;> rfl)|(simp [*,errW_none,errW_some] <;> rfl),qS HO_3,qB⟩
 obtain rfl:=Option.some.inj H
 go_enter Try.func86,Try.ntmps86
 go_wp2_with (first|((with_reducible refine jd 6 rfl ?_);refine Kd.S_lit (Kd.slice 3 (Kd.int .i64)) _ 31 ?hg (N:=6) ?hd (xs:=([]:List (List Int))) (inner:=[]) (ok:=fun _=>True) (okp:=fun _=>True) ?hr ?hp (fun _ hk=>hk) trivial (Below.refl _ _) (Nat.le_refl _) (by simp) ?_;(case hd=>rfl);(case hg=>rfl);(case hr=>first|(go_simp;done)|(go_simp;rfl));(case hp=>exact (Reps.none _ _));intro v721 w_5a h_5b hb hg_ hnew_;clear hg_ hnew_;(first|rw [<- Ny720.out] at h_5b|(simp only [Int.reduceToNat] at h_5b;rw [<- Ny720.out] at h_5b));have HO722:=aM (Kd.S_lower h_5b (below_size qB));replace HB:=kH hb;clear hb h_5b)|((with_reducible refine jc 29 8 rfl rfl ?_);refine jG Try.func29 #[.slice A0 l0.length c0] ?_;(with_reducible refine (SCodeValid.calls k _ _ l0 false _ ?side1 ?side2 A2.out).mono ?_);(case side1=>exact kC (Kd.C_below HR0.out HB.out));(case side2=>exact HC0.out);rintro e w_6a ⟨rfl,hb⟩;refine⟨_,rfl,?_⟩;replace HO722:=kS HO722 hb;replace HB:=kH hb;clear hb))
 go_ret
 exact⟨_,by first|rfl|(simp [errW_none,errW_some] <;> rfl)|(simp [*,errW_none,errW_some] <;> rfl),qS HO722,qB⟩
def Sl34Read.j0:Nat->List Int->Int->Bool->Int->Int->Int->Int->Int->Option (Int × Int × Int × Int × Int)
 | 0,_,_,_,_,_,_,_,_=>none
 | k+1,x1,x6,x7,xa,xb,xc,xd,xe=>if x7=true then (if 0<=xc then (if xc < (x1.length:Int) then (some (xa,xb,rd x1 xc,xd,xe)) else (none)) else (none)) else (if x6=3 then (if 0<=xc then (if xc < (x1.length:Int) then (if 0<=xd then (if xd < (x1.length:Int) then (some (xa,xb,rd x1 xc,rd x1 xd,xe)) else (none)) else (none)) else (none)) else (none)) else (some (xa,xb,xc,xd,xe)))
def Sl34Read.f (k:Nat) (a0_0:Int) (a0_1:Int) (a0_2:Int) (a0_3:Int) (a0_4:Int) (l1:List Int):Option (Int × Int × Int × Int × Int):=if a0_0=2 then (Sl34Read.j0 k l1 a0_0 (a0_0 == 2) a0_0 a0_1 a0_2 a0_3 a0_4) else (if a0_0=5 then (Sl34Read.j0 k l1 a0_0 (a0_0 == 5) a0_0 a0_1 a0_2 a0_3 a0_4) else (if a0_0=6 then (Sl34Read.j0 k l1 a0_0 (a0_0 == 6) a0_0 a0_1 a0_2 a0_3 a0_4) else (Sl34Read.j0 k l1 a0_0 (a0_0 == 9) a0_0 a0_1 a0_2 a0_3 a0_4)))
theorem Sl34Read.mono_l:∀ k,(∀ y0 y1 y2 y3 y4 y5 y6 y7,LeO (Sl34Read.j0 k y0 y1 y2 y3 y4 y5 y6 y7) (Sl34Read.j0 (k+1) y0 y1 y2 y3 y4 y5 y6 y7))
 | 0=>fun _ _ _ _ _ _ _ _ r h=>by simp [Sl34Read.j0] at h
 | k+1=>by
  have ih0:=Sl34Read.mono_l k
  intros;unfold Sl34Read.j0;exact mM
theorem Sl34Read.mono:∀ a0 a1 a2 a3 a4 a5 k,LeO (Sl34Read.f k a0 a1 a2 a3 a4 a5) (Sl34Read.f (k+1) a0 a1 a2 a3 a4 a5):=by
 intro a0 a1 a2 a3 a4 a5 k;have ih0:=Sl34Read.mono_l k;unfold Sl34Read.f;exact mM
theorem Sl34Read.calls (k:Nat) (a0_0:Int) (a0_1:Int) (a0_2:Int) (a0_3:Int) (a0_4:Int) (A1:Option Addr) (c1:Nat) (l1:List Int) (r1:Int) (r2:Int) (r3:Int) (r4:Int) (r5:Int) (w:World) (hr1:Kd.C (Kd.int .i64) w A1 l1.length l1) (hc1:l1.length<=c1) (h:Sl34Read.f k a0_0 a0_1 a0_2 a0_3 a0_4 l1=some (r1,r2,r3,r4,r5)) :
  Calls Try.prog 87 #[.agg #[.int .i64 a0_0,.int .i64 a0_1,.int .i64 a0_2,.int .i64 a0_3,.int .i64 a0_4],.slice A1 l1.length c1] w fun e w'=>e = .returned (.agg #[.int .i64 r1,.int .i64 r2,.int .i64 r3,.int .i64 r4,.int .i64 r5])/\Below w.heap.size w w':=by
 have hu46:=Try.underlying46
 have HR1:=aM hr1
 have HC1:=aM hc1
 clear hr1 hc1
 have HB:=aM (Below.refl w.heap.size w)
 have H:=h;unfold Sl34Read.f at H
 clear h
 have HC3:=aM H
 clear H
 go_enter Try.func87,Try.ntmps87
 go_upto_if 7 with (first|((with_reducible refine jd 2 rfl ?_);refine jX _ 46 ?_;intro gb741 hg w4 hbox hb;have BK741:=aM hbox;have GW741:=kG hg;replace HB:=kH hb;clear hb hbox hg)|((with_reducible refine jd 4 rfl ?_);refine jX _ 46 ?_;intro gb742 hg w5 hbox hb;have BK742:=aM hbox;have GW742:=kG hg;have NB741_742:=kN hg BK741;have NB742_741:=kM hg BK741;replace BK741:=kB BK741 hb;replace HB:=kH hb;clear hb hbox hg;have hnb6:=NB741_742.out;have hnc6:=NB742_741.out;have cz7:=jz5 BK741))
 (try simp only [Act.put,List.setIfInBounds_toArray,List.set_cons_zero,List.set_cons_succ])
 go_cut [7] (fun v7 wc=>∃ (kq:Nat) (x7_2:Bool),v7 = .bool x7_2/\Aside0 (Sl34Read.j0 kq l1 a0_0 x7_2 a0_0 a0_1 a0_2 a0_3 a0_4=some (r1,r2,r3,r4,r5))/\Aside0 (kq<=k)/\Aside0 (wc.heap[gb741]?=some (.cells #[.int .i64 a0_0,.int .i64 a0_1,.int .i64 a0_2,.int .i64 a0_3,.int .i64 a0_4] 46 (0,0)))/\Aside0 (wc.heap[gb742]?=some (.cells #[.int .i64 0,.int .i64 0,.int .i64 0,.int .i64 0,.int .i64 0] 46 (0,0)))/\Aside0 (Below w.heap.size w wc))
 case first =>
  have H:=HC3.out
  clear HC3
  replace H:=jE H;rcases H with ⟨c8b0,c8b1,H⟩ | ⟨c8,c8b0,c8b1,H⟩
  ·(first|rw [c8b0]|(simp only [i64_w,i32_w];rw [c8b0])|skip)
   have H':=aM H
   clear H
   go_wp2
   go_meet
   exact⟨_,((a0_0 == 2)),qZ,H',⟨by first|omega|exact Nat.le_refl _⟩,⟨qK BK741⟩,⟨qK BK742⟩,⟨qB⟩⟩
  (first|rw [c8b0]|(simp only [i64_w,i32_w];rw [c8b0])|skip)
  replace H:=jE H;rcases H with ⟨c9b0,c9b1,H⟩ | ⟨c9,c9b0,c9b1,H⟩
  ·have H':=aM H
   clear H
   go_wp2
   go_meet
   exact⟨_,((a0_0 == 5)),qZ,H',⟨by first|omega|exact Nat.le_refl _⟩,⟨qK BK741⟩,⟨qK BK742⟩,⟨qB⟩⟩
  replace H:=jE H;rcases H with ⟨c10b0,c10b1,H⟩ | ⟨c10,c10b0,c10b1,H⟩
  ·have H':=aM H
   clear H
   go_wp2
   go_meet
   exact⟨_,((a0_0 == 6)),qZ,H',⟨by first|omega|exact Nat.le_refl _⟩,⟨qK BK741⟩,⟨qK BK742⟩,⟨qB⟩⟩
  have H':=aM H
  clear H
  go_wp2
  go_meet
  exact⟨_,((a0_0 == 9)),qZ,H',⟨by first|omega|exact Nat.le_refl _⟩,⟨qK BK741⟩,⟨qK BK742⟩,⟨qB⟩⟩
 clear HC3
 try clear c1;try clear cz7
 obtain⟨kq,x7_2,rfl,HA,HJ2,BK741,BK742,HB⟩:=hcut
 cases kq with
 | zero=>exact absurd HA.out (by simp [Sl34Read.j0])
 | succ kj2 =>
  have H:=HA.out
  clear HA
  simp only [Sl34Read.j0] at H
  replace H:=jB H;rcases H with ⟨rfl,H⟩ | ⟨rfl,H⟩
  ·replace H:=jI H;obtain⟨c12b0,H⟩:=H
   replace H:=jI H;obtain⟨c13b0,H⟩:=H
   simp only [Option.some.injEq,Prod.mk.injEq] at H
   obtain⟨rfl,rfl,rfl,rfl,rfl⟩:=H
   have hnb14:=NB741_742.out
   have hnc14:=NB742_741.out
   have cz15:=jz5 BK741
   have p743:0<=(a0_2:Int):=qD
   have q743:a0_2 < (l1.length:Int):=qD
   obtain⟨ad743,e743,hx743_0⟩:=Kd.at_int HR1.out a0_2 p743 q743
   cases e743
   replace hx743_0:=kx HB hx743_0
   replace p743:=eq_true p743
   replace q743:=eq_true q743
   have cz16:=jz5 BK742
   go_wp2
   refine bodyPost_ret (results_cell_row rfl _ _ gb742 46 #[.int .i64 a0_0,.int .i64 a0_1,.int .i64 (rd l1 a0_2),.int .i64 a0_3,.int .i64 a0_4] (0,0) _ rfl (qF BK742) Try.underlying46 rfl (by kernel_rfl)) rfl ?_
   exact⟨qW,qB⟩
  replace H:=jE H;rcases H with ⟨c17b0,c17b1,H⟩ | ⟨c17,c17b0,c17b1,H⟩
  ·replace H:=jI H;obtain⟨c18b0,H⟩:=H
   replace H:=jI H;obtain⟨c19b0,H⟩:=H
   replace H:=jI H;obtain⟨c20b0,H⟩:=H
   replace H:=jI H;obtain⟨c21b0,H⟩:=H
   simp only [Option.some.injEq,Prod.mk.injEq] at H
   obtain⟨rfl,rfl,rfl,rfl,rfl⟩:=H
   have hnb22:=NB741_742.out
   have hnc22:=NB742_741.out
   have cz23:=jz5 BK741
   have p744:0<=(a0_2:Int):=qD
   have q744:a0_2 < (l1.length:Int):=qD
   obtain⟨ad744,e744,hx744_0⟩:=Kd.at_int HR1.out a0_2 p744 q744
   cases e744
   replace hx744_0:=kx HB hx744_0
   replace p744:=eq_true p744
   replace q744:=eq_true q744
   have p745:0<=(a0_3:Int):=qD
   have q745:a0_3 < (l1.length:Int):=qD
   obtain⟨ad745,e745,hx745_0⟩:=Kd.at_int HR1.out a0_3 p745 q745
   obtain rfl:ad744=ad745:=(by injection e745)
   have hn745_0:ad744.block≠gb741:=kn hx745_0 GW741
   replace hx745_0:=kx HB hx745_0
   replace hx745_0:=(cell_far (p:=⟨gb741,2,none⟩) (kf (hn745_0)) (.int .i64 (rd l1 a0_2))).trans hx745_0
   clear hn745_0
   replace p745:=eq_true p745
   replace q745:=eq_true q745
   have cz24:=jz5 BK742
   go_wp2
   refine bodyPost_ret (results_cell_row rfl _ _ gb742 46 #[.int .i64 a0_0,.int .i64 a0_1,.int .i64 (rd l1 a0_2),.int .i64 (rd l1 a0_3),.int .i64 a0_4] (0,0) _ rfl (qF BK742) Try.underlying46 rfl (by kernel_rfl)) rfl ?_
   exact⟨qW,qB⟩
  simp only [Option.some.injEq,Prod.mk.injEq] at H
  obtain⟨rfl,rfl,rfl,rfl,rfl⟩:=H
  have hnb25:=NB741_742.out
  have hnc25:=NB742_741.out
  have cz26:=jz5 BK741
  have cz27:=jz5 BK742
  go_wp2
  refine bodyPost_ret (results_cell_row rfl _ _ gb742 46 #[.int .i64 a0_0,.int .i64 a0_1,.int .i64 a0_2,.int .i64 a0_3,.int .i64 a0_4] (0,0) _ rfl (qF BK742) Try.underlying46 rfl (by kernel_rfl)) rfl ?_
  exact⟨qW,qB⟩
def SCopyCode.l0:Nat->List (S46)->List (S46)->List (List Int)->Int->Option ((List (S46)) × Bool)
 | 0,_,_,_,_=>none
 | k+1,x0,x4,x5,x6=>if x6 < (x0.length:Int) then (if 0<=x6 then (if x6 < (x5.length:Int) then ((Sl34Read.f k ((rd_T46 x0 x6).f0) ((rd_T46 x0 x6).f1) ((rd_T46 x0 x6).f2) ((rd_T46 x0 x6).f3) ((rd_T46 x0 x6).f4) (rd_L7 x5 x6)).bind fun bt755=>(if x4.length < 3518437208883 then (SCopyCode.l0 k x0 (x4 ++ [(⟨bt755.1,bt755.2.1,bt755.2.2.1,bt755.2.2.2.1,bt755.2.2.2.2⟩:S46)]) x5 (wrap64 (x6+1))) else (none))) else (none)) else (none)) else (some (x4,true))
def SCopyCode.f (k:Nat) (l0:List (S46)):Option ((List (S46)) × Bool):=(some (([]:List (S46)):List (S46))).bind fun y746=>((SCodeValid.f k l0).bind fun t749=>(if t749=true then ((SCopiesOf.f k l0).bind fun t750=>(SCopyCode.l0 k l0 y746 t750 0)) else (some (y746,false))))
theorem SCopyCode.mono_l:∀ k,(∀ y0 y1 y2 y3,LeO (SCopyCode.l0 k y0 y1 y2 y3) (SCopyCode.l0 (k+1) y0 y1 y2 y3))
 | 0=>fun _ _ _ _ r h=>by simp [SCopyCode.l0] at h
 | k+1=>by
  have ih0:=SCopyCode.mono_l k;have m0:=@SCodeValid.mono;have m1:=@SCopiesOf.mono;have m2:=@Sl34Read.mono
  intros;unfold SCopyCode.l0;exact mM
theorem SCopyCode.mono:∀ a0 k,LeO (SCopyCode.f k a0) (SCopyCode.f (k+1) a0):=by
 intro a0 k;have ih0:=SCopyCode.mono_l k;unfold SCopyCode.f;have m0:=@SCodeValid.mono;have m1:=@SCopiesOf.mono;have m2:=@Sl34Read.mono;exact mM
def SCopyCode.T8:Bool × List (List Nat × List Nat):=(true,[([],[]),([],[]),([],[]),([1,2],[1,2]),([3],[3]),([],[]),([],[]),([5,6],[5,6]),([7],[7]),([4,8],[4,8]),([9],[9]),([0,10,9],[0,10]),([11,11,0,1,2,3,4,5,6,7,8,9,10,11],[0,11])])
def SCopyCode.B8:List Nat:=[0,0,0,6,14,0,0,96,224,510,1022,2047,4095]
theorem SCopyCode.tab8:rtab .any (opsOf Try.f64 8)=SCopyCode.T8:=by kernel_rfl
theorem SCopyCode.bits8:waitsOk SCopyCode.T8.2 SCopyCode.B8=true:=by kernel_rfl
theorem SCopyCode.calls (k:Nat) (A0:Option Addr) (c0:Nat) (l0:List (S46)) (r1:List (S46)) (r2:Bool) (w:World) (hr0:Kd.C k46 w A0 l0.length l0) (hc0:l0.length<=c0) (h:SCopyCode.f k l0=some (r1,r2)) :
  Calls Try.prog 64 #[.slice A0 l0.length c0] w fun e w'=>∃ v0_:Value,e = .returned (.tuple #[v0_,.bool r2])/\Kd.R k46 46 w' w.heap.size (fun _=>True) v0_ r1/\Below w.heap.size w w':=by
 have hu46:=Try.underlying46
 have HR0:=aM hr0
 have HC0:=aM hc0
 clear hr0 hc0
 have HB:=aM (Below.refl w.heap.size w)
 have H:=h;unfold SCopyCode.f at H
 clear h
 obtain⟨y746,Ny746⟩:=ky ((([]:List (S46))):List (S46))
 first|replace H:=kz Ny746 H|rw [<- Ny746.out] at H
 obtain⟨t749,A2,H⟩:=qE H
 try dsimp only at H
 replace H:=jB H;rcases H with ⟨rfl,H⟩ | ⟨rfl,H⟩
 ·obtain⟨t750,A4,H⟩:=qE H
  try dsimp only at H
  have H':=aM H
  clear H
  go_enter Try.func64,Try.ntmps64
  go_wp2_with (first|((with_reducible refine jd 7 rfl ?_);refine jV k46 46 ([]:List (S46)) [] (Reps.none _ _) ?_;intro v747 w5 ho6 hb;(first|rw [<- Ny746.out] at ho6|(simp only [Int.reduceToNat] at ho6;rw [<- Ny746.out] at ho6));have HO748:=kL ho6;replace HB:=kH hb;clear hb ho6)|((with_reducible refine jc 29 9 rfl rfl ?_);refine jG Try.func29 #[.slice A0 l0.length c0] ?_;(with_reducible refine (SCodeValid.calls k _ _ l0 true _ ?side1 ?side2 A2.out).mono ?_);(case side1=>exact kC (Kd.C_below HR0.out HB.out));(case side2=>exact HC0.out);rintro e w7 ⟨rfl,hb⟩;refine⟨_,rfl,?_⟩;replace HO748:=kR HO748 hb;replace HB:=kH hb;clear hb)|((with_reducible refine jc 86 13 rfl rfl ?_);refine jG Try.func86 #[.slice A0 l0.length c0] ?_;(with_reducible refine (SCopiesOf.calls k _ _ l0 t750 _ ?side1 ?side2 A4.out).mono ?_);(case side1=>exact kC (Kd.C_below HR0.out HB.out));(case side2=>exact HC0.out);rintro e w8 ⟨v751,rfl,ho0,hb⟩;refine⟨_,rfl,?_⟩;have HO752:=aM (Kd.S_lower ho0 (below_size qB));replace HO748:=kR HO748 hb;replace HB:=kH hb;clear hb;(try clear ho0)))
  go_loopg [4,6] k (fun kq v4 v6 w'=>∃ (x4_1:List (S46)) (x6_1:Int),v6 = .int .i64 x6_1/\Aside0 (SCopyCode.l0 kq l0 x4_1 t750 x6_1=some (r1,r2))/\Aside0 (kq<=k)/\Aside0 (Kd.R k46 46 w' w.heap.size (fun _=>True) v4 x4_1)/\Aside0 (Kd.S (Kd.slice 3 (Kd.int .i64)) 31 w' w.heap.size (fun _=>True) v751 t750)/\Aside0 (Below w.heap.size w w'))
  case atStart=>exact⟨(y746),(0),qZ,H',⟨Nat.le_refl _⟩,⟨qR HO748⟩,⟨qS HO752⟩,⟨qB⟩⟩
  clear H'
  obtain⟨x4_1,x6_1,rfl,HA,HK1,HO_4,HO_5,HB⟩:=hrel
  rcases gk with _|k1
  ·exact absurd HA.out (by simp [SCopyCode.l0])
  have H:=HA.out
  clear HA
  simp only [SCopyCode.l0] at H
  replace H:=jD H;rcases H with ⟨c9b0,H⟩ | ⟨c9b0,H⟩
  ·replace H:=jI H;obtain⟨c10b0,H⟩:=H
   replace H:=jI H;obtain⟨c11b0,H⟩:=H
   obtain⟨⟨t755,t756,t757,t758,t759⟩,A12,H⟩:=qE H
   try dsimp only at H
   replace H:=jL H;obtain⟨LMc13,H⟩:=H
   obtain⟨y760,Ny760⟩:=ky ((x4_1 ++ [(⟨t755,t756,t757,t758,t759⟩:S46)]):List (S46))
   first|replace H:=kz Ny760 H|rw [<- Ny760.out] at H
   have H':=aM H
   clear H
   try go_wp2
   replace HO_4:=aM (Kd.R_drew HO_4.out)
   replace HO_5:=aM (Kd.S_drew HO_5.out)
   replace HB:=aM (below_drew1 HB.out)
   have p753:0<=(x6_1:Int):=qD
   have q753:x6_1 < (l0.length:Int):=qD
   obtain⟨ad753,e753,hx753_0,hx753_1,hx753_2,hx753_3,hx753_4⟩:=at_T46 HR0.out x6_1 p753 q753
   have hw753_4:=hx753_4
   have hw753_3:=hx753_3
   have hw753_2:=hx753_2
   have hw753_1:=hx753_1
   have hw753_0:=hx753_0
   cases e753
   replace hx753_0:=kx HB hx753_0
   replace hx753_1:=kx HB hx753_1
   replace hx753_2:=kx HB hx753_2
   replace hx753_3:=kx HB hx753_3
   replace hx753_4:=kx HB hx753_4
   replace p753:=eq_true p753
   replace q753:=eq_true q753
   obtain⟨Ao15,co15,eo15⟩:=Kd.S_slice HO_5.out
   (first|subst eo15|(injection eo15 with f1_ f2_ f3_;have f4_:=f1_.symm;have f5_:=f3_.symm;clear f1_ f2_ f3_;subst f4_;subst f5_))
   have p754:0<=(x6_1:Int):=qD
   have q754:x6_1 < (t750.length:Int):=qD
   obtain⟨ad754,A754_0,c754_0,e754,hx754_0,hl754_0,hi754_0⟩:=at_L7 (Kd.S_reads' HO_5.out).2.2 x6_1 p754 q754
   cases e754
   obtain⟨ce754,hce754,hMe754,hcc754⟩:=Kd.S_get HO_5.out [] x6_1 p754 (by first|exact q754|exact qD|(have e_:=(Kd.S_reads' HO_5.out).1;omega))
   obtain⟨ve754_0,rfl,ge754_0⟩:=hMe754
   have hv754_0:=hcc754 0 _ rfl
   rw [Nat.add_zero,show ((Kd.slice 3 (Kd.int .i64))).sz=1 from rfl,Nat.mul_one] at hv754_0
   replace hv754_0:=Option.some.inj (hv754_0.symm.trans hx754_0)
   rw [hv754_0] at ge754_0
   have HL754_0:=aM (show Kd.R (Kd.int .i64) 3 _ _ _ _ (rd_L7 t750 x6_1) from ge754_0)
   clear hv754_0 ge754_0
   clear hcc754 hce754
   have HR754_0:=aM hi754_0
   have HC754_0:=aM hl754_0
   clear hi754_0 hl754_0
   replace p754:=eq_true p754
   replace q754:=eq_true q754
   refine start_ (n:=13) (S:=fun w'=>w'.cell? (ad753.add ((x6_1).toNat*5))=some (.int .i64 ((rd_T46 l0 x6_1).f0))/\w'.cell? ⟨(ad753.add ((x6_1).toNat*5)).block,(ad753.add ((x6_1).toNat*5)).off+1,none⟩=some (.int .i64 ((rd_T46 l0 x6_1).f1))/\w'.cell? ⟨(ad753.add ((x6_1).toNat*5)).block,(ad753.add ((x6_1).toNat*5)).off+2,none⟩=some (.int .i64 ((rd_T46 l0 x6_1).f2))/\w'.cell? ⟨(ad753.add ((x6_1).toNat*5)).block,(ad753.add ((x6_1).toNat*5)).off+3,none⟩=some (.int .i64 ((rd_T46 l0 x6_1).f3))/\w'.cell? ⟨(ad753.add ((x6_1).toNat*5)).block,(ad753.add ((x6_1).toNat*5)).off+4,none⟩=some (.int .i64 ((rd_T46 l0 x6_1).f4))/\w'.cell? (ad754.add (x6_1).toNat)=some (.slice A754_0 (rd_L7 t750 x6_1).length c754_0)) (ds:=[10,11]) (jb 13 0) (by kernel_rfl) rfl rfl ⟨(kx HB hw753_0),(kx HB hw753_1),(kx HB hw753_2),(kx HB hw753_3),(kx HB hw753_4),hx754_0⟩ (fun hHeld=>?_);refine with_tabW SCopyCode.tab8 SCopyCode.bits8 (fun HT_ HW_=>?_)
   generalize wr.drew=w14 at HO_4 HO_5 HB HL754_0 HR754_0 hx753_0 hx753_1 hx753_2 hx753_3 hx753_4 hx754_0 hHeld ⊢
   refine jp 0 20 (jb 13 1) ?_
   refine jp 1 21 (jb 13 3) ?_
   refine jp 2 22 (jb 13 7) ?_
   refine jp 3 23 (jb 13 15) ?_
   refine jp 5 25 (jb 13 47) ?_
   refine jp 6 26 (jb 13 111) ?_
   refine jp 7 27 (jb 13 239) ?_
   refine jt 4 24 (jb 13 255) ?_
   refine jt 8 28 (jb 13 511) ?_
   refine one_ (i:=9) (N:=some 29) (jb 13 1023) rfl rfl (one_of HT_.out (by kernel_rfl)) (by decide) (fun K hK=>?_)
   refine goes_ Try.func87 (by kernel_rfl) rfl #[.agg #[.int .i64 ((rd_T46 l0 x6_1).f0),.int .i64 ((rd_T46 l0 x6_1).f1),.int .i64 ((rd_T46 l0 x6_1).f2),.int .i64 ((rd_T46 l0 x6_1).f3),.int .i64 ((rd_T46 l0 x6_1).f4)],.slice A754_0 (rd_L7 t750 x6_1).length c754_0] (by rfl) rfl rfl qM ?_
   with_reducible refine (Sl34Read.calls k1 ((rd_T46 l0 x6_1).f0) ((rd_T46 l0 x6_1).f1) ((rd_T46 l0 x6_1).f2) ((rd_T46 l0 x6_1).f3) ((rd_T46 l0 x6_1).f4) _ _ (rd_L7 t750 x6_1) t755 t756 t757 t758 t759 _ ?side1 ?side2 A12.out).mono ?_
   (case side1=>repeat (first|exact (kC HR754_0.out)|(with_reducible refine Kd.C_alloc ?_ _)|(with_reducible refine Kd.C_drewN ?_ _)|(with_reducible refine Kd.C_drew ?_)))
   (case side2=>exact HC754_0.out)
   rintro e w16 ⟨rfl,hb⟩
   have HS5_:=(hb.cell (World.block_lt_of_cell? _ _ (hHeld.2.2.2.2.2))).trans (hHeld.2.2.2.2.2)
   refine⟨_,rfl,?_⟩
   replace HO_4:=kR HO_4 hb
   replace HO_5:=kS HO_5 hb
   replace HL754_0:=kR HL754_0 hb
   replace HR754_0:=kQ HR754_0 hb
   replace HB:=kH hb
   (try clear hb)
   (try clear hb2)
   (try clear hk)
   (try clear hi)
   refine hK.out _ _ ⟨(kx HB hw753_0),(kx HB hw753_1),(kx HB hw753_2),(kx HB hw753_3),(kx HB hw753_4),HS5_⟩ (fun hHeld=>?_)
   clear hK K
   refine norm_ (a':=?_) ?_ ?_
   rotate_left
   ·show Act.put _ (some 29) _=_
    simp only [Act.put,List.setIfInBounds_toArray,List.set_cons_zero,List.set_cons_succ,i64_w,i32_w]
    rfl
   refine last_ (i:=10) (N:=some 30) (jb 13 2047) rfl rfl (one_of HT_.out (by kernel_rfl)) (by decide) (fun K hK=>?_)
   refine value_ (w1:=?_) (v:=?_) (by rfl) rfl ?_ ?_
   rotate_left 2
   ·go_simp
    constructor
    ·rfl
    rfl
   refine hK.out _ _ ?_
   clear hK K
   refine norm_ (a':=?_) ?_ ?_
   rotate_left
   ·show Act.put _ (some 30) _=_
    simp only [Act.put,List.setIfInBounds_toArray,List.set_cons_zero,List.set_cons_succ,i64_w,i32_w]
    rfl
   refine last_ (i:=11) (N:=some 31) (jb 13 4095) rfl rfl (one_of HT_.out (by kernel_rfl)) (by decide) (fun K hK=>?_)
   refine Kd.R_append_step k46 (w0:=w) w.heap.size (by rfl) (.tmp 20) (.tmp 30) 25 46 (.agg #[(.int .i64 0),(.int .i64 0),(.int .i64 0),(.int .i64 0),(.int .i64 0)]) 40 rfl Try.underlying25 info46 rfl (by decide) (by omega) u4 x4_1 (⟨t755,t756,t757,t758,t759⟩:S46) [.int .i64 t755,.int .i64 t756,.int .i64 t757,.int .i64 t758,.int .i64 t759] (fun _=>True) (fun _=>False) rfl rfl ?aP (fun _ hk=>hk.elim) ?aF ?aO ?aB ?aS ?aL ?_
   (case aP=>exact k46_mkM _ _ _ (⟨t755,t756,t757,t758,t759⟩:S46))
   (case aB=>exact qB)
   (case aF=>exact (fun _ _=>trivial))
   (case aO=>exact (qR HO_4))
   (case aS=>exact (below_size qB))
   (case aL=>have:=LMc13.out;omega)
   intro v761 w17 ho hb hg hat
   rw [<- Ny760.out] at ho
   have HO762:=aM ho
   replace HO_5:=aM (Kd.S_over' (qS HO_5) (Kd.R_typed (qR HO_4)) (by decide) hg)
   replace HL754_0:=aM (Kd.R_over' (qR HL754_0) (Kd.R_typed (qR HO_4)) (by decide) hg)
   replace HB:=aM hb
   clear HO_4
   clear ho hb hg hat
   refine hK.out _ _ ?_
   clear hK K
   refine norm_ (a':=?_) ?_ ?_
   rotate_left
   ·show Act.put _ (some 31) _=_
    simp only [Act.put,List.setIfInBounds_toArray,List.set_cons_zero,List.set_cons_succ,i64_w,i32_w]
    rfl
   refine jp 12 4 (jb 13 8191) ?_
   refine done_ (done_of HT_.out (by kernel_rfl)) ?_
   try go_wp2
   go_roundg k1
   case measure=>have:=HK1.out;omega
   exact⟨(y760),(wrap64 (x6_1+1)),qZ,H',⟨by have:=HK1.out;omega⟩,⟨qR HO762⟩,⟨qS HO_5⟩,⟨qB⟩⟩
  simp only [Option.some.injEq,Prod.mk.injEq] at H
  obtain⟨rfl,rfl⟩:=H
  go_wp2
  go_ret2
  exact⟨_,by first|rfl|(simp [errW_none,errW_some] <;> rfl)|(simp [*,errW_none,errW_some] <;> rfl),qR HO_4,qB⟩
 simp only [Option.some.injEq,Prod.mk.injEq] at H
 obtain⟨rfl,rfl⟩:=H
 go_enter Try.func64,Try.ntmps64
 go_wp2_with (first|((with_reducible refine jd 7 rfl ?_);refine jV k46 46 ([]:List (S46)) [] (Reps.none _ _) ?_;intro v747 w18 ho19 hb;(first|rw [<- Ny746.out] at ho19|(simp only [Int.reduceToNat] at ho19;rw [<- Ny746.out] at ho19));have HO748:=kL ho19;replace HB:=kH hb;clear hb ho19)|((with_reducible refine jc 29 9 rfl rfl ?_);refine jG Try.func29 #[.slice A0 l0.length c0] ?_;(with_reducible refine (SCodeValid.calls k _ _ l0 false _ ?side1 ?side2 A2.out).mono ?_);(case side1=>exact kC (Kd.C_below HR0.out HB.out));(case side2=>exact HC0.out);rintro e w20 ⟨rfl,hb⟩;refine⟨_,rfl,?_⟩;replace HO748:=kR HO748 hb;replace HB:=kH hb;clear hb))
 go_ret2
 exact⟨_,by first|rfl|(simp [errW_none,errW_some] <;> rfl)|(simp [*,errW_none,errW_some] <;> rfl),qR HO748,qB⟩
def Sl36Target.l0:Nat->List (S46)->Int->Int->Int->Option (Int)
 | 0,_,_,_,_=>none
 | k+1,x0,x1,x5,x6=>if x6 < (x0.length:Int) then (if 0<=x5 then (if x5 < (x0.length:Int) then (if ((rd_T46 x0 x5).f0)=4 then (Sl36Target.l0 k x0 x1 ((rd_T46 x0 x5).f4) (wrap64 (x6+1))) else (some x5)) else (none)) else (none)) else (some x1)
def Sl36Target.f (k:Nat) (l0:List (S46)) (a1:Int):Option (Int):=Sl36Target.l0 k l0 a1 a1 0
theorem Sl36Target.mono_l:∀ k,(∀ y0 y1 y2 y3,LeO (Sl36Target.l0 k y0 y1 y2 y3) (Sl36Target.l0 (k+1) y0 y1 y2 y3))
 | 0=>fun _ _ _ _ r h=>by simp [Sl36Target.l0] at h
 | k+1=>by
  have ih0:=Sl36Target.mono_l k
  intros;unfold Sl36Target.l0;exact mM
theorem Sl36Target.mono:∀ a0 a1 k,LeO (Sl36Target.f k a0 a1) (Sl36Target.f (k+1) a0 a1):=by
 intro a0 a1 k;have ih0:=Sl36Target.mono_l k;unfold Sl36Target.f;exact mM
theorem Sl36Target.calls (k:Nat) (A0:Option Addr) (c0:Nat) (l0:List (S46)) (a1:Int) (r:Int) (w:World) (hr0:Kd.C k46 w A0 l0.length l0) (hc0:l0.length<=c0) (h:Sl36Target.f k l0 a1=some r) :
  Calls Try.prog 88 #[.slice A0 l0.length c0,.int .i64 a1] w fun e w'=>e = .returned (.int .i64 r)/\Drawn0 w w':=by
 have HR0:=aM hr0
 have HC0:=aM hc0
 clear hr0 hc0
 have H:(Sl36Target.l0 k l0 a1 a1 0)=some r:=h
 clear h
 have H':=aM H
 clear H
 go_enter Try.func88,Try.ntmps88
 go_wp2
 go_loopg [5,6] k (fun kq v5 v6 w'=>∃ (x5_1:Int) (x6_1:Int),v5 = .int .i64 x5_1/\v6 = .int .i64 x6_1/\Aside0 (Sl36Target.l0 kq l0 a1 x5_1 x6_1=some r)/\Aside0 (kq<=k)/\Drawn0 w w')
 case atStart=>exact⟨(a1),(0),qZ,qZ,H',⟨Nat.le_refl _⟩,by repeat (first|exact Drawn0.refl _|apply Drawn0.step)⟩
 clear H'
 obtain⟨x5_1,x6_1,rfl,rfl,HA,HK1,⟨m1,rfl⟩⟩:=hrel
 rcases gk with _|k1
 ·exact absurd HA.out (by simp [Sl36Target.l0])
 have H:=HA.out
 clear HA
 simp only [Sl36Target.l0] at H
 replace H:=jD H;rcases H with ⟨c3b0,H⟩ | ⟨c3b0,H⟩
 ·replace H:=jI H;obtain⟨c4b0,H⟩:=H
  replace H:=jI H;obtain⟨c5b0,H⟩:=H
  replace H:=jE H;rcases H with ⟨c6b0,c6b1,H⟩ | ⟨c6,c6b0,c6b1,H⟩
  ·have H':=aM H
   clear H
   obtain⟨ad763,e763,hx763_0,hx763_1,hx763_2,hx763_3,hx763_4,p763,q763⟩:=jT46 HR0 x5_1
   cases e763
   have p764:0<=(x5_1:Int):=qD
   have q764:x5_1 < (l0.length:Int):=qD
   obtain⟨ad764,e764,hx764_0,hx764_1,hx764_2,hx764_3,hx764_4⟩:=at_T46 HR0.out x5_1 p764 q764
   obtain rfl:ad763=ad764:=(by injection e764)
   replace p764:=eq_true p764
   replace q764:=eq_true q764
   go_wp2
   go_roundg k1
   case measure=>have:=HK1.out;omega
   exact⟨((rd_T46 l0 x5_1).f4),(wrap64 (x6_1+1)),qZ,qZ,H',⟨by have:=HK1.out;omega⟩,by repeat (first|exact Drawn0.refl _|apply Drawn0.step)⟩
  obtain rfl:=Option.some.inj H
  obtain⟨ad763,e763,hx763_0,hx763_1,hx763_2,hx763_3,hx763_4,p763,q763⟩:=jT46 HR0 x5_1
  cases e763
  go_wp2
  go_ret
  exact⟨qZ,qU⟩
 obtain rfl:=Option.some.inj H
 go_wp2
 go_ret
 exact⟨qZ,qU⟩
def SJumpCode.l0:Nat->List (S46)->List (S46)->Int->Option ((List (S46)) × Bool)
 | 0,_,_,_=>none
 | k+1,x0,x4,x5=>if x5 < (x0.length:Int) then (if 0<=x5 then (if ((rd_T46 x0 x5).f0)=4 then ((Sl36Target.f k x0 ((rd_T46 x0 x5).f4)).bind fun t771=>(if x4.length < 3518437208883 then (SJumpCode.l0 k x0 (x4 ++ [(⟨(rd_T46 x0 x5).f0,(rd_T46 x0 x5).f1,(rd_T46 x0 x5).f2,(rd_T46 x0 x5).f3,t771⟩:S46)]) (wrap64 (x5+1))) else (none))) else (if ((rd_T46 x0 x5).f0)=5 then ((Sl36Target.f k x0 ((rd_T46 x0 x5).f4)).bind fun t775=>(if x4.length < 3518437208883 then (SJumpCode.l0 k x0 (x4 ++ [(⟨(rd_T46 x0 x5).f0,(rd_T46 x0 x5).f1,(rd_T46 x0 x5).f2,(rd_T46 x0 x5).f3,t775⟩:S46)]) (wrap64 (x5+1))) else (none))) else (if x4.length < 3518437208883 then (SJumpCode.l0 k x0 (x4 ++ [(⟨(rd_T46 x0 x5).f0,(rd_T46 x0 x5).f1,(rd_T46 x0 x5).f2,(rd_T46 x0 x5).f3,(rd_T46 x0 x5).f4⟩:S46)]) (wrap64 (x5+1))) else (none)))) else (none)) else (some (x4,true))
def SJumpCode.f (k:Nat) (l0:List (S46)):Option ((List (S46)) × Bool):=(some (([]:List (S46)):List (S46))).bind fun y765=>((SCodeValid.f k l0).bind fun t768=>(if t768=true then (SJumpCode.l0 k l0 y765 0) else (some (y765,false))))
theorem SJumpCode.mono_l:∀ k,(∀ y0 y1 y2,LeO (SJumpCode.l0 k y0 y1 y2) (SJumpCode.l0 (k+1) y0 y1 y2))
 | 0=>fun _ _ _ r h=>by simp [SJumpCode.l0] at h
 | k+1=>by
  have ih0:=SJumpCode.mono_l k;have m0:=@SCodeValid.mono;have m1:=@Sl36Target.mono
  intros;unfold SJumpCode.l0;exact mM
theorem SJumpCode.mono:∀ a0 k,LeO (SJumpCode.f k a0) (SJumpCode.f (k+1) a0):=by
 intro a0 k;have ih0:=SJumpCode.mono_l k;unfold SJumpCode.f;have m0:=@SCodeValid.mono;have m1:=@Sl36Target.mono;exact mM
theorem SJumpCode.calls (k:Nat) (A0:Option Addr) (c0:Nat) (l0:List (S46)) (r1:List (S46)) (r2:Bool) (w:World) (hr0:Kd.C k46 w A0 l0.length l0) (hc0:l0.length<=c0) (h:SJumpCode.f k l0=some (r1,r2)) :
  Calls Try.prog 65 #[.slice A0 l0.length c0] w fun e w'=>∃ v0_:Value,e = .returned (.tuple #[v0_,.bool r2])/\Kd.R k46 46 w' w.heap.size (fun _=>True) v0_ r1/\Below w.heap.size w w':=by
 have hu46:=Try.underlying46
 have HR0:=aM hr0
 have HC0:=aM hc0
 clear hr0 hc0
 have HB:=aM (Below.refl w.heap.size w)
 have H:=h;unfold SJumpCode.f at H
 clear h
 obtain⟨y765,Ny765⟩:=ky ((([]:List (S46))):List (S46))
 first|replace H:=kz Ny765 H|rw [<- Ny765.out] at H
 obtain⟨t768,A2,H⟩:=qE H
 try dsimp only at H
 replace H:=jB H;rcases H with ⟨rfl,H⟩ | ⟨rfl,H⟩
 ·have H':=aM H
  clear H
  go_enter Try.func65,Try.ntmps65
  go_wp2_with (first|((with_reducible refine jd 7 rfl ?_);refine jV k46 46 ([]:List (S46)) [] (Reps.none _ _) ?_;intro v766 w4 ho5 hb;(first|rw [<- Ny765.out] at ho5|(simp only [Int.reduceToNat] at ho5;rw [<- Ny765.out] at ho5));have HO767:=kL ho5;replace HB:=kH hb;clear hb ho5)|((with_reducible refine jc 29 9 rfl rfl ?_);refine jG Try.func29 #[.slice A0 l0.length c0] ?_;(with_reducible refine (SCodeValid.calls k _ _ l0 true _ ?side1 ?side2 A2.out).mono ?_);(case side1=>exact kC (Kd.C_below HR0.out HB.out));(case side2=>exact HC0.out);rintro e w6 ⟨rfl,hb⟩;refine⟨_,rfl,?_⟩;replace HO767:=kR HO767 hb;replace HB:=kH hb;clear hb))
  go_loopg [4,5] k (fun kq v4 v5 w'=>∃ (x4_1:List (S46)) (x5_1:Int),v5 = .int .i64 x5_1/\Aside0 (SJumpCode.l0 kq l0 x4_1 x5_1=some (r1,r2))/\Aside0 (kq<=k)/\Aside0 (Kd.R k46 46 w' w.heap.size (fun _=>True) v4 x4_1)/\Aside0 (Below w.heap.size w w'))
  case atStart=>exact⟨(y765),(0),qZ,H',⟨Nat.le_refl _⟩,⟨qR HO767⟩,⟨qB⟩⟩
  clear H'
  obtain⟨x4_1,x5_1,rfl,HA,HK1,HO_4,HB⟩:=hrel
  rcases gk with _|k1
  ·exact absurd HA.out (by simp [SJumpCode.l0])
  have H:=HA.out
  clear HA
  simp only [SJumpCode.l0] at H
  replace H:=jD H;rcases H with ⟨c7b0,H⟩ | ⟨c7b0,H⟩
  ·replace H:=jI H;obtain⟨c8b0,H⟩:=H
   replace H:=jE H;rcases H with ⟨c9b0,c9b1,H⟩ | ⟨c9,c9b0,c9b1,H⟩
   ·obtain⟨t771,A10,H⟩:=qE H
    try dsimp only at H
    replace H:=jL H;obtain⟨LMc11,H⟩:=H
    obtain⟨y772,Ny772⟩:=ky ((x4_1 ++ [(⟨(rd_T46 l0 x5_1).f0,(rd_T46 l0 x5_1).f1,(rd_T46 l0 x5_1).f2,(rd_T46 l0 x5_1).f3,t771⟩:S46)]):List (S46))
    first|replace H:=kz Ny772 H|rw [<- Ny772.out] at H
    have H':=aM H
    clear H
    have p769:0<=(x5_1:Int):=qD
    have q769:x5_1 < (l0.length:Int):=qD
    obtain⟨ad769,e769,hx769_0,hx769_1,hx769_2,hx769_3,hx769_4⟩:=at_T46 HR0.out x5_1 p769 q769
    cases e769
    replace hx769_0:=kx HB hx769_0
    replace hx769_1:=kx HB hx769_1
    replace hx769_2:=kx HB hx769_2
    replace hx769_3:=kx HB hx769_3
    replace hx769_4:=kx HB hx769_4
    replace p769:=eq_true p769
    replace q769:=eq_true q769
    go_wp2_with (first|((with_reducible refine jd 6 rfl ?_);refine jX _ 46 ?_;intro gb770 hg w_0a hbox hb;have BK770:=aM hbox;have GW770:=kG hg;replace HO_4:=aM (Kd.R_below (Kd.R_elderB (qR HO_4) gb770 (Nat.le_of_eq hg.symm)) hb);replace HB:=kH hb;clear hb hbox hg;have c_0b:=jz5 BK770)|((with_reducible refine jc 88 33 rfl rfl ?_);refine jG Try.func88 #[.slice (some ad769) l0.length c0,.int .i64 ((rd_T46 l0 x5_1).f4)] ?_;(with_reducible refine (Sl36Target.calls k1 _ _ l0 ((rd_T46 l0 x5_1).f4) t771 _ ?side1 ?side2 A10.out).mono ?_);(case side1=>exact Kd.C_below HR0.out qB);(case side2=>exact HC0.out);rintro e w_1a ⟨rfl,hd⟩;refine⟨_,rfl,?_⟩;have hb:=hd.below;have n0_:=aM (Kd.R_below (show Kd.R k46 46 _ w.heap.size (fun k_=>k_≠gb770) u4 x4_1 from (by (with_reducible repeat (first|apply Kd.R_alloc|apply Kd.R_drewN|apply Kd.R_drew));exact Kd.R_mono (Kd.R_far (p:=⟨gb770,4,none⟩) (Kd.R_far (p:=⟨gb770,3,none⟩) (Kd.R_far (p:=⟨gb770,2,none⟩) (Kd.R_far (p:=⟨gb770,1,none⟩) (Kd.R_far (p:=⟨gb770,0,none⟩) (Kd.R_mono HO_4.out (fun k_ hk=>(⟨hk,hk.2⟩:_/\k_≠gb770))) (fun _ hk=>hk.2) (.int .i64 ((rd_T46 l0 x5_1).f0))) (fun _ hk=>hk.2) (.int .i64 ((rd_T46 l0 x5_1).f1))) (fun _ hk=>hk.2) (.int .i64 ((rd_T46 l0 x5_1).f2))) (fun _ hk=>hk.2) (.int .i64 ((rd_T46 l0 x5_1).f3))) (fun _ hk=>hk.2) (.int .i64 ((rd_T46 l0 x5_1).f4))) (fun _ hk=>hk.1.2))) hb);have n1_:=aM (below_step (show Below w.heap.size w _ from qB) hb);have n2_:Aside0 (w_1a.heap[gb770]?=some (.cells #[.int .i64 ((rd_T46 l0 x5_1).f0),.int .i64 ((rd_T46 l0 x5_1).f1),.int .i64 ((rd_T46 l0 x5_1).f2),.int .i64 ((rd_T46 l0 x5_1).f3),.int .i64 ((rd_T46 l0 x5_1).f4)] 46 (0,0))):=⟨(hb.block gb770 (blk_lt (g:=gb770) (o:=.cells #[.int .i64 ((rd_T46 l0 x5_1).f0),.int .i64 ((rd_T46 l0 x5_1).f1),.int .i64 ((rd_T46 l0 x5_1).f2),.int .i64 ((rd_T46 l0 x5_1).f3),.int .i64 ((rd_T46 l0 x5_1).f4)] 46 (0,0)) (qF BK770))).trans (qF BK770)⟩;clear HO_4 HB BK770 hd hb;have HO_4:=n0_;have HB:=n1_;have BK770:=n2_;clear n0_ n1_ n2_;have hcy0:=blk_cell BK770.out 0;have hfy0:=blk_frozen BK770.out 0;have hcy1:=blk_cell BK770.out 1;have hfy1:=blk_frozen BK770.out 1;have hcy2:=blk_cell BK770.out 2;have hfy2:=blk_frozen BK770.out 2;have hcy3:=blk_cell BK770.out 3;have hfy3:=blk_frozen BK770.out 3;have hcy4:=blk_cell BK770.out 4;have hfy4:=blk_frozen BK770.out 4)|((with_reducible refine gate_builtin (b:=.append) (xs:=#[.tmp 35,.tmp 37]) rfl ?_);at_builtin;refine Kd.R_append k46 (w0:=w) w.heap.size rfl (.tmp 35) (.tmp 37) 25 46 (.agg #[(.int .i64 0),(.int .i64 0),(.int .i64 0),(.int .i64 0),(.int .i64 0)]) 40 rfl Try.underlying25 info46 rfl (by decide) (by omega) u4 x4_1 (⟨(rd_T46 l0 x5_1).f0,(rd_T46 l0 x5_1).f1,(rd_T46 l0 x5_1).f2,(rd_T46 l0 x5_1).f3,t771⟩:S46) [.int .i64 ((rd_T46 l0 x5_1).f0),.int .i64 ((rd_T46 l0 x5_1).f1),.int .i64 ((rd_T46 l0 x5_1).f2),.int .i64 ((rd_T46 l0 x5_1).f3),.int .i64 t771] (fun k_=>k_≠gb770) (fun _=>False) rfl (by first|(go_simp;done)|(go_simp;rfl)) ?aP (fun _ hk=>hk.elim) ?aF ?aO ?aB ?aS ?aL ?_;(case aP=>exact k46_mkM _ _ _ (⟨(rd_T46 l0 x5_1).f0,(rd_T46 l0 x5_1).f1,(rd_T46 l0 x5_1).f2,(rd_T46 l0 x5_1).f3,t771⟩:S46));(case aB=>exact qB);(case aF=>exact (fun k_ hk=>Kd.freshB (g:=gb770) (o:=.cells #[.int .i64 ((rd_T46 l0 x5_1).f0),.int .i64 ((rd_T46 l0 x5_1).f1),.int .i64 ((rd_T46 l0 x5_1).f2),.int .i64 ((rd_T46 l0 x5_1).f3),.int .i64 t771] 46 (0,0)) (qF BK770) k_ hk));(case aO=>exact (by (with_reducible repeat (first|apply Kd.R_alloc|apply Kd.R_drewN|apply Kd.R_drew));exact Kd.R_far (p:=⟨gb770,4,none⟩) HO_4.out (fun _ hk=>hk) _));(case aS=>exact (below_size qB));(case aL=>have:=LMc11.out;omega);intro v773 w_2a ho hb hg hat;rw [<- Ny772.out] at ho;have HO774:=aM ho;replace BK770:=aM (blk_grown (g:=gb770) (o:=.cells #[.int .i64 ((rd_T46 l0 x5_1).f0),.int .i64 ((rd_T46 l0 x5_1).f1),.int .i64 ((rd_T46 l0 x5_1).f2),.int .i64 ((rd_T46 l0 x5_1).f3),.int .i64 t771] 46 (0,0)) (qF BK770) hg (Kd.R_away HO_4.out (fun _ hk=>hk)));replace HB:=aM hb;clear HO_4;clear ho hb hg hat))
    go_roundg k1
    case measure=>have:=HK1.out;omega
    exact⟨_,_,qZ,H',⟨by have:=HK1.out;omega⟩,⟨by (with_reducible repeat (first|apply Kd.R_alloc|apply Kd.R_drewN|apply Kd.R_drew));exact Kd.R_mono HO774.out (fun _ hk=>trivial)⟩,⟨qB⟩⟩
   replace H:=jE H;rcases H with ⟨c15b0,c15b1,H⟩ | ⟨c15,c15b0,c15b1,H⟩
   ·obtain⟨t775,A16,H⟩:=qE H
    try dsimp only at H
    replace H:=jL H;obtain⟨LMc17,H⟩:=H
    obtain⟨y776,Ny776⟩:=ky ((x4_1 ++ [(⟨(rd_T46 l0 x5_1).f0,(rd_T46 l0 x5_1).f1,(rd_T46 l0 x5_1).f2,(rd_T46 l0 x5_1).f3,t775⟩:S46)]):List (S46))
    first|replace H:=kz Ny776 H|rw [<- Ny776.out] at H
    have H':=aM H
    clear H
    have p769:0<=(x5_1:Int):=qD
    have q769:x5_1 < (l0.length:Int):=qD
    obtain⟨ad769,e769,hx769_0,hx769_1,hx769_2,hx769_3,hx769_4⟩:=at_T46 HR0.out x5_1 p769 q769
    cases e769
    replace hx769_0:=kx HB hx769_0
    replace hx769_1:=kx HB hx769_1
    replace hx769_2:=kx HB hx769_2
    replace hx769_3:=kx HB hx769_3
    replace hx769_4:=kx HB hx769_4
    replace p769:=eq_true p769
    replace q769:=eq_true q769
    go_wp2_with (first|((with_reducible refine jd 6 rfl ?_);refine jX _ 46 ?_;intro gb770 hg w_0a hbox hb;have BK770:=aM hbox;have GW770:=kG hg;replace HO_4:=aM (Kd.R_below (Kd.R_elderB (qR HO_4) gb770 (Nat.le_of_eq hg.symm)) hb);replace HB:=kH hb;clear hb hbox hg;have c_0b:=jz5 BK770)|((with_reducible refine jc 88 33 rfl rfl ?_);refine jG Try.func88 #[.slice (some ad769) l0.length c0,.int .i64 ((rd_T46 l0 x5_1).f4)] ?_;(with_reducible refine (Sl36Target.calls k1 _ _ l0 ((rd_T46 l0 x5_1).f4) t775 _ ?side1 ?side2 A16.out).mono ?_);(case side1=>exact Kd.C_below HR0.out qB);(case side2=>exact HC0.out);rintro e w13 ⟨rfl,hd⟩;refine⟨_,rfl,?_⟩;have hb:=hd.below;have n0_:=aM (Kd.R_below (show Kd.R k46 46 _ w.heap.size (fun k_=>k_≠gb770) u4 x4_1 from (by (with_reducible repeat (first|apply Kd.R_alloc|apply Kd.R_drewN|apply Kd.R_drew));exact Kd.R_mono (Kd.R_far (p:=⟨gb770,4,none⟩) (Kd.R_far (p:=⟨gb770,3,none⟩) (Kd.R_far (p:=⟨gb770,2,none⟩) (Kd.R_far (p:=⟨gb770,1,none⟩) (Kd.R_far (p:=⟨gb770,0,none⟩) (Kd.R_mono HO_4.out (fun k_ hk=>(⟨hk,hk.2⟩:_/\k_≠gb770))) (fun _ hk=>hk.2) (.int .i64 ((rd_T46 l0 x5_1).f0))) (fun _ hk=>hk.2) (.int .i64 ((rd_T46 l0 x5_1).f1))) (fun _ hk=>hk.2) (.int .i64 ((rd_T46 l0 x5_1).f2))) (fun _ hk=>hk.2) (.int .i64 ((rd_T46 l0 x5_1).f3))) (fun _ hk=>hk.2) (.int .i64 ((rd_T46 l0 x5_1).f4))) (fun _ hk=>hk.1.2))) hb);have n1_:=aM (below_step (show Below w.heap.size w _ from qB) hb);have n2_:Aside0 (w13.heap[gb770]?=some (.cells #[.int .i64 ((rd_T46 l0 x5_1).f0),.int .i64 ((rd_T46 l0 x5_1).f1),.int .i64 ((rd_T46 l0 x5_1).f2),.int .i64 ((rd_T46 l0 x5_1).f3),.int .i64 ((rd_T46 l0 x5_1).f4)] 46 (0,0))):=⟨(hb.block gb770 (blk_lt (g:=gb770) (o:=.cells #[.int .i64 ((rd_T46 l0 x5_1).f0),.int .i64 ((rd_T46 l0 x5_1).f1),.int .i64 ((rd_T46 l0 x5_1).f2),.int .i64 ((rd_T46 l0 x5_1).f3),.int .i64 ((rd_T46 l0 x5_1).f4)] 46 (0,0)) (qF BK770))).trans (qF BK770)⟩;clear HO_4 HB BK770 hd hb;have HO_4:=n0_;have HB:=n1_;have BK770:=n2_;clear n0_ n1_ n2_;have hcy0:=blk_cell BK770.out 0;have hfy0:=blk_frozen BK770.out 0;have hcy1:=blk_cell BK770.out 1;have hfy1:=blk_frozen BK770.out 1;have hcy2:=blk_cell BK770.out 2;have hfy2:=blk_frozen BK770.out 2;have hcy3:=blk_cell BK770.out 3;have hfy3:=blk_frozen BK770.out 3;have hcy4:=blk_cell BK770.out 4;have hfy4:=blk_frozen BK770.out 4)|((with_reducible refine gate_builtin (b:=.append) (xs:=#[.tmp 35,.tmp 37]) rfl ?_);at_builtin;refine Kd.R_append k46 (w0:=w) w.heap.size rfl (.tmp 35) (.tmp 37) 25 46 (.agg #[(.int .i64 0),(.int .i64 0),(.int .i64 0),(.int .i64 0),(.int .i64 0)]) 40 rfl Try.underlying25 info46 rfl (by decide) (by omega) u4 x4_1 (⟨(rd_T46 l0 x5_1).f0,(rd_T46 l0 x5_1).f1,(rd_T46 l0 x5_1).f2,(rd_T46 l0 x5_1).f3,t775⟩:S46) [.int .i64 ((rd_T46 l0 x5_1).f0),.int .i64 ((rd_T46 l0 x5_1).f1),.int .i64 ((rd_T46 l0 x5_1).f2),.int .i64 ((rd_T46 l0 x5_1).f3),.int .i64 t775] (fun k_=>k_≠gb770) (fun _=>False) rfl (by first|(go_simp;done)|(go_simp;rfl)) ?aP (fun _ hk=>hk.elim) ?aF ?aO ?aB ?aS ?aL ?_;(case aP=>exact k46_mkM _ _ _ (⟨(rd_T46 l0 x5_1).f0,(rd_T46 l0 x5_1).f1,(rd_T46 l0 x5_1).f2,(rd_T46 l0 x5_1).f3,t775⟩:S46));(case aB=>exact qB);(case aF=>exact (fun k_ hk=>Kd.freshB (g:=gb770) (o:=.cells #[.int .i64 ((rd_T46 l0 x5_1).f0),.int .i64 ((rd_T46 l0 x5_1).f1),.int .i64 ((rd_T46 l0 x5_1).f2),.int .i64 ((rd_T46 l0 x5_1).f3),.int .i64 t775] 46 (0,0)) (qF BK770) k_ hk));(case aO=>exact (by (with_reducible repeat (first|apply Kd.R_alloc|apply Kd.R_drewN|apply Kd.R_drew));exact Kd.R_far (p:=⟨gb770,4,none⟩) HO_4.out (fun _ hk=>hk) _));(case aS=>exact (below_size qB));(case aL=>have:=LMc17.out;omega);intro v777 w_2a ho hb hg hat;rw [<- Ny776.out] at ho;have HO778:=aM ho;replace BK770:=aM (blk_grown (g:=gb770) (o:=.cells #[.int .i64 ((rd_T46 l0 x5_1).f0),.int .i64 ((rd_T46 l0 x5_1).f1),.int .i64 ((rd_T46 l0 x5_1).f2),.int .i64 ((rd_T46 l0 x5_1).f3),.int .i64 t775] 46 (0,0)) (qF BK770) hg (Kd.R_away HO_4.out (fun _ hk=>hk)));replace HB:=aM hb;clear HO_4;clear ho hb hg hat))
    go_roundg k1
    case measure=>have:=HK1.out;omega
    exact⟨_,_,qZ,H',⟨by have:=HK1.out;omega⟩,⟨by (with_reducible repeat (first|apply Kd.R_alloc|apply Kd.R_drewN|apply Kd.R_drew));exact Kd.R_mono HO778.out (fun _ hk=>trivial)⟩,⟨qB⟩⟩
   replace H:=jL H;obtain⟨LMc21,H⟩:=H
   obtain⟨y779,Ny779⟩:=ky ((x4_1 ++ [(⟨(rd_T46 l0 x5_1).f0,(rd_T46 l0 x5_1).f1,(rd_T46 l0 x5_1).f2,(rd_T46 l0 x5_1).f3,(rd_T46 l0 x5_1).f4⟩:S46)]):List (S46))
   first|replace H:=kz Ny779 H|rw [<- Ny779.out] at H
   have H':=aM H
   clear H
   have p769:0<=(x5_1:Int):=qD
   have q769:x5_1 < (l0.length:Int):=qD
   obtain⟨ad769,e769,hx769_0,hx769_1,hx769_2,hx769_3,hx769_4⟩:=at_T46 HR0.out x5_1 p769 q769
   cases e769
   replace hx769_0:=kx HB hx769_0
   replace hx769_1:=kx HB hx769_1
   replace hx769_2:=kx HB hx769_2
   replace hx769_3:=kx HB hx769_3
   replace hx769_4:=kx HB hx769_4
   replace p769:=eq_true p769
   replace q769:=eq_true q769
   go_wp2_with (first|((with_reducible refine jd 6 rfl ?_);refine jX _ 46 ?_;intro gb770 hg w_0a hbox hb;have BK770:=aM hbox;have GW770:=kG hg;replace HO_4:=aM (Kd.R_below (Kd.R_elderB (qR HO_4) gb770 (Nat.le_of_eq hg.symm)) hb);replace HB:=kH hb;clear hb hbox hg;have c_0b:=jz5 BK770)|((with_reducible refine gate_builtin (b:=.append) (xs:=#[.tmp 35,.tmp 37]) rfl ?_);at_builtin;refine Kd.R_append k46 (w0:=w) w.heap.size rfl (.tmp 35) (.tmp 37) 25 46 (.agg #[(.int .i64 0),(.int .i64 0),(.int .i64 0),(.int .i64 0),(.int .i64 0)]) 40 rfl Try.underlying25 info46 rfl (by decide) (by omega) u4 x4_1 (⟨(rd_T46 l0 x5_1).f0,(rd_T46 l0 x5_1).f1,(rd_T46 l0 x5_1).f2,(rd_T46 l0 x5_1).f3,(rd_T46 l0 x5_1).f4⟩:S46) [.int .i64 ((rd_T46 l0 x5_1).f0),.int .i64 ((rd_T46 l0 x5_1).f1),.int .i64 ((rd_T46 l0 x5_1).f2),.int .i64 ((rd_T46 l0 x5_1).f3),.int .i64 ((rd_T46 l0 x5_1).f4)] (fun k_=>k_≠gb770) (fun _=>False) rfl (by first|(go_simp;done)|(go_simp;rfl)) ?aP (fun _ hk=>hk.elim) ?aF ?aO ?aB ?aS ?aL ?_;(case aP=>exact k46_mkM _ _ _ (⟨(rd_T46 l0 x5_1).f0,(rd_T46 l0 x5_1).f1,(rd_T46 l0 x5_1).f2,(rd_T46 l0 x5_1).f3,(rd_T46 l0 x5_1).f4⟩:S46));(case aB=>exact qB);(case aF=>exact (fun k_ hk=>Kd.freshB (g:=gb770) (o:=.cells #[.int .i64 ((rd_T46 l0 x5_1).f0),.int .i64 ((rd_T46 l0 x5_1).f1),.int .i64 ((rd_T46 l0 x5_1).f2),.int .i64 ((rd_T46 l0 x5_1).f3),.int .i64 ((rd_T46 l0 x5_1).f4)] 46 (0,0)) (qF BK770) k_ hk));(case aO=>exact (by (with_reducible repeat (first|apply Kd.R_alloc|apply Kd.R_drewN|apply Kd.R_drew));exact Kd.R_mono (Kd.R_far (p:=⟨gb770,4,none⟩) (Kd.R_far (p:=⟨gb770,3,none⟩) (Kd.R_far (p:=⟨gb770,2,none⟩) (Kd.R_far (p:=⟨gb770,1,none⟩) (Kd.R_far (p:=⟨gb770,0,none⟩) (Kd.R_mono HO_4.out (fun k_ hk=>(⟨hk,hk.2⟩:_/\k_≠gb770))) (fun _ hk=>hk.2) (.int .i64 ((rd_T46 l0 x5_1).f0))) (fun _ hk=>hk.2) (.int .i64 ((rd_T46 l0 x5_1).f1))) (fun _ hk=>hk.2) (.int .i64 ((rd_T46 l0 x5_1).f2))) (fun _ hk=>hk.2) (.int .i64 ((rd_T46 l0 x5_1).f3))) (fun _ hk=>hk.2) (.int .i64 ((rd_T46 l0 x5_1).f4))) (fun _ hk=>hk.1.2)));(case aS=>exact (below_size qB));(case aL=>have:=LMc21.out;omega);intro v780 w_2a ho hb hg hat;rw [<- Ny779.out] at ho;have HO781:=aM ho;replace BK770:=aM (blk_grown (g:=gb770) (o:=.cells #[.int .i64 ((rd_T46 l0 x5_1).f0),.int .i64 ((rd_T46 l0 x5_1).f1),.int .i64 ((rd_T46 l0 x5_1).f2),.int .i64 ((rd_T46 l0 x5_1).f3),.int .i64 ((rd_T46 l0 x5_1).f4)] 46 (0,0)) (qF BK770) hg (Kd.R_away HO_4.out (fun _ hk=>hk.2)));replace HB:=aM hb;clear HO_4;clear ho hb hg hat))
   go_roundg k1
   case measure=>have:=HK1.out;omega
   exact⟨_,_,qZ,H',⟨by have:=HK1.out;omega⟩,⟨by (with_reducible repeat (first|apply Kd.R_alloc|apply Kd.R_drewN|apply Kd.R_drew));exact Kd.R_mono HO781.out (fun _ hk=>trivial)⟩,⟨qB⟩⟩
  simp only [Option.some.injEq,Prod.mk.injEq] at H
  obtain⟨rfl,rfl⟩:=H
  go_wp2
  go_ret2
  exact⟨_,by first|rfl|(simp [errW_none,errW_some] <;> rfl)|(simp [*,errW_none,errW_some] <;> rfl),qR HO_4,qB⟩
 simp only [Option.some.injEq,Prod.mk.injEq] at H
 obtain⟨rfl,rfl⟩:=H
 go_enter Try.func65,Try.ntmps65
 go_wp2_with (first|((with_reducible refine jd 7 rfl ?_);refine jV k46 46 ([]:List (S46)) [] (Reps.none _ _) ?_;intro v766 w_3a h_3b hb;(first|rw [<- Ny765.out] at h_3b|(simp only [Int.reduceToNat] at h_3b;rw [<- Ny765.out] at h_3b));have HO767:=kL h_3b;replace HB:=kH hb;clear hb h_3b)|((with_reducible refine jc 29 9 rfl rfl ?_);refine jG Try.func29 #[.slice A0 l0.length c0] ?_;(with_reducible refine (SCodeValid.calls k _ _ l0 false _ ?side1 ?side2 A2.out).mono ?_);(case side1=>exact kC (Kd.C_below HR0.out HB.out));(case side2=>exact HC0.out);rintro e w_4a ⟨rfl,hb⟩;refine⟨_,rfl,?_⟩;replace HO767:=kR HO767 hb;replace HB:=kH hb;clear hb))
 go_ret2
 exact⟨_,by first|rfl|(simp [errW_none,errW_some] <;> rfl)|(simp [*,errW_none,errW_some] <;> rfl),qR HO767,qB⟩
end Go.Proofs.Ytahbkldagpfcaaa.M
-- JUMPED
namespace Go.Proofs.Ytahbkldagpfcaaa.M
open Go.RowKit Go.Proofs.YtahbkldagpfcaaaW.PrintWords Go.Proofs.YtahbkldagpfcaaaW.PrintLast Go.Proofs.YtahbkldagpfcaaaW.PrintMore
attribute [local go_sem] max2_int min2_int max_two min_two max_three min_three max_four min_four
mutual
def Sl32After.l0:Nat->List (List Bool)->List Bool->List Int->Int->Option (List Bool)
 | 0,_,_,_,_=>none
 | k+1,x1,x7,x8,x9=>if x9 < (x8.length:Int) then (Sl32After.l1 k x1 x7 x8 x9 0) else (some x7)
def Sl32After.l1:Nat->List (List Bool)->List Bool->List Int->Int->Int->Option (List Bool)
 | 0,_,_,_,_,_=>none
 | k+1,x1,x7,x8,x9,x10=>if x10 < 12 then (if 0<=x10 then (if x10 < (x7.length:Int) then (if rdOf false x7 x10=true then (Sl32After.l1 k x1 (x7.set (x10:Int).toNat true) x8 x9 (wrap64 (x10+1))) else (if 0<=x9 then (if x9 < (x8.length:Int) then (if 0<=(rd x8 x9) then (if (rd x8 x9) < (x1.length:Int) then (if x10 < ((rd_L4 x1 (rd x8 x9)).length:Int) then (Sl32After.l1 k x1 (x7.set (x10:Int).toNat (rdOf false (rd_L4 x1 (rd x8 x9)) x10)) x8 x9 (wrap64 (x10+1))) else (none)) else (none)) else (none)) else (none)) else (none))) else (none)) else (none)) else (Sl32After.l0 k x1 x7 x8 (wrap64 (x9+1)))
end
def Sl32After.f (k:Nat) (l0:List (S46)) (l1:List (List Bool)) (a2:Int):Option (List Bool):=if 12<=281474976710656 then ((Sl31Next.f k l0 a2).bind fun t162=>(Sl32After.l0 k l1 (List.replicate 12 false) t162 0)) else (none)
theorem Sl32After.mono_l:∀ k,(∀ y0 y1 y2 y3,LeO (Sl32After.l0 k y0 y1 y2 y3) (Sl32After.l0 (k+1) y0 y1 y2 y3))/\(∀ y0 y1 y2 y3 y4,LeO (Sl32After.l1 k y0 y1 y2 y3 y4) (Sl32After.l1 (k+1) y0 y1 y2 y3 y4))
 | 0=>⟨fun _ _ _ _ r h=>by simp [Sl32After.l0] at h,fun _ _ _ _ _ r h=>by simp [Sl32After.l1] at h⟩
 | k+1=>by
  obtain⟨ih0,ih1⟩:=Sl32After.mono_l k;have m0:=@Sl31Next.mono
  exact⟨by intros;unfold Sl32After.l0;exact mM,by intros;unfold Sl32After.l1;exact mM⟩
theorem Sl32After.mono:∀ a0 a1 a2 k,LeO (Sl32After.f k a0 a1 a2) (Sl32After.f (k+1) a0 a1 a2):=by
 intro a0 a1 a2 k;obtain⟨ih0,ih1⟩:=Sl32After.mono_l k;unfold Sl32After.f;have m0:=@Sl31Next.mono;exact mM
theorem Sl32After.calls (k:Nat) (A0:Option Addr) (c0:Nat) (l0:List (S46)) (A1:Option Addr) (c1:Nat) (l1:List (List Bool)) (a2:Int) (r:List Bool) (w:World) (hr0:Kd.C k46 w A0 l0.length l0) (hc0:l0.length<=c0) (hr1:Kd.C (Kd.slice 4 Kd.bool) w A1 l1.length l1) (hc1:l1.length<=c1) (h:Sl32After.f k l0 l1 a2=some r) :
  Calls Try.prog 57 #[.slice A0 l0.length c0,.slice A1 l1.length c1,.int .i64 a2] w fun e w'=>∃ v0_:Value,e = .returned (v0_)/\Kd.R Kd.bool 4 w' w.heap.size (fun _=>True) v0_ r/\Below w.heap.size w w':=by
 have HR0:=aM hr0
 have HC0:=aM hc0
 clear hr0 hc0
 have HR1:=aM hr1
 have HC1:=aM hc1
 clear hr1 hc1
 have HB:=aM (Below.refl w.heap.size w)
 have H:=h;unfold Sl32After.f at H
 clear h
 replace H:=jJ H;obtain⟨c4b0,c4b1,H⟩:=H
 obtain⟨y159,Ny159⟩:=ky ((List.replicate 12 false):List Bool)
 first|replace H:=kz Ny159 H|rw [<- Ny159.out] at H
 obtain⟨t162,A5,H⟩:=qE H
 try dsimp only at H
 have H':=aM H
 clear H
 go_enter Try.func57,Try.ntmps57
 go_wp2_with (first|((with_reducible refine jd 11 rfl ?_);refine Kd.R_make Kd.bool _ 4 rfl (N:=11) rfl 65 _ _ rfl 12 rfl rfl Try.underlying65 (.bool false) 1 info4 rfl (by decide) (by omega) false (ok:=fun _=>True) (okp:=fun _=>True) rfl (fun _ hk=>hk) trivial (by omega) (by omega) (Below.refl _ _) (Nat.le_refl _) ?_;intro v160 w6 ho7 hb hg_ hnew_;clear hg_ hnew_;(first|rw [<- Ny159.out] at ho7|(simp only [Int.reduceToNat] at ho7;rw [<- Ny159.out] at ho7));have HO161:=kL ho7;replace HB:=kH hb;clear hb ho7)|((with_reducible refine jc 80 14 rfl rfl ?_);refine jG Try.func80 #[.slice A0 l0.length c0,.int .i64 a2] ?_;(with_reducible refine (Sl31Next.calls k _ _ l0 a2 t162 _ ?side1 ?side2 A5.out).mono ?_);(case side1=>exact kC (Kd.C_below HR0.out HB.out));(case side2=>exact HC0.out);rintro e w8 ⟨v163,rfl,ho0,hb⟩;refine⟨_,rfl,?_⟩;have HO164:=kL ho0;replace HO161:=kR HO161 hb;replace HB:=kH hb;clear hb;(try clear ho0)))
 go_loopg [9] k (fun kq v9 w'=>∃ (x7_1:List Bool) (x9_1:Int),v9 = .int .i64 x9_1/\Aside0 (Sl32After.l0 kq l1 x7_1 t162 x9_1=some r)/\Aside0 (kq<=k)/\Aside0 (Kd.R Kd.bool 4 w' w.heap.size (fun _=>True) v160 x7_1)/\Aside0 (Kd.R (Kd.int .i64) 3 w' w.heap.size (fun _=>True) v163 t162)/\Aside0 (Below w.heap.size w w'))
 case atStart=>exact⟨(y159),(0),qZ,H',⟨Nat.le_refl _⟩,⟨qR HO161⟩,⟨qR HO164⟩,⟨qB⟩⟩
 clear H'
 try clear c1;try clear c4b0;try clear c4b1
 obtain⟨x7_1,x9_1,rfl,HA,HK1,HO_7,HO_8,HB⟩:=hrel
 rcases gk with _|k1
 ·exact absurd HA.out (by simp [Sl32After.l0])
 have H:=HA.out
 clear HA
 simp only [Sl32After.l0] at H
 replace H:=jD H;rcases H with ⟨c9b0,H⟩ | ⟨c9b0,H⟩
 ·have H':=aM H
  clear H
  obtain⟨Ao10,co10,eo10⟩:=Kd.R_slice HO_8.out
  subst eo10
  go_wp2
  go_loopg [10] k1 (fun kq v10 w'=>∃ (x7_2:List Bool) (x10_2:Int),v10 = .int .i64 x10_2/\Aside0 (Sl32After.l1 kq l1 x7_2 t162 x9_1 x10_2=some r)/\Aside0 (kq<=k1)/\Aside0 (Kd.R Kd.bool 4 w' w.heap.size (fun _=>True) v160 x7_2)/\Aside0 (Kd.R (Kd.int .i64) 3 w' w.heap.size (fun _=>True) (.slice Ao10 t162.length co10) t162)/\Aside0 (Below w.heap.size w w'))
  case atStart=>exact⟨(x7_1),(0),qZ,H',⟨Nat.le_refl _⟩,⟨qR HO_7⟩,⟨qR HO_8⟩,⟨qB⟩⟩
  clear H'
  try clear c1;try clear c4b0;try clear c4b1;try clear c9b0
  obtain⟨x7_2,x10_2,rfl,HA,HK2,HO_7,HO_8,HB⟩:=hrel
  rcases gk with _|k2
  ·exact absurd HA.out (by simp [Sl32After.l1])
  have H:=HA.out
  clear HA
  simp only [Sl32After.l1] at H
  replace H:=jD H;rcases H with ⟨c11b0,H⟩ | ⟨c11b0,H⟩
  ·replace H:=jI H;obtain⟨c12b0,H⟩:=H
   replace H:=jI H;obtain⟨c13b0,H⟩:=H
   obtain⟨bq14,hbq14⟩:∃ b_:Bool,b_=(rdOf false x7_2 x10_2):=⟨_,rfl⟩
   replace H:(if bq14=true then (Sl32After.l1 k2 l1 (x7_2.set (x10_2:Int).toNat true) t162 x9_1 (wrap64 (x10_2+1))) else (if 0<=x9_1 then (if x9_1 < (t162.length:Int) then (if 0<=(rd t162 x9_1) then (if (rd t162 x9_1) < (l1.length:Int) then (if x10_2 < ((rd_L4 l1 (rd t162 x9_1)).length:Int) then (Sl32After.l1 k2 l1 (x7_2.set (x10_2:Int).toNat (rdOf false (rd_L4 l1 (rd t162 x9_1)) x10_2)) t162 x9_1 (wrap64 (x10_2+1))) else (none)) else (none)) else (none)) else (none)) else (none)))=some r:=by rw [<- hbq14] at H;exact H
   have Nbq14:=aM hbq14;clear hbq14
   replace H:=jB H;rcases H with ⟨rfl,H⟩ | ⟨rfl,H⟩
   ·obtain⟨y166,Ny166⟩:=ky ((x7_2.set (x10_2:Int).toNat true):List Bool)
    first|replace H:=kz Ny166 H|rw [<- Ny166.out] at H
    have H':=aM H
    clear H
    obtain⟨Ao17,co17,eo17⟩:=Kd.R_slice HO_7.out
    subst eo17
    have p165:0<=(x10_2:Int):=qD
    have q165:x10_2 < (x7_2.length:Int):=qD
    obtain⟨ad165,e165,hx165_0⟩:=Kd.at_bool (Kd.R_reads' HO_7.out).2.2 x10_2 p165 q165
    (try rw [<- Nbq14.out] at hx165_0)
    cases e165
    replace p165:=eq_true p165
    replace q165:=eq_true q165
    have p16:0<=(x10_2:Int):=qD
    have q16:(x10_2:Int) < ((x7_2.length:Int):Int):=qD
    obtain⟨go16,co16,eo16,gb16,gl16,cl16,HG16⟩:=Kd.R_form HO_7.out (by omega)
    (first|cases eo16|(injection eo16 with ea_ en_ ec_;(first|subst ea_|(injection ea_ with ea_;subst ea_));subst ec_;clear en_))
    have GB16:=aM gb16
    have GG16:=aM HG16
    clear gb16 gl16 HG16
    (first|simp only [add_plain] at hx165_0|skip)
    obtain⟨hx16_0,hf16_0⟩:=Kd.R_celln false HO_7.out (x10_2:Int) p16 q16
    replace p16:=eq_true p16
    replace q16:=eq_true q16
    have HP18:=Kd.R_putg HO_7.out (x10_2:Int) true
    go_wp2_with (first|((with_reducible refine gate_store (t:=4) (p:=43) rfl ?_);refine store_event (t:=4) (p:=43) (v:=?vo_w19) (w1:=(wr.setCell ⟨go16,(x10_2:Int).toNat,none⟩ (.bool true))) ?hg ?ho ?hn ?hr ?_;(case ho=>rfl);(case hg=>rfl);(case hn=>rfl);(case hr=>first|(go_simp;done)|(go_simp;rfl));intro w_0a hw;have hg:wr.grownBy w_0a (some go16):=(by rw [hw];exact HP18.2);have hp_:Kd.R Kd.bool 4 w_0a w.heap.size (fun _=>True) (.slice (some ⟨go16,0,none⟩) x7_2.length co17) y166:=(by rw [hw,Ny166.out];exact HP18.1);clear HP18;replace HO_8:=aM (Kd.R_over' (v:=(.slice (some ⟨go16,0,none⟩) x7_2.length co17)) (qR HO_8) (Kd.R_typed HO_7.out) (by decide) hg);replace HO_7:=aM hp_;replace HB:=aM ((by rw [hw];exact below_set (HB.out) GB16.out:Below w.heap.size w w_0a));clear hg hw hp_))
    go_roundg k2
    case measure=>have:=HK1.out;have:=HK2.out;omega
    exact⟨_,_,qZ,H',⟨by have:=HK1.out;have:=HK2.out;omega⟩,⟨qR HO_7⟩,⟨qR HO_8⟩,⟨qB⟩⟩
   replace H:=jI H;obtain⟨c20b0,H⟩:=H
   replace H:=jI H;obtain⟨c21b0,H⟩:=H
   replace H:=jI H;obtain⟨c22b0,H⟩:=H
   replace H:=jI H;obtain⟨c23b0,H⟩:=H
   replace H:=jI H;obtain⟨c24b0,H⟩:=H
   obtain⟨y170,Ny170⟩:=ky ((x7_2.set (x10_2:Int).toNat (rdOf false (rd_L4 l1 (rd t162 x9_1)) x10_2)):List Bool)
   first|replace H:=kz Ny170 H|rw [<- Ny170.out] at H
   have H':=aM H
   clear H
   obtain⟨Ao26,co26,eo26⟩:=Kd.R_slice HO_7.out
   subst eo26
   have p165:0<=(x10_2:Int):=qD
   have q165:x10_2 < (x7_2.length:Int):=qD
   obtain⟨ad165,e165,hx165_0⟩:=Kd.at_bool (Kd.R_reads' HO_7.out).2.2 x10_2 p165 q165
   (try rw [<- Nbq14.out] at hx165_0)
   cases e165
   replace p165:=eq_true p165
   replace q165:=eq_true q165
   have p167:0<=(x9_1:Int):=qD
   have q167:x9_1 < (t162.length:Int):=qD
   obtain⟨ad167,e167,hx167_0⟩:=Kd.at_int (Kd.R_reads' HO_8.out).2.2 x9_1 p167 q167
   cases e167
   replace p167:=eq_true p167
   replace q167:=eq_true q167
   have p168:0<=((rd t162 x9_1):Int):=qD
   have q168:(rd t162 x9_1) < (l1.length:Int):=qD
   obtain⟨ad168,A168_0,c168_0,e168,hx168_0,hl168_0,hi168_0⟩:=at_L4 HR1.out (rd t162 x9_1) p168 q168
   cases e168
   replace hx168_0:=kx HB hx168_0
   have HR168_0:=aM hi168_0
   have HC168_0:=aM hl168_0
   clear hi168_0 hl168_0
   replace p168:=eq_true p168
   replace q168:=eq_true q168
   have p169:0<=(x10_2:Int):=qD
   have q169:x10_2 < ((rd_L4 l1 (rd t162 x9_1)).length:Int):=qD
   obtain⟨ad169,e169,hx169_0⟩:=Kd.at_bool HR168_0.out x10_2 p169 q169
   (try rw [<- Nbq14.out] at hx169_0)
   cases e169
   replace hx169_0:=kx HB hx169_0
   replace p169:=eq_true p169
   replace q169:=eq_true q169
   have p25:0<=(x10_2:Int):=qD
   have q25:(x10_2:Int) < ((x7_2.length:Int):Int):=qD
   obtain⟨go25,co25,eo25,gb25,gl25,cl25,HG25⟩:=Kd.R_form HO_7.out (by omega)
   (first|cases eo25|(injection eo25 with ea_ en_ ec_;(first|subst ea_|(injection ea_ with ea_;subst ea_));subst ec_;clear en_))
   have GB25:=aM gb25
   have GG25:=aM HG25
   clear gb25 gl25 HG25
   (first|simp only [add_plain] at hx165_0|skip)
   obtain⟨hx25_0,hf25_0⟩:=Kd.R_celln false HO_7.out (x10_2:Int) p25 q25
   replace p25:=eq_true p25
   replace q25:=eq_true q25
   have HP27:=Kd.R_putg HO_7.out (x10_2:Int) (rdOf false (rd_L4 l1 (rd t162 x9_1)) x10_2)
   go_wp2_with (first|((with_reducible refine gate_store (t:=4) (p:=43) rfl ?_);refine store_event (t:=4) (p:=43) (v:=?vo_w28) (w1:=(wr.setCell ⟨go25,(x10_2:Int).toNat,none⟩ (.bool (rdOf false (rd_L4 l1 (rd t162 x9_1)) x10_2)))) ?hg ?ho ?hn ?hr ?_;(case ho=>rfl);(case hg=>rfl);(case hn=>rfl);(case hr=>first|(go_simp;done)|(go_simp;rfl));intro w_0a hw;have hg:wr.grownBy w_0a (some go25):=(by rw [hw];exact HP27.2);have hp_:Kd.R Kd.bool 4 w_0a w.heap.size (fun _=>True) (.slice (some ⟨go25,0,none⟩) x7_2.length co26) y170:=(by rw [hw,Ny170.out];exact HP27.1);clear HP27;replace HO_8:=aM (Kd.R_over' (v:=(.slice (some ⟨go25,0,none⟩) x7_2.length co26)) (qR HO_8) (Kd.R_typed HO_7.out) (by decide) hg);replace HO_7:=aM hp_;replace HB:=aM ((by rw [hw];exact below_set (HB.out) GB25.out:Below w.heap.size w w_0a));clear hg hw hp_))
   go_roundg k2
   case measure=>have:=HK1.out;have:=HK2.out;omega
   exact⟨_,_,qZ,H',⟨by have:=HK1.out;have:=HK2.out;omega⟩,⟨qR HO_7⟩,⟨qR HO_8⟩,⟨qB⟩⟩
  have H':=aM H
  clear H
  go_wp2
  go_roundg k2
  case measure=>have:=HK1.out;have:=HK2.out;omega
  exact⟨(x7_2),(wrap64 (x9_1+1)),qZ,H',⟨by have:=HK1.out;have:=HK2.out;omega⟩,⟨qR HO_7⟩,⟨qR HO_8⟩,⟨qB⟩⟩
 obtain rfl:=Option.some.inj H
 obtain⟨Ao29,co29,eo29⟩:=Kd.R_slice HO_8.out
 subst eo29
 go_wp2
 go_ret
 exact⟨_,by first|rfl|(simp [errW_none,errW_some] <;> rfl)|(simp [*,errW_none,errW_some] <;> rfl),qR HO_7,qB⟩
end Go.Proofs.Ytahbkldagpfcaaa.M
namespace Go.Proofs.Ytahbkldagpfcaaa.M
open Go.RowKit Go.Proofs.YtahbkldagpfcaaaW.PrintWords Go.Proofs.YtahbkldagpfcaaaW.PrintLast Go.Proofs.YtahbkldagpfcaaaW.PrintMore
attribute [local go_sem] max2_int min2_int max_two min_two max_three min_three max_four min_four
def SQuadUses.j0:Nat->Int->Bool->Int->Int->Int->Int->Int->Option (List Int)
 | 0,_,_,_,_,_,_,_=>none
 | k+1,x8,x9,xa,xb,xc,xd,xe=>if x9=true then (some (([xc]:List Int))) else (if x8=3 then (if xc=xd then (some (([xc]:List Int))) else (some (([mn xc xd,mx xc xd]:List Int)))) else (some (([]:List Int))))
def SQuadUses.f (k:Nat) (a0_0:Int) (a0_1:Int) (a0_2:Int) (a0_3:Int) (a0_4:Int):Option (List Int):=(SQuadValid.f a0_0 a0_1 a0_2 a0_3 a0_4 600).bind fun t172=>(if t172=true then (if a0_0=2 then (SQuadUses.j0 k a0_0 (a0_0 == 2) a0_0 a0_1 a0_2 a0_3 a0_4) else (if a0_0=5 then (SQuadUses.j0 k a0_0 (a0_0 == 5) a0_0 a0_1 a0_2 a0_3 a0_4) else (if a0_0=6 then (SQuadUses.j0 k a0_0 (a0_0 == 6) a0_0 a0_1 a0_2 a0_3 a0_4) else (SQuadUses.j0 k a0_0 (a0_0 == 9) a0_0 a0_1 a0_2 a0_3 a0_4)))) else (some (([]:List Int))))
theorem SQuadUses.mono_l:∀ k,(∀ y0 y1 y2 y3 y4 y5 y6,LeO (SQuadUses.j0 k y0 y1 y2 y3 y4 y5 y6) (SQuadUses.j0 (k+1) y0 y1 y2 y3 y4 y5 y6))
 | 0=>fun _ _ _ _ _ _ _ r h=>by simp [SQuadUses.j0] at h
 | k+1=>by
  have ih0:=SQuadUses.mono_l k
  intros;unfold SQuadUses.j0;exact mM
theorem SQuadUses.mono:∀ a0 a1 a2 a3 a4 k,LeO (SQuadUses.f k a0 a1 a2 a3 a4) (SQuadUses.f (k+1) a0 a1 a2 a3 a4):=by
 intro a0 a1 a2 a3 a4 k;have ih0:=SQuadUses.mono_l k;unfold SQuadUses.f;exact mM
theorem SQuadUses.calls (k:Nat) (a0_0:Int) (a0_1:Int) (a0_2:Int) (a0_3:Int) (a0_4:Int) (r:List Int) (w:World) (h:SQuadUses.f k a0_0 a0_1 a0_2 a0_3 a0_4=some r) :
  Calls Try.prog 62 #[.agg #[.int .i64 a0_0,.int .i64 a0_1,.int .i64 a0_2,.int .i64 a0_3,.int .i64 a0_4]] w fun e w'=>∃ v0_:Value,e = .returned (v0_)/\Kd.R (Kd.int .i64) 3 w' w.heap.size (fun _=>True) v0_ r/\Below w.heap.size w w':=by
 have hu46:=Try.underlying46
 have HB:=aM (Below.refl w.heap.size w)
 have H:=h;unfold SQuadUses.f at H
 clear h
 obtain⟨t172,A2,H⟩:=qE H
 try dsimp only at H
 replace H:=jB H;rcases H with ⟨rfl,H⟩ | ⟨rfl,H⟩
 ·have HC4:=aM H
  clear H
  go_enter Try.func62,Try.ntmps62
  go_upto_if 9 with (first|((with_reducible refine jd 1 rfl ?_);refine jX _ 46 ?_;intro gb171 hg w5 hbox hb;have BK171:=aM hbox;have GW171:=kG hg;replace HB:=kH hb;clear hb hbox hg;have cz6:=jz5 BK171)|((with_reducible refine jc 54 4 rfl rfl ?_);refine jG Try.func54 #[.agg #[.int .i64 a0_0,.int .i64 a0_1,.int .i64 a0_2,.int .i64 a0_3,.int .i64 a0_4],.int .i64 600] ?_;(with_reducible refine (SQuadValid.calls a0_0 a0_1 a0_2 a0_3 a0_4 600 true _ A2.out).mono ?_);rintro e w7 ⟨rfl,hb⟩;refine⟨_,rfl,?_⟩;replace BK171:=kB BK171 hb;replace HB:=kH hb;clear hb;have cz8:=jz5 BK171))
  (try simp only [Act.put,List.setIfInBounds_toArray,List.set_cons_zero,List.set_cons_succ])
  go_cut [9] (fun v9 wc=>∃ (kq:Nat) (x9_3:Bool),v9 = .bool x9_3/\Aside0 (SQuadUses.j0 kq a0_0 x9_3 a0_0 a0_1 a0_2 a0_3 a0_4=some r)/\Aside0 (kq<=k)/\Aside0 (wc.heap[gb171]?=some (.cells #[.int .i64 a0_0,.int .i64 a0_1,.int .i64 a0_2,.int .i64 a0_3,.int .i64 a0_4] 46 (0,0)))/\Aside0 (Below w.heap.size w wc))
  case first =>
   have H:=HC4.out
   clear HC4
   replace H:=jE H;rcases H with ⟨c9b0,c9b1,H⟩ | ⟨c9,c9b0,c9b1,H⟩
   ·(first|rw [c9b0]|(simp only [i64_w,i32_w];rw [c9b0])|skip)
    have H':=aM H
    clear H
    go_wp2
    go_meet
    exact⟨_,((a0_0 == 2)),qZ,H',⟨by first|omega|exact Nat.le_refl _⟩,⟨qK BK171⟩,⟨qB⟩⟩
   (first|rw [c9b0]|(simp only [i64_w,i32_w];rw [c9b0])|skip)
   replace H:=jE H;rcases H with ⟨c10b0,c10b1,H⟩ | ⟨c10,c10b0,c10b1,H⟩
   ·have H':=aM H
    clear H
    go_wp2
    go_meet
    exact⟨_,((a0_0 == 5)),qZ,H',⟨by first|omega|exact Nat.le_refl _⟩,⟨qK BK171⟩,⟨qB⟩⟩
   replace H:=jE H;rcases H with ⟨c11b0,c11b1,H⟩ | ⟨c11,c11b0,c11b1,H⟩
   ·have H':=aM H
    clear H
    go_wp2
    go_meet
    exact⟨_,((a0_0 == 6)),qZ,H',⟨by first|omega|exact Nat.le_refl _⟩,⟨qK BK171⟩,⟨qB⟩⟩
   have H':=aM H
   clear H
   go_wp2
   go_meet
   exact⟨_,((a0_0 == 9)),qZ,H',⟨by first|omega|exact Nat.le_refl _⟩,⟨qK BK171⟩,⟨qB⟩⟩
  clear HC4
  try clear cz6;try clear cz8
  obtain⟨kq,x9_3,rfl,HA,HJ3,BK171,HB⟩:=hcut
  cases kq with
  | zero=>exact absurd HA.out (by simp [SQuadUses.j0])
  | succ kj3 =>
   have H:=HA.out
   clear HA
   simp only [SQuadUses.j0] at H
   replace H:=jB H;rcases H with ⟨rfl,H⟩ | ⟨rfl,H⟩
   ·obtain⟨y176,Ny176⟩:=ky ((([a0_2]:List Int)):List Int)
    first|replace H:=kz Ny176 H|rw [<- Ny176.out] at H
    obtain rfl:=Option.some.inj H
    have cz13:=jz5 BK171
    go_wp2_with (first|((with_reducible refine jd 16 rfl ?_);refine jV (Kd.int .i64) 3 ([a0_2]:List Int) [.int .i64 a0_2] (Reps.one (show Kd.M (Kd.int .i64) _ _ _ a0_2 [.int .i64 a0_2] from rfl) (Reps.none _ _)) ?_;intro v177 w14 ho15 hb;(first|rw [<- Ny176.out] at ho15|(simp only [Int.reduceToNat] at ho15;rw [<- Ny176.out] at ho15));have HO178:=kL ho15;replace BK171:=kB BK171 hb;replace HB:=kH hb;clear hb ho15))
    go_ret
    exact⟨_,by first|rfl|(simp [errW_none,errW_some] <;> rfl)|(simp [*,errW_none,errW_some] <;> rfl),qR HO178,qB⟩
   replace H:=jE H;rcases H with ⟨c16b0,c16b1,H⟩ | ⟨c16,c16b0,c16b1,H⟩
   ·replace H:=jE H;rcases H with ⟨c17b0,c17b1,H⟩ | ⟨c17,c17b0,c17b1,H⟩
    ·obtain⟨y179,Ny179⟩:=ky ((([a0_2]:List Int)):List Int)
     first|replace H:=kz Ny179 H|rw [<- Ny179.out] at H
     obtain rfl:=Option.some.inj H
     have cz18:=jz5 BK171
     go_wp2_with (first|((with_reducible refine jd 26 rfl ?_);refine jV (Kd.int .i64) 3 ([a0_2]:List Int) [.int .i64 a0_2] (Reps.one (show Kd.M (Kd.int .i64) _ _ _ a0_2 [.int .i64 a0_2] from rfl) (Reps.none _ _)) ?_;intro v180 w19 ho20 hb;(first|rw [<- Ny179.out] at ho20|(simp only [Int.reduceToNat] at ho20;rw [<- Ny179.out] at ho20));have HO181:=kL ho20;replace BK171:=kB BK171 hb;replace HB:=kH hb;clear hb ho20))
     go_ret
     exact⟨_,by first|rfl|(simp [errW_none,errW_some] <;> rfl)|(simp [*,errW_none,errW_some] <;> rfl),qR HO181,qB⟩
    obtain⟨ji21,hji21⟩:∃ j_:Int,(mn a0_2 a0_3)=j_:=⟨_,rfl⟩
    replace H:(some (([ji21,mx a0_2 a0_3]:List Int)))=some r:=by first|(rw [hji21] at H;exact H)|(simp only [hji21] at H ⊢;exact H)
    have hji21_:(if a0_3 < a0_2 then a0_3 else a0_2)=ji21:=hji21
    obtain⟨ji22,hji22⟩:∃ j_:Int,(mx a0_2 a0_3)=j_:=⟨_,rfl⟩
    replace H:(some (([ji21,ji22]:List Int)))=some r:=by first|(rw [hji22] at H;exact H)|(simp only [hji22] at H ⊢;exact H)
    have hji22_:(if a0_2 < a0_3 then a0_3 else a0_2)=ji22:=hji22
    obtain⟨y182,Ny182⟩:=ky ((([ji21,ji22]:List Int)):List Int)
    first|replace H:=kz Ny182 H|rw [<- Ny182.out] at H
    obtain rfl:=Option.some.inj H
    have cz23:=jz5 BK171
    go_wp2_with (first|((with_reducible refine jd 37 rfl ?_);refine jV (Kd.int .i64) 3 ([ji21,ji22]:List Int) [.int .i64 ji21,.int .i64 ji22] (Reps.one (show Kd.M (Kd.int .i64) _ _ _ ji21 [.int .i64 ji21] from rfl) (Reps.one (show Kd.M (Kd.int .i64) _ _ _ ji22 [.int .i64 ji22] from rfl) (Reps.none _ _))) ?_;intro v183 w24 ho25 hb;(first|rw [<- Ny182.out] at ho25|(simp only [Int.reduceToNat] at ho25;rw [<- Ny182.out] at ho25));have HO184:=kL ho25;replace BK171:=kB BK171 hb;replace HB:=kH hb;clear hb ho25))
    go_ret
    exact⟨_,by first|rfl|(simp [errW_none,errW_some] <;> rfl)|(simp only [<- hji21,<- hji22];first|rfl|(simp [errW_none,errW_some] <;> rfl))|(simp [*,errW_none,errW_some] <;> rfl),qR HO184,qB⟩
   obtain⟨y185,Ny185⟩:=ky ((([]:List Int)):List Int)
   first|replace H:=kz Ny185 H|rw [<- Ny185.out] at H
   obtain rfl:=Option.some.inj H
   go_wp2_with (first|((with_reducible refine jd 38 rfl ?_);refine jV (Kd.int .i64) 3 ([]:List Int) [] (Reps.none _ _) ?_;intro v186 w26 ho27 hb;(first|rw [<- Ny185.out] at ho27|(simp only [Int.reduceToNat] at ho27;rw [<- Ny185.out] at ho27));have HO187:=kL ho27;replace BK171:=kB BK171 hb;replace HB:=kH hb;clear hb ho27))
   go_ret
   exact⟨_,by first|rfl|(simp [errW_none,errW_some] <;> rfl)|(simp [*,errW_none,errW_some] <;> rfl),qR HO187,qB⟩
 obtain⟨y173,Ny173⟩:=ky ((([]:List Int)):List Int)
 first|replace H:=kz Ny173 H|rw [<- Ny173.out] at H
 obtain rfl:=Option.some.inj H
 go_enter Try.func62,Try.ntmps62
 go_wp2_with (first|((with_reducible refine jd 1 rfl ?_);refine jX _ 46 ?_;intro gb171 hg w28 hbox hb;have BK171:=aM hbox;have GW171:=kG hg;replace HB:=kH hb;clear hb hbox hg;have cz29:=jz5 BK171)|((with_reducible refine jc 54 4 rfl rfl ?_);refine jG Try.func54 #[.agg #[.int .i64 a0_0,.int .i64 a0_1,.int .i64 a0_2,.int .i64 a0_3,.int .i64 a0_4],.int .i64 600] ?_;(with_reducible refine (SQuadValid.calls a0_0 a0_1 a0_2 a0_3 a0_4 600 false _ A2.out).mono ?_);rintro e w30 ⟨rfl,hb⟩;refine⟨_,rfl,?_⟩;replace BK171:=kB BK171 hb;replace HB:=kH hb;clear hb)|((with_reducible refine jd 6 rfl ?_);refine jV (Kd.int .i64) 3 ([]:List Int) [] (Reps.none _ _) ?_;intro v174 w31 ho32 hb;(first|rw [<- Ny173.out] at ho32|(simp only [Int.reduceToNat] at ho32;rw [<- Ny173.out] at ho32));have HO175:=kL ho32;replace BK171:=kB BK171 hb;replace HB:=kH hb;clear hb ho32))
 go_ret
 exact⟨_,by first|rfl|(simp [errW_none,errW_some] <;> rfl)|(simp [*,errW_none,errW_some] <;> rfl),qR HO175,qB⟩
mutual
def Sl32Before.j0:Nat->List Bool->Int->Int->Int->Int->Int->Option (List Bool)
 | 0,_,_,_,_,_,_=>none
 | k+1,x5,xa,xb,xc,xd,xe=>(SQuadUses.f k xa xb xc xd xe).bind fun t198=>(Sl32Before.l0 k x5 t198 0)
def Sl32Before.l0:Nat->List Bool->List Int->Int->Option (List Bool)
 | 0,_,_,_=>none
 | k+1,x5,x6,x7=>if x7 < (x6.length:Int) then (if 0<=x7 then (if 0<=(rd x6 x7) then (if (rd x6 x7) < (x5.length:Int) then (Sl32Before.l0 k (x5.set ((rd x6 x7):Int).toNat true) x6 (wrap64 (x7+1))) else (none)) else (none)) else (none)) else (some x5)
end
def Sl32Before.f (k:Nat) (a0_0:Int) (a0_1:Int) (a0_2:Int) (a0_3:Int) (a0_4:Int) (l1:List Bool):Option (List Bool):=(some (([]:List Bool):List Bool)).bind fun y189=>(if y189.length+l1.length < 140737488355328 then ((some (y189 ++ l1:List Bool)).bind fun y192=>((SQuadSets.f a0_0 a0_1 a0_2 a0_3 a0_4).bind fun t195=>(if t195>=0 then ((SQuadSets.f a0_0 a0_1 a0_2 a0_3 a0_4).bind fun t196=>(if 0<=t196 then (if t196 < (y192.length:Int) then (Sl32Before.j0 k (y192.set (t196:Int).toNat false) a0_0 a0_1 a0_2 a0_3 a0_4) else (none)) else (none))) else (Sl32Before.j0 k y192 a0_0 a0_1 a0_2 a0_3 a0_4)))) else (none))
theorem Sl32Before.mono_l:∀ k,(∀ y0 y1 y2 y3 y4 y5,LeO (Sl32Before.j0 k y0 y1 y2 y3 y4 y5) (Sl32Before.j0 (k+1) y0 y1 y2 y3 y4 y5))/\(∀ y0 y1 y2,LeO (Sl32Before.l0 k y0 y1 y2) (Sl32Before.l0 (k+1) y0 y1 y2))
 | 0=>⟨fun _ _ _ _ _ _ r h=>by simp [Sl32Before.j0] at h,fun _ _ _ r h=>by simp [Sl32Before.l0] at h⟩
 | k+1=>by
  obtain⟨ih0,ih1⟩:=Sl32Before.mono_l k;have m0:=@SQuadUses.mono
  exact⟨by intros;unfold Sl32Before.j0;exact mM,by intros;unfold Sl32Before.l0;exact mM⟩
theorem Sl32Before.mono:∀ a0 a1 a2 a3 a4 a5 k,LeO (Sl32Before.f k a0 a1 a2 a3 a4 a5) (Sl32Before.f (k+1) a0 a1 a2 a3 a4 a5):=by
 intro a0 a1 a2 a3 a4 a5 k;obtain⟨ih0,ih1⟩:=Sl32Before.mono_l k;unfold Sl32Before.f;have m0:=@SQuadUses.mono;exact mM
theorem Sl32Before.calls (k:Nat) (a0_0:Int) (a0_1:Int) (a0_2:Int) (a0_3:Int) (a0_4:Int) (A1:Option Addr) (c1:Nat) (l1:List Bool) (r:List Bool) (w:World) (hr1:Kd.C Kd.bool w A1 l1.length l1) (hc1:l1.length<=c1) (h:Sl32Before.f k a0_0 a0_1 a0_2 a0_3 a0_4 l1=some r) :
  Calls Try.prog 102 #[.agg #[.int .i64 a0_0,.int .i64 a0_1,.int .i64 a0_2,.int .i64 a0_3,.int .i64 a0_4],.slice A1 l1.length c1] w fun e w'=>∃ v0_:Value,e = .returned (v0_)/\Kd.R Kd.bool 4 w' w.heap.size (fun _=>True) v0_ r/\Below w.heap.size w w':=by
 have hu46:=Try.underlying46
 have HR1:=aM hr1
 have HC1:=aM hc1
 clear hr1 hc1
 have HB:=aM (Below.refl w.heap.size w)
 have H:=h;unfold Sl32Before.f at H
 clear h
 obtain⟨y189,Ny189⟩:=ky ((([]:List Bool)):List Bool)
 first|replace H:=kz Ny189 H|rw [<- Ny189.out] at H
 replace H:=jL H;obtain⟨LMc3,H⟩:=H
 obtain⟨y192,Ny192⟩:=ky ((y189 ++ l1):List Bool)
 first|replace H:=kz Ny192 H|rw [<- Ny192.out] at H
 obtain⟨t195,A4,H⟩:=qE H
 try dsimp only at H
 have HC5:=aM H
 clear H
 go_enter Try.func102,Try.ntmps102
 go_upto_if 13 with (first|((with_reducible refine jd 2 rfl ?_);refine jX _ 46 ?_;intro gb188 hg w6 hbox hb;have BK188:=aM hbox;have GW188:=kG hg;replace HB:=kH hb;clear hb hbox hg)|((with_reducible refine jd 8 rfl ?_);refine jV Kd.bool 4 ([]:List Bool) [] (Reps.none _ _) ?_;intro v190 w7 ho8 hb;(first|rw [<- Ny189.out] at ho8|(simp only [Int.reduceToNat] at ho8;rw [<- Ny189.out] at ho8));have HO191:=kL ho8;replace BK188:=kB BK188 hb;replace HB:=kH hb;clear hb ho8)|((with_reducible refine gate_builtin (b:=.append) (xs:=#[.tmp 8,.tmp 9]) rfl ?_);at_builtin;refine Kd.R_append_rows Kd.bool (w0:=w) w.heap.size rfl (.tmp 8) (.tmp 9) 65 4 (.bool false) 1 rfl Try.underlying65 info4 rfl (by decide) (by omega) v190 y189 l1 _ _ _ (fun _=>True) (fun _=>False) rfl rfl ?aO ?aR (fun _ _ h=>h) (fun _ h=>h.elim) ?aF ?aB ?aS ?aL ?_;(case aR=>exact kC (Kd.C_below HR1.out HB.out));(case aB=>exact qB);(case aF=>exact (fun _ _=>trivial));(case aO=>exact (qR HO191));(case aS=>exact (below_size qB));(case aL=>have:=LMc3.out;omega);intro v193 w9 ho hb hg hat;rw [<- Ny192.out] at ho;have HO194:=aM ho;replace BK188:=aM (blk_grown (g:=gb188) (o:=.cells #[.int .i64 a0_0,.int .i64 a0_1,.int .i64 a0_2,.int .i64 a0_3,.int .i64 a0_4] 46 (0,0)) (qK BK188) hg (Kd.R_ne HO191.out BK188.out (by decide)));replace HB:=aM hb;clear HO191;clear ho hb hg hat;have cz10:=jz5 BK188)|((with_reducible refine jc 61 12 rfl rfl ?_);refine jG Try.func61 #[.agg #[.int .i64 a0_0,.int .i64 a0_1,.int .i64 a0_2,.int .i64 a0_3,.int .i64 a0_4]] ?_;(with_reducible refine (SQuadSets.calls a0_0 a0_1 a0_2 a0_3 a0_4 t195 _ A4.out).mono ?_);rintro e w11 ⟨rfl,hb⟩;refine⟨_,rfl,?_⟩;replace HO194:=kR HO194 hb;replace BK188:=kB BK188 hb;replace HB:=kH hb;clear hb))
 (try simp only [Act.put,List.setIfInBounds_toArray,List.set_cons_zero,List.set_cons_succ])
 go_cut [] (fun wc=>∃ (kq:Nat) (x5_4:List Bool),Aside0 (Sl32Before.j0 kq x5_4 a0_0 a0_1 a0_2 a0_3 a0_4=some r)/\Aside0 (kq<=k)/\Aside0 (Kd.R Kd.bool 4 wc w.heap.size (fun _=>True) v193 x5_4)/\Aside0 (wc.heap[gb188]?=some (.cells #[.int .i64 a0_0,.int .i64 a0_1,.int .i64 a0_2,.int .i64 a0_3,.int .i64 a0_4] 46 (0,0)))/\Aside0 (Below w.heap.size w wc))
 case first =>
  have H:=HC5.out
  clear HC5
  replace H:=jD H;rcases H with ⟨c12b0,H⟩ | ⟨c12b0,H⟩
  ·(first|rw [c12b0]|(simp only [i64_w,i32_w];rw [c12b0])|skip)
   obtain⟨t196,A13,H⟩:=qE H
   try dsimp only at H
   replace H:=jI H;obtain⟨c14b0,H⟩:=H
   replace H:=jI H;obtain⟨c15b0,H⟩:=H
   obtain⟨y197,Ny197⟩:=ky ((y192.set (t196:Int).toNat false):List Bool)
   first|replace H:=kz Ny197 H|rw [<- Ny197.out] at H
   have H':=aM H
   clear H
   have cz17:=jz5 BK188
   go_wp2_with (first|((with_reducible refine jc 61 16 rfl rfl ?_);refine jG Try.func61 #[.agg #[.int .i64 a0_0,.int .i64 a0_1,.int .i64 a0_2,.int .i64 a0_3,.int .i64 a0_4]] ?_;(with_reducible refine (SQuadSets.calls _ _ _ _ _ _ _ (Aside0.out (by assumption))).mono ?_);rintro e w_0a ⟨rfl,hb⟩;refine⟨_,rfl,?_⟩;replace HO194:=kR HO194 hb;replace BK188:=kB BK188 hb;replace HB:=kH hb;clear hb;have p16:0<=(t196:Int):=qD;have q16:(t196:Int) < ((y192.length:Int):Int):=qD;obtain⟨go16,c_0b,e_0c,gb16,gl16,cl16,HG16⟩:=Kd.R_form HO194.out (by omega);(first|cases e_0c|(injection e_0c with ea_ en_ ec_;(first|subst ea_|(injection ea_ with ea_;subst ea_));subst ec_;clear en_));have GB16:=aM gb16;have GG16:=aM HG16;clear gb16 gl16 HG16;obtain⟨hx16_0,hf16_0⟩:=Kd.R_celln false HO194.out (t196:Int) p16 q16;replace p16:=eq_true p16;replace q16:=eq_true q16;obtain⟨hy19_,hz19_⟩:=Kd.R_celln false HO194.out (t196:Int) (qD) (qD);have HP19:=Kd.R_putg HO194.out (t196:Int) false)|((with_reducible refine gate_store (t:=4) (p:=17) rfl ?_);refine store_event (t:=4) (p:=17) (v:=?vo_w20) (w1:=(w_0a.setCell ⟨go16,(t196:Int).toNat,none⟩ (.bool false))) ?hg ?ho ?hn ?hr ?_;(case ho=>rfl);(case hg=>rfl);(case hn=>rfl);(case hr=>first|(go_simp;done)|(go_simp;rfl));intro w_1a hw;have hg:w_0a.grownBy w_1a (some go16):=(by rw [hw];exact HP19.2);have hp_:Kd.R Kd.bool 4 w_1a w.heap.size (fun _=>True) (.slice (some ⟨go16,0,none⟩) y192.length c_0b) y197:=(by rw [hw,Ny197.out];exact HP19.1);clear HP19;replace BK188:=aM (blk_grown (g:=gb188) (o:=.cells #[.int .i64 a0_0,.int .i64 a0_1,.int .i64 a0_2,.int .i64 a0_3,.int .i64 a0_4] 46 (0,0)) (qK BK188) hg (Kd.R_ne HO194.out BK188.out (by decide)));replace HO194:=aM hp_;replace HB:=aM ((by rw [hw];exact below_set (HB.out) GB16.out:Below w.heap.size w w_1a));clear hg hw hp_))
   go_meet
   exact⟨_,_,H',⟨by first|omega|exact Nat.le_refl _⟩,⟨qR HO194⟩,⟨qK BK188⟩,⟨qB⟩⟩
  (first|rw [c12b0]|(simp only [i64_w,i32_w];rw [c12b0])|skip)
  have H':=aM H
  clear H
  go_wp2
  go_meet
  exact⟨_,(y192),H',⟨by first|omega|exact Nat.le_refl _⟩,⟨qR HO194⟩,⟨qK BK188⟩,⟨qB⟩⟩
 clear HC5
 try clear c1;try clear cz10
 obtain⟨kq,x5_4,HA,HJ4,HO_5,BK188,HB⟩:=hcut
 cases kq with
 | zero=>exact absurd HA.out (by simp [Sl32Before.j0])
 | succ kj4 =>
  have H:=HA.out
  clear HA
  simp only [Sl32Before.j0] at H
  obtain⟨t198,A21,H⟩:=qE H
  try dsimp only at H
  have H':=aM H
  clear H
  have cz22:=jz5 BK188
  go_wp2_with (first|((with_reducible refine jc 62 19 rfl rfl ?_);refine jG Try.func62 #[.agg #[.int .i64 a0_0,.int .i64 a0_1,.int .i64 a0_2,.int .i64 a0_3,.int .i64 a0_4]] ?_;(with_reducible refine (SQuadUses.calls kj4 a0_0 a0_1 a0_2 a0_3 a0_4 t198 _ A21.out).mono ?_);rintro e w23 ⟨v199,rfl,ho0,hb⟩;refine⟨_,rfl,?_⟩;have HO200:=kL ho0;replace HO_5:=kR HO_5 hb;replace BK188:=kB BK188 hb;replace HB:=kH hb;clear hb;(try clear ho0)))
  go_loopg [7] kj4 (fun kq v7 w'=>∃ (x5_2:List Bool) (x7_2:Int),v7 = .int .i64 x7_2/\Aside0 (Sl32Before.l0 kq x5_2 t198 x7_2=some r)/\Aside0 (kq<=kj4)/\Aside0 (Kd.R Kd.bool 4 w' w.heap.size (fun _=>True) v193 x5_2)/\Aside0 (Kd.R (Kd.int .i64) 3 w' w.heap.size (fun _=>True) v199 t198)/\Aside0 (w'.heap[gb188]?=some (.cells #[.int .i64 a0_0,.int .i64 a0_1,.int .i64 a0_2,.int .i64 a0_3,.int .i64 a0_4] 46 (0,0)))/\Aside0 (Below w.heap.size w w'))
  case atStart=>exact⟨(x5_4),(0),qZ,H',⟨Nat.le_refl _⟩,⟨qR HO_5⟩,⟨qR HO200⟩,⟨qK BK188⟩,⟨qB⟩⟩
  clear H'
  try clear c1;try clear cz10;try clear cz22
  obtain⟨x5_2,x7_2,rfl,HA,HK2,HO_5,HO_6,BK188,HB⟩:=hrel
  rcases gk with _|k2
  ·exact absurd HA.out (by simp [Sl32Before.l0])
  have H:=HA.out
  clear HA
  simp only [Sl32Before.l0] at H
  replace H:=jD H;rcases H with ⟨c24b0,H⟩ | ⟨c24b0,H⟩
  ·replace H:=jI H;obtain⟨c25b0,H⟩:=H
   replace H:=jI H;obtain⟨c26b0,H⟩:=H
   replace H:=jI H;obtain⟨c27b0,H⟩:=H
   obtain⟨y202,Ny202⟩:=ky ((x5_2.set ((rd t198 x7_2):Int).toNat true):List Bool)
   first|replace H:=kz Ny202 H|rw [<- Ny202.out] at H
   have H':=aM H
   clear H
   obtain⟨Ao29,co29,eo29⟩:=Kd.R_slice HO_6.out
   subst eo29
   have p201:0<=(x7_2:Int):=qD
   have q201:x7_2 < (t198.length:Int):=qD
   obtain⟨ad201,e201,hx201_0⟩:=Kd.at_int (Kd.R_reads' HO_6.out).2.2 x7_2 p201 q201
   cases e201
   replace p201:=eq_true p201
   replace q201:=eq_true q201
   have p28:0<=((rd t198 x7_2):Int):=qD
   have q28:((rd t198 x7_2):Int) < ((x5_2.length:Int):Int):=qD
   obtain⟨go28,co28,eo28,gb28,gl28,cl28,HG28⟩:=Kd.R_form HO_5.out (by omega)
   (first|cases eo28|(injection eo28 with ea_ en_ ec_;(first|subst ea_|(injection ea_ with ea_;subst ea_));subst ec_;clear en_))
   have GB28:=aM gb28
   have GG28:=aM HG28
   clear gb28 gl28 HG28
   obtain⟨hx28_0,hf28_0⟩:=Kd.R_celln false HO_5.out ((rd t198 x7_2):Int) p28 q28
   replace p28:=eq_true p28
   replace q28:=eq_true q28
   have HP30:=Kd.R_putg HO_5.out ((rd t198 x7_2):Int) true
   go_wp2_with (first|((with_reducible refine gate_store (t:=4) (p:=31) rfl ?_);refine store_event (t:=4) (p:=31) (v:=?vo_w31) (w1:=(wr.setCell ⟨go28,((rd t198 x7_2):Int).toNat,none⟩ (.bool true))) ?hg ?ho ?hn ?hr ?_;(case ho=>rfl);(case hg=>rfl);(case hn=>rfl);(case hr=>first|(go_simp;done)|(go_simp;rfl));intro w_2a hw;have hg:wr.grownBy w_2a (some go28):=(by rw [hw];exact HP30.2);have hp_:Kd.R Kd.bool 4 w_2a w.heap.size (fun _=>True) (.slice (some ⟨go28,0,none⟩) x5_2.length co28) y202:=(by rw [hw,Ny202.out];exact HP30.1);clear HP30;replace HO_6:=aM (Kd.R_over' (v:=(.slice (some ⟨go28,0,none⟩) x5_2.length co28)) (qR HO_6) (Kd.R_typed HO_5.out) (by decide) hg);replace BK188:=aM (blk_grown (g:=gb188) (o:=.cells #[.int .i64 a0_0,.int .i64 a0_1,.int .i64 a0_2,.int .i64 a0_3,.int .i64 a0_4] 46 (0,0)) (qK BK188) hg (Kd.R_ne HO_5.out BK188.out (by decide)));replace HO_5:=aM hp_;replace HB:=aM ((by rw [hw];exact below_set (HB.out) GB28.out:Below w.heap.size w w_2a));clear hg hw hp_))
   go_roundg k2
   case measure=>have:=HJ4.out;have:=HK2.out;omega
   exact⟨_,_,qZ,H',⟨by have:=HJ4.out;have:=HK2.out;omega⟩,⟨qR HO_5⟩,⟨qR HO_6⟩,⟨qK BK188⟩,⟨qB⟩⟩
  obtain rfl:=Option.some.inj H
  obtain⟨Ao32,co32,eo32⟩:=Kd.R_slice HO_6.out
  subst eo32
  go_wp2
  go_ret
  exact⟨_,by first|rfl|(simp [errW_none,errW_some] <;> rfl)|(simp [*,errW_none,errW_some] <;> rfl),qR HO_5,qB⟩
def Sl32Same.l0:Nat->List Bool->List Bool->Int->Option (Bool)
 | 0,_,_,_=>none
 | k+1,x0,x1,x5=>if x5 < (x0.length:Int) then (if 0<=x5 then (if x5 < (x1.length:Int) then (if ((rdOf false x0 x5) != (rdOf false x1 x5))=true then (some false) else (Sl32Same.l0 k x0 x1 (wrap64 (x5+1)))) else (none)) else (none)) else (some ((x0.length:Int) == (x1.length:Int)))
def Sl32Same.f (k:Nat) (l0:List Bool) (l1:List Bool):Option (Bool):=Sl32Same.l0 k l0 l1 0
theorem Sl32Same.mono_l:∀ k,(∀ y0 y1 y2,LeO (Sl32Same.l0 k y0 y1 y2) (Sl32Same.l0 (k+1) y0 y1 y2))
 | 0=>fun _ _ _ r h=>by simp [Sl32Same.l0] at h
 | k+1=>by
  have ih0:=Sl32Same.mono_l k
  intros;unfold Sl32Same.l0;exact mM
theorem Sl32Same.mono:∀ a0 a1 k,LeO (Sl32Same.f k a0 a1) (Sl32Same.f (k+1) a0 a1):=by
 intro a0 a1 k;have ih0:=Sl32Same.mono_l k;unfold Sl32Same.f;exact mM
theorem Sl32Same.calls (k:Nat) (A0:Option Addr) (c0:Nat) (l0:List Bool) (A1:Option Addr) (c1:Nat) (l1:List Bool) (r:Bool) (w:World) (hr0:Kd.C Kd.bool w A0 l0.length l0) (hc0:l0.length<=c0) (hr1:Kd.C Kd.bool w A1 l1.length l1) (hc1:l1.length<=c1) (h:Sl32Same.f k l0 l1=some r) :
  Calls Try.prog 103 #[.slice A0 l0.length c0,.slice A1 l1.length c1] w fun e w'=>e = .returned (.bool r)/\Drawn0 w w':=by
 have HR0:=aM hr0
 have HC0:=aM hc0
 clear hr0 hc0
 have HR1:=aM hr1
 have HC1:=aM hc1
 clear hr1 hc1
 have H:(Sl32Same.l0 k l0 l1 0)=some r:=h
 clear h
 have H':=aM H
 clear H
 go_enter Try.func103,Try.ntmps103
 go_wp2
 repeat (go_quiet (fail);try go_wp2)
 go_loopg [5] k (fun kq v5 w'=>∃ (x5_1:Int),v5 = .int .i64 x5_1/\Aside0 (Sl32Same.l0 kq l0 l1 x5_1=some r)/\Aside0 (kq<=k)/\Drawn0 w w')
 case atStart=>exact⟨(0),qZ,H',⟨Nat.le_refl _⟩,by repeat (first|exact Drawn0.refl _|apply Drawn0.step)⟩
 clear H'
 try clear c1
 obtain⟨x5_1,rfl,HA,HK1,⟨m1,rfl⟩⟩:=hrel
 rcases gk with _|k1
 ·exact absurd HA.out (by simp [Sl32Same.l0])
 have H:=HA.out
 clear HA
 simp only [Sl32Same.l0] at H
 replace H:=jD H;rcases H with ⟨c3b0,H⟩ | ⟨c3b0,H⟩
 ·replace H:=jI H;obtain⟨c4b0,H⟩:=H
  replace H:=jI H;obtain⟨c5b0,H⟩:=H
  by_cases c6:((rdOf false l0 x5_1) != (rdOf false l1 x5_1))=true
  ·rw [if_pos c6] at H
   have c6b0:((rdOf false l0 x5_1) != (rdOf false l1 x5_1))=true:=c6
   (try (have c6b1:decide ((rdOf false l0 x5_1)=(rdOf false l1 x5_1))=false:=by simpa using c6))
   (try (have c6b2:((rdOf false l0 x5_1) == (rdOf false l1 x5_1))=false:=by simpa using c6))
   (try (have c6b3:¬ ((rdOf false l0 x5_1)=(rdOf false l1 x5_1)):=by simpa using c6))
   clear c6
   obtain rfl:=Option.some.inj H
   have p203:0<=(x5_1:Int):=qD
   have q203:x5_1 < (l0.length:Int):=qD
   obtain⟨ad203,e203,hx203_0⟩:=Kd.at_bool HR0.out x5_1 p203 q203
   cases e203
   replace p203:=eq_true p203
   replace q203:=eq_true q203
   have p204:0<=(x5_1:Int):=qD
   have q204:x5_1 < (l1.length:Int):=qD
   obtain⟨ad204,e204,hx204_0⟩:=Kd.at_bool HR1.out x5_1 p204 q204
   cases e204
   replace p204:=eq_true p204
   replace q204:=eq_true q204
   go_wp2
   repeat (go_quiet (fail);try go_wp2)
   go_ret
   exact⟨qZ,qU⟩
  rw [if_neg c6] at H
  have c6b0:((rdOf false l0 x5_1) != (rdOf false l1 x5_1))=false:=by simpa using c6
  (try (have c6b1:decide ((rdOf false l0 x5_1)=(rdOf false l1 x5_1))=true:=by simpa using c6))
  (try (have c6b2:((rdOf false l0 x5_1) == (rdOf false l1 x5_1))=true:=by simpa using c6))
  clear c6
  have H':=aM H
  clear H
  have p203:0<=(x5_1:Int):=qD
  have q203:x5_1 < (l0.length:Int):=qD
  obtain⟨ad203,e203,hx203_0⟩:=Kd.at_bool HR0.out x5_1 p203 q203
  cases e203
  replace p203:=eq_true p203
  replace q203:=eq_true q203
  have p204:0<=(x5_1:Int):=qD
  have q204:x5_1 < (l1.length:Int):=qD
  obtain⟨ad204,e204,hx204_0⟩:=Kd.at_bool HR1.out x5_1 p204 q204
  cases e204
  replace p204:=eq_true p204
  replace q204:=eq_true q204
  go_wp2
  repeat (go_quiet (fail);try go_wp2)
  go_roundg k1
  case measure=>have:=HK1.out;omega
  exact⟨(wrap64 (x5_1+1)),qZ,H',⟨by have:=HK1.out;omega⟩,by repeat (first|exact Drawn0.refl _|apply Drawn0.step)⟩
 obtain rfl:=Option.some.inj H
 go_wp2
 repeat (go_quiet (fail);try go_wp2)
 go_ret
 exact⟨qZ,qU⟩
def Sl32Round.l0:Nat->List (S46)->List (List Bool)->Bool->Int->Option (Bool × (List (List Bool)))
 | 0,_,_,_,_=>none
 | k+1,x0,x1,x5,x6=>if x6>=0 then (if 0<=x6 then (if x6 < (x0.length:Int) then ((Sl32After.f k x0 x1 x6).bind fun t206=>((Sl32Before.f k ((rd_T46 x0 x6).f0) ((rd_T46 x0 x6).f1) ((rd_T46 x0 x6).f2) ((rd_T46 x0 x6).f3) ((rd_T46 x0 x6).f4) t206).bind fun t209=>(if x6 < (x1.length:Int) then ((Sl32Same.f k t209 (rd_L4 x1 x6)).bind fun t213=>(if t213=true then (Sl32Round.l0 k x0 x1 x5 (wrap64 (x6 - 1))) else (Sl32Round.l0 k x0 (x1.set (x6:Int).toNat t209) true (wrap64 (x6 - 1))))) else (none)))) else (none)) else (none)) else (some (x5,x1))
def Sl32Round.f (k:Nat) (l0:List (S46)) (l1:List (List Bool)):Option (Bool × (List (List Bool))):=Sl32Round.l0 k l0 l1 false (wrap64 ((l0.length:Int) - 1))
theorem Sl32Round.mono_l:∀ k,(∀ y0 y1 y2 y3,LeO (Sl32Round.l0 k y0 y1 y2 y3) (Sl32Round.l0 (k+1) y0 y1 y2 y3))
 | 0=>fun _ _ _ _ r h=>by simp [Sl32Round.l0] at h
 | k+1=>by
  have ih0:=Sl32Round.mono_l k;have m0:=@Sl32After.mono;have m1:=@Sl32Before.mono;have m2:=@Sl32Same.mono
  intros;unfold Sl32Round.l0;exact mM
theorem Sl32Round.mono:∀ a0 a1 k,LeO (Sl32Round.f k a0 a1) (Sl32Round.f (k+1) a0 a1):=by
 intro a0 a1 k;have ih0:=Sl32Round.mono_l k;unfold Sl32Round.f;have m0:=@Sl32After.mono;have m1:=@Sl32Before.mono;have m2:=@Sl32Same.mono;exact mM
def Sl32Round.T5:Bool × List (List Nat × List Nat):=(true,[([],[]),([],[]),([0,1],[0,1]),([2],[2]),([],[]),([],[]),([],[]),([4,5,6],[4,5,6]),([3,7,7],[3,7]),([8,8,0,1,2,3,4,5,6,7,8],[8])])
def Sl32Round.B5:List Nat:=[0,0,3,7,0,0,0,112,255,511]
theorem Sl32Round.tab5:rtab .any (opsOf Try.f79 5)=Sl32Round.T5:=by kernel_rfl
theorem Sl32Round.bits5:waitsOk Sl32Round.T5.2 Sl32Round.B5=true:=by kernel_rfl
theorem Sl32Round.calls (k:Nat) (A0:Option Addr) (c0:Nat) (l0:List (S46)) (P1_:Nat->Prop) (u9000_:Value) (l1:List (List Bool)) (r1:Bool) (r2:List (List Bool)) (w0 w:World) (hB:Below w0.heap.size w0 w) (hr0:∀ W_,Kept w W_ (fun k_=>P1_ k_)->Kd.C k46 W_ A0 l0.length l0) (hc0:l0.length<=c0) (ho1:Kd.S (Kd.slice 4 Kd.bool) 65 w w0.heap.size P1_ u9000_ l1) (h:Sl32Round.f k l0 l1=some (r1,r2)) :
  Calls Try.prog 79 #[.slice A0 l0.length c0,u9000_] w fun e w'=>e = .returned (.bool r1)/\Kd.S (Kd.slice 4 Kd.bool) 65 w' w0.heap.size (fun k_=>(P1_ k_\/w.heap.size<=k_)) u9000_ r2/\Below w0.heap.size w0 w'/\Kept w w' (fun k_=>P1_ k_):=by
 have hu46:=Try.underlying46
 have HR0:=aM hr0
 have HC0:=aM hc0
 clear hr0 hc0
 have HO1:=aM (show Kd.S (Kd.slice 4 Kd.bool) 65 w w0.heap.size (fun k_=>(P1_ k_\/w.heap.size<=k_)) u9000_ l1 from Kd.S_mono ho1 (fun k_ hk=>(.inl hk)))
 have HK:=aM (Kept.refl w (fun k_=>P1_ k_))
 have HW0:=aM hB.size
 have HB:=aM hB
 clear hB
 have H:=h;unfold Sl32Round.f at H
 clear h
 have H':=aM H
 clear H
 go_enter Try.func79,Try.ntmps79
 go_wp2
 go_loopg [5,6] k (fun kq v5 v6 w'=>∃ (x1_1:List (List Bool)) (x5_1:Bool) (x6_1:Int),v5 = .bool x5_1/\v6 = .int .i64 x6_1/\Aside0 (Sl32Round.l0 kq l0 x1_1 x5_1 x6_1=some (r1,r2))/\Aside0 (kq<=k)/\Aside0 (Kd.S (Kd.slice 4 Kd.bool) 65 w' w0.heap.size (fun k_=>(P1_ k_\/w.heap.size<=k_)) u9000_ x1_1)/\Aside0 (Kept w w' (fun k_=>P1_ k_))/\Aside0 (Below w0.heap.size w0 w'))
 case atStart=>exact⟨(l1),(false),(wrap64 ((l0.length:Int) - 1)),qZ,qZ,H',⟨Nat.le_refl _⟩,⟨qS HO1⟩,⟨qT⟩,⟨qB⟩⟩
 clear H'
 obtain⟨x1_1,x5_1,x6_1,rfl,rfl,HA,HK1,HO_1,HK,HB⟩:=hrel
 rcases gk with _|k1
 ·exact absurd HA.out (by simp [Sl32Round.l0])
 have H:=HA.out
 clear HA
 simp only [Sl32Round.l0] at H
 replace H:=jD H;rcases H with ⟨c3b0,H⟩ | ⟨c3b0,H⟩
 ·replace H:=jI H;obtain⟨c4b0,H⟩:=H
  replace H:=jI H;obtain⟨c5b0,H⟩:=H
  obtain⟨t206,A6,H⟩:=qE H
  try dsimp only at H
  obtain⟨t209,A7,H⟩:=qE H
  try dsimp only at H
  replace H:=jI H;obtain⟨c8b0,H⟩:=H
  obtain⟨t213,A9,H⟩:=qE H
  try dsimp only at H
  have HXe0:=aM H;clear H
  try go_wp2
  replace HO_1:=aM (Kd.S_drew HO_1.out)
  replace HK:=aM (Kept.drew HK.out)
  replace HB:=aM (below_drew1 HB.out)
  have p205:0<=(x6_1:Int):=qD
  have q205:x6_1 < (l0.length:Int):=qD
  obtain⟨ad205,e205,hx205_0,hx205_1,hx205_2,hx205_3,hx205_4⟩:=at_T46 (Kd.C_kept_now HR0.out HK.out) x6_1 p205 q205
  have hw205_4:=hx205_4
  have hw205_3:=hx205_3
  have hw205_2:=hx205_2
  have hw205_1:=hx205_1
  have hw205_0:=hx205_0
  cases e205
  replace p205:=eq_true p205
  replace q205:=eq_true q205
  obtain⟨Ao12,co12,eo12⟩:=Kd.S_slice HO_1.out
  (first|subst eo12|(injection eo12 with f1_ f2_ f3_;have f4_:=f1_.symm;have f5_:=f3_.symm;clear f1_ f2_ f3_;subst f4_;subst f5_))
  refine start_ (n:=10) (S:=fun w'=>w'.cell? (ad205.add ((x6_1).toNat*5))=some (.int .i64 ((rd_T46 l0 x6_1).f0))/\w'.cell? ⟨(ad205.add ((x6_1).toNat*5)).block,(ad205.add ((x6_1).toNat*5)).off+1,none⟩=some (.int .i64 ((rd_T46 l0 x6_1).f1))/\w'.cell? ⟨(ad205.add ((x6_1).toNat*5)).block,(ad205.add ((x6_1).toNat*5)).off+2,none⟩=some (.int .i64 ((rd_T46 l0 x6_1).f2))/\w'.cell? ⟨(ad205.add ((x6_1).toNat*5)).block,(ad205.add ((x6_1).toNat*5)).off+3,none⟩=some (.int .i64 ((rd_T46 l0 x6_1).f3))/\w'.cell? ⟨(ad205.add ((x6_1).toNat*5)).block,(ad205.add ((x6_1).toNat*5)).off+4,none⟩=some (.int .i64 ((rd_T46 l0 x6_1).f4))) (ds:=[]) (jb 10 0) (by kernel_rfl) rfl rfl ⟨(foot_T46_0 (HR0.out _ (by repeat (first|exact HK.out|apply Kept.alloc|apply Kept.drewN|apply Kept.drew))) x6_1 (of_eq_true p205) (of_eq_true q205)),(foot_T46_1 (HR0.out _ (by repeat (first|exact HK.out|apply Kept.alloc|apply Kept.drewN|apply Kept.drew))) x6_1 (of_eq_true p205) (of_eq_true q205)),(foot_T46_2 (HR0.out _ (by repeat (first|exact HK.out|apply Kept.alloc|apply Kept.drewN|apply Kept.drew))) x6_1 (of_eq_true p205) (of_eq_true q205)),(foot_T46_3 (HR0.out _ (by repeat (first|exact HK.out|apply Kept.alloc|apply Kept.drewN|apply Kept.drew))) x6_1 (of_eq_true p205) (of_eq_true q205)),(foot_T46_4 (HR0.out _ (by repeat (first|exact HK.out|apply Kept.alloc|apply Kept.drewN|apply Kept.drew))) x6_1 (of_eq_true p205) (of_eq_true q205))⟩ (fun hHeld=>?_);refine with_tabW Sl32Round.tab5 Sl32Round.bits5 (fun HT_ HW_=>?_)
  generalize wr.drew=w11 at HO_1 HK HB hx205_0 hx205_1 hx205_2 hx205_3 hx205_4 hHeld ⊢
  refine jp 0 15 (jb 10 1) ?_
  refine jp 1 16 (jb 10 3) ?_
  refine jp 2 17 (jb 10 7) ?_
  refine jp 4 19 (jb 10 23) ?_
  refine jp 5 20 (jb 10 55) ?_
  refine jp 6 21 (jb 10 119) ?_
  refine jt 3 18 (jb 10 127) ?_
  refine one_ (i:=7) (N:=some 22) (jb 10 255) rfl rfl (one_of HT_.out (by kernel_rfl)) (by decide) (fun K hK=>?_)
  refine goes_ Try.func57 (by kernel_rfl) rfl #[.slice (some ad205) l0.length c0,.slice Ao12 x1_1.length co12,.int .i64 x6_1] (by rfl) rfl rfl qM ?_
  with_reducible refine (Sl32After.calls k1 _ _ l0 _ _ x1_1 x6_1 t206 _ ?side1 ?side2 ?side3 ?side4 A6.out).mono ?_
  (case side1=>exact Kd.C_kept_now HR0.out qT)
  (case side2=>exact HC0.out)
  (case side3=>exact kC (Kd.S_reads' HO_1.out).2.2)
  (case side4=>exact (Kd.S_reads' HO_1.out).2.1)
  rintro e w13 ⟨v207,rfl,ho0,hb⟩
  refine⟨_,rfl,?_⟩
  have HO208:=aM (Kd.R_lower (Kd.R_newM (M:=fun k_=>(P1_ k_\/w.heap.size<=k_)) ho0 (by first|exact HK.out.1|exact (show Kept w _ (fun k_=>P1_ k_) from qT).1) (fun k_ h_=>.inr h_)) (below_size qB))
  replace HO_1:=aM (Kd.S_elder' (qS HO_1) (Kd.R_base ho0) hb)
  replace HK:=kT hb
  replace HB:=kH hb
  (try clear hb)
  (try clear hb2)
  (try clear hk)
  (try clear hi)
  (try clear ho0)
  obtain⟨Ao14,co14,eo14⟩:=Kd.R_slice HO208.out
  (first|subst eo14|(injection eo14 with f1_ f2_ f3_;have f4_:=f1_.symm;have f5_:=f3_.symm;clear f1_ f2_ f3_;subst f4_;subst f5_))
  refine hK.out _ _ ⟨(foot_T46_0 (HR0.out _ (by repeat (first|exact HK.out|apply Kept.alloc|apply Kept.drewN|apply Kept.drew))) x6_1 (of_eq_true p205) (of_eq_true q205)),(foot_T46_1 (HR0.out _ (by repeat (first|exact HK.out|apply Kept.alloc|apply Kept.drewN|apply Kept.drew))) x6_1 (of_eq_true p205) (of_eq_true q205)),(foot_T46_2 (HR0.out _ (by repeat (first|exact HK.out|apply Kept.alloc|apply Kept.drewN|apply Kept.drew))) x6_1 (of_eq_true p205) (of_eq_true q205)),(foot_T46_3 (HR0.out _ (by repeat (first|exact HK.out|apply Kept.alloc|apply Kept.drewN|apply Kept.drew))) x6_1 (of_eq_true p205) (of_eq_true q205)),(foot_T46_4 (HR0.out _ (by repeat (first|exact HK.out|apply Kept.alloc|apply Kept.drewN|apply Kept.drew))) x6_1 (of_eq_true p205) (of_eq_true q205))⟩ (fun hHeld=>?_)
  clear hK K
  refine norm_ (a':=?_) ?_ ?_
  rotate_left
  ·show Act.put _ (some 22) _=_
   simp only [Act.put,List.setIfInBounds_toArray,List.set_cons_zero,List.set_cons_succ,i64_w,i32_w]
   rfl
  refine one_ (i:=8) (N:=some 23) (jb 10 511) rfl rfl (one_of HT_.out (by kernel_rfl)) (by decide) (fun K hK=>?_)
  refine goes_ Try.func102 (by kernel_rfl) rfl #[.agg #[.int .i64 ((rd_T46 l0 x6_1).f0),.int .i64 ((rd_T46 l0 x6_1).f1),.int .i64 ((rd_T46 l0 x6_1).f2),.int .i64 ((rd_T46 l0 x6_1).f3),.int .i64 ((rd_T46 l0 x6_1).f4)],.slice Ao14 t206.length co14] (by rfl) rfl rfl qM ?_
  with_reducible refine (Sl32Before.calls k1 ((rd_T46 l0 x6_1).f0) ((rd_T46 l0 x6_1).f1) ((rd_T46 l0 x6_1).f2) ((rd_T46 l0 x6_1).f3) ((rd_T46 l0 x6_1).f4) _ _ t206 t209 _ ?side1 ?side2 A7.out).mono ?_
  (case side1=>exact kC (Kd.R_reads' HO208.out).2.2)
  (case side2=>exact (Kd.R_reads' HO208.out).2.1)
  rintro e w15 ⟨v210,rfl,ho0,hb⟩
  refine⟨_,rfl,?_⟩
  have HO211:=aM (Kd.R_lower (Kd.R_new' (Kd.R_newM (M:=fun k_=>(P1_ k_\/w.heap.size<=k_)) ho0 (by first|exact HK.out.1|exact (show Kept w _ (fun k_=>P1_ k_) from qT).1) (fun k_ h_=>.inr h_)) (Kd.R_lt (qR HO208))) (below_size qB))
  replace HO_1:=aM (Kd.S_elder' (qS HO_1) (Kd.R_base ho0) hb)
  replace HO208:=kO HO208 ho0 hb
  replace HK:=kT hb
  replace HB:=kH hb
  (try clear hb)
  (try clear hb2)
  (try clear hk)
  (try clear hi)
  (try clear ho0)
  refine hK.out _ _ ⟨(foot_T46_0 (HR0.out _ (by repeat (first|exact HK.out|apply Kept.alloc|apply Kept.drewN|apply Kept.drew))) x6_1 (of_eq_true p205) (of_eq_true q205)),(foot_T46_1 (HR0.out _ (by repeat (first|exact HK.out|apply Kept.alloc|apply Kept.drewN|apply Kept.drew))) x6_1 (of_eq_true p205) (of_eq_true q205)),(foot_T46_2 (HR0.out _ (by repeat (first|exact HK.out|apply Kept.alloc|apply Kept.drewN|apply Kept.drew))) x6_1 (of_eq_true p205) (of_eq_true q205)),(foot_T46_3 (HR0.out _ (by repeat (first|exact HK.out|apply Kept.alloc|apply Kept.drewN|apply Kept.drew))) x6_1 (of_eq_true p205) (of_eq_true q205)),(foot_T46_4 (HR0.out _ (by repeat (first|exact HK.out|apply Kept.alloc|apply Kept.drewN|apply Kept.drew))) x6_1 (of_eq_true p205) (of_eq_true q205))⟩ (fun hHeld=>?_)
  clear hK K
  refine norm_ (a':=?_) ?_ ?_
  rotate_left
  ·show Act.put _ (some 23) _=_
   simp only [Act.put,List.setIfInBounds_toArray,List.set_cons_zero,List.set_cons_succ,i64_w,i32_w]
   rfl
  refine jp 9 7 (jb 10 1023) ?_
  refine done_ (done_of HT_.out (by kernel_rfl)) ?_
  have p212:0<=(x6_1:Int):=qD
  have q212:x6_1 < (x1_1.length:Int):=qD
  obtain⟨ad212,A212_0,c212_0,e212,hx212_0,hl212_0,hi212_0⟩:=at_L4 (Kd.S_reads' HO_1.out).2.2 x6_1 p212 q212
  cases e212
  obtain⟨ce212,hce212,hMe212,hcc212⟩:=Kd.S_get HO_1.out [] x6_1 p212 (by first|exact q212|exact qD|(have e_:=(Kd.S_reads' HO_1.out).1;omega))
  obtain⟨ve212_0,rfl,ge212_0⟩:=hMe212
  have hv212_0:=hcc212 0 _ rfl
  rw [Nat.add_zero,show ((Kd.slice 4 Kd.bool)).sz=1 from rfl,Nat.mul_one] at hv212_0
  replace hv212_0:=Option.some.inj (hv212_0.symm.trans hx212_0)
  rw [hv212_0] at ge212_0
  have HL212_0:=aM (show Kd.R Kd.bool 4 _ _ _ _ (rd_L4 x1_1 x6_1) from ge212_0)
  clear hv212_0 ge212_0
  clear hcc212 hce212
  have HR212_0:=aM hi212_0
  have HC212_0:=aM hl212_0
  clear hi212_0 hl212_0
  replace p212:=eq_true p212
  replace q212:=eq_true q212
  obtain⟨Ao16,co16,eo16⟩:=Kd.R_slice HO211.out
  subst eo16
  have H:=HXe0.out;clear HXe0
  replace H:=jB H;rcases H with ⟨rfl,H⟩ | ⟨rfl,H⟩
  ·have H':=aM H
   clear H
   try go_wp2_with (first|((with_reducible refine jc 103 29 rfl rfl ?_);refine jG Try.func103 #[.slice Ao16 t209.length co16,.slice A212_0 (rd_L4 x1_1 x6_1).length c212_0] ?_;(with_reducible refine (Sl32Same.calls k1 _ _ t209 _ _ (rd_L4 x1_1 x6_1) true _ ?side1 ?side2 ?side3 ?side4 A9.out).mono ?_);(case side1=>exact kC (Kd.R_reads' HO211.out).2.2);(case side2=>exact (Kd.R_reads' HO211.out).2.1);(case side3=>repeat (first|exact (kC HR212_0.out)|(with_reducible refine Kd.C_alloc ?_ _)|(with_reducible refine Kd.C_drewN ?_ _)|(with_reducible refine Kd.C_drew ?_)));(case side4=>exact HC212_0.out);rintro e w' ⟨rfl,⟨nd,rfl⟩⟩;refine⟨_,rfl,?_⟩))
   go_roundg k1
   case measure=>have:=HK1.out;omega
   exact⟨(x1_1),(x5_1),(wrap64 (x6_1 - 1)),qZ,qZ,H',⟨by have:=HK1.out;omega⟩,⟨by (with_reducible repeat (first|apply Kd.S_alloc|apply Kd.S_drewN|apply Kd.S_drew));exact Kd.S_mono HO_1.out (fun _ hk=>hk.1.1)⟩,⟨qT⟩,⟨qB⟩⟩
  obtain⟨y214,Ny214⟩:=ky ((x1_1.set (x6_1:Int).toNat t209):List (List Bool))
  first|replace H:=kz Ny214 H|rw [<- Ny214.out] at H
  have H':=aM H
  clear H
  try go_wp2_with (first|((with_reducible refine jc 103 29 rfl rfl ?_);refine jG Try.func103 #[.slice Ao16 t209.length co16,.slice A212_0 (rd_L4 x1_1 x6_1).length c212_0] ?_;(with_reducible refine (Sl32Same.calls k1 _ _ t209 _ _ (rd_L4 x1_1 x6_1) false _ ?side1 ?side2 ?side3 ?side4 A9.out).mono ?_);(case side1=>exact kC (Kd.R_reads' HO211.out).2.2);(case side2=>exact (Kd.R_reads' HO211.out).2.1);(case side3=>repeat (first|exact (kC HR212_0.out)|(with_reducible refine Kd.C_alloc ?_ _)|(with_reducible refine Kd.C_drewN ?_ _)|(with_reducible refine Kd.C_drew ?_)));(case side4=>exact HC212_0.out);rintro e w' ⟨rfl,⟨nd,rfl⟩⟩;refine⟨_,rfl,?_⟩;(try (rw [drewN_self w15];generalize hq_:World.drewN w15 _=w15;have n0_:=aM (Kd.R_drewN HL212_0.out nd);rw [hq_] at n0_;have n1_:=aM (Kd.R_drewN HO208.out nd);rw [hq_] at n1_;have n2_:=aM (Kd.R_drewN HO211.out nd);rw [hq_] at n2_;have n3_:=aM (Kd.S_drewN HO_1.out nd);rw [hq_] at n3_;have n4_:Aside0 (Kept w w15 (fun k_=>P1_ k_)):=⟨by rw [<- hq_];exact qT⟩;have n5_:Aside0 (Below w0.heap.size w0 w15):=⟨by rw [<- hq_];exact qB⟩;have n6_:Aside0 (Kd.C Kd.bool w15 A212_0 (rd_L4 x1_1 x6_1).length (rd_L4 x1_1 x6_1)):=⟨by rw [<- hq_];exact (kC HR212_0.out)⟩;clear HL212_0 HO208 HO211 HO_1 HK HB HR212_0 hq_;have HL212_0:=n0_;have HO208:=n1_;have HO211:=n2_;have HO_1:=n3_;have HK:=n4_;have HB:=n5_;have HR212_0:=n6_;clear n0_ n1_ n2_ n3_ n4_ n5_ n6_));have p17:0<=(x6_1:Int):=qD;have q17:(x6_1:Int) < ((x1_1.length:Int):Int):=qD;obtain⟨go17,co17,eo17,gb17,gl17,cl17,HG17⟩:=Kd.S_form HO_1.out (by omega);(first|cases eo17|(injection eo17 with ea_ en_ ec_;(first|subst ea_|(injection ea_ with ea_;subst ea_));subst ec_;clear en_));have GB17:=aM gb17;have GG17:=aM HG17;clear gb17 gl17 HG17;have HMgo17:=aM (show (P1_ go17\/w.heap.size<=go17) from ((Kd.S_R HO_1.out).1 _ rfl).1.1);(first|simp only [add_plain] at hx212_0|skip);obtain⟨_,ce17,hcl17,hM17,hcc17,hfr17,_,_⟩:=Kd.S_elem HO_1.out [] (x6_1:Int) p17 q17;obtain⟨ve17_0,rfl,ge17_0⟩:=hM17;have hx17_0:=hcc17 0 _ rfl;have hf17_0:=hfr17 0;(try simp only [show ((Kd.slice 4 Kd.bool)).sz=1 from rfl,Nat.mul_one,Nat.add_zero] at hx17_0);(try simp only [show ((Kd.slice 4 Kd.bool)).sz=1 from rfl,Nat.mul_one,Nat.add_zero] at hf17_0);clear hcl17 hcc17 hfr17;(try clear hM17);replace p17:=eq_true p17;replace q17:=eq_true q17;have n_:=aM (Kd.S_mono (ok':=(fun k_=>(P1_ k_\/w.heap.size<=k_)/\some k_≠(.slice Ao14 t206.length co14:Value).ownBlock/\some k_≠(.slice Ao16 t209.length co16:Value).ownBlock)) HO_1.out (by first|exact fun k_ hk=>⟨hk.1.1,⟨hk.1.2,hk.2⟩⟩|exact fun k_ hk=>hk));clear HO_1;have HO_1:=n_;clear n_;have HX24:=aM (show Kd.S (Kd.slice 4 Kd.bool) 65 w15 w0.heap.size (fun k_=>((fun k_=>(P1_ k_\/w.heap.size<=k_)/\some k_≠(.slice Ao14 t206.length co14:Value).ownBlock)) k_/\¬ ((fun k_=>some k_=(.slice Ao16 t209.length co16:Value).ownBlock)) k_) (.slice (some ⟨go17,0,none⟩) x1_1.length co12) x1_1 from (by (with_reducible repeat (first|apply Kd.S_alloc|apply Kd.S_drewN|apply Kd.S_drew));exact Kd.S_mono HO_1.out (by first|exact fun k_ hk=>⟨⟨hk.1,hk.2.1⟩,fun e_=>hk.2.2 e_⟩|exact fun k_ hk=>hk)));obtain⟨oki24,ce24,hcl24,hM24,hcc24,hfr24,hoki24,hH24⟩:=Kd.S_elem HX24.out [] (x6_1:Int) (qD) (by have h_:(x6_1:Int) < ((x1_1.length:Int):Int):=qD;first|exact h_|(have e_:=(Kd.S_reads' HO_1.out).1;omega)|simpa using h_);obtain⟨ve24_0,rfl,ge24_0⟩:=hM24;have HP24:=Kd.S_seg hH24 (qD) (by have h_:(x6_1:Int) < ((x1_1.length:Int):Int):=qD;first|exact h_|(have e_:=(Kd.S_reads' HO_1.out).1;omega)|simpa using h_) (seg:=[.slice Ao16 t209.length co16]) (j:=0) (show 1<=1 from by decide) (x':=t209) (Kd.M_row (Kd.R_mono (Kd.R_tight rfl (Kd.R_mono (ok':=fun k_=>((fun k_=>(P1_ k_\/w.heap.size<=k_)/\some k_≠(.slice Ao14 t206.length co14:Value).ownBlock)) k_/\k_≠go17) (Kd.R_apart' (HO211.out) (Kd.S_typed HO_1.out) (by decide)) (by first|exact fun k_ hk=>⟨⟨hk.1.1.1,hk.1.2⟩,fun e_=>(hk.2) (by rw [e_];rfl)⟩|exact fun k_ hk=>⟨⟨hk.1.1,hk.1.2⟩,fun e_=>(hk.2) (by rw [e_];rfl)⟩))) (fun _ h_=>Or.inr (h_)))) (fun _ hk=>hk) (fun k_ hk_=>((Kd.R_mono (ok':=fun k_=>((fun k_=>(P1_ k_\/w.heap.size<=k_)/\some k_≠(.slice Ao14 t206.length co14:Value).ownBlock)) k_/\k_≠go17) (Kd.R_apart' (HO211.out) (Kd.S_typed HO_1.out) (by decide)) (by first|exact fun k_ hk=>⟨⟨hk.1.1.1,hk.1.2⟩,fun e_=>(hk.2) (by rw [e_];rfl)⟩|exact fun k_ hk=>⟨⟨hk.1.1,hk.1.2⟩,fun e_=>(hk.2) (by rw [e_];rfl)⟩))).1 k_ hk_.symm);have hx24_0:=hcc24 0 _ rfl;(try simp only [show ((Kd.slice 4 Kd.bool)).sz=1 from rfl,Nat.mul_one,Nat.add_zero] at hx24_0);have hf24_0:=hfr24 0;(try simp only [show ((Kd.slice 4 Kd.bool)).sz=1 from rfl,Nat.mul_one,Nat.add_zero] at hf24_0);clear hcl24 hcc24 hfr24 hoki24 hH24;(try clear hM24);(try simp only [show ((Kd.slice 4 Kd.bool)).sz=1 from rfl,Nat.mul_one,Nat.add_zero] at HP24))|((with_reducible refine gate_store (t:=65) (p:=34) rfl ?_);refine store_event (t:=65) (p:=34) (v:=?vo_w25) (w1:=(w15.setCell ⟨go17,(x6_1:Int).toNat,none⟩ (.slice Ao16 t209.length co16))) ?hg ?ho ?hn ?hr ?_;(case ho=>rfl);(case hg=>rfl);(case hn=>rfl);(case hr=>first|(go_simp;done)|(go_simp;rfl));intro w25 hw;have hg:w15.grownBy w25 (some go17):=(by rw [hw];exact HP24.2);have hp_:Kd.S (Kd.slice 4 Kd.bool) 65 w25 w0.heap.size (fun k_=>(P1_ k_\/w.heap.size<=k_)/\some k_≠(.slice Ao14 t206.length co14:Value).ownBlock) (.slice (some ⟨go17,0,none⟩) x1_1.length co12) y214:=(by rw [hw,Ny214.out];exact HP24.1);clear HP24;replace HO208:=aM (Kd.R_over' (v:=(.slice (some ⟨go17,0,none⟩) x1_1.length co12)) (qR HO208) (Kd.S_typed HO_1.out) (by decide) hg);replace HL212_0:=aM (Kd.R_after (v:=(.slice (some ⟨go17,0,none⟩) x1_1.length co12)) (v1:=(.slice (some ⟨go17,0,none⟩) x1_1.length co12)) (ok:=(fun k_=>(P1_ k_\/w.heap.size<=k_)/\some k_≠(.slice Ao14 t206.length co14:Value).ownBlock/\some k_≠(.slice Ao16 t209.length co16:Value).ownBlock)) (by (with_reducible repeat (first|apply Kd.R_alloc|apply Kd.R_drewN|apply Kd.R_drew));exact Kd.R_mono HL212_0.out (fun _ hk=>⟨⟨hk.1.1.1,⟨hk.1.1.2,hk.1.2⟩⟩,hk.2⟩)) hg (.inl rfl));replace HB:=aM ((by rw [hw];exact below_set (HB.out) GB17.out:Below w0.heap.size w0 w25));replace HK:=aM (Kept.of_grown (S:=(fun k_=>P1_ k_)) hg qT (fun k_ e_=>((Kd.S_R HO_1.out).1 k_ e_).1));replace HO_1:=aM hp_;clear HO211;clear hg hw hp_))
  go_roundg k1
  case measure=>have:=HK1.out;omega
  exact⟨(y214),(true),(wrap64 (x6_1 - 1)),qZ,qZ,H',⟨by have:=HK1.out;omega⟩,⟨by (with_reducible repeat (first|apply Kd.S_alloc|apply Kd.S_drewN|apply Kd.S_drew));exact Kd.S_mono HO_1.out (fun _ hk=>hk.1)⟩,⟨qT⟩,⟨qB⟩⟩
 simp only [Option.some.injEq,Prod.mk.injEq] at H
 obtain⟨rfl,rfl⟩:=H
 go_wp2
 go_ret
 exact⟨qW,qS HO_1,qB,qT⟩
mutual
def SLiveOf.l0:Nat->List (S46)->List (List Bool)->Int->Option ((List (List Bool)))
 | 0,_,_,_=>none
 | k+1,x0,x3,x4=>if x4 < (x0.length:Int) then (if 12<=281474976710656 then (if x3.length < 5864062014805 then (SLiveOf.l0 k x0 (x3 ++ [(List.replicate 12 false)]) (wrap64 (x4+1))) else (none)) else (none)) else (SLiveOf.l1 k x0 x3)
def SLiveOf.l1:Nat->List (S46)->List (List Bool)->Option ((List (List Bool)))
 | 0,_,_=>none
 | k+1,x0,x3=>(Sl32Round.f k x0 x3).bind fun bt225=>(if bt225.1=true then (SLiveOf.l1 k x0 bt225.2) else (some bt225.2))
end
def SLiveOf.f (k:Nat) (l0:List (S46)):Option ((List (List Bool))):=(some (([]:List (List Bool)):List (List Bool))).bind fun y215=>((SCodeValid.f k l0).bind fun t218=>(if t218=true then (SLiveOf.l0 k l0 y215 0) else (some y215)))
theorem SLiveOf.mono_l:∀ k,(∀ y0 y1 y2,LeO (SLiveOf.l0 k y0 y1 y2) (SLiveOf.l0 (k+1) y0 y1 y2))/\(∀ y0 y1,LeO (SLiveOf.l1 k y0 y1) (SLiveOf.l1 (k+1) y0 y1))
 | 0=>⟨fun _ _ _ r h=>by simp [SLiveOf.l0] at h,fun _ _ r h=>by simp [SLiveOf.l1] at h⟩
 | k+1=>by
  obtain⟨ih0,ih1⟩:=SLiveOf.mono_l k;have m0:=@SCodeValid.mono;have m1:=@Sl32Round.mono
  exact⟨by intros;unfold SLiveOf.l0;exact mM,by intros;unfold SLiveOf.l1;exact mM⟩
theorem SLiveOf.mono:∀ a0 k,LeO (SLiveOf.f k a0) (SLiveOf.f (k+1) a0):=by
 intro a0 k;obtain⟨ih0,ih1⟩:=SLiveOf.mono_l k;unfold SLiveOf.f;have m0:=@SCodeValid.mono;have m1:=@Sl32Round.mono;exact mM
theorem SLiveOf.calls (k:Nat) (A0:Option Addr) (c0:Nat) (l0:List (S46)) (r:List (List Bool)) (w:World) (hr0:Kd.C k46 w A0 l0.length l0) (hc0:l0.length<=c0) (h:SLiveOf.f k l0=some r) :
  Calls Try.prog 56 #[.slice A0 l0.length c0] w fun e w'=>∃ v0_:Value,e = .returned (v0_)/\Kd.S (Kd.slice 4 Kd.bool) 65 w' w.heap.size (fun _=>True) v0_ r/\Below w.heap.size w w':=by
 have HR0:=aM hr0
 have HC0:=aM hc0
 clear hr0 hc0
 have HB:=aM (Below.refl w.heap.size w)
 have H:=h;unfold SLiveOf.f at H
 clear h
 obtain⟨y215,Ny215⟩:=ky ((([]:List (List Bool))):List (List Bool))
 first|replace H:=kz Ny215 H|rw [<- Ny215.out] at H
 obtain⟨t218,A2,H⟩:=qE H
 try dsimp only at H
 replace H:=jB H;rcases H with ⟨rfl,H⟩ | ⟨rfl,H⟩
 ·have H':=aM H
  clear H
  go_enter Try.func56,Try.ntmps56
  go_wp2_with (first|((with_reducible refine jd 5 rfl ?_);refine Kd.S_lit (Kd.slice 4 Kd.bool) _ 65 ?hg (N:=5) ?hd (xs:=([]:List (List Bool))) (inner:=[]) (ok:=fun _=>True) (okp:=fun _=>True) ?hr ?hp (fun _ hk=>hk) trivial (Below.refl _ _) (Nat.le_refl _) (by simp) ?_;(case hd=>rfl);(case hg=>rfl);(case hr=>first|(go_simp;done)|(go_simp;rfl));(case hp=>exact (Reps.none _ _));intro v216 w4 ho5 hb hg_ hnew_;clear hg_ hnew_;(first|rw [<- Ny215.out] at ho5|(simp only [Int.reduceToNat] at ho5;rw [<- Ny215.out] at ho5));have HO217:=aM (Kd.S_lower ho5 (below_size qB));replace HB:=kH hb;clear hb ho5)|((with_reducible refine jc 29 7 rfl rfl ?_);refine jG Try.func29 #[.slice A0 l0.length c0] ?_;(with_reducible refine (SCodeValid.calls k _ _ l0 true _ ?side1 ?side2 A2.out).mono ?_);(case side1=>exact kC (Kd.C_below HR0.out HB.out));(case side2=>exact HC0.out);rintro e w6 ⟨rfl,hb⟩;refine⟨_,rfl,?_⟩;replace HO217:=kS HO217 hb;replace HB:=kH hb;clear hb))
  go_loopg [3,4] k (fun kq v3 v4 w'=>∃ (x3_1:List (List Bool)) (x4_1:Int),v4 = .int .i64 x4_1/\Aside0 (SLiveOf.l0 kq l0 x3_1 x4_1=some r)/\Aside0 (kq<=k)/\Aside0 (Kd.S (Kd.slice 4 Kd.bool) 65 w' w.heap.size (fun _=>True) v3 x3_1)/\Aside0 (Below w.heap.size w w'))
  case atStart=>exact⟨(y215),(0),qZ,H',⟨Nat.le_refl _⟩,⟨qS HO217⟩,⟨qB⟩⟩
  clear H'
  obtain⟨x3_1,x4_1,rfl,HA,HK1,HO_3,HB⟩:=hrel
  rcases gk with _|k1
  ·exact absurd HA.out (by simp [SLiveOf.l0])
  have H:=HA.out
  clear HA
  simp only [SLiveOf.l0] at H
  replace H:=jD H;rcases H with ⟨c7b0,H⟩ | ⟨c7b0,H⟩
  ·replace H:=jJ H;obtain⟨c8b0,c8b1,H⟩:=H
   obtain⟨y219,Ny219⟩:=ky ((List.replicate 12 false):List Bool)
   first|replace H:=kz Ny219 H|rw [<- Ny219.out] at H
   replace H:=jL H;obtain⟨LMc9,H⟩:=H
   obtain⟨y222,Ny222⟩:=ky ((x3_1 ++ [y219]):List (List Bool))
   first|replace H:=kz Ny222 H|rw [<- Ny222.out] at H
   have H':=aM H
   clear H
   go_wp2_with (first|((with_reducible refine jd 17 rfl ?_);refine Kd.R_make Kd.bool _ 4 rfl (N:=17) rfl 65 _ _ rfl 12 rfl rfl Try.underlying65 (.bool false) 1 info4 rfl (by decide) (by omega) false (ok:=fun _=>True) (okp:=fun _=>True) rfl (fun _ hk=>hk) trivial (by omega) (by omega) (Below.refl _ _) (Nat.le_refl _) ?_;intro v220 w_0a h_0b hb hg_ hnew_;clear hg_ hnew_;(first|rw [<- Ny219.out] at h_0b|(simp only [Int.reduceToNat] at h_0b;rw [<- Ny219.out] at h_0b));have HO221:=kL h_0b;replace HO_3:=aM (Kd.S_elder' (qS HO_3) (Kd.R_base h_0b) hb);replace HB:=kH hb;clear hb h_0b;obtain⟨A_0c,c_0d,e_0e⟩:=Kd.R_slice HO221.out;subst e_0e)|((with_reducible refine gate_builtin (b:=.append) (xs:=#[.tmp 16,.tmp 18]) rfl ?_);at_builtin;refine Kd.S_append (Kd.slice 4 Kd.bool) (w0:=w) w.heap.size rfl (.tmp 16) (.tmp 18) 43 65 (.slice none 0 0) 24 rfl Try.underlying43 info65 rfl (by decide) (by omega) u3 x3_1 y219 [.slice A_0c y219.length c_0d] (fun _=>True) (fun k_=>some k_=(.slice A_0c y219.length c_0d:Value).ownBlock) rfl rfl ?aP (fun k_ hk_=>((Kd.R_mono (ok':=fun k_=>((fun _=>True)) k_/\some k_≠(u3:Value).ownBlock) (Kd.R_apart' (HO221.out) (Kd.S_typed HO_3.out) (by decide)) (fun k_ hk=>⟨trivial,hk.2⟩))).1 k_ hk_.symm) ?aF ?aO ?aB ?aS ?aL ?_;(case aP=>exact Kd.M_row (Kd.R_mono (Kd.R_tight rfl (Kd.R_mono (ok':=fun k_=>((fun _=>True)) k_/\some k_≠(u3:Value).ownBlock) (Kd.R_apart' (HO221.out) (Kd.S_typed HO_3.out) (by decide)) (fun k_ hk=>⟨trivial,hk.2⟩))) (fun _ h_=>h_)));(case aB=>exact qB);(case aF=>exact (fun _ _=>trivial));(case aO=>exact (by (with_reducible repeat (first|apply Kd.S_alloc|apply Kd.S_drewN|apply Kd.S_drew));exact Kd.S_mono HO_3.out (by first|exact fun k_ hk=>⟨trivial,fun e_=>hk.2 e_⟩|exact fun k_ hk=>hk)));(case aS=>exact (below_size qB));(case aL=>have:=LMc9.out;omega);intro v223 w_1a ho hb hg hat;rw [<- Ny222.out] at ho;have HO224:=aM ho;replace HB:=aM hb;clear HO_3 HO221;clear ho hb hg hat))
   go_roundg k1
   case measure=>have:=HK1.out;omega
   exact⟨_,_,qZ,H',⟨by have:=HK1.out;omega⟩,⟨qS HO224⟩,⟨qB⟩⟩
  have H':=aM H
  clear H
  go_wp2
  go_loopg [] k1 (fun kq w'=>∃ (x3_2:List (List Bool)),Aside0 (SLiveOf.l1 kq l0 x3_2=some r)/\Aside0 (kq<=k1)/\Aside0 (Kd.S (Kd.slice 4 Kd.bool) 65 w' w.heap.size (fun _=>True) u3 x3_2)/\Aside0 (Below w.heap.size w w'))
  case atStart=>exact⟨(x3_1),H',⟨Nat.le_refl _⟩,⟨qS HO_3⟩,⟨qB⟩⟩
  clear H'
  try clear c7b0
  obtain⟨x3_2,HA,HK2,HO_3,HB⟩:=hrel
  rcases gk with _|k2
  ·exact absurd HA.out (by simp [SLiveOf.l1])
  have H:=HA.out
  clear HA
  simp only [SLiveOf.l1] at H
  obtain⟨⟨t225,t226⟩,A14,H⟩:=qE H
  try dsimp only at H
  replace H:=jB H;rcases H with ⟨rfl,H⟩ | ⟨rfl,H⟩
  ·have H':=aM H
   clear H
   obtain⟨Ao16,co16,eo16⟩:=Kd.S_slice HO_3.out
   subst eo16
   go_wp2_with (first|((with_reducible refine jc 79 22 rfl rfl ?_);refine jG Try.func79 #[.slice A0 l0.length c0,.slice Ao16 x3_2.length co16] ?_;(with_reducible refine (Sl32Round.calls k2 _ _ l0 ?P200_ (.slice Ao16 x3_2.length co16) x3_2 true t226 w _ ?side1 ?side2 ?side3 ?side4 A14.out).mono ?_);(case side4=>exact Kd.S_bound HO_3.out);(case side1=>exact qB);(case side2=>exact Kd.C_kept_came k46_heap HR0.out qB (fun k_ hs_=>(by first|exact Kd.R_base HO_3.out k_ hs_.symm|exact hs_.2.1)));(case side3=>exact HC0.out);rintro e w_2a ⟨rfl,hy0,hb,hkp⟩;refine⟨_,rfl,?_⟩;replace HO_3:=aM ((by first|exact Kd.S_mono (ok':=fun k_=>True) hy0 (fun k_ h_=>Or.elim h_ (fun h_=>h_.1) (fun h_=>.inr (by first|exact Nat.le_trans HK.out.1 h_|exact Nat.le_trans (below_size HB.out) h_)))|exact Kd.S_mono (ok':=fun k_=>True) hy0 (fun _ _=>trivial)));replace HB:=aM hb;(try clear hb);(try clear hkp);(try clear hy0)))
   go_roundg k2
   case measure=>have:=HK1.out;have:=HK2.out;omega
   exact⟨_,H',⟨by have:=HK1.out;have:=HK2.out;omega⟩,⟨qS HO_3⟩,⟨qB⟩⟩
  obtain rfl:=Option.some.inj H
  obtain⟨Ao18,co18,eo18⟩:=Kd.S_slice HO_3.out
  subst eo18
  go_wp2_with (first|((with_reducible refine jc 79 22 rfl rfl ?_);refine jG Try.func79 #[.slice A0 l0.length c0,.slice Ao18 x3_2.length co18] ?_;(with_reducible refine (Sl32Round.calls k2 _ _ l0 ?P213_ (.slice Ao18 x3_2.length co18) x3_2 false t226 w _ ?side1 ?side2 ?side3 ?side4 A14.out).mono ?_);(case side4=>exact Kd.S_bound HO_3.out);(case side1=>exact qB);(case side2=>exact Kd.C_kept_came k46_heap HR0.out qB (fun k_ hs_=>(by first|exact Kd.R_base HO_3.out k_ hs_.symm|exact hs_.2.1)));(case side3=>exact HC0.out);rintro e w_2a ⟨rfl,hy0,hb,hkp⟩;refine⟨_,rfl,?_⟩;replace HO_3:=aM ((by first|exact Kd.S_mono (ok':=fun k_=>True) hy0 (fun k_ h_=>Or.elim h_ (fun h_=>h_.1) (fun h_=>.inr (by first|exact Nat.le_trans HK.out.1 h_|exact Nat.le_trans (below_size HB.out) h_)))|exact Kd.S_mono (ok':=fun k_=>True) hy0 (fun _ _=>trivial)));replace HB:=aM hb;(try clear hb);(try clear hkp);(try clear hy0)))
  go_ret
  exact⟨_,by first|rfl|(simp [errW_none,errW_some] <;> rfl)|(simp [*,errW_none,errW_some] <;> rfl),qS HO_3,qB⟩
 obtain rfl:=Option.some.inj H
 go_enter Try.func56,Try.ntmps56
 go_wp2_with (first|((with_reducible refine jd 5 rfl ?_);refine Kd.S_lit (Kd.slice 4 Kd.bool) _ 65 ?hg (N:=5) ?hd (xs:=([]:List (List Bool))) (inner:=[]) (ok:=fun _=>True) (okp:=fun _=>True) ?hr ?hp (fun _ hk=>hk) trivial (Below.refl _ _) (Nat.le_refl _) (by simp) ?_;(case hd=>rfl);(case hg=>rfl);(case hr=>first|(go_simp;done)|(go_simp;rfl));(case hp=>exact (Reps.none _ _));intro v216 w_3a h_3b hb hg_ hnew_;clear hg_ hnew_;(first|rw [<- Ny215.out] at h_3b|(simp only [Int.reduceToNat] at h_3b;rw [<- Ny215.out] at h_3b));have HO217:=aM (Kd.S_lower h_3b (below_size qB));replace HB:=kH hb;clear hb h_3b)|((with_reducible refine jc 29 7 rfl rfl ?_);refine jG Try.func29 #[.slice A0 l0.length c0] ?_;(with_reducible refine (SCodeValid.calls k _ _ l0 false _ ?side1 ?side2 A2.out).mono ?_);(case side1=>exact kC (Kd.C_below HR0.out HB.out));(case side2=>exact HC0.out);rintro e w_4a ⟨rfl,hb⟩;refine⟨_,rfl,?_⟩;replace HO217:=kS HO217 hb;replace HB:=kH hb;clear hb))
 go_ret
 exact⟨_,by first|rfl|(simp [errW_none,errW_some] <;> rfl)|(simp [*,errW_none,errW_some] <;> rfl),qS HO217,qB⟩
def Sl35Dead.f (a0_0:Int) (a0_1:Int) (a0_2:Int) (a0_3:Int) (a0_4:Int) (l1:List Bool):Option (Bool):=if a0_0=1 then (if 0<=a0_1 then (if a0_1 < (l1.length:Int) then (some (!(rdOf false l1 a0_1))) else (none)) else (none)) else (if a0_0=2 then (if 0<=a0_1 then (if a0_1 < (l1.length:Int) then (some (!(rdOf false l1 a0_1))) else (none)) else (none)) else (if a0_0=3 then (if 0<=a0_1 then (if a0_1 < (l1.length:Int) then (some (!(rdOf false l1 a0_1))) else (none)) else (none)) else (some false)))
theorem Sl35Dead_calls_s0 {G:Prop} (h:G:=by
  go_enter Try.func89,Try.ntmps89
  go_wp2_with (first|((with_reducible refine jd 2 rfl ?_);refine jX _ 46 ?_;intro gb782 hg w_0a hbox hb;have BK782:=aM hbox;have GW782:=kG hg;replace HB:=kH hb;clear hb hbox hg;have c_0b:=jz5 BK782;have p783:0<=(a0_1:Int):=qD;have q783:a0_1 < (l1.length:Int):=qD;obtain⟨ad783,e783,hx783_0⟩:=Kd.at_bool HR1.out a0_1 p783 q783;cases e783;replace hx783_0:=kx HB hx783_0;replace p783:=eq_true p783;replace q783:=eq_true q783))
  go_ret
  exact⟨qW,qB⟩):G:=h
theorem Sl35Dead.calls (a0_0:Int) (a0_1:Int) (a0_2:Int) (a0_3:Int) (a0_4:Int) (A1:Option Addr) (c1:Nat) (l1:List Bool) (r:Bool) (w:World) (hr1:Kd.C Kd.bool w A1 l1.length l1) (hc1:l1.length<=c1) (h:Sl35Dead.f a0_0 a0_1 a0_2 a0_3 a0_4 l1=some r) :
  Calls Try.prog 89 #[.agg #[.int .i64 a0_0,.int .i64 a0_1,.int .i64 a0_2,.int .i64 a0_3,.int .i64 a0_4],.slice A1 l1.length c1] w fun e w'=>e = .returned (.bool r)/\Below w.heap.size w w':=by
 have hu46:=Try.underlying46
 have HR1:=aM hr1
 have HC1:=aM hc1
 clear hr1 hc1
 have HB:=aM (Below.refl w.heap.size w)
 have H:=h;unfold Sl35Dead.f at H
 clear h
 replace H:=jE H;rcases H with ⟨c3b0,c3b1,H⟩ | ⟨c3,c3b0,c3b1,H⟩
 ·replace H:=jI H;obtain⟨c4b0,H⟩:=H
  replace H:=jI H;obtain⟨c5b0,H⟩:=H
  obtain rfl:=Option.some.inj H
  exact Sl35Dead_calls_s0
 replace H:=jE H;rcases H with ⟨c8b0,c8b1,H⟩ | ⟨c8,c8b0,c8b1,H⟩
 ·replace H:=jI H;obtain⟨c9b0,H⟩:=H
  replace H:=jI H;obtain⟨c10b0,H⟩:=H
  obtain rfl:=Option.some.inj H
  go_enter Try.func89,Try.ntmps89
  go_wp2_with (first|((with_reducible refine jd 2 rfl ?_);refine jX _ 46 ?_;intro gb782 hg w_0a hbox hb;have BK782:=aM hbox;have GW782:=kG hg;replace HB:=kH hb;clear hb hbox hg;have c_0b:=jz5 BK782;have p784:0<=(a0_1:Int):=qD;have q784:a0_1 < (l1.length:Int):=qD;obtain⟨ad784,e784,hx784_0⟩:=Kd.at_bool HR1.out a0_1 p784 q784;cases e784;replace hx784_0:=kx HB hx784_0;replace p784:=eq_true p784;replace q784:=eq_true q784))
  go_ret
  exact⟨qW,qB⟩
 replace H:=jE H;rcases H with ⟨c13b0,c13b1,H⟩ | ⟨c13,c13b0,c13b1,H⟩
 ·replace H:=jI H;obtain⟨c14b0,H⟩:=H
  replace H:=jI H;obtain⟨c15b0,H⟩:=H
  obtain rfl:=Option.some.inj H
  go_enter Try.func89,Try.ntmps89
  go_wp2_with (first|((with_reducible refine jd 2 rfl ?_);refine jX _ 46 ?_;intro gb782 hg w_0a hbox hb;have BK782:=aM hbox;have GW782:=kG hg;replace HB:=kH hb;clear hb hbox hg;have c_0b:=jz5 BK782;have p785:0<=(a0_1:Int):=qD;have q785:a0_1 < (l1.length:Int):=qD;obtain⟨ad785,e785,hx785_0⟩:=Kd.at_bool HR1.out a0_1 p785 q785;cases e785;replace hx785_0:=kx HB hx785_0;replace p785:=eq_true p785;replace q785:=eq_true q785))
  go_ret
  exact⟨qW,qB⟩
 obtain rfl:=Option.some.inj H
 exact Sl35Dead_calls_s0
end Go.Proofs.Ytahbkldagpfcaaa.M
