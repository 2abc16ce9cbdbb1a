/- Part 2 of the proof: A function as plain Lean and its contract: written by a program of this session's, turned from the kit's print. -/
import Derived.Test.YtebpplallecogaaGreatDA1
set_option linter.unusedVariables false
set_option linter.unusedSimpArgs false
set_option maxHeartbeats 8000000
set_option maxRecDepth 100000
namespace Go.Proofs.YtebpplallecogaaGreat.M
open Go.RowKit Go.Proofs.YtebpplallecogaaGreatW.PrintWords Go.Proofs.YtebpplallecogaaGreatW.PrintLast Go.Proofs.YtebpplallecogaaGreatW.PrintMore
attribute [local go_sem] max2_int min2_int max_two min_two max_three min_three max_four min_four
mutual
def Sbp.j0:Nat->Int->Bool->List Int->Int->Option (Int × Int × (List (S90)) × Int)
 | 0,_,_,_,_=>none
 | k+1,x1,dW,x1000,bi=>if dW=true then ((Sbq.f k x1000 bi).bind fun aJ=>(some (aJ.1,aJ.2.1,aJ.2.2.1,aJ.2.2.2))) else ((Sbr.f k x1000 bi).bind fun bn=>((Sbp.f k x1000 bn.2 (wrap64 (x1 - 1))).bind fun aK=>((Sbp.f k x1000 aK.2.2.2 (wrap64 (x1 - 1))).bind fun aN=>((Sbj.f bn.1 aK.1 aK.2.1 aK.2.2.1 aN.1 aN.2.1 aN.2.2.1).bind fun aU=>(some (aU.1,aU.2.1,aU.2.2,aN.2.2.2))))))
def Sbp.f:Nat->List Int->Int->Int->Option (Int × Int × (List (S90)) × Int)
 | 0,_,_,_=>none
 | k+1,aj,aI,a1=>if a1 < 2 then (Sbp.j0 k a1 true aj aI) else ((Sbo.f k aj aI 3).bind fun bq=>(Sbp.j0 k a1 (bq.1 == 0) aj bq.2))
end
def Sbp.T5:Bool × List (List Nat × List Nat):=(true,[([],[]),([],[]),([],[]),([],[]),([3],[3]),([2,4],[2,4]),([0,1,5,5],[0,1,5]),([6,6,0,1,2,3,4,5,6],[6])])
def Sbp.B5:List Nat:=[0,0,0,0,8,28,63,127]
theorem Sbp.tab5:rtab .any (opsOf Tryz.f96 5)=Sbp.T5:=by kernel_rfl
theorem Sbp.bits5:waitsOk Sbp.T5.2 Sbp.B5=true:=by kernel_rfl
theorem Sbp.calls (k:Nat):∀ (g:Nat) (aj:List Int) (aI:Int) (a1:Int) (r1:Int) (r2:Int) (r3:List (S90)) (r4:Int) (w0 w:World) (hI:Saa w0 w g aj aI) (hB:Below w0.heap.size w0 w) (h:Sbp.f k aj aI a1=some (r1,r2,r3,r4)),
  Calls Tryz.prog 96 #[.pointer (some ⟨g,0,none⟩),.int .i64 a1] w fun e w'=>∃ dJ:Value,e = .returned (.agg #[.int .i64 r1,.int .i64 r2,dJ])/\Kd.N k90 90 w' w.heap.size (fun k_=>(w.heap.size<=k_)) dJ r3/\Saa w0 w' g aj r4/\Below w0.heap.size w0 w'/\KeepBut w w' g none:=by
 induction k using Nat.strongRecOn with
 | _ k ih =>
 intro g aj aI a1 r1 r2 r3 r4 w0 w hI hB h
 cases k with
 | zero=>exact absurd h (by simp [Sbp.f])
 | succ k =>
 simp only [Sbp.f] at h
 have dX:=Tryz.underlying90
 have HI0:=aM hI
 have HK:=aM (KeepBut.refl w g none)
 have HL:=aM hB.size
 clear hI
 have HW0:=aM hB.size
 have HB:=aM hB
 clear hB
 have H:=h
 clear h
 have cK:=aM H
 clear H
 go_enter Tryz.func96,Tryz.ntmps96
 go_upto_region 1 with (first|((with_reducible refine jd 4 rfl ?_);refine jX _ 90 ?_;intro aa hg w4 hbox hb;have af:=aM hbox;have dK:=aM ((by rw [hg];exact (keep_size (w:=w) (g:=g) (row:=none) qH):w.heap.size<=aa));have dL:=aM ((Nat.le_trans HW0.out (by rw [hg];exact (keep_size (w:=w) (g:=g) (row:=none) qH):w.heap.size<=aa):w0.heap.size<=aa));have aY:=aM ((by rw [hg];exact Nat.ne_of_lt (Saa.lt (show Saa w0 _ g aj aI from qI HI0)):g≠aa));have aA:=aM ((by rw [hg];exact Nat.ne_of_gt (Saa.lt (show Saa w0 _ g aj aI from qI HI0)):aa≠g));replace HI0:=aM (Saa.below (qI HI0) hb);replace HK:=aM (KeepBut.trans qH (KeepBut.of_below hb g none) (.inl rfl));replace HB:=kH hb;clear hb hbox hg))
 (try simp only [Act.put,List.setIfInBounds_toArray,List.set_cons_zero,List.set_cons_succ])
 go_cut [13] (fun v13 wc=>∃ (kq:Nat) (aV:Bool) (aH:Int),v13 = .bool aV/\Aside0 (Sbp.j0 kq a1 aV aj aH=some (r1,r2,r3,r4))/\Aside0 (kq<=k)/\Aside0 (wc.heap[aa]?=some (.cells #[.int .i64 0,.int .i64 0,(.slice none 0 0)] 90 (0,0)))/\Aside0 (Saa w0 wc g aj aH)/\Aside0 (KeepBut w wc g none)/\Aside0 (Below w0.heap.size w0 wc))
 case first =>
  have H:=cK.out
  clear cK
  replace H:=jD H;rcases H with ⟨aW,H⟩ | ⟨aW,H⟩
  ·(first|rw [aW]|(simp only [i64_w,i32_w];rw [aW])|skip)
   have H':=aM H
   clear H
   go_wp2
   go_meet
   exact⟨_,(true),(aI),qZ,H',⟨by first|omega|exact Nat.le_refl _⟩,⟨qK af⟩,⟨qI HI0⟩,⟨qH⟩,⟨qB⟩⟩
  (first|rw [aW]|(simp only [i64_w,i32_w];rw [aW])|skip)
  obtain⟨⟨cO,df⟩,A6,H⟩:=qE H
  try dsimp only at H
  have H':=aM H
  clear H
  go_wp2_with (first|(go_at_call 52;(with_reducible refine (Sbo.calls k g aj aI 3 cO df w0 _ ?av ?ax A6.out).mono ?_);(case av=>exact qI HI0);(case ax=>exact qB);rintro e dY ⟨rfl,hi,hb,hk⟩;replace af:=aM (KeepBut.blk hk (g':=aa) (o:=.cells #[.int .i64 0,.int .i64 0,.slice none 0 0] 90 (0,0)) (qK af) aA.out (by simp));replace HK:=kI hk;replace HB:=aM hb;replace HI0:=aM hi;clear hb hk hi))
  go_meet
  exact⟨_,_,_,qZ,H',⟨by first|omega|exact Nat.le_refl _⟩,⟨qK af⟩,⟨qI HI0⟩,⟨qH⟩,⟨qB⟩⟩
 clear cK
 obtain⟨kq,aV,aH,rfl,HA,HJ2,af,HI0,HK,HB⟩:=hcut
 cases kq with
 | zero=>exact absurd HA.out (by simp [Sbp.j0])
 | succ bV =>
  have H:=HA.out
  clear HA
  simp only [Sbp.j0] at H
  replace H:=jB H;rcases H with ⟨rfl,H⟩ | ⟨rfl,H⟩
  ·obtain⟨⟨bz,bA,bB,dh⟩,A9,H⟩:=qE H
   try dsimp only at H
   obtain⟨rfl,rfl,rfl,rfl⟩:=oJ4 H
   go_wp2_with (first|((with_reducible refine jc 111 15 rfl rfl ?_);refine jG Tryz.func111 #[.pointer (some ⟨g,0,none⟩)] ?_;refine (Sbq.calls bV g aj aH bz bA bB dh w0 _ ?av ?ax A9.out).mono ?_;(case av=>exact qI HI0);(case ax=>exact qB);rintro e dZ ⟨d9,rfl,bJ,hi,hb,hk⟩;refine⟨_,rfl,?_⟩;have bu:=aM (Kd.N_lower (Kd.N_mono (ok':=fun k_=>(w.heap.size<=k_)/\k_≠aa/\k_≠g) (Kd.R_N (Kd.R_bound bJ)) (fun k_ hk_=>⟨(Nat.le_trans (keep_size (w:=w) (g:=g) (row:=none) qH) hk_.2.1),(Kd.freshB (g:=aa) (o:=.cells #[.int .i64 0,.int .i64 0,.slice none 0 0] 90 (0,0)) (qK af) k_ hk_.2.1),(Saa.fresh (qI HI0) k_ hk_.2.1)⟩)) (keep_size (w:=w) (g:=g) (row:=none) qH));replace af:=aM (KeepBut.blk hk (g':=aa) (o:=.cells #[.int .i64 0,.int .i64 0,.slice none 0 0] 90 (0,0)) (qK af) aA.out (by simp));replace HK:=kI hk;replace HB:=aM hb;replace HI0:=aM hi;clear hb hk hi;(try clear bJ);have ed:=aA.out;have ek:=aY.out;have eu:=jz3 af;obtain⟨bK,bL,di⟩:=Kd.N_slice bu.out;subst di))
   refine bodyPost_ret (results_cell_row rfl _ _ aa 90 #[.int .i64 bz,.int .i64 bA,.slice bK bB.length bL] (0,0) _ rfl (qF af) Tryz.underlying90 rfl (by kernel_rfl)) rfl ?_
   exact⟨_,qW,by (with_reducible repeat (first|apply Kd.N_alloc|apply Kd.N_drewN|apply Kd.N_drew));exact Kd.N_mono (Kd.N_far (p:=⟨aa,2,none⟩) (Kd.N_far (p:=⟨aa,1,none⟩) (Kd.N_far (p:=⟨aa,0,none⟩) (Kd.N_mono bu.out (fun k_ hk=>(⟨hk,hk.2.1⟩:_/\k_≠aa))) (fun _ hk=>hk.2) (.int .i64 bz)) (fun _ hk=>hk.2) (.int .i64 bA)) (fun _ hk=>hk.2) (.slice bK bB.length bL)) (fun _ hk=>hk.1.1),qI HI0,qB,qH⟩
  obtain⟨⟨bC,bM⟩,eB,H⟩:=qE H
  try dsimp only at H
  obtain⟨⟨aD,aG,au,aX⟩,eD,H⟩:=qE H
  try dsimp only at H
  obtain⟨⟨bD,bE,aZ,dn⟩,eF,H⟩:=qE H
  try dsimp only at H
  obtain⟨⟨bF,bG,bH⟩,eG,H⟩:=qE H
  try dsimp only at H
  obtain⟨rfl,rfl,rfl,rfl⟩:=oJ4 H
  try go_wp2_with (first|((with_reducible refine jc 79 17 rfl rfl ?_);refine jG Tryz.func79 #[.pointer (some ⟨g,0,none⟩)] ?_;refine (Sbr.calls bV g aj aH bC bM w0 _ ?av ?ax eB.out).mono ?_;(case av=>exact qI HI0);(case ax=>exact qB);rintro e eZ ⟨rfl,hi,hb,hk⟩;refine⟨_,rfl,?_⟩;replace af:=aM (KeepBut.blk hk (g':=aa) (o:=.cells #[.int .i64 0,.int .i64 0,.slice none 0 0] 90 (0,0)) (qK af) aA.out (by simp));replace HK:=kI hk;replace HB:=aM hb;replace HI0:=aM hi;clear hb hk hi)|((with_reducible refine jc 96 21 rfl rfl ?_);refine jG Tryz.func96 #[.pointer (some ⟨g,0,none⟩),.int .i64 (wrap64 (a1 - 1))] ?_;refine (ih bV (by have:=HJ2.out;omega) g aj bM (wrap64 (a1 - 1)) aD aG au aX w0 _ ?av ?ax eD.out).mono ?_;(case av=>exact qI HI0);(case ax=>exact qB);rintro e fe ⟨eH,rfl,ho0,hi,hb,hk⟩;refine⟨_,rfl,?_⟩;have ai:=aM (Kd.N_lower (Kd.N_mono (ok':=fun k_=>(w.heap.size<=k_)/\k_≠aa/\k_≠g) ho0 (fun k_ hk_=>⟨(Nat.le_trans (keep_size (w:=w) (g:=g) (row:=none) qH) hk_),(Kd.freshB (g:=aa) (o:=.cells #[.int .i64 0,.int .i64 0,.slice none 0 0] 90 (0,0)) (qK af) k_ hk_),(Saa.fresh (qI HI0) k_ hk_)⟩)) (keep_size (w:=w) (g:=g) (row:=none) qH));replace af:=aM (KeepBut.blk hk (g':=aa) (o:=.cells #[.int .i64 0,.int .i64 0,.slice none 0 0] 90 (0,0)) (qK af) aA.out (by simp));replace HK:=kI hk;replace HB:=aM hb;replace HI0:=aM hi;clear hb hk hi;(try clear ho0))|((with_reducible refine jd 6 rfl ?_);refine jX _ 90 ?_;intro ae hg bI hbox hb;have ah:=aM hbox;have dM:=aM ((by rw [hg];exact (keep_size (w:=w) (g:=g) (row:=none) qH):w.heap.size<=ae));have dN:=aM ((Nat.le_trans HW0.out (by rw [hg];exact (keep_size (w:=w) (g:=g) (row:=none) qH):w.heap.size<=ae):w0.heap.size<=ae));have aC:=kN hg af;have ag:=kM hg af;have bg:=aM ((by rw [hg];exact Nat.ne_of_lt (Saa.lt (show Saa w0 _ g aj aX from qI HI0)):g≠ae));have aQ:=aM ((by rw [hg];exact Nat.ne_of_gt (Saa.lt (show Saa w0 _ g aj aX from qI HI0)):ae≠g));replace ai:=aM (Kd.N_below (Kd.N_elderB (qN ai) ae (Nat.le_of_eq hg.symm)) hb);replace af:=kB af hb;replace HI0:=aM (Saa.below (qI HI0) hb);replace HK:=aM (KeepBut.trans qH (KeepBut.of_below hb g none) (.inl rfl));replace HB:=kH hb;clear hb hbox hg;have dO:=ag.out;have dP:=aC.out;have dQ:=aQ.out;have dR:=bg.out;have eO:=jz3 ah;obtain⟨ay,az,dw⟩:=Kd.N_slice ai.out;subst dw))
  have dx:Aside0 (Kd.N k90 90 (((bI.setCell ⟨ae,0,none⟩ (.int .i64 aD)).setCell ⟨ae,1,none⟩ (.int .i64 aG)).setCell ⟨ae,2,none⟩ (.slice ay au.length az)) w.heap.size (fun k_=>(w.heap.size<=k_)/\k_≠aa/\k_≠g/\k_≠ae) (.slice ay au.length az) au):=⟨by (with_reducible repeat (first|apply Kd.N_alloc|apply Kd.N_drewN|apply Kd.N_drew));exact Kd.N_mono (Kd.N_far (p:=⟨ae,2,none⟩) (Kd.N_far (p:=⟨ae,1,none⟩) (Kd.N_far (p:=⟨ae,0,none⟩) (Kd.N_mono ai.out (fun k_ hk=>(⟨hk,hk.2⟩:_/\k_≠ae))) (fun _ hk=>hk.2) (.int .i64 aD)) (fun _ hk=>hk.2) (.int .i64 aG)) (fun _ hk=>hk.2) (.slice ay au.length az)) (fun _ hk=>⟨hk.1.1.1,⟨hk.1.1.2.1,⟨hk.1.1.2.2,hk.1.2⟩⟩⟩)⟩
  have dz:Aside0 ((((bI.setCell ⟨ae,0,none⟩ (.int .i64 aD)).setCell ⟨ae,1,none⟩ (.int .i64 aG)).setCell ⟨ae,2,none⟩ (.slice ay au.length az)).heap[aa]?=some (.cells #[.int .i64 0,.int .i64 0,.slice none 0 0] 90 (0,0))):=⟨qL af⟩
  have dA:Aside0 ((((bI.setCell ⟨ae,0,none⟩ (.int .i64 aD)).setCell ⟨ae,1,none⟩ (.int .i64 aG)).setCell ⟨ae,2,none⟩ (.slice ay au.length az)).heap[ae]?=some (.cells #[.int .i64 aD,.int .i64 aG,.slice ay au.length az] 90 (0,0))):=⟨qF ah⟩
  have dB:Aside0 (Saa w0 (((bI.setCell ⟨ae,0,none⟩ (.int .i64 aD)).setCell ⟨ae,1,none⟩ (.int .i64 aG)).setCell ⟨ae,2,none⟩ (.slice ay au.length az)) g aj aX):=⟨qI HI0⟩
  have dC:Aside0 (KeepBut w (((bI.setCell ⟨ae,0,none⟩ (.int .i64 aD)).setCell ⟨ae,1,none⟩ (.int .i64 aG)).setCell ⟨ae,2,none⟩ (.slice ay au.length az)) g none):=⟨qH⟩
  have dD:Aside0 (Below w0.heap.size w0 (((bI.setCell ⟨ae,0,none⟩ (.int .i64 aD)).setCell ⟨ae,1,none⟩ (.int .i64 aG)).setCell ⟨ae,2,none⟩ (.slice ay au.length az))):=⟨qB⟩
  (try clear ai)
  (try clear af)
  (try clear ah)
  (try clear HI0)
  (try clear HK)
  (try clear HB)
  generalize (((bI.setCell ⟨ae,0,none⟩ (.int .i64 aD)).setCell ⟨ae,1,none⟩ (.int .i64 aG)).setCell ⟨ae,2,none⟩ (.slice ay au.length az))=eP at dx dz dA dB dC dD ⊢
  have ai:=dx
  have af:=dz
  have ah:=dA
  have HI0:=dB
  have HK:=dC
  have HB:=dD
  clear dx dz dA dB dC dD
  replace ai:=aM (Kd.N_drew ai.out)
  replace af:=aM (blk_drew af.out)
  replace ah:=aM (blk_drew ah.out)
  replace HI0:=aM (Saa.drew HI0.out)
  replace HK:=aM (keep_drew HK.out)
  replace HB:=aM (below_drew1 HB.out)
  refine start_ (n:=8) (S:=fun w'=>w'.cell? ⟨ae,0,none⟩=some (.int .i64 aD)/\w'.cell? ⟨ae,1,none⟩=some (.int .i64 aG)/\w'.cell? ⟨ae,2,none⟩=some (.slice ay au.length az)) (ds:=[]) (jb 8 0) (by kernel_rfl) rfl rfl ⟨(blk_cell ah.out 0).trans rfl,(blk_cell ah.out 1).trans rfl,(blk_cell ah.out 2).trans rfl⟩ (fun hHeld=>?_);refine with_tabW Sbp.tab5 Sbp.bits5 (fun HT_ HW_=>?_)
  generalize eP.drew=fo at ai af ah HI0 HK HB hHeld ⊢
  refine jp 0 22 (jb 8 1) ?_
  refine jp 2 24 (jb 8 5) ?_
  refine jp 3 25 (jb 8 13) ?_
  refine jp 4 26 (jb 8 29) ?_
  refine jt 1 23 (jb 8 31) ?_
  refine one_ (i:=5) (N:=some 27) (jb 8 63) rfl rfl (one_of HT_.out (by kernel_rfl)) (by decide) (fun K hK=>?_)
  refine goes_ Tryz.func96 (by kernel_rfl) rfl #[.pointer (some ⟨g,0,none⟩),.int .i64 (wrap64 (a1 - 1))] (by rfl) rfl rfl qM ?_
  with_reducible refine (ih bV (by have:=HJ2.out;omega) g aj aX (wrap64 (a1 - 1)) bD bE aZ dn w0 _ ?av ?ax eF.out).mono ?_
  (case av=>exact qI HI0)
  (case ax=>exact qB)
  rintro e fq ⟨eQ,rfl,ho0,hi,hb,hk⟩
  refine⟨_,rfl,?_⟩
  have aT:=aM (Kd.N_lower (Kd.N_mono (ok':=fun k_=>(w.heap.size<=k_)/\some k_≠(.slice ay au.length az:Value).ownBlock/\k_≠aa/\k_≠ae/\k_≠g) ho0 (fun k_ hk_=>⟨(Nat.le_trans (keep_size (w:=w) (g:=g) (row:=none) qH) hk_),(Kd.fresh' (Kd.N_lt (qN ai)) k_ hk_),(Kd.freshB (g:=aa) (o:=.cells #[.int .i64 0,.int .i64 0,.slice none 0 0] 90 (0,0)) (qK af) k_ hk_),(Kd.freshB (g:=ae) (o:=.cells #[.int .i64 aD,.int .i64 aG,.slice ay au.length az] 90 (0,0)) (qK ah) k_ hk_),(Saa.fresh (qI HI0) k_ hk_)⟩)) (keep_size (w:=w) (g:=g) (row:=none) qH))
  replace af:=aM (KeepBut.blk hk (g':=aa) (o:=.cells #[.int .i64 0,.int .i64 0,.slice none 0 0] 90 (0,0)) (qK af) aA.out (by simp))
  replace ai:=aM (Kd.N_mono (Kd.N_told (Kd.N_oldK (Kd.N_mono (ok:=fun k_=>(((w.heap.size<=k_))/\(k_≠aa/\(k_≠g/\k_≠ae)))) (qN ai) (fun k_ hk_=>(⟨hk_,hk_.2.2.1⟩:_/\k_≠g))) hk) (by first|exact Kd.N_base ho0|exact Kd.R_base ho0)) (fun _ h_=>h_.1))
  replace ah:=aM (KeepBut.blk hk (g':=ae) (o:=.cells #[.int .i64 aD,.int .i64 aG,.slice ay au.length az] 90 (0,0)) (qK ah) aQ.out (by simp))
  replace HK:=kI hk
  replace HB:=aM hb
  replace HI0:=aM hi
  (try clear hb)
  (try clear hb2)
  (try clear hk)
  (try clear hi)
  (try clear ho0)
  obtain⟨bN,bO,bP⟩:=Kd.N_slice aT.out
  (first|subst bP|(injection bP with bQ dE bR;have dF:=bQ.symm;have dG:=bR.symm;clear bQ dE bR;subst dF;subst dG))
  refine hK.out _ _ ⟨(blk_cell ah.out 0).trans rfl,(blk_cell ah.out 1).trans rfl,(blk_cell ah.out 2).trans rfl⟩ (fun hHeld=>?_)
  clear hK K
  refine norm_ (a':=?_) ?_ ?_
  rotate_left
  ·show Act.put _ (some 27) _=_
   simp only [Act.put,List.setIfInBounds_toArray,List.set_cons_zero,List.set_cons_succ,i64_w,i32_w]
   rfl
  refine one_ (i:=6) (N:=some 28) (jb 8 127) rfl rfl (one_of HT_.out (by kernel_rfl)) (by decide) (fun K hK=>?_)
  refine goes_ Tryz.func109 (by kernel_rfl) rfl #[.int .i64 bC,.agg #[.int .i64 aD,.int .i64 aG,.slice ay au.length az],.agg #[.int .i64 bD,.int .i64 bE,.slice bN aZ.length bO]] (by rfl) rfl rfl qM ?_
  with_reducible refine (Sbj.calls bC aD aG (fun k_=>(((w.heap.size<=k_)/\(k_≠aa/\(k_≠g/\k_≠ae)))/\some k_≠(.slice bN aZ.length bO:Value).ownBlock)) _ _ au bD bE (fun k_=>((w.heap.size<=k_)/\(some k_≠(.slice ay au.length az:Value).ownBlock/\(k_≠aa/\(k_≠ae/\k_≠g))))) _ _ aZ bF bG bH _ ?av ?ax eG.out).mono ?_
  (case av=>exact Kd.N_V (ai.out))
  (case ax=>exact Kd.N_V (aT.out))
  rintro e dH ⟨eT,rfl,ho0,hb⟩
  refine⟨_,rfl,?_⟩
  have bv:=aM (Kd.N_lower (Kd.N_mono (ok':=fun k_=>(w.heap.size<=k_)/\k_≠aa/\k_≠ae/\k_≠g) ho0 (fun k_ hk_=>⟨Or.elim hk_ (fun hs_=>Or.elim hs_ (fun hs_=>hs_.1.1) (fun hs_=>hs_.1)) (fun hn_=>(Nat.le_trans (keep_size (w:=w) (g:=g) (row:=none) qH) hn_)),Or.elim hk_ (fun hs_=>Or.elim hs_ (fun hs_=>hs_.1.2.1) (fun hs_=>hs_.2.2.1)) (fun hn_=>(Kd.freshB (g:=aa) (o:=.cells #[.int .i64 0,.int .i64 0,.slice none 0 0] 90 (0,0)) (qK af) k_ hn_)),Or.elim hk_ (fun hs_=>Or.elim hs_ (fun hs_=>hs_.1.2.2.2) (fun hs_=>hs_.2.2.2.1)) (fun hn_=>(Kd.freshB (g:=ae) (o:=.cells #[.int .i64 aD,.int .i64 aG,.slice ay au.length az] 90 (0,0)) (qK ah) k_ hn_)),Or.elim hk_ (fun hs_=>Or.elim hs_ (fun hs_=>hs_.1.2.2.1) (fun hs_=>hs_.2.2.2.2)) (fun hn_=>(Saa.fresh (qI HI0) k_ hn_))⟩)) (keep_size (w:=w) (g:=g) (row:=none) qH))
  replace ai:=aM (Kd.N_elder' (qN ai) (by first|exact Kd.N_base ho0|exact Kd.R_base ho0) hb)
  replace aT:=aM (Kd.N_elder' (qN aT) (by first|exact Kd.N_base ho0|exact Kd.R_base ho0) hb)
  replace af:=kB af hb
  replace HI0:=aM (Saa.below (qI HI0) hb)
  replace ah:=kB ah hb
  replace HK:=aM (KeepBut.trans qH (KeepBut.of_below hb g none) (.inl rfl))
  replace HB:=kH hb
  (try clear hb)
  (try clear hb2)
  (try clear hk)
  (try clear hi)
  (try clear ho0)
  obtain⟨bS,bT,bU⟩:=Kd.N_slice bv.out
  (first|subst bU|(injection bU with bQ dE bR;have dF:=bQ.symm;have dG:=bR.symm;clear bQ dE bR;subst dF;subst dG))
  refine hK.out _ _ ⟨(blk_cell ah.out 0).trans rfl,(blk_cell ah.out 1).trans rfl,(blk_cell ah.out 2).trans rfl⟩ (fun hHeld=>?_)
  clear hK K
  refine norm_ (a':=?_) ?_ ?_
  rotate_left
  ·show Act.put _ (some 28) _=_
   simp only [Act.put,List.setIfInBounds_toArray,List.set_cons_zero,List.set_cons_succ,i64_w,i32_w]
   rfl
  refine one_ (i:=7) (N:=none) (jb 8 255) rfl rfl (one_of HT_.out (by kernel_rfl)) (by decide) (fun K hK=>?_)
  have eU:dH.cell? ⟨aa,0,none⟩=some (.int .i64 0):=(blk_cell af.out 0).trans rfl
  have dS:=blk_frozen af.out 0
  have bW:=ag.out
  have bX:=aC.out
  have eX:dH.cell? ⟨aa,1,none⟩=some (.int .i64 0):=(blk_cell af.out 1).trans rfl
  have dU:=blk_frozen af.out 1
  have bY:=ag.out
  have bZ:=aC.out
  have eY:dH.cell? ⟨aa,2,none⟩=some (.slice none 0 0):=(blk_cell af.out 2).trans rfl
  have dV:=blk_frozen af.out 2
  have cz:=ag.out
  have cB:=aC.out
  refine skip_ (w1:=?_) (by rfl) rfl ?_ ?_
  rotate_left
  ·go_simp
   rfl
  refine hK.out _ _ ⟨((cell_far (p:=⟨aa,_,none⟩) ag.out _).trans (((cell_far (p:=⟨aa,_,none⟩) ag.out _).trans (((cell_far (p:=⟨aa,_,none⟩) ag.out _).trans (hHeld.1)))))),((cell_far (p:=⟨aa,_,none⟩) ag.out _).trans (((cell_far (p:=⟨aa,_,none⟩) ag.out _).trans (((cell_far (p:=⟨aa,_,none⟩) ag.out _).trans (hHeld.2.1)))))),((cell_far (p:=⟨aa,_,none⟩) ag.out _).trans (((cell_far (p:=⟨aa,_,none⟩) ag.out _).trans (((cell_far (p:=⟨aa,_,none⟩) ag.out _).trans (hHeld.2.2))))))⟩ (fun hHeld=>?_)
  clear hK K
  refine done_ (done_of HT_.out (by kernel_rfl)) ?_
  try go_wp2
  refine bodyPost_ret (results_cell_row rfl _ _ aa 90 #[.int .i64 bF,.int .i64 bG,.slice bS bH.length bT] (0,0) _ rfl (qF af) Tryz.underlying90 rfl (by kernel_rfl)) rfl ?_
  exact⟨_,qW,by (with_reducible repeat (first|apply Kd.N_alloc|apply Kd.N_drewN|apply Kd.N_drew));exact Kd.N_mono (Kd.N_far (p:=⟨aa,2,none⟩) (Kd.N_far (p:=⟨aa,1,none⟩) (Kd.N_far (p:=⟨aa,0,none⟩) (Kd.N_mono bv.out (fun k_ hk=>(⟨hk,hk.2.1⟩:_/\k_≠aa))) (fun _ hk=>hk.2) (.int .i64 bF)) (fun _ hk=>hk.2) (.int .i64 bG)) (fun _ hk=>hk.2) (.slice bS bH.length bT)) (fun _ hk=>hk.1.1),qI HI0,qB,qH⟩
def Sbw.f (k:Nat) (af:List Int) (aj:Int):Option (Int × Int × Int × Int × Int × (List (S90)) × (List (S92)) × (List (S92)) × Int):=(Sbo.f k af aj 3).bind fun ax=>((Sbo.f k af ax.2 3).bind fun ay=>((Sbp.f k af ay.2 (wrap64 (1+ay.1))).bind fun au=>(some (1,ax.1,0,au.1,au.2.1,au.2.2.1,([]:List (S92)),([]:List (S92)),au.2.2.2))))
theorem Sbw.calls (k g:Nat) (af:List Int) (aj r1 r2 r3 r4 r5:Int) (r6:List (S90)) (r7 r8:List (S92)) (r9:Int) (w0 w:World) (hI:Saa w0 w g af aj) (hB:Below w0.heap.size w0 w) (h:Sbw.f k af aj=some (r1,r2,r3,r4,r5,r6,r7,r8,r9)) :
  Calls Tryz.prog 92 #[.pointer (some ⟨g,0,none⟩)] w fun e w'=>∃ aK aN aQ:Value,e = .returned (.agg #[.int .i64 r1,.int .i64 r2,.int .i64 r3,.int .i64 r4,.int .i64 r5,aK,aN,aQ])/\Kd.N k90 90 w' w.heap.size (fun k_=>(w.heap.size<=k_)/\some k_≠(aN:Value).ownBlock/\some k_≠(aQ:Value).ownBlock) aK r6/\Kd.N k92 92 w' w.heap.size (fun k_=>(w.heap.size<=k_)/\some k_≠(aK:Value).ownBlock/\some k_≠(aQ:Value).ownBlock) aN r7/\Kd.N k92 92 w' w.heap.size (fun k_=>(w.heap.size<=k_)/\some k_≠(aK:Value).ownBlock/\some k_≠(aN:Value).ownBlock) aQ r8/\Saa w0 w' g af r9/\Below w0.heap.size w0 w'/\KeepBut w w' g none:=by
 have bg:=Tryz.underlying92
 have HI0:=aM hI
 have HK:=aM (KeepBut.refl w g none)
 have HL:=aM hB.size
 clear hI
 have HW0:=aM hB.size
 have HB:=aM hB
 clear hB
 have H:=h;unfold Sbw.f at H
 clear h
 obtain⟨⟨aA,aI⟩,A2,H⟩:=qE H
 try dsimp only at H
 obtain⟨⟨aC,aJ⟩,A3,H⟩:=qE H
 try dsimp only at H
 obtain⟨⟨aD,aG,aH,aT⟩,A4,H⟩:=qE H
 try dsimp only at H
 obtain⟨rfl,rfl,rfl,rfl,rfl,rfl,rfl,rfl,rfl⟩:=oJ9 H
 go_enter Tryz.func92,Tryz.ntmps92
 go_wp2_with (first|((with_reducible refine jd 2 rfl ?_);refine jX _ 92 ?_;intro aa hg w5 hbox hb;have ae:=aM hbox;have aU:=aM ((by rw [hg];exact (keep_size (w:=w) (g:=g) (row:=none) qH):w.heap.size<=aa));have aV:=aM ((Nat.le_trans HW0.out (by rw [hg];exact (keep_size (w:=w) (g:=g) (row:=none) qH):w.heap.size<=aa):w0.heap.size<=aa));have av:=aM ((by rw [hg];exact Nat.ne_of_lt (Saa.lt (show Saa w0 _ g af aj from qI HI0)):g≠aa));have ag:=aM ((by rw [hg];exact Nat.ne_of_gt (Saa.lt (show Saa w0 _ g af aj from qI HI0)):aa≠g));replace HI0:=aM (Saa.below (qI HI0) hb);replace HK:=aM (KeepBut.trans qH (KeepBut.of_below hb g none) (.inl rfl));replace HB:=kH hb;clear hb hbox hg)|((with_reducible refine jc 52 5 rfl rfl ?_);refine jG Tryz.func52 #[.pointer (some ⟨g,0,none⟩),.int .i64 3] ?_;refine (Sbo.calls k g af aj 3 aA aI w0 _ ?ah ?ai A2.out).mono ?_;(case ah=>exact qI HI0);(case ai=>exact qB);rintro e w6 ⟨rfl,hi,hb,hk⟩;refine⟨_,rfl,?_⟩;replace ae:=aM (KeepBut.blk hk (g':=aa) (o:=.cells #[.int .i64 0,.int .i64 0,.int .i64 0,.int .i64 0,.int .i64 0,.slice none 0 0,.slice none 0 0,.slice none 0 0] 92 (0,0)) (qK ae) ag.out (by simp));replace HK:=kI hk;replace HB:=aM hb;replace HI0:=aM hi;clear hb hk hi)|((with_reducible refine jc 52 9 rfl rfl ?_);refine jG Tryz.func52 #[.pointer (some ⟨g,0,none⟩),.int .i64 3] ?_;refine (Sbo.calls k g af aI 3 aC aJ w0 _ ?ah ?ai A3.out).mono ?_;(case ah=>exact qI HI0);(case ai=>exact qB);rintro e w7 ⟨rfl,hi,hb,hk⟩;refine⟨_,rfl,?_⟩;replace ae:=aM (KeepBut.blk hk (g':=aa) (o:=.cells #[.int .i64 0,.int .i64 0,.int .i64 0,.int .i64 0,.int .i64 0,.slice none 0 0,.slice none 0 0,.slice none 0 0] 92 (0,0)) (qK ae) ag.out (by simp));replace HK:=kI hk;replace HB:=aM hb;replace HI0:=aM hi;clear hb hk hi)|((with_reducible refine jc 96 11 rfl rfl ?_);refine jG Tryz.func96 #[.pointer (some ⟨g,0,none⟩),.int .i64 (wrap64 (1+aC))] ?_;refine (Sbp.calls k g af aJ (wrap64 (1+aC)) aD aG aH aT w0 _ ?ah ?ai A4.out).mono ?_;(case ah=>exact qI HI0);(case ai=>exact qB);rintro e w8 ⟨bi,rfl,ho0,hi,hb,hk⟩;refine⟨_,rfl,?_⟩;have az:=aM (Kd.N_lower (Kd.N_mono (ok':=fun k_=>(w.heap.size<=k_)/\k_≠aa/\k_≠g) ho0 (fun k_ hk_=>⟨(Nat.le_trans (keep_size (w:=w) (g:=g) (row:=none) qH) hk_),(Kd.freshB (g:=aa) (o:=.cells #[.int .i64 0,.int .i64 0,.int .i64 0,.int .i64 0,.int .i64 0,.slice none 0 0,.slice none 0 0,.slice none 0 0] 92 (0,0)) (qK ae) k_ hk_),(Saa.fresh (qI HI0) k_ hk_)⟩)) (keep_size (w:=w) (g:=g) (row:=none) qH));replace ae:=aM (KeepBut.blk hk (g':=aa) (o:=.cells #[.int .i64 0,.int .i64 0,.int .i64 0,.int .i64 0,.int .i64 0,.slice none 0 0,.slice none 0 0,.slice none 0 0] 92 (0,0)) (qK ae) ag.out (by simp));replace HK:=kI hk;replace HB:=aM hb;replace HI0:=aM hi;clear hb hk hi;(try clear ho0);obtain⟨aW,aX,bn⟩:=Kd.N_slice az.out;subst bn;have aY:=ag.out;have aZ:=av.out;have bq:=jz8 ae))
 refine bodyPost_ret (results_cell_row rfl _ _ aa 92 #[.int .i64 1,.int .i64 aA,.int .i64 0,.int .i64 aD,.int .i64 aG,.slice aW aH.length aX,.slice none 0 0,.slice none 0 0] (0,0) _ rfl (qF ae) Tryz.underlying92 rfl (by kernel_rfl)) rfl ?_
 exact⟨_,_,_,qW,by (with_reducible repeat (first|apply Kd.N_alloc|apply Kd.N_drewN|apply Kd.N_drew));exact Kd.N_mono (Kd.N_far (p:=⟨aa,7,none⟩) (Kd.N_far (p:=⟨aa,6,none⟩) (Kd.N_far (p:=⟨aa,5,none⟩) (Kd.N_far (p:=⟨aa,4,none⟩) (Kd.N_far (p:=⟨aa,3,none⟩) (Kd.N_far (p:=⟨aa,2,none⟩) (Kd.N_far (p:=⟨aa,1,none⟩) (Kd.N_far (p:=⟨aa,0,none⟩) (Kd.N_mono az.out (fun k_ hk=>(⟨hk,hk.2.1⟩:_/\k_≠aa))) (fun _ hk=>hk.2) (.int .i64 1)) (fun _ hk=>hk.2) (.int .i64 aA)) (fun _ hk=>hk.2) (.int .i64 0)) (fun _ hk=>hk.2) (.int .i64 aD)) (fun _ hk=>hk.2) (.int .i64 aG)) (fun _ hk=>hk.2) (.slice aW aH.length aX)) (fun _ hk=>hk.2) (.slice none 0 0)) (fun _ hk=>hk.2) (.slice none 0 0)) (fun _ hk=>⟨hk.1.1,⟨(by simp [Value.ownBlock]),(by simp [Value.ownBlock])⟩⟩),by first|exact Kd.R_nil _ _ _ _ _|exact Kd.N_nil _ _ _ _ _|exact Kd.V_nil _ _ _ _ _|exact Kd.Q_nil _ _ _ _ _|exact Kd.S_nil _ _ _ _ _,by first|exact Kd.R_nil _ _ _ _ _|exact Kd.N_nil _ _ _ _ _|exact Kd.V_nil _ _ _ _ _|exact Kd.Q_nil _ _ _ _ _|exact Kd.S_nil _ _ _ _ _,qI HI0,qB,qH⟩
def Sbz.f (k:Nat) (ag:List Int) (aj a1:Int):Option (Int × Int × Int × Int × Int × (List (S90)) × (List (S92)) × (List (S92)) × Int):=if a1 < 1 then ((Sbw.f k ag aj).bind fun au=>(some (au.1,au.2.1,au.2.2.1,au.2.2.2.1,au.2.2.2.2.1,au.2.2.2.2.2.1,au.2.2.2.2.2.2.1,au.2.2.2.2.2.2.2.1,au.2.2.2.2.2.2.2.2))) else ((Sbo.f k ag aj a1).bind fun ay=>((Sbo.f k ag ay.2 2).bind fun az=>(if az.1=0 then ((Sbo.f k ag az.2 3).bind fun aY=>((Sbp.f k ag aY.2 (wrap64 (1+aY.1))).bind fun ax=>(some (4,0,ay.1,ax.1,ax.2.1,ax.2.2.1,([]:List (S92)),([]:List (S92)),ax.2.2.2)))) else ((Sbo.f k ag az.2 3).bind fun aZ=>(some (5,aZ.1,ay.1,0,0,([]:List (S90)),([]:List (S92)),([]:List (S92)),aZ.2))))))
theorem Sbz.calls (k g:Nat) (ag:List Int) (aj a1 r1 r2 r3 r4 r5:Int) (r6:List (S90)) (r7 r8:List (S92)) (r9:Int) (w0 w:World) (hI:Saa w0 w g ag aj) (hB:Below w0.heap.size w0 w) (h:Sbz.f k ag aj a1=some (r1,r2,r3,r4,r5,r6,r7,r8,r9)) :
  Calls Tryz.prog 95 #[.pointer (some ⟨g,0,none⟩),.int .i64 a1] w fun e w'=>∃ bN bO bP:Value,e = .returned (.agg #[.int .i64 r1,.int .i64 r2,.int .i64 r3,.int .i64 r4,.int .i64 r5,bN,bO,bP])/\Kd.N k90 90 w' w.heap.size (fun k_=>(w.heap.size<=k_)/\some k_≠(bO:Value).ownBlock/\some k_≠(bP:Value).ownBlock) bN r6/\Kd.N k92 92 w' w.heap.size (fun k_=>(w.heap.size<=k_)/\some k_≠(bN:Value).ownBlock/\some k_≠(bP:Value).ownBlock) bO r7/\Kd.N k92 92 w' w.heap.size (fun k_=>(w.heap.size<=k_)/\some k_≠(bN:Value).ownBlock/\some k_≠(bO:Value).ownBlock) bP r8/\Saa w0 w' g ag r9/\Below w0.heap.size w0 w'/\KeepBut w w' g none:=by
 have dh:=Tryz.underlying92
 have HI0:=aM hI
 have HK:=aM (KeepBut.refl w g none)
 have HL:=aM hB.size
 clear hI
 have HW0:=aM hB.size
 have HB:=aM hB
 clear hB
 have H:=h;unfold Sbz.f at H
 clear h
 replace H:=jD H;rcases H with ⟨bS,H⟩ | ⟨bS,H⟩
 ·obtain⟨⟨aA,aC,aD,aG,aH,aI,aJ,aK,bT⟩,A4,H⟩:=qE H
  try dsimp only at H
  obtain⟨rfl,rfl,rfl,rfl,rfl,rfl,rfl,rfl,rfl⟩:=oJ9 H
  go_enter Tryz.func95,Tryz.ntmps95
  go_wp2_with (first|((with_reducible refine jd 4 rfl ?_);refine jX _ 92 ?_;intro aa hg w5 hbox hb;have ae:=aM hbox;have bg:=aM ((by rw [hg];exact (keep_size (w:=w) (g:=g) (row:=none) qH):w.heap.size<=aa));have bi:=aM ((Nat.le_trans HW0.out (by rw [hg];exact (keep_size (w:=w) (g:=g) (row:=none) qH):w.heap.size<=aa):w0.heap.size<=aa));have av:=aM ((by rw [hg];exact Nat.ne_of_lt (Saa.lt (show Saa w0 _ g ag aj from qI HI0)):g≠aa));have af:=aM ((by rw [hg];exact Nat.ne_of_gt (Saa.lt (show Saa w0 _ g ag aj from qI HI0)):aa≠g));replace HI0:=aM (Saa.below (qI HI0) hb);replace HK:=aM (KeepBut.trans qH (KeepBut.of_below hb g none) (.inl rfl));replace HB:=kH hb;clear hb hbox hg)|((with_reducible refine jc 92 9 rfl rfl ?_);refine jG Tryz.func92 #[.pointer (some ⟨g,0,none⟩)] ?_;refine (Sbw.calls k g ag aj aA aC aD aG aH aI aJ aK bT w0 _ ?ah ?ai A4.out).mono ?_;(case ah=>exact qI HI0);(case ai=>exact qB);rintro e w6 ⟨bD,bE,bF,rfl,ho0,ho1,ho2,hi,hb,hk⟩;refine⟨_,rfl,?_⟩;have bn:=aM (Kd.N_lower (Kd.N_mono (ok':=fun k_=>(w.heap.size<=k_)/\some k_≠(bE:Value).ownBlock/\some k_≠(bF:Value).ownBlock/\k_≠aa/\k_≠g) ho0 (fun k_ hk_=>⟨(Nat.le_trans (keep_size (w:=w) (g:=g) (row:=none) qH) hk_.1),hk_.2.1,hk_.2.2,(Kd.freshB (g:=aa) (o:=.cells #[.int .i64 0,.int .i64 0,.int .i64 0,.int .i64 0,.int .i64 0,.slice none 0 0,.slice none 0 0,.slice none 0 0] 92 (0,0)) (qK ae) k_ hk_.1),(Saa.fresh (qI HI0) k_ hk_.1)⟩)) (keep_size (w:=w) (g:=g) (row:=none) qH));have bq:=aM (Kd.N_lower (Kd.N_mono (ok':=fun k_=>(w.heap.size<=k_)/\some k_≠(bD:Value).ownBlock/\some k_≠(bF:Value).ownBlock/\k_≠aa/\k_≠g) ho1 (fun k_ hk_=>⟨(Nat.le_trans (keep_size (w:=w) (g:=g) (row:=none) qH) hk_.1),hk_.2.1,hk_.2.2,(Kd.freshB (g:=aa) (o:=.cells #[.int .i64 0,.int .i64 0,.int .i64 0,.int .i64 0,.int .i64 0,.slice none 0 0,.slice none 0 0,.slice none 0 0] 92 (0,0)) (qK ae) k_ hk_.1),(Saa.fresh (qI HI0) k_ hk_.1)⟩)) (keep_size (w:=w) (g:=g) (row:=none) qH));have bu:=aM (Kd.N_lower (Kd.N_mono (ok':=fun k_=>(w.heap.size<=k_)/\some k_≠(bD:Value).ownBlock/\some k_≠(bE:Value).ownBlock/\k_≠aa/\k_≠g) ho2 (fun k_ hk_=>⟨(Nat.le_trans (keep_size (w:=w) (g:=g) (row:=none) qH) hk_.1),hk_.2.1,hk_.2.2,(Kd.freshB (g:=aa) (o:=.cells #[.int .i64 0,.int .i64 0,.int .i64 0,.int .i64 0,.int .i64 0,.slice none 0 0,.slice none 0 0,.slice none 0 0] 92 (0,0)) (qK ae) k_ hk_.1),(Saa.fresh (qI HI0) k_ hk_.1)⟩)) (keep_size (w:=w) (g:=g) (row:=none) qH));replace ae:=aM (KeepBut.blk hk (g':=aa) (o:=.cells #[.int .i64 0,.int .i64 0,.int .i64 0,.int .i64 0,.int .i64 0,.slice none 0 0,.slice none 0 0,.slice none 0 0] 92 (0,0)) (qK ae) af.out (by simp));replace HK:=kI hk;replace HB:=aM hb;replace HI0:=aM hi;clear hb hk hi;(try clear ho0);(try clear ho1);(try clear ho2);have di:=af.out;have dn:=av.out;have dE:=jz8 ae;obtain⟨bQ,bR,dw⟩:=Kd.N_slice bn.out;subst dw;obtain⟨aQ,aT,bU⟩:=Kd.N_slice bq.out;subst bU;obtain⟨aU,aV,bV⟩:=Kd.N_slice bu.out;subst bV))
  refine bodyPost_ret (results_cell_row rfl _ _ aa 92 #[.int .i64 aA,.int .i64 aC,.int .i64 aD,.int .i64 aG,.int .i64 aH,.slice bQ aI.length bR,.slice aQ aJ.length aT,.slice aU aK.length aV] (0,0) _ rfl (qF ae) Tryz.underlying92 rfl (by kernel_rfl)) rfl ?_
  exact⟨_,_,_,qW,by (with_reducible repeat (first|apply Kd.N_alloc|apply Kd.N_drewN|apply Kd.N_drew));exact Kd.N_mono (Kd.N_far (p:=⟨aa,7,none⟩) (Kd.N_far (p:=⟨aa,6,none⟩) (Kd.N_far (p:=⟨aa,5,none⟩) (Kd.N_far (p:=⟨aa,4,none⟩) (Kd.N_far (p:=⟨aa,3,none⟩) (Kd.N_far (p:=⟨aa,2,none⟩) (Kd.N_far (p:=⟨aa,1,none⟩) (Kd.N_far (p:=⟨aa,0,none⟩) (Kd.N_mono bn.out (fun k_ hk=>(⟨hk,hk.2.2.2.1⟩:_/\k_≠aa))) (fun _ hk=>hk.2) (.int .i64 aA)) (fun _ hk=>hk.2) (.int .i64 aC)) (fun _ hk=>hk.2) (.int .i64 aD)) (fun _ hk=>hk.2) (.int .i64 aG)) (fun _ hk=>hk.2) (.int .i64 aH)) (fun _ hk=>hk.2) (.slice bQ aI.length bR)) (fun _ hk=>hk.2) (.slice aQ aJ.length aT)) (fun _ hk=>hk.2) (.slice aU aK.length aV)) (fun _ hk=>⟨hk.1.1,⟨hk.1.2.1,hk.1.2.2.1⟩⟩),by (with_reducible repeat (first|apply Kd.N_alloc|apply Kd.N_drewN|apply Kd.N_drew));exact Kd.N_mono (Kd.N_far (p:=⟨aa,7,none⟩) (Kd.N_far (p:=⟨aa,6,none⟩) (Kd.N_far (p:=⟨aa,5,none⟩) (Kd.N_far (p:=⟨aa,4,none⟩) (Kd.N_far (p:=⟨aa,3,none⟩) (Kd.N_far (p:=⟨aa,2,none⟩) (Kd.N_far (p:=⟨aa,1,none⟩) (Kd.N_far (p:=⟨aa,0,none⟩) (Kd.N_mono bq.out (fun k_ hk=>(⟨hk,hk.2.2.2.1⟩:_/\k_≠aa))) (fun _ hk=>hk.2) (.int .i64 aA)) (fun _ hk=>hk.2) (.int .i64 aC)) (fun _ hk=>hk.2) (.int .i64 aD)) (fun _ hk=>hk.2) (.int .i64 aG)) (fun _ hk=>hk.2) (.int .i64 aH)) (fun _ hk=>hk.2) (.slice bQ aI.length bR)) (fun _ hk=>hk.2) (.slice aQ aJ.length aT)) (fun _ hk=>hk.2) (.slice aU aK.length aV)) (fun _ hk=>⟨hk.1.1,⟨hk.1.2.1,hk.1.2.2.1⟩⟩),by (with_reducible repeat (first|apply Kd.N_alloc|apply Kd.N_drewN|apply Kd.N_drew));exact Kd.N_mono (Kd.N_far (p:=⟨aa,7,none⟩) (Kd.N_far (p:=⟨aa,6,none⟩) (Kd.N_far (p:=⟨aa,5,none⟩) (Kd.N_far (p:=⟨aa,4,none⟩) (Kd.N_far (p:=⟨aa,3,none⟩) (Kd.N_far (p:=⟨aa,2,none⟩) (Kd.N_far (p:=⟨aa,1,none⟩) (Kd.N_far (p:=⟨aa,0,none⟩) (Kd.N_mono bu.out (fun k_ hk=>(⟨hk,hk.2.2.2.1⟩:_/\k_≠aa))) (fun _ hk=>hk.2) (.int .i64 aA)) (fun _ hk=>hk.2) (.int .i64 aC)) (fun _ hk=>hk.2) (.int .i64 aD)) (fun _ hk=>hk.2) (.int .i64 aG)) (fun _ hk=>hk.2) (.int .i64 aH)) (fun _ hk=>hk.2) (.slice bQ aI.length bR)) (fun _ hk=>hk.2) (.slice aQ aJ.length aT)) (fun _ hk=>hk.2) (.slice aU aK.length aV)) (fun _ hk=>⟨hk.1.1,⟨hk.1.2.1,hk.1.2.2.1⟩⟩),qI HI0,qB,qH⟩
 obtain⟨⟨aN,aW⟩,bZ,H⟩:=qE H
 try dsimp only at H
 obtain⟨⟨bG,aX⟩,cz,H⟩:=qE H
 try dsimp only at H
 replace H:=jE H;rcases H with ⟨bH,bI,H⟩ | ⟨c14,bH,bI,H⟩
 ·obtain⟨⟨bz,bJ⟩,dx,H⟩:=qE H
  try dsimp only at H
  obtain⟨⟨bA,bB,bC,bW⟩,dz,H⟩:=qE H
  try dsimp only at H
  obtain⟨rfl,rfl,rfl,rfl,rfl,rfl,rfl,rfl,rfl⟩:=oJ9 H
  go_enter Tryz.func95,Tryz.ntmps95
  go_wp2_with (first|((with_reducible refine jd 4 rfl ?_);refine jX _ 92 ?_;intro aa hg dF hbox hb;have ae:=aM hbox;have bg:=aM ((by rw [hg];exact (keep_size (w:=w) (g:=g) (row:=none) qH):w.heap.size<=aa));have bi:=aM ((Nat.le_trans HW0.out (by rw [hg];exact (keep_size (w:=w) (g:=g) (row:=none) qH):w.heap.size<=aa):w0.heap.size<=aa));have av:=aM ((by rw [hg];exact Nat.ne_of_lt (Saa.lt (show Saa w0 _ g ag aj from qI HI0)):g≠aa));have af:=aM ((by rw [hg];exact Nat.ne_of_gt (Saa.lt (show Saa w0 _ g ag aj from qI HI0)):aa≠g));replace HI0:=aM (Saa.below (qI HI0) hb);replace HK:=aM (KeepBut.trans qH (KeepBut.of_below hb g none) (.inl rfl));replace HB:=kH hb;clear hb hbox hg)|((with_reducible refine jc 52 12 rfl rfl ?_);refine jG Tryz.func52 #[.pointer (some ⟨g,0,none⟩),.int .i64 a1] ?_;refine (Sbo.calls k g ag aj a1 aN aW w0 _ ?ah ?ai bZ.out).mono ?_;(case ah=>exact qI HI0);(case ai=>exact qB);rintro e dG ⟨rfl,hi,hb,hk⟩;refine⟨_,rfl,?_⟩;replace ae:=aM (KeepBut.blk hk (g':=aa) (o:=.cells #[.int .i64 0,.int .i64 0,.int .i64 0,.int .i64 0,.int .i64 0,.slice none 0 0,.slice none 0 0,.slice none 0 0] 92 (0,0)) (qK ae) af.out (by simp));replace HK:=kI hk;replace HB:=aM hb;replace HI0:=aM hi;clear hb hk hi)|((with_reducible refine jc 52 14 rfl rfl ?_);refine jG Tryz.func52 #[.pointer (some ⟨g,0,none⟩),.int .i64 2] ?_;refine (Sbo.calls k g ag aW 2 bG aX w0 _ ?ah ?ai cz.out).mono ?_;(case ah=>exact qI HI0);(case ai=>exact qB);rintro e dH ⟨rfl,hi,hb,hk⟩;refine⟨_,rfl,?_⟩;replace ae:=aM (KeepBut.blk hk (g':=aa) (o:=.cells #[.int .i64 0,.int .i64 0,.int .i64 0,.int .i64 0,.int .i64 0,.slice none 0 0,.slice none 0 0,.slice none 0 0] 92 (0,0)) (qK ae) af.out (by simp));replace HK:=kI hk;replace HB:=aM hb;replace HI0:=aM hi;clear hb hk hi)|((with_reducible refine jc 52 19 rfl rfl ?_);refine jG Tryz.func52 #[.pointer (some ⟨g,0,none⟩),.int .i64 3] ?_;refine (Sbo.calls k g ag aX 3 bz bJ w0 _ ?ah ?ai dx.out).mono ?_;(case ah=>exact qI HI0);(case ai=>exact qB);rintro e dI ⟨rfl,hi,hb,hk⟩;refine⟨_,rfl,?_⟩;replace ae:=aM (KeepBut.blk hk (g':=aa) (o:=.cells #[.int .i64 0,.int .i64 0,.int .i64 0,.int .i64 0,.int .i64 0,.slice none 0 0,.slice none 0 0,.slice none 0 0] 92 (0,0)) (qK ae) af.out (by simp));replace HK:=kI hk;replace HB:=aM hb;replace HI0:=aM hi;clear hb hk hi)|((with_reducible refine jc 96 21 rfl rfl ?_);refine jG Tryz.func96 #[.pointer (some ⟨g,0,none⟩),.int .i64 (wrap64 (1+bz))] ?_;refine (Sbp.calls k g ag bJ (wrap64 (1+bz)) bA bB bC bW w0 _ ?ah ?ai dz.out).mono ?_;(case ah=>exact qI HI0);(case ai=>exact qB);rintro e dJ ⟨dA,rfl,ho0,hi,hb,hk⟩;refine⟨_,rfl,?_⟩;have bv:=aM (Kd.N_lower (Kd.N_mono (ok':=fun k_=>(w.heap.size<=k_)/\k_≠aa/\k_≠g) ho0 (fun k_ hk_=>⟨(Nat.le_trans (keep_size (w:=w) (g:=g) (row:=none) qH) hk_),(Kd.freshB (g:=aa) (o:=.cells #[.int .i64 0,.int .i64 0,.int .i64 0,.int .i64 0,.int .i64 0,.slice none 0 0,.slice none 0 0,.slice none 0 0] 92 (0,0)) (qK ae) k_ hk_),(Saa.fresh (qI HI0) k_ hk_)⟩)) (keep_size (w:=w) (g:=g) (row:=none) qH));replace ae:=aM (KeepBut.blk hk (g':=aa) (o:=.cells #[.int .i64 0,.int .i64 0,.int .i64 0,.int .i64 0,.int .i64 0,.slice none 0 0,.slice none 0 0,.slice none 0 0] 92 (0,0)) (qK ae) af.out (by simp));replace HK:=kI hk;replace HB:=aM hb;replace HI0:=aM hi;clear hb hk hi;(try clear ho0);obtain⟨bK,bL,bX⟩:=Kd.N_slice bv.out;subst bX;have cB:=af.out;have cK:=av.out;have dB:=jz8 ae))
  refine bodyPost_ret (results_cell_row rfl _ _ aa 92 #[.int .i64 4,.int .i64 0,.int .i64 aN,.int .i64 bA,.int .i64 bB,.slice bK bC.length bL,.slice none 0 0,.slice none 0 0] (0,0) _ rfl (qF ae) Tryz.underlying92 rfl (by kernel_rfl)) rfl ?_
  exact⟨_,_,_,qW,by (with_reducible repeat (first|apply Kd.N_alloc|apply Kd.N_drewN|apply Kd.N_drew));exact Kd.N_mono (Kd.N_far (p:=⟨aa,7,none⟩) (Kd.N_far (p:=⟨aa,6,none⟩) (Kd.N_far (p:=⟨aa,5,none⟩) (Kd.N_far (p:=⟨aa,4,none⟩) (Kd.N_far (p:=⟨aa,3,none⟩) (Kd.N_far (p:=⟨aa,2,none⟩) (Kd.N_far (p:=⟨aa,1,none⟩) (Kd.N_far (p:=⟨aa,0,none⟩) (Kd.N_mono bv.out (fun k_ hk=>(⟨hk,hk.2.1⟩:_/\k_≠aa))) (fun _ hk=>hk.2) (.int .i64 4)) (fun _ hk=>hk.2) (.int .i64 0)) (fun _ hk=>hk.2) (.int .i64 aN)) (fun _ hk=>hk.2) (.int .i64 bA)) (fun _ hk=>hk.2) (.int .i64 bB)) (fun _ hk=>hk.2) (.slice bK bC.length bL)) (fun _ hk=>hk.2) (.slice none 0 0)) (fun _ hk=>hk.2) (.slice none 0 0)) (fun _ hk=>⟨hk.1.1,⟨(by simp [Value.ownBlock]),(by simp [Value.ownBlock])⟩⟩),by first|exact Kd.R_nil _ _ _ _ _|exact Kd.N_nil _ _ _ _ _|exact Kd.V_nil _ _ _ _ _|exact Kd.Q_nil _ _ _ _ _|exact Kd.S_nil _ _ _ _ _,by first|exact Kd.R_nil _ _ _ _ _|exact Kd.N_nil _ _ _ _ _|exact Kd.V_nil _ _ _ _ _|exact Kd.Q_nil _ _ _ _ _|exact Kd.S_nil _ _ _ _ _,qI HI0,qB,qH⟩
 obtain⟨⟨bM,bY⟩,dC,H⟩:=qE H
 try dsimp only at H
 obtain⟨rfl,rfl,rfl,rfl,rfl,rfl,rfl,rfl,rfl⟩:=oJ9 H
 go_enter Tryz.func95,Tryz.ntmps95
 go_wp2_with (first|((with_reducible refine jd 4 rfl ?_);refine jX _ 92 ?_;intro aa hg dK hbox hb;have ae:=aM hbox;have bg:=aM ((by rw [hg];exact (keep_size (w:=w) (g:=g) (row:=none) qH):w.heap.size<=aa));have bi:=aM ((Nat.le_trans HW0.out (by rw [hg];exact (keep_size (w:=w) (g:=g) (row:=none) qH):w.heap.size<=aa):w0.heap.size<=aa));have av:=aM ((by rw [hg];exact Nat.ne_of_lt (Saa.lt (show Saa w0 _ g ag aj from qI HI0)):g≠aa));have af:=aM ((by rw [hg];exact Nat.ne_of_gt (Saa.lt (show Saa w0 _ g ag aj from qI HI0)):aa≠g));replace HI0:=aM (Saa.below (qI HI0) hb);replace HK:=aM (KeepBut.trans qH (KeepBut.of_below hb g none) (.inl rfl));replace HB:=kH hb;clear hb hbox hg)|((with_reducible refine jc 52 12 rfl rfl ?_);refine jG Tryz.func52 #[.pointer (some ⟨g,0,none⟩),.int .i64 a1] ?_;refine (Sbo.calls k g ag aj a1 aN aW w0 _ ?ah ?ai bZ.out).mono ?_;(case ah=>exact qI HI0);(case ai=>exact qB);rintro e dL ⟨rfl,hi,hb,hk⟩;refine⟨_,rfl,?_⟩;replace ae:=aM (KeepBut.blk hk (g':=aa) (o:=.cells #[.int .i64 0,.int .i64 0,.int .i64 0,.int .i64 0,.int .i64 0,.slice none 0 0,.slice none 0 0,.slice none 0 0] 92 (0,0)) (qK ae) af.out (by simp));replace HK:=kI hk;replace HB:=aM hb;replace HI0:=aM hi;clear hb hk hi)|((with_reducible refine jc 52 14 rfl rfl ?_);refine jG Tryz.func52 #[.pointer (some ⟨g,0,none⟩),.int .i64 2] ?_;refine (Sbo.calls k g ag aW 2 bG aX w0 _ ?ah ?ai cz.out).mono ?_;(case ah=>exact qI HI0);(case ai=>exact qB);rintro e dM ⟨rfl,hi,hb,hk⟩;refine⟨_,rfl,?_⟩;replace ae:=aM (KeepBut.blk hk (g':=aa) (o:=.cells #[.int .i64 0,.int .i64 0,.int .i64 0,.int .i64 0,.int .i64 0,.slice none 0 0,.slice none 0 0,.slice none 0 0] 92 (0,0)) (qK ae) af.out (by simp));replace HK:=kI hk;replace HB:=aM hb;replace HI0:=aM hi;clear hb hk hi)|((with_reducible refine jc 52 25 rfl rfl ?_);refine jG Tryz.func52 #[.pointer (some ⟨g,0,none⟩),.int .i64 3] ?_;refine (Sbo.calls k g ag aX 3 bM bY w0 _ ?ah ?ai dC.out).mono ?_;(case ah=>exact qI HI0);(case ai=>exact qB);rintro e dN ⟨rfl,hi,hb,hk⟩;refine⟨_,rfl,?_⟩;replace ae:=aM (KeepBut.blk hk (g':=aa) (o:=.cells #[.int .i64 0,.int .i64 0,.int .i64 0,.int .i64 0,.int .i64 0,.slice none 0 0,.slice none 0 0,.slice none 0 0] 92 (0,0)) (qK ae) af.out (by simp));replace HK:=kI hk;replace HB:=aM hb;replace HI0:=aM hi;clear hb hk hi;have cO:=af.out;have df:=av.out;have dD:=jz8 ae))
 refine bodyPost_ret (results_cell_row rfl _ _ aa 92 #[.int .i64 5,.int .i64 bM,.int .i64 aN,.int .i64 0,.int .i64 0,.slice none 0 0,.slice none 0 0,.slice none 0 0] (0,0) _ rfl (qF ae) Tryz.underlying92 rfl (by kernel_rfl)) rfl ?_
 exact⟨_,_,_,qW,by first|exact Kd.R_nil _ _ _ _ _|exact Kd.N_nil _ _ _ _ _|exact Kd.V_nil _ _ _ _ _|exact Kd.Q_nil _ _ _ _ _|exact Kd.S_nil _ _ _ _ _,by first|exact Kd.R_nil _ _ _ _ _|exact Kd.N_nil _ _ _ _ _|exact Kd.V_nil _ _ _ _ _|exact Kd.Q_nil _ _ _ _ _|exact Kd.S_nil _ _ _ _ _,by first|exact Kd.R_nil _ _ _ _ _|exact Kd.N_nil _ _ _ _ _|exact Kd.V_nil _ _ _ _ _|exact Kd.Q_nil _ _ _ _ _|exact Kd.S_nil _ _ _ _ _,qI HI0,qB,qH⟩
mutual
def Sbu.f:Nat->List Int->Int->Int->Int->Bool->Option (Int × Int × Int × Int × Int × (List (S90)) × (List (S92)) × (List (S92)) × Int)
 | 0,_,_,_,_,_=>none
 | k+1,af,ay,a1,a2,a3=>(Sbo.f k af ay 2).bind fun bI=>((Sbp.f k af bI.2 (wrap64 (1+bI.1))).bind fun aZ=>((Sbo.f k af aZ.2.2.2 3).bind fun bJ=>((Sbt.f k af bJ.2 a1 (wrap64 (a2 - 1)) bJ.1 a3).bind fun bK=>((Sbo.f k af bK.2 3).bind fun bL=>((Sbt.f k af bL.2 a1 (wrap64 (a2 - 1)) bL.1 a3).bind fun bM=>(some (2,0,0,aZ.1,aZ.2.1,aZ.2.2.1,bK.1,bM.1,bM.2)))))))
def Sbv.f:Nat->List Int->Int->Int->Int->Option ((List (S92)) × Int)
 | 0,_,_,_,_=>none
 | k+1,af,ay,a1,a2=>(Sbo.f k af ay 3).bind fun gL=>((Sbt.f k af gL.2 a1 (wrap64 (a2 - 1)) gL.1 false).bind fun eZ=>((Sbk.f 13 3).bind fun fe=>((Sbk.f 0 1).bind fun fo=>((Sbj.f 8 fe.1 fe.2.1 fe.2.2 fo.1 fo.2.1 fo.2.2).bind fun fq=>((Sbk.f 13 3).bind fun fu=>((Sbo.f k af eZ.2 3).bind fun gM=>((Sbk.f 0 (wrap64 (1+gM.1))).bind fun fw=>((Sbj.f 5 fu.1 fu.2.1 fu.2.2 fw.1 fw.2.1 fw.2.2).bind fun fA=>((some (([(⟨1,3,0,(⟨fq.1,fq.2.1,fq.2.2⟩:S90),([]:List (S92)),([]:List (S92))⟩:S92)]:List (S92)):List (S92))).bind fun iN=>(if eZ.1.length+iN.length < 1256584717458 then ((Sbk.f 0 0).bind fun fB=>(some ((([(⟨1,3,0,(⟨fB.1,fB.2.1,fB.2.2⟩:S90),([]:List (S92)),([]:List (S92))⟩:S92),(⟨3,0,0,(⟨fA.1,fA.2.1,fA.2.2⟩:S90),(eZ.1 ++ iN),([]:List (S92))⟩:S92)]:List (S92))),gM.2))) else (none)))))))))))
def Sbx.j0:Nat->Int->Int->Bool->Int->Bool->List Int->Int->Option ((List (S92)) × Int)
 | 0,_,_,_,_,_,_,_=>none
 | k+1,x1,x2,x3,eY,iO,x1000,aC=>if iO=true then ((Sbw.f k x1000 aC).bind fun bg=>(some ((([(⟨bg.1,bg.2.1,bg.2.2.1,(⟨bg.2.2.2.1,bg.2.2.2.2.1,bg.2.2.2.2.2.1⟩:S90),bg.2.2.2.2.2.2.1,bg.2.2.2.2.2.2.2.1⟩:S92)]:List (S92))),bg.2.2.2.2.2.2.2.2))) else (if eY=2 then (if x2 > 0 then ((Sbu.f k x1000 aC x1 x2 x3).bind fun bi=>(some ((([(⟨bi.1,bi.2.1,bi.2.2.1,(⟨bi.2.2.2.1,bi.2.2.2.2.1,bi.2.2.2.2.2.1⟩:S90),bi.2.2.2.2.2.2.1,bi.2.2.2.2.2.2.2.1⟩:S92)]:List (S92))),bi.2.2.2.2.2.2.2.2))) else ((Sbo.f k x1000 aC 3).bind fun gN=>((Sbp.f k x1000 gN.2 (wrap64 (1+gN.1))).bind fun dQ=>(some ((([(⟨7,0,0,(⟨dQ.1,dQ.2.1,dQ.2.2.1⟩:S90),([]:List (S92)),([]:List (S92))⟩:S92)]:List (S92))),dQ.2.2.2))))) else (if eY=3 then (if x2 > 0 then (Sbx.j1 k x1 x2 x3 x1000 aC) else (Sbx.j1 k x1 x2 false x1000 aC)) else (if eY=4 then (Sbx.j2 k x1 eY (eY == 4) x1000 aC) else (if eY=5 then (Sbx.j2 k x1 eY (eY == 5) x1000 aC) else (Sbx.j2 k x1 eY (eY == 6) x1000 aC)))))
def Sbx.j1:Nat->Int->Int->Bool->List Int->Int->Option ((List (S92)) × Int)
 | 0,_,_,_,_,_=>none
 | k+1,x1,x2,o8,x1000,aC=>if o8=true then ((Sbv.f k x1000 aC x1 x2).bind fun gP=>(some (gP.1,gP.2))) else ((Sbo.f k x1000 aC 3).bind fun gQ=>((Sbp.f k x1000 gQ.2 (wrap64 (1+gQ.1))).bind fun dR=>(some ((([(⟨7,0,0,(⟨dR.1,dR.2.1,dR.2.2.1⟩:S90),([]:List (S92)),([]:List (S92))⟩:S92)]:List (S92))),dR.2.2.2))))
def Sbx.j2:Nat->Int->Int->Bool->List Int->Int->Option ((List (S92)) × Int)
 | 0,_,_,_,_,_=>none
 | k+1,x1,eY,x38,x1000,aC=>if x38=true then ((Sbz.f k x1000 aC x1).bind fun bn=>(some ((([(⟨bn.1,bn.2.1,bn.2.2.1,(⟨bn.2.2.2.1,bn.2.2.2.2.1,bn.2.2.2.2.2.1⟩:S90),bn.2.2.2.2.2.2.1,bn.2.2.2.2.2.2.2.1⟩:S92)]:List (S92))),bn.2.2.2.2.2.2.2.2))) else (if eY=7 then (some ((([(⟨6,0,0,(⟨0,0,([]:List (S90))⟩:S90),([]:List (S92)),([]:List (S92))⟩:S92)]:List (S92))),aC)) else ((Sbo.f k x1000 aC 3).bind fun gT=>((Sbp.f k x1000 gT.2 (wrap64 (1+gT.1))).bind fun dS=>(some ((([(⟨7,0,0,(⟨dS.1,dS.2.1,dS.2.2.1⟩:S90),([]:List (S92)),([]:List (S92))⟩:S92)]:List (S92))),dS.2.2.2)))))
def Sbx.f:Nat->List Int->Int->Int->Int->Bool->Option ((List (S92)) × Int)
 | 0,_,_,_,_,_=>none
 | k+1,af,ay,a1,a2,a3=>(Sbo.f k af ay 10).bind fun aI=>(if aI.1=0 then (Sbx.j0 k a1 a2 a3 aI.1 (aI.1 == 0) af aI.2) else (Sbx.j0 k a1 a2 a3 aI.1 (aI.1 == 1) af aI.2))
def Sbt.l0:Nat->Int->Int->Int->Bool->List (S92)->Int->List Int->Int->Option ((List (S92)) × Int)
 | 0,_,_,_,_,_,_,_,_=>none
 | k+1,x1,x2,x3,x4,iO,oD,x1000,aC=>if oD < x3 then ((Sbx.f k x1000 aC x1 x2 x4).bind fun fC=>(if iO.length+fC.1.length < 1256584717458 then (Sbt.l0 k x1 x2 x3 x4 (iO ++ fC.1) (wrap64 (oD+1)) x1000 fC.2) else (none))) else (some (iO,aC))
def Sbt.f:Nat->List Int->Int->Int->Int->Int->Bool->Option ((List (S92)) × Int)
 | 0,_,_,_,_,_,_=>none
 | k+1,af,ay,a1,a2,a3,a4=>Sbt.l0 k a1 a2 a3 a4 (([]:List (S92))) 0 af ay
end
@[reducible] def Sbu.stmt (k:Nat):Prop:=∀ (g:Nat) (af:List Int) (ay:Int) (a1:Int) (a2:Int) (a3:Bool) (r1:Int) (r2:Int) (r3:Int) (r4:Int) (r5:Int) (r6:List (S90)) (r7:List (S92)) (r8:List (S92)) (r9:Int) (w0 w:World) (hI:Saa w0 w g af ay) (hB:Below w0.heap.size w0 w) (h:Sbu.f k af ay a1 a2 a3=some (r1,r2,r3,r4,r5,r6,r7,r8,r9)),
  Calls Tryz.prog 93 #[.pointer (some ⟨g,0,none⟩),.int .i64 a1,.int .i64 a2,.bool a3] w fun e w'=>∃ lY lZ l8:Value,e = .returned (.agg #[.int .i64 r1,.int .i64 r2,.int .i64 r3,.int .i64 r4,.int .i64 r5,lY,lZ,l8])/\Kd.N k90 90 w' w.heap.size (fun k_=>(w.heap.size<=k_)/\some k_≠(lZ:Value).ownBlock/\some k_≠(l8:Value).ownBlock) lY r6/\Kd.N k92 92 w' w.heap.size (fun k_=>(w.heap.size<=k_)/\some k_≠(lY:Value).ownBlock/\some k_≠(l8:Value).ownBlock) lZ r7/\Kd.N k92 92 w' w.heap.size (fun k_=>(w.heap.size<=k_)/\some k_≠(lY:Value).ownBlock/\some k_≠(lZ:Value).ownBlock) l8 r8/\Saa w0 w' g af r9/\Below w0.heap.size w0 w'/\KeepBut w w' g none
@[reducible] def Sbv.stmt (k:Nat):Prop:=∀ (g:Nat) (af:List Int) (ay:Int) (a1:Int) (a2:Int) (r1:List (S92)) (r2:Int) (w0 w:World) (hI:Saa w0 w g af ay) (hB:Below w0.heap.size w0 w) (h:Sbv.f k af ay a1 a2=some (r1,r2)),
  Calls Tryz.prog 94 #[.pointer (some ⟨g,0,none⟩),.int .i64 a1,.int .i64 a2] w fun e w'=>∃ gU:Value,e = .returned (gU)/\Kd.N k92 92 w' w.heap.size (fun k_=>(w.heap.size<=k_)) gU r1/\Saa w0 w' g af r2/\Below w0.heap.size w0 w'/\KeepBut w w' g none
@[reducible] def Sbx.stmt (k:Nat):Prop:=∀ (g:Nat) (af:List Int) (ay:Int) (a1:Int) (a2:Int) (a3:Bool) (r1:List (S92)) (r2:Int) (w0 w:World) (hI:Saa w0 w g af ay) (hB:Below w0.heap.size w0 w) (h:Sbx.f k af ay a1 a2 a3=some (r1,r2)),
  Calls Tryz.prog 82 #[.pointer (some ⟨g,0,none⟩),.int .i64 a1,.int .i64 a2,.bool a3] w fun e w'=>∃ gU:Value,e = .returned (gU)/\Kd.N k92 92 w' w.heap.size (fun k_=>(w.heap.size<=k_)) gU r1/\Saa w0 w' g af r2/\Below w0.heap.size w0 w'/\KeepBut w w' g none
@[reducible] def Sbt.stmt (k:Nat):Prop:=∀ (g:Nat) (af:List Int) (ay:Int) (a1:Int) (a2:Int) (a3:Int) (a4:Bool) (r1:List (S92)) (r2:Int) (w0 w:World) (hI:Saa w0 w g af ay) (hB:Below w0.heap.size w0 w) (h:Sbt.f k af ay a1 a2 a3 a4=some (r1,r2)),
  Calls Tryz.prog 73 #[.pointer (some ⟨g,0,none⟩),.int .i64 a1,.int .i64 a2,.int .i64 a3,.bool a4] w fun e w'=>∃ gU:Value,e = .returned (gU)/\Kd.N k92 92 w' w.heap.size (fun k_=>(w.heap.size<=k_)) gU r1/\Saa w0 w' g af r2/\Below w0.heap.size w0 w'/\KeepBut w w' g none
def Sbu.T3:Bool × List (List Nat × List Nat):=(true,[([],[]),([],[]),([],[]),([],[]),([],[]),([4],[4]),([],[]),([6],[6]),([],[]),([2,3,5,7,8,7],[2,3,5,7,8]),([0,1,9],[0,1,9]),([10,9,0,1,2,3,4,5,6,7,8,9,10],[10])])
def Sbu.B3:List Nat:=[0,0,0,0,0,16,0,64,0,508,1023,2047]
theorem Sbu.tab3:rtab .any (opsOf Tryz.f93 3)=Sbu.T3:=by kernel_rfl
theorem Sbu.bits3:waitsOk Sbu.T3.2 Sbu.B3=true:=by kernel_rfl
theorem Sbu.step (k:Nat) (aj:∀ m_,m_ < k->Sbt.stmt m_) (aG:∀ m_,m_ < k->Sbx.stmt m_) (ih:∀ m_,m_ < k->Sbu.stmt m_) (aH:∀ m_,m_ < k->Sbv.stmt m_):Sbu.stmt k:=by
 intro g af ay a1 a2 a3 r1 r2 r3 r4 r5 r6 r7 r8 r9 w0 w hI hB h
 cases k with
 | zero=>exact absurd h (by simp [Sbu.f])
 | succ k =>
 simp only [Sbu.f] at h
 have mO:=Tryz.underlying92
 have o9:=Tryz.underlying90
 have HI0:=aM hI
 have HK:=aM (KeepBut.refl w g none)
 have HL:=aM hB.size
 clear hI
 have HW0:=aM hB.size
 have HB:=aM hB
 clear hB
 have H:((Sbo.f k af ay 2).bind fun bI=>((Sbp.f k af bI.2 (wrap64 (1+bI.1))).bind fun aZ=>((Sbo.f k af aZ.2.2.2 3).bind fun bJ=>((Sbt.f k af bJ.2 a1 (wrap64 (a2 - 1)) bJ.1 a3).bind fun bK=>((Sbo.f k af bK.2 3).bind fun bL=>((Sbt.f k af bL.2 a1 (wrap64 (a2 - 1)) bL.1 a3).bind fun bM=>(some (2,0,0,aZ.1,aZ.2.1,aZ.2.2.1,bK.1,bM.1,bM.2))))))))=some (r1,r2,r3,r4,r5,r6,r7,r8,r9):=h
 clear h
 obtain⟨⟨iy,iP⟩,A5,H⟩:=qE H
 try dsimp only at H
 obtain⟨⟨bv,bz,aU,gD⟩,A6,H⟩:=qE H
 try dsimp only at H
 obtain⟨⟨iA,iQ⟩,A7,H⟩:=qE H
 try dsimp only at H
 obtain⟨⟨fD,iR⟩,A8,H⟩:=qE H
 try dsimp only at H
 obtain⟨⟨iB,iT⟩,A9,H⟩:=qE H
 try dsimp only at H
 obtain⟨⟨fE,mQ⟩,iU,H⟩:=qE H
 try dsimp only at H
 obtain⟨rfl,rfl,rfl,rfl,rfl,rfl,rfl,rfl,rfl⟩:=oJ9 H
 go_enter Tryz.func93,Tryz.ntmps93
 try go_wp2_with (first|((with_reducible refine jd 8 rfl ?_);refine jX _ 92 ?_;intro aa hg oF hbox hb;have ag:=aM hbox;have oG:=aM ((by rw [hg];exact (keep_size (w:=w) (g:=g) (row:=none) qH):w.heap.size<=aa));have oH:=aM ((Nat.le_trans HW0.out (by rw [hg];exact (keep_size (w:=w) (g:=g) (row:=none) qH):w.heap.size<=aa):w0.heap.size<=aa));have l9:=aM ((by rw [hg];exact Nat.ne_of_lt (Saa.lt (show Saa w0 _ g af ay from qI HI0)):g≠aa));have aV:=aM ((by rw [hg];exact Nat.ne_of_gt (Saa.lt (show Saa w0 _ g af ay from qI HI0)):aa≠g));replace HI0:=aM (Saa.below (qI HI0) hb);replace HK:=aM (KeepBut.trans (w:=w) qH (KeepBut.of_below hb g none) (.inl rfl));replace HB:=kH hb;clear hb hbox hg)|((with_reducible refine jc 52 13 rfl rfl ?_);refine jG Tryz.func52 #[.pointer (some ⟨g,0,none⟩),.int .i64 2] ?_;refine (Sbo.calls k g af ay 2 iy iP w0 _ ?ah ?ai A5.out).mono ?_;(case ah=>exact qI HI0);(case ai=>exact qB);rintro e rV ⟨rfl,hi,hb,hk⟩;refine⟨_,rfl,?_⟩;replace ag:=aM (KeepBut.blk hk (g':=aa) (o:=.cells #[.int .i64 0,.int .i64 0,.int .i64 0,.int .i64 0,.int .i64 0,.slice none 0 0,.slice none 0 0,.slice none 0 0] 92 (0,0)) (qK ag) aV.out (by simp));replace HK:=aM (KeepBut.trans (w:=w) qH hk (.inl rfl));replace HB:=aM hb;replace HI0:=aM hi;clear hb hk hi)|((with_reducible refine jc 96 15 rfl rfl ?_);refine jG Tryz.func96 #[.pointer (some ⟨g,0,none⟩),.int .i64 (wrap64 (1+iy))] ?_;refine (Sbp.calls k g af iP (wrap64 (1+iy)) bv bz aU gD w0 _ ?ah ?ai A6.out).mono ?_;(case ah=>exact qI HI0);(case ai=>exact qB);rintro e rW ⟨pq,rfl,ho0,hi,hb,hk⟩;refine⟨_,rfl,?_⟩;have aD:=aM (Kd.N_lower (Kd.N_mono (ok':=fun k_=>(w.heap.size<=k_)/\k_≠aa/\k_≠g) ho0 (fun k_ hk_=>⟨(Nat.le_trans (keep_size (w:=w) (g:=g) (row:=none) qH) hk_),(Kd.freshB (g:=aa) (o:=.cells #[.int .i64 0,.int .i64 0,.int .i64 0,.int .i64 0,.int .i64 0,.slice none 0 0,.slice none 0 0,.slice none 0 0] 92 (0,0)) (qK ag) k_ hk_),(Saa.fresh (qI HI0) k_ hk_)⟩)) (keep_size (w:=w) (g:=g) (row:=none) qH));replace ag:=aM (KeepBut.blk hk (g':=aa) (o:=.cells #[.int .i64 0,.int .i64 0,.int .i64 0,.int .i64 0,.int .i64 0,.slice none 0 0,.slice none 0 0,.slice none 0 0] 92 (0,0)) (qK ag) aV.out (by simp));replace HK:=aM (KeepBut.trans (w:=w) qH hk (.inl rfl));replace HB:=aM hb;replace HI0:=aM hi;clear hb hk hi;(try clear ho0))|((with_reducible refine jd 9 rfl ?_);refine jX _ 90 ?_;intro au hg rX hbox hb;have av:=aM hbox;have oI:=aM ((by rw [hg];exact (keep_size (w:=w) (g:=g) (row:=none) qH):w.heap.size<=au));have oK:=aM ((Nat.le_trans HW0.out (by rw [hg];exact (keep_size (w:=w) (g:=g) (row:=none) qH):w.heap.size<=au):w0.heap.size<=au));have ax:=kN hg ag;have ae:=kM hg ag;have gF:=aM ((by rw [hg];exact Nat.ne_of_lt (Saa.lt (show Saa w0 _ g af gD from qI HI0)):g≠au));have bq:=aM ((by rw [hg];exact Nat.ne_of_gt (Saa.lt (show Saa w0 _ g af gD from qI HI0)):au≠g));replace aD:=aM (Kd.N_below (Kd.N_elderB (qN aD) au (Nat.le_of_eq hg.symm)) hb);replace HI0:=aM (Saa.below (qI HI0) hb);replace ag:=kB ag hb;replace HK:=aM (KeepBut.trans (w:=w) qH (KeepBut.of_below hb g none) (.inl rfl));replace HB:=kH hb;clear hb hbox hg;have oL:=ae.out;have oM:=ax.out;have oN:=bq.out;have oO:=gF.out;have pz:=jz3 av;obtain⟨aW,aX,mR⟩:=Kd.N_slice aD.out;subst mR)|((with_reducible refine jc 52 21 rfl rfl ?_);refine jG Tryz.func52 #[.pointer (some ⟨g,0,none⟩),.int .i64 3] ?_;refine (Sbo.calls k g af gD 3 iA iQ w0 _ ?ah ?ai A7.out).mono ?_;(case ah=>exact qI HI0);(case ai=>exact qB);rintro e rY ⟨rfl,hi,hb,hk⟩;refine⟨_,rfl,?_⟩;replace ag:=aM (KeepBut.blk hk (g':=aa) (o:=.cells #[.int .i64 0,.int .i64 0,.int .i64 0,.int .i64 0,.int .i64 0,.slice none 0 0,.slice none 0 0,.slice none 0 0] 92 (0,0)) (qL ag) aV.out (by simp));replace aD:=aM (Kd.N_mono (Kd.N_keep (Kd.N_mono (ok:=fun k_=>((((w.heap.size<=k_))/\(k_≠aa/\k_≠g))/\k_≠au)) (by (with_reducible repeat (first|apply Kd.N_alloc|apply Kd.N_drewN|apply Kd.N_drew));exact (Kd.N_mono (Kd.N_far (p:=⟨au,2,none⟩) (Kd.N_far (p:=⟨au,1,none⟩) (Kd.N_far (p:=⟨au,0,none⟩) (Kd.N_mono aD.out (fun k_ hk=>(⟨hk,hk.2⟩:_/\k_≠au))) (fun _ hk=>hk.2) (.int .i64 bv)) (fun _ hk=>hk.2) (.int .i64 bz)) (fun _ hk=>hk.2) (.slice aW aU.length aX)) (fun _ h_=>h_.1))) (fun k_ hk_=>(⟨hk_,hk_.1.2.2⟩:_/\k_≠g))) hk (fun _ h=>h.2)) (fun _ h=>h.1));replace av:=aM (KeepBut.blk hk (g':=au) (o:=.cells #[.int .i64 bv,.int .i64 bz,.slice aW aU.length aX] 90 (0,0)) (qF av) bq.out (by simp));replace HK:=aM (KeepBut.trans (w:=w) qH hk (.inl rfl));replace HB:=aM hb;replace HI0:=aM hi;clear hb hk hi)|((with_reducible refine jc 73 23 rfl rfl ?_);refine jG Tryz.func73 #[.pointer (some ⟨g,0,none⟩),.int .i64 a1,.int .i64 (wrap64 (a2 - 1)),.int .i64 iA,.bool a3] ?_;refine (aj k (by omega) g af iQ a1 (wrap64 (a2 - 1)) iA a3 fD iR w0 _ ?ah ?ai A8.out).mono ?_;(case ah=>exact qI HI0);(case ai=>exact qB);rintro e mU ⟨iC,rfl,ho0,hi,hb,hk⟩;refine⟨_,rfl,?_⟩;have aY:=aM (Kd.N_lower (Kd.N_mono (ok':=fun k_=>(w.heap.size<=k_)/\some k_≠(.slice aW aU.length aX:Value).ownBlock/\k_≠aa/\k_≠au/\k_≠g) ho0 (fun k_ hk_=>⟨(Nat.le_trans (keep_size (w:=w) (g:=g) (row:=none) qH) hk_),(Kd.fresh' (Kd.N_lt (qN aD)) k_ hk_),(Kd.freshB (g:=aa) (o:=.cells #[.int .i64 0,.int .i64 0,.int .i64 0,.int .i64 0,.int .i64 0,.slice none 0 0,.slice none 0 0,.slice none 0 0] 92 (0,0)) (qK ag) k_ hk_),(Kd.freshB (g:=au) (o:=.cells #[.int .i64 bv,.int .i64 bz,.slice aW aU.length aX] 90 (0,0)) (qK av) k_ hk_),(Saa.fresh (qI HI0) k_ hk_)⟩)) (keep_size (w:=w) (g:=g) (row:=none) qH));replace ag:=aM (KeepBut.blk hk (g':=aa) (o:=.cells #[.int .i64 0,.int .i64 0,.int .i64 0,.int .i64 0,.int .i64 0,.slice none 0 0,.slice none 0 0,.slice none 0 0] 92 (0,0)) (qK ag) aV.out (by simp));replace aD:=aM (Kd.N_mono (Kd.N_told (Kd.N_oldK (Kd.N_mono (ok:=fun k_=>((((w.heap.size<=k_))/\(k_≠aa/\k_≠g))/\k_≠au)) (qN aD) (fun k_ hk_=>(⟨hk_,hk_.1.2.2⟩:_/\k_≠g))) hk) (by first|exact Kd.N_base ho0|exact Kd.R_base ho0)) (fun _ h_=>h_.1));replace av:=aM (KeepBut.blk hk (g':=au) (o:=.cells #[.int .i64 bv,.int .i64 bz,.slice aW aU.length aX] 90 (0,0)) (qK av) bq.out (by simp));replace HK:=aM (KeepBut.trans (w:=w) qH hk (.inl rfl));replace HB:=aM hb;replace HI0:=aM hi;clear hb hk hi;(try clear ho0)))
 replace aD:=aM (Kd.N_drew aD.out)
 replace aY:=aM (Kd.N_drew aY.out)
 replace ag:=aM (blk_drew ag.out)
 replace av:=aM (blk_drew av.out)
 replace HI0:=aM (Saa.drew HI0.out)
 replace HK:=aM (keep_drew HK.out)
 replace HB:=aM (below_drew1 HB.out)
 refine start_ (n:=12) (S:=fun w'=>w'.cell? ⟨au,0,none⟩=some (.int .i64 bv)/\w'.cell? ⟨au,1,none⟩=some (.int .i64 bz)/\w'.cell? ⟨au,2,none⟩=some (.slice aW aU.length aX)) (ds:=[]) (jb 12 0) (by kernel_rfl) rfl rfl ⟨(blk_cell av.out 0).trans rfl,(blk_cell av.out 1).trans rfl,(blk_cell av.out 2).trans rfl⟩ (fun hHeld=>?_);refine with_tabW Sbu.tab3 Sbu.bits3 (fun HT_ HW_=>?_)
 generalize mU.drew=rZ at aD aY ag av HI0 HK HB hHeld ⊢
 refine jp 1 25 (jb 12 2) ?_
 refine jp 2 26 (jb 12 6) ?_
 refine jp 3 27 (jb 12 14) ?_
 refine jp 4 28 (jb 12 30) ?_
 refine jp 5 29 (jb 12 62) ?_
 refine jp 6 30 (jb 12 126) ?_
 refine jp 8 32 (jb 12 382) ?_
 refine jt 0 24 (jb 12 383) ?_
 refine one_ (i:=7) (N:=some 31) (jb 12 511) rfl rfl (one_of HT_.out (by kernel_rfl)) (by decide) (fun K hK=>?_)
 refine goes_ Tryz.func52 (by kernel_rfl) rfl #[.pointer (some ⟨g,0,none⟩),.int .i64 3] (by rfl) rfl rfl qM ?_
 with_reducible refine (Sbo.calls k g af iR 3 iB iT w0 _ ?ah ?ai A9.out).mono ?_
 (case ah=>exact qI HI0)
 (case ai=>exact qB)
 rintro e si ⟨rfl,hi,hb,hk⟩
 refine⟨_,rfl,?_⟩
 replace ag:=aM (KeepBut.blk hk (g':=aa) (o:=.cells #[.int .i64 0,.int .i64 0,.int .i64 0,.int .i64 0,.int .i64 0,.slice none 0 0,.slice none 0 0,.slice none 0 0] 92 (0,0)) (qK ag) aV.out (by simp))
 replace aD:=aM (Kd.N_mono (Kd.N_keep (Kd.N_mono (ok:=fun k_=>(((((w.heap.size<=k_))/\(k_≠aa/\k_≠g))/\k_≠au)/\some k_≠(iC:Value).ownBlock)) (qN aD) (fun k_ hk_=>(⟨hk_,hk_.1.1.2.2⟩:_/\k_≠g))) hk (fun _ h=>h.2)) (fun _ h=>h.1))
 replace av:=aM (KeepBut.blk hk (g':=au) (o:=.cells #[.int .i64 bv,.int .i64 bz,.slice aW aU.length aX] 90 (0,0)) (qK av) bq.out (by simp))
 replace aY:=aM (Kd.N_mono (Kd.N_keep (Kd.N_mono (ok:=fun k_=>(((w.heap.size<=k_))/\(some k_≠(.slice aW aU.length aX:Value).ownBlock/\(k_≠aa/\(k_≠au/\k_≠g))))) (qN aY) (fun k_ hk_=>(⟨hk_,hk_.2.2.2.2⟩:_/\k_≠g))) hk (fun _ h=>h.2)) (fun _ h=>h.1))
 replace HK:=aM (KeepBut.trans (w:=w) qH hk (.inl rfl))
 replace HB:=aM hb
 replace HI0:=aM hi
 (try clear hb)
 (try clear hb2)
 (try clear hk)
 (try clear hi)
 refine hK.out _ _ ⟨(blk_cell av.out 0).trans rfl,(blk_cell av.out 1).trans rfl,(blk_cell av.out 2).trans rfl⟩ (fun hHeld=>?_)
 clear hK K
 refine norm_ (a':=?_) ?_ ?_
 rotate_left
 ·show Act.put _ (some 31) _=_
  simp only [Act.put,List.setIfInBounds_toArray,List.set_cons_zero,List.set_cons_succ,i64_w,i32_w]
  rfl
 refine one_ (i:=9) (N:=some 33) (jb 12 1023) rfl rfl (one_of HT_.out (by kernel_rfl)) (by decide) (fun K hK=>?_)
 refine goes_ Tryz.func73 (by kernel_rfl) rfl #[.pointer (some ⟨g,0,none⟩),.int .i64 a1,.int .i64 (wrap64 (a2 - 1)),.int .i64 iB,.bool a3] (by rfl) rfl rfl qM ?_
 with_reducible refine (aj k (by omega) g af iT a1 (wrap64 (a2 - 1)) iB a3 fE mQ w0 _ ?ah ?ai iU.out).mono ?_
 (case ah=>exact qI HI0)
 (case ai=>exact qB)
 rintro e gV ⟨pE,rfl,ho0,hi,hb,hk⟩
 refine⟨_,rfl,?_⟩
 have gW:=aM (Kd.N_lower (Kd.N_mono (ok':=fun k_=>(w.heap.size<=k_)/\some k_≠(.slice aW aU.length aX:Value).ownBlock/\some k_≠(iC:Value).ownBlock/\k_≠aa/\k_≠au/\k_≠g) ho0 (fun k_ hk_=>⟨(Nat.le_trans (keep_size (w:=w) (g:=g) (row:=none) qH) hk_),(Kd.fresh' (Kd.N_lt (qN aD)) k_ hk_),(Kd.fresh' (Kd.N_lt (qN aY)) k_ hk_),(Kd.freshB (g:=aa) (o:=.cells #[.int .i64 0,.int .i64 0,.int .i64 0,.int .i64 0,.int .i64 0,.slice none 0 0,.slice none 0 0,.slice none 0 0] 92 (0,0)) (qK ag) k_ hk_),(Kd.freshB (g:=au) (o:=.cells #[.int .i64 bv,.int .i64 bz,.slice aW aU.length aX] 90 (0,0)) (qK av) k_ hk_),(Saa.fresh (qI HI0) k_ hk_)⟩)) (keep_size (w:=w) (g:=g) (row:=none) qH))
 replace ag:=aM (KeepBut.blk hk (g':=aa) (o:=.cells #[.int .i64 0,.int .i64 0,.int .i64 0,.int .i64 0,.int .i64 0,.slice none 0 0,.slice none 0 0,.slice none 0 0] 92 (0,0)) (qK ag) aV.out (by simp))
 replace aD:=aM (Kd.N_mono (Kd.N_told (Kd.N_oldK (Kd.N_mono (ok:=fun k_=>(((((w.heap.size<=k_))/\(k_≠aa/\k_≠g))/\k_≠au)/\some k_≠(iC:Value).ownBlock)) (qN aD) (fun k_ hk_=>(⟨hk_,hk_.1.1.2.2⟩:_/\k_≠g))) hk) (by first|exact Kd.N_base ho0|exact Kd.R_base ho0)) (fun _ h_=>h_.1))
 replace av:=aM (KeepBut.blk hk (g':=au) (o:=.cells #[.int .i64 bv,.int .i64 bz,.slice aW aU.length aX] 90 (0,0)) (qK av) bq.out (by simp))
 replace aY:=aM (Kd.N_mono (Kd.N_told (Kd.N_oldK (Kd.N_mono (ok:=fun k_=>(((w.heap.size<=k_))/\(some k_≠(.slice aW aU.length aX:Value).ownBlock/\(k_≠aa/\(k_≠au/\k_≠g))))) (qN aY) (fun k_ hk_=>(⟨hk_,hk_.2.2.2.2⟩:_/\k_≠g))) hk) (by first|exact Kd.N_base ho0|exact Kd.R_base ho0)) (fun _ h_=>h_.1))
 replace HK:=aM (KeepBut.trans (w:=w) qH hk (.inl rfl))
 replace HB:=aM hb
 replace HI0:=aM hi
 (try clear hb)
 (try clear hb2)
 (try clear hk)
 (try clear hi)
 (try clear ho0)
 obtain⟨gG,gH,iV⟩:=Kd.N_slice gW.out
 (first|subst iV|(injection iV with iW mV iX;have mW:=iW.symm;have mX:=iX.symm;clear iW mV iX;subst mW;subst mX))
 obtain⟨gI,gJ,iY⟩:=Kd.N_slice aY.out
 (first|subst iY|(injection iY with iW mV iX;have mW:=iW.symm;have mX:=iX.symm;clear iW mV iX;subst mW;subst mX))
 refine hK.out _ _ ⟨(blk_cell av.out 0).trans rfl,(blk_cell av.out 1).trans rfl,(blk_cell av.out 2).trans rfl⟩ (fun hHeld=>?_)
 clear hK K
 refine norm_ (a':=?_) ?_ ?_
 rotate_left
 ·show Act.put _ (some 33) _=_
  simp only [Act.put,List.setIfInBounds_toArray,List.set_cons_zero,List.set_cons_succ,i64_w,i32_w]
  rfl
 refine jp 10 34 (jb 12 2047) ?_
 refine one_ (i:=11) (N:=none) (jb 12 4095) rfl rfl (one_of HT_.out (by kernel_rfl)) (by decide) (fun K hK=>?_)
 have pF:gV.cell? ⟨aa,0,none⟩=some (.int .i64 0):=(blk_cell ag.out 0).trans rfl
 have oP:=blk_frozen ag.out 0
 have ma:=ae.out
 have mf:=ax.out
 have pG:gV.cell? ⟨aa,1,none⟩=some (.int .i64 0):=(blk_cell ag.out 1).trans rfl
 have oQ:=blk_frozen ag.out 1
 have mg:=ae.out
 have mh:=ax.out
 have pI:gV.cell? ⟨aa,2,none⟩=some (.int .i64 0):=(blk_cell ag.out 2).trans rfl
 have oU:=blk_frozen ag.out 2
 have mi:=ae.out
 have mo:=ax.out
 have pJ:gV.cell? ⟨aa,3,none⟩=some (.int .i64 0):=(blk_cell ag.out 3).trans rfl
 have oV:=blk_frozen ag.out 3
 have mq:=ae.out
 have mr:=ax.out
 have pK:gV.cell? ⟨aa,4,none⟩=some (.int .i64 0):=(blk_cell ag.out 4).trans rfl
 have oW:=blk_frozen ag.out 4
 have mD:=ae.out
 have mE:=ax.out
 have pM:gV.cell? ⟨aa,5,none⟩=some (.slice none 0 0):=(blk_cell ag.out 5).trans rfl
 have oZ:=blk_frozen ag.out 5
 have mF:=ae.out
 have mG:=ax.out
 have pO:gV.cell? ⟨aa,6,none⟩=some (.slice none 0 0):=(blk_cell ag.out 6).trans rfl
 have o5:=blk_frozen ag.out 6
 have mH:=ae.out
 have mI:=ax.out
 have pQ:gV.cell? ⟨aa,7,none⟩=some (.slice none 0 0):=(blk_cell ag.out 7).trans rfl
 have o6:=blk_frozen ag.out 7
 have mJ:=ae.out
 have mK:=ax.out
 refine skip_ (w1:=?_) (by rfl) rfl ?_ ?_
 rotate_left
 ·go_simp
  rfl
 refine hK.out _ _ ⟨((cell_far (p:=⟨aa,_,none⟩) ae.out _).trans (((cell_far (p:=⟨aa,_,none⟩) ae.out _).trans (((cell_far (p:=⟨aa,_,none⟩) ae.out _).trans (((cell_far (p:=⟨aa,_,none⟩) ae.out _).trans (((cell_far (p:=⟨aa,_,none⟩) ae.out _).trans (((cell_far (p:=⟨aa,_,none⟩) ae.out _).trans (((cell_far (p:=⟨aa,_,none⟩) ae.out _).trans (((cell_far (p:=⟨aa,_,none⟩) ae.out _).trans (hHeld.1)))))))))))))))),((cell_far (p:=⟨aa,_,none⟩) ae.out _).trans (((cell_far (p:=⟨aa,_,none⟩) ae.out _).trans (((cell_far (p:=⟨aa,_,none⟩) ae.out _).trans (((cell_far (p:=⟨aa,_,none⟩) ae.out _).trans (((cell_far (p:=⟨aa,_,none⟩) ae.out _).trans (((cell_far (p:=⟨aa,_,none⟩) ae.out _).trans (((cell_far (p:=⟨aa,_,none⟩) ae.out _).trans (((cell_far (p:=⟨aa,_,none⟩) ae.out _).trans (hHeld.2.1)))))))))))))))),((cell_far (p:=⟨aa,_,none⟩) ae.out _).trans (((cell_far (p:=⟨aa,_,none⟩) ae.out _).trans (((cell_far (p:=⟨aa,_,none⟩) ae.out _).trans (((cell_far (p:=⟨aa,_,none⟩) ae.out _).trans (((cell_far (p:=⟨aa,_,none⟩) ae.out _).trans (((cell_far (p:=⟨aa,_,none⟩) ae.out _).trans (((cell_far (p:=⟨aa,_,none⟩) ae.out _).trans (((cell_far (p:=⟨aa,_,none⟩) ae.out _).trans (hHeld.2.2))))))))))))))))⟩ (fun hHeld=>?_)
 clear hK K
 refine done_ (done_of HT_.out (by kernel_rfl)) ?_
 try go_wp2
 refine bodyPost_ret (results_cell_row rfl _ _ aa 92 #[.int .i64 2,.int .i64 0,.int .i64 0,.int .i64 bv,.int .i64 bz,.slice aW aU.length aX,.slice gI fD.length gJ,.slice gG fE.length gH] (0,0) _ rfl (qF ag) Tryz.underlying92 rfl (by kernel_rfl)) rfl ?_
 exact⟨_,_,_,qW,by (with_reducible repeat (first|apply Kd.N_alloc|apply Kd.N_drewN|apply Kd.N_drew));exact Kd.N_mono (Kd.N_far (p:=⟨aa,7,none⟩) (Kd.N_far (p:=⟨aa,6,none⟩) (Kd.N_far (p:=⟨aa,5,none⟩) (Kd.N_far (p:=⟨aa,4,none⟩) (Kd.N_far (p:=⟨aa,3,none⟩) (Kd.N_far (p:=⟨aa,2,none⟩) (Kd.N_far (p:=⟨aa,1,none⟩) (Kd.N_far (p:=⟨aa,0,none⟩) (Kd.N_mono aD.out (fun k_ hk=>(⟨hk,hk.1.1.1.2.1⟩:_/\k_≠aa))) (fun _ hk=>hk.2) (.int .i64 2)) (fun _ hk=>hk.2) (.int .i64 0)) (fun _ hk=>hk.2) (.int .i64 0)) (fun _ hk=>hk.2) (.int .i64 bv)) (fun _ hk=>hk.2) (.int .i64 bz)) (fun _ hk=>hk.2) (.slice aW aU.length aX)) (fun _ hk=>hk.2) (.slice gI fD.length gJ)) (fun _ hk=>hk.2) (.slice gG fE.length gH)) (fun _ hk=>⟨hk.1.1.1.1.1,⟨hk.1.1.2,hk.1.2⟩⟩),by (with_reducible repeat (first|apply Kd.N_alloc|apply Kd.N_drewN|apply Kd.N_drew));exact Kd.N_mono (Kd.N_far (p:=⟨aa,7,none⟩) (Kd.N_far (p:=⟨aa,6,none⟩) (Kd.N_far (p:=⟨aa,5,none⟩) (Kd.N_far (p:=⟨aa,4,none⟩) (Kd.N_far (p:=⟨aa,3,none⟩) (Kd.N_far (p:=⟨aa,2,none⟩) (Kd.N_far (p:=⟨aa,1,none⟩) (Kd.N_far (p:=⟨aa,0,none⟩) (Kd.N_mono aY.out (fun k_ hk=>(⟨hk,hk.1.2.2.1⟩:_/\k_≠aa))) (fun _ hk=>hk.2) (.int .i64 2)) (fun _ hk=>hk.2) (.int .i64 0)) (fun _ hk=>hk.2) (.int .i64 0)) (fun _ hk=>hk.2) (.int .i64 bv)) (fun _ hk=>hk.2) (.int .i64 bz)) (fun _ hk=>hk.2) (.slice aW aU.length aX)) (fun _ hk=>hk.2) (.slice gI fD.length gJ)) (fun _ hk=>hk.2) (.slice gG fE.length gH)) (fun _ hk=>⟨hk.1.1.1,⟨hk.1.1.2.1,hk.1.2⟩⟩),by (with_reducible repeat (first|apply Kd.N_alloc|apply Kd.N_drewN|apply Kd.N_drew));exact Kd.N_mono (Kd.N_far (p:=⟨aa,7,none⟩) (Kd.N_far (p:=⟨aa,6,none⟩) (Kd.N_far (p:=⟨aa,5,none⟩) (Kd.N_far (p:=⟨aa,4,none⟩) (Kd.N_far (p:=⟨aa,3,none⟩) (Kd.N_far (p:=⟨aa,2,none⟩) (Kd.N_far (p:=⟨aa,1,none⟩) (Kd.N_far (p:=⟨aa,0,none⟩) (Kd.N_mono gW.out (fun k_ hk=>(⟨hk,hk.2.2.2.1⟩:_/\k_≠aa))) (fun _ hk=>hk.2) (.int .i64 2)) (fun _ hk=>hk.2) (.int .i64 0)) (fun _ hk=>hk.2) (.int .i64 0)) (fun _ hk=>hk.2) (.int .i64 bv)) (fun _ hk=>hk.2) (.int .i64 bz)) (fun _ hk=>hk.2) (.slice aW aU.length aX)) (fun _ hk=>hk.2) (.slice gI fD.length gJ)) (fun _ hk=>hk.2) (.slice gG fE.length gH)) (fun _ hk=>⟨hk.1.1,⟨hk.1.2.1,hk.1.2.2.1⟩⟩),qI HI0,qB,qH⟩
def Sbv.T4:Bool × List (List Nat × List Nat):=(true,[([],[]),([0],[0]),([],[]),([2,1],[2]),([3],[3]),([4,3],[4]),([1,5,5],[1,5]),([],[]),([],[]),([8],[8]),([7,9,6],[7,9]),([6,10],[6,10]),([],[]),([12,11,10,0,1,2,3,4,5,6,7,8,9,10,11,12],[11,12])])
def Sbv.B4:List Nat:=[0,1,0,7,15,31,63,0,0,256,1023,2047,0,8191]
theorem Sbv.tab4:rtab .any (opsOf Tryz.f94 4)=Sbv.T4:=by kernel_rfl
theorem Sbv.bits4:waitsOk Sbv.T4.2 Sbv.B4=true:=by kernel_rfl
theorem Sbv.step (k:Nat) (aj:∀ m_,m_ < k->Sbt.stmt m_) (aG:∀ m_,m_ < k->Sbx.stmt m_) (aN:∀ m_,m_ < k->Sbu.stmt m_) (ih:∀ m_,m_ < k->Sbv.stmt m_):Sbv.stmt k:=by
 intro g af ay a1 a2 r1 r2 w0 w hI hB H
 cases k with
 | zero=>exact absurd H (by simp [Sbv.f])
 | succ k =>
 simp only [Sbv.f] at H
 have HI0:=aM hI
 have HK:=aM (KeepBut.refl w g none)
 have HW0:=aM hB.size
 have HB:=aM hB
 clear hB hI
 obtain⟨⟨n1,p1⟩,A1,H⟩:=qE H
 try dsimp only at H
 obtain⟨⟨tb,p2⟩,A2,H⟩:=qE H
 try dsimp only at H
 obtain⟨⟨x1,y1,z1⟩,A3,H⟩:=qE H
 try dsimp only at H
 obtain⟨⟨x2,y2,z2⟩,A4,H⟩:=qE H
 try dsimp only at H
 obtain⟨⟨x3,y3,z3⟩,A5,H⟩:=qE H
 try dsimp only at H
 obtain⟨⟨x4,y4,z4⟩,A6,H⟩:=qE H
 try dsimp only at H
 obtain⟨⟨n2,p3⟩,A7,H⟩:=qE H
 try dsimp only at H
 obtain⟨⟨x5,y5,z5⟩,A8,H⟩:=qE H
 try dsimp only at H
 obtain⟨⟨x6,y6,z6⟩,A9,H⟩:=qE H
 try dsimp only at H
 obtain⟨ys,Hy⟩:∃ ys:List S92,Aside0 (ys=[(⟨1,3,0,(⟨x3,y3,z3⟩:S90),[],[]⟩:S92)]):=⟨_,⟨rfl⟩⟩
 rw [Option.bind_some,<- Hy.out] at H
 replace H:=jU H;obtain⟨c13,H⟩:=H
 obtain⟨⟨x7,y7,z7⟩,iU,H⟩:=qE H
 obtain⟨yt,Hyt⟩:∃ yt:List S92,Aside0 (yt=tb ++ ys):=⟨_,⟨rfl⟩⟩
 simp only [Option.some.injEq,Prod.mk.injEq] at H
 rw [<- Hyt.out] at H
 obtain⟨rfl,rfl⟩:=H
 go_enter Tryz.func94,Tryz.ntmps94
 go_wp2_with (first|((with_reducible refine jc 52 16 rfl rfl ?_);refine jG Tryz.func52 #[.pointer (some ⟨g,0,none⟩),.int .i64 3] ?_;refine (Sbo.calls k g af ay 3 n1 p1 w0 _ ?ah ?ai A1.out).mono ?_;(case ah=>exact qI HI0);(case ai=>exact qB);rintro e w1 ⟨rfl,hi,hb,hk⟩;refine⟨_,rfl,?_⟩;replace HK:=aM (KeepBut.trans (w:=w) qH hk (.inl rfl));replace HB:=aM hb;replace HI0:=aM hi;clear hi hb hk)|((with_reducible refine jc 73 17 rfl rfl ?_);refine jG Tryz.func73 #[.pointer (some ⟨g,0,none⟩),.int .i64 a1,.int .i64 (wrap64 (a2 - 1)),.int .i64 n1,.bool false] ?_;refine (aj k (by omega) g af p1 a1 (wrap64 (a2 - 1)) n1 false tb p2 w0 _ ?ah ?ai A2.out).mono ?_;(case ah=>exact qI HI0);(case ai=>exact qB);rintro e w2 ⟨v1,rfl,ho,hi,hb,hk⟩;refine⟨_,rfl,?_⟩;obtain⟨bE,bF,rfl⟩:=Kd.N_slice ho;have HX:=aM (LX.start (w:=w) qH (qI HI0) HW0.out ho hi hb hk);clear hi hb hk ho HI0 HB HK)|((with_reducible refine jc 110 20 rfl rfl ?_);refine jG Tryz.func110 #[.int .i64 13,.int .i64 3] ?_;refine LX.leaf HX.out A3.out (fun mY mZ w3 hx=>?_);replace HX:=aM hx;clear hx)|((with_reducible refine jc 110 21 rfl rfl ?_);refine jG Tryz.func110 #[.int .i64 0,.int .i64 1] ?_;refine LX.leaf HX.out A4.out (fun ng ni w3 hx=>?_);replace HX:=aM hx;clear hx)|((with_reducible refine jc 109 22 rfl rfl ?_);refine jG Tryz.func109 #[.int .i64 8,eV x1 y1 mY z1 mZ,eV x2 y2 ng z2 ni] ?_;refine LX.both HX.out (by simp) (by simp) A5.out (fun bG bH w3 hx=>?_);replace HX:=aM hx;clear hx)|((with_reducible refine jd 9 rfl ?_);refine jX _ 92 ?_;intro b1 hg w4 hbox hb;replace HX:=aM (LX.box HX.out hg hbox hb);obtain⟨iZ,ja,je,jf,jg,jh,jk,jl,nk,nu,ny,nz,nA,nC,nD,nE⟩:=box8 hbox;clear hb hbox hg))
 replace HX:=aM (show LX w0 w g af (.slice bE tb.length bF) tb [(b1,#[.int .i64 1,.int .i64 3,.int .i64 0,.int .i64 x3,.int .i64 y3,.slice bG z3.length bH,.slice none 0 0,.slice none 0 0])] [(.slice bG z3.length bH,z3),(.slice ng z2.length ni,z2),(.slice mY z1.length mZ,z1)] [] p2 _ from LX.put8 (.int .i64 1) (.int .i64 3) (.int .i64 0) (.int .i64 x3) (.int .i64 y3) (.slice bG z3.length bH) (.slice none 0 0) (.slice none 0 0) HX.out)
 obtain⟨B1,HB1,m1⟩:∃ B:List (Nat × Array Value),Aside0 (B=[(b1,#[.int .i64 1,.int .i64 3,.int .i64 0,.int .i64 x3,.int .i64 y3,.slice bG z3.length bH,.slice none 0 0,.slice none 0 0])])/\(b1,#[.int .i64 1,.int .i64 3,.int .i64 0,.int .i64 x3,.int .i64 y3,.slice bG z3.length bH,.slice none 0 0,.slice none 0 0])∈B:=⟨_,⟨rfl⟩,List.mem_cons_self ..⟩
 obtain⟨L1,pR,m3⟩:∃ L:List (Value × List S90),Aside0 (L=[(.slice bG z3.length bH,z3),(.slice ng z2.length ni,z2),(.slice mY z1.length mZ,z1)])/\(.slice bG z3.length bH,z3)∈L:=⟨_,⟨rfl⟩,List.mem_cons_self ..⟩
 rw [<- HB1.out,<- pR.out] at HX
 replace HX:=aM HX.out.drew
 refine start_ (n:=14) (S:=fun W=>W.heap[b1]?=some (.cells #[.int .i64 1,.int .i64 3,.int .i64 0,.int .i64 x3,.int .i64 y3,.slice bG z3.length bH,.slice none 0 0,.slice none 0 0] 92 (0,0))) (ds:=[]) (jb 14 0) (by kernel_rfl) rfl rfl (HX.out.bx _ m1).1 (fun hHeld=>?_);refine with_tabW Sbv.tab4 Sbv.bits4 (fun HT_ HW_=>?_)
 clear iZ ja je jf jg jh jk jl nk nu ny nz nA nC nD nE
 refine jp 0 24 (jb 14 1) ?_
 refine jp 2 26 (jb 14 5) ?_
 refine jp 7 31 (jb 14 133) ?_
 refine take_ (i:=8) (N:=some 32) (v:=?_) (a':=?_) (jb 14 389) rfl rfl (take_ofW HT_.out HW_.out (by kernel_rfl)) (fun _ _ _ h=>h) (Or.inl ⟨by rfl,?_⟩) hHeld ?_ ?_
 rotate_left
 ·rintro w' hs
  obtain⟨iZ,ja,je,jf,jg,jh,jk,jl,_⟩:=box8 hs
  go_simp
  with_reducible rfl
 rotate_left
 ·simp only [Act.put,List.setIfInBounds_toArray,List.set_cons_zero,List.set_cons_succ,i64_w,i32_w]
  rfl
 refine join_ (σ:=Option Addr × Nat × Option Addr × Nat × Option Addr × Nat × Option Addr × Nat × Option Addr × Nat × Nat) 1 (jb 14 8191) (fun s_=>[(25,eV x4 y4 s_.1 z4 s_.2.1),(27,.int .i64 n2),(28,.int .i64 (wrap64 (1+n2))),(29,eV x5 y5 s_.2.2.1 z5 s_.2.2.2.1),(30,eV x6 y6 s_.2.2.2.2.1 z6 s_.2.2.2.2.2.1),(33,.slice s_.2.2.2.2.2.2.1 ys.length s_.2.2.2.2.2.2.2.1),(34,.slice s_.2.2.2.2.2.2.2.2.1 yt.length s_.2.2.2.2.2.2.2.2.2.1),(35,.agg #[.int .i64 3,.int .i64 0,.int .i64 0,.int .i64 x6,.int .i64 y6,.slice s_.2.2.2.2.1 z6.length s_.2.2.2.2.2.1,.slice s_.2.2.2.2.2.2.2.2.1 yt.length s_.2.2.2.2.2.2.2.2.2.1,.slice none 0 0]),(10,.pointer (some ⟨s_.2.2.2.2.2.2.2.2.2.2,0,none⟩))]) (fun s_ w_=>LX w0 w g af (.slice s_.2.2.2.2.2.2.2.2.1 yt.length s_.2.2.2.2.2.2.2.2.2.1) yt ((s_.2.2.2.2.2.2.2.2.2.2,Z8) :: B1) ((.slice s_.2.2.2.2.1 z6.length s_.2.2.2.2.2.1,z6) :: (.slice s_.2.2.1 z5.length s_.2.2.2.1,z5) :: (.slice s_.1 z4.length s_.2.1,z4) :: L1) [] p3 w_) ?_ (fun gX=>?_)
 ·rintro⟨az,aA,aQ,aT,bB,bC,aJ,aK,fF,fG,x⟩ w5 h5
  try dsimp only at h5
  refine norm_ (a':=?_) ?_ ?_
  rotate_left
  ·simp only [putAll,Act.put,List.setIfInBounds_toArray,List.set_cons_zero,List.set_cons_succ,eV]
   rfl
  refine one_ (i:=13) (N:=none) (jb 14 16383) rfl rfl (one_of HT_.out (by kernel_rfl)) (by decide) (fun K hK=>?_)
  obtain⟨iZ,ja,je,jf,jg,jh,jk,jl,nk,nu,ny,nz,nA,nC,nD,nE⟩:=box8 (h5.bx _ (List.mem_cons_self ..)).1
  refine skip_ (w1:=?_) (by rfl) rfl ?_ ?_
  rotate_left
  ·go_simp
   rfl
  have h6:=(show LX w0 w g af (.slice fF yt.length fG) yt ((x,#[.int .i64 3,.int .i64 0,.int .i64 0,.int .i64 x6,.int .i64 y6,.slice bB z6.length bC,.slice fF yt.length fG,.slice none 0 0]) :: B1) ((.slice bB z6.length bC,z6) :: (.slice aQ z5.length aT,z5) :: (.slice az z4.length aA,z4) :: L1) [] p3 _ from LX.put8 (.int .i64 3) (.int .i64 0) (.int .i64 0) (.int .i64 x6) (.int .i64 y6) (.slice bB z6.length bC) (.slice fF yt.length fG) (.slice none 0 0) h5)
  refine hK.out _ _ (h6.bx _ (.tail _ m1)).1 (fun _=>?_)
  clear hK K
  refine done_ (done_of HT_.out (by kernel_rfl)) ?_
  try go_wp2
  have h7:=h6.drew
  refine start_ (n:=6) (S:=fun W=>W.heap[x]?=some (.cells #[.int .i64 3,.int .i64 0,.int .i64 0,.int .i64 x6,.int .i64 y6,.slice bB z6.length bC,.slice fF yt.length fG,.slice none 0 0] 92 (0,0))) (ds:=[]) (jb 6 0) (by kernel_rfl) rfl rfl (h7.bx _ (List.mem_cons_self ..)).1 (fun hHeld=>?_)
  clear iZ ja je jf jg jh jk jl nk nu ny nz nA nC nD nE h5 h6
  refine pure_ (i:=0) (N:=some 36) (v:=?_) (a':=?_) (jb 6 1) rfl rfl (by kernel_rfl) (fun _ _ _ h=>h) (Or.inl ⟨by rfl,?_⟩) ?_ ?_
  rotate_left
  ·intro w'
   go_simp
   with_reducible rfl
  rotate_left
  ·simp only [Act.put,List.setIfInBounds_toArray,List.set_cons_zero,List.set_cons_succ,i64_w,i32_w]
   rfl
  refine take_ (i:=3) (N:=some 39) (v:=?_) (a':=?_) (jb 6 9) rfl rfl (by kernel_rfl) (fun _ _ _ h=>h) (Or.inl ⟨by rfl,?_⟩) hHeld ?_ ?_
  rotate_left
  ·rintro w' hs
   obtain⟨iZ,ja,je,jf,jg,jh,jk,jl,_⟩:=box8 hs
   go_simp
   with_reducible rfl
  rotate_left
  ·simp only [Act.put,List.setIfInBounds_toArray,List.set_cons_zero,List.set_cons_succ,i64_w,i32_w]
   rfl
  refine one_ (i:=1) (N:=some 37) (jb 6 11) rfl rfl (by kernel_rfl) (by decide) (fun K hK=>?_)
  refine goes_ Tryz.func110 (by kernel_rfl) rfl #[.int .i64 0,.int .i64 0] (by rfl) rfl rfl qM (LX.leaf h7 iU.out (fun pU pV w6 h8=>?_))
  refine hK.out _ _ (h8.bx _ (List.mem_cons_self ..)).1 (fun _=>?_)
  clear hK K
  refine norm_ (a':=?_) ?_ ?_
  rotate_left
  ·show Act.put _ (some 37) _=_
   simp only [Act.put,List.setIfInBounds_toArray,List.set_cons_zero,List.set_cons_succ,i64_w,i32_w]
   rfl
  refine pure_ (i:=2) (N:=some 38) (v:=?_) (a':=?_) (jb 6 15) rfl rfl (by kernel_rfl) (fun _ _ _ h=>h) (Or.inl ⟨by rfl,?_⟩) ?_ ?_
  rotate_left
  ·intro w'
   go_simp
   with_reducible rfl
  rotate_left
  ·simp only [Act.put,List.setIfInBounds_toArray,List.set_cons_zero,List.set_cons_succ,i64_w,i32_w]
   rfl
  refine one_ (i:=4) (N:=some 40) (jb 6 31) rfl rfl (by kernel_rfl) (by decide) (fun K hK=>?_)
  refine LX.lit2 h8 (by rfl) rfl (inner:=[.int .i64 1,.int .i64 3,.int .i64 0,.int .i64 x7,.int .i64 y7,.slice pU z7.length pV,.slice none 0 0,.slice none 0 0,.int .i64 3,.int .i64 0,.int .i64 0,.int .i64 x6,.int .i64 y6,.slice bB z6.length bC,.slice fF yt.length fG,.slice none 0 0]) (xs:=[(⟨1,3,0,(⟨x7,y7,z7⟩:S90),[],[]⟩:S92),(⟨3,0,0,(⟨x6,y6,z6⟩:S90),yt,[]⟩:S92)]) qR9 (LX.two h8 (by simp) (by simp)) (by simp) (fun v9 w7 hn h9=>?_)
  refine hK.out _ _ (h9.bx _ (List.mem_cons_self ..)).1 (fun _=>?_)
  clear hK K
  refine norm_ (a':=?_) ?_ ?_
  rotate_left
  ·show Act.put _ (some 40) _=_
   simp only [Act.put,List.setIfInBounds_toArray,List.set_cons_zero,List.set_cons_succ,i64_w,i32_w]
   rfl
  refine pure_ (i:=5) (N:=some 6) (v:=?_) (a':=?_) (jb 6 63) rfl rfl (by kernel_rfl) (fun _ _ _ h=>h) (Or.inl ⟨by rfl,?_⟩) ?_ ?_
  rotate_left
  ·intro w'
   go_simp
   with_reducible rfl
  rotate_left
  ·simp only [Act.put,List.setIfInBounds_toArray,List.set_cons_zero,List.set_cons_succ,i64_w,i32_w]
   rfl
  refine done_ (by kernel_rfl) ?_
  try go_wp2
  go_ret
  exact⟨_,rfl,Kd.N_mono hn (fun _ hk=>hk.1),h9.rd,h9.bl,h9.kp⟩
 refine join_ (σ:=Option Addr × Nat × Option Addr × Nat × Option Addr × Nat × Option Addr × Nat × Option Addr × Nat) 2 (jb 14 4095) (fun s_=>[(25,eV x4 y4 s_.1 z4 s_.2.1),(27,.int .i64 n2),(28,.int .i64 (wrap64 (1+n2))),(29,eV x5 y5 s_.2.2.1 z5 s_.2.2.2.1),(30,eV x6 y6 s_.2.2.2.2.1 z6 s_.2.2.2.2.2.1),(33,.slice s_.2.2.2.2.2.2.1 ys.length s_.2.2.2.2.2.2.2.1),(34,.slice s_.2.2.2.2.2.2.2.2.1 yt.length s_.2.2.2.2.2.2.2.2.2),(35,.agg #[.int .i64 3,.int .i64 0,.int .i64 0,.int .i64 x6,.int .i64 y6,.slice s_.2.2.2.2.1 z6.length s_.2.2.2.2.2.1,.slice s_.2.2.2.2.2.2.2.2.1 yt.length s_.2.2.2.2.2.2.2.2.2,.slice none 0 0])]) (fun s_ w_=>LX w0 w g af (.slice s_.2.2.2.2.2.2.2.2.1 yt.length s_.2.2.2.2.2.2.2.2.2) yt B1 ((.slice s_.2.2.2.2.1 z6.length s_.2.2.2.2.2.1,z6) :: (.slice s_.2.2.1 z5.length s_.2.2.2.1,z5) :: (.slice s_.1 z4.length s_.2.1,z4) :: L1) [] p3 w_) ?_ (fun jm=>?_)
 ·rintro⟨az,aA,aQ,aT,bB,bC,aJ,aK,fF,fG⟩ w5 h5
  try dsimp only at h5
  refine norm_ (a':=?_) ?_ ?_
  rotate_left
  ·simp only [putAll,Act.put,List.setIfInBounds_toArray,List.set_cons_zero,List.set_cons_succ,eV]
   rfl
  refine one_ (i:=12) (N:=some 10) (jb 14 8191) rfl rfl (one_of HT_.out (by kernel_rfl)) (by decide) (fun K hK=>?_)
  ·exact LX.newbox h5 (by rfl) rfl (cs:=Z8) qR12 (fun x w5 hx=>hK.out _ _ (hx.bx _ (.tail _ m1)).1 (fun _=>norm_ nrm (gX (az,aA,aQ,aT,bB,bC,aJ,aK,fF,fG,x) _ hx)))
 refine join_ (σ:=Option Addr × Nat × Option Addr × Nat × Option Addr × Nat × Option Addr × Nat × Nat) 3 (jb 14 5119) (fun s_=>[(25,eV x4 y4 s_.1 z4 s_.2.1),(27,.int .i64 n2),(28,.int .i64 (wrap64 (1+n2))),(29,eV x5 y5 s_.2.2.1 z5 s_.2.2.2.1),(30,eV x6 y6 s_.2.2.2.2.1 z6 s_.2.2.2.2.2.1),(33,.slice s_.2.2.2.2.2.2.1 ys.length s_.2.2.2.2.2.2.2.1),(10,.pointer (some ⟨s_.2.2.2.2.2.2.2.2,0,none⟩))]) (fun s_ w_=>LX w0 w g af (.slice bE tb.length bF) tb ((s_.2.2.2.2.2.2.2.2,Z8) :: B1) ((.slice s_.2.2.2.2.1 z6.length s_.2.2.2.2.2.1,z6) :: (.slice s_.2.2.1 z5.length s_.2.2.2.1,z5) :: (.slice s_.1 z4.length s_.2.1,z4) :: L1) [(.slice s_.2.2.2.2.2.2.1 ys.length s_.2.2.2.2.2.2.2.1,ys)] p3 w_) ?_ (fun fH=>?_)
 ·rintro⟨az,aA,aQ,aT,bB,bC,aJ,aK,x⟩ w5 h5
  try dsimp only at h5
  refine norm_ (a':=?_) ?_ ?_
  rotate_left
  ·simp only [putAll,Act.put,List.setIfInBounds_toArray,List.set_cons_zero,List.set_cons_succ,eV]
   rfl
  refine one_ (i:=10) (N:=some 34) (jb 14 6143) rfl rfl (one_of HT_.out (by kernel_rfl)) (by decide) (fun K hK=>?_)
  ·refine LX.app h5 (by rfl) rfl (.tmp 31) (.tmp 33) rfl Hyt.out rfl rfl (by simp) c13 (fun fF fG w5 hx=>?_)
   refine hK.out _ _ (hx.bx _ (.tail _ m1)).1 (fun _=>?_)
   clear hK K
   refine norm_ (a':=?_) ?_ ?_
   rotate_left
   ·show Act.put _ (some 34) _=_
    simp only [Act.put,List.setIfInBounds_toArray,List.set_cons_zero,List.set_cons_succ,i64_w,i32_w]
    rfl
   refine jp 11 35 (jb 14 8191) ?_
   exact norm_ nrm (gX (az,aA,aQ,aT,bB,bC,aJ,aK,fF,fG,x) _ hx)
 refine join_ (σ:=Option Addr × Nat × Option Addr × Nat × Option Addr × Nat × Nat) 4 (jb 14 5055) (fun s_=>[(25,eV x4 y4 s_.1 z4 s_.2.1),(27,.int .i64 n2),(28,.int .i64 (wrap64 (1+n2))),(29,eV x5 y5 s_.2.2.1 z5 s_.2.2.2.1),(33,.slice s_.2.2.2.2.1 ys.length s_.2.2.2.2.2.1),(10,.pointer (some ⟨s_.2.2.2.2.2.2,0,none⟩))]) (fun s_ w_=>LX w0 w g af (.slice bE tb.length bF) tb ((s_.2.2.2.2.2.2,Z8) :: B1) ((.slice s_.2.2.1 z5.length s_.2.2.2.1,z5) :: (.slice s_.1 z4.length s_.2.1,z4) :: L1) [(.slice s_.2.2.2.2.1 ys.length s_.2.2.2.2.2.1,ys)] p3 w_) ?_ (fun fI=>?_)
 ·rintro⟨az,aA,aQ,aT,aJ,aK,x⟩ w5 h5
  try dsimp only at h5
  refine norm_ (a':=?_) ?_ ?_
  rotate_left
  ·simp only [putAll,Act.put,List.setIfInBounds_toArray,List.set_cons_zero,List.set_cons_succ,eV]
   rfl
  refine one_ (i:=6) (N:=some 30) (jb 14 5119) rfl rfl (one_of HT_.out (by kernel_rfl)) (by decide) (fun K hK=>?_)
  ·exact goes_ Tryz.func109 (by kernel_rfl) rfl #[.int .i64 5,eV x4 y4 az z4 aA,eV x5 y5 aQ z5 aT] (by rfl) rfl rfl qM (LX.both h5 (by simp) (by simp) A9.out (fun bB bC w5 hx=>hK.out _ _ (hx.bx _ (.tail _ m1)).1 (fun _=>norm_ nrm (fH (az,aA,aQ,aT,bB,bC,aJ,aK,x) _ hx))))
 refine join_ (σ:=Option Addr × Nat × Option Addr × Nat × Option Addr × Nat × Nat) 4 (jb 14 4607) (fun s_=>[(25,eV x4 y4 s_.1 z4 s_.2.1),(27,.int .i64 n2),(28,.int .i64 (wrap64 (1+n2))),(29,eV x5 y5 s_.2.2.1 z5 s_.2.2.2.1),(30,eV x6 y6 s_.2.2.2.2.1 z6 s_.2.2.2.2.2.1),(10,.pointer (some ⟨s_.2.2.2.2.2.2,0,none⟩))]) (fun s_ w_=>LX w0 w g af (.slice bE tb.length bF) tb ((s_.2.2.2.2.2.2,Z8) :: B1) ((.slice s_.2.2.2.2.1 z6.length s_.2.2.2.2.2.1,z6) :: (.slice s_.2.2.1 z5.length s_.2.2.2.1,z5) :: (.slice s_.1 z4.length s_.2.1,z4) :: L1) [] p3 w_) ?_ (fun gY=>?_)
 ·rintro⟨az,aA,aQ,aT,bB,bC,x⟩ w5 h5
  try dsimp only at h5
  refine norm_ (a':=?_) ?_ ?_
  rotate_left
  ·simp only [putAll,Act.put,List.setIfInBounds_toArray,List.set_cons_zero,List.set_cons_succ,eV]
   rfl
  refine one_ (i:=9) (N:=some 33) (jb 14 5119) rfl rfl (one_of HT_.out (by kernel_rfl)) (by decide) (fun K hK=>?_)
  ·exact LX.lit h5 (by rfl) rfl (inner:=[.int .i64 1,.int .i64 3,.int .i64 0,.int .i64 x3,.int .i64 y3,.slice bG z3.length bH,.slice none 0 0,.slice none 0 0]) (xs:=[(⟨1,3,0,(⟨x3,y3,z3⟩:S90),[],[]⟩:S92)]) Hy.out qR9 (LX.one h5 (by simp [m3])) (by simp) (fun aJ aK w5 hx=>hK.out _ _ (hx.bx _ (.tail _ m1)).1 (fun _=>norm_ nrm (fH (az,aA,aQ,aT,bB,bC,aJ,aK,x) _ hx)))
 refine join_ (σ:=Option Addr × Nat × Option Addr × Nat × Option Addr × Nat × Option Addr × Nat) 4 (jb 14 1023) (fun s_=>[(25,eV x4 y4 s_.1 z4 s_.2.1),(27,.int .i64 n2),(28,.int .i64 (wrap64 (1+n2))),(29,eV x5 y5 s_.2.2.1 z5 s_.2.2.2.1),(30,eV x6 y6 s_.2.2.2.2.1 z6 s_.2.2.2.2.2.1),(33,.slice s_.2.2.2.2.2.2.1 ys.length s_.2.2.2.2.2.2.2)]) (fun s_ w_=>LX w0 w g af (.slice bE tb.length bF) tb B1 ((.slice s_.2.2.2.2.1 z6.length s_.2.2.2.2.2.1,z6) :: (.slice s_.2.2.1 z5.length s_.2.2.2.1,z5) :: (.slice s_.1 z4.length s_.2.1,z4) :: L1) [(.slice s_.2.2.2.2.2.2.1 ys.length s_.2.2.2.2.2.2.2,ys)] p3 w_) ?_ (fun gZ=>?_)
 ·rintro⟨az,aA,aQ,aT,bB,bC,aJ,aK⟩ w5 h5
  try dsimp only at h5
  refine norm_ (a':=?_) ?_ ?_
  rotate_left
  ·simp only [putAll,Act.put,List.setIfInBounds_toArray,List.set_cons_zero,List.set_cons_succ,eV]
   rfl
  refine two_ (i:=10) (j:=12) (Ni:=some 34) (Nj:=some 10) (jb 14 2047) (jb 14 5119) rfl rfl rfl rfl (two_of HT_.out (by kernel_rfl)) (by decide) (by decide) (fun K hK=>?_) (fun K hK=>?_)
  ·refine LX.app h5 (by rfl) rfl (.tmp 31) (.tmp 33) rfl Hyt.out rfl rfl (by simp) c13 (fun fF fG w5 hx=>?_)
   refine hK.out _ _ (hx.bx _ m1).1 (fun _=>?_)
   clear hK K
   refine norm_ (a':=?_) ?_ ?_
   rotate_left
   ·show Act.put _ (some 34) _=_
    simp only [Act.put,List.setIfInBounds_toArray,List.set_cons_zero,List.set_cons_succ,i64_w,i32_w]
    rfl
   refine jp 11 35 (jb 14 4095) ?_
   exact norm_ nrm (jm (az,aA,aQ,aT,bB,bC,aJ,aK,fF,fG) _ hx)
  exact LX.newbox h5 (by rfl) rfl (cs:=Z8) qR12 (fun x w5 hx=>hK.out _ _ (hx.bx _ (.tail _ m1)).1 (fun _=>norm_ nrm (fH (az,aA,aQ,aT,bB,bC,aJ,aK,x) _ hx)))
 refine join_ (σ:=Option Addr × Nat × Option Addr × Nat × Nat) 5 (jb 14 5023) (fun s_=>[(25,eV x4 y4 s_.1 z4 s_.2.1),(27,.int .i64 n2),(28,.int .i64 (wrap64 (1+n2))),(33,.slice s_.2.2.1 ys.length s_.2.2.2.1),(10,.pointer (some ⟨s_.2.2.2.2,0,none⟩))]) (fun s_ w_=>LX w0 w g af (.slice bE tb.length bF) tb ((s_.2.2.2.2,Z8) :: B1) ((.slice s_.1 z4.length s_.2.1,z4) :: L1) [(.slice s_.2.2.1 ys.length s_.2.2.2.1,ys)] p3 w_) ?_ (fun fJ=>?_)
 ·rintro⟨az,aA,aJ,aK,x⟩ w5 h5
  try dsimp only at h5
  refine norm_ (a':=?_) ?_ ?_
  rotate_left
  ·simp only [putAll,Act.put,List.setIfInBounds_toArray,List.set_cons_zero,List.set_cons_succ,eV]
   rfl
  refine one_ (i:=5) (N:=some 29) (jb 14 5055) rfl rfl (one_of HT_.out (by kernel_rfl)) (by decide) (fun K hK=>?_)
  ·exact goes_ Tryz.func110 (by kernel_rfl) rfl #[.int .i64 0,.int .i64 (wrap64 (1+n2))] (by rfl) rfl rfl qM (LX.leaf h5 A8.out (fun aQ aT w5 hx=>hK.out _ _ (hx.bx _ (.tail _ m1)).1 (fun _=>norm_ nrm (fI (az,aA,aQ,aT,aJ,aK,x) _ hx))))
 refine join_ (σ:=Option Addr × Nat × Option Addr × Nat × Nat) 5 (jb 14 4543) (fun s_=>[(25,eV x4 y4 s_.1 z4 s_.2.1),(27,.int .i64 n2),(28,.int .i64 (wrap64 (1+n2))),(29,eV x5 y5 s_.2.2.1 z5 s_.2.2.2.1),(10,.pointer (some ⟨s_.2.2.2.2,0,none⟩))]) (fun s_ w_=>LX w0 w g af (.slice bE tb.length bF) tb ((s_.2.2.2.2,Z8) :: B1) ((.slice s_.2.2.1 z5.length s_.2.2.2.1,z5) :: (.slice s_.1 z4.length s_.2.1,z4) :: L1) [] p3 w_) ?_ (fun ib=>?_)
 ·rintro⟨az,aA,aQ,aT,x⟩ w5 h5
  try dsimp only at h5
  refine norm_ (a':=?_) ?_ ?_
  rotate_left
  ·simp only [putAll,Act.put,List.setIfInBounds_toArray,List.set_cons_zero,List.set_cons_succ,eV]
   rfl
  refine two_ (i:=6) (j:=9) (Ni:=some 30) (Nj:=some 33) (jb 14 4607) (jb 14 5055) rfl rfl rfl rfl (two_of HT_.out (by kernel_rfl)) (by decide) (by decide) (fun K hK=>?_) (fun K hK=>?_)
  ·exact goes_ Tryz.func109 (by kernel_rfl) rfl #[.int .i64 5,eV x4 y4 az z4 aA,eV x5 y5 aQ z5 aT] (by rfl) rfl rfl qM (LX.both h5 (by simp) (by simp) A9.out (fun bB bC w5 hx=>hK.out _ _ (hx.bx _ (.tail _ m1)).1 (fun _=>norm_ nrm (gY (az,aA,aQ,aT,bB,bC,x) _ hx))))
  exact LX.lit h5 (by rfl) rfl (inner:=[.int .i64 1,.int .i64 3,.int .i64 0,.int .i64 x3,.int .i64 y3,.slice bG z3.length bH,.slice none 0 0,.slice none 0 0]) (xs:=[(⟨1,3,0,(⟨x3,y3,z3⟩:S90),[],[]⟩:S92)]) Hy.out qR9 (LX.one h5 (by simp [m3])) (by simp) (fun aJ aK w5 hx=>hK.out _ _ (hx.bx _ (.tail _ m1)).1 (fun _=>norm_ nrm (fI (az,aA,aQ,aT,aJ,aK,x) _ hx)))
 refine join_ (σ:=Option Addr × Nat × Option Addr × Nat × Option Addr × Nat) 5 (jb 14 959) (fun s_=>[(25,eV x4 y4 s_.1 z4 s_.2.1),(27,.int .i64 n2),(28,.int .i64 (wrap64 (1+n2))),(29,eV x5 y5 s_.2.2.1 z5 s_.2.2.2.1),(33,.slice s_.2.2.2.2.1 ys.length s_.2.2.2.2.2)]) (fun s_ w_=>LX w0 w g af (.slice bE tb.length bF) tb B1 ((.slice s_.2.2.1 z5.length s_.2.2.2.1,z5) :: (.slice s_.1 z4.length s_.2.1,z4) :: L1) [(.slice s_.2.2.2.2.1 ys.length s_.2.2.2.2.2,ys)] p3 w_) ?_ (fun ic=>?_)
 ·rintro⟨az,aA,aQ,aT,aJ,aK⟩ w5 h5
  try dsimp only at h5
  refine norm_ (a':=?_) ?_ ?_
  rotate_left
  ·simp only [putAll,Act.put,List.setIfInBounds_toArray,List.set_cons_zero,List.set_cons_succ,eV]
   rfl
  refine two_ (i:=6) (j:=12) (Ni:=some 30) (Nj:=some 10) (jb 14 1023) (jb 14 5055) rfl rfl rfl rfl (two_of HT_.out (by kernel_rfl)) (by decide) (by decide) (fun K hK=>?_) (fun K hK=>?_)
  ·exact goes_ Tryz.func109 (by kernel_rfl) rfl #[.int .i64 5,eV x4 y4 az z4 aA,eV x5 y5 aQ z5 aT] (by rfl) rfl rfl qM (LX.both h5 (by simp) (by simp) A9.out (fun bB bC w5 hx=>hK.out _ _ (hx.bx _ m1).1 (fun _=>norm_ nrm (gZ (az,aA,aQ,aT,bB,bC,aJ,aK) _ hx))))
  exact LX.newbox h5 (by rfl) rfl (cs:=Z8) qR12 (fun x w5 hx=>hK.out _ _ (hx.bx _ (.tail _ m1)).1 (fun _=>norm_ nrm (fI (az,aA,aQ,aT,aJ,aK,x) _ hx)))
 refine join_ (σ:=Option Addr × Nat × Option Addr × Nat × Option Addr × Nat) 5 (jb 14 511) (fun s_=>[(25,eV x4 y4 s_.1 z4 s_.2.1),(27,.int .i64 n2),(28,.int .i64 (wrap64 (1+n2))),(29,eV x5 y5 s_.2.2.1 z5 s_.2.2.2.1),(30,eV x6 y6 s_.2.2.2.2.1 z6 s_.2.2.2.2.2)]) (fun s_ w_=>LX w0 w g af (.slice bE tb.length bF) tb B1 ((.slice s_.2.2.2.2.1 z6.length s_.2.2.2.2.2,z6) :: (.slice s_.2.2.1 z5.length s_.2.2.2.1,z5) :: (.slice s_.1 z4.length s_.2.1,z4) :: L1) [] p3 w_) ?_ (fun jo=>?_)
 ·rintro⟨az,aA,aQ,aT,bB,bC⟩ w5 h5
  try dsimp only at h5
  refine norm_ (a':=?_) ?_ ?_
  rotate_left
  ·simp only [putAll,Act.put,List.setIfInBounds_toArray,List.set_cons_zero,List.set_cons_succ,eV]
   rfl
  refine two_ (i:=9) (j:=12) (Ni:=some 33) (Nj:=some 10) (jb 14 1023) (jb 14 4607) rfl rfl rfl rfl (two_of HT_.out (by kernel_rfl)) (by decide) (by decide) (fun K hK=>?_) (fun K hK=>?_)
  ·exact LX.lit h5 (by rfl) rfl (inner:=[.int .i64 1,.int .i64 3,.int .i64 0,.int .i64 x3,.int .i64 y3,.slice bG z3.length bH,.slice none 0 0,.slice none 0 0]) (xs:=[(⟨1,3,0,(⟨x3,y3,z3⟩:S90),[],[]⟩:S92)]) Hy.out qR9 (LX.one h5 (by simp [m3])) (by simp) (fun aJ aK w5 hx=>hK.out _ _ (hx.bx _ m1).1 (fun _=>norm_ nrm (gZ (az,aA,aQ,aT,bB,bC,aJ,aK) _ hx)))
  exact LX.newbox h5 (by rfl) rfl (cs:=Z8) qR12 (fun x w5 hx=>hK.out _ _ (hx.bx _ (.tail _ m1)).1 (fun _=>norm_ nrm (gY (az,aA,aQ,aT,bB,bC,x) _ hx)))
 refine join_ (σ:=Option Addr × Nat × Nat) 6 (jb 14 4511) (fun s_=>[(25,eV x4 y4 s_.1 z4 s_.2.1),(27,.int .i64 n2),(28,.int .i64 (wrap64 (1+n2))),(10,.pointer (some ⟨s_.2.2,0,none⟩))]) (fun s_ w_=>LX w0 w g af (.slice bE tb.length bF) tb ((s_.2.2,Z8) :: B1) ((.slice s_.1 z4.length s_.2.1,z4) :: L1) [] p3 w_) ?_ (fun ig=>?_)
 ·rintro⟨az,aA,x⟩ w5 h5
  try dsimp only at h5
  refine norm_ (a':=?_) ?_ ?_
  rotate_left
  ·simp only [putAll,Act.put,List.setIfInBounds_toArray,List.set_cons_zero,List.set_cons_succ,eV]
   rfl
  refine two_ (i:=5) (j:=9) (Ni:=some 29) (Nj:=some 33) (jb 14 4543) (jb 14 5023) rfl rfl rfl rfl (two_of HT_.out (by kernel_rfl)) (by decide) (by decide) (fun K hK=>?_) (fun K hK=>?_)
  ·exact goes_ Tryz.func110 (by kernel_rfl) rfl #[.int .i64 0,.int .i64 (wrap64 (1+n2))] (by rfl) rfl rfl qM (LX.leaf h5 A8.out (fun aQ aT w5 hx=>hK.out _ _ (hx.bx _ (.tail _ m1)).1 (fun _=>norm_ nrm (ib (az,aA,aQ,aT,x) _ hx))))
  exact LX.lit h5 (by rfl) rfl (inner:=[.int .i64 1,.int .i64 3,.int .i64 0,.int .i64 x3,.int .i64 y3,.slice bG z3.length bH,.slice none 0 0,.slice none 0 0]) (xs:=[(⟨1,3,0,(⟨x3,y3,z3⟩:S90),[],[]⟩:S92)]) Hy.out qR9 (LX.one h5 (by simp [m3])) (by simp) (fun aJ aK w5 hx=>hK.out _ _ (hx.bx _ (.tail _ m1)).1 (fun _=>norm_ nrm (fJ (az,aA,aJ,aK,x) _ hx)))
 refine join_ (σ:=Option Addr × Nat × Option Addr × Nat) 6 (jb 14 927) (fun s_=>[(25,eV x4 y4 s_.1 z4 s_.2.1),(27,.int .i64 n2),(28,.int .i64 (wrap64 (1+n2))),(33,.slice s_.2.2.1 ys.length s_.2.2.2)]) (fun s_ w_=>LX w0 w g af (.slice bE tb.length bF) tb B1 ((.slice s_.1 z4.length s_.2.1,z4) :: L1) [(.slice s_.2.2.1 ys.length s_.2.2.2,ys)] p3 w_) ?_ (fun ik=>?_)
 ·rintro⟨az,aA,aJ,aK⟩ w5 h5
  try dsimp only at h5
  refine norm_ (a':=?_) ?_ ?_
  rotate_left
  ·simp only [putAll,Act.put,List.setIfInBounds_toArray,List.set_cons_zero,List.set_cons_succ,eV]
   rfl
  refine two_ (i:=5) (j:=12) (Ni:=some 29) (Nj:=some 10) (jb 14 959) (jb 14 5023) rfl rfl rfl rfl (two_of HT_.out (by kernel_rfl)) (by decide) (by decide) (fun K hK=>?_) (fun K hK=>?_)
  ·exact goes_ Tryz.func110 (by kernel_rfl) rfl #[.int .i64 0,.int .i64 (wrap64 (1+n2))] (by rfl) rfl rfl qM (LX.leaf h5 A8.out (fun aQ aT w5 hx=>hK.out _ _ (hx.bx _ m1).1 (fun _=>norm_ nrm (ic (az,aA,aQ,aT,aJ,aK) _ hx))))
  exact LX.newbox h5 (by rfl) rfl (cs:=Z8) qR12 (fun x w5 hx=>hK.out _ _ (hx.bx _ (.tail _ m1)).1 (fun _=>norm_ nrm (fJ (az,aA,aJ,aK,x) _ hx)))
 refine join_ (σ:=Option Addr × Nat × Option Addr × Nat) 6 (jb 14 447) (fun s_=>[(25,eV x4 y4 s_.1 z4 s_.2.1),(27,.int .i64 n2),(28,.int .i64 (wrap64 (1+n2))),(29,eV x5 y5 s_.2.2.1 z5 s_.2.2.2)]) (fun s_ w_=>LX w0 w g af (.slice bE tb.length bF) tb B1 ((.slice s_.2.2.1 z5.length s_.2.2.2,z5) :: (.slice s_.1 z4.length s_.2.1,z4) :: L1) [] p3 w_) ?_ (fun jr=>?_)
 ·rintro⟨az,aA,aQ,aT⟩ w5 h5
  try dsimp only at h5
  refine norm_ (a':=?_) ?_ ?_
  rotate_left
  ·simp only [putAll,Act.put,List.setIfInBounds_toArray,List.set_cons_zero,List.set_cons_succ,eV]
   rfl
  refine three_ (i:=6) (j:=9) (k:=12) (Ni:=some 30) (Nj:=some 33) (Nk:=some 10) (jb 14 511) (jb 14 959) (jb 14 4543) rfl rfl rfl rfl rfl rfl (three_of HT_.out (by kernel_rfl)) (by decide) (by decide) (by decide) (fun K hK=>?_) (fun K hK=>?_) (fun K hK=>?_)
  ·exact goes_ Tryz.func109 (by kernel_rfl) rfl #[.int .i64 5,eV x4 y4 az z4 aA,eV x5 y5 aQ z5 aT] (by rfl) rfl rfl qM (LX.both h5 (by simp) (by simp) A9.out (fun bB bC w5 hx=>hK.out _ _ (hx.bx _ m1).1 (fun _=>norm_ nrm (jo (az,aA,aQ,aT,bB,bC) _ hx))))
  ·exact LX.lit h5 (by rfl) rfl (inner:=[.int .i64 1,.int .i64 3,.int .i64 0,.int .i64 x3,.int .i64 y3,.slice bG z3.length bH,.slice none 0 0,.slice none 0 0]) (xs:=[(⟨1,3,0,(⟨x3,y3,z3⟩:S90),[],[]⟩:S92)]) Hy.out qR9 (LX.one h5 (by simp [m3])) (by simp) (fun aJ aK w5 hx=>hK.out _ _ (hx.bx _ m1).1 (fun _=>norm_ nrm (ic (az,aA,aQ,aT,aJ,aK) _ hx)))
  exact LX.newbox h5 (by rfl) rfl (cs:=Z8) qR12 (fun x w5 hx=>hK.out _ _ (hx.bx _ (.tail _ m1)).1 (fun _=>norm_ nrm (ib (az,aA,aQ,aT,x) _ hx)))
 refine join_ (σ:=Option Addr × Nat × Option Addr × Nat × Nat) 7 (jb 14 4999) (fun s_=>[(25,eV x4 y4 s_.1 z4 s_.2.1),(33,.slice s_.2.2.1 ys.length s_.2.2.2.1),(10,.pointer (some ⟨s_.2.2.2.2,0,none⟩))]) (fun s_ w_=>LX w0 w g af (.slice bE tb.length bF) tb ((s_.2.2.2.2,Z8) :: B1) ((.slice s_.1 z4.length s_.2.1,z4) :: L1) [(.slice s_.2.2.1 ys.length s_.2.2.2.1,ys)] p2 w_) ?_ (fun fK=>?_)
 ·rintro⟨az,aA,aJ,aK,x⟩ w5 h5
  try dsimp only at h5
  refine norm_ (a':=?_) ?_ ?_
  rotate_left
  ·simp only [putAll,Act.put,List.setIfInBounds_toArray,List.set_cons_zero,List.set_cons_succ,eV]
   rfl
  refine one_ (i:=3) (N:=some 27) (jb 14 5007) rfl rfl (one_of HT_.out (by kernel_rfl)) (by decide) (fun K hK=>?_)
  ·refine goes_ Tryz.func52 (by kernel_rfl) rfl #[.pointer (some ⟨g,0,none⟩),.int .i64 3] (by rfl) rfl rfl qM (LX.pick h5 A7.out (fun w5 hx=>?_))
   refine hK.out _ _ (hx.bx _ (.tail _ m1)).1 (fun _=>?_)
   clear hK K
   refine norm_ (a':=?_) ?_ ?_
   rotate_left
   ·show Act.put _ (some 27) _=_
    simp only [Act.put,List.setIfInBounds_toArray,List.set_cons_zero,List.set_cons_succ,i64_w,i32_w]
    rfl
   refine jp 4 28 (jb 14 5023) ?_
   exact norm_ nrm (fJ (az,aA,aJ,aK,x) _ hx)
 refine join_ (σ:=Option Addr × Nat) 7 (jb 14 415) (fun s_=>[(25,eV x4 y4 s_.1 z4 s_.2),(27,.int .i64 n2),(28,.int .i64 (wrap64 (1+n2)))]) (fun s_ w_=>LX w0 w g af (.slice bE tb.length bF) tb B1 ((.slice s_.1 z4.length s_.2,z4) :: L1) [] p3 w_) ?_ (fun jv=>?_)
 ·rintro⟨az,aA⟩ w5 h5
  try dsimp only at h5
  refine norm_ (a':=?_) ?_ ?_
  rotate_left
  ·simp only [putAll,Act.put,List.setIfInBounds_toArray,List.set_cons_zero,List.set_cons_succ,eV]
   rfl
  refine three_ (i:=5) (j:=9) (k:=12) (Ni:=some 29) (Nj:=some 33) (Nk:=some 10) (jb 14 447) (jb 14 927) (jb 14 4511) rfl rfl rfl rfl rfl rfl (three_of HT_.out (by kernel_rfl)) (by decide) (by decide) (by decide) (fun K hK=>?_) (fun K hK=>?_) (fun K hK=>?_)
  ·exact goes_ Tryz.func110 (by kernel_rfl) rfl #[.int .i64 0,.int .i64 (wrap64 (1+n2))] (by rfl) rfl rfl qM (LX.leaf h5 A8.out (fun aQ aT w5 hx=>hK.out _ _ (hx.bx _ m1).1 (fun _=>norm_ nrm (jr (az,aA,aQ,aT) _ hx))))
  ·exact LX.lit h5 (by rfl) rfl (inner:=[.int .i64 1,.int .i64 3,.int .i64 0,.int .i64 x3,.int .i64 y3,.slice bG z3.length bH,.slice none 0 0,.slice none 0 0]) (xs:=[(⟨1,3,0,(⟨x3,y3,z3⟩:S90),[],[]⟩:S92)]) Hy.out qR9 (LX.one h5 (by simp [m3])) (by simp) (fun aJ aK w5 hx=>hK.out _ _ (hx.bx _ m1).1 (fun _=>norm_ nrm (ik (az,aA,aJ,aK) _ hx)))
  exact LX.newbox h5 (by rfl) rfl (cs:=Z8) qR12 (fun x w5 hx=>hK.out _ _ (hx.bx _ (.tail _ m1)).1 (fun _=>norm_ nrm (ig (az,aA,x) _ hx)))
 refine join_ (σ:=Option Addr × Nat × Nat) 8 (jb 14 4997) (fun s_=>[(33,.slice s_.1 ys.length s_.2.1),(10,.pointer (some ⟨s_.2.2,0,none⟩))]) (fun s_ w_=>LX w0 w g af (.slice bE tb.length bF) tb ((s_.2.2,Z8) :: B1) L1 [(.slice s_.1 ys.length s_.2.1,ys)] p2 w_) ?_ (fun il=>?_)
 ·rintro⟨aJ,aK,x⟩ w5 h5
  try dsimp only at h5
  refine norm_ (a':=?_) ?_ ?_
  rotate_left
  ·simp only [putAll,Act.put,List.setIfInBounds_toArray,List.set_cons_zero,List.set_cons_succ,eV]
   rfl
  refine one_ (i:=1) (N:=some 25) (jb 14 4999) rfl rfl (one_of HT_.out (by kernel_rfl)) (by decide) (fun K hK=>?_)
  ·exact goes_ Tryz.func110 (by kernel_rfl) rfl #[.int .i64 13,.int .i64 3] (by rfl) rfl rfl qM (LX.leaf h5 A6.out (fun az aA w5 hx=>hK.out _ _ (hx.bx _ (.tail _ m1)).1 (fun _=>norm_ nrm (fK (az,aA,aJ,aK,x) _ hx))))
 refine join_ (σ:=Option Addr × Nat × Nat) 8 (jb 14 4487) (fun s_=>[(25,eV x4 y4 s_.1 z4 s_.2.1),(10,.pointer (some ⟨s_.2.2,0,none⟩))]) (fun s_ w_=>LX w0 w g af (.slice bE tb.length bF) tb ((s_.2.2,Z8) :: B1) ((.slice s_.1 z4.length s_.2.1,z4) :: L1) [] p2 w_) ?_ (fun iq=>?_)
 ·rintro⟨az,aA,x⟩ w5 h5
  try dsimp only at h5
  refine norm_ (a':=?_) ?_ ?_
  rotate_left
  ·simp only [putAll,Act.put,List.setIfInBounds_toArray,List.set_cons_zero,List.set_cons_succ,eV]
   rfl
  refine two_ (i:=3) (j:=9) (Ni:=some 27) (Nj:=some 33) (jb 14 4495) (jb 14 4999) rfl rfl rfl rfl (two_of HT_.out (by kernel_rfl)) (by decide) (by decide) (fun K hK=>?_) (fun K hK=>?_)
  ·refine goes_ Tryz.func52 (by kernel_rfl) rfl #[.pointer (some ⟨g,0,none⟩),.int .i64 3] (by rfl) rfl rfl qM (LX.pick h5 A7.out (fun w5 hx=>?_))
   refine hK.out _ _ (hx.bx _ (.tail _ m1)).1 (fun _=>?_)
   clear hK K
   refine norm_ (a':=?_) ?_ ?_
   rotate_left
   ·show Act.put _ (some 27) _=_
    simp only [Act.put,List.setIfInBounds_toArray,List.set_cons_zero,List.set_cons_succ,i64_w,i32_w]
    rfl
   refine jp 4 28 (jb 14 4511) ?_
   exact norm_ nrm (ig (az,aA,x) _ hx)
  exact LX.lit h5 (by rfl) rfl (inner:=[.int .i64 1,.int .i64 3,.int .i64 0,.int .i64 x3,.int .i64 y3,.slice bG z3.length bH,.slice none 0 0,.slice none 0 0]) (xs:=[(⟨1,3,0,(⟨x3,y3,z3⟩:S90),[],[]⟩:S92)]) Hy.out qR9 (LX.one h5 (by simp [m3])) (by simp) (fun aJ aK w5 hx=>hK.out _ _ (hx.bx _ (.tail _ m1)).1 (fun _=>norm_ nrm (fK (az,aA,aJ,aK,x) _ hx)))
 refine join_ (σ:=Option Addr × Nat × Option Addr × Nat) 8 (jb 14 903) (fun s_=>[(25,eV x4 y4 s_.1 z4 s_.2.1),(33,.slice s_.2.2.1 ys.length s_.2.2.2)]) (fun s_ w_=>LX w0 w g af (.slice bE tb.length bF) tb B1 ((.slice s_.1 z4.length s_.2.1,z4) :: L1) [(.slice s_.2.2.1 ys.length s_.2.2.2,ys)] p2 w_) ?_ (fun iw=>?_)
 ·rintro⟨az,aA,aJ,aK⟩ w5 h5
  try dsimp only at h5
  refine norm_ (a':=?_) ?_ ?_
  rotate_left
  ·simp only [putAll,Act.put,List.setIfInBounds_toArray,List.set_cons_zero,List.set_cons_succ,eV]
   rfl
  refine two_ (i:=3) (j:=12) (Ni:=some 27) (Nj:=some 10) (jb 14 911) (jb 14 4999) rfl rfl rfl rfl (two_of HT_.out (by kernel_rfl)) (by decide) (by decide) (fun K hK=>?_) (fun K hK=>?_)
  ·refine goes_ Tryz.func52 (by kernel_rfl) rfl #[.pointer (some ⟨g,0,none⟩),.int .i64 3] (by rfl) rfl rfl qM (LX.pick h5 A7.out (fun w5 hx=>?_))
   refine hK.out _ _ (hx.bx _ m1).1 (fun _=>?_)
   clear hK K
   refine norm_ (a':=?_) ?_ ?_
   rotate_left
   ·show Act.put _ (some 27) _=_
    simp only [Act.put,List.setIfInBounds_toArray,List.set_cons_zero,List.set_cons_succ,i64_w,i32_w]
    rfl
   refine jp 4 28 (jb 14 927) ?_
   exact norm_ nrm (ik (az,aA,aJ,aK) _ hx)
  exact LX.newbox h5 (by rfl) rfl (cs:=Z8) qR12 (fun x w5 hx=>hK.out _ _ (hx.bx _ (.tail _ m1)).1 (fun _=>norm_ nrm (fK (az,aA,aJ,aK,x) _ hx)))
 refine join_ (σ:=Nat) 9 (jb 14 4485) (fun s_=>[(10,.pointer (some ⟨s_,0,none⟩))]) (fun s_ w_=>LX w0 w g af (.slice bE tb.length bF) tb ((s_,Z8) :: B1) L1 [] p2 w_) ?_ (fun jw=>?_)
 ·rintro x w5 h5
  try dsimp only at h5
  refine norm_ (a':=?_) ?_ ?_
  rotate_left
  ·simp only [putAll,Act.put,List.setIfInBounds_toArray,List.set_cons_zero,List.set_cons_succ,eV]
   rfl
  refine two_ (i:=1) (j:=9) (Ni:=some 25) (Nj:=some 33) (jb 14 4487) (jb 14 4997) rfl rfl rfl rfl (two_of HT_.out (by kernel_rfl)) (by decide) (by decide) (fun K hK=>?_) (fun K hK=>?_)
  ·exact goes_ Tryz.func110 (by kernel_rfl) rfl #[.int .i64 13,.int .i64 3] (by rfl) rfl rfl qM (LX.leaf h5 A6.out (fun az aA w5 hx=>hK.out _ _ (hx.bx _ (.tail _ m1)).1 (fun _=>norm_ nrm (iq (az,aA,x) _ hx))))
  exact LX.lit h5 (by rfl) rfl (inner:=[.int .i64 1,.int .i64 3,.int .i64 0,.int .i64 x3,.int .i64 y3,.slice bG z3.length bH,.slice none 0 0,.slice none 0 0]) (xs:=[(⟨1,3,0,(⟨x3,y3,z3⟩:S90),[],[]⟩:S92)]) Hy.out qR9 (LX.one h5 (by simp [m3])) (by simp) (fun aJ aK w5 hx=>hK.out _ _ (hx.bx _ (.tail _ m1)).1 (fun _=>norm_ nrm (il (aJ,aK,x) _ hx)))
 refine join_ (σ:=Option Addr × Nat) 9 (jb 14 901) (fun s_=>[(33,.slice s_.1 ys.length s_.2)]) (fun s_ w_=>LX w0 w g af (.slice bE tb.length bF) tb B1 L1 [(.slice s_.1 ys.length s_.2,ys)] p2 w_) ?_ (fun jy=>?_)
 ·rintro⟨aJ,aK⟩ w5 h5
  try dsimp only at h5
  refine norm_ (a':=?_) ?_ ?_
  rotate_left
  ·simp only [putAll,Act.put,List.setIfInBounds_toArray,List.set_cons_zero,List.set_cons_succ,eV]
   rfl
  refine two_ (i:=1) (j:=12) (Ni:=some 25) (Nj:=some 10) (jb 14 903) (jb 14 4997) rfl rfl rfl rfl (two_of HT_.out (by kernel_rfl)) (by decide) (by decide) (fun K hK=>?_) (fun K hK=>?_)
  ·exact goes_ Tryz.func110 (by kernel_rfl) rfl #[.int .i64 13,.int .i64 3] (by rfl) rfl rfl qM (LX.leaf h5 A6.out (fun az aA w5 hx=>hK.out _ _ (hx.bx _ m1).1 (fun _=>norm_ nrm (iw (az,aA,aJ,aK) _ hx))))
  exact LX.newbox h5 (by rfl) rfl (cs:=Z8) qR12 (fun x w5 hx=>hK.out _ _ (hx.bx _ (.tail _ m1)).1 (fun _=>norm_ nrm (il (aJ,aK,x) _ hx)))
 refine join_ (σ:=Option Addr × Nat) 9 (jb 14 391) (fun s_=>[(25,eV x4 y4 s_.1 z4 s_.2)]) (fun s_ w_=>LX w0 w g af (.slice bE tb.length bF) tb B1 ((.slice s_.1 z4.length s_.2,z4) :: L1) [] p2 w_) ?_ (fun jA=>?_)
 ·rintro⟨az,aA⟩ w5 h5
  try dsimp only at h5
  refine norm_ (a':=?_) ?_ ?_
  rotate_left
  ·simp only [putAll,Act.put,List.setIfInBounds_toArray,List.set_cons_zero,List.set_cons_succ,eV]
   rfl
  refine three_ (i:=3) (j:=9) (k:=12) (Ni:=some 27) (Nj:=some 33) (Nk:=some 10) (jb 14 399) (jb 14 903) (jb 14 4487) rfl rfl rfl rfl rfl rfl (three_of HT_.out (by kernel_rfl)) (by decide) (by decide) (by decide) (fun K hK=>?_) (fun K hK=>?_) (fun K hK=>?_)
  ·refine goes_ Tryz.func52 (by kernel_rfl) rfl #[.pointer (some ⟨g,0,none⟩),.int .i64 3] (by rfl) rfl rfl qM (LX.pick h5 A7.out (fun w5 hx=>?_))
   refine hK.out _ _ (hx.bx _ m1).1 (fun _=>?_)
   clear hK K
   refine norm_ (a':=?_) ?_ ?_
   rotate_left
   ·show Act.put _ (some 27) _=_
    simp only [Act.put,List.setIfInBounds_toArray,List.set_cons_zero,List.set_cons_succ,i64_w,i32_w]
    rfl
   refine jp 4 28 (jb 14 415) ?_
   exact norm_ nrm (jv (az,aA) _ hx)
  ·exact LX.lit h5 (by rfl) rfl (inner:=[.int .i64 1,.int .i64 3,.int .i64 0,.int .i64 x3,.int .i64 y3,.slice bG z3.length bH,.slice none 0 0,.slice none 0 0]) (xs:=[(⟨1,3,0,(⟨x3,y3,z3⟩:S90),[],[]⟩:S92)]) Hy.out qR9 (LX.one h5 (by simp [m3])) (by simp) (fun aJ aK w5 hx=>hK.out _ _ (hx.bx _ m1).1 (fun _=>norm_ nrm (iw (az,aA,aJ,aK) _ hx)))
  exact LX.newbox h5 (by rfl) rfl (cs:=Z8) qR12 (fun x w5 hx=>hK.out _ _ (hx.bx _ (.tail _ m1)).1 (fun _=>norm_ nrm (iq (az,aA,x) _ hx)))
 refine three_ (i:=1) (j:=9) (k:=12) (Ni:=some 25) (Nj:=some 33) (Nk:=some 10) (jb 14 391) (jb 14 901) (jb 14 4485) rfl rfl rfl rfl rfl rfl (three_of HT_.out (by kernel_rfl)) (by decide) (by decide) (by decide) (fun K hK=>?_) (fun K hK=>?_) (fun K hK=>?_)
 ·exact goes_ Tryz.func110 (by kernel_rfl) rfl #[.int .i64 13,.int .i64 3] (by rfl) rfl rfl qM (LX.leaf HX.out A6.out (fun az aA w5 hx=>hK.out _ _ (hx.bx _ m1).1 (fun _=>norm_ nrm (jA (az,aA) _ hx))))
 ·exact LX.lit HX.out (by rfl) rfl (inner:=[.int .i64 1,.int .i64 3,.int .i64 0,.int .i64 x3,.int .i64 y3,.slice bG z3.length bH,.slice none 0 0,.slice none 0 0]) (xs:=[(⟨1,3,0,(⟨x3,y3,z3⟩:S90),[],[]⟩:S92)]) Hy.out qR9 (LX.one HX.out (by simp [m3])) (by simp) (fun aJ aK w5 hx=>hK.out _ _ (hx.bx _ m1).1 (fun _=>norm_ nrm (jy (aJ,aK) _ hx)))
 exact LX.newbox HX.out (by rfl) rfl (cs:=Z8) qR12 (fun x w5 hx=>hK.out _ _ (hx.bx _ (.tail _ m1)).1 (fun _=>norm_ nrm (jw x _ hx)))
theorem Sbx.step (k:Nat) (aj:∀ m_,m_ < k->Sbt.stmt m_) (ih:∀ m_,m_ < k->Sbx.stmt m_) (aN:∀ m_,m_ < k->Sbu.stmt m_) (aH:∀ m_,m_ < k->Sbv.stmt m_):Sbx.stmt k:=by
 intro g af ay a1 a2 a3 r1 r2 w0 w hI hB h
 cases k with
 | zero=>exact absurd h (by simp [Sbx.f])
 | succ k =>
 simp only [Sbx.f] at h
 have mO:=Tryz.underlying92
 have HI0:=aM hI
 have HK:=aM (KeepBut.refl w g none)
 have HL:=aM hB.size
 clear hI
 have HW0:=aM hB.size
 have HB:=aM hB
 clear hB
 have H:((Sbo.f k af ay 10).bind fun aI=>(if aI.1=0 then (Sbx.j0 k a1 a2 a3 aI.1 (aI.1 == 0) af aI.2) else (Sbx.j0 k a1 a2 a3 aI.1 (aI.1 == 1) af aI.2)))=some (r1,r2):=h
 clear h
 obtain⟨⟨bN,bu⟩,A5,H⟩:=qE H
 try dsimp only at H
 have nG:=aM H
 clear H
 go_enter Tryz.func82,Tryz.ntmps82
 go_upto_if 11 with (first|((with_reducible refine jc 52 10 rfl rfl ?_);refine jG Tryz.func52 #[.pointer (some ⟨g,0,none⟩),.int .i64 10] ?_;refine (Sbo.calls k g af ay 10 bN bu w0 _ ?ah ?ai A5.out).mono ?_;(case ah=>exact qI HI0);(case ai=>exact qB);rintro e w7 ⟨rfl,hi,hb,hk⟩;refine⟨_,rfl,?_⟩;replace HK:=aM (KeepBut.trans (w:=w) qH hk (.inl rfl));replace HB:=aM hb;replace HI0:=aM hi;clear hb hk hi))
 (try simp only [Act.put,List.setIfInBounds_toArray,List.set_cons_zero,List.set_cons_succ])
 go_cut [11] (fun v11 wc=>∃ (kq:Nat) (fM:Bool),v11 = .bool fM/\Aside0 (Sbx.j0 kq a1 a2 a3 bN fM af bu=some (r1,r2))/\Aside0 (kq<=k)/\Aside0 (Saa w0 wc g af bu)/\Aside0 (KeepBut w wc g none)/\Aside0 (Below w0.heap.size w0 wc))
 case first =>
  have H:=nG.out
  clear nG
  replace H:=jE H;rcases H with ⟨bR,nH,H⟩ | ⟨c8,bR,nH,H⟩
  ·(first|rw [bR]|(simp only [i64_w,i32_w];rw [bR])|skip)
   have H':=aM H
   clear H
   go_wp2
   go_meet
   exact⟨_,((bN == 0)),qZ,H',⟨by first|omega|exact Nat.le_refl _⟩,⟨qI HI0⟩,⟨qH⟩,⟨qB⟩⟩
  (first|rw [bR]|(simp only [i64_w,i32_w];rw [bR])|skip)
  have H':=aM H
  clear H
  go_wp2
  go_meet
  exact⟨_,((bN == 1)),qZ,H',⟨by first|omega|exact Nat.le_refl _⟩,⟨qI HI0⟩,⟨qH⟩,⟨qB⟩⟩
 clear nG
 obtain⟨kq,fM,rfl,HA,iD,HI0,HK,HB⟩:=hcut
 cases kq with
 | zero=>exact absurd HA.out (by simp [Sbx.j0])
 | succ iM =>
  have H:=HA.out
  clear HA
  simp only [Sbx.j0] at H
  replace H:=jB H;rcases H with ⟨rfl,H⟩ | ⟨rfl,H⟩
  ·obtain⟨⟨bS,bT,bU,bV,bW,bX,bY,bZ,nI⟩,iU,H⟩:=qE H
   try dsimp only at H
   obtain⟨pW,dU⟩:=ky ((([(⟨bS,bT,bU,(⟨bV,bW,bX⟩:S90),bY,bZ⟩:S92)]:List (S92))):List (S92))
   first|replace H:=kz dU H|rw [<- dU.out] at H
   obtain⟨rfl,rfl⟩:=oJ2 H
   go_wp2_with (first|((with_reducible refine jc 92 15 rfl rfl ?_);refine jG Tryz.func92 #[.pointer (some ⟨g,0,none⟩)] ?_;refine (Sbw.calls iM g af bu bS bT bU bV bW bX bY bZ nI w0 _ ?ah ?ai iU.out).mono ?_;(case ah=>exact qI HI0);(case ai=>exact qB);rintro e oF ⟨jH,jK,jM,rfl,ho0,ho1,ho2,hi,hb,hk⟩;refine⟨_,rfl,?_⟩;have dV:=aM (Kd.N_lower (Kd.N_mono (ok':=fun k_=>(w.heap.size<=k_)/\some k_≠(jK:Value).ownBlock/\some k_≠(jM:Value).ownBlock/\k_≠g) ho0 (fun k_ hk_=>⟨(Nat.le_trans (keep_size (w:=w) (g:=g) (row:=none) qH) hk_.1),hk_.2.1,hk_.2.2,(Saa.fresh (qI HI0) k_ hk_.1)⟩)) (keep_size (w:=w) (g:=g) (row:=none) qH));have dW:=aM (Kd.N_lower (Kd.N_mono (ok':=fun k_=>(w.heap.size<=k_)/\some k_≠(jH:Value).ownBlock/\some k_≠(jM:Value).ownBlock/\k_≠g) ho1 (fun k_ hk_=>⟨(Nat.le_trans (keep_size (w:=w) (g:=g) (row:=none) qH) hk_.1),hk_.2.1,hk_.2.2,(Saa.fresh (qI HI0) k_ hk_.1)⟩)) (keep_size (w:=w) (g:=g) (row:=none) qH));have dX:=aM (Kd.N_lower (Kd.N_mono (ok':=fun k_=>(w.heap.size<=k_)/\some k_≠(jH:Value).ownBlock/\some k_≠(jK:Value).ownBlock/\k_≠g) ho2 (fun k_ hk_=>⟨(Nat.le_trans (keep_size (w:=w) (g:=g) (row:=none) qH) hk_.1),hk_.2.1,hk_.2.2,(Saa.fresh (qI HI0) k_ hk_.1)⟩)) (keep_size (w:=w) (g:=g) (row:=none) qH));replace HK:=aM (KeepBut.trans (w:=w) qH hk (.inl rfl));replace HB:=aM hb;replace HI0:=aM hi;clear hb hk hi;(try clear ho0);(try clear ho1);(try clear ho2);obtain⟨jN,jO,nJ⟩:=Kd.N_slice dV.out;subst nJ;obtain⟨jQ,jS,nK⟩:=Kd.N_slice dW.out;subst nK;obtain⟨jT,jW,nL⟩:=Kd.N_slice dX.out;subst nL)|((with_reducible refine jd 16 rfl ?_);refine Kd.N_lit k92 _ 92 ?hg (N':=16) ?hd (xs:=([(⟨bS,bT,bU,(⟨bV,bW,bX⟩:S90),bY,bZ⟩:S92)]:List (S92))) (inner:=[.int .i64 bS,.int .i64 bT,.int .i64 bU,.int .i64 bV,.int .i64 bW,.slice jN bX.length jO,.slice jQ bY.length jS,.slice jT bZ.length jW]) (ok:=(fun k_=>(w.heap.size<=k_)/\k_≠g)) (okp:=(fun k_=>(w.heap.size<=k_)/\k_≠g)) ?hr ?hp (fun _ hk=>hk) ((show ∀ k_,oF.heap.size<=k_->(fun k_=>(w.heap.size<=k_)/\k_≠g) k_ from fun k_ hk=>⟨(Nat.le_trans (keep_size (w:=w) (g:=g) (row:=none) qH) hk),Saa.fresh (qI HI0) k_ hk⟩) _ (Nat.le_refl _)) (Below.refl _ _) (Nat.le_refl _) (by simp) ?_;(case hd=>rfl);(case hg=>rfl);(case hr=>first|(go_simp;done)|(go_simp;rfl));(case hp=>exact (Reps.c8 (show Kd.FK k92 _ _ (⟨bS,bT,bU,(⟨bV,bW,bX⟩:S90),bY,bZ⟩:S92) [.int .i64 bS,.int .i64 bT,.int .i64 bU,.int .i64 bV,.int .i64 bW,.slice jN bX.length jO,.slice jQ bY.length jS,.slice jT bZ.length jW] from (k92_mkF _ _ (⟨bS,bT,bU,(⟨bV,bW,bX⟩:S90),bY,bZ⟩:S92) (Kd.N_reads' (Kd.N_mono (ok':=(fun k_=>(w.heap.size<=k_)/\k_≠g)) (dV.out) (fun k_ hk=>⟨hk.1,hk.2.2.2⟩))).2.1 (Kd.N_F (Kd.N_mono (ok':=(fun k_=>(w.heap.size<=k_)/\k_≠g)) (dV.out) (fun k_ hk=>⟨hk.1,hk.2.2.2⟩))) (Kd.N_reads' (Kd.N_mono (ok':=(fun k_=>(w.heap.size<=k_)/\k_≠g)) (dW.out) (fun k_ hk=>⟨hk.1,hk.2.2.2⟩))).2.1 (Kd.N_F (Kd.N_mono (ok':=(fun k_=>(w.heap.size<=k_)/\k_≠g)) (dW.out) (fun k_ hk=>⟨hk.1,hk.2.2.2⟩))) (Kd.N_reads' (Kd.N_mono (ok':=(fun k_=>(w.heap.size<=k_)/\k_≠g)) (dX.out) (fun k_ hk=>⟨hk.1,hk.2.2.2⟩))).2.1 (Kd.N_F (Kd.N_mono (ok':=(fun k_=>(w.heap.size<=k_)/\k_≠g)) (dX.out) (fun k_ hk=>⟨hk.1,hk.2.2.2⟩))))) (Reps.none _ _)));intro pX sj fO hb hg_ hnew_;clear hg_ hnew_;(first|rw [<- dU.out] at fO|(simp only [Int.reduceToNat] at fO;rw [<- dU.out] at fO));have jY:=aM (Kd.N_lower fO (keep_size (w:=w) (g:=g) (row:=none) qH));replace HI0:=aM (Saa.below (qI HI0) hb);replace HK:=aM (KeepBut.trans (w:=w) qH (KeepBut.of_below hb g none) (.inl rfl));replace HB:=kH hb;clear dV dW dX;clear hb fO))
   go_ret
   exact⟨_,qW,by (with_reducible repeat (first|apply Kd.N_alloc|apply Kd.N_drewN|apply Kd.N_drew));exact Kd.N_mono jY.out (fun _ hk=>hk.1),qI HI0,qB,qH⟩
  replace H:=jE H;rcases H with ⟨fP,fQ,H⟩ | ⟨c17,fP,fQ,H⟩
  ·replace H:=jD H;rcases H with ⟨jZ,H⟩ | ⟨jZ,H⟩
   ·obtain⟨⟨cz,cB,cK,cO,df,dh,di,dn,nM⟩,pY,H⟩:=qE H
    try dsimp only at H
    obtain⟨p9,dY⟩:=ky ((([(⟨cz,cB,cK,(⟨cO,df,dh⟩:S90),di,dn⟩:S92)]:List (S92))):List (S92))
    first|replace H:=kz dY H|rw [<- dY.out] at H
    obtain⟨rfl,rfl⟩:=oJ2 H
    go_wp2_with (first|((with_reducible refine jc 93 25 rfl rfl ?_);refine jG Tryz.func93 #[.pointer (some ⟨g,0,none⟩),.int .i64 a1,.int .i64 a2,.bool a3] ?_;refine (aN iM (by have:=iD.out;omega) g af bu a1 a2 a3 cz cB cK cO df dh di dn nM w0 _ ?ah ?ai pY.out).mono ?_;(case ah=>exact qI HI0);(case ai=>exact qB);rintro e mU ⟨j4,j5,j6,rfl,ho0,ho1,ho2,hi,hb,hk⟩;refine⟨_,rfl,?_⟩;have dZ:=aM (Kd.N_lower (Kd.N_mono (ok':=fun k_=>(w.heap.size<=k_)/\some k_≠(j5:Value).ownBlock/\some k_≠(j6:Value).ownBlock/\k_≠g) ho0 (fun k_ hk_=>⟨(Nat.le_trans (keep_size (w:=w) (g:=g) (row:=none) qH) hk_.1),hk_.2.1,hk_.2.2,(Saa.fresh (qI HI0) k_ hk_.1)⟩)) (keep_size (w:=w) (g:=g) (row:=none) qH));have d9:=aM (Kd.N_lower (Kd.N_mono (ok':=fun k_=>(w.heap.size<=k_)/\some k_≠(j4:Value).ownBlock/\some k_≠(j6:Value).ownBlock/\k_≠g) ho1 (fun k_ hk_=>⟨(Nat.le_trans (keep_size (w:=w) (g:=g) (row:=none) qH) hk_.1),hk_.2.1,hk_.2.2,(Saa.fresh (qI HI0) k_ hk_.1)⟩)) (keep_size (w:=w) (g:=g) (row:=none) qH));have ed:=aM (Kd.N_lower (Kd.N_mono (ok':=fun k_=>(w.heap.size<=k_)/\some k_≠(j4:Value).ownBlock/\some k_≠(j5:Value).ownBlock/\k_≠g) ho2 (fun k_ hk_=>⟨(Nat.le_trans (keep_size (w:=w) (g:=g) (row:=none) qH) hk_.1),hk_.2.1,hk_.2.2,(Saa.fresh (qI HI0) k_ hk_.1)⟩)) (keep_size (w:=w) (g:=g) (row:=none) qH));replace HK:=aM (KeepBut.trans (w:=w) qH hk (.inl rfl));replace HB:=aM hb;replace HI0:=aM hi;clear hb hk hi;(try clear ho0);(try clear ho1);(try clear ho2);obtain⟨kg,ko,nN⟩:=Kd.N_slice dZ.out;subst nN;obtain⟨kr,ku,nO⟩:=Kd.N_slice d9.out;subst nO;obtain⟨kv,kw,nP⟩:=Kd.N_slice ed.out;subst nP)|((with_reducible refine jd 26 rfl ?_);refine Kd.N_lit k92 _ 92 ?hg (N':=26) ?hd (xs:=([(⟨cz,cB,cK,(⟨cO,df,dh⟩:S90),di,dn⟩:S92)]:List (S92))) (inner:=[.int .i64 cz,.int .i64 cB,.int .i64 cK,.int .i64 cO,.int .i64 df,.slice kg dh.length ko,.slice kr di.length ku,.slice kv dn.length kw]) (ok:=(fun k_=>(w.heap.size<=k_)/\k_≠g)) (okp:=(fun k_=>(w.heap.size<=k_)/\k_≠g)) ?hr ?hp (fun _ hk=>hk) ((show ∀ k_,mU.heap.size<=k_->(fun k_=>(w.heap.size<=k_)/\k_≠g) k_ from fun k_ hk=>⟨(Nat.le_trans (keep_size (w:=w) (g:=g) (row:=none) qH) hk),Saa.fresh (qI HI0) k_ hk⟩) _ (Nat.le_refl _)) (Below.refl _ _) (Nat.le_refl _) (by simp) ?_;(case hd=>rfl);(case hg=>rfl);(case hr=>first|(go_simp;done)|(go_simp;rfl));(case hp=>exact (Reps.c8 (show Kd.FK k92 _ _ (⟨cz,cB,cK,(⟨cO,df,dh⟩:S90),di,dn⟩:S92) [.int .i64 cz,.int .i64 cB,.int .i64 cK,.int .i64 cO,.int .i64 df,.slice kg dh.length ko,.slice kr di.length ku,.slice kv dn.length kw] from (k92_mkF _ _ (⟨cz,cB,cK,(⟨cO,df,dh⟩:S90),di,dn⟩:S92) (Kd.N_reads' (Kd.N_mono (ok':=(fun k_=>(w.heap.size<=k_)/\k_≠g)) (dZ.out) (fun k_ hk=>⟨hk.1,hk.2.2.2⟩))).2.1 (Kd.N_F (Kd.N_mono (ok':=(fun k_=>(w.heap.size<=k_)/\k_≠g)) (dZ.out) (fun k_ hk=>⟨hk.1,hk.2.2.2⟩))) (Kd.N_reads' (Kd.N_mono (ok':=(fun k_=>(w.heap.size<=k_)/\k_≠g)) (d9.out) (fun k_ hk=>⟨hk.1,hk.2.2.2⟩))).2.1 (Kd.N_F (Kd.N_mono (ok':=(fun k_=>(w.heap.size<=k_)/\k_≠g)) (d9.out) (fun k_ hk=>⟨hk.1,hk.2.2.2⟩))) (Kd.N_reads' (Kd.N_mono (ok':=(fun k_=>(w.heap.size<=k_)/\k_≠g)) (ed.out) (fun k_ hk=>⟨hk.1,hk.2.2.2⟩))).2.1 (Kd.N_F (Kd.N_mono (ok':=(fun k_=>(w.heap.size<=k_)/\k_≠g)) (ed.out) (fun k_ hk=>⟨hk.1,hk.2.2.2⟩))))) (Reps.none _ _)));intro qb su fT hb hg_ hnew_;clear hg_ hnew_;(first|rw [<- dY.out] at fT|(simp only [Int.reduceToNat] at fT;rw [<- dY.out] at fT));have kD:=aM (Kd.N_lower fT (keep_size (w:=w) (g:=g) (row:=none) qH));replace HI0:=aM (Saa.below (qI HI0) hb);replace HK:=aM (KeepBut.trans (w:=w) qH (KeepBut.of_below hb g none) (.inl rfl));replace HB:=kH hb;clear dZ d9 ed;clear hb fT))
    go_ret
    exact⟨_,qW,by (with_reducible repeat (first|apply Kd.N_alloc|apply Kd.N_drewN|apply Kd.N_drew));exact Kd.N_mono kD.out (fun _ hk=>hk.1),qI HI0,qB,qH⟩
   obtain⟨⟨iE,kE⟩,qc,H⟩:=qE H
   try dsimp only at H
   obtain⟨⟨dw,dx,dz,nQ⟩,qd,H⟩:=qE H
   try dsimp only at H
   obtain⟨qf,ek⟩:=ky ((([(⟨7,0,0,(⟨dw,dx,dz⟩:S90),([]:List (S92)),([]:List (S92))⟩:S92)]:List (S92))):List (S92))
   first|replace H:=kz ek H|rw [<- ek.out] at H
   obtain⟨rfl,rfl⟩:=oJ2 H
   go_wp2_with (first|((with_reducible refine jc 52 52 rfl rfl ?_);refine jG Tryz.func52 #[.pointer (some ⟨g,0,none⟩),.int .i64 3] ?_;refine (Sbo.calls iM g af bu 3 iE kE w0 _ ?ah ?ai qc.out).mono ?_;(case ah=>exact qI HI0);(case ai=>exact qB);rintro e sw ⟨rfl,hi,hb,hk⟩;refine⟨_,rfl,?_⟩;replace HK:=aM (KeepBut.trans (w:=w) qH hk (.inl rfl));replace HB:=aM hb;replace HI0:=aM hi;clear hb hk hi)|((with_reducible refine jc 96 54 rfl rfl ?_);refine jG Tryz.func96 #[.pointer (some ⟨g,0,none⟩),.int .i64 (wrap64 (1+iE))] ?_;refine (Sbp.calls iM g af kE (wrap64 (1+iE)) dw dx dz nQ w0 _ ?ah ?ai qd.out).mono ?_;(case ah=>exact qI HI0);(case ai=>exact qB);rintro e qg ⟨qh,rfl,ho0,hi,hb,hk⟩;refine⟨_,rfl,?_⟩;have eu:=aM (Kd.N_lower (Kd.N_mono (ok':=fun k_=>(w.heap.size<=k_)/\k_≠g) ho0 (fun k_ hk_=>⟨(Nat.le_trans (keep_size (w:=w) (g:=g) (row:=none) qH) hk_),(Saa.fresh (qI HI0) k_ hk_)⟩)) (keep_size (w:=w) (g:=g) (row:=none) qH));replace HK:=aM (KeepBut.trans (w:=w) qH hk (.inl rfl));replace HB:=aM hb;replace HI0:=aM hi;clear hb hk hi;(try clear ho0);obtain⟨kF,kJ,nR⟩:=Kd.N_slice eu.out;subst nR)|((with_reducible refine jd 56 rfl ?_);refine Kd.N_lit k92 _ 92 ?hg (N':=56) ?hd (xs:=([(⟨7,0,0,(⟨dw,dx,dz⟩:S90),([]:List (S92)),([]:List (S92))⟩:S92)]:List (S92))) (inner:=[.int .i64 7,.int .i64 0,.int .i64 0,.int .i64 dw,.int .i64 dx,.slice kF dz.length kJ,.slice none 0 0,.slice none 0 0]) (ok:=(fun k_=>(w.heap.size<=k_)/\k_≠g)) (okp:=(fun k_=>(w.heap.size<=k_)/\k_≠g)) ?hr ?hp (fun _ hk=>hk) ((show ∀ k_,qg.heap.size<=k_->(fun k_=>(w.heap.size<=k_)/\k_≠g) k_ from fun k_ hk=>⟨(Nat.le_trans (keep_size (w:=w) (g:=g) (row:=none) qH) hk),Saa.fresh (qI HI0) k_ hk⟩) _ (Nat.le_refl _)) (Below.refl _ _) (Nat.le_refl _) (by simp) ?_;(case hd=>rfl);(case hg=>rfl);(case hr=>first|(go_simp;done)|(go_simp;rfl));(case hp=>exact (Reps.c8 (show Kd.FK k92 _ _ (⟨7,0,0,(⟨dw,dx,dz⟩:S90),([]:List (S92)),([]:List (S92))⟩:S92) [.int .i64 7,.int .i64 0,.int .i64 0,.int .i64 dw,.int .i64 dx,.slice kF dz.length kJ,.slice none 0 0,.slice none 0 0] from (k92_mkF _ _ (⟨7,0,0,(⟨dw,dx,dz⟩:S90),([]:List (S92)),([]:List (S92))⟩:S92) (Kd.N_reads' (Kd.N_mono (ok':=(fun k_=>(w.heap.size<=k_)/\k_≠g)) (eu.out) (fun k_ hk=>⟨hk.1,hk.2⟩))).2.1 (Kd.N_F (Kd.N_mono (ok':=(fun k_=>(w.heap.size<=k_)/\k_≠g)) (eu.out) (fun k_ hk=>⟨hk.1,hk.2⟩))) (Nat.le_refl _) (Kd.F_nil _ _ _) (Nat.le_refl _) (Kd.F_nil _ _ _))) (Reps.none _ _)));intro qi sD fU hb hg_ hnew_;clear hg_ hnew_;(first|rw [<- ek.out] at fU|(simp only [Int.reduceToNat] at fU;rw [<- ek.out] at fU));have kP:=aM (Kd.N_lower fU (keep_size (w:=w) (g:=g) (row:=none) qH));replace HI0:=aM (Saa.below (qI HI0) hb);replace HK:=aM (KeepBut.trans (w:=w) qH (KeepBut.of_below hb g none) (.inl rfl));replace HB:=kH hb;clear eu;clear hb fU))
   go_ret
   exact⟨_,qW,by (with_reducible repeat (first|apply Kd.N_alloc|apply Kd.N_drewN|apply Kd.N_drew));exact Kd.N_mono kP.out (fun _ hk=>hk.1),qI HI0,qB,qH⟩
  replace H:=jE H;rcases H with ⟨fV,fZ,H⟩ | ⟨o7,fV,fZ,H⟩
  ·have iF:=aM H
   clear H
   go_upto_region 9 with (fail)
   go_cut [33] (fun v33 wc=>∃ (kq:Nat) (dA:Bool),v33 = .bool dA/\Aside0 (Sbx.j1 kq a1 a2 dA af bu=some (r1,r2))/\Aside0 (kq<=iM)/\Aside0 (Saa w0 wc g af bu)/\Aside0 (KeepBut w wc g none)/\Aside0 (Below w0.heap.size w0 wc))
   case first =>
    have H:=iF.out
    clear iF
    replace H:=jD H;rcases H with ⟨bO,H⟩ | ⟨bO,H⟩
    ·(first|rw [bO]|(simp only [i64_w,i32_w];rw [bO])|skip)
     have H':=aM H
     clear H
     go_wp2
     go_meet
     exact⟨_,(a3),qZ,H',⟨by have:=iD.out;first|omega|exact Nat.le_refl _⟩,⟨qI HI0⟩,⟨qH⟩,⟨qB⟩⟩
    (first|rw [bO]|(simp only [i64_w,i32_w];rw [bO])|skip)
    have H':=aM H
    clear H
    go_wp2
    go_meet
    exact⟨_,(false),qZ,H',⟨by have:=iD.out;first|omega|exact Nat.le_refl _⟩,⟨qI HI0⟩,⟨qH⟩,⟨qB⟩⟩
   clear iF
   try clear c17;try clear fP;try clear fQ;try clear o7;try clear fV;try clear fZ
   obtain⟨kq,dA,rfl,HA,nS,HI0,HK,HB⟩:=hcut
   cases kq with
   | zero=>exact absurd HA.out (by simp [Sbx.j1])
   | succ iG =>
    have H:=HA.out
    clear HA
    simp only [Sbx.j1] at H
    replace H:=jB H;rcases H with ⟨rfl,H⟩ | ⟨rfl,H⟩
    ·obtain⟨⟨nT,nU⟩,qj,H⟩:=qE H
     try dsimp only at H
     obtain⟨rfl,rfl⟩:=oJ2 H
     go_wp2_with (first|((with_reducible refine jc 94 37 rfl rfl ?_);refine jG Tryz.func94 #[.pointer (some ⟨g,0,none⟩),.int .i64 a1,.int .i64 a2] ?_;refine (aH iG (by have:=iD.out;have:=nS.out;omega) g af bu a1 a2 nT nU w0 _ ?ah ?ai qj.out).mono ?_;(case ah=>exact qI HI0);(case ai=>exact qB);rintro e sF ⟨ql,rfl,ho0,hi,hb,hk⟩;refine⟨_,rfl,?_⟩;have kU:=aM (Kd.N_lower (Kd.N_mono (ok':=fun k_=>(w.heap.size<=k_)/\k_≠g) ho0 (fun k_ hk_=>⟨(Nat.le_trans (keep_size (w:=w) (g:=g) (row:=none) qH) hk_),(Saa.fresh (qI HI0) k_ hk_)⟩)) (keep_size (w:=w) (g:=g) (row:=none) qH));replace HK:=aM (KeepBut.trans (w:=w) qH hk (.inl rfl));replace HB:=aM hb;replace HI0:=aM hi;clear hb hk hi;(try clear ho0)))
     go_ret
     exact⟨_,qW,by (with_reducible repeat (first|apply Kd.N_alloc|apply Kd.N_drewN|apply Kd.N_drew));exact Kd.N_mono kU.out (fun _ hk=>hk.1),qI HI0,qB,qH⟩
    obtain⟨⟨iH,kV⟩,qm,H⟩:=qE H
    try dsimp only at H
    obtain⟨⟨dB,dC,dD,nV⟩,qo,H⟩:=qE H
    try dsimp only at H
    obtain⟨qp,eB⟩:=ky ((([(⟨7,0,0,(⟨dB,dC,dD⟩:S90),([]:List (S92)),([]:List (S92))⟩:S92)]:List (S92))):List (S92))
    first|replace H:=kz eB H|rw [<- eB.out] at H
    obtain⟨rfl,rfl⟩:=oJ2 H
    go_wp2_with (first|((with_reducible refine jc 52 52 rfl rfl ?_);refine jG Tryz.func52 #[.pointer (some ⟨g,0,none⟩),.int .i64 3] ?_;refine (Sbo.calls iG g af bu 3 iH kV w0 _ ?ah ?ai qm.out).mono ?_;(case ah=>exact qI HI0);(case ai=>exact qB);rintro e sG ⟨rfl,hi,hb,hk⟩;refine⟨_,rfl,?_⟩;replace HK:=aM (KeepBut.trans (w:=w) qH hk (.inl rfl));replace HB:=aM hb;replace HI0:=aM hi;clear hb hk hi)|((with_reducible refine jc 96 54 rfl rfl ?_);refine jG Tryz.func96 #[.pointer (some ⟨g,0,none⟩),.int .i64 (wrap64 (1+iH))] ?_;refine (Sbp.calls iG g af kV (wrap64 (1+iH)) dB dC dD nV w0 _ ?ah ?ai qo.out).mono ?_;(case ah=>exact qI HI0);(case ai=>exact qB);rintro e qw ⟨qx,rfl,ho0,hi,hb,hk⟩;refine⟨_,rfl,?_⟩;have eD:=aM (Kd.N_lower (Kd.N_mono (ok':=fun k_=>(w.heap.size<=k_)/\k_≠g) ho0 (fun k_ hk_=>⟨(Nat.le_trans (keep_size (w:=w) (g:=g) (row:=none) qH) hk_),(Saa.fresh (qI HI0) k_ hk_)⟩)) (keep_size (w:=w) (g:=g) (row:=none) qH));replace HK:=aM (KeepBut.trans (w:=w) qH hk (.inl rfl));replace HB:=aM hb;replace HI0:=aM hi;clear hb hk hi;(try clear ho0);obtain⟨kX,kY,nW⟩:=Kd.N_slice eD.out;subst nW)|((with_reducible refine jd 56 rfl ?_);refine Kd.N_lit k92 _ 92 ?hg (N':=56) ?hd (xs:=([(⟨7,0,0,(⟨dB,dC,dD⟩:S90),([]:List (S92)),([]:List (S92))⟩:S92)]:List (S92))) (inner:=[.int .i64 7,.int .i64 0,.int .i64 0,.int .i64 dB,.int .i64 dC,.slice kX dD.length kY,.slice none 0 0,.slice none 0 0]) (ok:=(fun k_=>(w.heap.size<=k_)/\k_≠g)) (okp:=(fun k_=>(w.heap.size<=k_)/\k_≠g)) ?hr ?hp (fun _ hk=>hk) ((show ∀ k_,qw.heap.size<=k_->(fun k_=>(w.heap.size<=k_)/\k_≠g) k_ from fun k_ hk=>⟨(Nat.le_trans (keep_size (w:=w) (g:=g) (row:=none) qH) hk),Saa.fresh (qI HI0) k_ hk⟩) _ (Nat.le_refl _)) (Below.refl _ _) (Nat.le_refl _) (by simp) ?_;(case hd=>rfl);(case hg=>rfl);(case hr=>first|(go_simp;done)|(go_simp;rfl));(case hp=>exact (Reps.c8 (show Kd.FK k92 _ _ (⟨7,0,0,(⟨dB,dC,dD⟩:S90),([]:List (S92)),([]:List (S92))⟩:S92) [.int .i64 7,.int .i64 0,.int .i64 0,.int .i64 dB,.int .i64 dC,.slice kX dD.length kY,.slice none 0 0,.slice none 0 0] from (k92_mkF _ _ (⟨7,0,0,(⟨dB,dC,dD⟩:S90),([]:List (S92)),([]:List (S92))⟩:S92) (Kd.N_reads' (Kd.N_mono (ok':=(fun k_=>(w.heap.size<=k_)/\k_≠g)) (eD.out) (fun k_ hk=>⟨hk.1,hk.2⟩))).2.1 (Kd.N_F (Kd.N_mono (ok':=(fun k_=>(w.heap.size<=k_)/\k_≠g)) (eD.out) (fun k_ hk=>⟨hk.1,hk.2⟩))) (Nat.le_refl _) (Kd.F_nil _ _ _) (Nat.le_refl _) (Kd.F_nil _ _ _))) (Reps.none _ _)));intro qy sH gm hb hg_ hnew_;clear hg_ hnew_;(first|rw [<- eB.out] at gm|(simp only [Int.reduceToNat] at gm;rw [<- eB.out] at gm));have kZ:=aM (Kd.N_lower gm (keep_size (w:=w) (g:=g) (row:=none) qH));replace HI0:=aM (Saa.below (qI HI0) hb);replace HK:=aM (KeepBut.trans (w:=w) qH (KeepBut.of_below hb g none) (.inl rfl));replace HB:=kH hb;clear eD;clear hb gm))
    go_ret
    exact⟨_,qW,by (with_reducible repeat (first|apply Kd.N_alloc|apply Kd.N_drewN|apply Kd.N_drew));exact Kd.N_mono kZ.out (fun _ hk=>hk.1),qI HI0,qB,qH⟩
  have iI:=aM H
  clear H
  go_upto_if 38 with (fail)
  go_cut [38] (fun v38 wc=>∃ (kq:Nat) (dE:Bool),v38 = .bool dE/\Aside0 (Sbx.j2 kq a1 bN dE af bu=some (r1,r2))/\Aside0 (kq<=iM)/\Aside0 (Saa w0 wc g af bu)/\Aside0 (KeepBut w wc g none)/\Aside0 (Below w0.heap.size w0 wc))
  case first =>
   have H:=iI.out
   clear iI
   replace H:=jE H;rcases H with ⟨bP,lc,H⟩ | ⟨sI,bP,lc,H⟩
   ·(first|rw [bP]|(simp only [i64_w,i32_w];rw [bP])|skip)
    have H':=aM H
    clear H
    go_wp2
    go_meet
    exact⟨_,((bN == 4)),qZ,H',⟨by have:=iD.out;first|omega|exact Nat.le_refl _⟩,⟨qI HI0⟩,⟨qH⟩,⟨qB⟩⟩
   (first|rw [bP]|(simp only [i64_w,i32_w];rw [bP])|skip)
   replace H:=jE H;rcases H with ⟨lg,lh,H⟩ | ⟨sJ,lg,lh,H⟩
   ·have H':=aM H
    clear H
    go_wp2
    go_meet
    exact⟨_,((bN == 5)),qZ,H',⟨by have:=iD.out;first|omega|exact Nat.le_refl _⟩,⟨qI HI0⟩,⟨qH⟩,⟨qB⟩⟩
   have H':=aM H
   clear H
   go_wp2
   go_meet
   exact⟨_,((bN == 6)),qZ,H',⟨by have:=iD.out;first|omega|exact Nat.le_refl _⟩,⟨qI HI0⟩,⟨qH⟩,⟨qB⟩⟩
  clear iI
  try clear c17;try clear fP;try clear fQ;try clear o7;try clear fV;try clear fZ
  obtain⟨kq,dE,rfl,HA,qz,HI0,HK,HB⟩:=hcut
  cases kq with
  | zero=>exact absurd HA.out (by simp [Sbx.j2])
  | succ iJ =>
   have H:=HA.out
   clear HA
   simp only [Sbx.j2] at H
   replace H:=jB H;rcases H with ⟨rfl,H⟩ | ⟨rfl,H⟩
   ·obtain⟨⟨dF,dG,dH,dI,dJ,dK,dL,dM,nX⟩,qC,H⟩:=qE H
    try dsimp only at H
    obtain⟨qG,eF⟩:=ky ((([(⟨dF,dG,dH,(⟨dI,dJ,dK⟩:S90),dL,dM⟩:S92)]:List (S92))):List (S92))
    first|replace H:=kz eF H|rw [<- eF.out] at H
    obtain⟨rfl,rfl⟩:=oJ2 H
    go_wp2_with (first|((with_reducible refine jc 95 44 rfl rfl ?_);refine jG Tryz.func95 #[.pointer (some ⟨g,0,none⟩),.int .i64 a1] ?_;refine (Sbz.calls iJ g af bu a1 dF dG dH dI dJ dK dL dM nX w0 _ ?ah ?ai qC.out).mono ?_;(case ah=>exact qI HI0);(case ai=>exact qB);rintro e qJ ⟨ll,lu,lw,rfl,ho0,ho1,ho2,hi,hb,hk⟩;refine⟨_,rfl,?_⟩;have eG:=aM (Kd.N_lower (Kd.N_mono (ok':=fun k_=>(w.heap.size<=k_)/\some k_≠(lu:Value).ownBlock/\some k_≠(lw:Value).ownBlock/\k_≠g) ho0 (fun k_ hk_=>⟨(Nat.le_trans (keep_size (w:=w) (g:=g) (row:=none) qH) hk_.1),hk_.2.1,hk_.2.2,(Saa.fresh (qI HI0) k_ hk_.1)⟩)) (keep_size (w:=w) (g:=g) (row:=none) qH));have eH:=aM (Kd.N_lower (Kd.N_mono (ok':=fun k_=>(w.heap.size<=k_)/\some k_≠(ll:Value).ownBlock/\some k_≠(lw:Value).ownBlock/\k_≠g) ho1 (fun k_ hk_=>⟨(Nat.le_trans (keep_size (w:=w) (g:=g) (row:=none) qH) hk_.1),hk_.2.1,hk_.2.2,(Saa.fresh (qI HI0) k_ hk_.1)⟩)) (keep_size (w:=w) (g:=g) (row:=none) qH));have eO:=aM (Kd.N_lower (Kd.N_mono (ok':=fun k_=>(w.heap.size<=k_)/\some k_≠(ll:Value).ownBlock/\some k_≠(lu:Value).ownBlock/\k_≠g) ho2 (fun k_ hk_=>⟨(Nat.le_trans (keep_size (w:=w) (g:=g) (row:=none) qH) hk_.1),hk_.2.1,hk_.2.2,(Saa.fresh (qI HI0) k_ hk_.1)⟩)) (keep_size (w:=w) (g:=g) (row:=none) qH));replace HK:=aM (KeepBut.trans (w:=w) qH hk (.inl rfl));replace HB:=aM hb;replace HI0:=aM hi;clear hb hk hi;(try clear ho0);(try clear ho1);(try clear ho2);obtain⟨lC,lD,nY⟩:=Kd.N_slice eG.out;subst nY;obtain⟨lF,lG,nZ⟩:=Kd.N_slice eH.out;subst nZ;obtain⟨lH,lI,oh⟩:=Kd.N_slice eO.out;subst oh)|((with_reducible refine jd 45 rfl ?_);refine Kd.N_lit k92 _ 92 ?hg (N':=45) ?hd (xs:=([(⟨dF,dG,dH,(⟨dI,dJ,dK⟩:S90),dL,dM⟩:S92)]:List (S92))) (inner:=[.int .i64 dF,.int .i64 dG,.int .i64 dH,.int .i64 dI,.int .i64 dJ,.slice lC dK.length lD,.slice lF dL.length lG,.slice lH dM.length lI]) (ok:=(fun k_=>(w.heap.size<=k_)/\k_≠g)) (okp:=(fun k_=>(w.heap.size<=k_)/\k_≠g)) ?hr ?hp (fun _ hk=>hk) ((show ∀ k_,qJ.heap.size<=k_->(fun k_=>(w.heap.size<=k_)/\k_≠g) k_ from fun k_ hk=>⟨(Nat.le_trans (keep_size (w:=w) (g:=g) (row:=none) qH) hk),Saa.fresh (qI HI0) k_ hk⟩) _ (Nat.le_refl _)) (Below.refl _ _) (Nat.le_refl _) (by simp) ?_;(case hd=>rfl);(case hg=>rfl);(case hr=>first|(go_simp;done)|(go_simp;rfl));(case hp=>exact (Reps.c8 (show Kd.FK k92 _ _ (⟨dF,dG,dH,(⟨dI,dJ,dK⟩:S90),dL,dM⟩:S92) [.int .i64 dF,.int .i64 dG,.int .i64 dH,.int .i64 dI,.int .i64 dJ,.slice lC dK.length lD,.slice lF dL.length lG,.slice lH dM.length lI] from (k92_mkF _ _ (⟨dF,dG,dH,(⟨dI,dJ,dK⟩:S90),dL,dM⟩:S92) (Kd.N_reads' (Kd.N_mono (ok':=(fun k_=>(w.heap.size<=k_)/\k_≠g)) (eG.out) (fun k_ hk=>⟨hk.1,hk.2.2.2⟩))).2.1 (Kd.N_F (Kd.N_mono (ok':=(fun k_=>(w.heap.size<=k_)/\k_≠g)) (eG.out) (fun k_ hk=>⟨hk.1,hk.2.2.2⟩))) (Kd.N_reads' (Kd.N_mono (ok':=(fun k_=>(w.heap.size<=k_)/\k_≠g)) (eH.out) (fun k_ hk=>⟨hk.1,hk.2.2.2⟩))).2.1 (Kd.N_F (Kd.N_mono (ok':=(fun k_=>(w.heap.size<=k_)/\k_≠g)) (eH.out) (fun k_ hk=>⟨hk.1,hk.2.2.2⟩))) (Kd.N_reads' (Kd.N_mono (ok':=(fun k_=>(w.heap.size<=k_)/\k_≠g)) (eO.out) (fun k_ hk=>⟨hk.1,hk.2.2.2⟩))).2.1 (Kd.N_F (Kd.N_mono (ok':=(fun k_=>(w.heap.size<=k_)/\k_≠g)) (eO.out) (fun k_ hk=>⟨hk.1,hk.2.2.2⟩))))) (Reps.none _ _)));intro qO sK gp hb hg_ hnew_;clear hg_ hnew_;(first|rw [<- eF.out] at gp|(simp only [Int.reduceToNat] at gp;rw [<- eF.out] at gp));have lJ:=aM (Kd.N_lower gp (keep_size (w:=w) (g:=g) (row:=none) qH));replace HI0:=aM (Saa.below (qI HI0) hb);replace HK:=aM (KeepBut.trans (w:=w) qH (KeepBut.of_below hb g none) (.inl rfl));replace HB:=kH hb;clear eG eH eO;clear hb gp))
    go_ret
    exact⟨_,qW,by (with_reducible repeat (first|apply Kd.N_alloc|apply Kd.N_drewN|apply Kd.N_drew));exact Kd.N_mono lJ.out (fun _ hk=>hk.1),qI HI0,qB,qH⟩
   replace H:=jE H;rcases H with ⟨lK,lL,H⟩ | ⟨sM,lK,lL,H⟩
   ·obtain⟨qX,eP⟩:=ky ((([(⟨6,0,0,(⟨0,0,([]:List (S90))⟩:S90),([]:List (S92)),([]:List (S92))⟩:S92)]:List (S92))):List (S92))
    first|replace H:=kz eP H|rw [<- eP.out] at H
    obtain⟨rfl,rfl⟩:=oJ2 H
    go_wp2_with (first|((with_reducible refine jd 49 rfl ?_);refine Kd.N_lit k92 _ 92 ?hg (N':=49) ?hd (xs:=([(⟨6,0,0,(⟨0,0,([]:List (S90))⟩:S90),([]:List (S92)),([]:List (S92))⟩:S92)]:List (S92))) (inner:=[.int .i64 6,.int .i64 0,.int .i64 0,.int .i64 0,.int .i64 0,.slice none 0 0,.slice none 0 0,.slice none 0 0]) (ok:=(fun k_=>(w.heap.size<=k_)/\k_≠g)) (okp:=(fun k_=>(w.heap.size<=k_)/\k_≠g)) ?hr ?hp (fun _ hk=>hk) ((show ∀ k_,wc.heap.size<=k_->(fun k_=>(w.heap.size<=k_)/\k_≠g) k_ from fun k_ hk=>⟨(Nat.le_trans (keep_size (w:=w) (g:=g) (row:=none) qH) hk),Saa.fresh (qI HI0) k_ hk⟩) _ (Nat.le_refl _)) (Below.refl _ _) (Nat.le_refl _) (by simp) ?_;(case hd=>rfl);(case hg=>rfl);(case hr=>first|(go_simp;done)|(go_simp;rfl));(case hp=>exact (Reps.c8 (show Kd.FK k92 _ _ (⟨6,0,0,(⟨0,0,([]:List (S90))⟩:S90),([]:List (S92)),([]:List (S92))⟩:S92) [.int .i64 6,.int .i64 0,.int .i64 0,.int .i64 0,.int .i64 0,.slice none 0 0,.slice none 0 0,.slice none 0 0] from (k92_mkF _ _ (⟨6,0,0,(⟨0,0,([]:List (S90))⟩:S90),([]:List (S92)),([]:List (S92))⟩:S92) (Nat.le_refl _) (Kd.F_nil _ _ _) (Nat.le_refl _) (Kd.F_nil _ _ _) (Nat.le_refl _) (Kd.F_nil _ _ _))) (Reps.none _ _)));intro qY sN gq hb hg_ hnew_;clear hg_ hnew_;(first|rw [<- eP.out] at gq|(simp only [Int.reduceToNat] at gq;rw [<- eP.out] at gq));have lM:=aM (Kd.N_lower gq (keep_size (w:=w) (g:=g) (row:=none) qH));replace HI0:=aM (Saa.below (qI HI0) hb);replace HK:=aM (KeepBut.trans (w:=w) qH (KeepBut.of_below hb g none) (.inl rfl));replace HB:=kH hb;clear hb gq))
    go_ret
    exact⟨_,qW,by (with_reducible repeat (first|apply Kd.N_alloc|apply Kd.N_drewN|apply Kd.N_drew));exact Kd.N_mono lM.out (fun _ hk=>hk.1),qI HI0,qB,qH⟩
   obtain⟨⟨iK,lN⟩,q9,H⟩:=qE H
   try dsimp only at H
   obtain⟨⟨dN,dO,dP,ol⟩,rf,H⟩:=qE H
   try dsimp only at H
   obtain⟨ru,eQ⟩:=ky ((([(⟨7,0,0,(⟨dN,dO,dP⟩:S90),([]:List (S92)),([]:List (S92))⟩:S92)]:List (S92))):List (S92))
   first|replace H:=kz eQ H|rw [<- eQ.out] at H
   obtain⟨rfl,rfl⟩:=oJ2 H
   go_wp2_with (first|((with_reducible refine jc 52 52 rfl rfl ?_);refine jG Tryz.func52 #[.pointer (some ⟨g,0,none⟩),.int .i64 3] ?_;refine (Sbo.calls iJ g af bu 3 iK lN w0 _ ?ah ?ai q9.out).mono ?_;(case ah=>exact qI HI0);(case ai=>exact qB);rintro e sO ⟨rfl,hi,hb,hk⟩;refine⟨_,rfl,?_⟩;replace HK:=aM (KeepBut.trans (w:=w) qH hk (.inl rfl));replace HB:=aM hb;replace HI0:=aM hi;clear hb hk hi)|((with_reducible refine jc 96 54 rfl rfl ?_);refine jG Tryz.func96 #[.pointer (some ⟨g,0,none⟩),.int .i64 (wrap64 (1+iK))] ?_;refine (Sbp.calls iJ g af lN (wrap64 (1+iK)) dN dO dP ol w0 _ ?ah ?ai rf.out).mono ?_;(case ah=>exact qI HI0);(case ai=>exact qB);rintro e ry ⟨rA,rfl,ho0,hi,hb,hk⟩;refine⟨_,rfl,?_⟩;have eT:=aM (Kd.N_lower (Kd.N_mono (ok':=fun k_=>(w.heap.size<=k_)/\k_≠g) ho0 (fun k_ hk_=>⟨(Nat.le_trans (keep_size (w:=w) (g:=g) (row:=none) qH) hk_),(Saa.fresh (qI HI0) k_ hk_)⟩)) (keep_size (w:=w) (g:=g) (row:=none) qH));replace HK:=aM (KeepBut.trans (w:=w) qH hk (.inl rfl));replace HB:=aM hb;replace HI0:=aM hi;clear hb hk hi;(try clear ho0);obtain⟨lQ,lS,oo⟩:=Kd.N_slice eT.out;subst oo)|((with_reducible refine jd 56 rfl ?_);refine Kd.N_lit k92 _ 92 ?hg (N':=56) ?hd (xs:=([(⟨7,0,0,(⟨dN,dO,dP⟩:S90),([]:List (S92)),([]:List (S92))⟩:S92)]:List (S92))) (inner:=[.int .i64 7,.int .i64 0,.int .i64 0,.int .i64 dN,.int .i64 dO,.slice lQ dP.length lS,.slice none 0 0,.slice none 0 0]) (ok:=(fun k_=>(w.heap.size<=k_)/\k_≠g)) (okp:=(fun k_=>(w.heap.size<=k_)/\k_≠g)) ?hr ?hp (fun _ hk=>hk) ((show ∀ k_,ry.heap.size<=k_->(fun k_=>(w.heap.size<=k_)/\k_≠g) k_ from fun k_ hk=>⟨(Nat.le_trans (keep_size (w:=w) (g:=g) (row:=none) qH) hk),Saa.fresh (qI HI0) k_ hk⟩) _ (Nat.le_refl _)) (Below.refl _ _) (Nat.le_refl _) (by simp) ?_;(case hd=>rfl);(case hg=>rfl);(case hr=>first|(go_simp;done)|(go_simp;rfl));(case hp=>exact (Reps.c8 (show Kd.FK k92 _ _ (⟨7,0,0,(⟨dN,dO,dP⟩:S90),([]:List (S92)),([]:List (S92))⟩:S92) [.int .i64 7,.int .i64 0,.int .i64 0,.int .i64 dN,.int .i64 dO,.slice lQ dP.length lS,.slice none 0 0,.slice none 0 0] from (k92_mkF _ _ (⟨7,0,0,(⟨dN,dO,dP⟩:S90),([]:List (S92)),([]:List (S92))⟩:S92) (Kd.N_reads' (Kd.N_mono (ok':=(fun k_=>(w.heap.size<=k_)/\k_≠g)) (eT.out) (fun k_ hk=>⟨hk.1,hk.2⟩))).2.1 (Kd.N_F (Kd.N_mono (ok':=(fun k_=>(w.heap.size<=k_)/\k_≠g)) (eT.out) (fun k_ hk=>⟨hk.1,hk.2⟩))) (Nat.le_refl _) (Kd.F_nil _ _ _) (Nat.le_refl _) (Kd.F_nil _ _ _))) (Reps.none _ _)));intro rC sP gu hb hg_ hnew_;clear hg_ hnew_;(first|rw [<- eQ.out] at gu|(simp only [Int.reduceToNat] at gu;rw [<- eQ.out] at gu));have lT:=aM (Kd.N_lower gu (keep_size (w:=w) (g:=g) (row:=none) qH));replace HI0:=aM (Saa.below (qI HI0) hb);replace HK:=aM (KeepBut.trans (w:=w) qH (KeepBut.of_below hb g none) (.inl rfl));replace HB:=kH hb;clear eT;clear hb gu))
   go_ret
   exact⟨_,qW,by (with_reducible repeat (first|apply Kd.N_alloc|apply Kd.N_drewN|apply Kd.N_drew));exact Kd.N_mono lT.out (fun _ hk=>hk.1),qI HI0,qB,qH⟩
theorem Sbt.step (k:Nat) (ih:∀ m_,m_ < k->Sbt.stmt m_) (aG:∀ m_,m_ < k->Sbx.stmt m_) (aN:∀ m_,m_ < k->Sbu.stmt m_) (aH:∀ m_,m_ < k->Sbv.stmt m_):Sbt.stmt k:=by
 intro g af ay a1 a2 a3 a4 r1 r2 w0 w hI hB h
 cases k with
 | zero=>exact absurd h (by simp [Sbt.f])
 | succ k =>
 simp only [Sbt.f] at h
 have HI0:=aM hI
 have HK:=aM (KeepBut.refl w g none)
 have HL:=aM hB.size
 clear hI
 have HW0:=aM hB.size
 have HB:=aM hB
 clear hB
 have H:(Sbt.l0 k a1 a2 a3 a4 (([]:List (S92))) 0 af ay)=some (r1,r2):=h
 clear h
 obtain⟨ou,eU⟩:=ky ((([]:List (S92))):List (S92))
 first|replace H:=kz eU H|rw [<- eU.out] at H
 have H':=aM H
 clear H
 go_enter Tryz.func73,Tryz.ntmps73
 go_wp2_with (first|((with_reducible refine jd 13 rfl ?_);refine Kd.N_lit k92 _ 92 ?hg (N':=13) ?hd (xs:=([]:List (S92))) (inner:=[]) (ok:=(fun k_=>(w.heap.size<=k_)/\k_≠g)) (okp:=(fun k_=>(w.heap.size<=k_)/\k_≠g)) ?hr ?hp (fun _ hk=>hk) ((show ∀ k_,w.heap.size<=k_->(fun k_=>(w.heap.size<=k_)/\k_≠g) k_ from fun k_ hk=>⟨(Nat.le_trans (keep_size (w:=w) (g:=g) (row:=none) qH) hk),Saa.fresh (qI HI0) k_ hk⟩) _ (Nat.le_refl _)) (Below.refl _ _) (Nat.le_refl _) (by simp) ?_;(case hd=>rfl);(case hg=>rfl);(case hr=>first|(go_simp;done)|(go_simp;rfl));(case hp=>exact (Reps.none _ _));intro rD w6 lU hb hg_ hnew_;clear hg_ hnew_;(first|rw [<- eU.out] at lU|(simp only [Int.reduceToNat] at lU;rw [<- eU.out] at lU));have lV:=aM (Kd.N_lower lU (keep_size (w:=w) (g:=g) (row:=none) qH));replace HI0:=aM (Saa.below (qI HI0) hb);replace HK:=aM (KeepBut.trans (w:=w) qH (KeepBut.of_below hb g none) (.inl rfl));replace HB:=kH hb;clear hb lU))
 go_loopg [11,12] k (fun kq v11 v12 w'=>∃ (bQ:List (S92)) (gz:Int) (bD:Int),v12 = .int .i64 gz/\Aside0 (Sbt.l0 kq a1 a2 a3 a4 bQ gz af bD=some (r1,r2))/\Aside0 (kq<=k)/\Aside0 (Kd.N k92 92 w' w.heap.size (fun k_=>(w.heap.size<=k_)/\k_≠g) v11 bQ)/\Aside0 (Saa w0 w' g af bD)/\Aside0 (KeepBut w w' g none)/\Aside0 (Below w0.heap.size w0 w'))
 case atStart=>exact⟨(ou),(0),(ay),qZ,H',⟨Nat.le_refl _⟩,⟨qN lV⟩,⟨qI HI0⟩,⟨qH⟩,⟨qB⟩⟩
 clear H'
 obtain⟨bQ,gz,bD,rfl,HA,ow,bA,HI0,HK,HB⟩:=hrel
 rcases gk with _|k1
 ·exact absurd HA.out (by simp [Sbt.l0])
 have H:=HA.out
 clear HA
 simp only [Sbt.l0] at H
 replace H:=jD H;rcases H with ⟨bR,H⟩ | ⟨bR,H⟩
 ·obtain⟨⟨iL,oz⟩,A9,H⟩:=qE H
  try dsimp only at H
  replace H:=jL H;obtain⟨lW,H⟩:=H
  obtain⟨rE,gB⟩:=ky ((bQ ++ iL):List (S92))
  first|replace H:=kz gB H|rw [<- gB.out] at H
  have H':=aM H
  clear H
  go_wp2_with (first|((with_reducible refine jc 82 24 rfl rfl ?_);refine jG Tryz.func82 #[.pointer (some ⟨g,0,none⟩),.int .i64 a1,.int .i64 a2,.bool a4] ?_;refine (aG k1 (by have:=ow.out;omega) g af bD a1 a2 a4 iL oz w0 _ ?ah ?ai A9.out).mono ?_;(case ah=>exact qI HI0);(case ai=>exact qB);rintro e rF ⟨rG,rfl,gK,hi,hb,hk⟩;refine⟨_,rfl,?_⟩;have eX:=aM (Kd.N_lower (Kd.N_mono (ok':=fun k_=>(w.heap.size<=k_)/\some k_≠(u11:Value).ownBlock/\k_≠g) gK (fun k_ hk_=>⟨(Nat.le_trans (keep_size (w:=w) (g:=g) (row:=none) qH) hk_),(Kd.fresh' (Kd.N_lt (qN bA)) k_ hk_),(Saa.fresh (qI HI0) k_ hk_)⟩)) (keep_size (w:=w) (g:=g) (row:=none) qH));replace bA:=aM (Kd.N_mono (Kd.N_told (Kd.N_oldK (Kd.N_mono (ok:=fun k_=>(((w.heap.size<=k_))/\k_≠g)) (qN bA) (fun k_ hk_=>(⟨hk_,hk_.2⟩:_/\k_≠g))) hk) (by first|exact Kd.N_base gK|exact Kd.R_base gK)) (fun _ h_=>h_.1));replace HK:=aM (KeepBut.trans (w:=w) qH hk (.inl rfl));replace HB:=aM hb;replace HI0:=aM hi;clear hb hk hi;(try clear gK);obtain⟨rH,rJ,oC⟩:=Kd.N_slice eX.out;subst oC)|((with_reducible refine gate_builtin (b:=.append) (xs:=#[.tmp 19,.tmp 24]) rfl ?_);at_builtin;refine Kd.N_append_rows k92 w.heap.size rfl (.tmp 19) (.tmp 24) 75 92 (.agg #[(.int .i64 0),(.int .i64 0),(.int .i64 0),(.int .i64 0),(.int .i64 0),(.slice none 0 0),(.slice none 0 0),(.slice none 0 0)]) 112 rfl Tryz.underlying75 info92 rfl (by decide) (by omega) u11 bQ iL _ _ _ (fun k_=>(w.heap.size<=k_)/\k_≠g) (fun k_=>((fun k_=>(w.heap.size<=k_)/\k_≠g)) k_/\some k_≠(u11:Value).ownBlock) rfl rfl ?aO ?aR (fun _ hk=>hk) ?aF (Below.refl _ _) ?aS ?aL ?_;(case aR=>exact (by skip;exact Kd.N_F (Kd.N_mono (ok':=(fun k_=>((fun k_=>(w.heap.size<=k_)/\k_≠g)) k_/\some k_≠(u11:Value).ownBlock)) (eX.out) (fun k_ hk=>⟨⟨hk.1,hk.2.2⟩,hk.2.1⟩))));(case aF=>exact (fun k_ hk=>⟨(Nat.le_trans (keep_size (w:=w) (g:=g) (row:=none) qH) hk),Saa.fresh (qI HI0) k_ hk⟩));(case aO=>exact (by (with_reducible repeat (first|apply Kd.N_alloc|apply Kd.N_drewN|apply Kd.N_drew));exact Kd.N_mono bA.out (fun _ hk=>⟨hk.1.1,hk.1.2⟩)));(case aS=>exact (keep_size (w:=w) (g:=g) (row:=none) qH));(case aL=>have:=lW.out;omega);intro rM rO ho hb hg hat;rw [<- gB.out] at ho;have lX:=aM ho;replace HI0:=aM (Saa.grown (qI HI0) hg (Saa.own_neN HI0.out bA.out (by decide)));replace eX:=aM (Kd.N_afterv (ok:=(fun k_=>(w.heap.size<=k_)/\k_≠g)) (by (with_reducible repeat (first|apply Kd.N_alloc|apply Kd.N_drewN|apply Kd.N_drew));exact Kd.N_mono eX.out (fun _ hk=>⟨⟨hk.1,hk.2.2⟩,hk.2.1⟩)) hg hat);replace HB:=aM (below_weaken qB HL.out hb);replace HK:=aM (KeepBut.trans (w:=w) qH (KeepBut.of_grown hg g) (Kd.N_base2 bA.out));clear bA;clear ho hb hg hat))
  go_roundg k1
  case measure=>have:=ow.out;omega
  exact⟨_,_,_,qZ,H',⟨by have:=ow.out;omega⟩,⟨qN lX⟩,⟨qI HI0⟩,⟨qH⟩,⟨qB⟩⟩
 obtain⟨rfl,rfl⟩:=oJ2 H
 go_wp2
 go_ret
 exact⟨_,qW,by (with_reducible repeat (first|apply Kd.N_alloc|apply Kd.N_drewN|apply Kd.N_drew));exact Kd.N_mono bA.out (fun _ hk=>hk.1),qI HI0,qB,qH⟩
theorem Sbu.grp.calls (k:Nat):Sbu.stmt k/\Sbv.stmt k/\Sbx.stmt k/\Sbt.stmt k:=by
 induction k using Nat.strongRecOn with
 | _ k ih=>exact⟨Sbu.step k (fun m_ h_=>(ih m_ h_).2.2.2) (fun m_ h_=>(ih m_ h_).2.2.1) (fun m_ h_=>(ih m_ h_).1) (fun m_ h_=>(ih m_ h_).2.1),Sbv.step k (fun m_ h_=>(ih m_ h_).2.2.2) (fun m_ h_=>(ih m_ h_).2.2.1) (fun m_ h_=>(ih m_ h_).1) (fun m_ h_=>(ih m_ h_).2.1),Sbx.step k (fun m_ h_=>(ih m_ h_).2.2.2) (fun m_ h_=>(ih m_ h_).2.2.1) (fun m_ h_=>(ih m_ h_).1) (fun m_ h_=>(ih m_ h_).2.1),Sbt.step k (fun m_ h_=>(ih m_ h_).2.2.2) (fun m_ h_=>(ih m_ h_).2.2.1) (fun m_ h_=>(ih m_ h_).1) (fun m_ h_=>(ih m_ h_).2.1)⟩
theorem Sbt.calls (k:Nat):Sbt.stmt k:=(Sbu.grp.calls k).2.2.2
def Sby.l0:Nat->List (S92)->List Int->Int->Option ((List (S92)) × Int)
 | 0,_,_,_=>none
 | k+1,x5,x1000,aA=>(SaC.f k x5).bind fun au=>(if au > 16 then (if 0<=(wrap64 ((x5.length:Int) - 1)) then (if (wrap64 ((x5.length:Int) - 1))<=(x5.length:Int) then (Sby.l0 k (x5.take ((wrap64 ((x5.length:Int) - 1)):Int).toNat) x1000 aA) else (none)) else (none)) else (some (x5,aA)))
def Sby.f (k:Nat) (af:List Int) (aj a1:Int):Option ((List (S92)) × Int):=(Sbo.f k af aj 6).bind fun aC=>((Sbt.f k af aC.2 a1 3 (wrap64 (1+aC.1)) true).bind fun aD=>(Sby.l0 k aD.1 af aD.2))
theorem Sby.calls (k g:Nat) (af:List Int) (aj a1:Int) (r1:List (S92)) (r2:Int) (w0 w:World) (hI:Saa w0 w g af aj) (hB:Below w0.heap.size w0 w) (h:Sby.f k af aj a1=some (r1,r2)) :
  Calls Tryz.prog 63 #[.pointer (some ⟨g,0,none⟩),.int .i64 a1] w fun e w'=>∃ bv:Value,e = .returned (bv)/\Kd.N k92 92 w' w.heap.size (fun k_=>(w.heap.size<=k_)) bv r1/\Saa w0 w' g af r2/\Below w0.heap.size w0 w'/\KeepBut w w' g none:=by
 have HI0:=aM hI
 have HK:=aM (KeepBut.refl w g none)
 have HL:=aM hB.size
 clear hI
 have HW0:=aM hB.size
 have HB:=aM hB
 clear hB
 have H:=h;unfold Sby.f at H
 clear h
 obtain⟨⟨aH,aJ⟩,A3,H⟩:=qE H
 try dsimp only at H
 obtain⟨⟨aK,av⟩,A4,H⟩:=qE H
 try dsimp only at H
 have H':=aM H
 clear H
 go_enter Tryz.func63,Tryz.ntmps63
 go_wp2_with (first|((with_reducible refine jc 52 9 rfl rfl ?_);refine jG Tryz.func52 #[.pointer (some ⟨g,0,none⟩),.int .i64 6] ?_;refine (Sbo.calls k g af aj 6 aH aJ w0 _ ?ag ?ah A3.out).mono ?_;(case ag=>exact qI HI0);(case ah=>exact qB);rintro e w5 ⟨rfl,hi,hb,hk⟩;refine⟨_,rfl,?_⟩;replace HK:=kI hk;replace HB:=aM hb;replace HI0:=aM hi;clear hb hk hi)|((with_reducible refine jc 73 11 rfl rfl ?_);refine jG Tryz.func73 #[.pointer (some ⟨g,0,none⟩),.int .i64 a1,.int .i64 3,.int .i64 (wrap64 (1+aH)),.bool true] ?_;refine (Sbt.calls k g af aJ a1 3 (wrap64 (1+aH)) true aK av w0 _ ?ag ?ah A4.out).mono ?_;(case ag=>exact qI HI0);(case ah=>exact qB);rintro e w6 ⟨bG,rfl,ho0,hi,hb,hk⟩;refine⟨_,rfl,?_⟩;have aN:=aM (Kd.N_lower (Kd.N_mono (ok':=fun k_=>(w.heap.size<=k_)/\k_≠g) ho0 (fun k_ hk_=>⟨(Nat.le_trans (keep_size (w:=w) (g:=g) (row:=none) qH) hk_),(Saa.fresh (qI HI0) k_ hk_)⟩)) (keep_size (w:=w) (g:=g) (row:=none) qH));replace HK:=kI hk;replace HB:=aM hb;replace HI0:=aM hi;clear hb hk hi;(try clear ho0)))
 go_loopg [5] k (fun kq v5 w'=>∃ (aa:List (S92)),Aside0 (Sby.l0 kq aa af av=some (r1,r2))/\Aside0 (kq<=k)/\Aside0 (Kd.N k92 92 w' w.heap.size (fun k_=>(w.heap.size<=k_)/\k_≠g) v5 aa)/\Aside0 (Saa w0 w' g af av)/\Aside0 (KeepBut w w' g none)/\Aside0 (Below w0.heap.size w0 w'))
 case atStart=>exact⟨(aK),H',⟨Nat.le_refl _⟩,⟨qN aN⟩,⟨qI HI0⟩,⟨qH⟩,⟨qB⟩⟩
 clear H'
 obtain⟨aa,HA,bz,ae,HI0,HK,HB⟩:=hrel
 rcases gk with _|k1
 ·exact absurd HA.out (by simp [Sby.l0])
 have H:=HA.out
 clear HA
 simp only [Sby.l0] at H
 obtain⟨au,A7,H⟩:=qE H
 try dsimp only at H
 replace H:=jD H;rcases H with ⟨aX,H⟩ | ⟨aX,H⟩
 ·obtain⟨ax,ay⟩:∃ j_:Int,(wrap64 ((aa.length:Int) - 1))=j_:=⟨_,rfl⟩
  replace H:(if 0<=(ax) then (if (ax)<=(aa.length:Int) then (Sby.l0 k1 (aa.take ((ax):Int).toNat) af av) else (none)) else (none))=some (r1,r2):=by first|(rw [ay] at H;exact H)|(simp only [ay] at H ⊢;exact H)
  (try rw [ay] at A7)
  have bA:(IntKind.i64.wrap ((aa.length:Int) - 1))=ax:=(i64_w _).trans ay
  replace H:=jJ H;obtain⟨bB,bC,H⟩:=H
  replace H:=jJ H;obtain⟨bD,bE,H⟩:=H
  obtain⟨aY,ai⟩:=ky ((aa.take ((ax):Int).toNat):List (S92))
  first|replace H:=kz ai H|rw [<- ai.out] at H
  have H':=aM H
  clear H
  obtain⟨aQ,aT,aZ⟩:=Kd.N_slice ae.out
  subst aZ
  go_wp2_with (first|((with_reducible refine jc 74 13 rfl rfl ?_);refine jG Tryz.func74 #[.slice aQ aa.length aT] ?_;refine (SaC.calls k1 _ _ aa au _ ?ag ?ah A7.out).mono ?_;(case ag=>exact kC (Kd.N_reads' ae.out).2.2);(case ah=>exact (Kd.N_reads' ae.out).2.1);rintro e bg ⟨rfl,hb⟩;refine⟨_,rfl,?_⟩;replace ae:=aM (Kd.N_below (qN ae) hb);replace HI0:=aM (Saa.below (qI HI0) hb);replace HK:=aM (KeepBut.trans qH (KeepBut.of_below hb g none) (.inl rfl));replace HB:=kH hb;clear hb;have bi:((ax):Int)<=((aa.length:Int):Int):=qD;obtain⟨i014,aG,_,aU,_⟩:=info_parts info92;have aI:=cut_to (P:=Tryz.prog) 75 92 .i64 Tryz.underlying75 aG aQ aa.length aT (ax) (qD) bi (Kd.N_reads' ae.out).2.1;have az:=Kd.N_take (m:=((ax):Int).toNat) ae.out (by omega);have aV:aY.length=((ax):Int).toNat:=(by rw [ai.out,List.length_take];omega);rw [<- ai.out] at az;rw [<- aV] at az aI;clear aV aG aU ae;have aW:=aM az;clear az;replace bi:=eq_true bi))
  go_roundg k1
  case measure=>have:=bz.out;omega
  exact⟨_,H',⟨by have:=bz.out;omega⟩,⟨qN aW⟩,⟨qI HI0⟩,⟨qH⟩,⟨qB⟩⟩
 obtain⟨rfl,rfl⟩:=oJ2 H
 obtain⟨bn,bq,bu⟩:=Kd.N_slice ae.out
 subst bu
 go_wp2_with (first|((with_reducible refine jc 74 13 rfl rfl ?_);refine jG Tryz.func74 #[.slice bn aa.length bq] ?_;refine (SaC.calls k1 _ _ aa au _ ?ag ?ah A7.out).mono ?_;(case ag=>exact kC (Kd.N_reads' ae.out).2.2);(case ah=>exact (Kd.N_reads' ae.out).2.1);rintro e bg ⟨rfl,hb⟩;refine⟨_,rfl,?_⟩;replace ae:=aM (Kd.N_below (qN ae) hb);replace HI0:=aM (Saa.below (qI HI0) hb);replace HK:=aM (KeepBut.trans qH (KeepBut.of_below hb g none) (.inl rfl));replace HB:=kH hb;clear hb))
 go_ret
 exact⟨_,qW,by (with_reducible repeat (first|apply Kd.N_alloc|apply Kd.N_drewN|apply Kd.N_drew));exact Kd.N_mono ae.out (fun _ hk=>hk.1),qI HI0,qB,qH⟩
def SaH.f (a0:Int) (a1:Bool):Option (Bool):=if a1=true then ((Sbm.f a0 0 11).bind fun aa=>(some aa)) else (some (a0 == 0))
theorem SaH.calls (a0:Int) (a1 r:Bool) (w:World) (h:SaH.f a0 a1=some r) :
  Calls Tryz.prog 76 #[.int .i64 a0,.bool a1] w fun e w'=>e = .returned (.bool r)/\Drawn0 w w':=by
 have H:=h;unfold SaH.f at H
 clear h
 replace H:=jB H;rcases H with ⟨rfl,H⟩ | ⟨rfl,H⟩
 ·obtain⟨aa,A4,H⟩:=qE H
  try dsimp only at H
  obtain rfl:=oJ H
  go_enter Tryz.func76,Tryz.ntmps76
  go_wp2_with (first|((with_reducible refine jc 46 7 rfl rfl ?_);refine jG Tryz.func46 #[.int .i64 a0,.int .i64 0,.int .i64 11] ?_;refine (Sbm.calls a0 0 11 aa _ A4.out).mono ?_;rintro e w' ⟨rfl,⟨nd,rfl⟩⟩;refine⟨_,rfl,?_⟩))
  go_ret
  exact⟨qZ,qU⟩
 obtain rfl:=oJ H
 go_enter Tryz.func76,Tryz.ntmps76
 go_wp2
 go_ret
 exact⟨qZ,qU⟩
def SaI.f (ag aa ae af ah:Int) (a1 a2 a3:Bool):Option (Bool):=(SaH.f aa a1).bind fun ai=>(if ai=true then ((SaH.f ae a2).bind fun aj=>(if aj=true then ((SaH.f af a3).bind fun au=>(some au)) else (some false))) else (some false))
theorem SaI_0 {G:Prop} (h:G:=by
  go_enter Tryz.func65,Tryz.ntmps65
  go_wp2_with (first|((with_reducible refine jd 4 rfl ?_);refine jX _ 27 ?_;intro ax hg az hbox hb;have av:=aM hbox;have ay:=kG hg;replace HB:=kH hb;clear hb hbox hg;have aA:=jz5 av)|((with_reducible refine jc 76 12 rfl rfl ?_);refine jG Tryz.func76 #[.int .i64 aa,.bool a1] ?_;refine (SaH.calls _ _ _ _ (Aside0.out (by assumption))).mono ?_;rintro e w' ⟨rfl,⟨nd,rfl⟩⟩;refine⟨_,rfl,?_⟩)|(go_at_call 76;(with_reducible refine (SaH.calls _ _ _ _ (Aside0.out (by assumption))).mono ?_);rintro e w' ⟨rfl,⟨nd,rfl⟩⟩))
  go_ret
  exact⟨qW,qB⟩):G:=h
theorem SaI.calls (ag aa ae af ah:Int) (a1 a2 a3 r:Bool) (w:World) (h:SaI.f ag aa ae af ah a1 a2 a3=some r) :
  Calls Tryz.prog 65 #[.agg #[.int .i64 ag,.int .i64 aa,.int .i64 ae,.int .i64 af,.int .i64 ah],.bool a1,.bool a2,.bool a3] w fun e w'=>e = .returned (.bool r)/\Below w.heap.size w w':=by
 have aC:=Tryz.underlying27
 have HB:=aM (Below.refl w.heap.size w)
 have H:=h;unfold SaI.f at H
 clear h
 obtain⟨ai,A5,H⟩:=qE H
 try dsimp only at H
 replace H:=jB H;rcases H with ⟨rfl,H⟩ | ⟨rfl,H⟩
 ·obtain⟨aj,A7,H⟩:=qE H
  try dsimp only at H
  replace H:=jB H;rcases H with ⟨rfl,H⟩ | ⟨rfl,H⟩
  ·obtain⟨au,A9,H⟩:=qE H
   try dsimp only at H
   obtain rfl:=oJ H
   exact SaI_0
  obtain rfl:=oJ H
  exact SaI_0
 obtain rfl:=oJ H
 exact SaI_0
def Say.f (a0:Int):Option (Bool):=(Sbm.f a0 (-2147483648) 2147483647).bind fun aa=>(some aa)
theorem Say.calls (a0:Int) (r:Bool) (w:World) (h:Say.f a0=some r) :
  Calls Tryz.prog 66 #[.int .i64 a0] w fun e w'=>e = .returned (.bool r)/\Drawn0 w w':=by
 have H:=h;unfold Say.f at H
 clear h
 obtain⟨aa,A2,H⟩:=qE H
 try dsimp only at H
 obtain rfl:=oJ H
 go_enter Tryz.func66,Tryz.ntmps66
 go_wp2_with (first|((with_reducible refine jc 46 4 rfl rfl ?_);refine jG Tryz.func46 #[.int .i64 a0,.int .i64 (-2147483648),.int .i64 2147483647] ?_;refine (Sbm.calls _ _ _ _ _ (Aside0.out (by assumption))).mono ?_;rintro e w' ⟨rfl,⟨nd,rfl⟩⟩;refine⟨_,rfl,?_⟩))
 go_ret
 exact⟨qZ,qU⟩
def Sav.f (af ag ah ai ae a1:Int):Option (Bool):=if af=1 then ((SaI.f af ag ah ai ae true false false).bind fun av=>(if av=true then ((Say.f ae).bind fun ax=>(some ax)) else (some false))) else (if af=2 then ((SaI.f af ag ah ai ae true true false).bind fun ay=>(if ay=true then (some (ae == 0)) else (some false))) else (if af=3 then ((SaI.f af ag ah ai ae true true true).bind fun az=>(if az=true then ((Sar.f ae).bind fun aA=>(some aA)) else (some false))) else (if af=4 then ((SaI.f af ag ah ai ae false false false).bind fun aC=>(if aC=true then (if ae>=0 then (some (decide (ae < a1))) else (some false)) else (some false))) else (if af=5 then ((SaI.f af ag ah ai ae false true false).bind fun aD=>(if aD=true then (if ae>=0 then (some (decide (ae < a1))) else (some false)) else (some false))) else (if af=6 then ((SaI.f af ag ah ai ae false true false).bind fun aG=>(if aG=true then ((Sbm.f ae 0 2).bind fun aH=>(some aH)) else (some false))) else (if af=7 then ((SaI.f af ag ah ai ae true false false).bind fun aI=>(if aI=true then ((Sbm.f ae 0 2).bind fun aJ=>(some aJ)) else (some false))) else (if af=9 then ((SaI.f af ag ah ai ae false true false).bind fun aK=>(if aK=true then (some (ae == 0)) else (some false))) else (if af=8 then ((SaI.f af ag ah ai ae false false false).bind fun aN=>(if aN=true then (some (ae == 0)) else (some false))) else (if af=10 then ((SaI.f af ag ah ai ae false false false).bind fun aQ=>(if aQ=true then (some (ae == 0)) else (some false))) else (some false))))))))))
theorem Sav_0 {G:Prop} (h:G:=by
  go_enter Tryz.func54,Tryz.ntmps54
  go_wp2_with (first|((with_reducible refine jd 2 rfl ?_);refine jX _ 27 ?_;intro bG hg bI hbox hb;have aa:=aM hbox;have bH:=kG hg;replace HB:=kH hb;clear hb hbox hg;have bJ:=jz5 aa)|((with_reducible refine jc 65 10 rfl rfl ?_);refine jG Tryz.func65 #[.agg #[.int .i64 af,.int .i64 ag,.int .i64 ah,.int .i64 ai,.int .i64 ae],.bool true,.bool false,.bool false] ?_;refine (SaI.calls _ _ _ _ _ _ _ _ _ _ (Aside0.out (by assumption))).mono ?_;rintro e bK ⟨rfl,hb⟩;refine⟨_,rfl,?_⟩;replace aa:=kB aa hb;replace HB:=kH hb;clear hb;have bL:=jz5 aa)|(go_at_call 66;(with_reducible refine (Say.calls _ _ _ (Aside0.out (by assumption))).mono ?_);rintro e w' ⟨rfl,⟨nd,rfl⟩⟩)|((with_reducible refine jc 65 19 rfl rfl ?_);refine jG Tryz.func65 #[.agg #[.int .i64 af,.int .i64 ag,.int .i64 ah,.int .i64 ai,.int .i64 ae],.bool true,.bool true,.bool false] ?_;refine (SaI.calls _ _ _ _ _ _ _ _ _ _ (Aside0.out (by assumption))).mono ?_;rintro e bM ⟨rfl,hb⟩;refine⟨_,rfl,?_⟩;replace aa:=kB aa hb;replace HB:=kH hb;clear hb;have bN:=jz5 aa)|((with_reducible refine jc 65 28 rfl rfl ?_);refine jG Tryz.func65 #[.agg #[.int .i64 af,.int .i64 ag,.int .i64 ah,.int .i64 ai,.int .i64 ae],.bool true,.bool true,.bool true] ?_;refine (SaI.calls _ _ _ _ _ _ _ _ _ _ (Aside0.out (by assumption))).mono ?_;rintro e bO ⟨rfl,hb⟩;refine⟨_,rfl,?_⟩;replace aa:=kB aa hb;replace HB:=kH hb;clear hb;have bP:=jz5 aa)|(go_at_call 67;(with_reducible refine (Sar.calls _ _ _ (Aside0.out (by assumption))).mono ?_);rintro e w' ⟨rfl,⟨nd,rfl⟩⟩)|((with_reducible refine jc 65 37 rfl rfl ?_);refine jG Tryz.func65 #[.agg #[.int .i64 af,.int .i64 ag,.int .i64 ah,.int .i64 ai,.int .i64 ae],.bool false,.bool false,.bool false] ?_;refine (SaI.calls _ _ _ _ _ _ _ _ _ _ (Aside0.out (by assumption))).mono ?_;rintro e bQ ⟨rfl,hb⟩;refine⟨_,rfl,?_⟩;replace aa:=kB aa hb;replace HB:=kH hb;clear hb;have bR:=jz5 aa)|((with_reducible refine jc 65 52 rfl rfl ?_);refine jG Tryz.func65 #[.agg #[.int .i64 af,.int .i64 ag,.int .i64 ah,.int .i64 ai,.int .i64 ae],.bool false,.bool true,.bool false] ?_;refine (SaI.calls _ _ _ _ _ _ _ _ _ _ (Aside0.out (by assumption))).mono ?_;rintro e bS ⟨rfl,hb⟩;refine⟨_,rfl,?_⟩;replace aa:=kB aa hb;replace HB:=kH hb;clear hb;have bT:=jz5 aa)|((with_reducible refine jc 65 67 rfl rfl ?_);refine jG Tryz.func65 #[.agg #[.int .i64 af,.int .i64 ag,.int .i64 ah,.int .i64 ai,.int .i64 ae],.bool false,.bool true,.bool false] ?_;refine (SaI.calls _ _ _ _ _ _ _ _ _ _ (Aside0.out (by assumption))).mono ?_;rintro e bU ⟨rfl,hb⟩;refine⟨_,rfl,?_⟩;replace aa:=kB aa hb;replace HB:=kH hb;clear hb;have bV:=jz5 aa)|(go_at_call 46;(with_reducible refine (Sbm.calls _ _ _ _ _ (Aside0.out (by assumption))).mono ?_);rintro e w' ⟨rfl,⟨nd,rfl⟩⟩)|((with_reducible refine jc 65 76 rfl rfl ?_);refine jG Tryz.func65 #[.agg #[.int .i64 af,.int .i64 ag,.int .i64 ah,.int .i64 ai,.int .i64 ae],.bool true,.bool false,.bool false] ?_;refine (SaI.calls _ _ _ _ _ _ _ _ _ _ (Aside0.out (by assumption))).mono ?_;rintro e bW ⟨rfl,hb⟩;refine⟨_,rfl,?_⟩;replace aa:=kB aa hb;replace HB:=kH hb;clear hb;have bX:=jz5 aa)|((with_reducible refine jc 65 85 rfl rfl ?_);refine jG Tryz.func65 #[.agg #[.int .i64 af,.int .i64 ag,.int .i64 ah,.int .i64 ai,.int .i64 ae],.bool false,.bool true,.bool false] ?_;refine (SaI.calls _ _ _ _ _ _ _ _ _ _ (Aside0.out (by assumption))).mono ?_;rintro e bY ⟨rfl,hb⟩;refine⟨_,rfl,?_⟩;replace aa:=kB aa hb;replace HB:=kH hb;clear hb;have bZ:=jz5 aa)|((with_reducible refine jc 65 95 rfl rfl ?_);refine jG Tryz.func65 #[.agg #[.int .i64 af,.int .i64 ag,.int .i64 ah,.int .i64 ai,.int .i64 ae],.bool false,.bool false,.bool false] ?_;refine (SaI.calls _ _ _ _ _ _ _ _ _ _ (Aside0.out (by assumption))).mono ?_;rintro e cz ⟨rfl,hb⟩;refine⟨_,rfl,?_⟩;replace aa:=kB aa hb;replace HB:=kH hb;clear hb;have cB:=jz5 aa))
  go_ret
  exact⟨qW,qB⟩):G:=h
theorem Sav.calls (af ag ah ai ae a1:Int) (r:Bool) (w:World) (h:Sav.f af ag ah ai ae a1=some r) :
  Calls Tryz.prog 54 #[.agg #[.int .i64 af,.int .i64 ag,.int .i64 ah,.int .i64 ai,.int .i64 ae],.int .i64 a1] w fun e w'=>e = .returned (.bool r)/\Below w.heap.size w w':=by
 have cK:=Tryz.underlying27
 have HB:=aM (Below.refl w.heap.size w)
 have H:=h;unfold Sav.f at H
 clear h
 replace H:=jE H;rcases H with ⟨bE,bF,H⟩ | ⟨c3,bE,bF,H⟩
 ·obtain⟨av,A4,H⟩:=qE H
  try dsimp only at H
  replace H:=jB H;rcases H with ⟨rfl,H⟩ | ⟨rfl,H⟩
  ·obtain⟨ax,A6,H⟩:=qE H
   try dsimp only at H
   obtain rfl:=oJ H
   exact Sav_0
  obtain rfl:=oJ H
  exact Sav_0
 replace H:=jE H;rcases H with ⟨aT,aU,H⟩ | ⟨c14,aT,aU,H⟩
 ·obtain⟨ay,df,H⟩:=qE H
  try dsimp only at H
  replace H:=jB H;rcases H with ⟨rfl,H⟩ | ⟨rfl,H⟩
  ·obtain rfl:=oJ H
   exact Sav_0
  obtain rfl:=oJ H
  exact Sav_0
 replace H:=jE H;rcases H with ⟨aV,aW,H⟩ | ⟨c24,aV,aW,H⟩
 ·obtain⟨az,dh,H⟩:=qE H
  try dsimp only at H
  replace H:=jB H;rcases H with ⟨rfl,H⟩ | ⟨rfl,H⟩
  ·obtain⟨aA,di,H⟩:=qE H
   try dsimp only at H
   obtain rfl:=oJ H
   exact Sav_0
  obtain rfl:=oJ H
  exact Sav_0
 replace H:=jE H;rcases H with ⟨aX,aY,H⟩ | ⟨dn,aX,aY,H⟩
 ·obtain⟨aC,dw,H⟩:=qE H
  try dsimp only at H
  replace H:=jB H;rcases H with ⟨rfl,H⟩ | ⟨rfl,H⟩
  ·replace H:=jD H;rcases H with ⟨aZ,H⟩ | ⟨aZ,H⟩
   ·obtain rfl:=oJ H
    exact Sav_0
   obtain rfl:=oJ H
   exact Sav_0
  obtain rfl:=oJ H
  exact Sav_0
 replace H:=jE H;rcases H with ⟨bg,bi,H⟩ | ⟨dx,bg,bi,H⟩
 ·obtain⟨aD,dz,H⟩:=qE H
  try dsimp only at H
  replace H:=jB H;rcases H with ⟨rfl,H⟩ | ⟨rfl,H⟩
  ·replace H:=jD H;rcases H with ⟨bn,H⟩ | ⟨bn,H⟩
   ·obtain rfl:=oJ H
    exact Sav_0
   obtain rfl:=oJ H
   exact Sav_0
  obtain rfl:=oJ H
  exact Sav_0
 replace H:=jE H;rcases H with ⟨bq,bu,H⟩ | ⟨dA,bq,bu,H⟩
 ·obtain⟨aG,dB,H⟩:=qE H
  try dsimp only at H
  replace H:=jB H;rcases H with ⟨rfl,H⟩ | ⟨rfl,H⟩
  ·obtain⟨aH,dC,H⟩:=qE H
   try dsimp only at H
   obtain rfl:=oJ H
   exact Sav_0
  obtain rfl:=oJ H
  exact Sav_0
 replace H:=jE H;rcases H with ⟨bv,bz,H⟩ | ⟨c76,bv,bz,H⟩
 ·obtain⟨aI,dD,H⟩:=qE H
  try dsimp only at H
  replace H:=jB H;rcases H with ⟨rfl,H⟩ | ⟨rfl,H⟩
  ·obtain⟨aJ,dE,H⟩:=qE H
   try dsimp only at H
   obtain rfl:=oJ H
   exact Sav_0
  obtain rfl:=oJ H
  exact Sav_0
 replace H:=jE H;rcases H with ⟨bA,bB,H⟩ | ⟨c87,bA,bB,H⟩
 ·obtain⟨aK,dF,H⟩:=qE H
  try dsimp only at H
  replace H:=jB H;rcases H with ⟨rfl,H⟩ | ⟨rfl,H⟩
  ·obtain rfl:=oJ H
   exact Sav_0
  obtain rfl:=oJ H
  exact Sav_0
 replace H:=jE H;rcases H with ⟨bC,bD,H⟩ | ⟨dG,bC,bD,H⟩
 ·obtain⟨aN,dH,H⟩:=qE H
  try dsimp only at H
  replace H:=jB H;rcases H with ⟨rfl,H⟩ | ⟨rfl,H⟩
  ·obtain rfl:=oJ H
   exact Sav_0
  obtain rfl:=oJ H
  exact Sav_0
 replace H:=jE H;rcases H with ⟨aj,au,H⟩ | ⟨c107,aj,au,H⟩
 ·obtain⟨aQ,cO,H⟩:=qE H
  try dsimp only at H
  replace H:=jB H;rcases H with ⟨rfl,H⟩ | ⟨rfl,H⟩
  ·obtain rfl:=oJ H
   exact Sav_0
  obtain rfl:=oJ H
  exact Sav_0
 obtain rfl:=oJ H
 exact Sav_0
def Saf.l0:Nat->List (S27)->Int->Int->Option (Bool)
 | 0,_,_,_=>none
 | k+1,x0,x3,x4=>if x4 < x3 then (if 0<=x4 then (if x4 < (x0.length:Int) then ((Sav.f ((rd_T27 x0 x4).f0) ((rd_T27 x0 x4).f1) ((rd_T27 x0 x4).f2) ((rd_T27 x0 x4).f3) ((rd_T27 x0 x4).f4) x3).bind fun aY=>(if aY=true then (Saf.l0 k x0 x3 (wrap64 (x4+1))) else (some false))) else (none)) else (none)) else (if 0<=(wrap64 (x3 - 1)) then (if (wrap64 (x3 - 1)) < (x0.length:Int) then (if ((rd_T27 x0 (wrap64 (x3 - 1))).f0)=10 then (some true) else (some (((rd_T27 x0 (wrap64 (x3 - 1))).f0) == 4))) else (none)) else (none))
def Saf.f (k:Nat) (l0:List (S27)):Option (Bool):=(Sbm.f (l0.length:Int) 1 600).bind fun aZ=>(if aZ=true then (Saf.l0 k l0 (l0.length:Int) 0) else (some false))
theorem Saf.mono_l:∀ k,(∀ y0 y1 y2,LeO (Saf.l0 k y0 y1 y2) (Saf.l0 (k+1) y0 y1 y2))
 | 0=>fun _ _ _ r h=>by simp [Saf.l0] at h
 | k+1=>by
  have bF:=Saf.mono_l k
  intros;unfold Saf.l0;exact mM
theorem Saf.mono:∀ a0 k,LeO (Saf.f k a0) (Saf.f (k+1) a0):=by
 intro a0 k;have bF:=Saf.mono_l k;unfold Saf.f;exact mM
theorem Saf.calls (k:Nat) (A0:Option Addr) (c0:Nat) (l0:List (S27)) (r:Bool) (w:World) (hr0:Kd.C k27 w A0 l0.length l0) (hc0:l0.length<=c0) (h:Saf.f k l0=some r) :
  Calls Tryz.prog 36 #[.slice A0 l0.length c0] w fun e w'=>e = .returned (.bool r)/\Below w.heap.size w w':=by
 have bG:=Tryz.underlying27
 have bg:=aM hr0
 have bJ:=aM hc0
 clear hr0 hc0
 have HB:=aM (Below.refl w.heap.size w)
 have H:=h;unfold Saf.f at H
 clear h
 obtain⟨aZ,A2,H⟩:=qE H
 try dsimp only at H
 replace H:=jB H;rcases H with ⟨rfl,H⟩ | ⟨rfl,H⟩
 ·have H':=aM H
  clear H
  go_enter Tryz.func36,Tryz.ntmps36
  go_wp2_with (first|((with_reducible refine jc 46 8 rfl rfl ?_);refine jG Tryz.func46 #[.int .i64 (l0.length:Int),.int .i64 1,.int .i64 600] ?_;refine (Sbm.calls (l0.length:Int) 1 600 true _ A2.out).mono ?_;rintro e w' ⟨rfl,⟨nd,rfl⟩⟩;refine⟨_,rfl,?_⟩))
  go_loopg [4] k (fun kq v4 w'=>∃ (aa:Int),v4 = .int .i64 aa/\Aside0 (Saf.l0 kq l0 (l0.length:Int) aa=some r)/\Aside0 (kq<=k)/\Aside0 (Below w.heap.size w w'))
  case atStart=>exact⟨(0),qZ,H',⟨Nat.le_refl _⟩,⟨qB⟩⟩
  clear H'
  obtain⟨aa,rfl,HA,bC,HB⟩:=hrel
  rcases gk with _|k1
  ·exact absurd HA.out (by simp [Saf.l0])
  have H:=HA.out
  clear HA
  simp only [Saf.l0] at H
  replace H:=jD H;rcases H with ⟨bv,H⟩ | ⟨bv,H⟩
  ·replace H:=jI H;obtain⟨bH,H⟩:=H
   replace H:=jI H;obtain⟨bI,H⟩:=H
   obtain⟨aY,A7,H⟩:=qE H
   try dsimp only at H
   replace H:=jB H;rcases H with ⟨rfl,H⟩ | ⟨rfl,H⟩
   ·have H':=aM H
    clear H
    have aC:0<=(aa:Int):=qD
    have aD:aa < (l0.length:Int):=qD
    obtain⟨bi,aU,ae,af,ag,ah,ai⟩:=at_T27 bg.out aa aC aD
    cases aU
    replace ae:=kx HB ae
    replace af:=kx HB af
    replace ag:=kx HB ag
    replace ah:=kx HB ah
    replace ai:=kx HB ai
    replace aC:=eq_true aC
    replace aD:=eq_true aD
    go_wp2_with (first|((with_reducible refine jc 54 20 rfl rfl ?_);refine jG Tryz.func54 #[.agg #[.int .i64 ((rd_T27 l0 aa).f0),.int .i64 ((rd_T27 l0 aa).f1),.int .i64 ((rd_T27 l0 aa).f2),.int .i64 ((rd_T27 l0 aa).f3),.int .i64 ((rd_T27 l0 aa).f4)],.int .i64 (l0.length:Int)] ?_;refine (Sav.calls _ _ _ _ _ _ _ _ (Aside0.out (by assumption))).mono ?_;rintro e bz ⟨rfl,hb⟩;refine⟨_,rfl,?_⟩;replace HB:=kH hb;clear hb))
    go_roundg k1
    case measure=>have:=bC.out;omega
    exact⟨_,qZ,H',⟨by have:=bC.out;omega⟩,⟨qB⟩⟩
   obtain rfl:=oJ H
   have aC:0<=(aa:Int):=qD
   have aD:aa < (l0.length:Int):=qD
   obtain⟨bi,aU,ae,af,ag,ah,ai⟩:=at_T27 bg.out aa aC aD
   cases aU
   replace ae:=kx HB ae
   replace af:=kx HB af
   replace ag:=kx HB ag
   replace ah:=kx HB ah
   replace ai:=kx HB ai
   replace aC:=eq_true aC
   replace aD:=eq_true aD
   go_wp2_with (first|((with_reducible refine jc 54 20 rfl rfl ?_);refine jG Tryz.func54 #[.agg #[.int .i64 ((rd_T27 l0 aa).f0),.int .i64 ((rd_T27 l0 aa).f1),.int .i64 ((rd_T27 l0 aa).f2),.int .i64 ((rd_T27 l0 aa).f3),.int .i64 ((rd_T27 l0 aa).f4)],.int .i64 (l0.length:Int)] ?_;refine (Sav.calls _ _ _ _ _ _ _ _ (Aside0.out (by assumption))).mono ?_;rintro e bz ⟨rfl,hb⟩;refine⟨_,rfl,?_⟩;replace HB:=kH hb;clear hb))
   go_ret
   exact⟨qW,qB⟩
  obtain⟨aj,aA⟩:∃ j_:Int,(wrap64 ((l0.length:Int) - 1))=j_:=⟨_,rfl⟩
  replace H:(if 0<=(aj) then (if (aj) < (l0.length:Int) then (if ((rd_T27 l0 (aj)).f0)=10 then (some true) else (some (((rd_T27 l0 (aj)).f0) == 4))) else (none)) else (none))=some r:=by first|(rw [aA] at H;exact H)|(simp only [aA] at H ⊢;exact H)
  have bA:(IntKind.i64.wrap ((l0.length:Int) - 1))=aj:=(i64_w _).trans aA
  replace H:=jI H;obtain⟨bD,H⟩:=H
  replace H:=jI H;obtain⟨bE,H⟩:=H
  replace H:=jE H;rcases H with ⟨bn,bq,H⟩ | ⟨c14,bn,bq,H⟩
  ·obtain rfl:=oJ H
   have aG:0<=((aj):Int):=qD
   have aH:(aj) < (l0.length:Int):=qD
   obtain⟨aT,aV,au,av,ax,ay,az⟩:=at_T27 bg.out (aj) aG aH
   cases aV
   replace au:=kx HB au
   replace av:=kx HB av
   replace ax:=kx HB ax
   replace ay:=kx HB ay
   replace az:=kx HB az
   replace aG:=eq_true aG
   replace aH:=eq_true aH
   go_wp2
   go_ret
   exact⟨by first|rfl|(simp [errW_none,errW_some] <;> rfl)|(simp only [<- aA];first|rfl|(simp [errW_none,errW_some] <;> rfl))|(simp [*,errW_none,errW_some] <;> rfl),qB⟩
  obtain rfl:=oJ H
  have aG:0<=((aj):Int):=qD
  have aH:(aj) < (l0.length:Int):=qD
  obtain⟨aT,aV,au,av,ax,ay,az⟩:=at_T27 bg.out (aj) aG aH
  cases aV
  replace au:=kx HB au
  replace av:=kx HB av
  replace ax:=kx HB ax
  replace ay:=kx HB ay
  replace az:=kx HB az
  replace aG:=eq_true aG
  replace aH:=eq_true aH
  have aW:0<=((aj):Int):=qD
  have aX:(aj) < (l0.length:Int):=qD
  obtain⟨bu,bB,aI,aJ,aK,aN,aQ⟩:=at_T27 bg.out (aj) aW aX
  obtain rfl:aT=bu:=(by injection bB)
  replace aI:=kx HB aI
  replace aJ:=kx HB aJ
  replace aK:=kx HB aK
  replace aN:=kx HB aN
  replace aQ:=kx HB aQ
  replace aW:=eq_true aW
  replace aX:=eq_true aX
  go_wp2
  go_ret
  exact⟨by first|rfl|(simp [errW_none,errW_some] <;> rfl)|(simp only [<- aA];first|rfl|(simp [errW_none,errW_some] <;> rfl))|(simp [*,errW_none,errW_some] <;> rfl),qB⟩
 obtain rfl:=oJ H
 go_enter Tryz.func36,Tryz.ntmps36
 go_wp2_with (first|((with_reducible refine jc 46 8 rfl rfl ?_);refine jG Tryz.func46 #[.int .i64 (l0.length:Int),.int .i64 1,.int .i64 600] ?_;refine (Sbm.calls _ _ _ _ _ (Aside0.out (by assumption))).mono ?_;rintro e w' ⟨rfl,⟨nd,rfl⟩⟩;refine⟨_,rfl,?_⟩))
 go_ret
 exact⟨qW,qB⟩
def SaT.j0:Nat->Int->Bool->Int->Int->Int->Int->Int->Option (List Int)
 | 0,_,_,_,_,_,_,_=>none
 | k+1,x1,bK,xa,xb,xc,xd,xe=>if bK=true then (some (([xe,wrap64 (x1+1)]:List Int))) else (if xa=5 then (if xe > (wrap64 (x1+1)) then (some (([wrap64 (x1+1),xe]:List Int))) else (some (([wrap64 (x1+1)]:List Int)))) else (some (([wrap64 (x1+1)]:List Int))))
def SaT.f (k:Nat) (l0:List (S27)) (a1:Int):Option (List Int):=if 0<=a1 then (if a1 < (l0.length:Int) then (if ((rd_T27 l0 a1).f0)=10 then (some (([]:List Int))) else (if ((rd_T27 l0 a1).f0)=4 then (some (([(rd_T27 l0 a1).f4]:List Int))) else (if ((rd_T27 l0 a1).f0)=5 then (SaT.j0 k a1 (decide (((rd_T27 l0 a1).f4) < (wrap64 (a1+1)))) ((rd_T27 l0 a1).f0) ((rd_T27 l0 a1).f1) ((rd_T27 l0 a1).f2) ((rd_T27 l0 a1).f3) ((rd_T27 l0 a1).f4)) else (SaT.j0 k a1 false ((rd_T27 l0 a1).f0) ((rd_T27 l0 a1).f1) ((rd_T27 l0 a1).f2) ((rd_T27 l0 a1).f3) ((rd_T27 l0 a1).f4))))) else (none)) else (none)
theorem SaT.mono_l:∀ k,(∀ y0 y1 y2 y3 y4 y5 y6,LeO (SaT.j0 k y0 y1 y2 y3 y4 y5 y6) (SaT.j0 (k+1) y0 y1 y2 y3 y4 y5 y6))
 | 0=>fun _ _ _ _ _ _ _ r h=>by simp [SaT.j0] at h
 | k+1=>by
  have bL:=SaT.mono_l k
  intros;unfold SaT.j0;exact mM
theorem SaT.mono:∀ a0 a1 k,LeO (SaT.f k a0 a1) (SaT.f (k+1) a0 a1):=by
 intro a0 a1 k;have bL:=SaT.mono_l k;unfold SaT.f;exact mM
theorem SaT.calls (k:Nat) (A0:Option Addr) (c0:Nat) (l0:List (S27)) (a1:Int) (r:List Int) (w:World) (hr0:Kd.C k27 w A0 l0.length l0) (hc0:l0.length<=c0) (h:SaT.f k l0 a1=some r) :
  Calls Tryz.prog 55 #[.slice A0 l0.length c0,.int .i64 a1] w fun e w'=>∃ bJ:Value,e = .returned (bJ)/\Kd.R (Kd.int .i64) 3 w' w.heap.size (fun _=>True) bJ r/\Below w.heap.size w w':=by
 have bM:=Tryz.underlying27
 have bF:=aM hr0
 have dw:=aM hc0
 clear hr0 hc0
 have HB:=aM (Below.refl w.heap.size w)
 have H:=h;unfold SaT.f at H
 clear h
 replace H:=jI H;obtain⟨bG,H⟩:=H
 replace H:=jI H;obtain⟨bH,H⟩:=H
 replace H:=jE H;rcases H with ⟨aZ,bg,H⟩ | ⟨c5,aZ,bg,H⟩
 ·obtain⟨bN,ax⟩:=ky ((([]:List Int)):List Int)
  first|replace H:=kz ax H|rw [<- ax.out] at H
  obtain rfl:=oJ H
  obtain⟨aQ,aG,ae,af,ag,ah,ai,aW,aX⟩:=jT27 bF a1
  cases aG
  go_enter Tryz.func55,Tryz.ntmps55
  go_wp2_with (first|((with_reducible refine jd 5 rfl ?_);refine jX _ 27 ?_;intro aj hg w6 hbox hb;have aa:=aM hbox;have aT:=kG hg;replace HB:=kH hb;clear hb hbox hg;have dx:=jz5 aa)|((with_reducible refine jd 14 rfl ?_);refine jV (Kd.int .i64) 3 ([]:List Int) [] (Reps.none _ _) ?_;intro bO w8 bi hb;(first|rw [<- ax.out] at bi|(simp only [Int.reduceToNat] at bi;rw [<- ax.out] at bi));have bn:=kL bi;replace aa:=aM (blk_below (g:=aj) (o:=.cells #[.int .i64 ((rd_T27 l0 a1).f0),.int .i64 ((rd_T27 l0 a1).f1),.int .i64 ((rd_T27 l0 a1).f2),.int .i64 ((rd_T27 l0 a1).f3),.int .i64 ((rd_T27 l0 a1).f4)] 27 (0,0)) (qF aa) hb);replace HB:=kH hb;clear hb bi))
  go_ret
  exact⟨_,qW,qR bn,qB⟩
 replace H:=jE H;rcases H with ⟨aU,aV,H⟩ | ⟨c10,aU,aV,H⟩
 ·obtain⟨bP,ay⟩:=ky ((([(rd_T27 l0 a1).f4]:List Int)):List Int)
  first|replace H:=kz ay H|rw [<- ay.out] at H
  obtain rfl:=oJ H
  obtain⟨aQ,aG,ae,af,ag,ah,ai,aW,aX⟩:=jT27 bF a1
  cases aG
  go_enter Tryz.func55,Tryz.ntmps55
  go_wp2_with (first|((with_reducible refine jd 5 rfl ?_);refine jX _ 27 ?_;intro aj hg dz hbox hb;have aa:=aM hbox;have aT:=kG hg;replace HB:=kH hb;clear hb hbox hg;have bQ:=jz5 aa)|((with_reducible refine jd 21 rfl ?_);refine jV (Kd.int .i64) 3 ([(rd_T27 l0 a1).f4]:List Int) [.int .i64 ((rd_T27 l0 a1).f4)] (Reps.one (show Kd.M (Kd.int .i64) _ _ _ ((rd_T27 l0 a1).f4) [.int .i64 ((rd_T27 l0 a1).f4)] from rfl) (Reps.none _ _)) ?_;intro bR dA aH hb;(first|rw [<- ay.out] at aH|(simp only [Int.reduceToNat] at aH;rw [<- ay.out] at aH));have bq:=kL aH;replace aa:=aM (blk_below (g:=aj) (o:=.cells #[.int .i64 ((rd_T27 l0 a1).f0),.int .i64 ((rd_T27 l0 a1).f1),.int .i64 ((rd_T27 l0 a1).f2),.int .i64 ((rd_T27 l0 a1).f3),.int .i64 ((rd_T27 l0 a1).f4)] 27 (0,0)) (qF aa) hb);replace HB:=kH hb;clear hb aH))
  go_ret
  exact⟨_,qW,qR bq,qB⟩
 have aY:=aM H
 clear H
 obtain⟨aQ,aG,ae,af,ag,ah,ai,aW,aX⟩:=jT27 bF a1
 cases aG
 go_enter Tryz.func55,Tryz.ntmps55
 go_upto_region 6 with (first|((with_reducible refine jd 5 rfl ?_);refine jX _ 27 ?_;intro aj hg w16 hbox hb;have aa:=aM hbox;have aT:=kG hg;replace HB:=kH hb;clear hb hbox hg;have bI:=jz5 aa))
 (try simp only [Act.put,List.setIfInBounds_toArray,List.set_cons_zero,List.set_cons_succ])
 go_cut [22] (fun v22 wc=>∃ (kq:Nat) (av:Bool),v22 = .bool av/\Aside0 (SaT.j0 kq a1 av ((rd_T27 l0 a1).f0) ((rd_T27 l0 a1).f1) ((rd_T27 l0 a1).f2) ((rd_T27 l0 a1).f3) ((rd_T27 l0 a1).f4)=some r)/\Aside0 (kq<=k)/\Aside0 (wc.heap[aj]?=some (.cells #[.int .i64 ((rd_T27 l0 a1).f0),.int .i64 ((rd_T27 l0 a1).f1),.int .i64 ((rd_T27 l0 a1).f2),.int .i64 ((rd_T27 l0 a1).f3),.int .i64 ((rd_T27 l0 a1).f4)] 27 (0,0)))/\Aside0 (Below w.heap.size w wc))
 case first =>
  have H:=aY.out
  clear aY
  replace H:=jE H;rcases H with ⟨au,bu,H⟩ | ⟨c18,au,bu,H⟩
  ·(first|rw [au]|(simp only [i64_w,i32_w];rw [au])|skip)
   have H':=aM H
   clear H
   have bS:=jz5 aa
   go_wp2
   go_meet
   exact⟨_,(decide (((rd_T27 l0 a1).f4) < (wrap64 (a1+1)))),qZ,H',⟨by first|omega|exact Nat.le_refl _⟩,⟨qF aa⟩,⟨qB⟩⟩
  (first|rw [au]|(simp only [i64_w,i32_w];rw [au])|skip)
  have H':=aM H
  clear H
  have bT:=jz5 aa
  go_wp2
  go_meet
  exact⟨_,(false),qZ,H',⟨by first|omega|exact Nat.le_refl _⟩,⟨qF aa⟩,⟨qB⟩⟩
 clear aY
 try clear bG;try clear bH;try clear c5;try clear aZ;try clear bg;try clear c10;try clear aU;try clear aV;try clear bI;try clear ae;try clear af;try clear ag;try clear ah;try clear ai;try clear aW;try clear aX
 obtain⟨kq,av,rfl,HA,bU,aa,HB⟩:=hcut
 cases kq with
 | zero=>exact absurd HA.out (by simp [SaT.j0])
 | succ bV =>
  have H:=HA.out
  clear HA
  simp only [SaT.j0] at H
  replace H:=jB H;rcases H with ⟨rfl,H⟩ | ⟨rfl,H⟩
  ·obtain⟨bW,az⟩:=ky ((([((rd_T27 l0 a1).f4),wrap64 (a1+1)]:List Int)):List Int)
   first|replace H:=kz az H|rw [<- az.out] at H
   obtain rfl:=oJ H
   have bX:=jz5 aa
   go_wp2_with (first|((with_reducible refine jd 37 rfl ?_);refine jV (Kd.int .i64) 3 ([((rd_T27 l0 a1).f4),wrap64 (a1+1)]:List Int) [.int .i64 ((rd_T27 l0 a1).f4),.int .i64 (wrap64 (a1+1))] (Reps.one (show Kd.M (Kd.int .i64) _ _ _ ((rd_T27 l0 a1).f4) [.int .i64 ((rd_T27 l0 a1).f4)] from rfl) (Reps.one (show Kd.M (Kd.int .i64) _ _ _ (wrap64 (a1+1)) [.int .i64 (wrap64 (a1+1))] from rfl) (Reps.none _ _))) ?_;intro bY dB aI hb;(first|rw [<- az.out] at aI|(simp only [Int.reduceToNat] at aI;rw [<- az.out] at aI));have bv:=kL aI;replace aa:=kB aa hb;replace HB:=kH hb;clear hb aI))
   go_ret
   exact⟨_,qW,qR bv,qB⟩
  replace H:=jE H;rcases H with ⟨bz,bA,H⟩ | ⟨dC,bz,bA,H⟩
  ·replace H:=jD H;rcases H with ⟨bB,H⟩ | ⟨bB,H⟩
   ·obtain⟨bZ,aA⟩:=ky ((([wrap64 (a1+1),((rd_T27 l0 a1).f4)]:List Int)):List Int)
    first|replace H:=kz aA H|rw [<- aA.out] at H
    obtain rfl:=oJ H
    have cz:=jz5 aa
    go_wp2_with (first|((with_reducible refine jd 53 rfl ?_);refine jV (Kd.int .i64) 3 ([wrap64 (a1+1),((rd_T27 l0 a1).f4)]:List Int) [.int .i64 (wrap64 (a1+1)),.int .i64 ((rd_T27 l0 a1).f4)] (Reps.one (show Kd.M (Kd.int .i64) _ _ _ (wrap64 (a1+1)) [.int .i64 (wrap64 (a1+1))] from rfl) (Reps.one (show Kd.M (Kd.int .i64) _ _ _ ((rd_T27 l0 a1).f4) [.int .i64 ((rd_T27 l0 a1).f4)] from rfl) (Reps.none _ _))) ?_;intro cB dD aJ hb;(first|rw [<- aA.out] at aJ|(simp only [Int.reduceToNat] at aJ;rw [<- aA.out] at aJ));have bC:=kL aJ;replace aa:=kB aa hb;replace HB:=kH hb;clear hb aJ))
    go_ret
    exact⟨_,qW,qR bC,qB⟩
   obtain⟨cK,aC⟩:=ky ((([wrap64 (a1+1)]:List Int)):List Int)
   first|replace H:=kz aC H|rw [<- aC.out] at H
   obtain rfl:=oJ H
   have cO:=jz5 aa
   go_wp2_with (first|((with_reducible refine jd 56 rfl ?_);refine jV (Kd.int .i64) 3 ([wrap64 (a1+1)]:List Int) [.int .i64 (wrap64 (a1+1))] (Reps.one (show Kd.M (Kd.int .i64) _ _ _ (wrap64 (a1+1)) [.int .i64 (wrap64 (a1+1))] from rfl) (Reps.none _ _)) ?_;intro df dE aK hb;(first|rw [<- aC.out] at aK|(simp only [Int.reduceToNat] at aK;rw [<- aC.out] at aK));have bD:=kL aK;replace aa:=kB aa hb;replace HB:=kH hb;clear hb aK))
   go_ret
   exact⟨_,qW,qR bD,qB⟩
  obtain⟨dh,aD⟩:=ky ((([wrap64 (a1+1)]:List Int)):List Int)
  first|replace H:=kz aD H|rw [<- aD.out] at H
  obtain rfl:=oJ H
  have di:=jz5 aa
  go_wp2_with (first|((with_reducible refine jd 56 rfl ?_);refine jV (Kd.int .i64) 3 ([wrap64 (a1+1)]:List Int) [.int .i64 (wrap64 (a1+1))] (Reps.one (show Kd.M (Kd.int .i64) _ _ _ (wrap64 (a1+1)) [.int .i64 (wrap64 (a1+1))] from rfl) (Reps.none _ _)) ?_;intro dn dF aN hb;(first|rw [<- aD.out] at aN|(simp only [Int.reduceToNat] at aN;rw [<- aD.out] at aN));have bE:=kL aN;replace aa:=kB aa hb;replace HB:=kH hb;clear hb aN))
  go_ret
  exact⟨_,qW,qR bE,qB⟩
mutual
def SaV.l0:Nat->List (List Bool)->List Bool->List Int->Int->Option (List Bool)
 | 0,_,_,_,_=>none
 | k+1,x1,x7,x8,x9=>if x9 < (x8.length:Int) then (SaV.l1 k x1 x7 x8 x9 0) else (some x7)
def SaV.l1:Nat->List (List Bool)->List Bool->List Int->Int->Int->Option (List Bool)
 | 0,_,_,_,_,_=>none
 | k+1,x1,x7,x8,x9,aN=>if aN < 12 then (if 0<=aN then (if aN < (x7.length:Int) then (if rdOf false x7 aN=true then (SaV.l1 k x1 (x7.set (aN:Int).toNat true) x8 x9 (wrap64 (aN+1))) else (if 0<=x9 then (if x9 < (x8.length:Int) then (if 0<=(rd x8 x9) then (if (rd x8 x9) < (x1.length:Int) then (if aN < ((rd_L6 x1 (rd x8 x9)).length:Int) then (SaV.l1 k x1 (x7.set (aN:Int).toNat (rdOf false (rd_L6 x1 (rd x8 x9)) aN)) x8 x9 (wrap64 (aN+1))) else (none)) else (none)) else (none)) else (none)) else (none))) else (none)) else (none)) else (SaV.l0 k x1 x7 x8 (wrap64 (x9+1)))
end
def SaV.f (k:Nat) (l0:List (S27)) (l1:List (List Bool)) (a2:Int):Option (List Bool):=if 12<=281474976710656 then ((SaT.f k l0 a2).bind fun ae=>(SaV.l0 k l1 (List.replicate 12 false) ae 0)) else (none)
theorem SaV.calls (k:Nat) (A0:Option Addr) (c0:Nat) (l0:List (S27)) (A1:Option Addr) (c1:Nat) (l1:List (List Bool)) (a2:Int) (r:List Bool) (w:World) (hr0:Kd.C k27 w A0 l0.length l0) (hc0:l0.length<=c0) (hr1:Kd.C (Kd.slice 4 Kd.bool) w A1 l1.length l1) (hc1:l1.length<=c1) (h:SaV.f k l0 l1 a2=some r) :
  Calls Tryz.prog 38 #[.slice A0 l0.length c0,.slice A1 l1.length c1,.int .i64 a2] w fun e w'=>∃ dK:Value,e = .returned (dK)/\Kd.R Kd.bool 4 w' w.heap.size (fun _=>True) dK r/\Below w.heap.size w w':=by
 have dX:=aM hr0
 have dY:=aM hc0
 clear hr0 hc0
 have HR1:=aM hr1
 have eO:=aM hc1
 clear hr1 hc1
 have HB:=aM (Below.refl w.heap.size w)
 have H:=h;unfold SaV.f at H
 clear h
 replace H:=jJ H;obtain⟨bA,bB,H⟩:=H
 obtain⟨bU,az⟩:=ky ((List.replicate 12 false):List Bool)
 first|replace H:=kz az H|rw [<- az.out] at H
 obtain⟨ae,A5,H⟩:=qE H
 try dsimp only at H
 have H':=aM H
 clear H
 go_enter Tryz.func38,Tryz.ntmps38
 go_wp2_with (first|((with_reducible refine jd 11 rfl ?_);refine Kd.R_make Kd.bool _ 4 rfl (N:=11) rfl 37 _ _ rfl 12 rfl rfl Tryz.underlying37 (.bool false) 1 info4 rfl (by decide) (by omega) false (ok:=fun _=>True) (okp:=fun _=>True) rfl (fun _ hk=>hk) trivial (by omega) (by omega) (Below.refl _ _) (Nat.le_refl _) ?_;intro bC w6 bD hb hg_ hnew_;clear hg_ hnew_;(first|rw [<- az.out] at bD|(simp only [Int.reduceToNat] at bD;rw [<- az.out] at bD));have aG:=kL bD;replace HB:=kH hb;clear hb bD)|((with_reducible refine jc 55 14 rfl rfl ?_);refine jG Tryz.func55 #[.slice A0 l0.length c0,.int .i64 a2] ?_;refine (SaT.calls k _ _ l0 a2 ae _ ?bE ?bF A5.out).mono ?_;(case bE=>exact kC (Kd.C_below dX.out HB.out));(case bF=>exact dY.out);rintro e w8 ⟨bV,rfl,ho0,hb⟩;refine⟨_,rfl,?_⟩;have bG:=kL ho0;replace aG:=kR aG hb;replace HB:=kH hb;clear hb;(try clear ho0)))
 go_loopg [9] k (fun kq v9 w'=>∃ (aQ:List Bool) (af:Int),v9 = .int .i64 af/\Aside0 (SaV.l0 kq l1 aQ ae af=some r)/\Aside0 (kq<=k)/\Aside0 (Kd.R Kd.bool 4 w' w.heap.size (fun _=>True) bC aQ)/\Aside0 (Kd.R (Kd.int .i64) 3 w' w.heap.size (fun _=>True) bV ae)/\Aside0 (Below w.heap.size w w'))
 case atStart=>exact⟨(bU),(0),qZ,H',⟨Nat.le_refl _⟩,⟨qR aG⟩,⟨qR bG⟩,⟨qB⟩⟩
 clear H'
 try clear c1;try clear bA;try clear bB
 obtain⟨aQ,af,rfl,HA,bv,ag,aj,HB⟩:=hrel
 rcases gk with _|k1
 ·exact absurd HA.out (by simp [SaV.l0])
 have H:=HA.out
 clear HA
 simp only [SaV.l0] at H
 replace H:=jD H;rcases H with ⟨bH,H⟩ | ⟨bH,H⟩
 ·have H':=aM H
  clear H
  obtain⟨bW,bX,bY⟩:=Kd.R_slice aj.out
  subst bY
  go_wp2
  go_loopg [10] k1 (fun kq v10 w'=>∃ (ah:List Bool) (aa:Int),v10 = .int .i64 aa/\Aside0 (SaV.l1 kq l1 ah ae af aa=some r)/\Aside0 (kq<=k1)/\Aside0 (Kd.R Kd.bool 4 w' w.heap.size (fun _=>True) bC ah)/\Aside0 (Kd.R (Kd.int .i64) 3 w' w.heap.size (fun _=>True) (.slice bW ae.length bX) ae)/\Aside0 (Below w.heap.size w w'))
  case atStart=>exact⟨(aQ),(0),qZ,H',⟨Nat.le_refl _⟩,⟨qR ag⟩,⟨qR aj⟩,⟨qB⟩⟩
  clear H'
  try clear c1;try clear bA;try clear bB;try clear bH
  obtain⟨ah,aa,rfl,HA,bz,ag,aj,HB⟩:=hrel
  rcases gk with _|k2
  ·exact absurd HA.out (by simp [SaV.l1])
  have H:=HA.out
  clear HA
  simp only [SaV.l1] at H
  replace H:=jD H;rcases H with ⟨bI,H⟩ | ⟨bI,H⟩
  ·replace H:=jI H;obtain⟨dL,H⟩:=H
   replace H:=jI H;obtain⟨dM,H⟩:=H
   obtain⟨bZ,aH⟩:∃ b_:Bool,b_=(rdOf false ah aa):=⟨_,rfl⟩
   replace H:(if bZ=true then (SaV.l1 k2 l1 (ah.set (aa:Int).toNat true) ae af (wrap64 (aa+1))) else (if 0<=af then (if af < (ae.length:Int) then (if 0<=(rd ae af) then (if (rd ae af) < (l1.length:Int) then (if aa < ((rd_L6 l1 (rd ae af)).length:Int) then (SaV.l1 k2 l1 (ah.set (aa:Int).toNat (rdOf false (rd_L6 l1 (rd ae af)) aa)) ae af (wrap64 (aa+1))) else (none)) else (none)) else (none)) else (none)) else (none)))=some r:=by rw [<- aH] at H;exact H
   have aI:=aM aH;clear aH
   replace H:=jB H;rcases H with ⟨rfl,H⟩ | ⟨rfl,H⟩
   ·obtain⟨cz,aJ⟩:=ky ((ah.set (aa:Int).toNat true):List Bool)
    first|replace H:=kz aJ H|rw [<- aJ.out] at H
    have H':=aM H
    clear H
    obtain⟨dZ,bJ,cB⟩:=Kd.R_slice ag.out
    subst cB
    have av:0<=(aa:Int):=qD
    have ax:aa < (ah.length:Int):=qD
    obtain⟨bK,aW,ai⟩:=Kd.at_bool (Kd.R_reads' ag.out).2.2 aa av ax
    (try rw [<- aI.out] at ai)
    cases aW
    replace av:=eq_true av
    replace ax:=eq_true ax
    have p16:0<=(aa:Int):=qD
    have q16:(aa:Int) < ((ah.length:Int):Int):=qD
    obtain⟨aT,d9,bL,bM,cK,ed,bN⟩:=Kd.R_form ag.out (by omega)
    (first|cases bL|(injection bL with ea_ en_ ec_;(first|subst ea_|(injection ea_ with ea_;subst ea_));subst ec_;clear en_))
    have cO:=aM bM
    have ek:=aM bN
    clear bM cK bN
    (first|simp only [add_plain] at ai|skip)
    obtain⟨df,dh⟩:=Kd.R_celln false ag.out (aa:Int) p16 q16
    replace p16:=eq_true p16
    replace q16:=eq_true q16
    have aX:=Kd.R_putg ag.out (aa:Int) true
    go_wp2_with (first|((with_reducible refine gate_store (t:=4) (p:=43) rfl ?_);refine store_event (t:=4) (p:=43) (v:=?di) (w1:=(wr.setCell ⟨aT,(aa:Int).toNat,none⟩ (.bool true))) ?hg ?ho ?hn ?hr ?_;(case ho=>rfl);(case hg=>rfl);(case hn=>rfl);(case hr=>first|(go_simp;done)|(go_simp;rfl));intro ay hw;have hg:wr.grownBy ay (some aT):=(by rw [hw];exact aX.2);have hp_:Kd.R Kd.bool 4 ay w.heap.size (fun _=>True) (.slice (some ⟨aT,0,none⟩) ah.length bJ) cz:=(by rw [hw,aJ.out];exact aX.1);clear aX;replace aj:=aM (Kd.R_over' (v:=(.slice (some ⟨aT,0,none⟩) ah.length bJ)) (qR aj) (Kd.R_typed ag.out) (by decide) hg);replace ag:=aM hp_;replace HB:=aM ((by rw [hw];exact below_set (HB.out) cO.out:Below w.heap.size w ay));clear hg hw hp_))
    go_roundg k2
    case measure=>have:=bv.out;have:=bz.out;omega
    exact⟨_,_,qZ,H',⟨by have:=bv.out;have:=bz.out;omega⟩,⟨qR ag⟩,⟨qR aj⟩,⟨qB⟩⟩
   replace H:=jI H;obtain⟨dN,H⟩:=H
   replace H:=jI H;obtain⟨dO,H⟩:=H
   replace H:=jI H;obtain⟨dP,H⟩:=H
   replace H:=jI H;obtain⟨dQ,H⟩:=H
   replace H:=jI H;obtain⟨dR,H⟩:=H
   obtain⟨dn,aK⟩:=ky ((ah.set (aa:Int).toNat (rdOf false (rd_L6 l1 (rd ae af)) aa)):List Bool)
   first|replace H:=kz aK H|rw [<- aK.out] at H
   have H':=aM H
   clear H
   obtain⟨eu,bO,dw⟩:=Kd.R_slice ag.out
   subst dw
   have av:0<=(aa:Int):=qD
   have ax:aa < (ah.length:Int):=qD
   obtain⟨bK,aW,ai⟩:=Kd.at_bool (Kd.R_reads' ag.out).2.2 aa av ax
   (try rw [<- aI.out] at ai)
   cases aW
   replace av:=eq_true av
   replace ax:=eq_true ax
   have aY:0<=(af:Int):=qD
   have aZ:af < (ae.length:Int):=qD
   obtain⟨dS,dx,bS⟩:=Kd.at_int (Kd.R_reads' aj.out).2.2 af aY aZ
   cases dx
   replace aY:=eq_true aY
   replace aZ:=eq_true aZ
   have bg:0<=((rd ae af):Int):=qD
   have bi:(rd ae af) < (l1.length:Int):=qD
   obtain⟨dU,dz,dA,dB,aA,aC,aD⟩:=at_L6 HR1.out (rd ae af) bg bi
   cases dB
   replace aA:=kx HB aA
   have aU:=aM aD
   have bT:=aM aC
   clear aD aC
   replace bg:=eq_true bg
   replace bi:=eq_true bi
   have bn:0<=(aa:Int):=qD
   have bq:aa < ((rd_L6 l1 (rd ae af)).length:Int):=qD
   obtain⟨dV,dC,au⟩:=Kd.at_bool aU.out aa bn bq
   (try rw [<- aI.out] at au)
   cases dC
   replace au:=kx HB au
   replace bn:=eq_true bn
   replace bq:=eq_true bq
   have p25:0<=(aa:Int):=qD
   have dD:(aa:Int) < ((ah.length:Int):Int):=qD
   obtain⟨aV,eB,bP,bQ,dE,eD,bR⟩:=Kd.R_form ag.out (by omega)
   (first|cases bP|(injection bP with ea_ en_ ec_;(first|subst ea_|(injection ea_ with ea_;subst ea_));subst ec_;clear en_))
   have dF:=aM bQ
   have eF:=aM bR
   clear bQ dE bR
   (first|simp only [add_plain] at ai|skip)
   obtain⟨dG,dH⟩:=Kd.R_celln false ag.out (aa:Int) p25 dD
   replace p25:=eq_true p25
   replace dD:=eq_true dD
   have bu:=Kd.R_putg ag.out (aa:Int) (rdOf false (rd_L6 l1 (rd ae af)) aa)
   go_wp2_with (first|((with_reducible refine gate_store (t:=4) (p:=43) rfl ?_);refine store_event (t:=4) (p:=43) (v:=?dI) (w1:=(wr.setCell ⟨aV,(aa:Int).toNat,none⟩ (.bool (rdOf false (rd_L6 l1 (rd ae af)) aa)))) ?hg ?ho ?hn ?hr ?_;(case ho=>rfl);(case hg=>rfl);(case hn=>rfl);(case hr=>first|(go_simp;done)|(go_simp;rfl));intro ay hw;have hg:wr.grownBy ay (some aV):=(by rw [hw];exact bu.2);have hp_:Kd.R Kd.bool 4 ay w.heap.size (fun _=>True) (.slice (some ⟨aV,0,none⟩) ah.length bO) dn:=(by rw [hw,aK.out];exact bu.1);clear bu;replace aj:=aM (Kd.R_over' (v:=(.slice (some ⟨aV,0,none⟩) ah.length bO)) (qR aj) (Kd.R_typed ag.out) (by decide) hg);replace ag:=aM hp_;replace HB:=aM ((by rw [hw];exact below_set (HB.out) dF.out:Below w.heap.size w ay));clear hg hw hp_))
   go_roundg k2
   case measure=>have:=bv.out;have:=bz.out;omega
   exact⟨_,_,qZ,H',⟨by have:=bv.out;have:=bz.out;omega⟩,⟨qR ag⟩,⟨qR aj⟩,⟨qB⟩⟩
  have H':=aM H
  clear H
  go_wp2
  go_roundg k2
  case measure=>have:=bv.out;have:=bz.out;omega
  exact⟨(ah),(wrap64 (af+1)),qZ,H',⟨by have:=bv.out;have:=bz.out;omega⟩,⟨qR ag⟩,⟨qR aj⟩,⟨qB⟩⟩
 obtain rfl:=oJ H
 obtain⟨eG,eH,dJ⟩:=Kd.R_slice aj.out
 subst dJ
 go_wp2
 go_ret
 exact⟨_,qW,qR ag,qB⟩
def Sat.f (aa ae ag ah ai:Int):Option (Int):=(Sav.f aa ae ag ah ai 600).bind fun aj=>(if aj=true then (if aa=1 then (some ae) else (if aa=2 then (some ae) else (if aa=3 then (some ae) else (if aa=7 then (some ae) else (some (-1)))))) else (some (-1)))
theorem Sat_0 {G:Prop} (h:G:=by
  go_enter Tryz.func68,Tryz.ntmps68
  go_wp2_with (first|((with_reducible refine jd 1 rfl ?_);refine jX _ 27 ?_;intro aG hg aI hbox hb;have af:=aM hbox;have aH:=kG hg;replace HB:=kH hb;clear hb hbox hg;have aJ:=jz5 af)|((with_reducible refine jc 54 4 rfl rfl ?_);refine jG Tryz.func54 #[.agg #[.int .i64 aa,.int .i64 ae,.int .i64 ag,.int .i64 ah,.int .i64 ai],.int .i64 600] ?_;refine (Sav.calls _ _ _ _ _ _ _ _ (Aside0.out (by assumption))).mono ?_;rintro e aK ⟨rfl,hb⟩;refine⟨_,rfl,?_⟩;replace af:=kB af hb;replace HB:=kH hb;clear hb;have aN:=jz5 af))
  go_ret
  exact⟨qW,qB⟩):G:=h
theorem Sat.calls (aa ae ag ah ai r:Int) (w:World) (h:Sat.f aa ae ag ah ai=some r) :
  Calls Tryz.prog 68 #[.agg #[.int .i64 aa,.int .i64 ae,.int .i64 ag,.int .i64 ah,.int .i64 ai]] w fun e w'=>e = .returned (.int .i64 r)/\Below w.heap.size w w':=by
 have aQ:=Tryz.underlying27
 have HB:=aM (Below.refl w.heap.size w)
 have H:=h;unfold Sat.f at H
 clear h
 obtain⟨aj,A2,H⟩:=qE H
 try dsimp only at H
 replace H:=jB H;rcases H with ⟨rfl,H⟩ | ⟨rfl,H⟩
 ·replace H:=jE H;rcases H with ⟨az,aA,H⟩ | ⟨c4,az,aA,H⟩
  ·obtain rfl:=oJ H
   exact Sat_0
  replace H:=jE H;rcases H with ⟨aC,aD,H⟩ | ⟨c9,aC,aD,H⟩
  ·obtain rfl:=oJ H
   exact Sat_0
  replace H:=jE H;rcases H with ⟨au,av,H⟩ | ⟨c14,au,av,H⟩
  ·obtain rfl:=oJ H
   exact Sat_0
  replace H:=jE H;rcases H with ⟨ax,ay,H⟩ | ⟨c19,ax,ay,H⟩
  ·obtain rfl:=oJ H
   exact Sat_0
  obtain rfl:=oJ H
  exact Sat_0
 obtain rfl:=oJ H
 exact Sat_0
def Sau.j0:Nat->Int->Bool->Int->Int->Int->Int->Int->Option (List Int)
 | 0,_,_,_,_,_,_,_=>none
 | k+1,x8,x9,xa,xb,xc,xd,xe=>if x9=true then (some (([xc]:List Int))) else (if x8=3 then (if xc=xd then (some (([xc]:List Int))) else (some (([mn xc xd,mx xc xd]:List Int)))) else (some (([]:List Int))))
def Sau.f (k:Nat) (af ah ae ag ai:Int):Option (List Int):=(Sav.f af ah ae ag ai 600).bind fun aU=>(if aU=true then (if af=2 then (Sau.j0 k af (af == 2) af ah ae ag ai) else (if af=5 then (Sau.j0 k af (af == 5) af ah ae ag ai) else (if af=6 then (Sau.j0 k af (af == 6) af ah ae ag ai) else (Sau.j0 k af (af == 9) af ah ae ag ai)))) else (some (([]:List Int))))
theorem Sau.calls (k:Nat) (af ah ae ag ai:Int) (r:List Int) (w:World) (h:Sau.f k af ah ae ag ai=some r) :
  Calls Tryz.prog 69 #[.agg #[.int .i64 af,.int .i64 ah,.int .i64 ae,.int .i64 ag,.int .i64 ai]] w fun e w'=>∃ bG:Value,e = .returned (bG)/\Kd.R (Kd.int .i64) 3 w' w.heap.size (fun _=>True) bG r/\Below w.heap.size w w':=by
 have bI:=Tryz.underlying27
 have HB:=aM (Below.refl w.heap.size w)
 have H:=h;unfold Sau.f at H
 clear h
 obtain⟨aU,A2,H⟩:=qE H
 try dsimp only at H
 replace H:=jB H;rcases H with ⟨rfl,H⟩ | ⟨rfl,H⟩
 ·have bC:=aM H
  clear H
  go_enter Tryz.func69,Tryz.ntmps69
  go_upto_if 9 with (first|((with_reducible refine jd 1 rfl ?_);refine jX _ 27 ?_;intro aQ hg w5 hbox hb;have aa:=aM hbox;have aV:=kG hg;replace HB:=kH hb;clear hb hbox hg;have bJ:=jz5 aa)|((with_reducible refine jc 54 4 rfl rfl ?_);refine jG Tryz.func54 #[.agg #[.int .i64 af,.int .i64 ah,.int .i64 ae,.int .i64 ag,.int .i64 ai],.int .i64 600] ?_;refine (Sav.calls af ah ae ag ai 600 true _ A2.out).mono ?_;rintro e w7 ⟨rfl,hb⟩;refine⟨_,rfl,?_⟩;replace aa:=kB aa hb;replace HB:=kH hb;clear hb;have bK:=jz5 aa))
  (try simp only [Act.put,List.setIfInBounds_toArray,List.set_cons_zero,List.set_cons_succ])
  go_cut [9] (fun v9 wc=>∃ (kq:Nat) (aT:Bool),v9 = .bool aT/\Aside0 (Sau.j0 kq af aT af ah ae ag ai=some r)/\Aside0 (kq<=k)/\Aside0 (wc.heap[aQ]?=some (.cells #[.int .i64 af,.int .i64 ah,.int .i64 ae,.int .i64 ag,.int .i64 ai] 27 (0,0)))/\Aside0 (Below w.heap.size w wc))
  case first =>
   have H:=bC.out
   clear bC
   replace H:=jE H;rcases H with ⟨aG,bD,H⟩ | ⟨c9,aG,bD,H⟩
   ·(first|rw [aG]|(simp only [i64_w,i32_w];rw [aG])|skip)
    have H':=aM H
    clear H
    go_wp2
    go_meet
    exact⟨_,((af == 2)),qZ,H',⟨by first|omega|exact Nat.le_refl _⟩,⟨qK aa⟩,⟨qB⟩⟩
   (first|rw [aG]|(simp only [i64_w,i32_w];rw [aG])|skip)
   replace H:=jE H;rcases H with ⟨aW,aX,H⟩ | ⟨c10,aW,aX,H⟩
   ·have H':=aM H
    clear H
    go_wp2
    go_meet
    exact⟨_,((af == 5)),qZ,H',⟨by first|omega|exact Nat.le_refl _⟩,⟨qK aa⟩,⟨qB⟩⟩
   replace H:=jE H;rcases H with ⟨aY,aZ,H⟩ | ⟨c11,aY,aZ,H⟩
   ·have H':=aM H
    clear H
    go_wp2
    go_meet
    exact⟨_,((af == 6)),qZ,H',⟨by first|omega|exact Nat.le_refl _⟩,⟨qK aa⟩,⟨qB⟩⟩
   have H':=aM H
   clear H
   go_wp2
   go_meet
   exact⟨_,((af == 9)),qZ,H',⟨by first|omega|exact Nat.le_refl _⟩,⟨qK aa⟩,⟨qB⟩⟩
  clear bC
  try clear bJ;try clear bK
  obtain⟨kq,aT,rfl,HA,bZ,aa,HB⟩:=hcut
  cases kq with
  | zero=>exact absurd HA.out (by simp [Sau.j0])
  | succ cz =>
   have H:=HA.out
   clear HA
   simp only [Sau.j0] at H
   replace H:=jB H;rcases H with ⟨rfl,H⟩ | ⟨rfl,H⟩
   ·obtain⟨bL,av⟩:=ky ((([ae]:List Int)):List Int)
    first|replace H:=kz av H|rw [<- av.out] at H
    obtain rfl:=oJ H
    have bM:=jz5 aa
    go_wp2_with (first|((with_reducible refine jd 16 rfl ?_);refine jV (Kd.int .i64) 3 ([ae]:List Int) [.int .i64 ae] (Reps.one (show Kd.M (Kd.int .i64) _ _ _ ae [.int .i64 ae] from rfl) (Reps.none _ _)) ?_;intro bN cB aH hb;(first|rw [<- av.out] at aH|(simp only [Int.reduceToNat] at aH;rw [<- av.out] at aH));have bg:=kL aH;replace aa:=kB aa hb;replace HB:=kH hb;clear hb aH))
    go_ret
    exact⟨_,qW,qR bg,qB⟩
   replace H:=jE H;rcases H with ⟨bi,bn,H⟩ | ⟨c16,bi,bn,H⟩
   ·replace H:=jE H;rcases H with ⟨bq,bu,H⟩ | ⟨c17,bq,bu,H⟩
    ·obtain⟨bO,ax⟩:=ky ((([ae]:List Int)):List Int)
     first|replace H:=kz ax H|rw [<- ax.out] at H
     obtain rfl:=oJ H
     have bP:=jz5 aa
     go_wp2_with (first|((with_reducible refine jd 26 rfl ?_);refine jV (Kd.int .i64) 3 ([ae]:List Int) [.int .i64 ae] (Reps.one (show Kd.M (Kd.int .i64) _ _ _ ae [.int .i64 ae] from rfl) (Reps.none _ _)) ?_;intro bQ cK aI hb;(first|rw [<- ax.out] at aI|(simp only [Int.reduceToNat] at aI;rw [<- ax.out] at aI));have bv:=kL aI;replace aa:=kB aa hb;replace HB:=kH hb;clear hb aI))
     go_ret
     exact⟨_,qW,qR bv,qB⟩
    obtain⟨aj,ay⟩:∃ j_:Int,(mn ae ag)=j_:=⟨_,rfl⟩
    replace H:(some (([aj,mx ae ag]:List Int)))=some r:=by first|(rw [ay] at H;exact H)|(simp only [ay] at H ⊢;exact H)
    have bE:(if ag < ae then ag else ae)=aj:=ay
    obtain⟨au,az⟩:∃ j_:Int,(mx ae ag)=j_:=⟨_,rfl⟩
    replace H:(some (([aj,au]:List Int)))=some r:=by first|(rw [az] at H;exact H)|(simp only [az] at H ⊢;exact H)
    have bF:(if ae < ag then ag else ae)=au:=az
    obtain⟨bR,aA⟩:=ky ((([aj,au]:List Int)):List Int)
    first|replace H:=kz aA H|rw [<- aA.out] at H
    obtain rfl:=oJ H
    have bS:=jz5 aa
    go_wp2_with (first|((with_reducible refine jd 37 rfl ?_);refine jV (Kd.int .i64) 3 ([aj,au]:List Int) [.int .i64 aj,.int .i64 au] (Reps.one (show Kd.M (Kd.int .i64) _ _ _ aj [.int .i64 aj] from rfl) (Reps.one (show Kd.M (Kd.int .i64) _ _ _ au [.int .i64 au] from rfl) (Reps.none _ _))) ?_;intro bT cO aJ hb;(first|rw [<- aA.out] at aJ|(simp only [Int.reduceToNat] at aJ;rw [<- aA.out] at aJ));have bz:=kL aJ;replace aa:=kB aa hb;replace HB:=kH hb;clear hb aJ))
    go_ret
    exact⟨_,by first|rfl|(simp [errW_none,errW_some] <;> rfl)|(simp only [<- ay,<- az];first|rfl|(simp [errW_none,errW_some] <;> rfl))|(simp [*,errW_none,errW_some] <;> rfl),qR bz,qB⟩
   obtain⟨bU,aC⟩:=ky ((([]:List Int)):List Int)
   first|replace H:=kz aC H|rw [<- aC.out] at H
   obtain rfl:=oJ H
   go_wp2_with (first|((with_reducible refine jd 38 rfl ?_);refine jV (Kd.int .i64) 3 ([]:List Int) [] (Reps.none _ _) ?_;intro bV df aK hb;(first|rw [<- aC.out] at aK|(simp only [Int.reduceToNat] at aK;rw [<- aC.out] at aK));have bA:=kL aK;replace aa:=kB aa hb;replace HB:=kH hb;clear hb aK))
   go_ret
   exact⟨_,qW,qR bA,qB⟩
 obtain⟨bW,aD⟩:=ky ((([]:List Int)):List Int)
 first|replace H:=kz aD H|rw [<- aD.out] at H
 obtain rfl:=oJ H
 go_enter Tryz.func69,Tryz.ntmps69
 go_wp2_with (first|((with_reducible refine jd 1 rfl ?_);refine jX _ 27 ?_;intro aQ hg dh hbox hb;have aa:=aM hbox;have aV:=kG hg;replace HB:=kH hb;clear hb hbox hg;have bX:=jz5 aa)|((with_reducible refine jc 54 4 rfl rfl ?_);refine jG Tryz.func54 #[.agg #[.int .i64 af,.int .i64 ah,.int .i64 ae,.int .i64 ag,.int .i64 ai],.int .i64 600] ?_;refine (Sav.calls af ah ae ag ai 600 false _ A2.out).mono ?_;rintro e di ⟨rfl,hb⟩;refine⟨_,rfl,?_⟩;replace aa:=kB aa hb;replace HB:=kH hb;clear hb)|((with_reducible refine jd 6 rfl ?_);refine jV (Kd.int .i64) 3 ([]:List Int) [] (Reps.none _ _) ?_;intro bY dn aN hb;(first|rw [<- aD.out] at aN|(simp only [Int.reduceToNat] at aN;rw [<- aD.out] at aN));have bB:=kL aN;replace aa:=kB aa hb;replace HB:=kH hb;clear hb aN))
 go_ret
 exact⟨_,qW,qR bB,qB⟩
mutual
def SaW.j0:Nat->List Bool->Int->Int->Int->Int->Int->Option (List Bool)
 | 0,_,_,_,_,_,_=>none
 | k+1,x5,xa,xb,xc,xd,xe=>(Sau.f k xa xb xc xd xe).bind fun au=>(SaW.l0 k x5 au 0)
def SaW.l0:Nat->List Bool->List Int->Int->Option (List Bool)
 | 0,_,_,_=>none
 | k+1,x5,x6,x7=>if x7 < (x6.length:Int) then (if 0<=x7 then (if 0<=(rd x6 x7) then (if (rd x6 x7) < (x5.length:Int) then (SaW.l0 k (x5.set ((rd x6 x7):Int).toNat true) x6 (wrap64 (x7+1))) else (none)) else (none)) else (none)) else (some x5)
end
def SaW.f (k:Nat) (af ag ah ai aj:Int) (l1:List Bool):Option (List Bool):=(some (([]:List Bool):List Bool)).bind fun aI=>(if aI.length+l1.length < 140737488355328 then ((some (aI ++ l1:List Bool)).bind fun az=>((Sat.f af ag ah ai aj).bind fun aV=>(if aV>=0 then ((Sat.f af ag ah ai aj).bind fun ay=>(if 0<=ay then (if ay < (az.length:Int) then (SaW.j0 k (az.set (ay:Int).toNat false) af ag ah ai aj) else (none)) else (none))) else (SaW.j0 k az af ag ah ai aj)))) else (none))
theorem SaW.calls (k:Nat) (af ag ah ai aj:Int) (A1:Option Addr) (c1:Nat) (l1 r:List Bool) (w:World) (hr1:Kd.C Kd.bool w A1 l1.length l1) (hc1:l1.length<=c1) (h:SaW.f k af ag ah ai aj l1=some r) :
  Calls Tryz.prog 59 #[.agg #[.int .i64 af,.int .i64 ag,.int .i64 ah,.int .i64 ai,.int .i64 aj],.slice A1 l1.length c1] w fun e w'=>∃ dn:Value,e = .returned (dn)/\Kd.R Kd.bool 4 w' w.heap.size (fun _=>True) dn r/\Below w.heap.size w w':=by
 have dJ:=Tryz.underlying27
 have HR1:=aM hr1
 have dV:=aM hc1
 clear hr1 hc1
 have HB:=aM (Below.refl w.heap.size w)
 have H:=h;unfold SaW.f at H
 clear h
 obtain⟨aI,aG⟩:=ky ((([]:List Bool)):List Bool)
 first|replace H:=kz aG H|rw [<- aG.out] at H
 replace H:=jL H;obtain⟨bK,H⟩:=H
 obtain⟨az,aJ⟩:=ky ((aI ++ l1):List Bool)
 first|replace H:=kz aJ H|rw [<- aJ.out] at H
 obtain⟨aV,A4,H⟩:=qE H
 try dsimp only at H
 have bL:=aM H
 clear H
 go_enter Tryz.func59,Tryz.ntmps59
 go_upto_if 13 with (first|((with_reducible refine jd 2 rfl ?_);refine jX _ 27 ?_;intro aA hg w6 hbox hb;have aa:=aM hbox;have dw:=kG hg;replace HB:=kH hb;clear hb hbox hg)|((with_reducible refine jd 8 rfl ?_);refine jV Kd.bool 4 ([]:List Bool) [] (Reps.none _ _) ?_;intro bM w7 bq hb;(first|rw [<- aG.out] at bq|(simp only [Int.reduceToNat] at bq;rw [<- aG.out] at bq));have aK:=kL bq;replace aa:=kB aa hb;replace HB:=kH hb;clear hb bq)|((with_reducible refine gate_builtin (b:=.append) (xs:=#[.tmp 8,.tmp 9]) rfl ?_);at_builtin;refine Kd.R_append_rows Kd.bool (w0:=w) w.heap.size rfl (.tmp 8) (.tmp 9) 37 4 (.bool false) 1 rfl Tryz.underlying37 info4 rfl (by decide) (by omega) bM aI l1 _ _ _ (fun _=>True) (fun _=>False) rfl rfl ?aO ?aR (fun _ _ h=>h) (fun _ h=>h.elim) ?aF ?aB ?aS ?aL ?_;(case aR=>exact kC (Kd.C_below HR1.out HB.out));(case aB=>exact qB);(case aF=>exact (fun _ _=>trivial));(case aO=>exact (qR aK));(case aS=>exact (below_size qB));(case aL=>have:=bK.out;omega);intro bu w9 ho hb hg hat;rw [<- aJ.out] at ho;have ae:=aM ho;replace aa:=aM (blk_grown (g:=aA) (o:=.cells #[.int .i64 af,.int .i64 ag,.int .i64 ah,.int .i64 ai,.int .i64 aj] 27 (0,0)) (qK aa) hg (Kd.R_ne aK.out aa.out (by decide)));replace HB:=aM hb;clear aK;clear ho hb hg hat;have bv:=jz5 aa)|((with_reducible refine jc 68 12 rfl rfl ?_);refine jG Tryz.func68 #[.agg #[.int .i64 af,.int .i64 ag,.int .i64 ah,.int .i64 ai,.int .i64 aj]] ?_;refine (Sat.calls af ag ah ai aj aV _ A4.out).mono ?_;rintro e dW ⟨rfl,hb⟩;refine⟨_,rfl,?_⟩;replace ae:=kR ae hb;replace aa:=kB aa hb;replace HB:=kH hb;clear hb))
 (try simp only [Act.put,List.setIfInBounds_toArray,List.set_cons_zero,List.set_cons_succ])
 go_cut [] (fun wc=>∃ (kq:Nat) (aT:List Bool),Aside0 (SaW.j0 kq aT af ag ah ai aj=some r)/\Aside0 (kq<=k)/\Aside0 (Kd.R Kd.bool 4 wc w.heap.size (fun _=>True) bu aT)/\Aside0 (wc.heap[aA]?=some (.cells #[.int .i64 af,.int .i64 ag,.int .i64 ah,.int .i64 ai,.int .i64 aj] 27 (0,0)))/\Aside0 (Below w.heap.size w wc))
 case first =>
  have H:=bL.out
  clear bL
  replace H:=jD H;rcases H with ⟨aC,H⟩ | ⟨aC,H⟩
  ·(first|rw [aC]|(simp only [i64_w,i32_w];rw [aC])|skip)
   obtain⟨ay,dX,H⟩:=qE H
   try dsimp only at H
   replace H:=jI H;obtain⟨dx,H⟩:=H
   replace H:=jI H;obtain⟨dz,H⟩:=H
   obtain⟨bN,aN⟩:=ky ((az.set (ay:Int).toNat false):List Bool)
   first|replace H:=kz aN H|rw [<- aN.out] at H
   have H':=aM H
   clear H
   have dK:=jz5 aa
   go_wp2_with (first|((with_reducible refine jc 68 16 rfl rfl ?_);refine jG Tryz.func68 #[.agg #[.int .i64 af,.int .i64 ag,.int .i64 ah,.int .i64 ai,.int .i64 aj]] ?_;refine (Sat.calls _ _ _ _ _ _ _ (Aside0.out (by assumption))).mono ?_;rintro e bz ⟨rfl,hb⟩;refine⟨_,rfl,?_⟩;replace ae:=kR ae hb;replace aa:=kB aa hb;replace HB:=kH hb;clear hb;have p16:0<=(ay:Int):=qD;have q16:(ay:Int) < ((az.length:Int):Int):=qD;obtain⟨aW,bO,bA,bB,bP,dL,bC⟩:=Kd.R_form ae.out (by omega);(first|cases bA|(injection bA with ea_ en_ ec_;(first|subst ea_|(injection ea_ with ea_;subst ea_));subst ec_;clear en_));have bQ:=aM bB;have dM:=aM bC;clear bB bP bC;obtain⟨bR,bS⟩:=Kd.R_celln false ae.out (ay:Int) p16 q16;replace p16:=eq_true p16;replace q16:=eq_true q16;obtain⟨dA,dB⟩:=Kd.R_celln false ae.out (ay:Int) (qD) (qD);have aX:=Kd.R_putg ae.out (ay:Int) false)|((with_reducible refine gate_store (t:=4) (p:=17) rfl ?_);refine store_event (t:=4) (p:=17) (v:=?bT) (w1:=(bz.setCell ⟨aW,(ay:Int).toNat,none⟩ (.bool false))) ?hg ?ho ?hn ?hr ?_;(case ho=>rfl);(case hg=>rfl);(case hn=>rfl);(case hr=>first|(go_simp;done)|(go_simp;rfl));intro aY hw;have hg:bz.grownBy aY (some aW):=(by rw [hw];exact aX.2);have hp_:Kd.R Kd.bool 4 aY w.heap.size (fun _=>True) (.slice (some ⟨aW,0,none⟩) az.length bO) bN:=(by rw [hw,aN.out];exact aX.1);clear aX;replace aa:=aM (blk_grown (g:=aA) (o:=.cells #[.int .i64 af,.int .i64 ag,.int .i64 ah,.int .i64 ai,.int .i64 aj] 27 (0,0)) (qK aa) hg (Kd.R_ne ae.out aa.out (by decide)));replace ae:=aM hp_;replace HB:=aM ((by rw [hw];exact below_set (HB.out) bQ.out:Below w.heap.size w aY));clear hg hw hp_))
   go_meet
   exact⟨_,_,H',⟨by first|omega|exact Nat.le_refl _⟩,⟨qR ae⟩,⟨qK aa⟩,⟨qB⟩⟩
  (first|rw [aC]|(simp only [i64_w,i32_w];rw [aC])|skip)
  have H':=aM H
  clear H
  go_wp2
  go_meet
  exact⟨_,(az),H',⟨by first|omega|exact Nat.le_refl _⟩,⟨qR ae⟩,⟨qK aa⟩,⟨qB⟩⟩
 clear bL
 try clear c1;try clear bv
 obtain⟨kq,aT,HA,dC,av,aa,HB⟩:=hcut
 cases kq with
 | zero=>exact absurd HA.out (by simp [SaW.j0])
 | succ bU =>
  have H:=HA.out
  clear HA
  simp only [SaW.j0] at H
  obtain⟨au,dN,H⟩:=qE H
  try dsimp only at H
  have H':=aM H
  clear H
  have bV:=jz5 aa
  go_wp2_with (first|((with_reducible refine jc 69 19 rfl rfl ?_);refine jG Tryz.func69 #[.agg #[.int .i64 af,.int .i64 ag,.int .i64 ah,.int .i64 ai,.int .i64 aj]] ?_;refine (Sau.calls bU af ag ah ai aj au _ dN.out).mono ?_;rintro e dY ⟨bW,rfl,ho0,hb⟩;refine⟨_,rfl,?_⟩;have bD:=kL ho0;replace av:=kR av hb;replace aa:=kB aa hb;replace HB:=kH hb;clear hb;(try clear ho0)))
  go_loopg [7] bU (fun kq v7 w'=>∃ (aD:List Bool) (ax:Int),v7 = .int .i64 ax/\Aside0 (SaW.l0 kq aD au ax=some r)/\Aside0 (kq<=bU)/\Aside0 (Kd.R Kd.bool 4 w' w.heap.size (fun _=>True) bu aD)/\Aside0 (Kd.R (Kd.int .i64) 3 w' w.heap.size (fun _=>True) bW au)/\Aside0 (w'.heap[aA]?=some (.cells #[.int .i64 af,.int .i64 ag,.int .i64 ah,.int .i64 ai,.int .i64 aj] 27 (0,0)))/\Aside0 (Below w.heap.size w w'))
  case atStart=>exact⟨(aT),(0),qZ,H',⟨Nat.le_refl _⟩,⟨qR av⟩,⟨qR bD⟩,⟨qK aa⟩,⟨qB⟩⟩
  clear H'
  try clear c1;try clear bv;try clear bV
  obtain⟨aD,ax,rfl,HA,dD,av,aH,aa,HB⟩:=hrel
  rcases gk with _|k2
  ·exact absurd HA.out (by simp [SaW.l0])
  have H:=HA.out
  clear HA
  simp only [SaW.l0] at H
  replace H:=jD H;rcases H with ⟨bE,H⟩ | ⟨bE,H⟩
  ·replace H:=jI H;obtain⟨dE,H⟩:=H
   replace H:=jI H;obtain⟨dF,H⟩:=H
   replace H:=jI H;obtain⟨dG,H⟩:=H
   obtain⟨bX,aQ⟩:=ky ((aD.set ((rd au ax):Int).toNat true):List Bool)
   first|replace H:=kz aQ H|rw [<- aQ.out] at H
   have H':=aM H
   clear H
   obtain⟨dO,dP,bY⟩:=Kd.R_slice aH.out
   subst bY
   have aZ:0<=(ax:Int):=qD
   have bg:ax < (au.length:Int):=qD
   obtain⟨dH,bZ,bJ⟩:=Kd.at_int (Kd.R_reads' aH.out).2.2 ax aZ bg
   cases bZ
   replace aZ:=eq_true aZ
   replace bg:=eq_true bg
   have p28:0<=((rd au ax):Int):=qD
   have cz:((rd au ax):Int) < ((aD.length:Int):Int):=qD
   obtain⟨aU,bF,bG,bH,cB,dQ,bI⟩:=Kd.R_form av.out (by omega)
   (first|cases bG|(injection bG with ea_ en_ ec_;(first|subst ea_|(injection ea_ with ea_;subst ea_));subst ec_;clear en_))
   have cK:=aM bH
   have dR:=aM bI
   clear bH cB bI
   obtain⟨cO,df⟩:=Kd.R_celln false av.out ((rd au ax):Int) p28 cz
   replace p28:=eq_true p28
   replace cz:=eq_true cz
   have bi:=Kd.R_putg av.out ((rd au ax):Int) true
   go_wp2_with (first|((with_reducible refine gate_store (t:=4) (p:=31) rfl ?_);refine store_event (t:=4) (p:=31) (v:=?dh) (w1:=(wr.setCell ⟨aU,((rd au ax):Int).toNat,none⟩ (.bool true))) ?hg ?ho ?hn ?hr ?_;(case ho=>rfl);(case hg=>rfl);(case hn=>rfl);(case hr=>first|(go_simp;done)|(go_simp;rfl));intro bn hw;have hg:wr.grownBy bn (some aU):=(by rw [hw];exact bi.2);have hp_:Kd.R Kd.bool 4 bn w.heap.size (fun _=>True) (.slice (some ⟨aU,0,none⟩) aD.length bF) bX:=(by rw [hw,aQ.out];exact bi.1);clear bi;replace aH:=aM (Kd.R_over' (v:=(.slice (some ⟨aU,0,none⟩) aD.length bF)) (qR aH) (Kd.R_typed av.out) (by decide) hg);replace aa:=aM (blk_grown (g:=aA) (o:=.cells #[.int .i64 af,.int .i64 ag,.int .i64 ah,.int .i64 ai,.int .i64 aj] 27 (0,0)) (qK aa) hg (Kd.R_ne av.out aa.out (by decide)));replace av:=aM hp_;replace HB:=aM ((by rw [hw];exact below_set (HB.out) cK.out:Below w.heap.size w bn));clear hg hw hp_))
   go_roundg k2
   case measure=>have:=dC.out;have:=dD.out;omega
   exact⟨_,_,qZ,H',⟨by have:=dC.out;have:=dD.out;omega⟩,⟨qR av⟩,⟨qR aH⟩,⟨qK aa⟩,⟨qB⟩⟩
  obtain rfl:=oJ H
  obtain⟨dS,dU,di⟩:=Kd.R_slice aH.out
  subst di
  go_wp2
  go_ret
  exact⟨_,qW,qR av,qB⟩
def SaY.l0:Nat->List Bool->List Bool->Int->Option (Bool)
 | 0,_,_,_=>none
 | k+1,x0,x1,x5=>if x5 < (x0.length:Int) then (if 0<=x5 then (if x5 < (x1.length:Int) then (if ((rdOf false x0 x5) != (rdOf false x1 x5))=true then (some false) else (SaY.l0 k x0 x1 (wrap64 (x5+1)))) else (none)) else (none)) else (some ((x0.length:Int) == (x1.length:Int)))
def SaY.f (k:Nat) (l0 l1:List Bool):Option (Bool):=SaY.l0 k l0 l1 0
theorem SaY.calls (k:Nat) (A0:Option Addr) (c0:Nat) (l0:List Bool) (A1:Option Addr) (c1:Nat) (l1:List Bool) (r:Bool) (w:World) (hr0:Kd.C Kd.bool w A0 l0.length l0) (hc0:l0.length<=c0) (hr1:Kd.C Kd.bool w A1 l1.length l1) (hc1:l1.length<=c1) (h:SaY.f k l0 l1=some r) :
  Calls Tryz.prog 60 #[.slice A0 l0.length c0,.slice A1 l1.length c1] w fun e w'=>e = .returned (.bool r)/\Drawn0 w w':=by
 have aG:=aM hr0
 have aQ:=aM hc0
 clear hr0 hc0
 have HR1:=aM hr1
 have aT:=aM hc1
 clear hr1 hc1
 have H:(SaY.l0 k l0 l1 0)=some r:=h
 clear h
 have H':=aM H
 clear H
 go_enter Tryz.func60,Tryz.ntmps60
 go_wp2
 repeat (go_quiet (fail);try go_wp2)
 go_loopg [5] k (fun kq v5 w'=>∃ (aa:Int),v5 = .int .i64 aa/\Aside0 (SaY.l0 kq l0 l1 aa=some r)/\Aside0 (kq<=k)/\Drawn0 w w')
 case atStart=>exact⟨(0),qZ,H',⟨Nat.le_refl _⟩,by repeat (first|exact Drawn0.refl _|apply Drawn0.step)⟩
 clear H'
 try clear c1
 obtain⟨aa,rfl,HA,aH,⟨m1,rfl⟩⟩:=hrel
 rcases gk with _|k1
 ·exact absurd HA.out (by simp [SaY.l0])
 have H:=HA.out
 clear HA
 simp only [SaY.l0] at H
 replace H:=jD H;rcases H with ⟨az,H⟩ | ⟨az,H⟩
 ·replace H:=jI H;obtain⟨aJ,H⟩:=H
  replace H:=jI H;obtain⟨aK,H⟩:=H
  by_cases c6:((rdOf false l0 aa) != (rdOf false l1 aa))=true
  ·rw [if_pos c6] at H
   have aA:((rdOf false l0 aa) != (rdOf false l1 aa))=true:=c6
   (try (have aC:decide ((rdOf false l0 aa)=(rdOf false l1 aa))=false:=by simpa using c6))
   (try (have aD:((rdOf false l0 aa) == (rdOf false l1 aa))=false:=by simpa using c6))
   (try (have aN:¬ ((rdOf false l0 aa)=(rdOf false l1 aa)):=by simpa using c6))
   clear c6
   obtain rfl:=oJ H
   have ae:0<=(aa:Int):=qD
   have af:aa < (l0.length:Int):=qD
   obtain⟨ax,au,ai⟩:=Kd.at_bool aG.out aa ae af
   cases au
   replace ae:=eq_true ae
   replace af:=eq_true af
   have ag:0<=(aa:Int):=qD
   have ah:aa < (l1.length:Int):=qD
   obtain⟨ay,av,aj⟩:=Kd.at_bool HR1.out aa ag ah
   cases av
   replace ag:=eq_true ag
   replace ah:=eq_true ah
   go_wp2
   repeat (go_quiet (fail);try go_wp2)
   go_ret
   exact⟨qZ,qU⟩
  rw [if_neg c6] at H
  have aA:((rdOf false l0 aa) != (rdOf false l1 aa))=false:=by simpa using c6
  (try (have aC:decide ((rdOf false l0 aa)=(rdOf false l1 aa))=true:=by simpa using c6))
  (try (have aD:((rdOf false l0 aa) == (rdOf false l1 aa))=true:=by simpa using c6))
  clear c6
  have H':=aM H
  clear H
  have ae:0<=(aa:Int):=qD
  have af:aa < (l0.length:Int):=qD
  obtain⟨ax,au,ai⟩:=Kd.at_bool aG.out aa ae af
  cases au
  replace ae:=eq_true ae
  replace af:=eq_true af
  have ag:0<=(aa:Int):=qD
  have ah:aa < (l1.length:Int):=qD
  obtain⟨ay,av,aj⟩:=Kd.at_bool HR1.out aa ag ah
  cases av
  replace ag:=eq_true ag
  replace ah:=eq_true ah
  go_wp2
  repeat (go_quiet (fail);try go_wp2)
  go_roundg k1
  case measure=>have:=aH.out;omega
  exact⟨(wrap64 (aa+1)),qZ,H',⟨by have:=aH.out;omega⟩,by repeat (first|exact Drawn0.refl _|apply Drawn0.step)⟩
 obtain rfl:=oJ H
 go_wp2
 repeat (go_quiet (fail);try go_wp2)
 go_ret
 exact⟨qZ,qU⟩
def SaX.l0:Nat->List (S27)->List (List Bool)->Bool->Int->Option (Bool × (List (List Bool)))
 | 0,_,_,_,_=>none
 | k+1,x0,x1,x5,x6=>if x6>=0 then (if 0<=x6 then (if x6 < (x0.length:Int) then ((SaV.f k x0 x1 x6).bind fun aA=>((SaW.f k ((rd_T27 x0 x6).f0) ((rd_T27 x0 x6).f1) ((rd_T27 x0 x6).f2) ((rd_T27 x0 x6).f3) ((rd_T27 x0 x6).f4) aA).bind fun av=>(if x6 < (x1.length:Int) then ((SaY.f k av (rd_L6 x1 x6)).bind fun bU=>(if bU=true then (SaX.l0 k x0 x1 x5 (wrap64 (x6 - 1))) else (SaX.l0 k x0 (x1.set (x6:Int).toNat av) true (wrap64 (x6 - 1))))) else (none)))) else (none)) else (none)) else (some (x5,x1))
def SaX.f (k:Nat) (l0:List (S27)) (l1:List (List Bool)):Option (Bool × (List (List Bool))):=SaX.l0 k l0 l1 false (wrap64 ((l0.length:Int) - 1))
def SaX.T5:Bool × List (List Nat × List Nat):=(true,[([],[]),([],[]),([0,1],[0,1]),([2],[2]),([],[]),([],[]),([],[]),([4,5,6],[4,5,6]),([3,7,7],[3,7]),([8,8,0,1,2,3,4,5,6,7,8],[8])])
def SaX.B5:List Nat:=[0,0,3,7,0,0,0,112,255,511]
theorem SaX.tab5:rtab .any (opsOf Tryz.f43 5)=SaX.T5:=by kernel_rfl
theorem SaX.bits5:waitsOk SaX.T5.2 SaX.B5=true:=by kernel_rfl
theorem SaX.calls (k:Nat) (A0:Option Addr) (c0:Nat) (l0:List (S27)) (aI:Nat->Prop) (aC:Value) (l1:List (List Bool)) (r1:Bool) (r2:List (List Bool)) (w0 w:World) (hB:Below w0.heap.size w0 w) (hr0:∀ W_,Kept w W_ (fun k_=>aI k_)->Kd.C k27 W_ A0 l0.length l0) (hc0:l0.length<=c0) (ho1:Kd.S (Kd.slice 4 Kd.bool) 37 w w0.heap.size aI aC l1) (h:SaX.f k l0 l1=some (r1,r2)) :
  Calls Tryz.prog 43 #[.slice A0 l0.length c0,aC] w fun e w'=>e = .returned (.bool r1)/\Kd.S (Kd.slice 4 Kd.bool) 37 w' w0.heap.size (fun k_=>(aI k_\/w.heap.size<=k_)) aC r2/\Below w0.heap.size w0 w'/\Kept w w' (fun k_=>aI k_):=by
 have eQ:=Tryz.underlying27
 have aK:=aM hr0
 have eT:=aM hc0
 clear hr0 hc0
 have eU:=aM (show Kd.S (Kd.slice 4 Kd.bool) 37 w w0.heap.size (fun k_=>(aI k_\/w.heap.size<=k_)) aC l1 from Kd.S_mono ho1 (fun k_ hk=>(.inl hk)))
 have HK:=aM (Kept.refl w (fun k_=>aI k_))
 have HW0:=aM hB.size
 have HB:=aM hB
 clear hB
 have H:=h;unfold SaX.f at H
 clear h
 have H':=aM H
 clear H
 go_enter Tryz.func43,Tryz.ntmps43
 go_wp2
 go_loopg [5,6] k (fun kq v5 v6 w'=>∃ (af:List (List Bool)) (bE:Bool) (aa:Int),v5 = .bool bE/\v6 = .int .i64 aa/\Aside0 (SaX.l0 kq l0 af bE aa=some (r1,r2))/\Aside0 (kq<=k)/\Aside0 (Kd.S (Kd.slice 4 Kd.bool) 37 w' w0.heap.size (fun k_=>(aI k_\/w.heap.size<=k_)) aC af)/\Aside0 (Kept w w' (fun k_=>aI k_))/\Aside0 (Below w0.heap.size w0 w'))
 case atStart=>exact⟨(l1),(false),(wrap64 ((l0.length:Int) - 1)),qZ,qZ,H',⟨Nat.le_refl _⟩,⟨qS eU⟩,⟨qT⟩,⟨qB⟩⟩
 clear H'
 obtain⟨af,bE,aa,rfl,rfl,HA,dx,ae,HK,HB⟩:=hrel
 rcases gk with _|k1
 ·exact absurd HA.out (by simp [SaX.l0])
 have H:=HA.out
 clear HA
 simp only [SaX.l0] at H
 replace H:=jD H;rcases H with ⟨dF,H⟩ | ⟨dF,H⟩
 ·replace H:=jI H;obtain⟨eX,H⟩:=H
  replace H:=jI H;obtain⟨eY,H⟩:=H
  obtain⟨aA,A6,H⟩:=qE H
  try dsimp only at H
  obtain⟨av,A7,H⟩:=qE H
  try dsimp only at H
  replace H:=jI H;obtain⟨eZ,H⟩:=H
  obtain⟨bU,A9,H⟩:=qE H
  try dsimp only at H
  have bV:=aM H;clear H
  try go_wp2
  replace ae:=aM (Kd.S_drew ae.out)
  replace HK:=aM (Kept.drew HK.out)
  replace HB:=aM (below_drew1 HB.out)
  have ag:0<=(aa:Int):=qD
  have ah:aa < (l0.length:Int):=qD
  obtain⟨au,dG,aY,aZ,bg,bi,bn⟩:=at_T27 (Kd.C_kept_now aK.out HK.out) aa ag ah
  have dz:=bn
  have dA:=bi
  have dB:=bg
  have dC:=aZ
  have dD:=aY
  cases dG
  replace ag:=eq_true ag
  replace ah:=eq_true ah
  obtain⟨dH,bA,bW⟩:=Kd.S_slice ae.out
  (first|subst bW|(injection bW with bX dI bY;have dJ:=bX.symm;have dK:=bY.symm;clear bX dI bY;subst dJ;subst dK))
  refine start_ (n:=10) (S:=fun w'=>w'.cell? (au.add ((aa).toNat*5))=some (.int .i64 ((rd_T27 l0 aa).f0))/\w'.cell? ⟨(au.add ((aa).toNat*5)).block,(au.add ((aa).toNat*5)).off+1,none⟩=some (.int .i64 ((rd_T27 l0 aa).f1))/\w'.cell? ⟨(au.add ((aa).toNat*5)).block,(au.add ((aa).toNat*5)).off+2,none⟩=some (.int .i64 ((rd_T27 l0 aa).f2))/\w'.cell? ⟨(au.add ((aa).toNat*5)).block,(au.add ((aa).toNat*5)).off+3,none⟩=some (.int .i64 ((rd_T27 l0 aa).f3))/\w'.cell? ⟨(au.add ((aa).toNat*5)).block,(au.add ((aa).toNat*5)).off+4,none⟩=some (.int .i64 ((rd_T27 l0 aa).f4))) (ds:=[]) (jb 10 0) (by kernel_rfl) rfl rfl ⟨(foot_T27_0 (aK.out _ (by repeat (first|exact HK.out|apply Kept.alloc|apply Kept.drewN|apply Kept.drew))) aa (of_eq_true ag) (of_eq_true ah)),(foot_T27_1 (aK.out _ (by repeat (first|exact HK.out|apply Kept.alloc|apply Kept.drewN|apply Kept.drew))) aa (of_eq_true ag) (of_eq_true ah)),(foot_T27_2 (aK.out _ (by repeat (first|exact HK.out|apply Kept.alloc|apply Kept.drewN|apply Kept.drew))) aa (of_eq_true ag) (of_eq_true ah)),(foot_T27_3 (aK.out _ (by repeat (first|exact HK.out|apply Kept.alloc|apply Kept.drewN|apply Kept.drew))) aa (of_eq_true ag) (of_eq_true ah)),(foot_T27_4 (aK.out _ (by repeat (first|exact HK.out|apply Kept.alloc|apply Kept.drewN|apply Kept.drew))) aa (of_eq_true ag) (of_eq_true ah))⟩ (fun hHeld=>?_);refine with_tabW SaX.tab5 SaX.bits5 (fun HT_ HW_=>?_)
  generalize wr.drew=fC at ae HK HB aY aZ bg bi bn hHeld ⊢
  refine jp 0 15 (jb 10 1) ?_
  refine jp 1 16 (jb 10 3) ?_
  refine jp 2 17 (jb 10 7) ?_
  refine jp 4 19 (jb 10 23) ?_
  refine jp 5 20 (jb 10 55) ?_
  refine jp 6 21 (jb 10 119) ?_
  refine jt 3 18 (jb 10 127) ?_
  refine one_ (i:=7) (N:=some 22) (jb 10 255) rfl rfl (one_of HT_.out (by kernel_rfl)) (by decide) (fun K hK=>?_)
  refine goes_ Tryz.func38 (by kernel_rfl) rfl #[.slice (some au) l0.length c0,.slice dH af.length bA,.int .i64 aa] (by rfl) rfl rfl qM ?_
  with_reducible refine (SaV.calls k1 _ _ l0 _ _ af aa aA _ ?aD ?aG ?aN ?aQ A6.out).mono ?_
  (case aD=>exact Kd.C_kept_now aK.out qT)
  (case aG=>exact eT.out)
  (case aN=>exact kC (Kd.S_reads' ae.out).2.2)
  (case aQ=>exact (Kd.S_reads' ae.out).2.1)
  rintro e fD ⟨fe,rfl,ho0,hb⟩
  refine⟨_,rfl,?_⟩
  have ai:=aM (Kd.R_lower (Kd.R_newM (M:=fun k_=>(aI k_\/w.heap.size<=k_)) ho0 (by first|exact HK.out.1|exact (show Kept w _ (fun k_=>aI k_) from qT).1) (fun k_ h_=>.inr h_)) (below_size qB))
  replace ae:=aM (Kd.S_elder' (qS ae) (Kd.R_base ho0) hb)
  replace HK:=kT hb
  replace HB:=kH hb
  (try clear hb)
  (try clear hb2)
  (try clear hk)
  (try clear hi)
  (try clear ho0)
  obtain⟨aT,aU,bZ⟩:=Kd.R_slice ai.out
  (first|subst bZ|(injection bZ with bX dI bY;have dJ:=bX.symm;have dK:=bY.symm;clear bX dI bY;subst dJ;subst dK))
  refine hK.out _ _ ⟨(foot_T27_0 (aK.out _ (by repeat (first|exact HK.out|apply Kept.alloc|apply Kept.drewN|apply Kept.drew))) aa (of_eq_true ag) (of_eq_true ah)),(foot_T27_1 (aK.out _ (by repeat (first|exact HK.out|apply Kept.alloc|apply Kept.drewN|apply Kept.drew))) aa (of_eq_true ag) (of_eq_true ah)),(foot_T27_2 (aK.out _ (by repeat (first|exact HK.out|apply Kept.alloc|apply Kept.drewN|apply Kept.drew))) aa (of_eq_true ag) (of_eq_true ah)),(foot_T27_3 (aK.out _ (by repeat (first|exact HK.out|apply Kept.alloc|apply Kept.drewN|apply Kept.drew))) aa (of_eq_true ag) (of_eq_true ah)),(foot_T27_4 (aK.out _ (by repeat (first|exact HK.out|apply Kept.alloc|apply Kept.drewN|apply Kept.drew))) aa (of_eq_true ag) (of_eq_true ah))⟩ (fun hHeld=>?_)
  clear hK K
  refine norm_ (a':=?_) ?_ ?_
  rotate_left
  ·show Act.put _ (some 22) _=_
   simp only [Act.put,List.setIfInBounds_toArray,List.set_cons_zero,List.set_cons_succ,i64_w,i32_w]
   rfl
  refine one_ (i:=8) (N:=some 23) (jb 10 511) rfl rfl (one_of HT_.out (by kernel_rfl)) (by decide) (fun K hK=>?_)
  refine goes_ Tryz.func59 (by kernel_rfl) rfl #[.agg #[.int .i64 ((rd_T27 l0 aa).f0),.int .i64 ((rd_T27 l0 aa).f1),.int .i64 ((rd_T27 l0 aa).f2),.int .i64 ((rd_T27 l0 aa).f3),.int .i64 ((rd_T27 l0 aa).f4)],.slice aT aA.length aU] (by rfl) rfl rfl qM ?_
  with_reducible refine (SaW.calls k1 ((rd_T27 l0 aa).f0) ((rd_T27 l0 aa).f1) ((rd_T27 l0 aa).f2) ((rd_T27 l0 aa).f3) ((rd_T27 l0 aa).f4) _ _ aA av _ ?aD ?aG A7.out).mono ?_
  (case aD=>exact kC (Kd.R_reads' ai.out).2.2)
  (case aG=>exact (Kd.R_reads' ai.out).2.1)
  rintro e bF ⟨fo,rfl,ho0,hb⟩
  refine⟨_,rfl,?_⟩
  have aj:=aM (Kd.R_lower (Kd.R_new' (Kd.R_newM (M:=fun k_=>(aI k_\/w.heap.size<=k_)) ho0 (by first|exact HK.out.1|exact (show Kept w _ (fun k_=>aI k_) from qT).1) (fun k_ h_=>.inr h_)) (Kd.R_lt (qR ai))) (below_size qB))
  replace ae:=aM (Kd.S_elder' (qS ae) (Kd.R_base ho0) hb)
  replace ai:=kO ai ho0 hb
  replace HK:=kT hb
  replace HB:=kH hb
  (try clear hb)
  (try clear hb2)
  (try clear hk)
  (try clear hi)
  (try clear ho0)
  refine hK.out _ _ ⟨(foot_T27_0 (aK.out _ (by repeat (first|exact HK.out|apply Kept.alloc|apply Kept.drewN|apply Kept.drew))) aa (of_eq_true ag) (of_eq_true ah)),(foot_T27_1 (aK.out _ (by repeat (first|exact HK.out|apply Kept.alloc|apply Kept.drewN|apply Kept.drew))) aa (of_eq_true ag) (of_eq_true ah)),(foot_T27_2 (aK.out _ (by repeat (first|exact HK.out|apply Kept.alloc|apply Kept.drewN|apply Kept.drew))) aa (of_eq_true ag) (of_eq_true ah)),(foot_T27_3 (aK.out _ (by repeat (first|exact HK.out|apply Kept.alloc|apply Kept.drewN|apply Kept.drew))) aa (of_eq_true ag) (of_eq_true ah)),(foot_T27_4 (aK.out _ (by repeat (first|exact HK.out|apply Kept.alloc|apply Kept.drewN|apply Kept.drew))) aa (of_eq_true ag) (of_eq_true ah))⟩ (fun hHeld=>?_)
  clear hK K
  refine norm_ (a':=?_) ?_ ?_
  rotate_left
  ·show Act.put _ (some 23) _=_
   simp only [Act.put,List.setIfInBounds_toArray,List.set_cons_zero,List.set_cons_succ,i64_w,i32_w]
   rfl
  refine jp 9 7 (jb 10 1023) ?_
  refine done_ (done_of HT_.out (by kernel_rfl)) ?_
  have bG:0<=(aa:Int):=qD
  have bH:aa < (af.length:Int):=qD
  obtain⟨eB,aV,bB,dL,bq,bu,bv⟩:=at_L6 (Kd.S_reads' ae.out).2.2 aa bG bH
  cases dL
  obtain⟨eD,bN,bO,bC⟩:=Kd.S_get ae.out [] aa bG (by first|exact bH|exact qD|(have e_:=(Kd.S_reads' ae.out).1;omega))
  obtain⟨dE,rfl,aJ⟩:=bO
  have ax:=bC 0 _ rfl
  rw [Nat.add_zero,show ((Kd.slice 4 Kd.bool)).sz=1 from rfl,Nat.mul_one] at ax
  replace ax:=Option.some.inj (ax.symm.trans bq)
  rw [ax] at aJ
  have ay:=aM (show Kd.R Kd.bool 4 _ _ _ _ (rd_L6 af aa) from aJ)
  clear ax aJ
  clear bC bN
  have az:=aM bv
  have bz:=aM bu
  clear bv bu
  replace bG:=eq_true bG
  replace bH:=eq_true bH
  obtain⟨aW,aX,dM⟩:=Kd.R_slice aj.out
  subst dM
  have H:=bV.out;clear bV
  replace H:=jB H;rcases H with ⟨rfl,H⟩ | ⟨rfl,H⟩
  ·have H':=aM H
   clear H
   try go_wp2_with (first|((with_reducible refine jc 60 29 rfl rfl ?_);refine jG Tryz.func60 #[.slice aW av.length aX,.slice aV (rd_L6 af aa).length bB] ?_;refine (SaY.calls k1 _ _ av _ _ (rd_L6 af aa) true _ ?aD ?aG ?aN ?aQ A9.out).mono ?_;(case aD=>exact kC (Kd.R_reads' aj.out).2.2);(case aG=>exact (Kd.R_reads' aj.out).2.1);(case aN=>repeat (first|exact (kC az.out)|(with_reducible refine Kd.C_alloc ?_ _)|(with_reducible refine Kd.C_drewN ?_ _)|(with_reducible refine Kd.C_drew ?_)));(case aQ=>exact bz.out);rintro e w' ⟨rfl,⟨nd,rfl⟩⟩;refine⟨_,rfl,?_⟩))
   go_roundg k1
   case measure=>have:=dx.out;omega
   exact⟨(af),(bE),(wrap64 (aa - 1)),qZ,qZ,H',⟨by have:=dx.out;omega⟩,⟨by (with_reducible repeat (first|apply Kd.S_alloc|apply Kd.S_drewN|apply Kd.S_drew));exact Kd.S_mono ae.out (fun _ hk=>hk.1.1)⟩,⟨qT⟩,⟨qB⟩⟩
  obtain⟨cz,bD⟩:=ky ((af.set (aa:Int).toNat av):List (List Bool))
  first|replace H:=kz bD H|rw [<- bD.out] at H
  have H':=aM H
  clear H
  try go_wp2_with (first|((with_reducible refine jc 60 29 rfl rfl ?_);refine jG Tryz.func60 #[.slice aW av.length aX,.slice aV (rd_L6 af aa).length bB] ?_;refine (SaY.calls k1 _ _ av _ _ (rd_L6 af aa) false _ ?aD ?aG ?aN ?aQ A9.out).mono ?_;(case aD=>exact kC (Kd.R_reads' aj.out).2.2);(case aG=>exact (Kd.R_reads' aj.out).2.1);(case aN=>repeat (first|exact (kC az.out)|(with_reducible refine Kd.C_alloc ?_ _)|(with_reducible refine Kd.C_drewN ?_ _)|(with_reducible refine Kd.C_drew ?_)));(case aQ=>exact bz.out);rintro e w' ⟨rfl,⟨nd,rfl⟩⟩;refine⟨_,rfl,?_⟩;(try (rw [drewN_self bF];generalize hq_:World.drewN bF _=bF;have dN:=aM (Kd.R_drewN ay.out nd);rw [hq_] at dN;have dO:=aM (Kd.R_drewN ai.out nd);rw [hq_] at dO;have dP:=aM (Kd.R_drewN aj.out nd);rw [hq_] at dP;have dQ:=aM (Kd.S_drewN ae.out nd);rw [hq_] at dQ;have eF:Aside0 (Kept w bF (fun k_=>aI k_)):=⟨by rw [<- hq_];exact qT⟩;have eG:Aside0 (Below w0.heap.size w0 bF):=⟨by rw [<- hq_];exact qB⟩;have eH:Aside0 (Kd.C Kd.bool bF aV (rd_L6 af aa).length (rd_L6 af aa)):=⟨by rw [<- hq_];exact (kC az.out)⟩;clear ay ai aj ae HK HB az hq_;have ay:=dN;have ai:=dO;have aj:=dP;have ae:=dQ;have HK:=eF;have HB:=eG;have az:=eH;clear dN dO dP dQ eF eG eH));have dR:0<=(aa:Int):=qD;have dS:(aa:Int) < ((af.length:Int):Int):=qD;obtain⟨aH,fq,cB,cK,dU,fu,cO⟩:=Kd.S_form ae.out (by omega);(first|cases cB|(injection cB with ea_ en_ ec_;(first|subst ea_|(injection ea_ with ea_;subst ea_));subst ec_;clear en_));have dV:=aM cK;have fw:=aM cO;clear cK dU cO;have dW:=aM (show (aI aH\/w.heap.size<=aH) from ((Kd.S_R ae.out).1 _ rfl).1.1);(first|simp only [add_plain] at bq|skip);obtain⟨_,fA,df,dh,bJ,bK,_,_⟩:=Kd.S_elem ae.out [] (aa:Int) dR dS;obtain⟨dX,rfl,dY⟩:=dh;have bP:=bJ 0 _ rfl;have bQ:=bK 0;(try simp only [show ((Kd.slice 4 Kd.bool)).sz=1 from rfl,Nat.mul_one,Nat.add_zero] at bP);(try simp only [show ((Kd.slice 4 Kd.bool)).sz=1 from rfl,Nat.mul_one,Nat.add_zero] at bQ);clear df bJ bK;(try clear dh);replace dR:=eq_true dR;replace dS:=eq_true dS;have n_:=aM (Kd.S_mono (ok':=(fun k_=>(aI k_\/w.heap.size<=k_)/\some k_≠(.slice aT aA.length aU:Value).ownBlock/\some k_≠(.slice aW av.length aX:Value).ownBlock)) ae.out (by first|exact fun k_ hk=>⟨hk.1.1,⟨hk.1.2,hk.2⟩⟩|exact fun k_ hk=>hk));clear ae;have ae:=n_;clear n_;have dZ:=aM (show Kd.S (Kd.slice 4 Kd.bool) 37 bF w0.heap.size (fun k_=>((fun k_=>(aI k_\/w.heap.size<=k_)/\some k_≠(.slice aT aA.length aU:Value).ownBlock)) k_/\¬ ((fun k_=>some k_=(.slice aW av.length aX:Value).ownBlock)) k_) (.slice (some ⟨aH,0,none⟩) af.length bA) af from (by (with_reducible repeat (first|apply Kd.S_alloc|apply Kd.S_drewN|apply Kd.S_drew));exact Kd.S_mono ae.out (by first|exact fun k_ hk=>⟨⟨hk.1,hk.2.1⟩,fun e_=>hk.2.2 e_⟩|exact fun k_ hk=>hk)));obtain⟨eO,fB,di,dn,bL,bM,bR,dw⟩:=Kd.S_elem dZ.out [] (aa:Int) (qD) (by have h_:(aa:Int) < ((af.length:Int):Int):=qD;first|exact h_|(have e_:=(Kd.S_reads' ae.out).1;omega)|simpa using h_);obtain⟨d9,rfl,ed⟩:=dn;have bI:=Kd.S_seg dw (qD) (by have h_:(aa:Int) < ((af.length:Int):Int):=qD;first|exact h_|(have e_:=(Kd.S_reads' ae.out).1;omega)|simpa using h_) (seg:=[.slice aW av.length aX]) (j:=0) (show 1<=1 from by decide) (x':=av) (Kd.M_row (Kd.R_mono (Kd.R_tight rfl (Kd.R_mono (ok':=fun k_=>((fun k_=>(aI k_\/w.heap.size<=k_)/\some k_≠(.slice aT aA.length aU:Value).ownBlock)) k_/\k_≠aH) (Kd.R_apart' (aj.out) (Kd.S_typed ae.out) (by decide)) (by first|exact fun k_ hk=>⟨⟨hk.1.1.1,hk.1.2⟩,fun e_=>(hk.2) (by rw [e_];rfl)⟩|exact fun k_ hk=>⟨⟨hk.1.1,hk.1.2⟩,fun e_=>(hk.2) (by rw [e_];rfl)⟩))) (fun _ h_=>Or.inr (h_)))) (fun _ hk=>hk) (fun k_ hk_=>((Kd.R_mono (ok':=fun k_=>((fun k_=>(aI k_\/w.heap.size<=k_)/\some k_≠(.slice aT aA.length aU:Value).ownBlock)) k_/\k_≠aH) (Kd.R_apart' (aj.out) (Kd.S_typed ae.out) (by decide)) (by first|exact fun k_ hk=>⟨⟨hk.1.1.1,hk.1.2⟩,fun e_=>(hk.2) (by rw [e_];rfl)⟩|exact fun k_ hk=>⟨⟨hk.1.1,hk.1.2⟩,fun e_=>(hk.2) (by rw [e_];rfl)⟩))).1 k_ hk_.symm);have bS:=bL 0 _ rfl;(try simp only [show ((Kd.slice 4 Kd.bool)).sz=1 from rfl,Nat.mul_one,Nat.add_zero] at bS);have bT:=bM 0;(try simp only [show ((Kd.slice 4 Kd.bool)).sz=1 from rfl,Nat.mul_one,Nat.add_zero] at bT);clear di bL bM bR dw;(try clear dn);(try simp only [show ((Kd.slice 4 Kd.bool)).sz=1 from rfl,Nat.mul_one,Nat.add_zero] at bI))|((with_reducible refine gate_store (t:=37) (p:=34) rfl ?_);refine store_event (t:=37) (p:=34) (v:=?ek) (w1:=(bF.setCell ⟨aH,(aa:Int).toNat,none⟩ (.slice aW av.length aX))) ?hg ?ho ?hn ?hr ?_;(case ho=>rfl);(case hg=>rfl);(case hn=>rfl);(case hr=>first|(go_simp;done)|(go_simp;rfl));intro eu hw;have hg:bF.grownBy eu (some aH):=(by rw [hw];exact bI.2);have hp_:Kd.S (Kd.slice 4 Kd.bool) 37 eu w0.heap.size (fun k_=>(aI k_\/w.heap.size<=k_)/\some k_≠(.slice aT aA.length aU:Value).ownBlock) (.slice (some ⟨aH,0,none⟩) af.length bA) cz:=(by rw [hw,bD.out];exact bI.1);clear bI;replace ai:=aM (Kd.R_over' (v:=(.slice (some ⟨aH,0,none⟩) af.length bA)) (qR ai) (Kd.S_typed ae.out) (by decide) hg);replace ay:=aM (Kd.R_after (v:=(.slice (some ⟨aH,0,none⟩) af.length bA)) (v1:=(.slice (some ⟨aH,0,none⟩) af.length bA)) (ok:=(fun k_=>(aI k_\/w.heap.size<=k_)/\some k_≠(.slice aT aA.length aU:Value).ownBlock/\some k_≠(.slice aW av.length aX:Value).ownBlock)) (by (with_reducible repeat (first|apply Kd.R_alloc|apply Kd.R_drewN|apply Kd.R_drew));exact Kd.R_mono ay.out (fun _ hk=>⟨⟨hk.1.1.1,⟨hk.1.1.2,hk.1.2⟩⟩,hk.2⟩)) hg (.inl rfl));replace HB:=aM ((by rw [hw];exact below_set (HB.out) dV.out:Below w0.heap.size w0 eu));replace HK:=aM (Kept.of_grown (S:=(fun k_=>aI k_)) hg qT (fun k_ e_=>((Kd.S_R ae.out).1 k_ e_).1));replace ae:=aM hp_;clear aj;clear hg hw hp_))
  go_roundg k1
  case measure=>have:=dx.out;omega
  exact⟨(cz),(true),(wrap64 (aa - 1)),qZ,qZ,H',⟨by have:=dx.out;omega⟩,⟨by (with_reducible repeat (first|apply Kd.S_alloc|apply Kd.S_drewN|apply Kd.S_drew));exact Kd.S_mono ae.out (fun _ hk=>hk.1)⟩,⟨qT⟩,⟨qB⟩⟩
 obtain⟨rfl,rfl⟩:=oJ2 H
 go_wp2
 go_ret
 exact⟨qW,qS ae,qB,qT⟩
mutual
def Saq.l0:Nat->List (S27)->List (List Bool)->Int->Option ((List (List Bool)))
 | 0,_,_,_=>none
 | k+1,x0,x3,x4=>if x4 < (x0.length:Int) then (if 12<=281474976710656 then (if x3.length < 5864062014805 then (Saq.l0 k x0 (x3 ++ [(List.replicate 12 false)]) (wrap64 (x4+1))) else (none)) else (none)) else (Saq.l1 k x0 x3)
def Saq.l1:Nat->List (S27)->List (List Bool)->Option ((List (List Bool)))
 | 0,_,_=>none
 | k+1,x0,x3=>(SaX.f k x0 x3).bind fun ay=>(if ay.1=true then (Saq.l1 k x0 ay.2) else (some ay.2))
end
def Saq.f (k:Nat) (l0:List (S27)):Option ((List (List Bool))):=(some (([]:List (List Bool)):List (List Bool))).bind fun aG=>((Saf.f k l0).bind fun aJ=>(if aJ=true then (Saq.l0 k l0 aG 0) else (some aG)))
theorem Saq.calls (k:Nat) (A0:Option Addr) (c0:Nat) (l0:List (S27)) (r:List (List Bool)) (w:World) (hr0:Kd.C k27 w A0 l0.length l0) (hc0:l0.length<=c0) (h:Saq.f k l0=some r) :
  Calls Tryz.prog 21 #[.slice A0 l0.length c0] w fun e w'=>∃ bC:Value,e = .returned (bC)/\Kd.S (Kd.slice 4 Kd.bool) 37 w' w.heap.size (fun _=>True) bC r/\Below w.heap.size w w':=by
 have bg:=aM hr0
 have bi:=aM hc0
 clear hr0 hc0
 have HB:=aM (Below.refl w.heap.size w)
 have H:=h;unfold Saq.f at H
 clear h
 obtain⟨aG,ah⟩:=ky ((([]:List (List Bool))):List (List Bool))
 first|replace H:=kz ah H|rw [<- ah.out] at H
 obtain⟨aJ,A2,H⟩:=qE H
 try dsimp only at H
 replace H:=jB H;rcases H with ⟨rfl,H⟩ | ⟨rfl,H⟩
 ·have H':=aM H
  clear H
  go_enter Tryz.func21,Tryz.ntmps21
  go_wp2_with (first|((with_reducible refine jd 5 rfl ?_);refine Kd.S_lit (Kd.slice 4 Kd.bool) _ 37 ?hg (N:=5) ?hd (xs:=([]:List (List Bool))) (inner:=[]) (ok:=fun _=>True) (okp:=fun _=>True) ?hr ?hp (fun _ hk=>hk) trivial (Below.refl _ _) (Nat.le_refl _) (by simp) ?_;(case hd=>rfl);(case hg=>rfl);(case hr=>first|(go_simp;done)|(go_simp;rfl));(case hp=>exact (Reps.none _ _));intro bq w4 aK hb hg_ hnew_;clear hg_ hnew_;(first|rw [<- ah.out] at aK|(simp only [Int.reduceToNat] at aK;rw [<- ah.out] at aK));have ae:=aM (Kd.S_lower aK (below_size qB));replace HB:=kH hb;clear hb aK)|((with_reducible refine jc 36 7 rfl rfl ?_);refine jG Tryz.func36 #[.slice A0 l0.length c0] ?_;refine (Saf.calls k _ _ l0 true _ ?af ?ag A2.out).mono ?_;(case af=>exact kC (Kd.C_below bg.out HB.out));(case ag=>exact bi.out);rintro e w6 ⟨rfl,hb⟩;refine⟨_,rfl,?_⟩;replace ae:=kS ae hb;replace HB:=kH hb;clear hb))
  go_loopg [3,4] k (fun kq v3 v4 w'=>∃ (av:List (List Bool)) (aI:Int),v4 = .int .i64 aI/\Aside0 (Saq.l0 kq l0 av aI=some r)/\Aside0 (kq<=k)/\Aside0 (Kd.S (Kd.slice 4 Kd.bool) 37 w' w.heap.size (fun _=>True) v3 av)/\Aside0 (Below w.heap.size w w'))
  case atStart=>exact⟨(aG),(0),qZ,H',⟨Nat.le_refl _⟩,⟨qS ae⟩,⟨qB⟩⟩
  clear H'
  obtain⟨av,aI,rfl,HA,bn,aa,HB⟩:=hrel
  rcases gk with _|k1
  ·exact absurd HA.out (by simp [Saq.l0])
  have H:=HA.out
  clear HA
  simp only [Saq.l0] at H
  replace H:=jD H;rcases H with ⟨aN,H⟩ | ⟨aN,H⟩
  ·replace H:=jJ H;obtain⟨bI,bJ,H⟩:=H
   obtain⟨aH,aj⟩:=ky ((List.replicate 12 false):List Bool)
   first|replace H:=kz aj H|rw [<- aj.out] at H
   replace H:=jL H;obtain⟨bu,H⟩:=H
   obtain⟨bK,az⟩:=ky ((av ++ [aH]):List (List Bool))
   first|replace H:=kz az H|rw [<- az.out] at H
   have H':=aM H
   clear H
   go_wp2_with (first|((with_reducible refine jd 17 rfl ?_);refine Kd.R_make Kd.bool _ 4 rfl (N:=17) rfl 37 _ _ rfl 12 rfl rfl Tryz.underlying37 (.bool false) 1 info4 rfl (by decide) (by omega) false (ok:=fun _=>True) (okp:=fun _=>True) rfl (fun _ hk=>hk) trivial (by omega) (by omega) (Below.refl _ _) (Nat.le_refl _) ?_;intro bL bM ax hb hg_ hnew_;clear hg_ hnew_;(first|rw [<- aj.out] at ax|(simp only [Int.reduceToNat] at ax;rw [<- aj.out] at ax));have au:=kL ax;replace aa:=aM (Kd.S_elder' (qS aa) (Kd.R_base ax) hb);replace HB:=kH hb;clear hb ax;obtain⟨aQ,aT,bv⟩:=Kd.R_slice au.out;subst bv)|((with_reducible refine gate_builtin (b:=.append) (xs:=#[.tmp 16,.tmp 18]) rfl ?_);at_builtin;refine Kd.S_append (Kd.slice 4 Kd.bool) (w0:=w) w.heap.size rfl (.tmp 16) (.tmp 18) 33 37 (.slice none 0 0) 24 rfl Tryz.underlying33 info37 rfl (by decide) (by omega) u3 av aH [.slice aQ aH.length aT] (fun _=>True) (fun k_=>some k_=(.slice aQ aH.length aT:Value).ownBlock) rfl rfl ?aP (fun k_ hk_=>((Kd.R_mono (ok':=fun k_=>((fun _=>True)) k_/\some k_≠(u3:Value).ownBlock) (Kd.R_apart' (au.out) (Kd.S_typed aa.out) (by decide)) (fun k_ hk=>⟨trivial,hk.2⟩))).1 k_ hk_.symm) ?aF ?aO ?aB ?aS ?aL ?_;(case aP=>exact Kd.M_row (Kd.R_mono (Kd.R_tight rfl (Kd.R_mono (ok':=fun k_=>((fun _=>True)) k_/\some k_≠(u3:Value).ownBlock) (Kd.R_apart' (au.out) (Kd.S_typed aa.out) (by decide)) (fun k_ hk=>⟨trivial,hk.2⟩))) (fun _ h_=>h_)));(case aB=>exact qB);(case aF=>exact (fun _ _=>trivial));(case aO=>exact (by (with_reducible repeat (first|apply Kd.S_alloc|apply Kd.S_drewN|apply Kd.S_drew));exact Kd.S_mono aa.out (by first|exact fun k_ hk=>⟨trivial,fun e_=>hk.2 e_⟩|exact fun k_ hk=>hk)));(case aS=>exact (below_size qB));(case aL=>have:=bu.out;omega);intro bN bO ho hb hg hat;rw [<- az.out] at ho;have aU:=aM ho;replace HB:=aM hb;clear aa au;clear ho hb hg hat))
   go_roundg k1
   case measure=>have:=bn.out;omega
   exact⟨_,_,qZ,H',⟨by have:=bn.out;omega⟩,⟨qS aU⟩,⟨qB⟩⟩
  have H':=aM H
  clear H
  go_wp2
  go_loopg [] k1 (fun kq w'=>∃ (ai:List (List Bool)),Aside0 (Saq.l1 kq l0 ai=some r)/\Aside0 (kq<=k1)/\Aside0 (Kd.S (Kd.slice 4 Kd.bool) 37 w' w.heap.size (fun _=>True) u3 ai)/\Aside0 (Below w.heap.size w w'))
  case atStart=>exact⟨(av),H',⟨Nat.le_refl _⟩,⟨qS aa⟩,⟨qB⟩⟩
  clear H'
  try clear aN
  obtain⟨ai,HA,bD,aa,HB⟩:=hrel
  rcases gk with _|k2
  ·exact absurd HA.out (by simp [Saq.l1])
  have H:=HA.out
  clear HA
  simp only [Saq.l1] at H
  obtain⟨⟨bP,aV⟩,bE,H⟩:=qE H
  try dsimp only at H
  replace H:=jB H;rcases H with ⟨rfl,H⟩ | ⟨rfl,H⟩
  ·have H':=aM H
   clear H
   obtain⟨aW,aX,bz⟩:=Kd.S_slice aa.out
   subst bz
   go_wp2_with (first|((with_reducible refine jc 43 22 rfl rfl ?_);refine jG Tryz.func43 #[.slice A0 l0.length c0,.slice aW ai.length aX] ?_;refine (SaX.calls k2 _ _ l0 ?bF (.slice aW ai.length aX) ai true aV w _ ?af ?ag ?aA ?aC bE.out).mono ?_;(case aC=>exact Kd.S_bound aa.out);(case af=>exact qB);(case ag=>exact Kd.C_kept_came k27_heap bg.out qB (fun k_ hs_=>(by first|exact Kd.R_base aa.out k_ hs_.symm|exact hs_.2.1)));(case aA=>exact bi.out);rintro e bA ⟨rfl,hy0,hb,hkp⟩;refine⟨_,rfl,?_⟩;replace aa:=aM ((by first|exact Kd.S_mono (ok':=fun k_=>True) hy0 (fun k_ h_=>Or.elim h_ (fun h_=>h_.1) (fun h_=>.inr (by first|exact Nat.le_trans HK.out.1 h_|exact Nat.le_trans (below_size HB.out) h_)))|exact Kd.S_mono (ok':=fun k_=>True) hy0 (fun _ _=>trivial)));replace HB:=aM hb;(try clear hb);(try clear hkp);(try clear hy0)))
   go_roundg k2
   case measure=>have:=bn.out;have:=bD.out;omega
   exact⟨_,H',⟨by have:=bn.out;have:=bD.out;omega⟩,⟨qS aa⟩,⟨qB⟩⟩
  obtain rfl:=oJ H
  obtain⟨aY,aZ,bB⟩:=Kd.S_slice aa.out
  subst bB
  go_wp2_with (first|((with_reducible refine jc 43 22 rfl rfl ?_);refine jG Tryz.func43 #[.slice A0 l0.length c0,.slice aY ai.length aZ] ?_;refine (SaX.calls k2 _ _ l0 ?bG (.slice aY ai.length aZ) ai false aV w _ ?af ?ag ?aA ?aC bE.out).mono ?_;(case aC=>exact Kd.S_bound aa.out);(case af=>exact qB);(case ag=>exact Kd.C_kept_came k27_heap bg.out qB (fun k_ hs_=>(by first|exact Kd.R_base aa.out k_ hs_.symm|exact hs_.2.1)));(case aA=>exact bi.out);rintro e bA ⟨rfl,hy0,hb,hkp⟩;refine⟨_,rfl,?_⟩;replace aa:=aM ((by first|exact Kd.S_mono (ok':=fun k_=>True) hy0 (fun k_ h_=>Or.elim h_ (fun h_=>h_.1) (fun h_=>.inr (by first|exact Nat.le_trans HK.out.1 h_|exact Nat.le_trans (below_size HB.out) h_)))|exact Kd.S_mono (ok':=fun k_=>True) hy0 (fun _ _=>trivial)));replace HB:=aM hb;(try clear hb);(try clear hkp);(try clear hy0)))
  go_ret
  exact⟨_,qW,qS aa,qB⟩
 obtain rfl:=oJ H
 go_enter Tryz.func21,Tryz.ntmps21
 go_wp2_with (first|((with_reducible refine jd 5 rfl ?_);refine Kd.S_lit (Kd.slice 4 Kd.bool) _ 37 ?hg (N:=5) ?hd (xs:=([]:List (List Bool))) (inner:=[]) (ok:=fun _=>True) (okp:=fun _=>True) ?hr ?hp (fun _ hk=>hk) trivial (Below.refl _ _) (Nat.le_refl _) (by simp) ?_;(case hd=>rfl);(case hg=>rfl);(case hr=>first|(go_simp;done)|(go_simp;rfl));(case hp=>exact (Reps.none _ _));intro bq bQ aD hb hg_ hnew_;clear hg_ hnew_;(first|rw [<- ah.out] at aD|(simp only [Int.reduceToNat] at aD;rw [<- ah.out] at aD));have ae:=aM (Kd.S_lower aD (below_size qB));replace HB:=kH hb;clear hb aD)|((with_reducible refine jc 36 7 rfl rfl ?_);refine jG Tryz.func36 #[.slice A0 l0.length c0] ?_;refine (Saf.calls k _ _ l0 false _ ?af ?ag A2.out).mono ?_;(case af=>exact kC (Kd.C_below bg.out HB.out));(case ag=>exact bi.out);rintro e bR ⟨rfl,hb⟩;refine⟨_,rfl,?_⟩;replace ae:=kS ae hb;replace HB:=kH hb;clear hb))
 go_ret
 exact⟨_,qW,qS ae,qB⟩
def Sbe.f (ai aa av ax ay:Int) (l1:List Bool):Option (Bool):=if ai=1 then (if 0<=aa then (if aa < (l1.length:Int) then (some (!(rdOf false l1 aa))) else (none)) else (none)) else (if ai=2 then (if 0<=aa then (if aa < (l1.length:Int) then (some (!(rdOf false l1 aa))) else (none)) else (none)) else (if ai=3 then (if 0<=aa then (if aa < (l1.length:Int) then (some (!(rdOf false l1 aa))) else (none)) else (none)) else (some false)))
theorem Sbe_0 {G:Prop} (h:G:=by
  go_enter Tryz.func37,Tryz.ntmps37
  go_wp2_with (first|((with_reducible refine jd 2 rfl ?_);refine jX _ 27 ?_;intro aj hg aI hbox hb;have ae:=aM hbox;have au:=kG hg;replace HB:=kH hb;clear hb hbox hg;have aJ:=jz5 ae;have az:0<=(aa:Int):=qD;have aA:aa < (l1.length:Int):=qD;obtain⟨aZ,aQ,af⟩:=Kd.at_bool HR1.out aa az aA;cases aQ;replace af:=kx HB af;replace az:=eq_true az;replace aA:=eq_true aA))
  go_ret
  exact⟨qW,qB⟩):G:=h
theorem Sbe.calls (ai aa av ax ay:Int) (A1:Option Addr) (c1:Nat) (l1:List Bool) (r:Bool) (w:World) (hr1:Kd.C Kd.bool w A1 l1.length l1) (hc1:l1.length<=c1) (h:Sbe.f ai aa av ax ay l1=some r) :
  Calls Tryz.prog 37 #[.agg #[.int .i64 ai,.int .i64 aa,.int .i64 av,.int .i64 ax,.int .i64 ay],.slice A1 l1.length c1] w fun e w'=>e = .returned (.bool r)/\Below w.heap.size w w':=by
 have bv:=Tryz.underlying27
 have HR1:=aM hr1
 have bC:=aM hc1
 clear hr1 hc1
 have HB:=aM (Below.refl w.heap.size w)
 have H:=h;unfold Sbe.f at H
 clear h
 replace H:=jE H;rcases H with ⟨aT,aU,H⟩ | ⟨c3,aT,aU,H⟩
 ·replace H:=jI H;obtain⟨bz,H⟩:=H
  replace H:=jI H;obtain⟨bA,H⟩:=H
  obtain rfl:=oJ H
  exact Sbe_0
 replace H:=jE H;rcases H with ⟨aV,aW,H⟩ | ⟨c8,aV,aW,H⟩
 ·replace H:=jI H;obtain⟨bB,H⟩:=H
  replace H:=jI H;obtain⟨bg,H⟩:=H
  obtain rfl:=oJ H
  go_enter Tryz.func37,Tryz.ntmps37
  go_wp2_with (first|((with_reducible refine jd 2 rfl ?_);refine jX _ 27 ?_;intro aj hg aI hbox hb;have ae:=aM hbox;have au:=kG hg;replace HB:=kH hb;clear hb hbox hg;have aJ:=jz5 ae;have aC:0<=(aa:Int):=qD;have aD:aa < (l1.length:Int):=qD;obtain⟨bi,aX,ag⟩:=Kd.at_bool HR1.out aa aC aD;cases aX;replace ag:=kx HB ag;replace aC:=eq_true aC;replace aD:=eq_true aD))
  go_ret
  exact⟨qW,qB⟩
 replace H:=jE H;rcases H with ⟨aK,aN,H⟩ | ⟨c13,aK,aN,H⟩
 ·replace H:=jI H;obtain⟨bn,H⟩:=H
  replace H:=jI H;obtain⟨bq,H⟩:=H
  obtain rfl:=oJ H
  go_enter Tryz.func37,Tryz.ntmps37
  go_wp2_with (first|((with_reducible refine jd 2 rfl ?_);refine jX _ 27 ?_;intro aj hg aI hbox hb;have ae:=aM hbox;have au:=kG hg;replace HB:=kH hb;clear hb hbox hg;have aJ:=jz5 ae;have aG:0<=(aa:Int):=qD;have aH:aa < (l1.length:Int):=qD;obtain⟨bu,aY,ah⟩:=Kd.at_bool HR1.out aa aG aH;cases aY;replace ah:=kx HB ah;replace aG:=eq_true aG;replace aH:=eq_true aH))
  go_ret
  exact⟨qW,qB⟩
 obtain rfl:=oJ H
 exact Sbe_0
def Saj.l0:Nat->List (S27)->List (S27)->List (List Bool)->Int->Option ((List (S27)) × Bool)
 | 0,_,_,_,_=>none
 | k+1,x0,x4,x5,x6=>if x6 < (x0.length:Int) then (if 0<=x6 then ((SaV.f k x0 x5 x6).bind fun aI=>((Sbe.f ((rd_T27 x0 x6).f0) ((rd_T27 x0 x6).f1) ((rd_T27 x0 x6).f2) ((rd_T27 x0 x6).f3) ((rd_T27 x0 x6).f4) aI).bind fun aW=>(if aW=true then (if x4.length < 3518437208883 then (Saj.l0 k x0 (x4 ++ [(⟨4,0,0,0,wrap64 (x6+1)⟩:S27)]) x5 (wrap64 (x6+1))) else (none)) else (if x4.length < 3518437208883 then (Saj.l0 k x0 (x4 ++ [(⟨(rd_T27 x0 x6).f0,(rd_T27 x0 x6).f1,(rd_T27 x0 x6).f2,(rd_T27 x0 x6).f3,(rd_T27 x0 x6).f4⟩:S27)]) x5 (wrap64 (x6+1))) else (none))))) else (none)) else (some (x4,true))
def Saj.f (k:Nat) (l0:List (S27)):Option ((List (S27)) × Bool):=(some (([]:List (S27)):List (S27))).bind fun aQ=>((Saf.f k l0).bind fun aX=>(if aX=true then ((Saq.f k l0).bind fun ay=>(Saj.l0 k l0 aQ ay 0)) else (some (aQ,false))))
theorem Saj.calls (k:Nat) (A0:Option Addr) (c0:Nat) (l0 r1:List (S27)) (r2:Bool) (w:World) (hr0:Kd.C k27 w A0 l0.length l0) (hc0:l0.length<=c0) (h:Saj.f k l0=some (r1,r2)) :
  Calls Tryz.prog 16 #[.slice A0 l0.length c0] w fun e w'=>∃ bZ:Value,e = .returned (.tuple #[bZ,.bool r2])/\Kd.R k27 27 w' w.heap.size (fun _=>True) bZ r1/\Below w.heap.size w w':=by
 have df:=Tryz.underlying27
 have aY:=aM hr0
 have bH:=aM hc0
 clear hr0 hc0
 have HB:=aM (Below.refl w.heap.size w)
 have H:=h;unfold Saj.f at H
 clear h
 obtain⟨aQ,ax⟩:=ky ((([]:List (S27))):List (S27))
 first|replace H:=kz ax H|rw [<- ax.out] at H
 obtain⟨aX,A2,H⟩:=qE H
 try dsimp only at H
 replace H:=jB H;rcases H with ⟨rfl,H⟩ | ⟨rfl,H⟩
 ·obtain⟨ay,A4,H⟩:=qE H
  try dsimp only at H
  have H':=aM H
  clear H
  go_enter Tryz.func16,Tryz.ntmps16
  go_wp2_with (first|((with_reducible refine jd 8 rfl ?_);refine jV k27 27 ([]:List (S27)) [] (Reps.none _ _) ?_;intro bJ w5 aZ hb;(first|rw [<- ax.out] at aZ|(simp only [Int.reduceToNat] at aZ;rw [<- ax.out] at aZ));have av:=kL aZ;replace HB:=kH hb;clear hb aZ)|((with_reducible refine jc 36 10 rfl rfl ?_);refine jG Tryz.func36 #[.slice A0 l0.length c0] ?_;refine (Saf.calls k _ _ l0 true _ ?aj ?au A2.out).mono ?_;(case aj=>exact kC (Kd.C_below aY.out HB.out));(case au=>exact bH.out);rintro e w7 ⟨rfl,hb⟩;refine⟨_,rfl,?_⟩;replace av:=kR av hb;replace HB:=kH hb;clear hb)|((with_reducible refine jc 21 14 rfl rfl ?_);refine jG Tryz.func21 #[.slice A0 l0.length c0] ?_;refine (Saq.calls k _ _ l0 ay _ ?aj ?au A4.out).mono ?_;(case aj=>exact kC (Kd.C_below aY.out HB.out));(case au=>exact bH.out);rintro e w8 ⟨bg,rfl,ho0,hb⟩;refine⟨_,rfl,?_⟩;have bi:=aM (Kd.S_lower ho0 (below_size qB));replace av:=kR av hb;replace HB:=kH hb;clear hb;(try clear ho0)))
  go_loopg [4,6] k (fun kq v4 v6 w'=>∃ (az:List (S27)) (ae:Int),v6 = .int .i64 ae/\Aside0 (Saj.l0 kq l0 az ay ae=some (r1,r2))/\Aside0 (kq<=k)/\Aside0 (Kd.R k27 27 w' w.heap.size (fun _=>True) v4 az)/\Aside0 (Kd.S (Kd.slice 4 Kd.bool) 37 w' w.heap.size (fun _=>True) bg ay)/\Aside0 (Below w.heap.size w w'))
  case atStart=>exact⟨(aQ),(0),qZ,H',⟨Nat.le_refl _⟩,⟨qR av⟩,⟨qS bi⟩,⟨qB⟩⟩
  clear H'
  obtain⟨az,ae,rfl,HA,bI,ag,ah,HB⟩:=hrel
  rcases gk with _|k1
  ·exact absurd HA.out (by simp [Saj.l0])
  have H:=HA.out
  clear HA
  simp only [Saj.l0] at H
  replace H:=jD H;rcases H with ⟨bK,H⟩ | ⟨bK,H⟩
  ·replace H:=jI H;obtain⟨cz,H⟩:=H
   obtain⟨aI,dh,H⟩:=qE H
   try dsimp only at H
   obtain⟨aW,cB,H⟩:=qE H
   try dsimp only at H
   have aT:=aM H;clear H
   have aU:0<=(ae:Int):=qD
   have aV:ae < (l0.length:Int):=qD
   obtain⟨bn,bL,aA,aC,aD,aG,aH⟩:=at_T27 aY.out ae aU aV
   cases bL
   replace aA:=kx HB aA
   replace aC:=kx HB aC
   replace aD:=kx HB aD
   replace aG:=kx HB aG
   replace aH:=kx HB aH
   replace aU:=eq_true aU
   replace aV:=eq_true aV
   try go_wp2_with (first|((with_reducible refine jd 7 rfl ?_);refine jX _ 27 ?_;intro aa hg bq hbox hb;have af:=aM hbox;have cK:=kG hg;replace ag:=aM (Kd.R_below (Kd.R_elderB (qR ag) aa (Nat.le_of_eq hg.symm)) hb);replace ah:=kS ah hb;replace HB:=kH hb;clear hb hbox hg;have di:=jz5 af))
   have bM:Aside0 (Kd.R k27 27 (((((bq.setCell ⟨aa,0,none⟩ (.int .i64 ((rd_T27 l0 ae).f0))).setCell ⟨aa,1,none⟩ (.int .i64 ((rd_T27 l0 ae).f1))).setCell ⟨aa,2,none⟩ (.int .i64 ((rd_T27 l0 ae).f2))).setCell ⟨aa,3,none⟩ (.int .i64 ((rd_T27 l0 ae).f3))).setCell ⟨aa,4,none⟩ (.int .i64 ((rd_T27 l0 ae).f4))) w.heap.size (fun k_=>k_≠aa) u4 az):=⟨by (with_reducible repeat (first|apply Kd.R_alloc|apply Kd.R_drewN|apply Kd.R_drew));exact Kd.R_mono (Kd.R_far (p:=⟨aa,4,none⟩) (Kd.R_far (p:=⟨aa,3,none⟩) (Kd.R_far (p:=⟨aa,2,none⟩) (Kd.R_far (p:=⟨aa,1,none⟩) (Kd.R_far (p:=⟨aa,0,none⟩) (Kd.R_mono ag.out (fun k_ hk=>(⟨hk,hk.2⟩:_/\k_≠aa))) (fun _ hk=>hk.2) (.int .i64 ((rd_T27 l0 ae).f0))) (fun _ hk=>hk.2) (.int .i64 ((rd_T27 l0 ae).f1))) (fun _ hk=>hk.2) (.int .i64 ((rd_T27 l0 ae).f2))) (fun _ hk=>hk.2) (.int .i64 ((rd_T27 l0 ae).f3))) (fun _ hk=>hk.2) (.int .i64 ((rd_T27 l0 ae).f4))) (fun _ hk=>hk.1.2)⟩
   have bN:Aside0 (Kd.S (Kd.slice 4 Kd.bool) 37 (((((bq.setCell ⟨aa,0,none⟩ (.int .i64 ((rd_T27 l0 ae).f0))).setCell ⟨aa,1,none⟩ (.int .i64 ((rd_T27 l0 ae).f1))).setCell ⟨aa,2,none⟩ (.int .i64 ((rd_T27 l0 ae).f2))).setCell ⟨aa,3,none⟩ (.int .i64 ((rd_T27 l0 ae).f3))).setCell ⟨aa,4,none⟩ (.int .i64 ((rd_T27 l0 ae).f4))) w.heap.size (fun _=>True) bg ay):=⟨by (with_reducible repeat (first|apply Kd.S_alloc|apply Kd.S_drewN|apply Kd.S_drew));exact Kd.S_mono (Kd.S_far (p:=⟨aa,4,none⟩) (Kd.S_far (p:=⟨aa,3,none⟩) (Kd.S_far (p:=⟨aa,2,none⟩) (Kd.S_far (p:=⟨aa,1,none⟩) (Kd.S_far (p:=⟨aa,0,none⟩) (Kd.S_types ah.out af.out (by decide)) (fun _ hk=>hk.2) (.int .i64 ((rd_T27 l0 ae).f0))) (fun _ hk=>hk.2) (.int .i64 ((rd_T27 l0 ae).f1))) (fun _ hk=>hk.2) (.int .i64 ((rd_T27 l0 ae).f2))) (fun _ hk=>hk.2) (.int .i64 ((rd_T27 l0 ae).f3))) (fun _ hk=>hk.2) (.int .i64 ((rd_T27 l0 ae).f4))) (fun _ hk=>trivial)⟩
   have bO:Aside0 ((((((bq.setCell ⟨aa,0,none⟩ (.int .i64 ((rd_T27 l0 ae).f0))).setCell ⟨aa,1,none⟩ (.int .i64 ((rd_T27 l0 ae).f1))).setCell ⟨aa,2,none⟩ (.int .i64 ((rd_T27 l0 ae).f2))).setCell ⟨aa,3,none⟩ (.int .i64 ((rd_T27 l0 ae).f3))).setCell ⟨aa,4,none⟩ (.int .i64 ((rd_T27 l0 ae).f4))).heap[aa]?=some (.cells #[.int .i64 ((rd_T27 l0 ae).f0),.int .i64 ((rd_T27 l0 ae).f1),.int .i64 ((rd_T27 l0 ae).f2),.int .i64 ((rd_T27 l0 ae).f3),.int .i64 ((rd_T27 l0 ae).f4)] 27 (0,0))):=⟨qF af⟩
   have bP:Aside0 (Below w.heap.size w (((((bq.setCell ⟨aa,0,none⟩ (.int .i64 ((rd_T27 l0 ae).f0))).setCell ⟨aa,1,none⟩ (.int .i64 ((rd_T27 l0 ae).f1))).setCell ⟨aa,2,none⟩ (.int .i64 ((rd_T27 l0 ae).f2))).setCell ⟨aa,3,none⟩ (.int .i64 ((rd_T27 l0 ae).f3))).setCell ⟨aa,4,none⟩ (.int .i64 ((rd_T27 l0 ae).f4)))):=⟨qB⟩
   (try clear ag)
   (try clear ah)
   (try clear af)
   (try clear HB)
   generalize (((((bq.setCell ⟨aa,0,none⟩ (.int .i64 ((rd_T27 l0 ae).f0))).setCell ⟨aa,1,none⟩ (.int .i64 ((rd_T27 l0 ae).f1))).setCell ⟨aa,2,none⟩ (.int .i64 ((rd_T27 l0 ae).f2))).setCell ⟨aa,3,none⟩ (.int .i64 ((rd_T27 l0 ae).f3))).setCell ⟨aa,4,none⟩ (.int .i64 ((rd_T27 l0 ae).f4)))=dn at bM bN bO bP ⊢
   have ag:=bM
   have ah:=bN
   have af:=bO
   have HB:=bP
   clear bM bN bO bP
   replace ag:=aM (Kd.R_drew ag.out)
   replace ah:=aM (Kd.S_drew ah.out)
   replace af:=aM (blk_drew af.out)
   replace HB:=aM (below_drew1 HB.out)
   obtain⟨bQ,bR,bu⟩:=Kd.S_slice ah.out
   (first|subst bu|(injection bu with bv bS bz;have bT:=bv.symm;have bU:=bz.symm;clear bv bS bz;subst bT;subst bU))
   refine start_ (n:=6) (S:=fun w'=>w'.cell? ⟨aa,0,none⟩=some (.int .i64 ((rd_T27 l0 ae).f0))/\w'.cell? ⟨aa,1,none⟩=some (.int .i64 ((rd_T27 l0 ae).f1))/\w'.cell? ⟨aa,2,none⟩=some (.int .i64 ((rd_T27 l0 ae).f2))/\w'.cell? ⟨aa,3,none⟩=some (.int .i64 ((rd_T27 l0 ae).f3))/\w'.cell? ⟨aa,4,none⟩=some (.int .i64 ((rd_T27 l0 ae).f4))) (ds:=[]) (jb 6 0) (by kernel_rfl) rfl rfl ⟨(blk_cell af.out 0).trans rfl,(blk_cell af.out 1).trans rfl,(blk_cell af.out 2).trans rfl,(blk_cell af.out 3).trans rfl,(blk_cell af.out 4).trans rfl⟩ (fun hHeld=>?_)
   generalize dn.drew=dC at ag ah af HB hHeld ⊢
   refine pure_ (i:=1) (N:=some 26) (v:=?_) (a':=?_) (jb 6 2) rfl rfl (by kernel_rfl) (fun _ _ _ h=>h) (Or.inl ⟨by rfl,?_⟩) ?_ ?_
   rotate_left
   ·intro w'
    go_simp
    with_reducible rfl
   rotate_left
   ·simp only [Act.put,List.setIfInBounds_toArray,List.set_cons_zero,List.set_cons_succ,i64_w,i32_w]
    rfl
   refine pure_ (i:=2) (N:=some 27) (v:=?_) (a':=?_) (jb 6 6) rfl rfl (by kernel_rfl) (fun _ _ _ h=>h) (Or.inl ⟨by rfl,?_⟩) ?_ ?_
   rotate_left
   ·intro w'
    go_simp
    with_reducible rfl
   rotate_left
   ·simp only [Act.put,List.setIfInBounds_toArray,List.set_cons_zero,List.set_cons_succ,i64_w,i32_w]
    rfl
   refine pure_ (i:=3) (N:=some 28) (v:=?_) (a':=?_) (jb 6 14) rfl rfl (by kernel_rfl) (fun _ _ _ h=>h) (Or.inl ⟨by rfl,?_⟩) ?_ ?_
   rotate_left
   ·intro w'
    go_simp
    with_reducible rfl
   rotate_left
   ·simp only [Act.put,List.setIfInBounds_toArray,List.set_cons_zero,List.set_cons_succ,i64_w,i32_w]
    rfl
   refine take_ (i:=0) (N:=some 25) (v:=?_) (a':=?_) (jb 6 15) rfl rfl (by kernel_rfl) (fun _ _ _ h=>h) (Or.inl ⟨by rfl,?_⟩) hHeld ?_ ?_
   rotate_left
   ·rintro w' ⟨s0,s1,s2,s3,s4⟩
    go_simp
    with_reducible rfl
   rotate_left
   ·simp only [Act.put,List.setIfInBounds_toArray,List.set_cons_zero,List.set_cons_succ,i64_w,i32_w]
    rfl
   refine one_ (i:=4) (N:=some 29) (jb 6 31) rfl rfl (by kernel_rfl) (by decide) (fun K hK=>?_)
   refine goes_ Tryz.func38 (by kernel_rfl) rfl #[.slice (some bn) l0.length c0,.slice bQ ay.length bR,.int .i64 ae] (by rfl) rfl rfl qM ?_
   with_reducible refine (SaV.calls k1 _ _ l0 _ _ ay ae aI _ ?aj ?au ?bA ?bB dh.out).mono ?_
   (case aj=>exact kC (Kd.C_below aY.out HB.out))
   (case au=>exact bH.out)
   (case bA=>exact kC (Kd.S_reads' ah.out).2.2)
   (case bB=>exact (Kd.S_reads' ah.out).2.1)
   rintro e dD ⟨dw,rfl,ho0,hb⟩
   refine⟨_,rfl,?_⟩
   have ai:=kL ho0
   replace ag:=kR ag hb
   replace ah:=aM (Kd.S_elder' (qS ah) (Kd.R_base ho0) hb)
   replace af:=kB af hb
   replace HB:=kH hb
   (try clear hb)
   (try clear hb2)
   (try clear hk)
   (try clear hi)
   (try clear ho0)
   obtain⟨bV,bW,bC⟩:=Kd.R_slice ai.out
   (first|subst bC|(injection bC with bv bS bz;have bT:=bv.symm;have bU:=bz.symm;clear bv bS bz;subst bT;subst bU))
   refine hK.out _ _ ⟨(blk_cell af.out 0).trans rfl,(blk_cell af.out 1).trans rfl,(blk_cell af.out 2).trans rfl,(blk_cell af.out 3).trans rfl,(blk_cell af.out 4).trans rfl⟩ (fun hHeld=>?_)
   clear hK K
   refine norm_ (a':=?_) ?_ ?_
   rotate_left
   ·show Act.put _ (some 29) _=_
    simp only [Act.put,List.setIfInBounds_toArray,List.set_cons_zero,List.set_cons_succ,i64_w,i32_w]
    rfl
   refine one_ (i:=5) (N:=some 30) (jb 6 63) rfl rfl (by kernel_rfl) (by decide) (fun K hK=>?_)
   refine goes_ Tryz.func37 (by kernel_rfl) rfl #[.agg #[.int .i64 ((rd_T27 l0 ae).f0),.int .i64 ((rd_T27 l0 ae).f1),.int .i64 ((rd_T27 l0 ae).f2),.int .i64 ((rd_T27 l0 ae).f3),.int .i64 ((rd_T27 l0 ae).f4)],.slice bV aI.length bW] (by rfl) rfl rfl qM ?_
   have H:=aT.out;clear aT
   replace H:=jB H;rcases H with ⟨rfl,H⟩ | ⟨rfl,H⟩
   ·replace H:=jL H;obtain⟨bD,H⟩:=H
    obtain⟨bX,aJ⟩:=ky ((az ++ [(⟨4,0,0,0,wrap64 (ae+1)⟩:S27)]):List (S27))
    first|replace H:=kz aJ H|rw [<- aJ.out] at H
    have H':=aM H
    clear H
    with_reducible refine (Sbe.calls ((rd_T27 l0 ae).f0) ((rd_T27 l0 ae).f1) ((rd_T27 l0 ae).f2) ((rd_T27 l0 ae).f3) ((rd_T27 l0 ae).f4) _ _ aI true _ ?aj ?au cB.out).mono ?_
    (case aj=>exact kC (Kd.R_reads' ai.out).2.2)
    (case au=>exact (Kd.R_reads' ai.out).2.1)
    rintro e dE ⟨rfl,hb⟩
    refine⟨_,rfl,?_⟩
    replace ag:=kR ag hb
    replace ah:=kS ah hb
    replace ai:=kR ai hb
    replace af:=kB af hb
    replace HB:=kH hb
    (try clear hb)
    (try clear hb2)
    (try clear hk)
    (try clear hi)
    refine hK.out _ _ ⟨(blk_cell af.out 0).trans rfl,(blk_cell af.out 1).trans rfl,(blk_cell af.out 2).trans rfl,(blk_cell af.out 3).trans rfl,(blk_cell af.out 4).trans rfl⟩ (fun hHeld=>?_)
    clear hK K
    refine norm_ (a':=?_) ?_ ?_
    rotate_left
    ·show Act.put _ (some 30) _=_
     simp only [Act.put,List.setIfInBounds_toArray,List.set_cons_zero,List.set_cons_succ,i64_w,i32_w]
     rfl
    refine done_ (by kernel_rfl) ?_
    have dx:=jz5 af
    try go_wp2_with (first|((with_reducible refine gate_builtin (b:=.append) (xs:=#[.tmp 34,.tmp 36]) rfl ?_);at_builtin;refine Kd.R_append k27 (w0:=w) w.heap.size rfl (.tmp 34) (.tmp 36) 23 27 (.agg #[(.int .i64 0),(.int .i64 0),(.int .i64 0),(.int .i64 0),(.int .i64 0)]) 40 rfl Tryz.underlying23 info27 rfl (by decide) (by omega) u4 az (⟨4,0,0,0,wrap64 (ae+1)⟩:S27) [.int .i64 4,.int .i64 0,.int .i64 0,.int .i64 0,.int .i64 (wrap64 (ae+1))] (fun k_=>k_≠aa) (fun _=>False) rfl (by first|(go_simp;done)|(go_simp;rfl)) ?aP (fun _ hk=>hk.elim) ?aF ?aO ?aB ?aS ?aL ?_;(case aP=>exact k27_mkM _ _ _ (⟨4,0,0,0,wrap64 (ae+1)⟩:S27));(case aB=>exact qB);(case aF=>exact (fun k_ hk=>Kd.freshB (g:=aa) (o:=.cells #[.int .i64 4,.int .i64 0,.int .i64 0,.int .i64 0,.int .i64 (wrap64 (ae+1))] 27 (0,0)) (qF af) k_ hk));(case aO=>exact (by (with_reducible repeat (first|apply Kd.R_alloc|apply Kd.R_drewN|apply Kd.R_drew));exact Kd.R_mono (Kd.R_far (p:=⟨aa,4,none⟩) (Kd.R_far (p:=⟨aa,3,none⟩) (Kd.R_far (p:=⟨aa,2,none⟩) (Kd.R_far (p:=⟨aa,1,none⟩) (Kd.R_far (p:=⟨aa,0,none⟩) (Kd.R_mono ag.out (fun k_ hk=>(⟨hk,hk⟩:_/\k_≠aa))) (fun _ hk=>hk.2) (.int .i64 4)) (fun _ hk=>hk.2) (.int .i64 0)) (fun _ hk=>hk.2) (.int .i64 0)) (fun _ hk=>hk.2) (.int .i64 0)) (fun _ hk=>hk.2) (.int .i64 (wrap64 (ae+1)))) (fun _ hk=>hk.1)));(case aS=>exact (below_size qB));(case aL=>have:=bD.out;omega);intro dz dF ho hb hg hat;rw [<- aJ.out] at ho;have bE:=aM ho;replace ah:=aM (Kd.S_over' (by (with_reducible repeat (first|apply Kd.S_alloc|apply Kd.S_drewN|apply Kd.S_drew));exact (Kd.S_mono (Kd.S_far (p:=⟨aa,4,none⟩) (Kd.S_far (p:=⟨aa,3,none⟩) (Kd.S_far (p:=⟨aa,2,none⟩) (Kd.S_far (p:=⟨aa,1,none⟩) (Kd.S_far (p:=⟨aa,0,none⟩) (Kd.S_types ah.out af.out (by decide)) (fun _ hk=>hk.2) (.int .i64 4)) (fun _ hk=>hk.2) (.int .i64 0)) (fun _ hk=>hk.2) (.int .i64 0)) (fun _ hk=>hk.2) (.int .i64 0)) (fun _ hk=>hk.2) (.int .i64 (wrap64 (ae+1)))) (fun _ h_=>h_.1))) (Kd.R_typed (by (with_reducible repeat (first|apply Kd.R_alloc|apply Kd.R_drewN|apply Kd.R_drew));exact (Kd.R_mono (Kd.R_far (p:=⟨aa,4,none⟩) (Kd.R_far (p:=⟨aa,3,none⟩) (Kd.R_far (p:=⟨aa,2,none⟩) (Kd.R_far (p:=⟨aa,1,none⟩) (Kd.R_far (p:=⟨aa,0,none⟩) (Kd.R_mono ag.out (fun k_ hk=>(⟨hk,hk⟩:_/\k_≠aa))) (fun _ hk=>hk.2) (.int .i64 4)) (fun _ hk=>hk.2) (.int .i64 0)) (fun _ hk=>hk.2) (.int .i64 0)) (fun _ hk=>hk.2) (.int .i64 0)) (fun _ hk=>hk.2) (.int .i64 (wrap64 (ae+1)))) (fun _ h_=>h_.1)))) (by decide) hg);replace ai:=aM (Kd.R_over' (by (with_reducible repeat (first|apply Kd.R_alloc|apply Kd.R_drewN|apply Kd.R_drew));exact (Kd.R_mono (Kd.R_far (p:=⟨aa,4,none⟩) (Kd.R_far (p:=⟨aa,3,none⟩) (Kd.R_far (p:=⟨aa,2,none⟩) (Kd.R_far (p:=⟨aa,1,none⟩) (Kd.R_far (p:=⟨aa,0,none⟩) (Kd.R_types ai.out af.out (by decide)) (fun _ hk=>hk.2) (.int .i64 4)) (fun _ hk=>hk.2) (.int .i64 0)) (fun _ hk=>hk.2) (.int .i64 0)) (fun _ hk=>hk.2) (.int .i64 0)) (fun _ hk=>hk.2) (.int .i64 (wrap64 (ae+1)))) (fun _ h_=>h_.1))) (Kd.R_typed (by (with_reducible repeat (first|apply Kd.R_alloc|apply Kd.R_drewN|apply Kd.R_drew));exact (Kd.R_mono (Kd.R_far (p:=⟨aa,4,none⟩) (Kd.R_far (p:=⟨aa,3,none⟩) (Kd.R_far (p:=⟨aa,2,none⟩) (Kd.R_far (p:=⟨aa,1,none⟩) (Kd.R_far (p:=⟨aa,0,none⟩) (Kd.R_mono ag.out (fun k_ hk=>(⟨hk,hk⟩:_/\k_≠aa))) (fun _ hk=>hk.2) (.int .i64 4)) (fun _ hk=>hk.2) (.int .i64 0)) (fun _ hk=>hk.2) (.int .i64 0)) (fun _ hk=>hk.2) (.int .i64 0)) (fun _ hk=>hk.2) (.int .i64 (wrap64 (ae+1)))) (fun _ h_=>h_.1)))) (by decide) hg);replace af:=aM (blk_grown (g:=aa) (o:=.cells #[.int .i64 4,.int .i64 0,.int .i64 0,.int .i64 0,.int .i64 (wrap64 (ae+1))] 27 (0,0)) (qF af) hg (Kd.R_away ag.out (fun _ hk=>hk)));replace HB:=aM hb;clear ag;clear ho hb hg hat))
    go_roundg k1
    case measure=>have:=bI.out;omega
    exact⟨(bX),(wrap64 (ae+1)),qZ,H',⟨by have:=bI.out;omega⟩,⟨by (with_reducible repeat (first|apply Kd.R_alloc|apply Kd.R_drewN|apply Kd.R_drew));exact Kd.R_mono bE.out (fun _ hk=>trivial)⟩,⟨by (with_reducible repeat (first|apply Kd.S_alloc|apply Kd.S_drewN|apply Kd.S_drew));exact Kd.S_mono ah.out (fun _ hk=>trivial)⟩,⟨qB⟩⟩
   replace H:=jL H;obtain⟨bF,H⟩:=H
   obtain⟨bY,aK⟩:=ky ((az ++ [(⟨(rd_T27 l0 ae).f0,(rd_T27 l0 ae).f1,(rd_T27 l0 ae).f2,(rd_T27 l0 ae).f3,(rd_T27 l0 ae).f4⟩:S27)]):List (S27))
   first|replace H:=kz aK H|rw [<- aK.out] at H
   have H':=aM H
   clear H
   with_reducible refine (Sbe.calls ((rd_T27 l0 ae).f0) ((rd_T27 l0 ae).f1) ((rd_T27 l0 ae).f2) ((rd_T27 l0 ae).f3) ((rd_T27 l0 ae).f4) _ _ aI false _ ?aj ?au cB.out).mono ?_
   (case aj=>exact kC (Kd.R_reads' ai.out).2.2)
   (case au=>exact (Kd.R_reads' ai.out).2.1)
   rintro e dG ⟨rfl,hb⟩
   refine⟨_,rfl,?_⟩
   replace ag:=kR ag hb
   replace ah:=kS ah hb
   replace ai:=kR ai hb
   replace af:=kB af hb
   replace HB:=kH hb
   (try clear hb)
   (try clear hb2)
   (try clear hk)
   (try clear hi)
   refine hK.out _ _ ⟨(blk_cell af.out 0).trans rfl,(blk_cell af.out 1).trans rfl,(blk_cell af.out 2).trans rfl,(blk_cell af.out 3).trans rfl,(blk_cell af.out 4).trans rfl⟩ (fun hHeld=>?_)
   clear hK K
   refine norm_ (a':=?_) ?_ ?_
   rotate_left
   ·show Act.put _ (some 30) _=_
    simp only [Act.put,List.setIfInBounds_toArray,List.set_cons_zero,List.set_cons_succ,i64_w,i32_w]
    rfl
   refine done_ (by kernel_rfl) ?_
   have dA:=jz5 af
   try go_wp2_with (first|((with_reducible refine gate_builtin (b:=.append) (xs:=#[.tmp 34,.tmp 36]) rfl ?_);at_builtin;refine Kd.R_append k27 (w0:=w) w.heap.size rfl (.tmp 34) (.tmp 36) 23 27 (.agg #[(.int .i64 0),(.int .i64 0),(.int .i64 0),(.int .i64 0),(.int .i64 0)]) 40 rfl Tryz.underlying23 info27 rfl (by decide) (by omega) u4 az (⟨(rd_T27 l0 ae).f0,(rd_T27 l0 ae).f1,(rd_T27 l0 ae).f2,(rd_T27 l0 ae).f3,(rd_T27 l0 ae).f4⟩:S27) [.int .i64 ((rd_T27 l0 ae).f0),.int .i64 ((rd_T27 l0 ae).f1),.int .i64 ((rd_T27 l0 ae).f2),.int .i64 ((rd_T27 l0 ae).f3),.int .i64 ((rd_T27 l0 ae).f4)] (fun k_=>k_≠aa) (fun _=>False) rfl rfl ?aP (fun _ hk=>hk.elim) ?aF ?aO ?aB ?aS ?aL ?_;(case aP=>exact k27_mkM _ _ _ (⟨(rd_T27 l0 ae).f0,(rd_T27 l0 ae).f1,(rd_T27 l0 ae).f2,(rd_T27 l0 ae).f3,(rd_T27 l0 ae).f4⟩:S27));(case aB=>exact qB);(case aF=>exact (fun k_ hk=>Kd.freshB (g:=aa) (o:=.cells #[.int .i64 ((rd_T27 l0 ae).f0),.int .i64 ((rd_T27 l0 ae).f1),.int .i64 ((rd_T27 l0 ae).f2),.int .i64 ((rd_T27 l0 ae).f3),.int .i64 ((rd_T27 l0 ae).f4)] 27 (0,0)) (qK af) k_ hk));(case aO=>exact (qR ag));(case aS=>exact (below_size qB));(case aL=>have:=bF.out;omega);intro dB dH ho hb hg hat;rw [<- aK.out] at ho;have bG:=aM ho;replace ah:=aM (Kd.S_over' (qS ah) (Kd.R_typed (qR ag)) (by decide) hg);replace af:=aM (blk_grown (g:=aa) (o:=.cells #[.int .i64 ((rd_T27 l0 ae).f0),.int .i64 ((rd_T27 l0 ae).f1),.int .i64 ((rd_T27 l0 ae).f2),.int .i64 ((rd_T27 l0 ae).f3),.int .i64 ((rd_T27 l0 ae).f4)] 27 (0,0)) (qK af) hg (Kd.R_away ag.out (fun _ hk=>hk)));replace ai:=aM (Kd.R_over' (qR ai) (Kd.R_typed (qR ag)) (by decide) hg);replace HB:=aM hb;clear ag;clear ho hb hg hat))
   go_roundg k1
   case measure=>have:=bI.out;omega
   exact⟨(bY),(wrap64 (ae+1)),qZ,H',⟨by have:=bI.out;omega⟩,⟨by (with_reducible repeat (first|apply Kd.R_alloc|apply Kd.R_drewN|apply Kd.R_drew));exact Kd.R_mono bG.out (fun _ hk=>trivial)⟩,⟨by (with_reducible repeat (first|apply Kd.S_alloc|apply Kd.S_drewN|apply Kd.S_drew));exact Kd.S_mono ah.out (fun _ hk=>trivial)⟩,⟨qB⟩⟩
  obtain⟨rfl,rfl⟩:=oJ2 H
  go_wp2
  go_ret2
  exact⟨_,qW,qR ag,qB⟩
 obtain⟨rfl,rfl⟩:=oJ2 H
 go_enter Tryz.func16,Tryz.ntmps16
 go_wp2_with (first|((with_reducible refine jd 8 rfl ?_);refine jV k27 27 ([]:List (S27)) [] (Reps.none _ _) ?_;intro bJ dI aN hb;(first|rw [<- ax.out] at aN|(simp only [Int.reduceToNat] at aN;rw [<- ax.out] at aN));have av:=kL aN;replace HB:=kH hb;clear hb aN)|((with_reducible refine jc 36 10 rfl rfl ?_);refine jG Tryz.func36 #[.slice A0 l0.length c0] ?_;refine (Saf.calls k _ _ l0 false _ ?aj ?au A2.out).mono ?_;(case aj=>exact kC (Kd.C_below aY.out HB.out));(case au=>exact bH.out);rintro e dJ ⟨rfl,hb⟩;refine⟨_,rfl,?_⟩;replace av:=kR av hb;replace HB:=kH hb;clear hb))
 go_ret2
 exact⟨_,qW,qR av,qB⟩
def Sb3.j0:Nat->List (S27)->List (S118)->Int->Bool->Int->Int->Int->Int->Int->Option (List Int)
 | 0,_,_,_,_,_,_,_,_,_=>none
 | k+1,x0,x1,x2,bR,xa,xb,xc,xd,xe=>if bR=true then ((SaT.f k x0 x2).bind fun aX=>(some aX)) else (if 0<=xc then (if xc < (x1.length:Int) then (if ((rd_T118 x1 xc).f1)=0 then (some (([xe]:List Int))) else (some (([wrap64 (x2+1)]:List Int)))) else (none)) else (none))
def Sb3.f (k:Nat) (l0:List (S27)) (l1:List (S118)) (a2:Int):Option (List Int):=if 0<=a2 then (if a2 < (l0.length:Int) then (if ((rd_T27 l0 a2).f0)=5 then (if 0<=((rd_T27 l0 a2).f2) then (if ((rd_T27 l0 a2).f2) < (l1.length:Int) then (Sb3.j0 k l0 l1 a2 (((rd_T118 l1 ((rd_T27 l0 a2).f2)).f0) != 1) ((rd_T27 l0 a2).f0) ((rd_T27 l0 a2).f1) ((rd_T27 l0 a2).f2) ((rd_T27 l0 a2).f3) ((rd_T27 l0 a2).f4)) else (none)) else (none)) else (Sb3.j0 k l0 l1 a2 true ((rd_T27 l0 a2).f0) ((rd_T27 l0 a2).f1) ((rd_T27 l0 a2).f2) ((rd_T27 l0 a2).f3) ((rd_T27 l0 a2).f4))) else (none)) else (none)
theorem Sb3.calls (k:Nat) (A0:Option Addr) (c0:Nat) (l0:List (S27)) (A1:Option Addr) (c1:Nat) (l1:List (S118)) (a2:Int) (r:List Int) (w:World) (hr0:Kd.C k27 w A0 l0.length l0) (hc0:l0.length<=c0) (hr1:Kd.C k118 w A1 l1.length l1) (hc1:l1.length<=c1) (h:Sb3.f k l0 l1 a2=some r) :
  Calls Tryz.prog 120 #[.slice A0 l0.length c0,.slice A1 l1.length c1,.int .i64 a2] w fun e w'=>∃ bL:Value,e = .returned (bL)/\Kd.R (Kd.int .i64) 3 w' w.heap.size (fun _=>True) bL r/\Below w.heap.size w w':=by
 have bT:=Tryz.underlying27
 have bM:=aM hr0
 have bU:=aM hc0
 clear hr0 hc0
 have HR1:=aM hr1
 have dn:=aM hc1
 clear hr1 hc1
 have HB:=aM (Below.refl w.heap.size w)
 have H:=h;unfold Sb3.f at H
 clear h
 replace H:=jI H;obtain⟨bD,H⟩:=H
 replace H:=jI H;obtain⟨bE,H⟩:=H
 have bF:=aM H
 clear H
 obtain⟨bi,bG,aQ,aT,aU,aV,aW,bH,bI⟩:=jT27 bM a2
 cases bG
 go_enter Tryz.func120,Tryz.ntmps120
 go_upto_region 2 with (first|((with_reducible refine jd 7 rfl ?_);refine jX _ 27 ?_;intro af hg w7 hbox hb;have ag:=aM hbox;have az:=kG hg;replace HB:=kH hb;clear hb hbox hg;have bV:=jz5 ag))
 (try simp only [Act.put,List.setIfInBounds_toArray,List.set_cons_zero,List.set_cons_succ])
 go_cut [23] (fun v23 wc=>∃ (kq:Nat) (aI:Bool),v23 = .bool aI/\Aside0 (Sb3.j0 kq l0 l1 a2 aI ((rd_T27 l0 a2).f0) ((rd_T27 l0 a2).f1) ((rd_T27 l0 a2).f2) ((rd_T27 l0 a2).f3) ((rd_T27 l0 a2).f4)=some r)/\Aside0 (kq<=k)/\Aside0 (wc.heap[af]?=some (.cells #[.int .i64 ((rd_T27 l0 a2).f0),.int .i64 ((rd_T27 l0 a2).f1),.int .i64 ((rd_T27 l0 a2).f2),.int .i64 ((rd_T27 l0 a2).f3),.int .i64 ((rd_T27 l0 a2).f4)] 27 (0,0)))/\Aside0 (Below w.heap.size w wc))
 case first =>
  have H:=bF.out
  clear bF
  replace H:=jE H;rcases H with ⟨aJ,bJ,H⟩ | ⟨c9,aJ,bJ,H⟩
  ·(first|rw [aJ]|(simp only [i64_w,i32_w];rw [aJ])|skip)
   replace H:=jI H;obtain⟨bN,H⟩:=H
   replace H:=jI H;obtain⟨bO,H⟩:=H
   have H':=aM H
   clear H
   have bW:=jz5 ag
   have aY:0<=(((rd_T27 l0 a2).f2):Int):=qD
   have aZ:((rd_T27 l0 a2).f2) < (l1.length:Int):=qD
   obtain⟨aA,bK,aa,ae⟩:=at_T118 HR1.out ((rd_T27 l0 a2).f2) aY aZ
   cases bK
   have aj:aA.block≠af:=kn aa az
   have au:aA.block≠af:=kn aa az
   have av:aA.block≠af:=kn aa az
   have ax:aA.block≠af:=kn aa az
   have ay:aA.block≠af:=kn aa az
   replace aa:=kx HB aa
   replace ae:=kx HB ae
   replace aa:=(cell_far (p:=⟨af,0,none⟩) (kf (aj)) (.int .i64 ((rd_T27 l0 a2).f0))).trans aa
   replace ae:=(cell_far (p:=⟨af,0,none⟩) (kf (aj)) (.int .i64 ((rd_T27 l0 a2).f0))).trans ae
   replace aa:=(cell_far (p:=⟨af,1,none⟩) (kf (au)) (.int .i64 ((rd_T27 l0 a2).f1))).trans aa
   replace ae:=(cell_far (p:=⟨af,1,none⟩) (kf (au)) (.int .i64 ((rd_T27 l0 a2).f1))).trans ae
   replace aa:=(cell_far (p:=⟨af,2,none⟩) (kf (av)) (.int .i64 ((rd_T27 l0 a2).f2))).trans aa
   replace ae:=(cell_far (p:=⟨af,2,none⟩) (kf (av)) (.int .i64 ((rd_T27 l0 a2).f2))).trans ae
   replace aa:=(cell_far (p:=⟨af,3,none⟩) (kf (ax)) (.int .i64 ((rd_T27 l0 a2).f3))).trans aa
   replace ae:=(cell_far (p:=⟨af,3,none⟩) (kf (ax)) (.int .i64 ((rd_T27 l0 a2).f3))).trans ae
   replace aa:=(cell_far (p:=⟨af,4,none⟩) (kf (ay)) (.int .i64 ((rd_T27 l0 a2).f4))).trans aa
   replace ae:=(cell_far (p:=⟨af,4,none⟩) (kf (ay)) (.int .i64 ((rd_T27 l0 a2).f4))).trans ae
   clear aj
   clear au
   clear av
   clear ax
   clear ay
   replace aY:=eq_true aY
   replace aZ:=eq_true aZ
   go_wp2
   go_meet
   exact⟨_,((((rd_T118 l1 ((rd_T27 l0 a2).f2)).f0) != 1)),qZ,H',⟨by first|omega|exact Nat.le_refl _⟩,⟨qF ag⟩,⟨qB⟩⟩
  (first|rw [aJ]|(simp only [i64_w,i32_w];rw [aJ])|skip)
  have H':=aM H
  clear H
  have bX:=jz5 ag
  go_wp2
  go_meet
  exact⟨_,(true),qZ,H',⟨by first|omega|exact Nat.le_refl _⟩,⟨qF ag⟩,⟨qB⟩⟩
 clear bF
 try clear c1;try clear bD;try clear bE;try clear bV;try clear aQ;try clear aT;try clear aU;try clear aV;try clear aW;try clear bH;try clear bI
 obtain⟨kq,aI,rfl,HA,dw,ag,HB⟩:=hcut
 cases kq with
 | zero=>exact absurd HA.out (by simp [Sb3.j0])
 | succ bY =>
  have H:=HA.out
  clear HA
  simp only [Sb3.j0] at H
  replace H:=jB H;rcases H with ⟨rfl,H⟩ | ⟨rfl,H⟩
  ·obtain⟨aX,bZ,H⟩:=qE H
   try dsimp only at H
   obtain rfl:=oJ H
   go_wp2_with (first|((with_reducible refine jc 55 26 rfl rfl ?_);refine jG Tryz.func55 #[.slice (some bi) l0.length c0,.int .i64 a2] ?_;refine (SaT.calls bY _ _ l0 a2 aX _ ?bn ?bq bZ.out).mono ?_;(case bn=>exact kC (Kd.C_below bM.out HB.out));(case bq=>exact bU.out);rintro e w16 ⟨cz,rfl,ho0,hb⟩;refine⟨_,rfl,?_⟩;have bu:=kL ho0;replace ag:=kB ag hb;replace HB:=kH hb;clear hb;(try clear ho0)))
   go_ret
   exact⟨_,qW,qR bu,qB⟩
  replace H:=jI H;obtain⟨bP,H⟩:=H
  replace H:=jI H;obtain⟨bQ,H⟩:=H
  replace H:=jE H;rcases H with ⟨bv,bz,H⟩ | ⟨c19,bv,bz,H⟩
  ·obtain⟨cB,aG⟩:=ky ((([((rd_T27 l0 a2).f4)]:List Int)):List Int)
   first|replace H:=kz aG H|rw [<- aG.out] at H
   obtain rfl:=oJ H
   have cK:=jz5 ag
   have aC:0<=(((rd_T27 l0 a2).f2):Int):=qD
   have aD:((rd_T27 l0 a2).f2) < (l1.length:Int):=qD
   obtain⟨bA,bg,ah,ai⟩:=at_T118 HR1.out ((rd_T27 l0 a2).f2) aC aD
   cases bg
   replace ah:=kx HB ah
   replace ai:=kx HB ai
   replace aC:=eq_true aC
   replace aD:=eq_true aD
   go_wp2_with (first|((with_reducible refine jd 36 rfl ?_);refine jV (Kd.int .i64) 3 ([((rd_T27 l0 a2).f4)]:List Int) [.int .i64 ((rd_T27 l0 a2).f4)] (Reps.one (show Kd.M (Kd.int .i64) _ _ _ ((rd_T27 l0 a2).f4) [.int .i64 ((rd_T27 l0 a2).f4)] from rfl) (Reps.none _ _)) ?_;intro cO dx aK hb;(first|rw [<- aG.out] at aK|(simp only [Int.reduceToNat] at aK;rw [<- aG.out] at aK));have bB:=kL aK;replace ag:=kB ag hb;replace HB:=kH hb;clear hb aK))
   go_ret
   exact⟨_,qW,qR bB,qB⟩
  obtain⟨df,aH⟩:=ky ((([wrap64 (a2+1)]:List Int)):List Int)
  first|replace H:=kz aH H|rw [<- aH.out] at H
  obtain rfl:=oJ H
  have dh:=jz5 ag
  have aC:0<=(((rd_T27 l0 a2).f2):Int):=qD
  have aD:((rd_T27 l0 a2).f2) < (l1.length:Int):=qD
  obtain⟨bA,bg,ah,ai⟩:=at_T118 HR1.out ((rd_T27 l0 a2).f2) aC aD
  cases bg
  replace ah:=kx HB ah
  replace ai:=kx HB ai
  replace aC:=eq_true aC
  replace aD:=eq_true aD
  go_wp2_with (first|((with_reducible refine jd 39 rfl ?_);refine jV (Kd.int .i64) 3 ([wrap64 (a2+1)]:List Int) [.int .i64 (wrap64 (a2+1))] (Reps.one (show Kd.M (Kd.int .i64) _ _ _ (wrap64 (a2+1)) [.int .i64 (wrap64 (a2+1))] from rfl) (Reps.none _ _)) ?_;intro di dz aN hb;(first|rw [<- aH.out] at aN|(simp only [Int.reduceToNat] at aN;rw [<- aH.out] at aN));have bC:=kL aN;replace ag:=kB ag hb;replace HB:=kH hb;clear hb aN))
  go_ret
  exact⟨_,qW,qR bC,qB⟩
def SaP.f (a0:Bool):Option (Int):=if a0=true then (some 1) else (some 0)
theorem SaP.calls (a0:Bool) (r:Int) (w:World) (h:SaP.f a0=some r) :
  Calls Tryz.prog 130 #[.bool a0] w fun e w'=>e = .returned (.int .i64 r)/\Drawn0 w w':=by
 have H:(if a0=true then (some 1) else (some 0))=some r:=h
 clear h
 replace H:=jB H;rcases H with ⟨rfl,H⟩ | ⟨rfl,H⟩
 ·obtain rfl:=oJ H
  go_enter Tryz.func130,Tryz.ntmps130
  go_wp2
  go_ret
  exact⟨qZ,qU⟩
 obtain rfl:=oJ H
 go_enter Tryz.func130,Tryz.ntmps130
 go_wp2
 go_ret
 exact⟨qZ,qU⟩
def SaR.f (a0 a1:Int) (a2:Bool):Option (Int):=if a2=true then (if 0<=(Go.bits .and .i64 a1 31) then (some (shr .i64 a0 (Go.bits .and .i64 a1 31))) else (none)) else (if 0<=(Go.bits .and .i64 a1 31) then ((Saz.f (shl .i64 a0 (Go.bits .and .i64 a1 31))).bind fun ae=>(some ae)) else (none))
theorem SaR.calls (a0 a1:Int) (a2:Bool) (r:Int) (w:World) (h:SaR.f a0 a1 a2=some r) :
  Calls Tryz.prog 131 #[.int .i64 a0,.int .i64 a1,.bool a2] w fun e w'=>e = .returned (.int .i64 r)/\Drawn0 w w':=by
 have H:=h;unfold SaR.f at H
 clear h
 replace H:=jB H;rcases H with ⟨rfl,H⟩ | ⟨rfl,H⟩
 ·replace H:=jJ H;obtain⟨az,aA,H⟩:=H
  obtain⟨aj,af⟩:∃ j_:Int,(shr .i64 a0 (Go.bits .and .i64 a1 31))=j_:=⟨_,rfl⟩
  replace H:(some aj)=some r:=by first|(rw [af] at H;exact H)|(simp only [af] at H ⊢;exact H)
  have au:(a0 / 2 ^ min (Go.bits .and .i64 a1 31).toNat 64)=aj:=af
  have av:(Go.bits .and .i64 a1 31)<=64->(a0 / 2 ^ (Go.bits .and .i64 a1 31).toNat)=aj:=shr_small af
  obtain rfl:=oJ H
  go_enter Tryz.func131,Tryz.ntmps131
  go_wp2
  go_ret
  exact⟨by first|rfl|(simp;done)|(simp only [<- af] <;> (first|rfl|simp))|(simp [*];done),by repeat (first|exact Drawn0.refl _|apply Drawn0.step)⟩
 replace H:=jJ H;obtain⟨aC,aD,H⟩:=H
 obtain⟨ag,aa⟩:∃ j_:Int,(shl .i64 a0 (Go.bits .and .i64 a1 31))=j_:=⟨_,rfl⟩
 replace H:((Saz.f (ag)).bind fun ae=>(some ae))=some r:=by first|(rw [aa] at H;exact H)|(simp only [aa] at H ⊢;exact H)
 have ah:(IntKind.i64.wrap (a0*2 ^ min (Go.bits .and .i64 a1 31).toNat 64))=ag:=aa
 have ai:(Go.bits .and .i64 a1 31)<=64->(IntKind.i64.wrap (a0*2 ^ (Go.bits .and .i64 a1 31).toNat))=ag:=shl_small aa
 have ax:(wrap64 (a0*2 ^ min (Go.bits .and .i64 a1 31).toNat 64))=ag:=(i64_w _).symm.trans ah
 have ay:(Go.bits .and .i64 a1 31)<=64->(wrap64 (a0*2 ^ (Go.bits .and .i64 a1 31).toNat))=ag:=fun h_=>(i64_w _).symm.trans (ai h_)
 obtain⟨ae,A9,H⟩:=qE H
 try dsimp only at H
 obtain rfl:=oJ H
 go_enter Tryz.func131,Tryz.ntmps131
 go_wp2_with (first|((with_reducible refine gate_callee (f:=87) rfl ?_);refine goesL_ (some 16) rfl rfl Tryz.func87 (by kernel_rfl) rfl #[.int .i64 ag] rfl (by (try simp only [List.map_toArray,List.map_cons,List.map_nil]);first|done|(simp only [aa];rfl)|rfl|(simp only [List.length_drop,List.length_take];rfl)) ?_;(with_reducible refine (Saz.calls ag ae _ A9.out).mono ?_);rintro e w' ⟨rfl,⟨nd,rfl⟩⟩;refine⟨_,rfl,?_⟩))
 go_ret
 exact⟨by first|rfl|(simp;done)|(simp only [<- aa] <;> (first|rfl|simp))|(simp [*];done),by repeat (first|exact Drawn0.refl _|apply Drawn0.step)⟩
def SaO.f (a0 a1:Int):Option (Int):=if a1=0 then (some (-1)) else ((Saz.f (wrap64 (Int.tdiv a0 a1))).bind fun aa=>(some aa))
theorem SaO.calls (a0 a1 r:Int) (w:World) (h:SaO.f a0 a1=some r) :
  Calls Tryz.prog 132 #[.int .i64 a0,.int .i64 a1] w fun e w'=>e = .returned (.int .i64 r)/\Drawn0 w w':=by
 have H:=h;unfold SaO.f at H
 clear h
 replace H:=jE H;rcases H with ⟨ae,af,H⟩ | ⟨c3,ae,af,H⟩
 ·obtain rfl:=oJ H
  go_enter Tryz.func132,Tryz.ntmps132
  go_wp2
  go_ret
  exact⟨qZ,qU⟩
 obtain⟨aa,A4,H⟩:=qE H
 try dsimp only at H
 obtain rfl:=oJ H
 go_enter Tryz.func132,Tryz.ntmps132
 go_wp2_with (first|((with_reducible refine jc 87 10 rfl rfl ?_);refine jG Tryz.func87 #[.int .i64 (wrap64 (Int.tdiv a0 a1))] ?_;refine (Saz.calls _ _ _ (Aside0.out (by assumption))).mono ?_;rintro e w' ⟨rfl,⟨nd,rfl⟩⟩;refine⟨_,rfl,?_⟩))
 go_ret
 exact⟨qZ,qU⟩
def SaQ.f (a0 a1:Int):Option (Int):=if a1=0 then (some a0) else (some (Int.tmod a0 a1))
theorem SaQ.calls (a0 a1 r:Int) (w:World) (h:SaQ.f a0 a1=some r) :
  Calls Tryz.prog 133 #[.int .i64 a0,.int .i64 a1] w fun e w'=>e = .returned (.int .i64 r)/\Drawn0 w w':=by
 have H:(if a1=0 then (some a0) else (some (Int.tmod a0 a1)))=some r:=h
 clear h
 replace H:=jE H;rcases H with ⟨aa,ae,H⟩ | ⟨c3,aa,ae,H⟩
 ·obtain rfl:=oJ H
  go_enter Tryz.func133,Tryz.ntmps133
  go_wp2
  go_ret
  exact⟨qZ,qU⟩
 obtain rfl:=oJ H
 go_enter Tryz.func133,Tryz.ntmps133
 go_wp2
 go_ret
 exact⟨qZ,qU⟩
end Go.Proofs.YtebpplallecogaaGreat.M
