/- Part 3 of the proof: A function as plain Lean and its contract: written by a program of this session's, turned from the kit's print. -/
import Derived.Test.YtebpplallecogaaGreatDB2
set_option linter.unusedVariables false
set_option linter.unusedSimpArgs false
set_option maxHeartbeats 8000000
set_option maxRecDepth 100000
namespace Go.Proofs.YtebpplallecogaaGreat.M
open Go.Proofs.Tryz Go.RowKit Go.Proofs.YtebpplallecogaaGreatW.PrintWords Go.Proofs.YtebpplallecogaaGreatW.PrintLast Go.Proofs.YtebpplallecogaaGreatW.PrintMore
attribute [local go_sem] max2_int min2_int max_two min_two max_three min_three max_four min_four
mutual
def Sbt.f:Nat->List Int->Int->Int->Int->Bool->Option (Int × Int × Int × Int × Int × (List (S90)) × (List (S92)) × (List (S92)) × Int)
 | 0,_,_,_,_,_=>none
 | k+1,af,ay,a1,a2,a3=>(Sbn.f k af ay 2).bind fun bI=>((Sbo.f k af bI.2 (wrap64 (1+bI.1))).bind fun aZ=>((Sbn.f k af aZ.2.2.2 3).bind fun bJ=>((Sbs.f k af bJ.2 a1 (wrap64 (a2 - 1)) bJ.1 a3).bind fun bK=>((Sbn.f k af bK.2 3).bind fun bL=>((Sbs.f k af bL.2 a1 (wrap64 (a2 - 1)) bL.1 a3).bind fun bM=>(some (2,0,0,aZ.1,aZ.2.1,aZ.2.2.1,bK.1,bM.1,bM.2)))))))
def Sbu.f:Nat->List Int->Int->Int->Int->Option ((List (S92)) × Int)
 | 0,_,_,_,_=>none
 | k+1,af,ay,a1,a2=>(Sbn.f k af ay 3).bind fun gM=>((Sbs.f k af gM.2 a1 (wrap64 (a2 - 1)) gM.1 false).bind fun fe=>((Sbj.f 13 3).bind fun fo=>((Sbj.f 0 1).bind fun fq=>((Sbi.f 8 fo.1 fo.2.1 fo.2.2 fq.1 fq.2.1 fq.2.2).bind fun fu=>((Sbj.f 13 3).bind fun fw=>((Sbn.f k af fe.2 3).bind fun gN=>((Sbj.f 0 (wrap64 (1+gN.1))).bind fun fA=>((Sbi.f 5 fw.1 fw.2.1 fw.2.2 fA.1 fA.2.1 fA.2.2).bind fun fB=>((some (([(⟨1,3,0,(⟨fu.1,fu.2.1,fu.2.2⟩:S90),([]:List (S92)),([]:List (S92))⟩:S92)]:List (S92)):List (S92))).bind fun iO=>(if fe.1.length+iO.length < 1256584717458 then ((Sbj.f 0 0).bind fun fC=>(some ((([(⟨1,3,0,(⟨fC.1,fC.2.1,fC.2.2⟩:S90),([]:List (S92)),([]:List (S92))⟩:S92),(⟨3,0,0,(⟨fB.1,fB.2.1,fB.2.2⟩:S90),(fe.1 ++ iO),([]:List (S92))⟩:S92)]:List (S92))),gN.2))) else (none)))))))))))
def Sbw.j0:Nat->Int->Int->Bool->Int->Bool->List Int->Int->Option ((List (S92)) × Int)
 | 0,_,_,_,_,_,_,_=>none
 | k+1,x1,x2,x3,eZ,iP,x1000,aC=>if iP=true then ((Sbv.f k x1000 aC).bind fun bg=>(some ((([(⟨bg.1,bg.2.1,bg.2.2.1,(⟨bg.2.2.2.1,bg.2.2.2.2.1,bg.2.2.2.2.2.1⟩:S90),bg.2.2.2.2.2.2.1,bg.2.2.2.2.2.2.2.1⟩:S92)]:List (S92))),bg.2.2.2.2.2.2.2.2))) else (if eZ=2 then (if x2 > 0 then ((Sbt.f k x1000 aC x1 x2 x3).bind fun bi=>(some ((([(⟨bi.1,bi.2.1,bi.2.2.1,(⟨bi.2.2.2.1,bi.2.2.2.2.1,bi.2.2.2.2.2.1⟩:S90),bi.2.2.2.2.2.2.1,bi.2.2.2.2.2.2.2.1⟩:S92)]:List (S92))),bi.2.2.2.2.2.2.2.2))) else ((Sbn.f k x1000 aC 3).bind fun gP=>((Sbo.f k x1000 gP.2 (wrap64 (1+gP.1))).bind fun dQ=>(some ((([(⟨7,0,0,(⟨dQ.1,dQ.2.1,dQ.2.2.1⟩:S90),([]:List (S92)),([]:List (S92))⟩:S92)]:List (S92))),dQ.2.2.2))))) else (if eZ=3 then (if x2 > 0 then (Sbw.j1 k x1 x2 x3 x1000 aC) else (Sbw.j1 k x1 x2 false x1000 aC)) else (if eZ=4 then (Sbw.j2 k x1 eZ (eZ == 4) x1000 aC) else (if eZ=5 then (Sbw.j2 k x1 eZ (eZ == 5) x1000 aC) else (Sbw.j2 k x1 eZ (eZ == 6) x1000 aC)))))
def Sbw.j1:Nat->Int->Int->Bool->List Int->Int->Option ((List (S92)) × Int)
 | 0,_,_,_,_,_=>none
 | k+1,x1,x2,pq,x1000,aC=>if pq=true then ((Sbu.f k x1000 aC x1 x2).bind fun gQ=>(some (gQ.1,gQ.2))) else ((Sbn.f k x1000 aC 3).bind fun gT=>((Sbo.f k x1000 gT.2 (wrap64 (1+gT.1))).bind fun dR=>(some ((([(⟨7,0,0,(⟨dR.1,dR.2.1,dR.2.2.1⟩:S90),([]:List (S92)),([]:List (S92))⟩:S92)]:List (S92))),dR.2.2.2))))
def Sbw.j2:Nat->Int->Int->Bool->List Int->Int->Option ((List (S92)) × Int)
 | 0,_,_,_,_,_=>none
 | k+1,x1,eZ,x38,x1000,aC=>if x38=true then ((Sby.f k x1000 aC x1).bind fun bn=>(some ((([(⟨bn.1,bn.2.1,bn.2.2.1,(⟨bn.2.2.2.1,bn.2.2.2.2.1,bn.2.2.2.2.2.1⟩:S90),bn.2.2.2.2.2.2.1,bn.2.2.2.2.2.2.2.1⟩:S92)]:List (S92))),bn.2.2.2.2.2.2.2.2))) else (if eZ=7 then (some ((([(⟨6,0,0,(⟨0,0,([]:List (S90))⟩:S90),([]:List (S92)),([]:List (S92))⟩:S92)]:List (S92))),aC)) else ((Sbn.f k x1000 aC 3).bind fun gU=>((Sbo.f k x1000 gU.2 (wrap64 (1+gU.1))).bind fun dS=>(some ((([(⟨7,0,0,(⟨dS.1,dS.2.1,dS.2.2.1⟩:S90),([]:List (S92)),([]:List (S92))⟩:S92)]:List (S92))),dS.2.2.2)))))
def Sbw.f:Nat->List Int->Int->Int->Int->Bool->Option ((List (S92)) × Int)
 | 0,_,_,_,_,_=>none
 | k+1,af,ay,a1,a2,a3=>(Sbn.f k af ay 10).bind fun aI=>(if aI.1=0 then (Sbw.j0 k a1 a2 a3 aI.1 (aI.1 == 0) af aI.2) else (Sbw.j0 k a1 a2 a3 aI.1 (aI.1 == 1) af aI.2))
def Sbs.l0:Nat->Int->Int->Int->Bool->List (S92)->Int->List Int->Int->Option ((List (S92)) × Int)
 | 0,_,_,_,_,_,_,_,_=>none
 | k+1,x1,x2,x3,x4,iP,oG,x1000,aC=>if oG < x3 then ((Sbw.f k x1000 aC x1 x2 x4).bind fun fD=>(if iP.length+fD.1.length < 1256584717458 then (Sbs.l0 k x1 x2 x3 x4 (iP ++ fD.1) (wrap64 (oG+1)) x1000 fD.2) else (none))) else (some (iP,aC))
def Sbs.f:Nat->List Int->Int->Int->Int->Int->Bool->Option ((List (S92)) × Int)
 | 0,_,_,_,_,_,_=>none
 | k+1,af,ay,a1,a2,a3,a4=>Sbs.l0 k a1 a2 a3 a4 (([]:List (S92))) 0 af ay
end
@[reducible] def Sbt.stmt (k:Nat):Prop:=∀ (g:Nat) (af:List Int) (ay:Int) (a1:Int) (a2:Int) (a3:Bool) (r1:Int) (r2:Int) (r3:Int) (r4:Int) (r5:Int) (r6:List (S90)) (r7:List (S92)) (r8:List (S92)) (r9:Int) (w0 w:World) (hI:Saa w0 w g af ay) (hB:Below w0.heap.size w0 w) (h:Sbt.f k af ay a1 a2 a3=some (r1,r2,r3,r4,r5,r6,r7,r8,r9)),
  Calls prog 93 #[.pointer (some ⟨g,0,none⟩),iV a1,iV a2,.bool a3] w fun e w'=>∃ l8 l9 ma:Value,e = .returned (.agg #[iV r1,iV r2,iV r3,iV r4,iV r5,l8,l9,ma])/\Kd.N k90 90 w' w.heap.size (fun k_=>(w.heap.size<=k_)/\some k_≠(l9:Value).ownBlock/\some k_≠(ma:Value).ownBlock) l8 r6/\Kd.N k92 92 w' w.heap.size (fun k_=>(w.heap.size<=k_)/\some k_≠(l8:Value).ownBlock/\some k_≠(ma:Value).ownBlock) l9 r7/\Kd.N k92 92 w' w.heap.size (fun k_=>(w.heap.size<=k_)/\some k_≠(l8:Value).ownBlock/\some k_≠(l9:Value).ownBlock) ma r8/\Saa w0 w' g af r9/\Below w0.heap.size w0 w'/\KeepBut w w' g none
@[reducible] def Sbu.stmt (k:Nat):Prop:=∀ (g:Nat) (af:List Int) (ay:Int) (a1:Int) (a2:Int) (r1:List (S92)) (r2:Int) (w0 w:World) (hI:Saa w0 w g af ay) (hB:Below w0.heap.size w0 w) (h:Sbu.f k af ay a1 a2=some (r1,r2)),
  Calls prog 94 #[.pointer (some ⟨g,0,none⟩),iV a1,iV a2] w fun e w'=>∃ gV:Value,e = .returned (gV)/\Kd.N k92 92 w' w.heap.size (fun k_=>(w.heap.size<=k_)) gV r1/\Saa w0 w' g af r2/\Below w0.heap.size w0 w'/\KeepBut w w' g none
@[reducible] def Sbw.stmt (k:Nat):Prop:=∀ (g:Nat) (af:List Int) (ay:Int) (a1:Int) (a2:Int) (a3:Bool) (r1:List (S92)) (r2:Int) (w0 w:World) (hI:Saa w0 w g af ay) (hB:Below w0.heap.size w0 w) (h:Sbw.f k af ay a1 a2 a3=some (r1,r2)),
  Calls prog 82 #[.pointer (some ⟨g,0,none⟩),iV a1,iV a2,.bool a3] w fun e w'=>∃ gV:Value,e = .returned (gV)/\Kd.N k92 92 w' w.heap.size (fun k_=>(w.heap.size<=k_)) gV r1/\Saa w0 w' g af r2/\Below w0.heap.size w0 w'/\KeepBut w w' g none
@[reducible] def Sbs.stmt (k:Nat):Prop:=∀ (g:Nat) (af:List Int) (ay:Int) (a1:Int) (a2:Int) (a3:Int) (a4:Bool) (r1:List (S92)) (r2:Int) (w0 w:World) (hI:Saa w0 w g af ay) (hB:Below w0.heap.size w0 w) (h:Sbs.f k af ay a1 a2 a3 a4=some (r1,r2)),
  Calls prog 73 #[.pointer (some ⟨g,0,none⟩),iV a1,iV a2,iV a3,.bool a4] w fun e w'=>∃ gV:Value,e = .returned (gV)/\Kd.N k92 92 w' w.heap.size (fun k_=>(w.heap.size<=k_)) gV r1/\Saa w0 w' g af r2/\Below w0.heap.size w0 w'/\KeepBut w w' g none
def Sbt.T3:Bool × List (List Nat × List Nat):=(true,[([],[]),([],[]),([],[]),([],[]),([],[]),([4],[4]),([],[]),([6],[6]),([],[]),([2,3,5,7,8,7],[2,3,5,7,8]),([0,1,9],[0,1,9]),([10,9,0,1,2,3,4,5,6,7,8,9,10],[10])])
def Sbt.B3:List Nat:=[0,0,0,0,0,16,0,64,0,508,1023,2047]
theorem Sbt.tab3:rtab .any (opsOf f93 3)=Sbt.T3:=by kernel_rfl
theorem Sbt.bits3:waitsOk Sbt.T3.2 Sbt.B3=true:=by kernel_rfl
theorem Sbt.step (k:Nat) (aj:∀ m_,m_ < k->Sbs.stmt m_) (aG:∀ m_,m_ < k->Sbw.stmt m_) (ih:∀ m_,m_ < k->Sbt.stmt m_) (aH:∀ m_,m_ < k->Sbu.stmt m_):Sbt.stmt k:=by
 intro g af ay a1 a2 a3 r1 r2 r3 r4 r5 r6 r7 r8 r9 w0 w hI hB h
 cases k with
 | zero=>exact absurd h (by simp [Sbt.f])
 | succ k =>
 simp only [Sbt.f] at h
 have mR:=underlying92
 have pz:=underlying90
 have HI0:=aM hI
 have HK:=aM (KeepBut.refl w g none)
 have HL:=aM hB.size
 clear hI
 have HW0:=aM hB.size
 have HB:=aM hB
 clear hB
 have H:((Sbn.f k af ay 2).bind fun bI=>((Sbo.f k af bI.2 (wrap64 (1+bI.1))).bind fun aZ=>((Sbn.f k af aZ.2.2.2 3).bind fun bJ=>((Sbs.f k af bJ.2 a1 (wrap64 (a2 - 1)) bJ.1 a3).bind fun bK=>((Sbn.f k af bK.2 3).bind fun bL=>((Sbs.f k af bL.2 a1 (wrap64 (a2 - 1)) bL.1 a3).bind fun bM=>(some (2,0,0,aZ.1,aZ.2.1,aZ.2.2.1,bK.1,bM.1,bM.2))))))))=some (r1,r2,r3,r4,r5,r6,r7,r8,r9):=h
 clear h
 obtain⟨⟨iA,iQ⟩,A5,H⟩:=qE H
 try dsimp only at H
 obtain⟨⟨bv,bz,aU,gF⟩,A6,H⟩:=qE H
 try dsimp only at H
 obtain⟨⟨iB,iR⟩,A7,H⟩:=qE H
 try dsimp only at H
 obtain⟨⟨fE,iT⟩,A8,H⟩:=qE H
 try dsimp only at H
 obtain⟨⟨iC,iU⟩,A9,H⟩:=qE H
 try dsimp only at H
 obtain⟨⟨fF,mU⟩,iW,H⟩:=qE H
 try dsimp only at H
 obtain⟨rfl,rfl,rfl,rfl,rfl,rfl,rfl,rfl,rfl⟩:=oJ9 H
 go_enter func93,ntmps93
 try go_wp2_with (first|((with_reducible refine jd 8 rfl ?_);refine jX _ 92 ?_;intro aa hg oH hbox hb;have ag:=aM hbox;have oI:=aM ((by rw [hg];exact (keep_size (w:=w) (g:=g) (row:=none) qH):w.heap.size<=aa));have oK:=aM ((Nat.le_trans HW0.out (by rw [hg];exact (keep_size (w:=w) (g:=g) (row:=none) qH):w.heap.size<=aa):w0.heap.size<=aa));have mf:=aM ((by rw [hg];exact Nat.ne_of_lt (Saa.lt (show Saa w0 _ g af ay from qI HI0)):g≠aa));have aV:=aM ((by rw [hg];exact Nat.ne_of_gt (Saa.lt (show Saa w0 _ g af ay from qI HI0)):aa≠g));replace HI0:=aM (Saa.below (qI HI0) hb);replace HK:=aM (KeepBut.trans (w:=w) qH (KeepBut.of_below hb g none) (.inl rfl));replace HB:=kH hb;clear hb hbox hg)|((with_reducible refine jc 52 13 rfl rfl ?_);refine jG func52 #[.pointer (some ⟨g,0,none⟩),iV 2] ?_;refine (Sbn.calls k g af ay 2 iA iQ w0 _ ?ah ?ai A5.out).mono ?_;(case ah=>exact qI HI0);(case ai=>exact qB);rintro e rX ⟨rfl,hi,hb,hk⟩;refine⟨_,rfl,?_⟩;replace ag:=aM (KeepBut.blk hk (g':=aa) (o:=.cells #[iV 0,iV 0,iV 0,iV 0,iV 0,.slice none 0 0,.slice none 0 0,.slice none 0 0] 92 (0,0)) (qK ag) aV.out (by simp));replace HK:=aM (KeepBut.trans (w:=w) qH hk (.inl rfl));replace HB:=aM hb;replace HI0:=aM hi;clear hb hk hi)|((with_reducible refine jc 96 15 rfl rfl ?_);refine jG func96 #[.pointer (some ⟨g,0,none⟩),iV (wrap64 (1+iA))] ?_;refine (Sbo.calls k g af iQ (wrap64 (1+iA)) bv bz aU gF w0 _ ?ah ?ai A6.out).mono ?_;(case ah=>exact qI HI0);(case ai=>exact qB);rintro e rY ⟨pE,rfl,ho0,hi,hb,hk⟩;refine⟨_,rfl,?_⟩;have aD:=aM (Kd.N_lower (Kd.N_mono (ok':=fun k_=>(w.heap.size<=k_)/\k_≠aa/\k_≠g) ho0 (fun k_ hk_=>⟨(Nat.le_trans (keep_size (w:=w) (g:=g) (row:=none) qH) hk_),(Kd.freshB (g:=aa) (o:=.cells #[iV 0,iV 0,iV 0,iV 0,iV 0,.slice none 0 0,.slice none 0 0,.slice none 0 0] 92 (0,0)) (qK ag) k_ hk_),(Saa.fresh (qI HI0) k_ hk_)⟩)) (keep_size (w:=w) (g:=g) (row:=none) qH));replace ag:=aM (KeepBut.blk hk (g':=aa) (o:=.cells #[iV 0,iV 0,iV 0,iV 0,iV 0,.slice none 0 0,.slice none 0 0,.slice none 0 0] 92 (0,0)) (qK ag) aV.out (by simp));replace HK:=aM (KeepBut.trans (w:=w) qH hk (.inl rfl));replace HB:=aM hb;replace HI0:=aM hi;clear hb hk hi;(try clear ho0))|((with_reducible refine jd 9 rfl ?_);refine jX _ 90 ?_;intro au hg rZ hbox hb;have av:=aM hbox;have oL:=aM ((by rw [hg];exact (keep_size (w:=w) (g:=g) (row:=none) qH):w.heap.size<=au));have oM:=aM ((Nat.le_trans HW0.out (by rw [hg];exact (keep_size (w:=w) (g:=g) (row:=none) qH):w.heap.size<=au):w0.heap.size<=au));have ax:=kN hg ag;have ae:=kM hg ag;have gG:=aM ((by rw [hg];exact Nat.ne_of_lt (Saa.lt (show Saa w0 _ g af gF from qI HI0)):g≠au));have bq:=aM ((by rw [hg];exact Nat.ne_of_gt (Saa.lt (show Saa w0 _ g af gF from qI HI0)):au≠g));replace aD:=aM (Kd.N_below (Kd.N_elderB (qN aD) au (Nat.le_of_eq hg.symm)) hb);replace HI0:=aM (Saa.below (qI HI0) hb);replace ag:=kB ag hb;replace HK:=aM (KeepBut.trans (w:=w) qH (KeepBut.of_below hb g none) (.inl rfl));replace HB:=kH hb;clear hb hbox hg;have oN:=ae.out;have oO:=ax.out;have oP:=bq.out;have oQ:=gG.out;have pF:=jz3 av;obtain⟨aW,aX,mV⟩:=Kd.N_slice aD.out;subst mV)|((with_reducible refine jc 52 21 rfl rfl ?_);refine jG func52 #[.pointer (some ⟨g,0,none⟩),iV 3] ?_;refine (Sbn.calls k g af gF 3 iB iR w0 _ ?ah ?ai A7.out).mono ?_;(case ah=>exact qI HI0);(case ai=>exact qB);rintro e si ⟨rfl,hi,hb,hk⟩;refine⟨_,rfl,?_⟩;replace ag:=aM (KeepBut.blk hk (g':=aa) (o:=.cells #[iV 0,iV 0,iV 0,iV 0,iV 0,.slice none 0 0,.slice none 0 0,.slice none 0 0] 92 (0,0)) (qL ag) aV.out (by simp));replace aD:=aM (Kd.N_mono (Kd.N_keep (Kd.N_mono (ok:=fun k_=>((((w.heap.size<=k_))/\(k_≠aa/\k_≠g))/\k_≠au)) (by (with_reducible repeat (first|apply Kd.N_alloc|apply Kd.N_drewN|apply Kd.N_drew));exact (Kd.N_mono (Kd.N_far (p:=⟨au,2,none⟩) (Kd.N_far (p:=⟨au,1,none⟩) (Kd.N_far (p:=⟨au,0,none⟩) (Kd.N_mono aD.out (fun k_ hk=>(⟨hk,hk.2⟩:_/\k_≠au))) (fun _ hk=>hk.2) (iV bv)) (fun _ hk=>hk.2) (iV bz)) (fun _ hk=>hk.2) (.slice aW aU.length aX)) (fun _ h_=>h_.1))) (fun k_ hk_=>(⟨hk_,hk_.1.2.2⟩:_/\k_≠g))) hk (fun _ h=>h.2)) (fun _ h=>h.1));replace av:=aM (KeepBut.blk hk (g':=au) (o:=.cells #[iV bv,iV bz,.slice aW aU.length aX] 90 (0,0)) (qF av) bq.out (by simp));replace HK:=aM (KeepBut.trans (w:=w) qH hk (.inl rfl));replace HB:=aM hb;replace HI0:=aM hi;clear hb hk hi)|((with_reducible refine jc 73 23 rfl rfl ?_);refine jG func73 #[.pointer (some ⟨g,0,none⟩),iV a1,iV (wrap64 (a2 - 1)),iV iB,.bool a3] ?_;refine (aj k (by omega) g af iR a1 (wrap64 (a2 - 1)) iB a3 fE iT w0 _ ?ah ?ai A8.out).mono ?_;(case ah=>exact qI HI0);(case ai=>exact qB);rintro e mW ⟨iD,rfl,ho0,hi,hb,hk⟩;refine⟨_,rfl,?_⟩;have aY:=aM (Kd.N_lower (Kd.N_mono (ok':=fun k_=>(w.heap.size<=k_)/\some k_≠(.slice aW aU.length aX:Value).ownBlock/\k_≠aa/\k_≠au/\k_≠g) ho0 (fun k_ hk_=>⟨(Nat.le_trans (keep_size (w:=w) (g:=g) (row:=none) qH) hk_),(Kd.fresh' (Kd.N_lt (qN aD)) k_ hk_),(Kd.freshB (g:=aa) (o:=.cells #[iV 0,iV 0,iV 0,iV 0,iV 0,.slice none 0 0,.slice none 0 0,.slice none 0 0] 92 (0,0)) (qK ag) k_ hk_),(Kd.freshB (g:=au) (o:=.cells #[iV bv,iV bz,.slice aW aU.length aX] 90 (0,0)) (qK av) k_ hk_),(Saa.fresh (qI HI0) k_ hk_)⟩)) (keep_size (w:=w) (g:=g) (row:=none) qH));replace ag:=aM (KeepBut.blk hk (g':=aa) (o:=.cells #[iV 0,iV 0,iV 0,iV 0,iV 0,.slice none 0 0,.slice none 0 0,.slice none 0 0] 92 (0,0)) (qK ag) aV.out (by simp));replace aD:=aM (Kd.N_mono (Kd.N_told (Kd.N_oldK (Kd.N_mono (ok:=fun k_=>((((w.heap.size<=k_))/\(k_≠aa/\k_≠g))/\k_≠au)) (qN aD) (fun k_ hk_=>(⟨hk_,hk_.1.2.2⟩:_/\k_≠g))) hk) (by first|exact Kd.N_base ho0|exact Kd.R_base ho0)) (fun _ h_=>h_.1));replace av:=aM (KeepBut.blk hk (g':=au) (o:=.cells #[iV bv,iV bz,.slice aW aU.length aX] 90 (0,0)) (qK av) bq.out (by simp));replace HK:=aM (KeepBut.trans (w:=w) qH hk (.inl rfl));replace HB:=aM hb;replace HI0:=aM hi;clear hb hk hi;(try clear ho0)))
 replace aD:=aM (Kd.N_drew aD.out)
 replace aY:=aM (Kd.N_drew aY.out)
 replace ag:=aM (blk_drew ag.out)
 replace av:=aM (blk_drew av.out)
 replace HI0:=aM (Saa.drew HI0.out)
 replace HK:=aM (keep_drew HK.out)
 replace HB:=aM (below_drew1 HB.out)
 refine start_ (n:=12) (S:=fun w'=>w'.cell? ⟨au,0,none⟩=some (iV bv)/\w'.cell? ⟨au,1,none⟩=some (iV bz)/\w'.cell? ⟨au,2,none⟩=some (.slice aW aU.length aX)) (ds:=[]) (jb 12 0) (by kernel_rfl) rfl rfl ⟨(blk_cell av.out 0).trans rfl,(blk_cell av.out 1).trans rfl,(blk_cell av.out 2).trans rfl⟩ (fun hHeld=>?_);refine with_tabW Sbt.tab3 Sbt.bits3 (fun HT_ HW_=>?_)
 generalize mW.drew=sj at aD aY ag av HI0 HK HB hHeld ⊢
 refine jp 1 25 (jb 12 2) ?_
 refine jp 2 26 (jb 12 6) ?_
 refine jp 3 27 (jb 12 14) ?_
 refine jp 4 28 (jb 12 30) ?_
 refine jp 5 29 (jb 12 62) ?_
 refine jp 6 30 (jb 12 126) ?_
 refine jp 8 32 (jb 12 382) ?_
 refine jt 0 24 (jb 12 383) ?_
 refine one_ (i:=7) (N:=some 31) (jb 12 511) rfl rfl (one_of HT_.out (by kernel_rfl)) (by decide) (fun K hK=>?_)
 refine goes_ func52 (by kernel_rfl) rfl #[.pointer (some ⟨g,0,none⟩),iV 3] (by rfl) rfl rfl qM ?_
 with_reducible refine (Sbn.calls k g af iT 3 iC iU w0 _ ?ah ?ai A9.out).mono ?_
 (case ah=>exact qI HI0)
 (case ai=>exact qB)
 rintro e su ⟨rfl,hi,hb,hk⟩
 refine⟨_,rfl,?_⟩
 replace ag:=aM (KeepBut.blk hk (g':=aa) (o:=.cells #[iV 0,iV 0,iV 0,iV 0,iV 0,.slice none 0 0,.slice none 0 0,.slice none 0 0] 92 (0,0)) (qK ag) aV.out (by simp))
 replace aD:=aM (Kd.N_mono (Kd.N_keep (Kd.N_mono (ok:=fun k_=>(((((w.heap.size<=k_))/\(k_≠aa/\k_≠g))/\k_≠au)/\some k_≠(iD:Value).ownBlock)) (qN aD) (fun k_ hk_=>(⟨hk_,hk_.1.1.2.2⟩:_/\k_≠g))) hk (fun _ h=>h.2)) (fun _ h=>h.1))
 replace av:=aM (KeepBut.blk hk (g':=au) (o:=.cells #[iV bv,iV bz,.slice aW aU.length aX] 90 (0,0)) (qK av) bq.out (by simp))
 replace aY:=aM (Kd.N_mono (Kd.N_keep (Kd.N_mono (ok:=fun k_=>(((w.heap.size<=k_))/\(some k_≠(.slice aW aU.length aX:Value).ownBlock/\(k_≠aa/\(k_≠au/\k_≠g))))) (qN aY) (fun k_ hk_=>(⟨hk_,hk_.2.2.2.2⟩:_/\k_≠g))) hk (fun _ h=>h.2)) (fun _ h=>h.1))
 replace HK:=aM (KeepBut.trans (w:=w) qH hk (.inl rfl))
 replace HB:=aM hb
 replace HI0:=aM hi
 (try clear hb)
 (try clear hb2)
 (try clear hk)
 (try clear hi)
 refine hK.out _ _ ⟨(blk_cell av.out 0).trans rfl,(blk_cell av.out 1).trans rfl,(blk_cell av.out 2).trans rfl⟩ (fun hHeld=>?_)
 clear hK K
 refine norm_ (a':=?_) ?_ ?_
 rotate_left
 ·show Act.put _ (some 31) _=_
  simp only [Act.put,List.setIfInBounds_toArray,List.set_cons_zero,List.set_cons_succ,i64_w,i32_w]
  rfl
 refine one_ (i:=9) (N:=some 33) (jb 12 1023) rfl rfl (one_of HT_.out (by kernel_rfl)) (by decide) (fun K hK=>?_)
 refine goes_ func73 (by kernel_rfl) rfl #[.pointer (some ⟨g,0,none⟩),iV a1,iV (wrap64 (a2 - 1)),iV iC,.bool a3] (by rfl) rfl rfl qM ?_
 with_reducible refine (aj k (by omega) g af iU a1 (wrap64 (a2 - 1)) iC a3 fF mU w0 _ ?ah ?ai iW.out).mono ?_
 (case ah=>exact qI HI0)
 (case ai=>exact qB)
 rintro e gW ⟨pG,rfl,ho0,hi,hb,hk⟩
 refine⟨_,rfl,?_⟩
 have gX:=aM (Kd.N_lower (Kd.N_mono (ok':=fun k_=>(w.heap.size<=k_)/\some k_≠(.slice aW aU.length aX:Value).ownBlock/\some k_≠(iD:Value).ownBlock/\k_≠aa/\k_≠au/\k_≠g) ho0 (fun k_ hk_=>⟨(Nat.le_trans (keep_size (w:=w) (g:=g) (row:=none) qH) hk_),(Kd.fresh' (Kd.N_lt (qN aD)) k_ hk_),(Kd.fresh' (Kd.N_lt (qN aY)) k_ hk_),(Kd.freshB (g:=aa) (o:=.cells #[iV 0,iV 0,iV 0,iV 0,iV 0,.slice none 0 0,.slice none 0 0,.slice none 0 0] 92 (0,0)) (qK ag) k_ hk_),(Kd.freshB (g:=au) (o:=.cells #[iV bv,iV bz,.slice aW aU.length aX] 90 (0,0)) (qK av) k_ hk_),(Saa.fresh (qI HI0) k_ hk_)⟩)) (keep_size (w:=w) (g:=g) (row:=none) qH))
 replace ag:=aM (KeepBut.blk hk (g':=aa) (o:=.cells #[iV 0,iV 0,iV 0,iV 0,iV 0,.slice none 0 0,.slice none 0 0,.slice none 0 0] 92 (0,0)) (qK ag) aV.out (by simp))
 replace aD:=aM (Kd.N_mono (Kd.N_told (Kd.N_oldK (Kd.N_mono (ok:=fun k_=>(((((w.heap.size<=k_))/\(k_≠aa/\k_≠g))/\k_≠au)/\some k_≠(iD:Value).ownBlock)) (qN aD) (fun k_ hk_=>(⟨hk_,hk_.1.1.2.2⟩:_/\k_≠g))) hk) (by first|exact Kd.N_base ho0|exact Kd.R_base ho0)) (fun _ h_=>h_.1))
 replace av:=aM (KeepBut.blk hk (g':=au) (o:=.cells #[iV bv,iV bz,.slice aW aU.length aX] 90 (0,0)) (qK av) bq.out (by simp))
 replace aY:=aM (Kd.N_mono (Kd.N_told (Kd.N_oldK (Kd.N_mono (ok:=fun k_=>(((w.heap.size<=k_))/\(some k_≠(.slice aW aU.length aX:Value).ownBlock/\(k_≠aa/\(k_≠au/\k_≠g))))) (qN aY) (fun k_ hk_=>(⟨hk_,hk_.2.2.2.2⟩:_/\k_≠g))) hk) (by first|exact Kd.N_base ho0|exact Kd.R_base ho0)) (fun _ h_=>h_.1))
 replace HK:=aM (KeepBut.trans (w:=w) qH hk (.inl rfl))
 replace HB:=aM hb
 replace HI0:=aM hi
 (try clear hb)
 (try clear hb2)
 (try clear hk)
 (try clear hi)
 (try clear ho0)
 obtain⟨gH,gI,iX⟩:=Kd.N_slice gX.out
 (first|subst iX|(injection iX with iY mX iZ;have mY:=iY.symm;have mZ:=iZ.symm;clear iY mX iZ;subst mY;subst mZ))
 obtain⟨gJ,gK,ja⟩:=Kd.N_slice aY.out
 (first|subst ja|(injection ja with iY mX iZ;have mY:=iY.symm;have mZ:=iZ.symm;clear iY mX iZ;subst mY;subst mZ))
 refine hK.out _ _ ⟨(blk_cell av.out 0).trans rfl,(blk_cell av.out 1).trans rfl,(blk_cell av.out 2).trans rfl⟩ (fun hHeld=>?_)
 clear hK K
 refine norm_ (a':=?_) ?_ ?_
 rotate_left
 ·show Act.put _ (some 33) _=_
  simp only [Act.put,List.setIfInBounds_toArray,List.set_cons_zero,List.set_cons_succ,i64_w,i32_w]
  rfl
 refine jp 10 34 (jb 12 2047) ?_
 refine one_ (i:=11) (N:=none) (jb 12 4095) rfl rfl (one_of HT_.out (by kernel_rfl)) (by decide) (fun K hK=>?_)
 have pI:gW.cell? ⟨aa,0,none⟩=some (iV 0):=(blk_cell ag.out 0).trans rfl
 have oU:=blk_frozen ag.out 0
 have mg:=ae.out
 have mh:=ax.out
 have pJ:gW.cell? ⟨aa,1,none⟩=some (iV 0):=(blk_cell ag.out 1).trans rfl
 have oV:=blk_frozen ag.out 1
 have mi:=ae.out
 have mo:=ax.out
 have pK:gW.cell? ⟨aa,2,none⟩=some (iV 0):=(blk_cell ag.out 2).trans rfl
 have oW:=blk_frozen ag.out 2
 have mq:=ae.out
 have mr:=ax.out
 have pM:gW.cell? ⟨aa,3,none⟩=some (iV 0):=(blk_cell ag.out 3).trans rfl
 have oZ:=blk_frozen ag.out 3
 have mD:=ae.out
 have mE:=ax.out
 have pO:gW.cell? ⟨aa,4,none⟩=some (iV 0):=(blk_cell ag.out 4).trans rfl
 have o5:=blk_frozen ag.out 4
 have mF:=ae.out
 have mG:=ax.out
 have pQ:gW.cell? ⟨aa,5,none⟩=some (.slice none 0 0):=(blk_cell ag.out 5).trans rfl
 have o6:=blk_frozen ag.out 5
 have mH:=ae.out
 have mI:=ax.out
 have pR:gW.cell? ⟨aa,6,none⟩=some (.slice none 0 0):=(blk_cell ag.out 6).trans rfl
 have o7:=blk_frozen ag.out 6
 have mJ:=ae.out
 have mK:=ax.out
 have pU:gW.cell? ⟨aa,7,none⟩=some (.slice none 0 0):=(blk_cell ag.out 7).trans rfl
 have o8:=blk_frozen ag.out 7
 have mO:=ae.out
 have mQ:=ax.out
 refine skip_ (w1:=?_) (by rfl) rfl ?_ ?_
 rotate_left
 ·go_simp
  rfl
 refine hK.out _ _ ⟨((cell_far (p:=⟨aa,_,none⟩) ae.out _).trans (((cell_far (p:=⟨aa,_,none⟩) ae.out _).trans (((cell_far (p:=⟨aa,_,none⟩) ae.out _).trans (((cell_far (p:=⟨aa,_,none⟩) ae.out _).trans (((cell_far (p:=⟨aa,_,none⟩) ae.out _).trans (((cell_far (p:=⟨aa,_,none⟩) ae.out _).trans (((cell_far (p:=⟨aa,_,none⟩) ae.out _).trans (((cell_far (p:=⟨aa,_,none⟩) ae.out _).trans (hHeld.1)))))))))))))))),((cell_far (p:=⟨aa,_,none⟩) ae.out _).trans (((cell_far (p:=⟨aa,_,none⟩) ae.out _).trans (((cell_far (p:=⟨aa,_,none⟩) ae.out _).trans (((cell_far (p:=⟨aa,_,none⟩) ae.out _).trans (((cell_far (p:=⟨aa,_,none⟩) ae.out _).trans (((cell_far (p:=⟨aa,_,none⟩) ae.out _).trans (((cell_far (p:=⟨aa,_,none⟩) ae.out _).trans (((cell_far (p:=⟨aa,_,none⟩) ae.out _).trans (hHeld.2.1)))))))))))))))),((cell_far (p:=⟨aa,_,none⟩) ae.out _).trans (((cell_far (p:=⟨aa,_,none⟩) ae.out _).trans (((cell_far (p:=⟨aa,_,none⟩) ae.out _).trans (((cell_far (p:=⟨aa,_,none⟩) ae.out _).trans (((cell_far (p:=⟨aa,_,none⟩) ae.out _).trans (((cell_far (p:=⟨aa,_,none⟩) ae.out _).trans (((cell_far (p:=⟨aa,_,none⟩) ae.out _).trans (((cell_far (p:=⟨aa,_,none⟩) ae.out _).trans (hHeld.2.2))))))))))))))))⟩ (fun hHeld=>?_)
 clear hK K
 refine done_ (done_of HT_.out (by kernel_rfl)) ?_
 try go_wp2
 refine bodyPost_ret (results_cell_row rfl _ _ aa 92 #[iV 2,iV 0,iV 0,iV bv,iV bz,.slice aW aU.length aX,.slice gJ fE.length gK,.slice gH fF.length gI] (0,0) _ rfl (qF ag) underlying92 rfl (by kernel_rfl)) rfl ?_
 exact⟨_,_,_,qW,by (with_reducible repeat (first|apply Kd.N_alloc|apply Kd.N_drewN|apply Kd.N_drew));exact Kd.N_mono (Kd.N_far (p:=⟨aa,7,none⟩) (Kd.N_far (p:=⟨aa,6,none⟩) (Kd.N_far (p:=⟨aa,5,none⟩) (Kd.N_far (p:=⟨aa,4,none⟩) (Kd.N_far (p:=⟨aa,3,none⟩) (Kd.N_far (p:=⟨aa,2,none⟩) (Kd.N_far (p:=⟨aa,1,none⟩) (Kd.N_far (p:=⟨aa,0,none⟩) (Kd.N_mono aD.out (fun k_ hk=>(⟨hk,hk.1.1.1.2.1⟩:_/\k_≠aa))) (fun _ hk=>hk.2) (iV 2)) (fun _ hk=>hk.2) (iV 0)) (fun _ hk=>hk.2) (iV 0)) (fun _ hk=>hk.2) (iV bv)) (fun _ hk=>hk.2) (iV bz)) (fun _ hk=>hk.2) (.slice aW aU.length aX)) (fun _ hk=>hk.2) (.slice gJ fE.length gK)) (fun _ hk=>hk.2) (.slice gH fF.length gI)) (fun _ hk=>⟨hk.1.1.1.1.1,⟨hk.1.1.2,hk.1.2⟩⟩),by (with_reducible repeat (first|apply Kd.N_alloc|apply Kd.N_drewN|apply Kd.N_drew));exact Kd.N_mono (Kd.N_far (p:=⟨aa,7,none⟩) (Kd.N_far (p:=⟨aa,6,none⟩) (Kd.N_far (p:=⟨aa,5,none⟩) (Kd.N_far (p:=⟨aa,4,none⟩) (Kd.N_far (p:=⟨aa,3,none⟩) (Kd.N_far (p:=⟨aa,2,none⟩) (Kd.N_far (p:=⟨aa,1,none⟩) (Kd.N_far (p:=⟨aa,0,none⟩) (Kd.N_mono aY.out (fun k_ hk=>(⟨hk,hk.1.2.2.1⟩:_/\k_≠aa))) (fun _ hk=>hk.2) (iV 2)) (fun _ hk=>hk.2) (iV 0)) (fun _ hk=>hk.2) (iV 0)) (fun _ hk=>hk.2) (iV bv)) (fun _ hk=>hk.2) (iV bz)) (fun _ hk=>hk.2) (.slice aW aU.length aX)) (fun _ hk=>hk.2) (.slice gJ fE.length gK)) (fun _ hk=>hk.2) (.slice gH fF.length gI)) (fun _ hk=>⟨hk.1.1.1,⟨hk.1.1.2.1,hk.1.2⟩⟩),by (with_reducible repeat (first|apply Kd.N_alloc|apply Kd.N_drewN|apply Kd.N_drew));exact Kd.N_mono (Kd.N_far (p:=⟨aa,7,none⟩) (Kd.N_far (p:=⟨aa,6,none⟩) (Kd.N_far (p:=⟨aa,5,none⟩) (Kd.N_far (p:=⟨aa,4,none⟩) (Kd.N_far (p:=⟨aa,3,none⟩) (Kd.N_far (p:=⟨aa,2,none⟩) (Kd.N_far (p:=⟨aa,1,none⟩) (Kd.N_far (p:=⟨aa,0,none⟩) (Kd.N_mono gX.out (fun k_ hk=>(⟨hk,hk.2.2.2.1⟩:_/\k_≠aa))) (fun _ hk=>hk.2) (iV 2)) (fun _ hk=>hk.2) (iV 0)) (fun _ hk=>hk.2) (iV 0)) (fun _ hk=>hk.2) (iV bv)) (fun _ hk=>hk.2) (iV bz)) (fun _ hk=>hk.2) (.slice aW aU.length aX)) (fun _ hk=>hk.2) (.slice gJ fE.length gK)) (fun _ hk=>hk.2) (.slice gH fF.length gI)) (fun _ hk=>⟨hk.1.1,⟨hk.1.2.1,hk.1.2.2.1⟩⟩),qI HI0,qB,qH⟩
def Sbu.T4:Bool × List (List Nat × List Nat):=(true,[([],[]),([0],[0]),([],[]),([2,1],[2]),([3],[3]),([4,3],[4]),([1,5,5],[1,5]),([],[]),([],[]),([8],[8]),([7,9,6],[7,9]),([6,10],[6,10]),([],[]),([12,11,10,0,1,2,3,4,5,6,7,8,9,10,11,12],[11,12])])
def Sbu.B4:List Nat:=[0,1,0,7,15,31,63,0,0,256,1023,2047,0,8191]
theorem Sbu.tab4:rtab .any (opsOf f94 4)=Sbu.T4:=by kernel_rfl
theorem Sbu.bits4:waitsOk Sbu.T4.2 Sbu.B4=true:=by kernel_rfl
theorem Sbu.step (k:Nat) (aj:∀ m_,m_ < k->Sbs.stmt m_) (aG:∀ m_,m_ < k->Sbw.stmt m_) (aN:∀ m_,m_ < k->Sbt.stmt m_) (ih:∀ m_,m_ < k->Sbu.stmt m_):Sbu.stmt k:=by
 intro g af ay a1 a2 r1 r2 w0 w hI hB H
 cases k with
 | zero=>exact absurd H (by simp [Sbu.f])
 | succ k =>
 simp only [Sbu.f] at H
 have HI0:=aM hI
 have HK:=aM (KeepBut.refl w g none)
 have HW0:=aM hB.size
 have HB:=aM hB
 clear hB hI
 obtain⟨⟨n1,p1⟩,A1,H⟩:=qE H
 try dsimp only at H
 obtain⟨⟨tb,p2⟩,A2,H⟩:=qE H
 try dsimp only at H
 obtain⟨⟨x1,y1,z1⟩,A3,H⟩:=qE H
 try dsimp only at H
 obtain⟨⟨x2,y2,z2⟩,A4,H⟩:=qE H
 try dsimp only at H
 obtain⟨⟨x3,y3,z3⟩,A5,H⟩:=qE H
 try dsimp only at H
 obtain⟨⟨x4,y4,z4⟩,A6,H⟩:=qE H
 try dsimp only at H
 obtain⟨⟨n2,p3⟩,A7,H⟩:=qE H
 try dsimp only at H
 obtain⟨⟨x5,y5,z5⟩,A8,H⟩:=qE H
 try dsimp only at H
 obtain⟨⟨x6,y6,z6⟩,A9,H⟩:=qE H
 try dsimp only at H
 obtain⟨ys,Hy⟩:∃ ys:List S92,Aside0 (ys=[(⟨1,3,0,(⟨x3,y3,z3⟩:S90),[],[]⟩:S92)]):=⟨_,⟨rfl⟩⟩
 rw [Option.bind_some,<- Hy.out] at H
 replace H:=jU H;obtain⟨c13,H⟩:=H
 obtain⟨⟨x7,y7,z7⟩,iW,H⟩:=qE H
 obtain⟨yt,Hyt⟩:∃ yt:List S92,Aside0 (yt=tb ++ ys):=⟨_,⟨rfl⟩⟩
 simp only [Option.some.injEq,Prod.mk.injEq] at H
 rw [<- Hyt.out] at H
 obtain⟨rfl,rfl⟩:=H
 go_enter func94,ntmps94
 go_wp2_with (first|((with_reducible refine jc 52 16 rfl rfl ?_);refine jG func52 #[.pointer (some ⟨g,0,none⟩),iV 3] ?_;refine (Sbn.calls k g af ay 3 n1 p1 w0 _ ?ah ?ai A1.out).mono ?_;(case ah=>exact qI HI0);(case ai=>exact qB);rintro e w1 ⟨rfl,hi,hb,hk⟩;refine⟨_,rfl,?_⟩;replace HK:=aM (KeepBut.trans (w:=w) qH hk (.inl rfl));replace HB:=aM hb;replace HI0:=aM hi;clear hi hb hk)|((with_reducible refine jc 73 17 rfl rfl ?_);refine jG func73 #[.pointer (some ⟨g,0,none⟩),iV a1,iV (wrap64 (a2 - 1)),iV n1,.bool false] ?_;refine (aj k (by omega) g af p1 a1 (wrap64 (a2 - 1)) n1 false tb p2 w0 _ ?ah ?ai A2.out).mono ?_;(case ah=>exact qI HI0);(case ai=>exact qB);rintro e w2 ⟨v1,rfl,ho,hi,hb,hk⟩;refine⟨_,rfl,?_⟩;obtain⟨bE,bF,rfl⟩:=Kd.N_slice ho;have HX:=aM (LX.start (w:=w) qH (qI HI0) HW0.out ho hi hb hk);clear hi hb hk ho HI0 HB HK)|((with_reducible refine jc 110 20 rfl rfl ?_);refine jG func110 #[iV 13,iV 3] ?_;refine LX.leaf HX.out A3.out (fun ng ni w3 hx=>?_);replace HX:=aM hx;clear hx)|((with_reducible refine jc 110 21 rfl rfl ?_);refine jG func110 #[iV 0,iV 1] ?_;refine LX.leaf HX.out A4.out (fun nk nu w3 hx=>?_);replace HX:=aM hx;clear hx)|((with_reducible refine jc 109 22 rfl rfl ?_);refine jG func109 #[iV 8,eV x1 y1 ng z1 ni,eV x2 y2 nk z2 nu] ?_;refine LX.both HX.out (by simp) (by simp) A5.out (fun bG bH w3 hx=>?_);replace HX:=aM hx;clear hx)|((with_reducible refine jd 9 rfl ?_);refine jX _ 92 ?_;intro b1 hg w4 hbox hb;replace HX:=aM (LX.box HX.out hg hbox hb);obtain⟨je,jf,jg,jh,jk,jl,jm,jo,ny,nz,nA,nC,nD,nE,nG,nH⟩:=box8 hbox;clear hb hbox hg))
 replace HX:=aM (show LX w0 w g af (.slice bE tb.length bF) tb [(b1,#[iV 1,iV 3,iV 0,iV x3,iV y3,.slice bG z3.length bH,.slice none 0 0,.slice none 0 0])] [(.slice bG z3.length bH,z3),(.slice nk z2.length nu,z2),(.slice ng z1.length ni,z1)] [] p2 _ from LX.put8 (iV 1) (iV 3) (iV 0) (iV x3) (iV y3) (.slice bG z3.length bH) (.slice none 0 0) (.slice none 0 0) HX.out)
 obtain⟨B1,HB1,m1⟩:∃ B:List (Nat × Array Value),Aside0 (B=[(b1,#[iV 1,iV 3,iV 0,iV x3,iV y3,.slice bG z3.length bH,.slice none 0 0,.slice none 0 0])])/\(b1,#[iV 1,iV 3,iV 0,iV x3,iV y3,.slice bG z3.length bH,.slice none 0 0,.slice none 0 0])∈B:=⟨_,⟨rfl⟩,List.mem_cons_self ..⟩
 obtain⟨L1,pV,m3⟩:∃ L:List (Value × List S90),Aside0 (L=[(.slice bG z3.length bH,z3),(.slice nk z2.length nu,z2),(.slice ng z1.length ni,z1)])/\(.slice bG z3.length bH,z3)∈L:=⟨_,⟨rfl⟩,List.mem_cons_self ..⟩
 rw [<- HB1.out,<- pV.out] at HX
 replace HX:=aM HX.out.drew
 refine start_ (n:=14) (S:=fun W=>W.heap[b1]?=some (.cells #[iV 1,iV 3,iV 0,iV x3,iV y3,.slice bG z3.length bH,.slice none 0 0,.slice none 0 0] 92 (0,0))) (ds:=[]) (jb 14 0) (by kernel_rfl) rfl rfl (HX.out.bx _ m1).1 (fun hHeld=>?_);refine with_tabW Sbu.tab4 Sbu.bits4 (fun HT_ HW_=>?_)
 clear je jf jg jh jk jl jm jo ny nz nA nC nD nE nG nH
 refine jp 0 24 (jb 14 1) ?_
 refine jp 2 26 (jb 14 5) ?_
 refine jp 7 31 (jb 14 133) ?_
 refine take_ (i:=8) (N:=some 32) (v:=?_) (a':=?_) (jb 14 389) rfl rfl (take_ofW HT_.out HW_.out (by kernel_rfl)) (fun _ _ _ h=>h) (Or.inl ⟨by rfl,?_⟩) hHeld ?_ ?_
 rotate_left
 ·rintro w' hs
  obtain⟨je,jf,jg,jh,jk,jl,jm,jo,_⟩:=box8 hs
  go_simp
  with_reducible rfl
 rotate_left
 ·simp only [Act.put,List.setIfInBounds_toArray,List.set_cons_zero,List.set_cons_succ,i64_w,i32_w]
  rfl
 refine join_ (σ:=Option Addr × Nat × Option Addr × Nat × Option Addr × Nat × Option Addr × Nat × Option Addr × Nat × Nat) 1 (jb 14 8191) (fun s_=>[(25,eV x4 y4 s_.1 z4 s_.2.1),(27,iV n2),(28,iV (wrap64 (1+n2))),(29,eV x5 y5 s_.2.2.1 z5 s_.2.2.2.1),(30,eV x6 y6 s_.2.2.2.2.1 z6 s_.2.2.2.2.2.1),(33,.slice s_.2.2.2.2.2.2.1 ys.length s_.2.2.2.2.2.2.2.1),(34,.slice s_.2.2.2.2.2.2.2.2.1 yt.length s_.2.2.2.2.2.2.2.2.2.1),(35,.agg #[iV 3,iV 0,iV 0,iV x6,iV y6,.slice s_.2.2.2.2.1 z6.length s_.2.2.2.2.2.1,.slice s_.2.2.2.2.2.2.2.2.1 yt.length s_.2.2.2.2.2.2.2.2.2.1,.slice none 0 0]),(10,.pointer (some ⟨s_.2.2.2.2.2.2.2.2.2.2,0,none⟩))]) (fun s_ w_=>LX w0 w g af (.slice s_.2.2.2.2.2.2.2.2.1 yt.length s_.2.2.2.2.2.2.2.2.2.1) yt ((s_.2.2.2.2.2.2.2.2.2.2,Z8) :: B1) ((.slice s_.2.2.2.2.1 z6.length s_.2.2.2.2.2.1,z6) :: (.slice s_.2.2.1 z5.length s_.2.2.2.1,z5) :: (.slice s_.1 z4.length s_.2.1,z4) :: L1) [] p3 w_) ?_ (fun gY=>?_)
 ·rintro⟨az,aA,aQ,aT,bB,bC,aJ,aK,fG,fH,x⟩ w5 h5
  try dsimp only at h5
  refine norm_ (a':=?_) ?_ ?_
  rotate_left
  ·simp only [putAll,Act.put,List.setIfInBounds_toArray,List.set_cons_zero,List.set_cons_succ,eV]
   rfl
  refine one_ (i:=13) (N:=none) (jb 14 16383) rfl rfl (one_of HT_.out (by kernel_rfl)) (by decide) (fun K hK=>?_)
  obtain⟨je,jf,jg,jh,jk,jl,jm,jo,ny,nz,nA,nC,nD,nE,nG,nH⟩:=box8 (h5.bx _ (List.mem_cons_self ..)).1
  refine skip_ (w1:=?_) (by rfl) rfl ?_ ?_
  rotate_left
  ·go_simp
   rfl
  have h6:=(show LX w0 w g af (.slice fG yt.length fH) yt ((x,#[iV 3,iV 0,iV 0,iV x6,iV y6,.slice bB z6.length bC,.slice fG yt.length fH,.slice none 0 0]) :: B1) ((.slice bB z6.length bC,z6) :: (.slice aQ z5.length aT,z5) :: (.slice az z4.length aA,z4) :: L1) [] p3 _ from LX.put8 (iV 3) (iV 0) (iV 0) (iV x6) (iV y6) (.slice bB z6.length bC) (.slice fG yt.length fH) (.slice none 0 0) h5)
  refine hK.out _ _ (h6.bx _ (.tail _ m1)).1 (fun _=>?_)
  clear hK K
  refine done_ (done_of HT_.out (by kernel_rfl)) ?_
  try go_wp2
  have h7:=h6.drew
  refine start_ (n:=6) (S:=fun W=>W.heap[x]?=some (.cells #[iV 3,iV 0,iV 0,iV x6,iV y6,.slice bB z6.length bC,.slice fG yt.length fH,.slice none 0 0] 92 (0,0))) (ds:=[]) (jb 6 0) (by kernel_rfl) rfl rfl (h7.bx _ (List.mem_cons_self ..)).1 (fun hHeld=>?_)
  clear je jf jg jh jk jl jm jo ny nz nA nC nD nE nG nH h5 h6
  refine pure_ (i:=0) (N:=some 36) (v:=?_) (a':=?_) (jb 6 1) rfl rfl (by kernel_rfl) (fun _ _ _ h=>h) (Or.inl ⟨by rfl,?_⟩) ?_ ?_
  rotate_left
  ·intro w'
   go_simp
   with_reducible rfl
  rotate_left
  ·simp only [Act.put,List.setIfInBounds_toArray,List.set_cons_zero,List.set_cons_succ,i64_w,i32_w]
   rfl
  refine take_ (i:=3) (N:=some 39) (v:=?_) (a':=?_) (jb 6 9) rfl rfl (by kernel_rfl) (fun _ _ _ h=>h) (Or.inl ⟨by rfl,?_⟩) hHeld ?_ ?_
  rotate_left
  ·rintro w' hs
   obtain⟨je,jf,jg,jh,jk,jl,jm,jo,_⟩:=box8 hs
   go_simp
   with_reducible rfl
  rotate_left
  ·simp only [Act.put,List.setIfInBounds_toArray,List.set_cons_zero,List.set_cons_succ,i64_w,i32_w]
   rfl
  refine one_ (i:=1) (N:=some 37) (jb 6 11) rfl rfl (by kernel_rfl) (by decide) (fun K hK=>?_)
  refine goes_ func110 (by kernel_rfl) rfl #[iV 0,iV 0] (by rfl) rfl rfl qM (LX.leaf h7 iW.out (fun pW pX w6 h8=>?_))
  refine hK.out _ _ (h8.bx _ (List.mem_cons_self ..)).1 (fun _=>?_)
  clear hK K
  refine norm_ (a':=?_) ?_ ?_
  rotate_left
  ·show Act.put _ (some 37) _=_
   simp only [Act.put,List.setIfInBounds_toArray,List.set_cons_zero,List.set_cons_succ,i64_w,i32_w]
   rfl
  refine pure_ (i:=2) (N:=some 38) (v:=?_) (a':=?_) (jb 6 15) rfl rfl (by kernel_rfl) (fun _ _ _ h=>h) (Or.inl ⟨by rfl,?_⟩) ?_ ?_
  rotate_left
  ·intro w'
   go_simp
   with_reducible rfl
  rotate_left
  ·simp only [Act.put,List.setIfInBounds_toArray,List.set_cons_zero,List.set_cons_succ,i64_w,i32_w]
   rfl
  refine one_ (i:=4) (N:=some 40) (jb 6 31) rfl rfl (by kernel_rfl) (by decide) (fun K hK=>?_)
  refine LX.lit2 h8 (by rfl) rfl (inner:=[iV 1,iV 3,iV 0,iV x7,iV y7,.slice pW z7.length pX,.slice none 0 0,.slice none 0 0,iV 3,iV 0,iV 0,iV x6,iV y6,.slice bB z6.length bC,.slice fG yt.length fH,.slice none 0 0]) (xs:=[(⟨1,3,0,(⟨x7,y7,z7⟩:S90),[],[]⟩:S92),(⟨3,0,0,(⟨x6,y6,z6⟩:S90),yt,[]⟩:S92)]) qR9 (LX.two h8 (by simp) (by simp)) (by simp) (fun v9 w7 hn h9=>?_)
  refine hK.out _ _ (h9.bx _ (List.mem_cons_self ..)).1 (fun _=>?_)
  clear hK K
  refine norm_ (a':=?_) ?_ ?_
  rotate_left
  ·show Act.put _ (some 40) _=_
   simp only [Act.put,List.setIfInBounds_toArray,List.set_cons_zero,List.set_cons_succ,i64_w,i32_w]
   rfl
  refine pure_ (i:=5) (N:=some 6) (v:=?_) (a':=?_) (jb 6 63) rfl rfl (by kernel_rfl) (fun _ _ _ h=>h) (Or.inl ⟨by rfl,?_⟩) ?_ ?_
  rotate_left
  ·intro w'
   go_simp
   with_reducible rfl
  rotate_left
  ·simp only [Act.put,List.setIfInBounds_toArray,List.set_cons_zero,List.set_cons_succ,i64_w,i32_w]
   rfl
  refine done_ (by kernel_rfl) ?_
  try go_wp2
  go_ret
  exact⟨_,rfl,Kd.N_mono hn (fun _ hk=>hk.1),h9.rd,h9.bl,h9.kp⟩
 refine join_ (σ:=Option Addr × Nat × Option Addr × Nat × Option Addr × Nat × Option Addr × Nat × Option Addr × Nat) 2 (jb 14 4095) (fun s_=>[(25,eV x4 y4 s_.1 z4 s_.2.1),(27,iV n2),(28,iV (wrap64 (1+n2))),(29,eV x5 y5 s_.2.2.1 z5 s_.2.2.2.1),(30,eV x6 y6 s_.2.2.2.2.1 z6 s_.2.2.2.2.2.1),(33,.slice s_.2.2.2.2.2.2.1 ys.length s_.2.2.2.2.2.2.2.1),(34,.slice s_.2.2.2.2.2.2.2.2.1 yt.length s_.2.2.2.2.2.2.2.2.2),(35,.agg #[iV 3,iV 0,iV 0,iV x6,iV y6,.slice s_.2.2.2.2.1 z6.length s_.2.2.2.2.2.1,.slice s_.2.2.2.2.2.2.2.2.1 yt.length s_.2.2.2.2.2.2.2.2.2,.slice none 0 0])]) (fun s_ w_=>LX w0 w g af (.slice s_.2.2.2.2.2.2.2.2.1 yt.length s_.2.2.2.2.2.2.2.2.2) yt B1 ((.slice s_.2.2.2.2.1 z6.length s_.2.2.2.2.2.1,z6) :: (.slice s_.2.2.1 z5.length s_.2.2.2.1,z5) :: (.slice s_.1 z4.length s_.2.1,z4) :: L1) [] p3 w_) ?_ (fun jr=>?_)
 ·rintro⟨az,aA,aQ,aT,bB,bC,aJ,aK,fG,fH⟩ w5 h5
  try dsimp only at h5
  refine norm_ (a':=?_) ?_ ?_
  rotate_left
  ·simp only [putAll,Act.put,List.setIfInBounds_toArray,List.set_cons_zero,List.set_cons_succ,eV]
   rfl
  refine one_ (i:=12) (N:=some 10) (jb 14 8191) rfl rfl (one_of HT_.out (by kernel_rfl)) (by decide) (fun K hK=>?_)
  ·exact LX.newbox h5 (by rfl) rfl (cs:=Z8) qR12 (fun x w5 hx=>hK.out _ _ (hx.bx _ (.tail _ m1)).1 (fun _=>norm_ nrm (gY (az,aA,aQ,aT,bB,bC,aJ,aK,fG,fH,x) _ hx)))
 refine join_ (σ:=Option Addr × Nat × Option Addr × Nat × Option Addr × Nat × Option Addr × Nat × Nat) 3 (jb 14 5119) (fun s_=>[(25,eV x4 y4 s_.1 z4 s_.2.1),(27,iV n2),(28,iV (wrap64 (1+n2))),(29,eV x5 y5 s_.2.2.1 z5 s_.2.2.2.1),(30,eV x6 y6 s_.2.2.2.2.1 z6 s_.2.2.2.2.2.1),(33,.slice s_.2.2.2.2.2.2.1 ys.length s_.2.2.2.2.2.2.2.1),(10,.pointer (some ⟨s_.2.2.2.2.2.2.2.2,0,none⟩))]) (fun s_ w_=>LX w0 w g af (.slice bE tb.length bF) tb ((s_.2.2.2.2.2.2.2.2,Z8) :: B1) ((.slice s_.2.2.2.2.1 z6.length s_.2.2.2.2.2.1,z6) :: (.slice s_.2.2.1 z5.length s_.2.2.2.1,z5) :: (.slice s_.1 z4.length s_.2.1,z4) :: L1) [(.slice s_.2.2.2.2.2.2.1 ys.length s_.2.2.2.2.2.2.2.1,ys)] p3 w_) ?_ (fun fI=>?_)
 ·rintro⟨az,aA,aQ,aT,bB,bC,aJ,aK,x⟩ w5 h5
  try dsimp only at h5
  refine norm_ (a':=?_) ?_ ?_
  rotate_left
  ·simp only [putAll,Act.put,List.setIfInBounds_toArray,List.set_cons_zero,List.set_cons_succ,eV]
   rfl
  refine one_ (i:=10) (N:=some 34) (jb 14 6143) rfl rfl (one_of HT_.out (by kernel_rfl)) (by decide) (fun K hK=>?_)
  ·refine LX.app h5 (by rfl) rfl (.tmp 31) (.tmp 33) rfl Hyt.out rfl rfl (by simp) c13 (fun fG fH w5 hx=>?_)
   refine hK.out _ _ (hx.bx _ (.tail _ m1)).1 (fun _=>?_)
   clear hK K
   refine norm_ (a':=?_) ?_ ?_
   rotate_left
   ·show Act.put _ (some 34) _=_
    simp only [Act.put,List.setIfInBounds_toArray,List.set_cons_zero,List.set_cons_succ,i64_w,i32_w]
    rfl
   refine jp 11 35 (jb 14 8191) ?_
   exact norm_ nrm (gY (az,aA,aQ,aT,bB,bC,aJ,aK,fG,fH,x) _ hx)
 refine join_ (σ:=Option Addr × Nat × Option Addr × Nat × Option Addr × Nat × Nat) 4 (jb 14 5055) (fun s_=>[(25,eV x4 y4 s_.1 z4 s_.2.1),(27,iV n2),(28,iV (wrap64 (1+n2))),(29,eV x5 y5 s_.2.2.1 z5 s_.2.2.2.1),(33,.slice s_.2.2.2.2.1 ys.length s_.2.2.2.2.2.1),(10,.pointer (some ⟨s_.2.2.2.2.2.2,0,none⟩))]) (fun s_ w_=>LX w0 w g af (.slice bE tb.length bF) tb ((s_.2.2.2.2.2.2,Z8) :: B1) ((.slice s_.2.2.1 z5.length s_.2.2.2.1,z5) :: (.slice s_.1 z4.length s_.2.1,z4) :: L1) [(.slice s_.2.2.2.2.1 ys.length s_.2.2.2.2.2.1,ys)] p3 w_) ?_ (fun fJ=>?_)
 ·rintro⟨az,aA,aQ,aT,aJ,aK,x⟩ w5 h5
  try dsimp only at h5
  refine norm_ (a':=?_) ?_ ?_
  rotate_left
  ·simp only [putAll,Act.put,List.setIfInBounds_toArray,List.set_cons_zero,List.set_cons_succ,eV]
   rfl
  refine one_ (i:=6) (N:=some 30) (jb 14 5119) rfl rfl (one_of HT_.out (by kernel_rfl)) (by decide) (fun K hK=>?_)
  ·exact goes_ func109 (by kernel_rfl) rfl #[iV 5,eV x4 y4 az z4 aA,eV x5 y5 aQ z5 aT] (by rfl) rfl rfl qM (LX.both h5 (by simp) (by simp) A9.out (fun bB bC w5 hx=>hK.out _ _ (hx.bx _ (.tail _ m1)).1 (fun _=>norm_ nrm (fI (az,aA,aQ,aT,bB,bC,aJ,aK,x) _ hx))))
 refine join_ (σ:=Option Addr × Nat × Option Addr × Nat × Option Addr × Nat × Nat) 4 (jb 14 4607) (fun s_=>[(25,eV x4 y4 s_.1 z4 s_.2.1),(27,iV n2),(28,iV (wrap64 (1+n2))),(29,eV x5 y5 s_.2.2.1 z5 s_.2.2.2.1),(30,eV x6 y6 s_.2.2.2.2.1 z6 s_.2.2.2.2.2.1),(10,.pointer (some ⟨s_.2.2.2.2.2.2,0,none⟩))]) (fun s_ w_=>LX w0 w g af (.slice bE tb.length bF) tb ((s_.2.2.2.2.2.2,Z8) :: B1) ((.slice s_.2.2.2.2.1 z6.length s_.2.2.2.2.2.1,z6) :: (.slice s_.2.2.1 z5.length s_.2.2.2.1,z5) :: (.slice s_.1 z4.length s_.2.1,z4) :: L1) [] p3 w_) ?_ (fun gZ=>?_)
 ·rintro⟨az,aA,aQ,aT,bB,bC,x⟩ w5 h5
  try dsimp only at h5
  refine norm_ (a':=?_) ?_ ?_
  rotate_left
  ·simp only [putAll,Act.put,List.setIfInBounds_toArray,List.set_cons_zero,List.set_cons_succ,eV]
   rfl
  refine one_ (i:=9) (N:=some 33) (jb 14 5119) rfl rfl (one_of HT_.out (by kernel_rfl)) (by decide) (fun K hK=>?_)
  ·exact LX.lit h5 (by rfl) rfl (inner:=[iV 1,iV 3,iV 0,iV x3,iV y3,.slice bG z3.length bH,.slice none 0 0,.slice none 0 0]) (xs:=[(⟨1,3,0,(⟨x3,y3,z3⟩:S90),[],[]⟩:S92)]) Hy.out qR9 (LX.one h5 (by simp [m3])) (by simp) (fun aJ aK w5 hx=>hK.out _ _ (hx.bx _ (.tail _ m1)).1 (fun _=>norm_ nrm (fI (az,aA,aQ,aT,bB,bC,aJ,aK,x) _ hx)))
 refine join_ (σ:=Option Addr × Nat × Option Addr × Nat × Option Addr × Nat × Option Addr × Nat) 4 (jb 14 1023) (fun s_=>[(25,eV x4 y4 s_.1 z4 s_.2.1),(27,iV n2),(28,iV (wrap64 (1+n2))),(29,eV x5 y5 s_.2.2.1 z5 s_.2.2.2.1),(30,eV x6 y6 s_.2.2.2.2.1 z6 s_.2.2.2.2.2.1),(33,.slice s_.2.2.2.2.2.2.1 ys.length s_.2.2.2.2.2.2.2)]) (fun s_ w_=>LX w0 w g af (.slice bE tb.length bF) tb B1 ((.slice s_.2.2.2.2.1 z6.length s_.2.2.2.2.2.1,z6) :: (.slice s_.2.2.1 z5.length s_.2.2.2.1,z5) :: (.slice s_.1 z4.length s_.2.1,z4) :: L1) [(.slice s_.2.2.2.2.2.2.1 ys.length s_.2.2.2.2.2.2.2,ys)] p3 w_) ?_ (fun ib=>?_)
 ·rintro⟨az,aA,aQ,aT,bB,bC,aJ,aK⟩ w5 h5
  try dsimp only at h5
  refine norm_ (a':=?_) ?_ ?_
  rotate_left
  ·simp only [putAll,Act.put,List.setIfInBounds_toArray,List.set_cons_zero,List.set_cons_succ,eV]
   rfl
  refine two_ (i:=10) (j:=12) (Ni:=some 34) (Nj:=some 10) (jb 14 2047) (jb 14 5119) rfl rfl rfl rfl (two_of HT_.out (by kernel_rfl)) (by decide) (by decide) (fun K hK=>?_) (fun K hK=>?_)
  ·refine LX.app h5 (by rfl) rfl (.tmp 31) (.tmp 33) rfl Hyt.out rfl rfl (by simp) c13 (fun fG fH w5 hx=>?_)
   refine hK.out _ _ (hx.bx _ m1).1 (fun _=>?_)
   clear hK K
   refine norm_ (a':=?_) ?_ ?_
   rotate_left
   ·show Act.put _ (some 34) _=_
    simp only [Act.put,List.setIfInBounds_toArray,List.set_cons_zero,List.set_cons_succ,i64_w,i32_w]
    rfl
   refine jp 11 35 (jb 14 4095) ?_
   exact norm_ nrm (jr (az,aA,aQ,aT,bB,bC,aJ,aK,fG,fH) _ hx)
  exact LX.newbox h5 (by rfl) rfl (cs:=Z8) qR12 (fun x w5 hx=>hK.out _ _ (hx.bx _ (.tail _ m1)).1 (fun _=>norm_ nrm (fI (az,aA,aQ,aT,bB,bC,aJ,aK,x) _ hx)))
 refine join_ (σ:=Option Addr × Nat × Option Addr × Nat × Nat) 5 (jb 14 5023) (fun s_=>[(25,eV x4 y4 s_.1 z4 s_.2.1),(27,iV n2),(28,iV (wrap64 (1+n2))),(33,.slice s_.2.2.1 ys.length s_.2.2.2.1),(10,.pointer (some ⟨s_.2.2.2.2,0,none⟩))]) (fun s_ w_=>LX w0 w g af (.slice bE tb.length bF) tb ((s_.2.2.2.2,Z8) :: B1) ((.slice s_.1 z4.length s_.2.1,z4) :: L1) [(.slice s_.2.2.1 ys.length s_.2.2.2.1,ys)] p3 w_) ?_ (fun fK=>?_)
 ·rintro⟨az,aA,aJ,aK,x⟩ w5 h5
  try dsimp only at h5
  refine norm_ (a':=?_) ?_ ?_
  rotate_left
  ·simp only [putAll,Act.put,List.setIfInBounds_toArray,List.set_cons_zero,List.set_cons_succ,eV]
   rfl
  refine one_ (i:=5) (N:=some 29) (jb 14 5055) rfl rfl (one_of HT_.out (by kernel_rfl)) (by decide) (fun K hK=>?_)
  ·exact goes_ func110 (by kernel_rfl) rfl #[iV 0,iV (wrap64 (1+n2))] (by rfl) rfl rfl qM (LX.leaf h5 A8.out (fun aQ aT w5 hx=>hK.out _ _ (hx.bx _ (.tail _ m1)).1 (fun _=>norm_ nrm (fJ (az,aA,aQ,aT,aJ,aK,x) _ hx))))
 refine join_ (σ:=Option Addr × Nat × Option Addr × Nat × Nat) 5 (jb 14 4543) (fun s_=>[(25,eV x4 y4 s_.1 z4 s_.2.1),(27,iV n2),(28,iV (wrap64 (1+n2))),(29,eV x5 y5 s_.2.2.1 z5 s_.2.2.2.1),(10,.pointer (some ⟨s_.2.2.2.2,0,none⟩))]) (fun s_ w_=>LX w0 w g af (.slice bE tb.length bF) tb ((s_.2.2.2.2,Z8) :: B1) ((.slice s_.2.2.1 z5.length s_.2.2.2.1,z5) :: (.slice s_.1 z4.length s_.2.1,z4) :: L1) [] p3 w_) ?_ (fun ic=>?_)
 ·rintro⟨az,aA,aQ,aT,x⟩ w5 h5
  try dsimp only at h5
  refine norm_ (a':=?_) ?_ ?_
  rotate_left
  ·simp only [putAll,Act.put,List.setIfInBounds_toArray,List.set_cons_zero,List.set_cons_succ,eV]
   rfl
  refine two_ (i:=6) (j:=9) (Ni:=some 30) (Nj:=some 33) (jb 14 4607) (jb 14 5055) rfl rfl rfl rfl (two_of HT_.out (by kernel_rfl)) (by decide) (by decide) (fun K hK=>?_) (fun K hK=>?_)
  ·exact goes_ func109 (by kernel_rfl) rfl #[iV 5,eV x4 y4 az z4 aA,eV x5 y5 aQ z5 aT] (by rfl) rfl rfl qM (LX.both h5 (by simp) (by simp) A9.out (fun bB bC w5 hx=>hK.out _ _ (hx.bx _ (.tail _ m1)).1 (fun _=>norm_ nrm (gZ (az,aA,aQ,aT,bB,bC,x) _ hx))))
  exact LX.lit h5 (by rfl) rfl (inner:=[iV 1,iV 3,iV 0,iV x3,iV y3,.slice bG z3.length bH,.slice none 0 0,.slice none 0 0]) (xs:=[(⟨1,3,0,(⟨x3,y3,z3⟩:S90),[],[]⟩:S92)]) Hy.out qR9 (LX.one h5 (by simp [m3])) (by simp) (fun aJ aK w5 hx=>hK.out _ _ (hx.bx _ (.tail _ m1)).1 (fun _=>norm_ nrm (fJ (az,aA,aQ,aT,aJ,aK,x) _ hx)))
 refine join_ (σ:=Option Addr × Nat × Option Addr × Nat × Option Addr × Nat) 5 (jb 14 959) (fun s_=>[(25,eV x4 y4 s_.1 z4 s_.2.1),(27,iV n2),(28,iV (wrap64 (1+n2))),(29,eV x5 y5 s_.2.2.1 z5 s_.2.2.2.1),(33,.slice s_.2.2.2.2.1 ys.length s_.2.2.2.2.2)]) (fun s_ w_=>LX w0 w g af (.slice bE tb.length bF) tb B1 ((.slice s_.2.2.1 z5.length s_.2.2.2.1,z5) :: (.slice s_.1 z4.length s_.2.1,z4) :: L1) [(.slice s_.2.2.2.2.1 ys.length s_.2.2.2.2.2,ys)] p3 w_) ?_ (fun ig=>?_)
 ·rintro⟨az,aA,aQ,aT,aJ,aK⟩ w5 h5
  try dsimp only at h5
  refine norm_ (a':=?_) ?_ ?_
  rotate_left
  ·simp only [putAll,Act.put,List.setIfInBounds_toArray,List.set_cons_zero,List.set_cons_succ,eV]
   rfl
  refine two_ (i:=6) (j:=12) (Ni:=some 30) (Nj:=some 10) (jb 14 1023) (jb 14 5055) rfl rfl rfl rfl (two_of HT_.out (by kernel_rfl)) (by decide) (by decide) (fun K hK=>?_) (fun K hK=>?_)
  ·exact goes_ func109 (by kernel_rfl) rfl #[iV 5,eV x4 y4 az z4 aA,eV x5 y5 aQ z5 aT] (by rfl) rfl rfl qM (LX.both h5 (by simp) (by simp) A9.out (fun bB bC w5 hx=>hK.out _ _ (hx.bx _ m1).1 (fun _=>norm_ nrm (ib (az,aA,aQ,aT,bB,bC,aJ,aK) _ hx))))
  exact LX.newbox h5 (by rfl) rfl (cs:=Z8) qR12 (fun x w5 hx=>hK.out _ _ (hx.bx _ (.tail _ m1)).1 (fun _=>norm_ nrm (fJ (az,aA,aQ,aT,aJ,aK,x) _ hx)))
 refine join_ (σ:=Option Addr × Nat × Option Addr × Nat × Option Addr × Nat) 5 (jb 14 511) (fun s_=>[(25,eV x4 y4 s_.1 z4 s_.2.1),(27,iV n2),(28,iV (wrap64 (1+n2))),(29,eV x5 y5 s_.2.2.1 z5 s_.2.2.2.1),(30,eV x6 y6 s_.2.2.2.2.1 z6 s_.2.2.2.2.2)]) (fun s_ w_=>LX w0 w g af (.slice bE tb.length bF) tb B1 ((.slice s_.2.2.2.2.1 z6.length s_.2.2.2.2.2,z6) :: (.slice s_.2.2.1 z5.length s_.2.2.2.1,z5) :: (.slice s_.1 z4.length s_.2.1,z4) :: L1) [] p3 w_) ?_ (fun jv=>?_)
 ·rintro⟨az,aA,aQ,aT,bB,bC⟩ w5 h5
  try dsimp only at h5
  refine norm_ (a':=?_) ?_ ?_
  rotate_left
  ·simp only [putAll,Act.put,List.setIfInBounds_toArray,List.set_cons_zero,List.set_cons_succ,eV]
   rfl
  refine two_ (i:=9) (j:=12) (Ni:=some 33) (Nj:=some 10) (jb 14 1023) (jb 14 4607) rfl rfl rfl rfl (two_of HT_.out (by kernel_rfl)) (by decide) (by decide) (fun K hK=>?_) (fun K hK=>?_)
  ·exact LX.lit h5 (by rfl) rfl (inner:=[iV 1,iV 3,iV 0,iV x3,iV y3,.slice bG z3.length bH,.slice none 0 0,.slice none 0 0]) (xs:=[(⟨1,3,0,(⟨x3,y3,z3⟩:S90),[],[]⟩:S92)]) Hy.out qR9 (LX.one h5 (by simp [m3])) (by simp) (fun aJ aK w5 hx=>hK.out _ _ (hx.bx _ m1).1 (fun _=>norm_ nrm (ib (az,aA,aQ,aT,bB,bC,aJ,aK) _ hx)))
  exact LX.newbox h5 (by rfl) rfl (cs:=Z8) qR12 (fun x w5 hx=>hK.out _ _ (hx.bx _ (.tail _ m1)).1 (fun _=>norm_ nrm (gZ (az,aA,aQ,aT,bB,bC,x) _ hx)))
 refine join_ (σ:=Option Addr × Nat × Nat) 6 (jb 14 4511) (fun s_=>[(25,eV x4 y4 s_.1 z4 s_.2.1),(27,iV n2),(28,iV (wrap64 (1+n2))),(10,.pointer (some ⟨s_.2.2,0,none⟩))]) (fun s_ w_=>LX w0 w g af (.slice bE tb.length bF) tb ((s_.2.2,Z8) :: B1) ((.slice s_.1 z4.length s_.2.1,z4) :: L1) [] p3 w_) ?_ (fun ik=>?_)
 ·rintro⟨az,aA,x⟩ w5 h5
  try dsimp only at h5
  refine norm_ (a':=?_) ?_ ?_
  rotate_left
  ·simp only [putAll,Act.put,List.setIfInBounds_toArray,List.set_cons_zero,List.set_cons_succ,eV]
   rfl
  refine two_ (i:=5) (j:=9) (Ni:=some 29) (Nj:=some 33) (jb 14 4543) (jb 14 5023) rfl rfl rfl rfl (two_of HT_.out (by kernel_rfl)) (by decide) (by decide) (fun K hK=>?_) (fun K hK=>?_)
  ·exact goes_ func110 (by kernel_rfl) rfl #[iV 0,iV (wrap64 (1+n2))] (by rfl) rfl rfl qM (LX.leaf h5 A8.out (fun aQ aT w5 hx=>hK.out _ _ (hx.bx _ (.tail _ m1)).1 (fun _=>norm_ nrm (ic (az,aA,aQ,aT,x) _ hx))))
  exact LX.lit h5 (by rfl) rfl (inner:=[iV 1,iV 3,iV 0,iV x3,iV y3,.slice bG z3.length bH,.slice none 0 0,.slice none 0 0]) (xs:=[(⟨1,3,0,(⟨x3,y3,z3⟩:S90),[],[]⟩:S92)]) Hy.out qR9 (LX.one h5 (by simp [m3])) (by simp) (fun aJ aK w5 hx=>hK.out _ _ (hx.bx _ (.tail _ m1)).1 (fun _=>norm_ nrm (fK (az,aA,aJ,aK,x) _ hx)))
 refine join_ (σ:=Option Addr × Nat × Option Addr × Nat) 6 (jb 14 927) (fun s_=>[(25,eV x4 y4 s_.1 z4 s_.2.1),(27,iV n2),(28,iV (wrap64 (1+n2))),(33,.slice s_.2.2.1 ys.length s_.2.2.2)]) (fun s_ w_=>LX w0 w g af (.slice bE tb.length bF) tb B1 ((.slice s_.1 z4.length s_.2.1,z4) :: L1) [(.slice s_.2.2.1 ys.length s_.2.2.2,ys)] p3 w_) ?_ (fun il=>?_)
 ·rintro⟨az,aA,aJ,aK⟩ w5 h5
  try dsimp only at h5
  refine norm_ (a':=?_) ?_ ?_
  rotate_left
  ·simp only [putAll,Act.put,List.setIfInBounds_toArray,List.set_cons_zero,List.set_cons_succ,eV]
   rfl
  refine two_ (i:=5) (j:=12) (Ni:=some 29) (Nj:=some 10) (jb 14 959) (jb 14 5023) rfl rfl rfl rfl (two_of HT_.out (by kernel_rfl)) (by decide) (by decide) (fun K hK=>?_) (fun K hK=>?_)
  ·exact goes_ func110 (by kernel_rfl) rfl #[iV 0,iV (wrap64 (1+n2))] (by rfl) rfl rfl qM (LX.leaf h5 A8.out (fun aQ aT w5 hx=>hK.out _ _ (hx.bx _ m1).1 (fun _=>norm_ nrm (ig (az,aA,aQ,aT,aJ,aK) _ hx))))
  exact LX.newbox h5 (by rfl) rfl (cs:=Z8) qR12 (fun x w5 hx=>hK.out _ _ (hx.bx _ (.tail _ m1)).1 (fun _=>norm_ nrm (fK (az,aA,aJ,aK,x) _ hx)))
 refine join_ (σ:=Option Addr × Nat × Option Addr × Nat) 6 (jb 14 447) (fun s_=>[(25,eV x4 y4 s_.1 z4 s_.2.1),(27,iV n2),(28,iV (wrap64 (1+n2))),(29,eV x5 y5 s_.2.2.1 z5 s_.2.2.2)]) (fun s_ w_=>LX w0 w g af (.slice bE tb.length bF) tb B1 ((.slice s_.2.2.1 z5.length s_.2.2.2,z5) :: (.slice s_.1 z4.length s_.2.1,z4) :: L1) [] p3 w_) ?_ (fun jw=>?_)
 ·rintro⟨az,aA,aQ,aT⟩ w5 h5
  try dsimp only at h5
  refine norm_ (a':=?_) ?_ ?_
  rotate_left
  ·simp only [putAll,Act.put,List.setIfInBounds_toArray,List.set_cons_zero,List.set_cons_succ,eV]
   rfl
  refine three_ (i:=6) (j:=9) (k:=12) (Ni:=some 30) (Nj:=some 33) (Nk:=some 10) (jb 14 511) (jb 14 959) (jb 14 4543) rfl rfl rfl rfl rfl rfl (three_of HT_.out (by kernel_rfl)) (by decide) (by decide) (by decide) (fun K hK=>?_) (fun K hK=>?_) (fun K hK=>?_)
  ·exact goes_ func109 (by kernel_rfl) rfl #[iV 5,eV x4 y4 az z4 aA,eV x5 y5 aQ z5 aT] (by rfl) rfl rfl qM (LX.both h5 (by simp) (by simp) A9.out (fun bB bC w5 hx=>hK.out _ _ (hx.bx _ m1).1 (fun _=>norm_ nrm (jv (az,aA,aQ,aT,bB,bC) _ hx))))
  ·exact LX.lit h5 (by rfl) rfl (inner:=[iV 1,iV 3,iV 0,iV x3,iV y3,.slice bG z3.length bH,.slice none 0 0,.slice none 0 0]) (xs:=[(⟨1,3,0,(⟨x3,y3,z3⟩:S90),[],[]⟩:S92)]) Hy.out qR9 (LX.one h5 (by simp [m3])) (by simp) (fun aJ aK w5 hx=>hK.out _ _ (hx.bx _ m1).1 (fun _=>norm_ nrm (ig (az,aA,aQ,aT,aJ,aK) _ hx)))
  exact LX.newbox h5 (by rfl) rfl (cs:=Z8) qR12 (fun x w5 hx=>hK.out _ _ (hx.bx _ (.tail _ m1)).1 (fun _=>norm_ nrm (ic (az,aA,aQ,aT,x) _ hx)))
 refine join_ (σ:=Option Addr × Nat × Option Addr × Nat × Nat) 7 (jb 14 4999) (fun s_=>[(25,eV x4 y4 s_.1 z4 s_.2.1),(33,.slice s_.2.2.1 ys.length s_.2.2.2.1),(10,.pointer (some ⟨s_.2.2.2.2,0,none⟩))]) (fun s_ w_=>LX w0 w g af (.slice bE tb.length bF) tb ((s_.2.2.2.2,Z8) :: B1) ((.slice s_.1 z4.length s_.2.1,z4) :: L1) [(.slice s_.2.2.1 ys.length s_.2.2.2.1,ys)] p2 w_) ?_ (fun fM=>?_)
 ·rintro⟨az,aA,aJ,aK,x⟩ w5 h5
  try dsimp only at h5
  refine norm_ (a':=?_) ?_ ?_
  rotate_left
  ·simp only [putAll,Act.put,List.setIfInBounds_toArray,List.set_cons_zero,List.set_cons_succ,eV]
   rfl
  refine one_ (i:=3) (N:=some 27) (jb 14 5007) rfl rfl (one_of HT_.out (by kernel_rfl)) (by decide) (fun K hK=>?_)
  ·refine goes_ func52 (by kernel_rfl) rfl #[.pointer (some ⟨g,0,none⟩),iV 3] (by rfl) rfl rfl qM (LX.pick h5 A7.out (fun w5 hx=>?_))
   refine hK.out _ _ (hx.bx _ (.tail _ m1)).1 (fun _=>?_)
   clear hK K
   refine norm_ (a':=?_) ?_ ?_
   rotate_left
   ·show Act.put _ (some 27) _=_
    simp only [Act.put,List.setIfInBounds_toArray,List.set_cons_zero,List.set_cons_succ,i64_w,i32_w]
    rfl
   refine jp 4 28 (jb 14 5023) ?_
   exact norm_ nrm (fK (az,aA,aJ,aK,x) _ hx)
 refine join_ (σ:=Option Addr × Nat) 7 (jb 14 415) (fun s_=>[(25,eV x4 y4 s_.1 z4 s_.2),(27,iV n2),(28,iV (wrap64 (1+n2)))]) (fun s_ w_=>LX w0 w g af (.slice bE tb.length bF) tb B1 ((.slice s_.1 z4.length s_.2,z4) :: L1) [] p3 w_) ?_ (fun jy=>?_)
 ·rintro⟨az,aA⟩ w5 h5
  try dsimp only at h5
  refine norm_ (a':=?_) ?_ ?_
  rotate_left
  ·simp only [putAll,Act.put,List.setIfInBounds_toArray,List.set_cons_zero,List.set_cons_succ,eV]
   rfl
  refine three_ (i:=5) (j:=9) (k:=12) (Ni:=some 29) (Nj:=some 33) (Nk:=some 10) (jb 14 447) (jb 14 927) (jb 14 4511) rfl rfl rfl rfl rfl rfl (three_of HT_.out (by kernel_rfl)) (by decide) (by decide) (by decide) (fun K hK=>?_) (fun K hK=>?_) (fun K hK=>?_)
  ·exact goes_ func110 (by kernel_rfl) rfl #[iV 0,iV (wrap64 (1+n2))] (by rfl) rfl rfl qM (LX.leaf h5 A8.out (fun aQ aT w5 hx=>hK.out _ _ (hx.bx _ m1).1 (fun _=>norm_ nrm (jw (az,aA,aQ,aT) _ hx))))
  ·exact LX.lit h5 (by rfl) rfl (inner:=[iV 1,iV 3,iV 0,iV x3,iV y3,.slice bG z3.length bH,.slice none 0 0,.slice none 0 0]) (xs:=[(⟨1,3,0,(⟨x3,y3,z3⟩:S90),[],[]⟩:S92)]) Hy.out qR9 (LX.one h5 (by simp [m3])) (by simp) (fun aJ aK w5 hx=>hK.out _ _ (hx.bx _ m1).1 (fun _=>norm_ nrm (il (az,aA,aJ,aK) _ hx)))
  exact LX.newbox h5 (by rfl) rfl (cs:=Z8) qR12 (fun x w5 hx=>hK.out _ _ (hx.bx _ (.tail _ m1)).1 (fun _=>norm_ nrm (ik (az,aA,x) _ hx)))
 refine join_ (σ:=Option Addr × Nat × Nat) 8 (jb 14 4997) (fun s_=>[(33,.slice s_.1 ys.length s_.2.1),(10,.pointer (some ⟨s_.2.2,0,none⟩))]) (fun s_ w_=>LX w0 w g af (.slice bE tb.length bF) tb ((s_.2.2,Z8) :: B1) L1 [(.slice s_.1 ys.length s_.2.1,ys)] p2 w_) ?_ (fun iq=>?_)
 ·rintro⟨aJ,aK,x⟩ w5 h5
  try dsimp only at h5
  refine norm_ (a':=?_) ?_ ?_
  rotate_left
  ·simp only [putAll,Act.put,List.setIfInBounds_toArray,List.set_cons_zero,List.set_cons_succ,eV]
   rfl
  refine one_ (i:=1) (N:=some 25) (jb 14 4999) rfl rfl (one_of HT_.out (by kernel_rfl)) (by decide) (fun K hK=>?_)
  ·exact goes_ func110 (by kernel_rfl) rfl #[iV 13,iV 3] (by rfl) rfl rfl qM (LX.leaf h5 A6.out (fun az aA w5 hx=>hK.out _ _ (hx.bx _ (.tail _ m1)).1 (fun _=>norm_ nrm (fM (az,aA,aJ,aK,x) _ hx))))
 refine join_ (σ:=Option Addr × Nat × Nat) 8 (jb 14 4487) (fun s_=>[(25,eV x4 y4 s_.1 z4 s_.2.1),(10,.pointer (some ⟨s_.2.2,0,none⟩))]) (fun s_ w_=>LX w0 w g af (.slice bE tb.length bF) tb ((s_.2.2,Z8) :: B1) ((.slice s_.1 z4.length s_.2.1,z4) :: L1) [] p2 w_) ?_ (fun iw=>?_)
 ·rintro⟨az,aA,x⟩ w5 h5
  try dsimp only at h5
  refine norm_ (a':=?_) ?_ ?_
  rotate_left
  ·simp only [putAll,Act.put,List.setIfInBounds_toArray,List.set_cons_zero,List.set_cons_succ,eV]
   rfl
  refine two_ (i:=3) (j:=9) (Ni:=some 27) (Nj:=some 33) (jb 14 4495) (jb 14 4999) rfl rfl rfl rfl (two_of HT_.out (by kernel_rfl)) (by decide) (by decide) (fun K hK=>?_) (fun K hK=>?_)
  ·refine goes_ func52 (by kernel_rfl) rfl #[.pointer (some ⟨g,0,none⟩),iV 3] (by rfl) rfl rfl qM (LX.pick h5 A7.out (fun w5 hx=>?_))
   refine hK.out _ _ (hx.bx _ (.tail _ m1)).1 (fun _=>?_)
   clear hK K
   refine norm_ (a':=?_) ?_ ?_
   rotate_left
   ·show Act.put _ (some 27) _=_
    simp only [Act.put,List.setIfInBounds_toArray,List.set_cons_zero,List.set_cons_succ,i64_w,i32_w]
    rfl
   refine jp 4 28 (jb 14 4511) ?_
   exact norm_ nrm (ik (az,aA,x) _ hx)
  exact LX.lit h5 (by rfl) rfl (inner:=[iV 1,iV 3,iV 0,iV x3,iV y3,.slice bG z3.length bH,.slice none 0 0,.slice none 0 0]) (xs:=[(⟨1,3,0,(⟨x3,y3,z3⟩:S90),[],[]⟩:S92)]) Hy.out qR9 (LX.one h5 (by simp [m3])) (by simp) (fun aJ aK w5 hx=>hK.out _ _ (hx.bx _ (.tail _ m1)).1 (fun _=>norm_ nrm (fM (az,aA,aJ,aK,x) _ hx)))
 refine join_ (σ:=Option Addr × Nat × Option Addr × Nat) 8 (jb 14 903) (fun s_=>[(25,eV x4 y4 s_.1 z4 s_.2.1),(33,.slice s_.2.2.1 ys.length s_.2.2.2)]) (fun s_ w_=>LX w0 w g af (.slice bE tb.length bF) tb B1 ((.slice s_.1 z4.length s_.2.1,z4) :: L1) [(.slice s_.2.2.1 ys.length s_.2.2.2,ys)] p2 w_) ?_ (fun iy=>?_)
 ·rintro⟨az,aA,aJ,aK⟩ w5 h5
  try dsimp only at h5
  refine norm_ (a':=?_) ?_ ?_
  rotate_left
  ·simp only [putAll,Act.put,List.setIfInBounds_toArray,List.set_cons_zero,List.set_cons_succ,eV]
   rfl
  refine two_ (i:=3) (j:=12) (Ni:=some 27) (Nj:=some 10) (jb 14 911) (jb 14 4999) rfl rfl rfl rfl (two_of HT_.out (by kernel_rfl)) (by decide) (by decide) (fun K hK=>?_) (fun K hK=>?_)
  ·refine goes_ func52 (by kernel_rfl) rfl #[.pointer (some ⟨g,0,none⟩),iV 3] (by rfl) rfl rfl qM (LX.pick h5 A7.out (fun w5 hx=>?_))
   refine hK.out _ _ (hx.bx _ m1).1 (fun _=>?_)
   clear hK K
   refine norm_ (a':=?_) ?_ ?_
   rotate_left
   ·show Act.put _ (some 27) _=_
    simp only [Act.put,List.setIfInBounds_toArray,List.set_cons_zero,List.set_cons_succ,i64_w,i32_w]
    rfl
   refine jp 4 28 (jb 14 927) ?_
   exact norm_ nrm (il (az,aA,aJ,aK) _ hx)
  exact LX.newbox h5 (by rfl) rfl (cs:=Z8) qR12 (fun x w5 hx=>hK.out _ _ (hx.bx _ (.tail _ m1)).1 (fun _=>norm_ nrm (fM (az,aA,aJ,aK,x) _ hx)))
 refine join_ (σ:=Nat) 9 (jb 14 4485) (fun s_=>[(10,.pointer (some ⟨s_,0,none⟩))]) (fun s_ w_=>LX w0 w g af (.slice bE tb.length bF) tb ((s_,Z8) :: B1) L1 [] p2 w_) ?_ (fun jA=>?_)
 ·rintro x w5 h5
  try dsimp only at h5
  refine norm_ (a':=?_) ?_ ?_
  rotate_left
  ·simp only [putAll,Act.put,List.setIfInBounds_toArray,List.set_cons_zero,List.set_cons_succ,eV]
   rfl
  refine two_ (i:=1) (j:=9) (Ni:=some 25) (Nj:=some 33) (jb 14 4487) (jb 14 4997) rfl rfl rfl rfl (two_of HT_.out (by kernel_rfl)) (by decide) (by decide) (fun K hK=>?_) (fun K hK=>?_)
  ·exact goes_ func110 (by kernel_rfl) rfl #[iV 13,iV 3] (by rfl) rfl rfl qM (LX.leaf h5 A6.out (fun az aA w5 hx=>hK.out _ _ (hx.bx _ (.tail _ m1)).1 (fun _=>norm_ nrm (iw (az,aA,x) _ hx))))
  exact LX.lit h5 (by rfl) rfl (inner:=[iV 1,iV 3,iV 0,iV x3,iV y3,.slice bG z3.length bH,.slice none 0 0,.slice none 0 0]) (xs:=[(⟨1,3,0,(⟨x3,y3,z3⟩:S90),[],[]⟩:S92)]) Hy.out qR9 (LX.one h5 (by simp [m3])) (by simp) (fun aJ aK w5 hx=>hK.out _ _ (hx.bx _ (.tail _ m1)).1 (fun _=>norm_ nrm (iq (aJ,aK,x) _ hx)))
 refine join_ (σ:=Option Addr × Nat) 9 (jb 14 901) (fun s_=>[(33,.slice s_.1 ys.length s_.2)]) (fun s_ w_=>LX w0 w g af (.slice bE tb.length bF) tb B1 L1 [(.slice s_.1 ys.length s_.2,ys)] p2 w_) ?_ (fun jH=>?_)
 ·rintro⟨aJ,aK⟩ w5 h5
  try dsimp only at h5
  refine norm_ (a':=?_) ?_ ?_
  rotate_left
  ·simp only [putAll,Act.put,List.setIfInBounds_toArray,List.set_cons_zero,List.set_cons_succ,eV]
   rfl
  refine two_ (i:=1) (j:=12) (Ni:=some 25) (Nj:=some 10) (jb 14 903) (jb 14 4997) rfl rfl rfl rfl (two_of HT_.out (by kernel_rfl)) (by decide) (by decide) (fun K hK=>?_) (fun K hK=>?_)
  ·exact goes_ func110 (by kernel_rfl) rfl #[iV 13,iV 3] (by rfl) rfl rfl qM (LX.leaf h5 A6.out (fun az aA w5 hx=>hK.out _ _ (hx.bx _ m1).1 (fun _=>norm_ nrm (iy (az,aA,aJ,aK) _ hx))))
  exact LX.newbox h5 (by rfl) rfl (cs:=Z8) qR12 (fun x w5 hx=>hK.out _ _ (hx.bx _ (.tail _ m1)).1 (fun _=>norm_ nrm (iq (aJ,aK,x) _ hx)))
 refine join_ (σ:=Option Addr × Nat) 9 (jb 14 391) (fun s_=>[(25,eV x4 y4 s_.1 z4 s_.2)]) (fun s_ w_=>LX w0 w g af (.slice bE tb.length bF) tb B1 ((.slice s_.1 z4.length s_.2,z4) :: L1) [] p2 w_) ?_ (fun jK=>?_)
 ·rintro⟨az,aA⟩ w5 h5
  try dsimp only at h5
  refine norm_ (a':=?_) ?_ ?_
  rotate_left
  ·simp only [putAll,Act.put,List.setIfInBounds_toArray,List.set_cons_zero,List.set_cons_succ,eV]
   rfl
  refine three_ (i:=3) (j:=9) (k:=12) (Ni:=some 27) (Nj:=some 33) (Nk:=some 10) (jb 14 399) (jb 14 903) (jb 14 4487) rfl rfl rfl rfl rfl rfl (three_of HT_.out (by kernel_rfl)) (by decide) (by decide) (by decide) (fun K hK=>?_) (fun K hK=>?_) (fun K hK=>?_)
  ·refine goes_ func52 (by kernel_rfl) rfl #[.pointer (some ⟨g,0,none⟩),iV 3] (by rfl) rfl rfl qM (LX.pick h5 A7.out (fun w5 hx=>?_))
   refine hK.out _ _ (hx.bx _ m1).1 (fun _=>?_)
   clear hK K
   refine norm_ (a':=?_) ?_ ?_
   rotate_left
   ·show Act.put _ (some 27) _=_
    simp only [Act.put,List.setIfInBounds_toArray,List.set_cons_zero,List.set_cons_succ,i64_w,i32_w]
    rfl
   refine jp 4 28 (jb 14 415) ?_
   exact norm_ nrm (jy (az,aA) _ hx)
  ·exact LX.lit h5 (by rfl) rfl (inner:=[iV 1,iV 3,iV 0,iV x3,iV y3,.slice bG z3.length bH,.slice none 0 0,.slice none 0 0]) (xs:=[(⟨1,3,0,(⟨x3,y3,z3⟩:S90),[],[]⟩:S92)]) Hy.out qR9 (LX.one h5 (by simp [m3])) (by simp) (fun aJ aK w5 hx=>hK.out _ _ (hx.bx _ m1).1 (fun _=>norm_ nrm (iy (az,aA,aJ,aK) _ hx)))
  exact LX.newbox h5 (by rfl) rfl (cs:=Z8) qR12 (fun x w5 hx=>hK.out _ _ (hx.bx _ (.tail _ m1)).1 (fun _=>norm_ nrm (iw (az,aA,x) _ hx)))
 refine three_ (i:=1) (j:=9) (k:=12) (Ni:=some 25) (Nj:=some 33) (Nk:=some 10) (jb 14 391) (jb 14 901) (jb 14 4485) rfl rfl rfl rfl rfl rfl (three_of HT_.out (by kernel_rfl)) (by decide) (by decide) (by decide) (fun K hK=>?_) (fun K hK=>?_) (fun K hK=>?_)
 ·exact goes_ func110 (by kernel_rfl) rfl #[iV 13,iV 3] (by rfl) rfl rfl qM (LX.leaf HX.out A6.out (fun az aA w5 hx=>hK.out _ _ (hx.bx _ m1).1 (fun _=>norm_ nrm (jK (az,aA) _ hx))))
 ·exact LX.lit HX.out (by rfl) rfl (inner:=[iV 1,iV 3,iV 0,iV x3,iV y3,.slice bG z3.length bH,.slice none 0 0,.slice none 0 0]) (xs:=[(⟨1,3,0,(⟨x3,y3,z3⟩:S90),[],[]⟩:S92)]) Hy.out qR9 (LX.one HX.out (by simp [m3])) (by simp) (fun aJ aK w5 hx=>hK.out _ _ (hx.bx _ m1).1 (fun _=>norm_ nrm (jH (aJ,aK) _ hx)))
 exact LX.newbox HX.out (by rfl) rfl (cs:=Z8) qR12 (fun x w5 hx=>hK.out _ _ (hx.bx _ (.tail _ m1)).1 (fun _=>norm_ nrm (jA x _ hx)))
theorem Sbw.step (k:Nat) (aj:∀ m_,m_ < k->Sbs.stmt m_) (ih:∀ m_,m_ < k->Sbw.stmt m_) (aN:∀ m_,m_ < k->Sbt.stmt m_) (aH:∀ m_,m_ < k->Sbu.stmt m_):Sbw.stmt k:=by
 intro g af ay a1 a2 a3 r1 r2 w0 w hI hB h
 cases k with
 | zero=>exact absurd h (by simp [Sbw.f])
 | succ k =>
 simp only [Sbw.f] at h
 have mR:=underlying92
 have HI0:=aM hI
 have HK:=aM (KeepBut.refl w g none)
 have HL:=aM hB.size
 clear hI
 have HW0:=aM hB.size
 have HB:=aM hB
 clear hB
 have H:((Sbn.f k af ay 10).bind fun aI=>(if aI.1=0 then (Sbw.j0 k a1 a2 a3 aI.1 (aI.1 == 0) af aI.2) else (Sbw.j0 k a1 a2 a3 aI.1 (aI.1 == 1) af aI.2)))=some (r1,r2):=h
 clear h
 obtain⟨⟨bN,bu⟩,A5,H⟩:=qE H
 try dsimp only at H
 have nI:=aM H
 clear H
 go_enter func82,ntmps82
 go_upto_if 11 with (first|((with_reducible refine jc 52 10 rfl rfl ?_);refine jG func52 #[.pointer (some ⟨g,0,none⟩),iV 10] ?_;refine (Sbn.calls k g af ay 10 bN bu w0 _ ?ah ?ai A5.out).mono ?_;(case ah=>exact qI HI0);(case ai=>exact qB);rintro e w7 ⟨rfl,hi,hb,hk⟩;refine⟨_,rfl,?_⟩;replace HK:=aM (KeepBut.trans (w:=w) qH hk (.inl rfl));replace HB:=aM hb;replace HI0:=aM hi;clear hb hk hi))
 (try simp only [Act.put,List.setIfInBounds_toArray,List.set_cons_zero,List.set_cons_succ])
 go_cut [11] (fun v11 wc=>∃ (kq:Nat) (fO:Bool),v11 = .bool fO/\Aside0 (Sbw.j0 kq a1 a2 a3 bN fO af bu=some (r1,r2))/\Aside0 (kq<=k)/\Aside0 (Saa w0 wc g af bu)/\Aside0 (KeepBut w wc g none)/\Aside0 (Below w0.heap.size w0 wc))
 case first =>
  have H:=nI.out
  clear nI
  replace H:=jE H;rcases H with ⟨bR,nJ,H⟩ | ⟨c8,bR,nJ,H⟩
  ·(first|rw [bR]|(simp only [i64_w,i32_w];rw [bR])|skip)
   have H':=aM H
   clear H
   go_wp2
   go_meet
   exact⟨_,((bN == 0)),qZ,H',⟨by first|omega|exact Nat.le_refl _⟩,⟨qI HI0⟩,⟨qH⟩,⟨qB⟩⟩
  (first|rw [bR]|(simp only [i64_w,i32_w];rw [bR])|skip)
  have H':=aM H
  clear H
  go_wp2
  go_meet
  exact⟨_,((bN == 1)),qZ,H',⟨by first|omega|exact Nat.le_refl _⟩,⟨qI HI0⟩,⟨qH⟩,⟨qB⟩⟩
 clear nI
 obtain⟨kq,fO,rfl,HA,iE,HI0,HK,HB⟩:=hcut
 cases kq with
 | zero=>exact absurd HA.out (by simp [Sbw.j0])
 | succ iN =>
  have H:=HA.out
  clear HA
  simp only [Sbw.j0] at H
  replace H:=jB H;rcases H with ⟨rfl,H⟩ | ⟨rfl,H⟩
  ·obtain⟨⟨bS,bT,bU,bV,bW,bX,bY,bZ,nK⟩,iW,H⟩:=qE H
   try dsimp only at H
   obtain⟨pY,dU⟩:=ky ((([(⟨bS,bT,bU,(⟨bV,bW,bX⟩:S90),bY,bZ⟩:S92)]:List (S92))):List (S92))
   first|replace H:=kz dU H|rw [<- dU.out] at H
   obtain⟨rfl,rfl⟩:=oJ2 H
   go_wp2_with (first|((with_reducible refine jc 92 15 rfl rfl ?_);refine jG func92 #[.pointer (some ⟨g,0,none⟩)] ?_;refine (Sbv.calls iN g af bu bS bT bU bV bW bX bY bZ nK w0 _ ?ah ?ai iW.out).mono ?_;(case ah=>exact qI HI0);(case ai=>exact qB);rintro e oH ⟨jM,jN,jO,rfl,ho0,ho1,ho2,hi,hb,hk⟩;refine⟨_,rfl,?_⟩;have dV:=aM (Kd.N_lower (Kd.N_mono (ok':=fun k_=>(w.heap.size<=k_)/\some k_≠(jN:Value).ownBlock/\some k_≠(jO:Value).ownBlock/\k_≠g) ho0 (fun k_ hk_=>⟨(Nat.le_trans (keep_size (w:=w) (g:=g) (row:=none) qH) hk_.1),hk_.2.1,hk_.2.2,(Saa.fresh (qI HI0) k_ hk_.1)⟩)) (keep_size (w:=w) (g:=g) (row:=none) qH));have dW:=aM (Kd.N_lower (Kd.N_mono (ok':=fun k_=>(w.heap.size<=k_)/\some k_≠(jM:Value).ownBlock/\some k_≠(jO:Value).ownBlock/\k_≠g) ho1 (fun k_ hk_=>⟨(Nat.le_trans (keep_size (w:=w) (g:=g) (row:=none) qH) hk_.1),hk_.2.1,hk_.2.2,(Saa.fresh (qI HI0) k_ hk_.1)⟩)) (keep_size (w:=w) (g:=g) (row:=none) qH));have dX:=aM (Kd.N_lower (Kd.N_mono (ok':=fun k_=>(w.heap.size<=k_)/\some k_≠(jM:Value).ownBlock/\some k_≠(jN:Value).ownBlock/\k_≠g) ho2 (fun k_ hk_=>⟨(Nat.le_trans (keep_size (w:=w) (g:=g) (row:=none) qH) hk_.1),hk_.2.1,hk_.2.2,(Saa.fresh (qI HI0) k_ hk_.1)⟩)) (keep_size (w:=w) (g:=g) (row:=none) qH));replace HK:=aM (KeepBut.trans (w:=w) qH hk (.inl rfl));replace HB:=aM hb;replace HI0:=aM hi;clear hb hk hi;(try clear ho0);(try clear ho1);(try clear ho2);obtain⟨jQ,jS,nL⟩:=Kd.N_slice dV.out;subst nL;obtain⟨jT,jW,nM⟩:=Kd.N_slice dW.out;subst nM;obtain⟨jY,jZ,nN⟩:=Kd.N_slice dX.out;subst nN)|((with_reducible refine jd 16 rfl ?_);refine Kd.N_lit k92 _ 92 ?hg (N':=16) ?hd (xs:=([(⟨bS,bT,bU,(⟨bV,bW,bX⟩:S90),bY,bZ⟩:S92)]:List (S92))) (inner:=[iV bS,iV bT,iV bU,iV bV,iV bW,.slice jQ bX.length jS,.slice jT bY.length jW,.slice jY bZ.length jZ]) (ok:=(fun k_=>(w.heap.size<=k_)/\k_≠g)) (okp:=(fun k_=>(w.heap.size<=k_)/\k_≠g)) ?hr ?hp (fun _ hk=>hk) ((show ∀ k_,oH.heap.size<=k_->(fun k_=>(w.heap.size<=k_)/\k_≠g) k_ from fun k_ hk=>⟨(Nat.le_trans (keep_size (w:=w) (g:=g) (row:=none) qH) hk),Saa.fresh (qI HI0) k_ hk⟩) _ (Nat.le_refl _)) (Below.refl _ _) (Nat.le_refl _) (by simp) ?_;(case hd=>rfl);(case hg=>rfl);(case hr=>first|(go_simp;done)|(go_simp;rfl));(case hp=>exact (Reps.c8 (show Kd.FK k92 _ _ (⟨bS,bT,bU,(⟨bV,bW,bX⟩:S90),bY,bZ⟩:S92) [iV bS,iV bT,iV bU,iV bV,iV bW,.slice jQ bX.length jS,.slice jT bY.length jW,.slice jY bZ.length jZ] from (k92_mkF _ _ (⟨bS,bT,bU,(⟨bV,bW,bX⟩:S90),bY,bZ⟩:S92) (Kd.N_reads' (Kd.N_mono (ok':=(fun k_=>(w.heap.size<=k_)/\k_≠g)) (dV.out) (fun k_ hk=>⟨hk.1,hk.2.2.2⟩))).2.1 (Kd.N_F (Kd.N_mono (ok':=(fun k_=>(w.heap.size<=k_)/\k_≠g)) (dV.out) (fun k_ hk=>⟨hk.1,hk.2.2.2⟩))) (Kd.N_reads' (Kd.N_mono (ok':=(fun k_=>(w.heap.size<=k_)/\k_≠g)) (dW.out) (fun k_ hk=>⟨hk.1,hk.2.2.2⟩))).2.1 (Kd.N_F (Kd.N_mono (ok':=(fun k_=>(w.heap.size<=k_)/\k_≠g)) (dW.out) (fun k_ hk=>⟨hk.1,hk.2.2.2⟩))) (Kd.N_reads' (Kd.N_mono (ok':=(fun k_=>(w.heap.size<=k_)/\k_≠g)) (dX.out) (fun k_ hk=>⟨hk.1,hk.2.2.2⟩))).2.1 (Kd.N_F (Kd.N_mono (ok':=(fun k_=>(w.heap.size<=k_)/\k_≠g)) (dX.out) (fun k_ hk=>⟨hk.1,hk.2.2.2⟩))))) (Reps.none _ _)));intro p9 sw fP hb hg_ hnew_;clear hg_ hnew_;(first|rw [<- dU.out] at fP|(simp only [Int.reduceToNat] at fP;rw [<- dU.out] at fP));have j4:=aM (Kd.N_lower fP (keep_size (w:=w) (g:=g) (row:=none) qH));replace HI0:=aM (Saa.below (qI HI0) hb);replace HK:=aM (KeepBut.trans (w:=w) qH (KeepBut.of_below hb g none) (.inl rfl));replace HB:=kH hb;clear dV dW dX;clear hb fP))
   go_ret
   exact⟨_,qW,by (with_reducible repeat (first|apply Kd.N_alloc|apply Kd.N_drewN|apply Kd.N_drew));exact Kd.N_mono j4.out (fun _ hk=>hk.1),qI HI0,qB,qH⟩
  replace H:=jE H;rcases H with ⟨fQ,fT,H⟩ | ⟨c17,fQ,fT,H⟩
  ·replace H:=jD H;rcases H with ⟨j5,H⟩ | ⟨j5,H⟩
   ·obtain⟨⟨cz,cB,cK,cO,df,dh,di,dn,nO⟩,qb,H⟩:=qE H
    try dsimp only at H
    obtain⟨qc,dY⟩:=ky ((([(⟨cz,cB,cK,(⟨cO,df,dh⟩:S90),di,dn⟩:S92)]:List (S92))):List (S92))
    first|replace H:=kz dY H|rw [<- dY.out] at H
    obtain⟨rfl,rfl⟩:=oJ2 H
    go_wp2_with (first|((with_reducible refine jc 93 25 rfl rfl ?_);refine jG func93 #[.pointer (some ⟨g,0,none⟩),iV a1,iV a2,.bool a3] ?_;refine (aN iN (by have:=iE.out;omega) g af bu a1 a2 a3 cz cB cK cO df dh di dn nO w0 _ ?ah ?ai qb.out).mono ?_;(case ah=>exact qI HI0);(case ai=>exact qB);rintro e mW ⟨j6,kg,ko,rfl,ho0,ho1,ho2,hi,hb,hk⟩;refine⟨_,rfl,?_⟩;have dZ:=aM (Kd.N_lower (Kd.N_mono (ok':=fun k_=>(w.heap.size<=k_)/\some k_≠(kg:Value).ownBlock/\some k_≠(ko:Value).ownBlock/\k_≠g) ho0 (fun k_ hk_=>⟨(Nat.le_trans (keep_size (w:=w) (g:=g) (row:=none) qH) hk_.1),hk_.2.1,hk_.2.2,(Saa.fresh (qI HI0) k_ hk_.1)⟩)) (keep_size (w:=w) (g:=g) (row:=none) qH));have d9:=aM (Kd.N_lower (Kd.N_mono (ok':=fun k_=>(w.heap.size<=k_)/\some k_≠(j6:Value).ownBlock/\some k_≠(ko:Value).ownBlock/\k_≠g) ho1 (fun k_ hk_=>⟨(Nat.le_trans (keep_size (w:=w) (g:=g) (row:=none) qH) hk_.1),hk_.2.1,hk_.2.2,(Saa.fresh (qI HI0) k_ hk_.1)⟩)) (keep_size (w:=w) (g:=g) (row:=none) qH));have ek:=aM (Kd.N_lower (Kd.N_mono (ok':=fun k_=>(w.heap.size<=k_)/\some k_≠(j6:Value).ownBlock/\some k_≠(kg:Value).ownBlock/\k_≠g) ho2 (fun k_ hk_=>⟨(Nat.le_trans (keep_size (w:=w) (g:=g) (row:=none) qH) hk_.1),hk_.2.1,hk_.2.2,(Saa.fresh (qI HI0) k_ hk_.1)⟩)) (keep_size (w:=w) (g:=g) (row:=none) qH));replace HK:=aM (KeepBut.trans (w:=w) qH hk (.inl rfl));replace HB:=aM hb;replace HI0:=aM hi;clear hb hk hi;(try clear ho0);(try clear ho1);(try clear ho2);obtain⟨kr,ku,nP⟩:=Kd.N_slice dZ.out;subst nP;obtain⟨kv,kw,nQ⟩:=Kd.N_slice d9.out;subst nQ;obtain⟨kD,kE,nR⟩:=Kd.N_slice ek.out;subst nR)|((with_reducible refine jd 26 rfl ?_);refine Kd.N_lit k92 _ 92 ?hg (N':=26) ?hd (xs:=([(⟨cz,cB,cK,(⟨cO,df,dh⟩:S90),di,dn⟩:S92)]:List (S92))) (inner:=[iV cz,iV cB,iV cK,iV cO,iV df,.slice kr dh.length ku,.slice kv di.length kw,.slice kD dn.length kE]) (ok:=(fun k_=>(w.heap.size<=k_)/\k_≠g)) (okp:=(fun k_=>(w.heap.size<=k_)/\k_≠g)) ?hr ?hp (fun _ hk=>hk) ((show ∀ k_,mW.heap.size<=k_->(fun k_=>(w.heap.size<=k_)/\k_≠g) k_ from fun k_ hk=>⟨(Nat.le_trans (keep_size (w:=w) (g:=g) (row:=none) qH) hk),Saa.fresh (qI HI0) k_ hk⟩) _ (Nat.le_refl _)) (Below.refl _ _) (Nat.le_refl _) (by simp) ?_;(case hd=>rfl);(case hg=>rfl);(case hr=>first|(go_simp;done)|(go_simp;rfl));(case hp=>exact (Reps.c8 (show Kd.FK k92 _ _ (⟨cz,cB,cK,(⟨cO,df,dh⟩:S90),di,dn⟩:S92) [iV cz,iV cB,iV cK,iV cO,iV df,.slice kr dh.length ku,.slice kv di.length kw,.slice kD dn.length kE] from (k92_mkF _ _ (⟨cz,cB,cK,(⟨cO,df,dh⟩:S90),di,dn⟩:S92) (Kd.N_reads' (Kd.N_mono (ok':=(fun k_=>(w.heap.size<=k_)/\k_≠g)) (dZ.out) (fun k_ hk=>⟨hk.1,hk.2.2.2⟩))).2.1 (Kd.N_F (Kd.N_mono (ok':=(fun k_=>(w.heap.size<=k_)/\k_≠g)) (dZ.out) (fun k_ hk=>⟨hk.1,hk.2.2.2⟩))) (Kd.N_reads' (Kd.N_mono (ok':=(fun k_=>(w.heap.size<=k_)/\k_≠g)) (d9.out) (fun k_ hk=>⟨hk.1,hk.2.2.2⟩))).2.1 (Kd.N_F (Kd.N_mono (ok':=(fun k_=>(w.heap.size<=k_)/\k_≠g)) (d9.out) (fun k_ hk=>⟨hk.1,hk.2.2.2⟩))) (Kd.N_reads' (Kd.N_mono (ok':=(fun k_=>(w.heap.size<=k_)/\k_≠g)) (ek.out) (fun k_ hk=>⟨hk.1,hk.2.2.2⟩))).2.1 (Kd.N_F (Kd.N_mono (ok':=(fun k_=>(w.heap.size<=k_)/\k_≠g)) (ek.out) (fun k_ hk=>⟨hk.1,hk.2.2.2⟩))))) (Reps.none _ _)));intro qd sD fU hb hg_ hnew_;clear hg_ hnew_;(first|rw [<- dY.out] at fU|(simp only [Int.reduceToNat] at fU;rw [<- dY.out] at fU));have kF:=aM (Kd.N_lower fU (keep_size (w:=w) (g:=g) (row:=none) qH));replace HI0:=aM (Saa.below (qI HI0) hb);replace HK:=aM (KeepBut.trans (w:=w) qH (KeepBut.of_below hb g none) (.inl rfl));replace HB:=kH hb;clear dZ d9 ek;clear hb fU))
    go_ret
    exact⟨_,qW,by (with_reducible repeat (first|apply Kd.N_alloc|apply Kd.N_drewN|apply Kd.N_drew));exact Kd.N_mono kF.out (fun _ hk=>hk.1),qI HI0,qB,qH⟩
   obtain⟨⟨iF,kJ⟩,qf,H⟩:=qE H
   try dsimp only at H
   obtain⟨⟨dw,dx,dz,nS⟩,qg,H⟩:=qE H
   try dsimp only at H
   obtain⟨qh,eu⟩:=ky ((([(⟨7,0,0,(⟨dw,dx,dz⟩:S90),([]:List (S92)),([]:List (S92))⟩:S92)]:List (S92))):List (S92))
   first|replace H:=kz eu H|rw [<- eu.out] at H
   obtain⟨rfl,rfl⟩:=oJ2 H
   go_wp2_with (first|((with_reducible refine jc 52 52 rfl rfl ?_);refine jG func52 #[.pointer (some ⟨g,0,none⟩),iV 3] ?_;refine (Sbn.calls iN g af bu 3 iF kJ w0 _ ?ah ?ai qf.out).mono ?_;(case ah=>exact qI HI0);(case ai=>exact qB);rintro e sF ⟨rfl,hi,hb,hk⟩;refine⟨_,rfl,?_⟩;replace HK:=aM (KeepBut.trans (w:=w) qH hk (.inl rfl));replace HB:=aM hb;replace HI0:=aM hi;clear hb hk hi)|((with_reducible refine jc 96 54 rfl rfl ?_);refine jG func96 #[.pointer (some ⟨g,0,none⟩),iV (wrap64 (1+iF))] ?_;refine (Sbo.calls iN g af kJ (wrap64 (1+iF)) dw dx dz nS w0 _ ?ah ?ai qg.out).mono ?_;(case ah=>exact qI HI0);(case ai=>exact qB);rintro e qi ⟨qj,rfl,ho0,hi,hb,hk⟩;refine⟨_,rfl,?_⟩;have eB:=aM (Kd.N_lower (Kd.N_mono (ok':=fun k_=>(w.heap.size<=k_)/\k_≠g) ho0 (fun k_ hk_=>⟨(Nat.le_trans (keep_size (w:=w) (g:=g) (row:=none) qH) hk_),(Saa.fresh (qI HI0) k_ hk_)⟩)) (keep_size (w:=w) (g:=g) (row:=none) qH));replace HK:=aM (KeepBut.trans (w:=w) qH hk (.inl rfl));replace HB:=aM hb;replace HI0:=aM hi;clear hb hk hi;(try clear ho0);obtain⟨kP,kU,nT⟩:=Kd.N_slice eB.out;subst nT)|((with_reducible refine jd 56 rfl ?_);refine Kd.N_lit k92 _ 92 ?hg (N':=56) ?hd (xs:=([(⟨7,0,0,(⟨dw,dx,dz⟩:S90),([]:List (S92)),([]:List (S92))⟩:S92)]:List (S92))) (inner:=[iV 7,iV 0,iV 0,iV dw,iV dx,.slice kP dz.length kU,.slice none 0 0,.slice none 0 0]) (ok:=(fun k_=>(w.heap.size<=k_)/\k_≠g)) (okp:=(fun k_=>(w.heap.size<=k_)/\k_≠g)) ?hr ?hp (fun _ hk=>hk) ((show ∀ k_,qi.heap.size<=k_->(fun k_=>(w.heap.size<=k_)/\k_≠g) k_ from fun k_ hk=>⟨(Nat.le_trans (keep_size (w:=w) (g:=g) (row:=none) qH) hk),Saa.fresh (qI HI0) k_ hk⟩) _ (Nat.le_refl _)) (Below.refl _ _) (Nat.le_refl _) (by simp) ?_;(case hd=>rfl);(case hg=>rfl);(case hr=>first|(go_simp;done)|(go_simp;rfl));(case hp=>exact (Reps.c8 (show Kd.FK k92 _ _ (⟨7,0,0,(⟨dw,dx,dz⟩:S90),([]:List (S92)),([]:List (S92))⟩:S92) [iV 7,iV 0,iV 0,iV dw,iV dx,.slice kP dz.length kU,.slice none 0 0,.slice none 0 0] from (k92_mkF _ _ (⟨7,0,0,(⟨dw,dx,dz⟩:S90),([]:List (S92)),([]:List (S92))⟩:S92) (Kd.N_reads' (Kd.N_mono (ok':=(fun k_=>(w.heap.size<=k_)/\k_≠g)) (eB.out) (fun k_ hk=>⟨hk.1,hk.2⟩))).2.1 (Kd.N_F (Kd.N_mono (ok':=(fun k_=>(w.heap.size<=k_)/\k_≠g)) (eB.out) (fun k_ hk=>⟨hk.1,hk.2⟩))) (Nat.le_refl _) (Kd.F_nil _ _ _) (Nat.le_refl _) (Kd.F_nil _ _ _))) (Reps.none _ _)));intro ql sG fV hb hg_ hnew_;clear hg_ hnew_;(first|rw [<- eu.out] at fV|(simp only [Int.reduceToNat] at fV;rw [<- eu.out] at fV));have kV:=aM (Kd.N_lower fV (keep_size (w:=w) (g:=g) (row:=none) qH));replace HI0:=aM (Saa.below (qI HI0) hb);replace HK:=aM (KeepBut.trans (w:=w) qH (KeepBut.of_below hb g none) (.inl rfl));replace HB:=kH hb;clear eB;clear hb fV))
   go_ret
   exact⟨_,qW,by (with_reducible repeat (first|apply Kd.N_alloc|apply Kd.N_drewN|apply Kd.N_drew));exact Kd.N_mono kV.out (fun _ hk=>hk.1),qI HI0,qB,qH⟩
  replace H:=jE H;rcases H with ⟨fZ,gm,H⟩ | ⟨o9,fZ,gm,H⟩
  ·have iG:=aM H
   clear H
   go_upto_region 9 with (fail)
   go_cut [33] (fun v33 wc=>∃ (kq:Nat) (dA:Bool),v33 = .bool dA/\Aside0 (Sbw.j1 kq a1 a2 dA af bu=some (r1,r2))/\Aside0 (kq<=iN)/\Aside0 (Saa w0 wc g af bu)/\Aside0 (KeepBut w wc g none)/\Aside0 (Below w0.heap.size w0 wc))
   case first =>
    have H:=iG.out
    clear iG
    replace H:=jD H;rcases H with ⟨bO,H⟩ | ⟨bO,H⟩
    ·(first|rw [bO]|(simp only [i64_w,i32_w];rw [bO])|skip)
     have H':=aM H
     clear H
     go_wp2
     go_meet
     exact⟨_,(a3),qZ,H',⟨by have:=iE.out;first|omega|exact Nat.le_refl _⟩,⟨qI HI0⟩,⟨qH⟩,⟨qB⟩⟩
    (first|rw [bO]|(simp only [i64_w,i32_w];rw [bO])|skip)
    have H':=aM H
    clear H
    go_wp2
    go_meet
    exact⟨_,(false),qZ,H',⟨by have:=iE.out;first|omega|exact Nat.le_refl _⟩,⟨qI HI0⟩,⟨qH⟩,⟨qB⟩⟩
   clear iG
   try clear c17;try clear fQ;try clear fT;try clear o9;try clear fZ;try clear gm
   obtain⟨kq,dA,rfl,HA,nU,HI0,HK,HB⟩:=hcut
   cases kq with
   | zero=>exact absurd HA.out (by simp [Sbw.j1])
   | succ iH =>
    have H:=HA.out
    clear HA
    simp only [Sbw.j1] at H
    replace H:=jB H;rcases H with ⟨rfl,H⟩ | ⟨rfl,H⟩
    ·obtain⟨⟨nV,nW⟩,qm,H⟩:=qE H
     try dsimp only at H
     obtain⟨rfl,rfl⟩:=oJ2 H
     go_wp2_with (first|((with_reducible refine jc 94 37 rfl rfl ?_);refine jG func94 #[.pointer (some ⟨g,0,none⟩),iV a1,iV a2] ?_;refine (aH iH (by have:=iE.out;have:=nU.out;omega) g af bu a1 a2 nV nW w0 _ ?ah ?ai qm.out).mono ?_;(case ah=>exact qI HI0);(case ai=>exact qB);rintro e sH ⟨qo,rfl,ho0,hi,hb,hk⟩;refine⟨_,rfl,?_⟩;have kX:=aM (Kd.N_lower (Kd.N_mono (ok':=fun k_=>(w.heap.size<=k_)/\k_≠g) ho0 (fun k_ hk_=>⟨(Nat.le_trans (keep_size (w:=w) (g:=g) (row:=none) qH) hk_),(Saa.fresh (qI HI0) k_ hk_)⟩)) (keep_size (w:=w) (g:=g) (row:=none) qH));replace HK:=aM (KeepBut.trans (w:=w) qH hk (.inl rfl));replace HB:=aM hb;replace HI0:=aM hi;clear hb hk hi;(try clear ho0)))
     go_ret
     exact⟨_,qW,by (with_reducible repeat (first|apply Kd.N_alloc|apply Kd.N_drewN|apply Kd.N_drew));exact Kd.N_mono kX.out (fun _ hk=>hk.1),qI HI0,qB,qH⟩
    obtain⟨⟨iI,kY⟩,qp,H⟩:=qE H
    try dsimp only at H
    obtain⟨⟨dB,dC,dD,nX⟩,qw,H⟩:=qE H
    try dsimp only at H
    obtain⟨qx,eD⟩:=ky ((([(⟨7,0,0,(⟨dB,dC,dD⟩:S90),([]:List (S92)),([]:List (S92))⟩:S92)]:List (S92))):List (S92))
    first|replace H:=kz eD H|rw [<- eD.out] at H
    obtain⟨rfl,rfl⟩:=oJ2 H
    go_wp2_with (first|((with_reducible refine jc 52 52 rfl rfl ?_);refine jG func52 #[.pointer (some ⟨g,0,none⟩),iV 3] ?_;refine (Sbn.calls iH g af bu 3 iI kY w0 _ ?ah ?ai qp.out).mono ?_;(case ah=>exact qI HI0);(case ai=>exact qB);rintro e sI ⟨rfl,hi,hb,hk⟩;refine⟨_,rfl,?_⟩;replace HK:=aM (KeepBut.trans (w:=w) qH hk (.inl rfl));replace HB:=aM hb;replace HI0:=aM hi;clear hb hk hi)|((with_reducible refine jc 96 54 rfl rfl ?_);refine jG func96 #[.pointer (some ⟨g,0,none⟩),iV (wrap64 (1+iI))] ?_;refine (Sbo.calls iH g af kY (wrap64 (1+iI)) dB dC dD nX w0 _ ?ah ?ai qw.out).mono ?_;(case ah=>exact qI HI0);(case ai=>exact qB);rintro e qy ⟨qz,rfl,ho0,hi,hb,hk⟩;refine⟨_,rfl,?_⟩;have eF:=aM (Kd.N_lower (Kd.N_mono (ok':=fun k_=>(w.heap.size<=k_)/\k_≠g) ho0 (fun k_ hk_=>⟨(Nat.le_trans (keep_size (w:=w) (g:=g) (row:=none) qH) hk_),(Saa.fresh (qI HI0) k_ hk_)⟩)) (keep_size (w:=w) (g:=g) (row:=none) qH));replace HK:=aM (KeepBut.trans (w:=w) qH hk (.inl rfl));replace HB:=aM hb;replace HI0:=aM hi;clear hb hk hi;(try clear ho0);obtain⟨kZ,lc,nY⟩:=Kd.N_slice eF.out;subst nY)|((with_reducible refine jd 56 rfl ?_);refine Kd.N_lit k92 _ 92 ?hg (N':=56) ?hd (xs:=([(⟨7,0,0,(⟨dB,dC,dD⟩:S90),([]:List (S92)),([]:List (S92))⟩:S92)]:List (S92))) (inner:=[iV 7,iV 0,iV 0,iV dB,iV dC,.slice kZ dD.length lc,.slice none 0 0,.slice none 0 0]) (ok:=(fun k_=>(w.heap.size<=k_)/\k_≠g)) (okp:=(fun k_=>(w.heap.size<=k_)/\k_≠g)) ?hr ?hp (fun _ hk=>hk) ((show ∀ k_,qy.heap.size<=k_->(fun k_=>(w.heap.size<=k_)/\k_≠g) k_ from fun k_ hk=>⟨(Nat.le_trans (keep_size (w:=w) (g:=g) (row:=none) qH) hk),Saa.fresh (qI HI0) k_ hk⟩) _ (Nat.le_refl _)) (Below.refl _ _) (Nat.le_refl _) (by simp) ?_;(case hd=>rfl);(case hg=>rfl);(case hr=>first|(go_simp;done)|(go_simp;rfl));(case hp=>exact (Reps.c8 (show Kd.FK k92 _ _ (⟨7,0,0,(⟨dB,dC,dD⟩:S90),([]:List (S92)),([]:List (S92))⟩:S92) [iV 7,iV 0,iV 0,iV dB,iV dC,.slice kZ dD.length lc,.slice none 0 0,.slice none 0 0] from (k92_mkF _ _ (⟨7,0,0,(⟨dB,dC,dD⟩:S90),([]:List (S92)),([]:List (S92))⟩:S92) (Kd.N_reads' (Kd.N_mono (ok':=(fun k_=>(w.heap.size<=k_)/\k_≠g)) (eF.out) (fun k_ hk=>⟨hk.1,hk.2⟩))).2.1 (Kd.N_F (Kd.N_mono (ok':=(fun k_=>(w.heap.size<=k_)/\k_≠g)) (eF.out) (fun k_ hk=>⟨hk.1,hk.2⟩))) (Nat.le_refl _) (Kd.F_nil _ _ _) (Nat.le_refl _) (Kd.F_nil _ _ _))) (Reps.none _ _)));intro qC sJ gp hb hg_ hnew_;clear hg_ hnew_;(first|rw [<- eD.out] at gp|(simp only [Int.reduceToNat] at gp;rw [<- eD.out] at gp));have lg:=aM (Kd.N_lower gp (keep_size (w:=w) (g:=g) (row:=none) qH));replace HI0:=aM (Saa.below (qI HI0) hb);replace HK:=aM (KeepBut.trans (w:=w) qH (KeepBut.of_below hb g none) (.inl rfl));replace HB:=kH hb;clear eF;clear hb gp))
    go_ret
    exact⟨_,qW,by (with_reducible repeat (first|apply Kd.N_alloc|apply Kd.N_drewN|apply Kd.N_drew));exact Kd.N_mono lg.out (fun _ hk=>hk.1),qI HI0,qB,qH⟩
  have iJ:=aM H
  clear H
  go_upto_if 38 with (fail)
  go_cut [38] (fun v38 wc=>∃ (kq:Nat) (dE:Bool),v38 = .bool dE/\Aside0 (Sbw.j2 kq a1 bN dE af bu=some (r1,r2))/\Aside0 (kq<=iN)/\Aside0 (Saa w0 wc g af bu)/\Aside0 (KeepBut w wc g none)/\Aside0 (Below w0.heap.size w0 wc))
  case first =>
   have H:=iJ.out
   clear iJ
   replace H:=jE H;rcases H with ⟨bP,lh,H⟩ | ⟨sK,bP,lh,H⟩
   ·(first|rw [bP]|(simp only [i64_w,i32_w];rw [bP])|skip)
    have H':=aM H
    clear H
    go_wp2
    go_meet
    exact⟨_,((bN == 4)),qZ,H',⟨by have:=iE.out;first|omega|exact Nat.le_refl _⟩,⟨qI HI0⟩,⟨qH⟩,⟨qB⟩⟩
   (first|rw [bP]|(simp only [i64_w,i32_w];rw [bP])|skip)
   replace H:=jE H;rcases H with ⟨ll,lu,H⟩ | ⟨sM,ll,lu,H⟩
   ·have H':=aM H
    clear H
    go_wp2
    go_meet
    exact⟨_,((bN == 5)),qZ,H',⟨by have:=iE.out;first|omega|exact Nat.le_refl _⟩,⟨qI HI0⟩,⟨qH⟩,⟨qB⟩⟩
   have H':=aM H
   clear H
   go_wp2
   go_meet
   exact⟨_,((bN == 6)),qZ,H',⟨by have:=iE.out;first|omega|exact Nat.le_refl _⟩,⟨qI HI0⟩,⟨qH⟩,⟨qB⟩⟩
  clear iJ
  try clear c17;try clear fQ;try clear fT;try clear o9;try clear fZ;try clear gm
  obtain⟨kq,dE,rfl,HA,qG,HI0,HK,HB⟩:=hcut
  cases kq with
  | zero=>exact absurd HA.out (by simp [Sbw.j2])
  | succ iK =>
   have H:=HA.out
   clear HA
   simp only [Sbw.j2] at H
   replace H:=jB H;rcases H with ⟨rfl,H⟩ | ⟨rfl,H⟩
   ·obtain⟨⟨dF,dG,dH,dI,dJ,dK,dL,dM,nZ⟩,qJ,H⟩:=qE H
    try dsimp only at H
    obtain⟨qO,eG⟩:=ky ((([(⟨dF,dG,dH,(⟨dI,dJ,dK⟩:S90),dL,dM⟩:S92)]:List (S92))):List (S92))
    first|replace H:=kz eG H|rw [<- eG.out] at H
    obtain⟨rfl,rfl⟩:=oJ2 H
    go_wp2_with (first|((with_reducible refine jc 95 44 rfl rfl ?_);refine jG func95 #[.pointer (some ⟨g,0,none⟩),iV a1] ?_;refine (Sby.calls iK g af bu a1 dF dG dH dI dJ dK dL dM nZ w0 _ ?ah ?ai qJ.out).mono ?_;(case ah=>exact qI HI0);(case ai=>exact qB);rintro e qX ⟨lw,lC,lD,rfl,ho0,ho1,ho2,hi,hb,hk⟩;refine⟨_,rfl,?_⟩;have eH:=aM (Kd.N_lower (Kd.N_mono (ok':=fun k_=>(w.heap.size<=k_)/\some k_≠(lC:Value).ownBlock/\some k_≠(lD:Value).ownBlock/\k_≠g) ho0 (fun k_ hk_=>⟨(Nat.le_trans (keep_size (w:=w) (g:=g) (row:=none) qH) hk_.1),hk_.2.1,hk_.2.2,(Saa.fresh (qI HI0) k_ hk_.1)⟩)) (keep_size (w:=w) (g:=g) (row:=none) qH));have eO:=aM (Kd.N_lower (Kd.N_mono (ok':=fun k_=>(w.heap.size<=k_)/\some k_≠(lw:Value).ownBlock/\some k_≠(lD:Value).ownBlock/\k_≠g) ho1 (fun k_ hk_=>⟨(Nat.le_trans (keep_size (w:=w) (g:=g) (row:=none) qH) hk_.1),hk_.2.1,hk_.2.2,(Saa.fresh (qI HI0) k_ hk_.1)⟩)) (keep_size (w:=w) (g:=g) (row:=none) qH));have eP:=aM (Kd.N_lower (Kd.N_mono (ok':=fun k_=>(w.heap.size<=k_)/\some k_≠(lw:Value).ownBlock/\some k_≠(lC:Value).ownBlock/\k_≠g) ho2 (fun k_ hk_=>⟨(Nat.le_trans (keep_size (w:=w) (g:=g) (row:=none) qH) hk_.1),hk_.2.1,hk_.2.2,(Saa.fresh (qI HI0) k_ hk_.1)⟩)) (keep_size (w:=w) (g:=g) (row:=none) qH));replace HK:=aM (KeepBut.trans (w:=w) qH hk (.inl rfl));replace HB:=aM hb;replace HI0:=aM hi;clear hb hk hi;(try clear ho0);(try clear ho1);(try clear ho2);obtain⟨lF,lG,oh⟩:=Kd.N_slice eH.out;subst oh;obtain⟨lH,lI,ol⟩:=Kd.N_slice eO.out;subst ol;obtain⟨lJ,lK,oo⟩:=Kd.N_slice eP.out;subst oo)|((with_reducible refine jd 45 rfl ?_);refine Kd.N_lit k92 _ 92 ?hg (N':=45) ?hd (xs:=([(⟨dF,dG,dH,(⟨dI,dJ,dK⟩:S90),dL,dM⟩:S92)]:List (S92))) (inner:=[iV dF,iV dG,iV dH,iV dI,iV dJ,.slice lF dK.length lG,.slice lH dL.length lI,.slice lJ dM.length lK]) (ok:=(fun k_=>(w.heap.size<=k_)/\k_≠g)) (okp:=(fun k_=>(w.heap.size<=k_)/\k_≠g)) ?hr ?hp (fun _ hk=>hk) ((show ∀ k_,qX.heap.size<=k_->(fun k_=>(w.heap.size<=k_)/\k_≠g) k_ from fun k_ hk=>⟨(Nat.le_trans (keep_size (w:=w) (g:=g) (row:=none) qH) hk),Saa.fresh (qI HI0) k_ hk⟩) _ (Nat.le_refl _)) (Below.refl _ _) (Nat.le_refl _) (by simp) ?_;(case hd=>rfl);(case hg=>rfl);(case hr=>first|(go_simp;done)|(go_simp;rfl));(case hp=>exact (Reps.c8 (show Kd.FK k92 _ _ (⟨dF,dG,dH,(⟨dI,dJ,dK⟩:S90),dL,dM⟩:S92) [iV dF,iV dG,iV dH,iV dI,iV dJ,.slice lF dK.length lG,.slice lH dL.length lI,.slice lJ dM.length lK] from (k92_mkF _ _ (⟨dF,dG,dH,(⟨dI,dJ,dK⟩:S90),dL,dM⟩:S92) (Kd.N_reads' (Kd.N_mono (ok':=(fun k_=>(w.heap.size<=k_)/\k_≠g)) (eH.out) (fun k_ hk=>⟨hk.1,hk.2.2.2⟩))).2.1 (Kd.N_F (Kd.N_mono (ok':=(fun k_=>(w.heap.size<=k_)/\k_≠g)) (eH.out) (fun k_ hk=>⟨hk.1,hk.2.2.2⟩))) (Kd.N_reads' (Kd.N_mono (ok':=(fun k_=>(w.heap.size<=k_)/\k_≠g)) (eO.out) (fun k_ hk=>⟨hk.1,hk.2.2.2⟩))).2.1 (Kd.N_F (Kd.N_mono (ok':=(fun k_=>(w.heap.size<=k_)/\k_≠g)) (eO.out) (fun k_ hk=>⟨hk.1,hk.2.2.2⟩))) (Kd.N_reads' (Kd.N_mono (ok':=(fun k_=>(w.heap.size<=k_)/\k_≠g)) (eP.out) (fun k_ hk=>⟨hk.1,hk.2.2.2⟩))).2.1 (Kd.N_F (Kd.N_mono (ok':=(fun k_=>(w.heap.size<=k_)/\k_≠g)) (eP.out) (fun k_ hk=>⟨hk.1,hk.2.2.2⟩))))) (Reps.none _ _)));intro qY sN gq hb hg_ hnew_;clear hg_ hnew_;(first|rw [<- eG.out] at gq|(simp only [Int.reduceToNat] at gq;rw [<- eG.out] at gq));have lL:=aM (Kd.N_lower gq (keep_size (w:=w) (g:=g) (row:=none) qH));replace HI0:=aM (Saa.below (qI HI0) hb);replace HK:=aM (KeepBut.trans (w:=w) qH (KeepBut.of_below hb g none) (.inl rfl));replace HB:=kH hb;clear eH eO eP;clear hb gq))
    go_ret
    exact⟨_,qW,by (with_reducible repeat (first|apply Kd.N_alloc|apply Kd.N_drewN|apply Kd.N_drew));exact Kd.N_mono lL.out (fun _ hk=>hk.1),qI HI0,qB,qH⟩
   replace H:=jE H;rcases H with ⟨lM,lN,H⟩ | ⟨sO,lM,lN,H⟩
   ·obtain⟨q9,eQ⟩:=ky ((([(⟨6,0,0,(⟨0,0,([]:List (S90))⟩:S90),([]:List (S92)),([]:List (S92))⟩:S92)]:List (S92))):List (S92))
    first|replace H:=kz eQ H|rw [<- eQ.out] at H
    obtain⟨rfl,rfl⟩:=oJ2 H
    go_wp2_with (first|((with_reducible refine jd 49 rfl ?_);refine Kd.N_lit k92 _ 92 ?hg (N':=49) ?hd (xs:=([(⟨6,0,0,(⟨0,0,([]:List (S90))⟩:S90),([]:List (S92)),([]:List (S92))⟩:S92)]:List (S92))) (inner:=[iV 6,iV 0,iV 0,iV 0,iV 0,.slice none 0 0,.slice none 0 0,.slice none 0 0]) (ok:=(fun k_=>(w.heap.size<=k_)/\k_≠g)) (okp:=(fun k_=>(w.heap.size<=k_)/\k_≠g)) ?hr ?hp (fun _ hk=>hk) ((show ∀ k_,wc.heap.size<=k_->(fun k_=>(w.heap.size<=k_)/\k_≠g) k_ from fun k_ hk=>⟨(Nat.le_trans (keep_size (w:=w) (g:=g) (row:=none) qH) hk),Saa.fresh (qI HI0) k_ hk⟩) _ (Nat.le_refl _)) (Below.refl _ _) (Nat.le_refl _) (by simp) ?_;(case hd=>rfl);(case hg=>rfl);(case hr=>first|(go_simp;done)|(go_simp;rfl));(case hp=>exact (Reps.c8 (show Kd.FK k92 _ _ (⟨6,0,0,(⟨0,0,([]:List (S90))⟩:S90),([]:List (S92)),([]:List (S92))⟩:S92) [iV 6,iV 0,iV 0,iV 0,iV 0,.slice none 0 0,.slice none 0 0,.slice none 0 0] from (k92_mkF _ _ (⟨6,0,0,(⟨0,0,([]:List (S90))⟩:S90),([]:List (S92)),([]:List (S92))⟩:S92) (Nat.le_refl _) (Kd.F_nil _ _ _) (Nat.le_refl _) (Kd.F_nil _ _ _) (Nat.le_refl _) (Kd.F_nil _ _ _))) (Reps.none _ _)));intro rf sP gu hb hg_ hnew_;clear hg_ hnew_;(first|rw [<- eQ.out] at gu|(simp only [Int.reduceToNat] at gu;rw [<- eQ.out] at gu));have lQ:=aM (Kd.N_lower gu (keep_size (w:=w) (g:=g) (row:=none) qH));replace HI0:=aM (Saa.below (qI HI0) hb);replace HK:=aM (KeepBut.trans (w:=w) qH (KeepBut.of_below hb g none) (.inl rfl));replace HB:=kH hb;clear hb gu))
    go_ret
    exact⟨_,qW,by (with_reducible repeat (first|apply Kd.N_alloc|apply Kd.N_drewN|apply Kd.N_drew));exact Kd.N_mono lQ.out (fun _ hk=>hk.1),qI HI0,qB,qH⟩
   obtain⟨⟨iL,lS⟩,ru,H⟩:=qE H
   try dsimp only at H
   obtain⟨⟨dN,dO,dP,ou⟩,ry,H⟩:=qE H
   try dsimp only at H
   obtain⟨rA,eT⟩:=ky ((([(⟨7,0,0,(⟨dN,dO,dP⟩:S90),([]:List (S92)),([]:List (S92))⟩:S92)]:List (S92))):List (S92))
   first|replace H:=kz eT H|rw [<- eT.out] at H
   obtain⟨rfl,rfl⟩:=oJ2 H
   go_wp2_with (first|((with_reducible refine jc 52 52 rfl rfl ?_);refine jG func52 #[.pointer (some ⟨g,0,none⟩),iV 3] ?_;refine (Sbn.calls iK g af bu 3 iL lS w0 _ ?ah ?ai ru.out).mono ?_;(case ah=>exact qI HI0);(case ai=>exact qB);rintro e sQ ⟨rfl,hi,hb,hk⟩;refine⟨_,rfl,?_⟩;replace HK:=aM (KeepBut.trans (w:=w) qH hk (.inl rfl));replace HB:=aM hb;replace HI0:=aM hi;clear hb hk hi)|((with_reducible refine jc 96 54 rfl rfl ?_);refine jG func96 #[.pointer (some ⟨g,0,none⟩),iV (wrap64 (1+iL))] ?_;refine (Sbo.calls iK g af lS (wrap64 (1+iL)) dN dO dP ou w0 _ ?ah ?ai ry.out).mono ?_;(case ah=>exact qI HI0);(case ai=>exact qB);rintro e rC ⟨rD,rfl,ho0,hi,hb,hk⟩;refine⟨_,rfl,?_⟩;have eU:=aM (Kd.N_lower (Kd.N_mono (ok':=fun k_=>(w.heap.size<=k_)/\k_≠g) ho0 (fun k_ hk_=>⟨(Nat.le_trans (keep_size (w:=w) (g:=g) (row:=none) qH) hk_),(Saa.fresh (qI HI0) k_ hk_)⟩)) (keep_size (w:=w) (g:=g) (row:=none) qH));replace HK:=aM (KeepBut.trans (w:=w) qH hk (.inl rfl));replace HB:=aM hb;replace HI0:=aM hi;clear hb hk hi;(try clear ho0);obtain⟨lT,lU,ow⟩:=Kd.N_slice eU.out;subst ow)|((with_reducible refine jd 56 rfl ?_);refine Kd.N_lit k92 _ 92 ?hg (N':=56) ?hd (xs:=([(⟨7,0,0,(⟨dN,dO,dP⟩:S90),([]:List (S92)),([]:List (S92))⟩:S92)]:List (S92))) (inner:=[iV 7,iV 0,iV 0,iV dN,iV dO,.slice lT dP.length lU,.slice none 0 0,.slice none 0 0]) (ok:=(fun k_=>(w.heap.size<=k_)/\k_≠g)) (okp:=(fun k_=>(w.heap.size<=k_)/\k_≠g)) ?hr ?hp (fun _ hk=>hk) ((show ∀ k_,rC.heap.size<=k_->(fun k_=>(w.heap.size<=k_)/\k_≠g) k_ from fun k_ hk=>⟨(Nat.le_trans (keep_size (w:=w) (g:=g) (row:=none) qH) hk),Saa.fresh (qI HI0) k_ hk⟩) _ (Nat.le_refl _)) (Below.refl _ _) (Nat.le_refl _) (by simp) ?_;(case hd=>rfl);(case hg=>rfl);(case hr=>first|(go_simp;done)|(go_simp;rfl));(case hp=>exact (Reps.c8 (show Kd.FK k92 _ _ (⟨7,0,0,(⟨dN,dO,dP⟩:S90),([]:List (S92)),([]:List (S92))⟩:S92) [iV 7,iV 0,iV 0,iV dN,iV dO,.slice lT dP.length lU,.slice none 0 0,.slice none 0 0] from (k92_mkF _ _ (⟨7,0,0,(⟨dN,dO,dP⟩:S90),([]:List (S92)),([]:List (S92))⟩:S92) (Kd.N_reads' (Kd.N_mono (ok':=(fun k_=>(w.heap.size<=k_)/\k_≠g)) (eU.out) (fun k_ hk=>⟨hk.1,hk.2⟩))).2.1 (Kd.N_F (Kd.N_mono (ok':=(fun k_=>(w.heap.size<=k_)/\k_≠g)) (eU.out) (fun k_ hk=>⟨hk.1,hk.2⟩))) (Nat.le_refl _) (Kd.F_nil _ _ _) (Nat.le_refl _) (Kd.F_nil _ _ _))) (Reps.none _ _)));intro rE sS gz hb hg_ hnew_;clear hg_ hnew_;(first|rw [<- eT.out] at gz|(simp only [Int.reduceToNat] at gz;rw [<- eT.out] at gz));have lV:=aM (Kd.N_lower gz (keep_size (w:=w) (g:=g) (row:=none) qH));replace HI0:=aM (Saa.below (qI HI0) hb);replace HK:=aM (KeepBut.trans (w:=w) qH (KeepBut.of_below hb g none) (.inl rfl));replace HB:=kH hb;clear eU;clear hb gz))
   go_ret
   exact⟨_,qW,by (with_reducible repeat (first|apply Kd.N_alloc|apply Kd.N_drewN|apply Kd.N_drew));exact Kd.N_mono lV.out (fun _ hk=>hk.1),qI HI0,qB,qH⟩
theorem Sbs.step (k:Nat) (ih:∀ m_,m_ < k->Sbs.stmt m_) (aG:∀ m_,m_ < k->Sbw.stmt m_) (aN:∀ m_,m_ < k->Sbt.stmt m_) (aH:∀ m_,m_ < k->Sbu.stmt m_):Sbs.stmt k:=by
 intro g af ay a1 a2 a3 a4 r1 r2 w0 w hI hB h
 cases k with
 | zero=>exact absurd h (by simp [Sbs.f])
 | succ k =>
 simp only [Sbs.f] at h
 have HI0:=aM hI
 have HK:=aM (KeepBut.refl w g none)
 have HL:=aM hB.size
 clear hI
 have HW0:=aM hB.size
 have HB:=aM hB
 clear hB
 have H:(Sbs.l0 k a1 a2 a3 a4 (([]:List (S92))) 0 af ay)=some (r1,r2):=h
 clear h
 obtain⟨oz,eX⟩:=ky ((([]:List (S92))):List (S92))
 first|replace H:=kz eX H|rw [<- eX.out] at H
 have H':=aM H
 clear H
 go_enter func73,ntmps73
 go_wp2_with (first|((with_reducible refine jd 13 rfl ?_);refine Kd.N_lit k92 _ 92 ?hg (N':=13) ?hd (xs:=([]:List (S92))) (inner:=[]) (ok:=(fun k_=>(w.heap.size<=k_)/\k_≠g)) (okp:=(fun k_=>(w.heap.size<=k_)/\k_≠g)) ?hr ?hp (fun _ hk=>hk) ((show ∀ k_,w.heap.size<=k_->(fun k_=>(w.heap.size<=k_)/\k_≠g) k_ from fun k_ hk=>⟨(Nat.le_trans (keep_size (w:=w) (g:=g) (row:=none) qH) hk),Saa.fresh (qI HI0) k_ hk⟩) _ (Nat.le_refl _)) (Below.refl _ _) (Nat.le_refl _) (by simp) ?_;(case hd=>rfl);(case hg=>rfl);(case hr=>first|(go_simp;done)|(go_simp;rfl));(case hp=>exact (Reps.none _ _));intro rF w6 lW hb hg_ hnew_;clear hg_ hnew_;(first|rw [<- eX.out] at lW|(simp only [Int.reduceToNat] at lW;rw [<- eX.out] at lW));have lX:=aM (Kd.N_lower lW (keep_size (w:=w) (g:=g) (row:=none) qH));replace HI0:=aM (Saa.below (qI HI0) hb);replace HK:=aM (KeepBut.trans (w:=w) qH (KeepBut.of_below hb g none) (.inl rfl));replace HB:=kH hb;clear hb lW))
 go_loopg [11,12] k (fun kq v11 v12 w'=>∃ (bQ:List (S92)) (gB:Int) (bD:Int),v12 = iV gB/\Aside0 (Sbs.l0 kq a1 a2 a3 a4 bQ gB af bD=some (r1,r2))/\Aside0 (kq<=k)/\Aside0 (Kd.N k92 92 w' w.heap.size (fun k_=>(w.heap.size<=k_)/\k_≠g) v11 bQ)/\Aside0 (Saa w0 w' g af bD)/\Aside0 (KeepBut w w' g none)/\Aside0 (Below w0.heap.size w0 w'))
 case atStart=>exact⟨(oz),(0),(ay),qZ,H',⟨Nat.le_refl _⟩,⟨qN lX⟩,⟨qI HI0⟩,⟨qH⟩,⟨qB⟩⟩
 clear H'
 obtain⟨bQ,gB,bD,rfl,HA,oC,bA,HI0,HK,HB⟩:=hrel
 rcases gk with _|k1
 ·exact absurd HA.out (by simp [Sbs.l0])
 have H:=HA.out
 clear HA
 simp only [Sbs.l0] at H
 replace H:=jD H;rcases H with ⟨bR,H⟩ | ⟨bR,H⟩
 ·obtain⟨⟨iM,oD⟩,A9,H⟩:=qE H
  try dsimp only at H
  replace H:=jL H;obtain⟨lY,H⟩:=H
  obtain⟨rG,gD⟩:=ky ((bQ ++ iM):List (S92))
  first|replace H:=kz gD H|rw [<- gD.out] at H
  have H':=aM H
  clear H
  go_wp2_with (first|((with_reducible refine jc 82 24 rfl rfl ?_);refine jG func82 #[.pointer (some ⟨g,0,none⟩),iV a1,iV a2,.bool a4] ?_;refine (aG k1 (by have:=oC.out;omega) g af bD a1 a2 a4 iM oD w0 _ ?ah ?ai A9.out).mono ?_;(case ah=>exact qI HI0);(case ai=>exact qB);rintro e rH ⟨rJ,rfl,gL,hi,hb,hk⟩;refine⟨_,rfl,?_⟩;have eY:=aM (Kd.N_lower (Kd.N_mono (ok':=fun k_=>(w.heap.size<=k_)/\some k_≠(u11:Value).ownBlock/\k_≠g) gL (fun k_ hk_=>⟨(Nat.le_trans (keep_size (w:=w) (g:=g) (row:=none) qH) hk_),(Kd.fresh' (Kd.N_lt (qN bA)) k_ hk_),(Saa.fresh (qI HI0) k_ hk_)⟩)) (keep_size (w:=w) (g:=g) (row:=none) qH));replace bA:=aM (Kd.N_mono (Kd.N_told (Kd.N_oldK (Kd.N_mono (ok:=fun k_=>(((w.heap.size<=k_))/\k_≠g)) (qN bA) (fun k_ hk_=>(⟨hk_,hk_.2⟩:_/\k_≠g))) hk) (by first|exact Kd.N_base gL|exact Kd.R_base gL)) (fun _ h_=>h_.1));replace HK:=aM (KeepBut.trans (w:=w) qH hk (.inl rfl));replace HB:=aM hb;replace HI0:=aM hi;clear hb hk hi;(try clear gL);obtain⟨rM,rO,oF⟩:=Kd.N_slice eY.out;subst oF)|((with_reducible refine gate_builtin (b:=.append) (xs:=#[.tmp 19,.tmp 24]) rfl ?_);at_builtin;refine Kd.N_append_rows k92 w.heap.size rfl (.tmp 19) (.tmp 24) 75 92 (.agg #[(iV 0),(iV 0),(iV 0),(iV 0),(iV 0),(.slice none 0 0),(.slice none 0 0),(.slice none 0 0)]) 112 rfl underlying75 info92 rfl (by decide) (by omega) u11 bQ iM _ _ _ (fun k_=>(w.heap.size<=k_)/\k_≠g) (fun k_=>((fun k_=>(w.heap.size<=k_)/\k_≠g)) k_/\some k_≠(u11:Value).ownBlock) rfl rfl ?aO ?aR (fun _ hk=>hk) ?aF (Below.refl _ _) ?aS ?aL ?_;(case aR=>exact (by skip;exact Kd.N_F (Kd.N_mono (ok':=(fun k_=>((fun k_=>(w.heap.size<=k_)/\k_≠g)) k_/\some k_≠(u11:Value).ownBlock)) (eY.out) (fun k_ hk=>⟨⟨hk.1,hk.2.2⟩,hk.2.1⟩))));(case aF=>exact (fun k_ hk=>⟨(Nat.le_trans (keep_size (w:=w) (g:=g) (row:=none) qH) hk),Saa.fresh (qI HI0) k_ hk⟩));(case aO=>exact (by (with_reducible repeat (first|apply Kd.N_alloc|apply Kd.N_drewN|apply Kd.N_drew));exact Kd.N_mono bA.out (fun _ hk=>⟨hk.1.1,hk.1.2⟩)));(case aS=>exact (keep_size (w:=w) (g:=g) (row:=none) qH));(case aL=>have:=lY.out;omega);intro rP rQ ho hb hg hat;rw [<- gD.out] at ho;have lZ:=aM ho;replace HI0:=aM (Saa.grown (qI HI0) hg (Saa.own_neN HI0.out bA.out (by decide)));replace eY:=aM (Kd.N_afterv (ok:=(fun k_=>(w.heap.size<=k_)/\k_≠g)) (by (with_reducible repeat (first|apply Kd.N_alloc|apply Kd.N_drewN|apply Kd.N_drew));exact Kd.N_mono eY.out (fun _ hk=>⟨⟨hk.1,hk.2.2⟩,hk.2.1⟩)) hg hat);replace HB:=aM (below_weaken qB HL.out hb);replace HK:=aM (KeepBut.trans (w:=w) qH (KeepBut.of_grown hg g) (Kd.N_base2 bA.out));clear bA;clear ho hb hg hat))
  go_roundg k1
  case measure=>have:=oC.out;omega
  exact⟨_,_,_,qZ,H',⟨by have:=oC.out;omega⟩,⟨qN lZ⟩,⟨qI HI0⟩,⟨qH⟩,⟨qB⟩⟩
 obtain⟨rfl,rfl⟩:=oJ2 H
 go_wp2
 go_ret
 exact⟨_,qW,by (with_reducible repeat (first|apply Kd.N_alloc|apply Kd.N_drewN|apply Kd.N_drew));exact Kd.N_mono bA.out (fun _ hk=>hk.1),qI HI0,qB,qH⟩
theorem Sbt.grp.calls (k:Nat):Sbt.stmt k/\Sbu.stmt k/\Sbw.stmt k/\Sbs.stmt k:=by
 induction k using Nat.strongRecOn with
 | _ k ih=>exact⟨Sbt.step k (fun m_ h_=>(ih m_ h_).2.2.2) (fun m_ h_=>(ih m_ h_).2.2.1) (fun m_ h_=>(ih m_ h_).1) (fun m_ h_=>(ih m_ h_).2.1),Sbu.step k (fun m_ h_=>(ih m_ h_).2.2.2) (fun m_ h_=>(ih m_ h_).2.2.1) (fun m_ h_=>(ih m_ h_).1) (fun m_ h_=>(ih m_ h_).2.1),Sbw.step k (fun m_ h_=>(ih m_ h_).2.2.2) (fun m_ h_=>(ih m_ h_).2.2.1) (fun m_ h_=>(ih m_ h_).1) (fun m_ h_=>(ih m_ h_).2.1),Sbs.step k (fun m_ h_=>(ih m_ h_).2.2.2) (fun m_ h_=>(ih m_ h_).2.2.1) (fun m_ h_=>(ih m_ h_).1) (fun m_ h_=>(ih m_ h_).2.1)⟩
theorem Sbs.calls (k:Nat):Sbs.stmt k:=(Sbt.grp.calls k).2.2.2
def Sbx.l0:Nat->List (S92)->List Int->Int->Option ((List (S92)) × Int)
 | 0,_,_,_=>none
 | k+1,x5,x1000,aA=>(SaB.f k x5).bind fun au=>(if au > 16 then (if 0<=(wrap64 ((x5.length:Int) - 1)) then (if (wrap64 ((x5.length:Int) - 1))<=(x5.length:Int) then (Sbx.l0 k (x5.take ((wrap64 ((x5.length:Int) - 1)):Int).toNat) x1000 aA) else (none)) else (none)) else (some (x5,aA)))
def Sbx.f (k:Nat) (af:List Int) (aj a1:Int):Option ((List (S92)) × Int):=(Sbn.f k af aj 6).bind fun aC=>((Sbs.f k af aC.2 a1 3 (wrap64 (1+aC.1)) true).bind fun aD=>(Sbx.l0 k aD.1 af aD.2))
theorem Sbx.calls (k g:Nat) (af:List Int) (aj a1:Int) (r1:List (S92)) (r2:Int) (w0 w:World) (hI:Saa w0 w g af aj) (hB:Below w0.heap.size w0 w) (h:Sbx.f k af aj a1=some (r1,r2)) :
  Calls prog 63 #[.pointer (some ⟨g,0,none⟩),iV a1] w fun e w'=>∃ bv:Value,e = .returned (bv)/\Kd.N k92 92 w' w.heap.size (fun k_=>(w.heap.size<=k_)) bv r1/\Saa w0 w' g af r2/\Below w0.heap.size w0 w'/\KeepBut w w' g none:=by
 have HI0:=aM hI
 have HK:=aM (KeepBut.refl w g none)
 have HL:=aM hB.size
 clear hI
 have HW0:=aM hB.size
 have HB:=aM hB
 clear hB
 have H:=h;unfold Sbx.f at H
 clear h
 obtain⟨⟨aH,aJ⟩,A3,H⟩:=qE H
 try dsimp only at H
 obtain⟨⟨aK,av⟩,A4,H⟩:=qE H
 try dsimp only at H
 have H':=aM H
 clear H
 go_enter func63,ntmps63
 go_wp2_with (first|((with_reducible refine jc 52 9 rfl rfl ?_);refine jG func52 #[.pointer (some ⟨g,0,none⟩),iV 6] ?_;refine (Sbn.calls k g af aj 6 aH aJ w0 _ ?ag ?ah A3.out).mono ?_;(case ag=>exact qI HI0);(case ah=>exact qB);rintro e w5 ⟨rfl,hi,hb,hk⟩;refine⟨_,rfl,?_⟩;replace HK:=kI hk;replace HB:=aM hb;replace HI0:=aM hi;clear hb hk hi)|((with_reducible refine jc 73 11 rfl rfl ?_);refine jG func73 #[.pointer (some ⟨g,0,none⟩),iV a1,iV 3,iV (wrap64 (1+aH)),.bool true] ?_;refine (Sbs.calls k g af aJ a1 3 (wrap64 (1+aH)) true aK av w0 _ ?ag ?ah A4.out).mono ?_;(case ag=>exact qI HI0);(case ah=>exact qB);rintro e w6 ⟨bG,rfl,ho0,hi,hb,hk⟩;refine⟨_,rfl,?_⟩;have aN:=aM (Kd.N_lower (Kd.N_mono (ok':=fun k_=>(w.heap.size<=k_)/\k_≠g) ho0 (fun k_ hk_=>⟨(Nat.le_trans (keep_size (w:=w) (g:=g) (row:=none) qH) hk_),(Saa.fresh (qI HI0) k_ hk_)⟩)) (keep_size (w:=w) (g:=g) (row:=none) qH));replace HK:=kI hk;replace HB:=aM hb;replace HI0:=aM hi;clear hb hk hi;(try clear ho0)))
 go_loopg [5] k (fun kq v5 w'=>∃ (aa:List (S92)),Aside0 (Sbx.l0 kq aa af av=some (r1,r2))/\Aside0 (kq<=k)/\Aside0 (Kd.N k92 92 w' w.heap.size (fun k_=>(w.heap.size<=k_)/\k_≠g) v5 aa)/\Aside0 (Saa w0 w' g af av)/\Aside0 (KeepBut w w' g none)/\Aside0 (Below w0.heap.size w0 w'))
 case atStart=>exact⟨(aK),H',⟨Nat.le_refl _⟩,⟨qN aN⟩,⟨qI HI0⟩,⟨qH⟩,⟨qB⟩⟩
 clear H'
 obtain⟨aa,HA,bz,ae,HI0,HK,HB⟩:=hrel
 rcases gk with _|k1
 ·exact absurd HA.out (by simp [Sbx.l0])
 have H:=HA.out
 clear HA
 simp only [Sbx.l0] at H
 obtain⟨au,A7,H⟩:=qE H
 try dsimp only at H
 replace H:=jD H;rcases H with ⟨aX,H⟩ | ⟨aX,H⟩
 ·obtain⟨ax,ay⟩:∃ j_:Int,(wrap64 ((aa.length:Int) - 1))=j_:=⟨_,rfl⟩
  replace H:(if 0<=(ax) then (if (ax)<=(aa.length:Int) then (Sbx.l0 k1 (aa.take ((ax):Int).toNat) af av) else (none)) else (none))=some (r1,r2):=by first|(rw [ay] at H;exact H)|(simp only [ay] at H ⊢;exact H)
  (try rw [ay] at A7)
  have bA:(IntKind.i64.wrap ((aa.length:Int) - 1))=ax:=(i64_w _).trans ay
  replace H:=jJ H;obtain⟨bB,bC,H⟩:=H
  replace H:=jJ H;obtain⟨bD,bE,H⟩:=H
  obtain⟨aY,ai⟩:=ky ((aa.take ((ax):Int).toNat):List (S92))
  first|replace H:=kz ai H|rw [<- ai.out] at H
  have H':=aM H
  clear H
  obtain⟨aQ,aT,aZ⟩:=Kd.N_slice ae.out
  subst aZ
  go_wp2_with (first|((with_reducible refine jc 74 13 rfl rfl ?_);refine jG func74 #[.slice aQ aa.length aT] ?_;refine (SaB.calls k1 _ _ aa au _ ?ag ?ah A7.out).mono ?_;(case ag=>exact kC (Kd.N_reads' ae.out).2.2);(case ah=>exact (Kd.N_reads' ae.out).2.1);rintro e bg ⟨rfl,hb⟩;refine⟨_,rfl,?_⟩;replace ae:=aM (Kd.N_below (qN ae) hb);replace HI0:=aM (Saa.below (qI HI0) hb);replace HK:=aM (KeepBut.trans qH (KeepBut.of_below hb g none) (.inl rfl));replace HB:=kH hb;clear hb;have bi:((ax):Int)<=((aa.length:Int):Int):=qD;obtain⟨i014,aG,_,aU,_⟩:=info_parts info92;have aI:=cut_to (P:=prog) 75 92 .i64 underlying75 aG aQ aa.length aT (ax) (qD) bi (Kd.N_reads' ae.out).2.1;have az:=Kd.N_take (m:=((ax):Int).toNat) ae.out (by omega);have aV:aY.length=((ax):Int).toNat:=(by rw [ai.out,List.length_take];omega);rw [<- ai.out] at az;rw [<- aV] at az aI;clear aV aG aU ae;have aW:=aM az;clear az;replace bi:=eq_true bi))
  go_roundg k1
  case measure=>have:=bz.out;omega
  exact⟨_,H',⟨by have:=bz.out;omega⟩,⟨qN aW⟩,⟨qI HI0⟩,⟨qH⟩,⟨qB⟩⟩
 obtain⟨rfl,rfl⟩:=oJ2 H
 obtain⟨bn,bq,bu⟩:=Kd.N_slice ae.out
 subst bu
 go_wp2_with (first|((with_reducible refine jc 74 13 rfl rfl ?_);refine jG func74 #[.slice bn aa.length bq] ?_;refine (SaB.calls k1 _ _ aa au _ ?ag ?ah A7.out).mono ?_;(case ag=>exact kC (Kd.N_reads' ae.out).2.2);(case ah=>exact (Kd.N_reads' ae.out).2.1);rintro e bg ⟨rfl,hb⟩;refine⟨_,rfl,?_⟩;replace ae:=aM (Kd.N_below (qN ae) hb);replace HI0:=aM (Saa.below (qI HI0) hb);replace HK:=aM (KeepBut.trans qH (KeepBut.of_below hb g none) (.inl rfl));replace HB:=kH hb;clear hb))
 go_ret
 exact⟨_,qW,by (with_reducible repeat (first|apply Kd.N_alloc|apply Kd.N_drewN|apply Kd.N_drew));exact Kd.N_mono ae.out (fun _ hk=>hk.1),qI HI0,qB,qH⟩
def Sb2.j0:Nat->List (S27)->List (S118)->Int->Bool->Int->Int->Int->Int->Int->Option (List Int)
 | 0,_,_,_,_,_,_,_,_,_=>none
 | k+1,x0,x1,x2,bR,xa,xb,xc,xd,xe=>if bR=true then ((SaS.f k x0 x2).bind fun aX=>(some aX)) else (if 0<=xc then (if xc < (x1.length:Int) then (if ((rd_T118 x1 xc).f1)=0 then (some (([xe]:List Int))) else (some (([wrap64 (x2+1)]:List Int)))) else (none)) else (none))
def Sb2.f (k:Nat) (l0:List (S27)) (l1:List (S118)) (a2:Int):Option (List Int):=if 0<=a2 then (if a2 < (l0.length:Int) then (if ((rd_T27 l0 a2).f0)=5 then (if 0<=((rd_T27 l0 a2).f2) then (if ((rd_T27 l0 a2).f2) < (l1.length:Int) then (Sb2.j0 k l0 l1 a2 (((rd_T118 l1 ((rd_T27 l0 a2).f2)).f0) != 1) ((rd_T27 l0 a2).f0) ((rd_T27 l0 a2).f1) ((rd_T27 l0 a2).f2) ((rd_T27 l0 a2).f3) ((rd_T27 l0 a2).f4)) else (none)) else (none)) else (Sb2.j0 k l0 l1 a2 true ((rd_T27 l0 a2).f0) ((rd_T27 l0 a2).f1) ((rd_T27 l0 a2).f2) ((rd_T27 l0 a2).f3) ((rd_T27 l0 a2).f4))) else (none)) else (none)
theorem Sb2.calls (k:Nat) (A0:Option Addr) (c0:Nat) (l0:List (S27)) (A1:Option Addr) (c1:Nat) (l1:List (S118)) (a2:Int) (r:List Int) (w:World) (hr0:Kd.C k27 w A0 l0.length l0) (hc0:l0.length<=c0) (hr1:Kd.C k118 w A1 l1.length l1) (hc1:l1.length<=c1) (h:Sb2.f k l0 l1 a2=some r) :
  Calls prog 120 #[.slice A0 l0.length c0,.slice A1 l1.length c1,iV a2] w fun e w'=>∃ bL:Value,e = .returned (bL)/\Kd.R (Kd.int .i64) 3 w' w.heap.size (fun _=>True) bL r/\Below w.heap.size w w':=by
 have bT:=underlying27
 have bM:=aM hr0
 have bU:=aM hc0
 clear hr0 hc0
 have HR1:=aM hr1
 have dn:=aM hc1
 clear hr1 hc1
 have HB:=aM (Below.refl w.heap.size w)
 have H:=h;unfold Sb2.f at H
 clear h
 replace H:=jI H;obtain⟨bD,H⟩:=H
 replace H:=jI H;obtain⟨bE,H⟩:=H
 have bF:=aM H
 clear H
 obtain⟨bi,bG,aQ,aT,aU,aV,aW,bH,bI⟩:=jT27 bM a2
 cases bG
 go_enter func120,ntmps120
 go_upto_region 2 with (first|((with_reducible refine jd 7 rfl ?_);refine jX _ 27 ?_;intro af hg w7 hbox hb;have ag:=aM hbox;have az:=kG hg;replace HB:=kH hb;clear hb hbox hg;have bV:=jz5 ag))
 (try simp only [Act.put,List.setIfInBounds_toArray,List.set_cons_zero,List.set_cons_succ])
 go_cut [23] (fun v23 wc=>∃ (kq:Nat) (aI:Bool),v23 = .bool aI/\Aside0 (Sb2.j0 kq l0 l1 a2 aI ((rd_T27 l0 a2).f0) ((rd_T27 l0 a2).f1) ((rd_T27 l0 a2).f2) ((rd_T27 l0 a2).f3) ((rd_T27 l0 a2).f4)=some r)/\Aside0 (kq<=k)/\Aside0 (wc.heap[af]?=some (.cells #[iV ((rd_T27 l0 a2).f0),iV ((rd_T27 l0 a2).f1),iV ((rd_T27 l0 a2).f2),iV ((rd_T27 l0 a2).f3),iV ((rd_T27 l0 a2).f4)] 27 (0,0)))/\Aside0 (Below w.heap.size w wc))
 case first =>
  have H:=bF.out
  clear bF
  replace H:=jE H;rcases H with ⟨aJ,bJ,H⟩ | ⟨c9,aJ,bJ,H⟩
  ·(first|rw [aJ]|(simp only [i64_w,i32_w];rw [aJ])|skip)
   replace H:=jI H;obtain⟨bN,H⟩:=H
   replace H:=jI H;obtain⟨bO,H⟩:=H
   have H':=aM H
   clear H
   have bW:=jz5 ag
   have aY:0<=(((rd_T27 l0 a2).f2):Int):=qD
   have aZ:((rd_T27 l0 a2).f2) < (l1.length:Int):=qD
   obtain⟨aA,bK,aa,ae⟩:=at_T118 HR1.out ((rd_T27 l0 a2).f2) aY aZ
   cases bK
   have aj:aA.block≠af:=kn aa az
   have au:aA.block≠af:=kn aa az
   have av:aA.block≠af:=kn aa az
   have ax:aA.block≠af:=kn aa az
   have ay:aA.block≠af:=kn aa az
   replace aa:=kx HB aa
   replace ae:=kx HB ae
   replace aa:=(cell_far (p:=⟨af,0,none⟩) (kf (aj)) (iV ((rd_T27 l0 a2).f0))).trans aa
   replace ae:=(cell_far (p:=⟨af,0,none⟩) (kf (aj)) (iV ((rd_T27 l0 a2).f0))).trans ae
   replace aa:=(cell_far (p:=⟨af,1,none⟩) (kf (au)) (iV ((rd_T27 l0 a2).f1))).trans aa
   replace ae:=(cell_far (p:=⟨af,1,none⟩) (kf (au)) (iV ((rd_T27 l0 a2).f1))).trans ae
   replace aa:=(cell_far (p:=⟨af,2,none⟩) (kf (av)) (iV ((rd_T27 l0 a2).f2))).trans aa
   replace ae:=(cell_far (p:=⟨af,2,none⟩) (kf (av)) (iV ((rd_T27 l0 a2).f2))).trans ae
   replace aa:=(cell_far (p:=⟨af,3,none⟩) (kf (ax)) (iV ((rd_T27 l0 a2).f3))).trans aa
   replace ae:=(cell_far (p:=⟨af,3,none⟩) (kf (ax)) (iV ((rd_T27 l0 a2).f3))).trans ae
   replace aa:=(cell_far (p:=⟨af,4,none⟩) (kf (ay)) (iV ((rd_T27 l0 a2).f4))).trans aa
   replace ae:=(cell_far (p:=⟨af,4,none⟩) (kf (ay)) (iV ((rd_T27 l0 a2).f4))).trans ae
   clear aj
   clear au
   clear av
   clear ax
   clear ay
   replace aY:=eq_true aY
   replace aZ:=eq_true aZ
   go_wp2
   go_meet
   exact⟨_,((((rd_T118 l1 ((rd_T27 l0 a2).f2)).f0) != 1)),qZ,H',⟨by first|omega|exact Nat.le_refl _⟩,⟨qF ag⟩,⟨qB⟩⟩
  (first|rw [aJ]|(simp only [i64_w,i32_w];rw [aJ])|skip)
  have H':=aM H
  clear H
  have bX:=jz5 ag
  go_wp2
  go_meet
  exact⟨_,(true),qZ,H',⟨by first|omega|exact Nat.le_refl _⟩,⟨qF ag⟩,⟨qB⟩⟩
 clear bF
 try clear c1;try clear bD;try clear bE;try clear bV;try clear aQ;try clear aT;try clear aU;try clear aV;try clear aW;try clear bH;try clear bI
 obtain⟨kq,aI,rfl,HA,dw,ag,HB⟩:=hcut
 cases kq with
 | zero=>exact absurd HA.out (by simp [Sb2.j0])
 | succ bY =>
  have H:=HA.out
  clear HA
  simp only [Sb2.j0] at H
  replace H:=jB H;rcases H with ⟨rfl,H⟩ | ⟨rfl,H⟩
  ·obtain⟨aX,bZ,H⟩:=qE H
   try dsimp only at H
   obtain rfl:=oJ H
   go_wp2_with (first|((with_reducible refine jc 55 26 rfl rfl ?_);refine jG func55 #[.slice (some bi) l0.length c0,iV a2] ?_;refine (SaS.calls bY _ _ l0 a2 aX _ ?bn ?bq bZ.out).mono ?_;(case bn=>exact kC (Kd.C_below bM.out HB.out));(case bq=>exact bU.out);rintro e w16 ⟨cz,rfl,ho0,hb⟩;refine⟨_,rfl,?_⟩;have bu:=kL ho0;replace ag:=kB ag hb;replace HB:=kH hb;clear hb;(try clear ho0)))
   go_ret
   exact⟨_,qW,qR bu,qB⟩
  replace H:=jI H;obtain⟨bP,H⟩:=H
  replace H:=jI H;obtain⟨bQ,H⟩:=H
  replace H:=jE H;rcases H with ⟨bv,bz,H⟩ | ⟨c19,bv,bz,H⟩
  ·obtain⟨cB,aG⟩:=ky ((([((rd_T27 l0 a2).f4)]:List Int)):List Int)
   first|replace H:=kz aG H|rw [<- aG.out] at H
   obtain rfl:=oJ H
   have cK:=jz5 ag
   have aC:0<=(((rd_T27 l0 a2).f2):Int):=qD
   have aD:((rd_T27 l0 a2).f2) < (l1.length:Int):=qD
   obtain⟨bA,bg,ah,ai⟩:=at_T118 HR1.out ((rd_T27 l0 a2).f2) aC aD
   cases bg
   replace ah:=kx HB ah
   replace ai:=kx HB ai
   replace aC:=eq_true aC
   replace aD:=eq_true aD
   go_wp2_with (first|((with_reducible refine jd 36 rfl ?_);refine jV (Kd.int .i64) 3 ([((rd_T27 l0 a2).f4)]:List Int) [iV ((rd_T27 l0 a2).f4)] (Reps.one (show Kd.M (Kd.int .i64) _ _ _ ((rd_T27 l0 a2).f4) [iV ((rd_T27 l0 a2).f4)] from rfl) (Reps.none _ _)) ?_;intro cO dx aK hb;(first|rw [<- aG.out] at aK|(simp only [Int.reduceToNat] at aK;rw [<- aG.out] at aK));have bB:=kL aK;replace ag:=kB ag hb;replace HB:=kH hb;clear hb aK))
   go_ret
   exact⟨_,qW,qR bB,qB⟩
  obtain⟨df,aH⟩:=ky ((([wrap64 (a2+1)]:List Int)):List Int)
  first|replace H:=kz aH H|rw [<- aH.out] at H
  obtain rfl:=oJ H
  have dh:=jz5 ag
  have aC:0<=(((rd_T27 l0 a2).f2):Int):=qD
  have aD:((rd_T27 l0 a2).f2) < (l1.length:Int):=qD
  obtain⟨bA,bg,ah,ai⟩:=at_T118 HR1.out ((rd_T27 l0 a2).f2) aC aD
  cases bg
  replace ah:=kx HB ah
  replace ai:=kx HB ai
  replace aC:=eq_true aC
  replace aD:=eq_true aD
  go_wp2_with (first|((with_reducible refine jd 39 rfl ?_);refine jV (Kd.int .i64) 3 ([wrap64 (a2+1)]:List Int) [iV (wrap64 (a2+1))] (Reps.one (show Kd.M (Kd.int .i64) _ _ _ (wrap64 (a2+1)) [iV (wrap64 (a2+1))] from rfl) (Reps.none _ _)) ?_;intro di dz aN hb;(first|rw [<- aH.out] at aN|(simp only [Int.reduceToNat] at aN;rw [<- aH.out] at aN));have bC:=kL aN;replace ag:=kB ag hb;replace HB:=kH hb;clear hb aN))
  go_ret
  exact⟨_,qW,qR bC,qB⟩
def SaO.f (a0:Bool):Option (Int):=if a0=true then (some 1) else (some 0)
theorem SaO.calls (a0:Bool) (r:Int) (w:World) (h:SaO.f a0=some r) :
  Calls prog 130 #[.bool a0] w fun e w'=>e = .returned (iV r)/\Drawn0 w w':=by
 have H:(if a0=true then (some 1) else (some 0))=some r:=h
 clear h
 replace H:=jB H;rcases H with ⟨rfl,H⟩ | ⟨rfl,H⟩
 ·obtain rfl:=oJ H
  go_enter func130,ntmps130
  go_wp2
  go_ret
  exact⟨qZ,qU⟩
 obtain rfl:=oJ H
 go_enter func130,ntmps130
 go_wp2
 go_ret
 exact⟨qZ,qU⟩
def SaQ.f (a0 a1:Int) (a2:Bool):Option (Int):=if a2=true then (if 0<=(Go.bits .and .i64 a1 31) then (some (shr .i64 a0 (Go.bits .and .i64 a1 31))) else (none)) else (if 0<=(Go.bits .and .i64 a1 31) then ((Say.f (shl .i64 a0 (Go.bits .and .i64 a1 31))).bind fun ae=>(some ae)) else (none))
theorem SaQ.calls (a0 a1:Int) (a2:Bool) (r:Int) (w:World) (h:SaQ.f a0 a1 a2=some r) :
  Calls prog 131 #[iV a0,iV a1,.bool a2] w fun e w'=>e = .returned (iV r)/\Drawn0 w w':=by
 have H:=h;unfold SaQ.f at H
 clear h
 replace H:=jB H;rcases H with ⟨rfl,H⟩ | ⟨rfl,H⟩
 ·replace H:=jJ H;obtain⟨az,aA,H⟩:=H
  obtain⟨aj,af⟩:∃ j_:Int,(shr .i64 a0 (Go.bits .and .i64 a1 31))=j_:=⟨_,rfl⟩
  replace H:(some aj)=some r:=by first|(rw [af] at H;exact H)|(simp only [af] at H ⊢;exact H)
  have au:(a0 / 2 ^ min (Go.bits .and .i64 a1 31).toNat 64)=aj:=af
  have av:(Go.bits .and .i64 a1 31)<=64->(a0 / 2 ^ (Go.bits .and .i64 a1 31).toNat)=aj:=shr_small af
  obtain rfl:=oJ H
  go_enter func131,ntmps131
  go_wp2
  go_ret
  exact⟨by first|rfl|(simp;done)|(simp only [<- af] <;> (first|rfl|simp))|(simp [*];done),by repeat (first|exact Drawn0.refl _|apply Drawn0.step)⟩
 replace H:=jJ H;obtain⟨aC,aD,H⟩:=H
 obtain⟨ag,aa⟩:∃ j_:Int,(shl .i64 a0 (Go.bits .and .i64 a1 31))=j_:=⟨_,rfl⟩
 replace H:((Say.f (ag)).bind fun ae=>(some ae))=some r:=by first|(rw [aa] at H;exact H)|(simp only [aa] at H ⊢;exact H)
 have ah:(IntKind.i64.wrap (a0*2 ^ min (Go.bits .and .i64 a1 31).toNat 64))=ag:=aa
 have ai:(Go.bits .and .i64 a1 31)<=64->(IntKind.i64.wrap (a0*2 ^ (Go.bits .and .i64 a1 31).toNat))=ag:=shl_small aa
 have ax:(wrap64 (a0*2 ^ min (Go.bits .and .i64 a1 31).toNat 64))=ag:=(i64_w _).symm.trans ah
 have ay:(Go.bits .and .i64 a1 31)<=64->(wrap64 (a0*2 ^ (Go.bits .and .i64 a1 31).toNat))=ag:=fun h_=>(i64_w _).symm.trans (ai h_)
 obtain⟨ae,A9,H⟩:=qE H
 try dsimp only at H
 obtain rfl:=oJ H
 go_enter func131,ntmps131
 go_wp2_with (first|((with_reducible refine gate_callee (f:=87) rfl ?_);refine goesL_ (some 16) rfl rfl func87 (by kernel_rfl) rfl #[iV ag] rfl (by (try simp only [List.map_toArray,List.map_cons,List.map_nil]);first|done|(simp only [aa];rfl)|rfl|(simp only [List.length_drop,List.length_take];rfl)) ?_;(with_reducible refine (Say.calls ag ae _ A9.out).mono ?_);rintro e w' ⟨rfl,⟨nd,rfl⟩⟩;refine⟨_,rfl,?_⟩))
 go_ret
 exact⟨by first|rfl|(simp;done)|(simp only [<- aa] <;> (first|rfl|simp))|(simp [*];done),by repeat (first|exact Drawn0.refl _|apply Drawn0.step)⟩
def SaN.f (a0 a1:Int):Option (Int):=if a1=0 then (some (-1)) else ((Say.f (wrap64 (Int.tdiv a0 a1))).bind fun aa=>(some aa))
theorem SaN.calls (a0 a1 r:Int) (w:World) (h:SaN.f a0 a1=some r) :
  Calls prog 132 #[iV a0,iV a1] w fun e w'=>e = .returned (iV r)/\Drawn0 w w':=by
 have H:=h;unfold SaN.f at H
 clear h
 replace H:=jE H;rcases H with ⟨ae,af,H⟩ | ⟨c3,ae,af,H⟩
 ·obtain rfl:=oJ H
  go_enter func132,ntmps132
  go_wp2
  go_ret
  exact⟨qZ,qU⟩
 obtain⟨aa,A4,H⟩:=qE H
 try dsimp only at H
 obtain rfl:=oJ H
 go_enter func132,ntmps132
 go_wp2_with (first|((with_reducible refine jc 87 10 rfl rfl ?_);refine jG func87 #[iV (wrap64 (Int.tdiv a0 a1))] ?_;refine (Say.calls _ _ _ (Aside0.out (by assumption))).mono ?_;rintro e w' ⟨rfl,⟨nd,rfl⟩⟩;refine⟨_,rfl,?_⟩))
 go_ret
 exact⟨qZ,qU⟩
def SaP.f (a0 a1:Int):Option (Int):=if a1=0 then (some a0) else (some (Int.tmod a0 a1))
theorem SaP.calls (a0 a1 r:Int) (w:World) (h:SaP.f a0 a1=some r) :
  Calls prog 133 #[iV a0,iV a1] w fun e w'=>e = .returned (iV r)/\Drawn0 w w':=by
 have H:(if a1=0 then (some a0) else (some (Int.tmod a0 a1)))=some r:=h
 clear h
 replace H:=jE H;rcases H with ⟨aa,ae,H⟩ | ⟨c3,aa,ae,H⟩
 ·obtain rfl:=oJ H
  go_enter func133,ntmps133
  go_wp2
  go_ret
  exact⟨qZ,qU⟩
 obtain rfl:=oJ H
 go_enter func133,ntmps133
 go_wp2
 go_ret
 exact⟨qZ,qU⟩
def Sad.j0:Nat->Int->Int->Int->Bool->Option (Int × Bool)
 | 0,_,_,_,_=>none
 | k+1,x0,x1,x2,x20=>if x20=true then (some (0,false)) else (if x0=1 then (some (Go.bits .or .i64 x1 x2,true)) else (if x0=2 then (some (Go.bits .xor .i64 x1 x2,true)) else (if x0=3 then (some (Go.bits .and .i64 x1 x2,true)) else (if x0=4 then ((SaO.f (x1 == x2)).bind fun ae=>(some (ae,true))) else (if x0=5 then ((SaO.f (decide (x1 < x2))).bind fun af=>(some (af,true))) else (if x0=6 then ((SaQ.f x1 x2 false).bind fun ag=>(some (ag,true))) else (if x0=7 then ((SaQ.f x1 x2 true).bind fun ah=>(some (ah,true))) else (if x0=8 then ((Say.f (wrap64 (x1+x2))).bind fun ai=>(some (ai,true))) else (if x0=9 then ((Say.f (wrap64 (x1 - x2))).bind fun aj=>(some (aj,true))) else (if x0=10 then ((Say.f (wrap64 (x1*x2))).bind fun au=>(some (au,true))) else (if x0=11 then ((SaN.f x1 x2).bind fun av=>(some (av,true))) else ((SaP.f x1 x2).bind fun ax=>(some (ax,true))))))))))))))
def Sad.f (k:Nat) (a0 a1 a2:Int):Option (Int × Bool):=(Saq.f a0).bind fun ay=>(if ay=true then ((Sax.f a1).bind fun az=>(if az=true then ((Sax.f a2).bind fun aA=>(Sad.j0 k a0 a1 a2 (!aA))) else (Sad.j0 k a0 a1 a2 true))) else (Sad.j0 k a0 a1 a2 true))
theorem Sad_0 {G:Prop} (h:G:=by
  go_wp2_with (first|((with_reducible refine jc 130 42 rfl rfl ?_);refine jG func130 #[.bool (a1 == a2)] ?_;refine (SaO.calls _ _ _ (Aside0.out (by assumption))).mono ?_;rintro e w' ⟨rfl,⟨nd,rfl⟩⟩;refine⟨_,rfl,?_⟩)|((with_reducible refine jc 130 48 rfl rfl ?_);refine jG func130 #[.bool (decide (a1 < a2))] ?_;refine (SaO.calls _ _ _ (Aside0.out (by assumption))).mono ?_;rintro e w' ⟨rfl,⟨nd,rfl⟩⟩;refine⟨_,rfl,?_⟩)|((with_reducible refine jc 131 53 rfl rfl ?_);refine jG func131 #[iV a1,iV a2,.bool false] ?_;refine (SaQ.calls _ _ _ _ _ (Aside0.out (by assumption))).mono ?_;rintro e w' ⟨rfl,⟨nd,rfl⟩⟩;refine⟨_,rfl,?_⟩)|((with_reducible refine jc 131 58 rfl rfl ?_);refine jG func131 #[iV a1,iV a2,.bool true] ?_;refine (SaQ.calls _ _ _ _ _ (Aside0.out (by assumption))).mono ?_;rintro e w' ⟨rfl,⟨nd,rfl⟩⟩;refine⟨_,rfl,?_⟩)|((with_reducible refine jc 87 64 rfl rfl ?_);refine jG func87 #[iV (wrap64 (a1+a2))] ?_;refine (Say.calls _ _ _ (Aside0.out (by assumption))).mono ?_;rintro e w' ⟨rfl,⟨nd,rfl⟩⟩;refine⟨_,rfl,?_⟩)|((with_reducible refine jc 87 70 rfl rfl ?_);refine jG func87 #[iV (wrap64 (a1 - a2))] ?_;refine (Say.calls _ _ _ (Aside0.out (by assumption))).mono ?_;rintro e w' ⟨rfl,⟨nd,rfl⟩⟩;refine⟨_,rfl,?_⟩)|((with_reducible refine jc 87 76 rfl rfl ?_);refine jG func87 #[iV (wrap64 (a1*a2))] ?_;refine (Say.calls _ _ _ (Aside0.out (by assumption))).mono ?_;rintro e w' ⟨rfl,⟨nd,rfl⟩⟩;refine⟨_,rfl,?_⟩)|((with_reducible refine jc 132 81 rfl rfl ?_);refine jG func132 #[iV a1,iV a2] ?_;refine (SaN.calls _ _ _ _ (Aside0.out (by assumption))).mono ?_;rintro e w' ⟨rfl,⟨nd,rfl⟩⟩;refine⟨_,rfl,?_⟩)|((with_reducible refine jc 133 84 rfl rfl ?_);refine jG func133 #[iV a1,iV a2] ?_;refine (SaP.calls _ _ _ _ (Aside0.out (by assumption))).mono ?_;rintro e w' ⟨rfl,⟨nd,rfl⟩⟩;refine⟨_,rfl,?_⟩))
  go_ret2
  exact⟨qZ,qU⟩):G:=h
theorem Sad_1 {G:Prop} (h:G:=by
  go_wp2_with (first|((with_reducible refine jc 67 9 rfl rfl ?_);refine jG func67 #[iV a0] ?_;refine (Saq.calls _ _ _ (Aside0.out (by assumption))).mono ?_;rintro e w' ⟨rfl,⟨nd,rfl⟩⟩;refine⟨_,rfl,?_⟩)|(go_at_call 66;(with_reducible refine (Sax.calls _ _ _ (Aside0.out (by assumption))).mono ?_);rintro e w' ⟨rfl,⟨nd,rfl⟩⟩))
  go_meet
  exact⟨_,_,qZ,H',⟨by first|omega|exact Nat.le_refl _⟩,by repeat (first|exact Drawn0.refl _|apply Drawn0.step)⟩):G:=h
theorem Sad.calls (k:Nat) (a0 a1 a2 r1:Int) (r2:Bool) (w:World) (h:Sad.f k a0 a1 a2=some (r1,r2)) :
  Calls prog 128 #[iV a0,iV a1,iV a2] w fun e w'=>e = .returned (.tuple #[iV r1,.bool r2])/\Drawn0 w w':=by
 have H:=h;unfold Sad.f at H
 clear h
 have bz:=aM H
 clear H
 go_enter func128,ntmps128
 go_upto_region 1 with (fail)
 go_cut [20] (fun v20 wc=>∃ (kq:Nat) (aa:Bool),v20 = .bool aa/\Aside0 (Sad.j0 kq a0 a1 a2 aa=some (r1,r2))/\Aside0 (kq<=k)/\Drawn0 w wc)
 case first =>
  have H:=bz.out
  clear bz
  obtain⟨ay,A5,H⟩:=qE H
  try dsimp only at H
  replace H:=jB H;rcases H with ⟨rfl,H⟩ | ⟨rfl,H⟩
  ·obtain⟨az,A7,H⟩:=qE H
   try dsimp only at H
   replace H:=jB H;rcases H with ⟨rfl,H⟩ | ⟨rfl,H⟩
   ·obtain⟨aA,A9,H⟩:=qE H
    try dsimp only at H
    have H':=aM H
    clear H
    exact Sad_1
   have H':=aM H
   clear H
   exact Sad_1
  have H':=aM H
  clear H
  exact Sad_1
 clear bz
 obtain⟨kq,aa,rfl,HA,bB,⟨bC,rfl⟩⟩:=hcut
 cases kq with
 | zero=>exact absurd HA.out (by simp [Sad.j0])
 | succ bD =>
  have H:=HA.out
  clear HA
  simp only [Sad.j0] at H
  replace H:=jB H;rcases H with ⟨rfl,H⟩ | ⟨rfl,H⟩
  ·obtain⟨rfl,rfl⟩:=oJ2 H
   go_wp2
   go_ret2
   exact⟨qZ,qU⟩
  replace H:=jE H;rcases H with ⟨aC,aD,H⟩ | ⟨c11,aC,aD,H⟩
  ·obtain⟨rfl,rfl⟩:=oJ2 H
   go_wp2
   go_ret2
   exact⟨qZ,qU⟩
  replace H:=jE H;rcases H with ⟨aG,aH,H⟩ | ⟨c12,aG,aH,H⟩
  ·obtain⟨rfl,rfl⟩:=oJ2 H
   go_wp2
   go_ret2
   exact⟨qZ,qU⟩
  replace H:=jE H;rcases H with ⟨aI,aJ,H⟩ | ⟨c13,aI,aJ,H⟩
  ·obtain⟨rfl,rfl⟩:=oJ2 H
   go_wp2
   go_ret2
   exact⟨qZ,qU⟩
  replace H:=jE H;rcases H with ⟨aK,aN,H⟩ | ⟨c14,aK,aN,H⟩
  ·obtain⟨ae,bE,H⟩:=qE H
   try dsimp only at H
   obtain⟨rfl,rfl⟩:=oJ2 H
   exact Sad_0
  replace H:=jE H;rcases H with ⟨aQ,aT,H⟩ | ⟨c16,aQ,aT,H⟩
  ·obtain⟨af,bF,H⟩:=qE H
   try dsimp only at H
   obtain⟨rfl,rfl⟩:=oJ2 H
   exact Sad_0
  replace H:=jE H;rcases H with ⟨aU,aV,H⟩ | ⟨c18,aU,aV,H⟩
  ·obtain⟨ag,bG,H⟩:=qE H
   try dsimp only at H
   obtain⟨rfl,rfl⟩:=oJ2 H
   exact Sad_0
  replace H:=jE H;rcases H with ⟨aW,aX,H⟩ | ⟨c20,aW,aX,H⟩
  ·obtain⟨ah,bH,H⟩:=qE H
   try dsimp only at H
   obtain⟨rfl,rfl⟩:=oJ2 H
   exact Sad_0
  replace H:=jE H;rcases H with ⟨aY,aZ,H⟩ | ⟨bI,aY,aZ,H⟩
  ·obtain⟨ai,bJ,H⟩:=qE H
   try dsimp only at H
   obtain⟨rfl,rfl⟩:=oJ2 H
   exact Sad_0
  replace H:=jE H;rcases H with ⟨bg,bi,H⟩ | ⟨c24,bg,bi,H⟩
  ·obtain⟨aj,bK,H⟩:=qE H
   try dsimp only at H
   obtain⟨rfl,rfl⟩:=oJ2 H
   exact Sad_0
  replace H:=jE H;rcases H with ⟨bn,bq,H⟩ | ⟨bL,bn,bq,H⟩
  ·obtain⟨au,bM,H⟩:=qE H
   try dsimp only at H
   obtain⟨rfl,rfl⟩:=oJ2 H
   exact Sad_0
  replace H:=jE H;rcases H with ⟨bu,bv,H⟩ | ⟨c28,bu,bv,H⟩
  ·obtain⟨av,bN,H⟩:=qE H
   try dsimp only at H
   obtain⟨rfl,rfl⟩:=oJ2 H
   exact Sad_0
  obtain⟨ax,bO,H⟩:=qE H
  try dsimp only at H
  obtain⟨rfl,rfl⟩:=oJ2 H
  exact Sad_0
def Sb6.f (k:Nat) (aX aY aZ bg aJ aQ aK aT aN:Int):Option (Int × Int):=if aQ=1 then (if aT=1 then ((Sad.f k aJ aK aN).bind fun bv=>(some (1,bv.1))) else (some (2,0))) else (some (2,0))
theorem Sb6.calls (k:Nat) (aX aY aZ bg aJ aQ aK aT aN r1 r2:Int) (w:World) (h:Sb6.f k aX aY aZ bg aJ aQ aK aT aN=some (r1,r2)) :
  Calls prog 123 #[.agg #[iV aX,iV aY,iV aZ,iV bg,iV aJ],.agg #[iV aQ,iV aK],.agg #[iV aT,iV aN]] w fun e w'=>e = .returned (.agg #[iV r1,iV r2])/\Below w.heap.size w w':=by
 have cK:=underlying27
 have bW:=underlying118
 have HB:=aM (Below.refl w.heap.size w)
 have H:=h;unfold Sb6.f at H
 clear h
 replace H:=jE H;rcases H with ⟨bO,bP,H⟩ | ⟨c4,bO,bP,H⟩
 ·replace H:=jE H;rcases H with ⟨bQ,bR,H⟩ | ⟨c5,bQ,bR,H⟩
  ·obtain⟨⟨bS,cO⟩,A6,H⟩:=qE H
   try dsimp only at H
   obtain⟨rfl,rfl⟩:=oJ2 H
   go_enter func123,ntmps123
   go_wp2_with (first|((with_reducible refine jd 3 rfl ?_);refine jX _ 27 ?_;intro aU hg bz hbox hb;have aa:=aM hbox;have bi:=kG hg;replace HB:=kH hb;clear hb hbox hg)|((with_reducible refine jd 4 rfl ?_);refine jX _ 118 ?_;intro aV hg bA hbox hb;have ae:=aM hbox;have bn:=kG hg;have ag:=kN hg aa;have ah:=kM hg aa;replace aa:=kB aa hb;replace HB:=kH hb;clear hb hbox hg)|((with_reducible refine jd 5 rfl ?_);refine jX _ 118 ?_;intro aW hg bB hbox hb;have af:=aM hbox;have bq:=kG hg;have aD:=kN hg aa;have aG:=kM hg aa;have ai:=kN hg ae;have aj:=kM hg ae;replace aa:=kB aa hb;replace ae:=kB ae hb;replace HB:=kH hb;clear hb hbox hg)|((with_reducible refine jd 6 rfl ?_);refine jX _ 118 ?_;intro aI hg aH hbox hb;have aC:=aM hbox;have bu:=kG hg;have au:=kN hg aa;have av:=kM hg aa;have ax:=kN hg ae;have ay:=kM hg ae;have az:=kN hg af;have aA:=kM hg af;replace aa:=kB aa hb;replace ae:=kB ae hb;replace af:=kB af hb;replace HB:=kH hb;clear hb hbox hg;have bC:=ah.out;have bD:=ag.out;have bE:=ai.out;have bF:=aj.out;have bG:=ax.out;have bH:=ay.out;have bI:=jz2 ae;have bJ:=aG.out;have bK:=aD.out;have bL:=az.out;have bM:=aA.out;have bN:=jz2 af;have bT:=au.out;have bU:=av.out;have bV:=jz5 aa)|((with_reducible refine jc 128 25 rfl rfl ?_);refine jG func128 #[iV aJ,iV aK,iV aN] ?_;refine (Sad.calls _ _ _ _ _ _ _ (Aside0.out (by assumption))).mono ?_;rintro e w' ⟨rfl,⟨nd,rfl⟩⟩;refine⟨_,rfl,?_⟩;(try (rw [drewN_self aH];generalize hq_:World.drewN aH _=aH;have bX:Aside0 (aH.heap[aU]?=some (.cells #[iV aX,iV aY,iV aZ,iV bg,iV aJ] 27 (0,0))):=⟨by rw [<- hq_];exact (qK aa)⟩;have bY:Aside0 (aH.heap[aV]?=some (.cells #[iV aQ,iV aK] 118 (0,0))):=⟨by rw [<- hq_];exact (qK ae)⟩;have bZ:Aside0 (aH.heap[aW]?=some (.cells #[iV aT,iV aN] 118 (0,0))):=⟨by rw [<- hq_];exact (qK af)⟩;have cz:Aside0 (aH.heap[aI]?=some (.cells #[iV 0,iV 0] 118 (0,0))):=⟨by rw [<- hq_];exact (qK aC)⟩;have cB:Aside0 (Below w.heap.size w aH):=⟨by rw [<- hq_];exact qB⟩;clear aa ae af aC HB hq_;have aa:=bX;have ae:=bY;have af:=bZ;have aC:=cz;have HB:=cB;clear bX bY bZ cz cB));have df:=jz2 aC))
   refine bodyPost_ret (results_cell_row rfl _ _ aI 118 #[iV 1,iV bS] (0,0) _ rfl (qF aC) underlying118 rfl (by kernel_rfl)) rfl ?_
   exact⟨qW,qB⟩
  obtain⟨rfl,rfl⟩:=oJ2 H
  go_enter func123,ntmps123
  go_wp2_with (first|((with_reducible refine jd 3 rfl ?_);refine jX _ 27 ?_;intro aU hg bz hbox hb;have aa:=aM hbox;have bi:=kG hg;replace HB:=kH hb;clear hb hbox hg)|((with_reducible refine jd 4 rfl ?_);refine jX _ 118 ?_;intro aV hg bA hbox hb;have ae:=aM hbox;have bn:=kG hg;have ag:=kN hg aa;have ah:=kM hg aa;replace aa:=kB aa hb;replace HB:=kH hb;clear hb hbox hg)|((with_reducible refine jd 5 rfl ?_);refine jX _ 118 ?_;intro aW hg bB hbox hb;have af:=aM hbox;have bq:=kG hg;have aD:=kN hg aa;have aG:=kM hg aa;have ai:=kN hg ae;have aj:=kM hg ae;replace aa:=kB aa hb;replace ae:=kB ae hb;replace HB:=kH hb;clear hb hbox hg)|((with_reducible refine jd 6 rfl ?_);refine jX _ 118 ?_;intro aI hg aH hbox hb;have aC:=aM hbox;have bu:=kG hg;have au:=kN hg aa;have av:=kM hg aa;have ax:=kN hg ae;have ay:=kM hg ae;have az:=kN hg af;have aA:=kM hg af;replace aa:=kB aa hb;replace ae:=kB ae hb;replace af:=kB af hb;replace HB:=kH hb;clear hb hbox hg;have bC:=ah.out;have bD:=ag.out;have bE:=ai.out;have bF:=aj.out;have bG:=ax.out;have bH:=ay.out;have bI:=jz2 ae;have bJ:=aG.out;have bK:=aD.out;have bL:=az.out;have bM:=aA.out;have bN:=jz2 af;have bT:=av.out;have bU:=au.out;have bV:=jz2 aC))
  refine bodyPost_ret (results_cell_row rfl _ _ aI 118 #[iV 2,iV 0] (0,0) _ rfl (qF aC) underlying118 rfl (by kernel_rfl)) rfl ?_
  exact⟨qW,qB⟩
 obtain⟨rfl,rfl⟩:=oJ2 H
 go_enter func123,ntmps123
 go_wp2_with (first|((with_reducible refine jd 3 rfl ?_);refine jX _ 27 ?_;intro aU hg bz hbox hb;have aa:=aM hbox;have bi:=kG hg;replace HB:=kH hb;clear hb hbox hg)|((with_reducible refine jd 4 rfl ?_);refine jX _ 118 ?_;intro aV hg bA hbox hb;have ae:=aM hbox;have bn:=kG hg;have ag:=kN hg aa;have ah:=kM hg aa;replace aa:=kB aa hb;replace HB:=kH hb;clear hb hbox hg)|((with_reducible refine jd 5 rfl ?_);refine jX _ 118 ?_;intro aW hg bB hbox hb;have af:=aM hbox;have bq:=kG hg;have aD:=kN hg aa;have aG:=kM hg aa;have ai:=kN hg ae;have aj:=kM hg ae;replace aa:=kB aa hb;replace ae:=kB ae hb;replace HB:=kH hb;clear hb hbox hg)|((with_reducible refine jd 6 rfl ?_);refine jX _ 118 ?_;intro aI hg aH hbox hb;have aC:=aM hbox;have bu:=kG hg;have au:=kN hg aa;have av:=kM hg aa;have ax:=kN hg ae;have ay:=kM hg ae;have az:=kN hg af;have aA:=kM hg af;replace aa:=kB aa hb;replace ae:=kB ae hb;replace af:=kB af hb;replace HB:=kH hb;clear hb hbox hg;have bC:=ah.out;have bD:=ag.out;have bE:=ai.out;have bF:=aj.out;have bG:=ax.out;have bH:=ay.out;have bI:=jz2 ae;have bJ:=av.out;have bK:=au.out;have bL:=aA.out;have bM:=az.out;have bN:=jz2 aC))
 refine bodyPost_ret (results_cell_row rfl _ _ aI 118 #[iV 2,iV 0] (0,0) _ rfl (qF aC) underlying118 rfl (by kernel_rfl)) rfl ?_
 exact⟨qW,qB⟩
def SaY.f (k:Nat) (ax ae ag aj av:Int) (l1:List (S118)):Option ((List (S118))):=(some (([]:List (S118)):List (S118))).bind fun aN=>(if aN.length+l1.length < 8796093022208 then ((some (aN ++ l1:List (S118))).bind fun ah=>(if ax=1 then (if 0<=ae then (if ae < (ah.length:Int) then (some (ah.set (ae:Int).toNat (⟨1,av⟩:S118))) else (none)) else (none)) else (if ax=2 then (if 0<=ag then (if ag < (l1.length:Int) then (if 0<=ae then (if ae < (ah.length:Int) then (some (ah.set (ae:Int).toNat (⟨(rd_T118 l1 ag).f0,(rd_T118 l1 ag).f1⟩:S118))) else (none)) else (none)) else (none)) else (none)) else (if ax=7 then (if 0<=ae then (if ae < (ah.length:Int) then (some (ah.set (ae:Int).toNat (⟨2,0⟩:S118))) else (none)) else (none)) else (if ax=3 then (if 0<=ag then (if ag < (l1.length:Int) then (if 0<=aj then (if aj < (l1.length:Int) then ((Sb6.f k ax ae ag aj av ((rd_T118 l1 ag).f0) ((rd_T118 l1 ag).f1) ((rd_T118 l1 aj).f0) ((rd_T118 l1 aj).f1)).bind fun bV=>(if 0<=ae then (if ae < (ah.length:Int) then (some (ah.set (ae:Int).toNat (⟨bV.1,bV.2⟩:S118))) else (none)) else (none))) else (none)) else (none)) else (none)) else (none)) else (some ah)))))) else (none))
def SaY.T6:Bool × List (List Nat × List Nat):=(true,[([],[]),([],[]),([1],[1]),([],[]),([],[]),([4],[4]),([3,5],[3,5]),([6],[6]),([0,2,0,1,2,3,4,5,6,7],[0,2]),([8,7,0,1,2,3,4,5,6,7],[7,8])])
def SaY.B6:List Nat:=[0,0,2,0,0,16,56,120,255,511]
theorem SaY.tab6:rtab .any (opsOf f121 6)=SaY.T6:=by kernel_rfl
theorem SaY.bits6:waitsOk SaY.T6.2 SaY.B6=true:=by kernel_rfl
def SaY.T10:Bool × List (List Nat × List Nat):=(true,[([],[]),([],[]),([1],[1]),([],[]),([],[]),([],[]),([5],[5]),([4,6],[4,6]),([7],[7]),([],[]),([],[]),([10],[10]),([9,11],[9,11]),([12],[12]),([3,8,13],[3,8,13]),([0,2,0,1,2,3,4,5,6,7,8,9,10,11,12,13,14],[0,2]),([15,14,14,0,1,2,3,4,5,6,7,8,9,10,11,12,13,14],[14,15])])
def SaY.B10:List Nat:=[0,0,2,0,0,0,32,112,240,0,0,1024,3584,7680,16376,32767,65535]
theorem SaY.tab10:rtab .any (opsOf f121 10)=SaY.T10:=by kernel_rfl
theorem SaY.bits10:waitsOk SaY.T10.2 SaY.B10=true:=by kernel_rfl
theorem SaY.calls (k:Nat) (ax ae ag aj av:Int) (A1:Option Addr) (c1:Nat) (l1 r:List (S118)) (w:World) (hr1:Kd.C k118 w A1 l1.length l1) (hc1:l1.length<=c1) (h:SaY.f k ax ae ag aj av l1=some r) :
  Calls prog 121 #[.agg #[iV ax,iV ae,iV ag,iV aj,iV av],.slice A1 l1.length c1] w fun e w'=>∃ gP:Value,e = .returned (gP)/\Kd.R k118 118 w' w.heap.size (fun _=>True) gP r/\Below w.heap.size w w':=by
 have iH:=underlying27
 have gQ:=underlying118
 have HR1:=aM hr1
 have jw:=aM hc1
 clear hr1 hc1
 have HB:=aM (Below.refl w.heap.size w)
 have H:=h;unfold SaY.f at H
 clear h
 obtain⟨aN,ay⟩:=ky ((([]:List (S118))):List (S118))
 first|replace H:=kz ay H|rw [<- ay.out] at H
 replace H:=jL H;obtain⟨bi,H⟩:=H
 obtain⟨ah,aI⟩:=ky ((aN ++ l1):List (S118))
 first|replace H:=kz aI H|rw [<- aI.out] at H
 replace H:=jE H;rcases H with ⟨fG,fH,H⟩ | ⟨c4,fG,fH,H⟩
 ·replace H:=jI H;obtain⟨iI,H⟩:=H
  replace H:=jI H;obtain⟨iJ,H⟩:=H
  obtain⟨fI,bn⟩:=ky ((ah.set (ae:Int).toNat (⟨1,av⟩:S118)):List (S118))
  first|replace H:=kz bn H|rw [<- bn.out] at H
  obtain rfl:=oJ H
  go_enter func121,ntmps121
  go_wp2_with (first|((with_reducible refine jd 2 rfl ?_);refine jX _ 27 ?_;intro ai hg w8 hbox hb;have aa:=aM hbox;have aU:=kG hg;have aK:=kG hg;replace HB:=kH hb;clear hb hbox hg)|((with_reducible refine jd 6 rfl ?_);refine jV k118 118 ([]:List (S118)) [] (Reps.none _ _) ?_;intro aQ w9 bq hb;(first|rw [<- ay.out] at bq|(simp only [Int.reduceToNat] at bq;rw [<- ay.out] at bq));have au:=kL bq;replace aa:=kB aa hb;replace HB:=kH hb;clear hb bq)|((with_reducible refine gate_builtin (b:=.append) (xs:=#[.tmp 6,.tmp 7]) rfl ?_);at_builtin;refine Kd.R_append_rows k118 (w0:=w) w.heap.size rfl (.tmp 6) (.tmp 7) 104 118 (.agg #[(iV 0),(iV 0)]) 16 rfl underlying104 info118 rfl (by decide) (by omega) aQ aN l1 _ _ _ (fun _=>True) (fun _=>False) rfl rfl ?aO ?aR (fun _ _ h=>h) (fun _ h=>h.elim) ?aF ?aB ?aS ?aL ?_;(case aR=>exact kC (Kd.C_below HR1.out HB.out));(case aB=>exact qB);(case aF=>exact (fun _ _=>trivial));(case aO=>exact (qR au));(case aS=>exact (below_size qB));(case aL=>have:=bi.out;omega);intro bP cK ho hb hg hat;rw [<- aI.out] at ho;have af:=aM ho;replace aa:=aM (blk_grown (g:=ai) (o:=.cells #[iV ax,iV ae,iV ag,iV aj,iV av] 27 (0,0)) (qK aa) hg (Kd.R_ne au.out aa.out (by decide)));replace HB:=aM hb;clear au;clear ho hb hg hat;have iK:=jz5 aa;have p7:0<=(ae:Int):=qD;have q7:(ae:Int) < ((ah.length:Int):Int):=qD;obtain⟨bQ,gT,gU,gV,iL,jy,gW⟩:=Kd.R_form af.out (by omega);(first|cases gU|(injection gU with ea_ en_ ec_;(first|subst ea_|(injection ea_ with ea_;subst ea_));subst ec_;clear en_));have gX:=aM gV;have jA:=aM gW;clear gV iL gW;obtain⟨jH,fJ,gY,cO,df⟩:=Kd.R_elem af.out z118 (ae:Int) p7 q7;obtain rfl:=k118_openM gY;have gZ:cK.cell? ⟨bQ,(ae:Int).toNat*2,none⟩=some (iV ((rd_T118 ah ae).f0)):=cO 0 _ rfl;have ib:cK.cell? ⟨bQ,(ae:Int).toNat*2+1,none⟩=some (iV ((rd_T118 ah ae).f1)):=cO 1 _ rfl;have ic:cK.frozen? ⟨bQ,(ae:Int).toNat*2,none⟩=false:=df 0;have ig:cK.frozen? ⟨bQ,(ae:Int).toNat*2+1,none⟩=false:=df 1;clear fJ cO df gY;replace p7:=eq_true p7;replace q7:=eq_true q7;have dR:=aM (show Kd.R k118 118 cK w.heap.size (fun _=>True) (.slice (some ⟨bQ,0,none⟩) ah.length gT) ah from (qR af));obtain⟨iM,bW,dS,aV,bu⟩:=Kd.R_elem dR.out z118 (ae:Int) (qD) (by have h_:(ae:Int) < ((ah.length:Int):Int):=qD;first|exact h_|(have e_:=(Kd.R_reads' af.out).1;omega)|simpa using h_);obtain rfl:=k118_openM dS;have dh:=Kd.R_seg dR.out (ae:Int) (qD) (by have h_:(ae:Int) < ((ah.length:Int):Int):=qD;first|exact h_|(have e_:=(Kd.R_reads' af.out).1;omega)|simpa using h_) (seg:=[iV 1,iV av]) (j:=0) bW aV (show 2<=2 from by decide) (x':=(⟨1,av⟩:S118)) (k118_mkM _ _ _ (⟨1,av⟩:S118) ) (fun _ hk=>hk);have di:=aV 0 _ rfl;(try simp only [show (k118).sz=2 from rfl,Nat.mul_one,Nat.add_zero] at di);have dn:=bu 0;(try simp only [show (k118).sz=2 from rfl,Nat.mul_one,Nat.add_zero] at dn);have dw:=aV 1 _ rfl;(try simp only [show (k118).sz=2 from rfl,Nat.mul_one,Nat.add_zero] at dw);have dx:=bu 1;(try simp only [show (k118).sz=2 from rfl,Nat.mul_one,Nat.add_zero] at dx);clear bW aV bu dS)|((with_reducible refine gate_store (t:=118) (p:=19) rfl ?_);refine store_event (t:=118) (p:=19) (v:=?fK) (w1:=((cK.setCell ⟨bQ,(ae:Int).toNat*2,none⟩ (iV 1)).setCell ⟨bQ,(ae:Int).toNat*2+1,none⟩ (iV av))) ?hg ?ho ?hn ?hr ?_;(case ho=>rfl);(case hg=>rfl);(case hn=>rfl);(case hr=>first|(go_simp;done)|(go_simp;rfl));intro fM hw;have hg:cK.grownBy fM (some bQ):=(by rw [hw];exact dh.2);have hp_:Kd.R k118 118 fM w.heap.size (fun _=>True) (.slice (some ⟨bQ,0,none⟩) ah.length gT) fI:=(by rw [hw,bn.out];exact dh.1);clear dh;replace aa:=aM (blk_grown (g:=ai) (o:=.cells #[iV ax,iV ae,iV ag,iV aj,iV av] 27 (0,0)) (qK aa) hg (Kd.R_ne af.out aa.out (by decide)));replace af:=aM hp_;replace HB:=aM ((by rw [hw];exact below_set (below_set (HB.out) gX.out) gX.out:Below w.heap.size w fM));clear hg hw hp_))
  go_ret
  exact⟨_,qW,qR af,qB⟩
 replace H:=jE H;rcases H with ⟨dU,dV,H⟩ | ⟨c15,dU,dV,H⟩
 ·replace H:=jI H;obtain⟨ik,H⟩:=H
  replace H:=jI H;obtain⟨il,H⟩:=H
  replace H:=jI H;obtain⟨iq,H⟩:=H
  replace H:=jI H;obtain⟨iw,H⟩:=H
  obtain⟨iN,bv⟩:=ky ((ah.set (ae:Int).toNat (⟨(rd_T118 l1 ag).f0,(rd_T118 l1 ag).f1⟩:S118)):List (S118))
  first|replace H:=kz bv H|rw [<- bv.out] at H
  obtain rfl:=oJ H
  go_enter func121,ntmps121
  try go_wp2_with (first|((with_reducible refine jd 2 rfl ?_);refine jX _ 27 ?_;intro ai hg jK hbox hb;have aa:=aM hbox;have aU:=kG hg;have aK:=kG hg;replace HB:=kH hb;clear hb hbox hg)|((with_reducible refine jd 6 rfl ?_);refine jV k118 118 ([]:List (S118)) [] (Reps.none _ _) ?_;intro aQ jM bz hb;(first|rw [<- ay.out] at bz|(simp only [Int.reduceToNat] at bz;rw [<- ay.out] at bz));have au:=kL bz;replace aa:=kB aa hb;replace HB:=kH hb;clear hb bz)|((with_reducible refine gate_builtin (b:=.append) (xs:=#[.tmp 6,.tmp 7]) rfl ?_);at_builtin;refine Kd.R_append_rows k118 (w0:=w) w.heap.size rfl (.tmp 6) (.tmp 7) 104 118 (.agg #[(iV 0),(iV 0)]) 16 rfl underlying104 info118 rfl (by decide) (by omega) aQ aN l1 _ _ _ (fun _=>True) (fun _=>False) rfl rfl ?aO ?aR (fun _ _ h=>h) (fun _ h=>h.elim) ?aF ?aB ?aS ?aL ?_;(case aR=>exact kC (Kd.C_below HR1.out HB.out));(case aB=>exact qB);(case aF=>exact (fun _ _=>trivial));(case aO=>exact (qR au));(case aS=>exact (below_size qB));(case aL=>have:=bi.out;omega);intro bP iO ho hb hg hat;rw [<- aI.out] at ho;have af:=aM ho;replace aa:=aM (blk_grown (g:=ai) (o:=.cells #[iV ax,iV ae,iV ag,iV aj,iV av] 27 (0,0)) (qK aa) hg (Kd.R_ne au.out aa.out (by decide)));replace HB:=aM hb;clear au;clear ho hb hg hat;have iP:=jz5 aa))
  replace af:=aM (Kd.R_drew af.out)
  replace aa:=aM (blk_drew aa.out)
  replace HB:=aM (below_drew1 HB.out)
  have dz:0<=(ag:Int):=qD
  have dA:ag < (l1.length:Int):=qD
  obtain⟨bA,fO,az,aA⟩:=at_T118 HR1.out ag dz dA
  have bR:=aA
  have bS:=az
  cases fO
  replace az:=kx HB az
  replace aA:=kx HB aA
  replace dz:=eq_true dz
  replace dA:=eq_true dA
  have fP:0<=(ae:Int):=qD
  have fQ:(ae:Int) < ((ah.length:Int):Int):=qD
  obtain⟨bT,iQ,dW,dX,fT,iR,dY⟩:=Kd.R_form af.out (by omega)
  (first|cases dW|(injection dW with ea_ en_ ec_;(first|subst ea_|(injection ea_ with ea_;subst ea_));subst ec_;clear en_))
  have dZ:=aM dX
  have fU:=aM dY
  clear dX fT dY
  obtain⟨iT,d9,ek,bB,bC⟩:=Kd.R_elem af.out z118 (ae:Int) fP fQ
  obtain rfl:=k118_openM ek
  have dB:World.cell? _ ⟨bT,(ae:Int).toNat*2,none⟩=some (iV ((rd_T118 ah ae).f0)):=bB 0 _ rfl
  have dC:World.cell? _ ⟨bT,(ae:Int).toNat*2+1,none⟩=some (iV ((rd_T118 ah ae).f1)):=bB 1 _ rfl
  have dD:World.frozen? _ ⟨bT,(ae:Int).toNat*2,none⟩=false:=bC 0
  have dE:World.frozen? _ ⟨bT,(ae:Int).toNat*2+1,none⟩=false:=bC 1
  clear d9 bB bC ek
  replace fP:=eq_true fP
  replace fQ:=eq_true fQ
  obtain⟨iU,bX,eu,bY,eB⟩:=Kd.R_elem af.out z118 (ae:Int) (qD) (by have h_:(ae:Int) < ((ah.length:Int):Int):=qD;first|exact h_|(have e_:=(Kd.R_reads' af.out).1;omega)|simpa using h_)
  obtain rfl:=k118_openM eu
  have dF:=(Kd.R_seg af.out (ae:Int) (qD) (by have h_:(ae:Int) < ((ah.length:Int):Int):=qD;first|exact h_|(have e_:=(Kd.R_reads' af.out).1;omega)|simpa using h_) (seg:=[iV ((rd_T118 l1 ag).f0),iV ((rd_T118 l1 ag).f1)]) (j:=0) bX bY (show 2<=2 from by decide) (x':=(⟨(rd_T118 l1 ag).f0,(rd_T118 l1 ag).f1⟩:S118)) (k118_mkM _ _ _ (⟨(rd_T118 l1 ag).f0,(rd_T118 l1 ag).f1⟩:S118) ) (fun _ hk=>hk)).1
  rw [<- bv.out] at dF
  have eD:=aM dF
  clear bX bY eB eu dF
  refine start_ (n:=10) (S:=fun w'=>w'.cell? ⟨ai,0,none⟩=some (iV ax)/\w'.cell? ⟨ai,1,none⟩=some (iV ae)/\w'.cell? ⟨ai,2,none⟩=some (iV ag)/\w'.cell? ⟨ai,3,none⟩=some (iV aj)/\w'.cell? ⟨ai,4,none⟩=some (iV av)/\w'.cell? (bA.add ((ag).toNat*2))=some (iV ((rd_T118 l1 ag).f0))/\w'.cell? ⟨(bA.add ((ag).toNat*2)).block,(bA.add ((ag).toNat*2)).off+1,none⟩=some (iV ((rd_T118 l1 ag).f1))) (ds:=[9]) (jb 10 0) (by kernel_rfl) rfl rfl ⟨(blk_cell aa.out 0).trans rfl,(blk_cell aa.out 1).trans rfl,(blk_cell aa.out 2).trans rfl,(blk_cell aa.out 3).trans rfl,(blk_cell aa.out 4).trans rfl,(kx HB bS),(kx HB bR)⟩ (fun hHeld=>?_);refine with_tabW SaY.tab6 SaY.bits6 (fun HT_ HW_=>?_)
  generalize iO.drew=jN at af aa HB fU eD dD dE dB dC az aA hHeld ⊢
  refine jp 0 22 (jb 10 1) ?_
  refine jp 1 23 (jb 10 3) ?_
  refine jp 3 25 (jb 10 11) ?_
  refine jp 4 26 (jb 10 27) ?_
  refine jt 2 24 (jb 10 31) ?_
  refine jt 5 27 (jb 10 63) ?_
  refine jp 6 28 (jb 10 127) ?_
  refine jt 7 29 (jb 10 255) ?_
  refine jp 8 30 (jb 10 511) ?_
  refine last_ (i:=9) (N:=none) (jb 10 1023) rfl rfl (one_of HT_.out (by kernel_rfl)) (by decide) (fun K hK=>?_)
  refine skip_ (w1:=?_) (by rfl) rfl ?_ ?_
  rotate_left
  ·go_simp
   rfl
  refine hK.out _ _ ?_
  clear hK K
  refine done_ (done_of HT_.out (by kernel_rfl)) ?_
  try go_wp2
  go_ret
  exact⟨_,qW,by (with_reducible repeat (first|apply Kd.R_alloc|apply Kd.R_drewN|apply Kd.R_drew));exact eD.out,by repeat (first|(with_reducible first|exact HB.out|apply below_alloc|apply pw_below_drewN|apply below_drew1|refine below_set ?_ dZ.out|refine below_set ?_ dZ.out|refine below_set ?_ aK.out)|exact HB.out)⟩
 replace H:=jE H;rcases H with ⟨eF,eG,H⟩ | ⟨c28,eF,eG,H⟩
 ·replace H:=jI H;obtain⟨iy,H⟩:=H
  replace H:=jI H;obtain⟨iA,H⟩:=H
  obtain⟨fV,bD⟩:=ky ((ah.set (ae:Int).toNat (⟨2,0⟩:S118)):List (S118))
  first|replace H:=kz bD H|rw [<- bD.out] at H
  obtain rfl:=oJ H
  go_enter func121,ntmps121
  go_wp2_with (first|((with_reducible refine jd 2 rfl ?_);refine jX _ 27 ?_;intro ai hg w32 hbox hb;have aa:=aM hbox;have aU:=kG hg;have aK:=kG hg;replace HB:=kH hb;clear hb hbox hg)|((with_reducible refine jd 6 rfl ?_);refine jV k118 118 ([]:List (S118)) [] (Reps.none _ _) ?_;intro aQ jO bE hb;(first|rw [<- ay.out] at bE|(simp only [Int.reduceToNat] at bE;rw [<- ay.out] at bE));have au:=kL bE;replace aa:=kB aa hb;replace HB:=kH hb;clear hb bE)|((with_reducible refine gate_builtin (b:=.append) (xs:=#[.tmp 6,.tmp 7]) rfl ?_);at_builtin;refine Kd.R_append_rows k118 (w0:=w) w.heap.size rfl (.tmp 6) (.tmp 7) 104 118 (.agg #[(iV 0),(iV 0)]) 16 rfl underlying104 info118 rfl (by decide) (by omega) aQ aN l1 _ _ _ (fun _=>True) (fun _=>False) rfl rfl ?aO ?aR (fun _ _ h=>h) (fun _ h=>h.elim) ?aF ?aB ?aS ?aL ?_;(case aR=>exact kC (Kd.C_below HR1.out HB.out));(case aB=>exact qB);(case aF=>exact (fun _ _=>trivial));(case aO=>exact (qR au));(case aS=>exact (below_size qB));(case aL=>have:=bi.out;omega);intro bP dG ho hb hg hat;rw [<- aI.out] at ho;have af:=aM ho;replace aa:=aM (blk_grown (g:=ai) (o:=.cells #[iV ax,iV ae,iV ag,iV aj,iV av] 27 (0,0)) (qK aa) hg (Kd.R_ne au.out aa.out (by decide)));replace HB:=aM hb;clear au;clear ho hb hg hat;have iW:=jz5 aa;have p31:0<=(ae:Int):=qD;have fZ:(ae:Int) < ((ah.length:Int):Int):=qD;obtain⟨aT,eH,eO,eP,gm,iX,eQ⟩:=Kd.R_form af.out (by omega);(first|cases eO|(injection eO with ea_ en_ ec_;(first|subst ea_|(injection ea_ with ea_;subst ea_));subst ec_;clear en_));have eT:=aM eP;have iY:=aM eQ;clear eP gm eQ;obtain⟨iZ,eU,eX,bF,bG⟩:=Kd.R_elem af.out z118 (ae:Int) p31 fZ;obtain rfl:=k118_openM eX;have gp:dG.cell? ⟨aT,(ae:Int).toNat*2,none⟩=some (iV ((rd_T118 ah ae).f0)):=bF 0 _ rfl;have gq:dG.cell? ⟨aT,(ae:Int).toNat*2+1,none⟩=some (iV ((rd_T118 ah ae).f1)):=bF 1 _ rfl;have gu:dG.frozen? ⟨aT,(ae:Int).toNat*2,none⟩=false:=bG 0;have gz:dG.frozen? ⟨aT,(ae:Int).toNat*2+1,none⟩=false:=bG 1;clear eU bF bG eX;replace p31:=eq_true p31;replace fZ:=eq_true fZ;have eY:=aM (show Kd.R k118 118 dG w.heap.size (fun _=>True) (.slice (some ⟨aT,0,none⟩) ah.length eH) ah from (qR af));obtain⟨ja,bZ,eZ,aW,bH⟩:=Kd.R_elem eY.out z118 (ae:Int) (qD) (by have h_:(ae:Int) < ((ah.length:Int):Int):=qD;first|exact h_|(have e_:=(Kd.R_reads' af.out).1;omega)|simpa using h_);obtain rfl:=k118_openM eZ;have dH:=Kd.R_seg eY.out (ae:Int) (qD) (by have h_:(ae:Int) < ((ah.length:Int):Int):=qD;first|exact h_|(have e_:=(Kd.R_reads' af.out).1;omega)|simpa using h_) (seg:=[iV 2,iV 0]) (j:=0) bZ aW (show 2<=2 from by decide) (x':=(⟨2,0⟩:S118)) (k118_mkM _ _ _ (⟨2,0⟩:S118) ) (fun _ hk=>hk);have dI:=aW 0 _ rfl;(try simp only [show (k118).sz=2 from rfl,Nat.mul_one,Nat.add_zero] at dI);have dJ:=bH 0;(try simp only [show (k118).sz=2 from rfl,Nat.mul_one,Nat.add_zero] at dJ);have dK:=aW 1 _ rfl;(try simp only [show (k118).sz=2 from rfl,Nat.mul_one,Nat.add_zero] at dK);have dL:=bH 1;(try simp only [show (k118).sz=2 from rfl,Nat.mul_one,Nat.add_zero] at dL);clear bZ aW bH eZ)|((with_reducible refine gate_store (t:=118) (p:=37) rfl ?_);refine store_event (t:=118) (p:=37) (v:=?gB) (w1:=((dG.setCell ⟨aT,(ae:Int).toNat*2,none⟩ (iV 2)).setCell ⟨aT,(ae:Int).toNat*2+1,none⟩ (iV 0))) ?hg ?ho ?hn ?hr ?_;(case ho=>rfl);(case hg=>rfl);(case hn=>rfl);(case hr=>first|(go_simp;done)|(go_simp;rfl));intro gD hw;have hg:dG.grownBy gD (some aT):=(by rw [hw];exact dH.2);have hp_:Kd.R k118 118 gD w.heap.size (fun _=>True) (.slice (some ⟨aT,0,none⟩) ah.length eH) fV:=(by rw [hw,bD.out];exact dH.1);clear dH;replace aa:=aM (blk_grown (g:=ai) (o:=.cells #[iV ax,iV ae,iV ag,iV aj,iV av] 27 (0,0)) (qK aa) hg (Kd.R_ne af.out aa.out (by decide)));replace af:=aM hp_;replace HB:=aM ((by rw [hw];exact below_set (below_set (HB.out) eT.out) eT.out:Below w.heap.size w gD));clear hg hw hp_))
  go_ret
  exact⟨_,qW,qR af,qB⟩
 replace H:=jE H;rcases H with ⟨fe,fo,H⟩ | ⟨jQ,fe,fo,H⟩
 ·replace H:=jI H;obtain⟨iB,H⟩:=H
  replace H:=jI H;obtain⟨iC,H⟩:=H
  replace H:=jI H;obtain⟨iD,H⟩:=H
  replace H:=jI H;obtain⟨iE,H⟩:=H
  obtain⟨⟨bI,bJ⟩,je,H⟩:=qE H
  try dsimp only at H
  replace H:=jI H;obtain⟨iF,H⟩:=H
  replace H:=jI H;obtain⟨iG,H⟩:=H
  obtain⟨jf,bK⟩:=ky ((ah.set (ae:Int).toNat (⟨bI,bJ⟩:S118)):List (S118))
  first|replace H:=kz bK H|rw [<- bK.out] at H
  obtain rfl:=oJ H
  go_enter func121,ntmps121
  try go_wp2_with (first|((with_reducible refine jd 2 rfl ?_);refine jX _ 27 ?_;intro ai hg jS hbox hb;have aa:=aM hbox;have aU:=kG hg;have aK:=kG hg;replace HB:=kH hb;clear hb hbox hg)|((with_reducible refine jd 6 rfl ?_);refine jV k118 118 ([]:List (S118)) [] (Reps.none _ _) ?_;intro aQ jT bL hb;(first|rw [<- ay.out] at bL|(simp only [Int.reduceToNat] at bL;rw [<- ay.out] at bL));have au:=kL bL;replace aa:=kB aa hb;replace HB:=kH hb;clear hb bL)|((with_reducible refine gate_builtin (b:=.append) (xs:=#[.tmp 6,.tmp 7]) rfl ?_);at_builtin;refine Kd.R_append_rows k118 (w0:=w) w.heap.size rfl (.tmp 6) (.tmp 7) 104 118 (.agg #[(iV 0),(iV 0)]) 16 rfl underlying104 info118 rfl (by decide) (by omega) aQ aN l1 _ _ _ (fun _=>True) (fun _=>False) rfl rfl ?aO ?aR (fun _ _ h=>h) (fun _ h=>h.elim) ?aF ?aB ?aS ?aL ?_;(case aR=>exact kC (Kd.C_below HR1.out HB.out));(case aB=>exact qB);(case aF=>exact (fun _ _=>trivial));(case aO=>exact (qR au));(case aS=>exact (below_size qB));(case aL=>have:=bi.out;omega);intro bP jg ho hb hg hat;rw [<- aI.out] at ho;have af:=aM ho;replace aa:=aM (blk_grown (g:=ai) (o:=.cells #[iV ax,iV ae,iV ag,iV aj,iV av] 27 (0,0)) (qK aa) hg (Kd.R_ne au.out aa.out (by decide)));replace HB:=aM hb;clear au;clear ho hb hg hat;have jh:=jz5 aa))
  replace af:=aM (Kd.R_drew af.out)
  replace aa:=aM (blk_drew aa.out)
  replace HB:=aM (below_drew1 HB.out)
  have dM:0<=(ag:Int):=qD
  have dN:ag < (l1.length:Int):=qD
  obtain⟨aJ,gF,aC,aD⟩:=at_T118 HR1.out ag dM dN
  have aX:=aD
  have aY:=aC
  cases gF
  replace aC:=kx HB aC
  replace aD:=kx HB aD
  replace dM:=eq_true dM
  replace dN:=eq_true dN
  have dO:0<=(aj:Int):=qD
  have dP:aj < (l1.length:Int):=qD
  obtain⟨fq,gG,aG,aH⟩:=at_T118 HR1.out aj dO dP
  have aZ:=aH
  have bg:=aG
  obtain rfl:aJ=fq:=(by injection gG)
  replace aG:=kx HB aG
  replace aH:=kx HB aH
  replace dO:=eq_true dO
  replace dP:=eq_true dP
  refine start_ (n:=17) (S:=fun w'=>w'.cell? ⟨ai,0,none⟩=some (iV ax)/\w'.cell? ⟨ai,1,none⟩=some (iV ae)/\w'.cell? ⟨ai,2,none⟩=some (iV ag)/\w'.cell? ⟨ai,3,none⟩=some (iV aj)/\w'.cell? ⟨ai,4,none⟩=some (iV av)/\w'.cell? (aJ.add ((ag).toNat*2))=some (iV ((rd_T118 l1 ag).f0))/\w'.cell? ⟨(aJ.add ((ag).toNat*2)).block,(aJ.add ((ag).toNat*2)).off+1,none⟩=some (iV ((rd_T118 l1 ag).f1))/\w'.cell? (aJ.add ((aj).toNat*2))=some (iV ((rd_T118 l1 aj).f0))/\w'.cell? ⟨(aJ.add ((aj).toNat*2)).block,(aJ.add ((aj).toNat*2)).off+1,none⟩=some (iV ((rd_T118 l1 aj).f1))) (ds:=[16]) (jb 17 0) (by kernel_rfl) rfl rfl ⟨(blk_cell aa.out 0).trans rfl,(blk_cell aa.out 1).trans rfl,(blk_cell aa.out 2).trans rfl,(blk_cell aa.out 3).trans rfl,(blk_cell aa.out 4).trans rfl,(kx HB aY),(kx HB aX),(kx HB bg),(kx HB aZ)⟩ (fun hHeld=>?_);refine with_tabW SaY.tab10 SaY.bits10 (fun HT_ HW_=>?_)
  generalize jg.drew=jW at af aa HB aC aD aG aH hHeld ⊢
  refine jp 0 40 (jb 17 1) ?_
  refine jp 1 41 (jb 17 3) ?_
  refine jp 4 44 (jb 17 19) ?_
  refine jp 5 45 (jb 17 51) ?_
  refine jp 9 49 (jb 17 563) ?_
  refine jp 10 50 (jb 17 1587) ?_
  refine jt 2 42 (jb 17 1591) ?_
  refine jt 3 43 (jb 17 1599) ?_
  refine jt 6 46 (jb 17 1663) ?_
  refine jp 7 47 (jb 17 1791) ?_
  refine jt 8 48 (jb 17 2047) ?_
  refine jt 11 51 (jb 17 4095) ?_
  refine jp 12 52 (jb 17 8191) ?_
  refine jt 13 53 (jb 17 16383) ?_
  refine one_ (i:=14) (N:=some 54) (jb 17 32767) rfl rfl (one_of HT_.out (by kernel_rfl)) (by decide) (fun K hK=>?_)
  refine goes_ func123 (by kernel_rfl) rfl #[.agg #[iV ax,iV ae,iV ag,iV aj,iV av],.agg #[iV ((rd_T118 l1 ag).f0),iV ((rd_T118 l1 ag).f1)],.agg #[iV ((rd_T118 l1 aj).f0),iV ((rd_T118 l1 aj).f1)]] (by rfl) rfl rfl qM ?_
  with_reducible refine (Sb6.calls k ax ae ag aj av ((rd_T118 l1 ag).f0) ((rd_T118 l1 ag).f1) ((rd_T118 l1 aj).f0) ((rd_T118 l1 aj).f1) bI bJ _ je.out).mono ?_
  rintro e jY ⟨rfl,hb⟩
  refine⟨_,rfl,?_⟩
  replace af:=kR af hb
  replace aa:=kB aa hb
  replace HB:=kH hb
  (try clear hb)
  (try clear hb2)
  (try clear hk)
  (try clear hi)
  have p47:0<=(ae:Int):=qD
  have gH:(ae:Int) < ((ah.length:Int):Int):=qD
  obtain⟨bU,jk,fu,fw,gI,jl,fA⟩:=Kd.R_form af.out (by omega)
  (first|cases fu|(injection fu with ea_ en_ ec_;(first|subst ea_|(injection ea_ with ea_;subst ea_));subst ec_;clear en_))
  have fB:=aM fw
  have jm:=aM fA
  clear fw gI fA
  obtain⟨jo,fC,fD,bM,bN⟩:=Kd.R_elem af.out z118 (ae:Int) p47 gH
  obtain rfl:=k118_openM fD
  have gJ:World.cell? _ ⟨bU,(ae:Int).toNat*2,none⟩=some (iV ((rd_T118 ah ae).f0)):=bM 0 _ rfl
  have gK:World.cell? _ ⟨bU,(ae:Int).toNat*2+1,none⟩=some (iV ((rd_T118 ah ae).f1)):=bM 1 _ rfl
  have gL:World.frozen? _ ⟨bU,(ae:Int).toNat*2,none⟩=false:=bN 0
  have gM:World.frozen? _ ⟨bU,(ae:Int).toNat*2+1,none⟩=false:=bN 1
  clear fC bM bN fD
  replace p47:=eq_true p47
  replace gH:=eq_true gH
  obtain⟨jr,cz,fE,cB,fF⟩:=Kd.R_elem af.out z118 (ae:Int) (qD) (by have h_:(ae:Int) < ((ah.length:Int):Int):=qD;first|exact h_|(have e_:=(Kd.R_reads' af.out).1;omega)|simpa using h_)
  obtain rfl:=k118_openM fE
  have dQ:=(Kd.R_seg af.out (ae:Int) (qD) (by have h_:(ae:Int) < ((ah.length:Int):Int):=qD;first|exact h_|(have e_:=(Kd.R_reads' af.out).1;omega)|simpa using h_) (seg:=[iV bI,iV bJ]) (j:=0) cz cB (show 2<=2 from by decide) (x':=(⟨bI,bJ⟩:S118)) (k118_mkM _ _ _ (⟨bI,bJ⟩:S118) ) (fun _ hk=>hk)).1
  rw [<- bK.out] at dQ
  have gN:=aM dQ
  clear cz cB fF fE dQ
  refine hK.out _ _ ⟨(blk_cell aa.out 0).trans rfl,(blk_cell aa.out 1).trans rfl,(blk_cell aa.out 2).trans rfl,(blk_cell aa.out 3).trans rfl,(blk_cell aa.out 4).trans rfl,(kx HB aY),(kx HB aX),(kx HB bg),(kx HB aZ)⟩ (fun hHeld=>?_)
  clear hK K
  refine norm_ (a':=?_) ?_ ?_
  rotate_left
  ·show Act.put _ (some 54) _=_
   simp only [Act.put,List.setIfInBounds_toArray,List.set_cons_zero,List.set_cons_succ,i64_w,i32_w]
   rfl
  refine jp 15 55 (jb 17 65535) ?_
  refine last_ (i:=16) (N:=none) (jb 17 131071) rfl rfl (one_of HT_.out (by kernel_rfl)) (by decide) (fun K hK=>?_)
  refine skip_ (w1:=?_) (by rfl) rfl ?_ ?_
  rotate_left
  ·go_simp
   rfl
  refine hK.out _ _ ?_
  clear hK K
  refine done_ (done_of HT_.out (by kernel_rfl)) ?_
  try go_wp2
  go_ret
  exact⟨_,qW,by (with_reducible repeat (first|apply Kd.R_alloc|apply Kd.R_drewN|apply Kd.R_drew));exact gN.out,by repeat (first|(with_reducible first|exact HB.out|apply below_alloc|apply pw_below_drewN|apply below_drew1|refine below_set ?_ fB.out|refine below_set ?_ fB.out|refine below_set ?_ aK.out)|exact HB.out)⟩
 obtain rfl:=oJ H
 go_enter func121,ntmps121
 go_wp2_with (first|((with_reducible refine jd 2 rfl ?_);refine jX _ 27 ?_;intro ai hg jZ hbox hb;have aa:=aM hbox;have aU:=kG hg;have aK:=kG hg;replace HB:=kH hb;clear hb hbox hg)|((with_reducible refine jd 6 rfl ?_);refine jV k118 118 ([]:List (S118)) [] (Reps.none _ _) ?_;intro aQ j4 bO hb;(first|rw [<- ay.out] at bO|(simp only [Int.reduceToNat] at bO;rw [<- ay.out] at bO));have au:=kL bO;replace aa:=kB aa hb;replace HB:=kH hb;clear hb bO)|((with_reducible refine gate_builtin (b:=.append) (xs:=#[.tmp 6,.tmp 7]) rfl ?_);at_builtin;refine Kd.R_append_rows k118 (w0:=w) w.heap.size rfl (.tmp 6) (.tmp 7) 104 118 (.agg #[(iV 0),(iV 0)]) 16 rfl underlying104 info118 rfl (by decide) (by omega) aQ aN l1 _ _ _ (fun _=>True) (fun _=>False) rfl rfl ?aO ?aR (fun _ _ h=>h) (fun _ h=>h.elim) ?aF ?aB ?aS ?aL ?_;(case aR=>exact kC (Kd.C_below HR1.out HB.out));(case aB=>exact qB);(case aF=>exact (fun _ _=>trivial));(case aO=>exact (qR au));(case aS=>exact (below_size qB));(case aL=>have:=bi.out;omega);intro bP j5 ho hb hg hat;rw [<- aI.out] at ho;have af:=aM ho;replace aa:=aM (blk_grown (g:=ai) (o:=.cells #[iV ax,iV ae,iV ag,iV aj,iV av] 27 (0,0)) (qK aa) hg (Kd.R_ne au.out aa.out (by decide)));replace HB:=aM hb;clear au;clear ho hb hg hat;have jv:=jz5 aa))
 go_ret
 exact⟨_,qW,qR af,qB⟩
theorem eqA118 (d:Nat) (w:World) (x0 y0 x1 y1:Int) :
  (Op.equalIn (d+2) 118 (.agg #[iV x0,iV x1]) (.agg #[iV y0,iV y1])).run prog w = .ok (x0 == y0 && (x1 == y1)) w:=by
 refine eqA_of underlying118 (by kernel_rfl) ?_
 refine eqf_cons (by rfl) (by go_simp;rfl) (by go_simp;rfl) (by go_simp) ?_
 exact eqf_last (by rfl) (by go_simp;rfl) (by go_simp;rfl) (by go_simp)
attribute [local go_sem high] eqA118
def Sb5.f (av ax ay az:Int):Option (Int × Int):=if av=0 then (some (ay,az)) else (if ay=0 then (some (av,ax)) else (if (av == ay && (ax == az))=true then (some (av,ax)) else (some (2,0))))
theorem Sb5_0 {G:Prop} (h:G:=by
  go_enter func127,ntmps127
  go_wp2_with (first|((with_reducible refine jd 2 rfl ?_);refine jX _ 118 ?_;intro aD hg aK hbox hb;have aa:=aM hbox;have aG:=kG hg;replace HB:=kH hb;clear hb hbox hg)|((with_reducible refine jd 3 rfl ?_);refine jX _ 118 ?_;intro aH hg aN hbox hb;have ae:=aM hbox;have aI:=kG hg;have af:=kN hg aa;have ag:=kM hg aa;replace aa:=kB aa hb;replace HB:=kH hb;clear hb hbox hg)|((with_reducible refine jd 4 rfl ?_);refine jX _ 118 ?_;intro aC hg aQ hbox hb;have aA:=aM hbox;have aJ:=kG hg;have ah:=kN hg aa;have ai:=kM hg aa;have aj:=kN hg ae;have au:=kM hg ae;replace aa:=kB aa hb;replace ae:=kB ae hb;replace HB:=kH hb;clear hb hbox hg;have aT:=af.out;have aU:=ag.out;have aV:=ah.out;have aW:=ai.out;have aX:=jz2 aa;have aY:=aj.out;have aZ:=au.out;have bg:=jz2 ae;have bi:=jz2 aA))
  refine bodyPost_ret (results_cell_row rfl _ _ aC 118 #[iV av,iV ax] (0,0) _ rfl (qF aA) underlying118 rfl (by kernel_rfl)) rfl ?_
  exact⟨qW,qB⟩):G:=h
theorem Sb5.calls (av ax ay az r1 r2:Int) (w:World) (h:Sb5.f av ax ay az=some (r1,r2)) :
  Calls prog 127 #[.agg #[iV av,iV ax],.agg #[iV ay,iV az]] w fun e w'=>e = .returned (.agg #[iV r1,iV r2])/\Below w.heap.size w w':=by
 have bC:=underlying118
 have HB:=aM (Below.refl w.heap.size w)
 have H:=h;unfold Sb5.f at H
 clear h
 replace H:=jE H;rcases H with ⟨bA,bB,H⟩ | ⟨c3,bA,bB,H⟩
 ·obtain⟨rfl,rfl⟩:=oJ2 H
  go_enter func127,ntmps127
  go_wp2_with (first|((with_reducible refine jd 2 rfl ?_);refine jX _ 118 ?_;intro aD hg aK hbox hb;have aa:=aM hbox;have aG:=kG hg;replace HB:=kH hb;clear hb hbox hg)|((with_reducible refine jd 3 rfl ?_);refine jX _ 118 ?_;intro aH hg aN hbox hb;have ae:=aM hbox;have aI:=kG hg;have af:=kN hg aa;have ag:=kM hg aa;replace aa:=kB aa hb;replace HB:=kH hb;clear hb hbox hg)|((with_reducible refine jd 4 rfl ?_);refine jX _ 118 ?_;intro aC hg aQ hbox hb;have aA:=aM hbox;have aJ:=kG hg;have ah:=kN hg aa;have ai:=kM hg aa;have aj:=kN hg ae;have au:=kM hg ae;replace aa:=kB aa hb;replace ae:=kB ae hb;replace HB:=kH hb;clear hb hbox hg;have aT:=af.out;have aU:=ag.out;have aV:=ah.out;have aW:=ai.out;have aX:=jz2 aa;have aY:=aj.out;have aZ:=au.out;have bg:=jz2 ae;have bi:=jz2 aA))
  refine bodyPost_ret (results_cell_row rfl _ _ aC 118 #[iV ay,iV az] (0,0) _ rfl (qF aA) underlying118 rfl (by kernel_rfl)) rfl ?_
  exact⟨qW,qB⟩
 replace H:=jE H;rcases H with ⟨bn,bq,H⟩ | ⟨c13,bn,bq,H⟩
 ·obtain⟨rfl,rfl⟩:=oJ2 H
  exact Sb5_0
 by_cases c23:(av == ay && (ax == az))=true
 ·rw [if_pos c23] at H
  have bu:(av == ay && (ax == az))=true:=c23
  (try (have bv:decide (av=ay && (ax == az))=true:=by simpa using c23))
  (try (have bz:(av == ay && (ax == az))=true:=by simpa using c23))
  clear c23
  obtain⟨rfl,rfl⟩:=oJ2 H
  exact Sb5_0
 rw [if_neg c23] at H
 have bu:(av == ay && (ax == az))=false:=by simpa using c23
 (try (have bv:decide (av=ay && (ax == az))=false:=by simpa using c23))
 (try (have bz:(av == ay && (ax == az))=false:=by simpa using c23))
 (try (have bD:¬ (av=ay && (ax == az)):=by simpa using c23))
 clear c23
 obtain⟨rfl,rfl⟩:=oJ2 H
 go_enter func127,ntmps127
 go_wp2_with (first|((with_reducible refine jd 2 rfl ?_);refine jX _ 118 ?_;intro aD hg aK hbox hb;have aa:=aM hbox;have aG:=kG hg;replace HB:=kH hb;clear hb hbox hg)|((with_reducible refine jd 3 rfl ?_);refine jX _ 118 ?_;intro aH hg aN hbox hb;have ae:=aM hbox;have aI:=kG hg;have af:=kN hg aa;have ag:=kM hg aa;replace aa:=kB aa hb;replace HB:=kH hb;clear hb hbox hg)|((with_reducible refine jd 4 rfl ?_);refine jX _ 118 ?_;intro aC hg aQ hbox hb;have aA:=aM hbox;have aJ:=kG hg;have ah:=kN hg aa;have ai:=kM hg aa;have aj:=kN hg ae;have au:=kM hg ae;replace aa:=kB aa hb;replace ae:=kB ae hb;replace HB:=kH hb;clear hb hbox hg;have aT:=af.out;have aU:=ag.out;have aV:=ah.out;have aW:=ai.out;have aX:=jz2 aa;have aY:=aj.out;have aZ:=au.out;have bg:=jz2 ae;have bi:=jz2 aA))
 refine bodyPost_ret (results_cell_row rfl _ _ aC 118 #[iV 2,iV 0] (0,0) _ rfl (qF aA) underlying118 rfl (by kernel_rfl)) rfl ?_
 exact⟨qW,qB⟩
attribute [local go_sem high] eqA118
def Sb1.l0:Nat->List (List (S118))->Int->List (S118)->Bool->Int->Option (Bool × (List (List (S118))))
 | 0,_,_,_,_,_=>none
 | k+1,x0,x1,x2,x7,x8=>if x8 < 12 then (if 0<=x1 then (if x1 < (x0.length:Int) then (if 0<=x8 then (if x8 < ((rd_L8 x0 x1).length:Int) then (if x8 < (x2.length:Int) then ((Sb5.f ((rd_T118 (rd_L8 x0 x1) x8).f0) ((rd_T118 (rd_L8 x0 x1) x8).f1) ((rd_T118 x2 x8).f0) ((rd_T118 x2 x8).f1)).bind fun bE=>(if (!(bE.1 == ((rd_T118 (rd_L8 x0 x1) x8).f0)) || (!(bE.2 == ((rd_T118 (rd_L8 x0 x1) x8).f1))))=true then (Sb1.l0 k (x0.set (x1:Int).toNat ((rd_L8 x0 x1).set (x8:Int).toNat (⟨bE.1,bE.2⟩:S118))) x1 x2 true (wrap64 (x8+1))) else (Sb1.l0 k x0 x1 x2 x7 (wrap64 (x8+1))))) else (none)) else (none)) else (none)) else (none)) else (none)) else (some (x7,x0))
def Sb1.f (k:Nat) (l0:List (List (S118))) (a1:Int) (l2:List (S118)):Option (Bool × (List (List (S118)))):=Sb1.l0 k l0 a1 l2 false 0
def Sb1.T5:Bool × List (List Nat × List Nat):=(true,[([],[]),([],[]),([0,1],[0,1]),([2],[2]),([],[]),([3,4],[3,4]),([5],[5]),([],[]),([],[]),([7,8],[7,8]),([9],[9]),([6,10],[6,10]),([],[]),([12,11,11,0,1,2,3,4,5,6,7,8,9,10,11,12],[11,12])])
def Sb1.B5:List Nat:=[0,0,3,7,0,31,63,0,0,384,896,2047,0,8191]
theorem Sb1.tab5:rtab .any (opsOf f122 5)=Sb1.T5:=by kernel_rfl
theorem Sb1.bits5:waitsOk Sb1.T5.2 Sb1.B5=true:=by kernel_rfl
def Sb1.T6:Bool × List (List Nat × List Nat):=(true,[([],[]),([],[]),([],[]),([1,2],[1,2]),([3],[3]),([],[]),([4,5],[4,5]),([6],[6]),([0,7],[0,7])])
def Sb1.B6:List Nat:=[0,0,0,6,14,0,62,126,255]
theorem Sb1.tab6:rtab .any (opsOf f122 6)=Sb1.T6:=by kernel_rfl
theorem Sb1.bits6:waitsOk Sb1.T6.2 Sb1.B6=true:=by kernel_rfl
def Sb1.T7:Bool × List (List Nat × List Nat):=(true,[([],[]),([],[]),([0,1],[0,1]),([2],[2]),([],[]),([],[]),([3,4,0,1,2,3,4,5],[3,4]),([6,5,0,1,2,3,4,5],[5,6])])
def Sb1.B7:List Nat:=[0,0,3,7,0,0,63,127]
theorem Sb1.tab7:rtab .any (opsOf f122 7)=Sb1.T7:=by kernel_rfl
theorem Sb1.bits7:waitsOk Sb1.T7.2 Sb1.B7=true:=by kernel_rfl
theorem Sb1.calls (k:Nat) (aZ:Nat->Prop) (aX:Value) (l0:List (List (S118))) (a1:Int) (A2:Option Addr) (c2:Nat) (l2:List (S118)) (r1:Bool) (r2:List (List (S118))) (w0 w:World) (hB:Below w0.heap.size w0 w) (ho0:Kd.S (Kd.slice 118 k118) 104 w w0.heap.size aZ aX l0) (hr2:∀ W_,Kept w W_ (fun k_=>aZ k_)->Kd.C k118 W_ A2 l2.length l2) (hc2:l2.length<=c2) (h:Sb1.f k l0 a1 l2=some (r1,r2)) :
  Calls prog 122 #[aX,iV a1,.slice A2 l2.length c2] w fun e w'=>e = .returned (.bool r1)/\Kd.S (Kd.slice 118 k118) 104 w' w0.heap.size (fun k_=>(aZ k_\/w.heap.size<=k_)) aX r2/\Below w0.heap.size w0 w'/\Kept w w' (fun k_=>aZ k_):=by
 have gu:=underlying118
 have ib:=aM (show Kd.S (Kd.slice 118 k118) 104 w w0.heap.size (fun k_=>(aZ k_\/w.heap.size<=k_)) aX l0 from Kd.S_mono ho0 (fun k_ hk=>(.inl hk)))
 have HR2:=aM hr2
 have iM:=aM hc2
 clear hr2 hc2
 have HK:=aM (Kept.refl w (fun k_=>aZ k_))
 have HW0:=aM hB.size
 have HB:=aM hB
 clear hB
 have H:(Sb1.l0 k l0 a1 l2 false 0)=some (r1,r2):=h
 clear h
 have H':=aM H
 clear H
 go_enter func122,ntmps122
 go_wp2
 go_loopg [7,8] k (fun kq v7 v8 w'=>∃ (af:List (List (S118))) (cO:Bool) (aa:Int),v7 = .bool cO/\v8 = iV aa/\Aside0 (Sb1.l0 kq af a1 l2 cO aa=some (r1,r2))/\Aside0 (kq<=k)/\Aside0 (Kd.S (Kd.slice 118 k118) 104 w' w0.heap.size (fun k_=>(aZ k_\/w.heap.size<=k_)) aX af)/\Aside0 (Kept w w' (fun k_=>aZ k_))/\Aside0 (Below w0.heap.size w0 w'))
 case atStart=>exact⟨(l0),(false),(0),qZ,qZ,H',⟨Nat.le_refl _⟩,⟨qS ib⟩,⟨qT⟩,⟨qB⟩⟩
 clear H'
 try clear c2
 obtain⟨af,cO,aa,rfl,rfl,HA,fe,ai,HK,HB⟩:=hrel
 rcases gk with _|k1
 ·exact absurd HA.out (by simp [Sb1.l0])
 have H:=HA.out
 clear HA
 simp only [Sb1.l0] at H
 replace H:=jD H;rcases H with ⟨fE,H⟩ | ⟨fE,H⟩
 ·replace H:=jI H;obtain⟨ic,H⟩:=H
  replace H:=jI H;obtain⟨ig,H⟩:=H
  replace H:=jI H;obtain⟨ik,H⟩:=H
  replace H:=jI H;obtain⟨il,H⟩:=H
  replace H:=jI H;obtain⟨iq,H⟩:=H
  obtain⟨⟨az,aA⟩,gz,H⟩:=qE H
  try dsimp only at H
  have dC:=aM H;clear H
  try go_wp2
  replace ai:=aM (Kd.S_drew ai.out)
  replace HK:=aM (Kept.drew HK.out)
  replace HB:=aM (below_drew1 HB.out)
  obtain⟨iw,bU,ek⟩:=Kd.S_slice ai.out
  (first|subst ek|(injection ek with gB iy gD;have iA:=gB.symm;have iB:=gD.symm;clear gB iy gD;subst iA;subst iB))
  have df:0<=(a1:Int):=qD
  have dh:a1 < (af.length:Int):=qD
  obtain⟨ay,fF,aC,fG,aQ,bF,bG⟩:=at_L8 (Kd.S_reads' ai.out).2.2 a1 df dh
  cases fG
  obtain⟨gF,dE,dF,bV⟩:=Kd.S_get ai.out [] a1 df (by first|exact dh|exact qD|(have e_:=(Kd.S_reads' ai.out).1;omega))
  obtain⟨fo,rfl,bg⟩:=dF
  have aH:=bV 0 _ rfl
  rw [Nat.add_zero,show ((Kd.slice 118 k118)).sz=1 from rfl,Nat.mul_one] at aH
  replace aH:=Option.some.inj (aH.symm.trans aQ)
  rw [aH] at bg
  have ag:=aM (show Kd.R k118 118 _ _ _ _ (rd_L8 af a1) from bg)
  clear aH bg
  have au:=aM aQ
  clear bV dE
  have av:=aM bG
  have fq:=aM bF
  clear bG bF
  replace df:=eq_true df
  replace dh:=eq_true dh
  have dG:0<=(aa:Int):=qD
  have dH:aa < ((rd_L8 af a1).length:Int):=qD
  obtain⟨ax,fH,bH,bI⟩:=at_T118 (kC av.out) aa dG dH
  cases fH
  replace dG:=eq_true dG
  replace dH:=eq_true dH
  have aD:0<=(aa:Int):=qD
  have aG:aa < (l2.length:Int):=qD
  obtain⟨aI,fI,bJ,bK⟩:=at_T118 (Kd.C_kept_now HR2.out HK.out) aa aD aG
  have fu:=bK
  have fw:=bJ
  cases fI
  replace aD:=eq_true aD
  replace aG:=eq_true aG
  refine start_ (n:=14) (S:=fun w'=>w'.cell? (ay.add (a1).toNat)=some (.slice (some ax) (rd_L8 af a1).length aC)/\w'.cell? (ax.add ((aa).toNat*2))=some (iV ((rd_T118 (rd_L8 af a1) aa).f0))/\w'.cell? ⟨(ax.add ((aa).toNat*2)).block,(ax.add ((aa).toNat*2)).off+1,none⟩=some (iV ((rd_T118 (rd_L8 af a1) aa).f1))/\w'.cell? (aI.add ((aa).toNat*2))=some (iV ((rd_T118 l2 aa).f0))/\w'.cell? ⟨(aI.add ((aa).toNat*2)).block,(aI.add ((aa).toNat*2)).off+1,none⟩=some (iV ((rd_T118 l2 aa).f1))) (ds:=[]) (jb 14 0) (by kernel_rfl) rfl rfl ⟨aQ,bH,bI,(foot_T118_0 (HR2.out _ (by repeat (first|exact HK.out|apply Kept.alloc|apply Kept.drewN|apply Kept.drew|refine Kept.setCell ?_ (.inr ah.out) _|refine Kept.setCell ?_ (.inr ah.out) _))) aa (of_eq_true aD) (of_eq_true aG)),(foot_T118_1 (HR2.out _ (by repeat (first|exact HK.out|apply Kept.alloc|apply Kept.drewN|apply Kept.drew|refine Kept.setCell ?_ (.inr ah.out) _|refine Kept.setCell ?_ (.inr ah.out) _))) aa (of_eq_true aD) (of_eq_true aG))⟩ (fun hHeld=>?_);refine with_tabW Sb1.tab5 Sb1.bits5 (fun HT_ HW_=>?_)
  generalize wr.drew=iN at ai HK HB ag av au aQ bH bI bJ bK hHeld ⊢
  refine jp 0 14 (jb 14 1) ?_
  refine jp 1 15 (jb 14 3) ?_
  refine jp 2 16 (jb 14 7) ?_
  refine jp 4 18 (jb 14 23) ?_
  refine jp 7 21 (jb 14 151) ?_
  refine jp 8 22 (jb 14 407) ?_
  refine jp 9 23 (jb 14 919) ?_
  refine jt 3 17 (jb 14 927) ?_
  refine jp 5 19 (jb 14 959) ?_
  refine jt 6 20 (jb 14 1023) ?_
  refine jt 10 24 (jb 14 2047) ?_
  refine join_ (σ:=Nat) 1 (jb 14 8191) (fun s_=>[(25,.agg #[iV az,iV aA]),(9,.pointer (some ⟨s_,0,none⟩))]) (fun s_ w'=>(w'.cell? (ay.add (a1).toNat)=some (.slice (some ax) (rd_L8 af a1).length aC)/\w'.cell? (ax.add ((aa).toNat*2))=some (iV ((rd_T118 (rd_L8 af a1) aa).f0))/\w'.cell? ⟨(ax.add ((aa).toNat*2)).block,(ax.add ((aa).toNat*2)).off+1,none⟩=some (iV ((rd_T118 (rd_L8 af a1) aa).f1))/\w'.cell? (aI.add ((aa).toNat*2))=some (iV ((rd_T118 l2 aa).f0))/\w'.cell? ⟨(aI.add ((aa).toNat*2)).block,(aI.add ((aa).toNat*2)).off+1,none⟩=some (iV ((rd_T118 l2 aa).f1)))/\(Kd.R k118 118 w' w0.heap.size (fun k_=>(aZ k_\/w.heap.size<=k_)/\some k_≠(.slice (some ay) af.length bU:Value).ownBlock/\k_≠s_) (.slice (some ax) (rd_L8 af a1).length aC) (rd_L8 af a1))/\(Kd.S (Kd.slice 118 k118) 104 w' w0.heap.size (fun k_=>(aZ k_\/w.heap.size<=k_)/\k_≠s_) (.slice (some ay) af.length bU) af)/\(w'.cell? (ay.add (a1).toNat)=some (.slice (some ax) (rd_L8 af a1).length aC))/\(w'.heap[s_]?=some (.cells #[iV 0,iV 0] 118 (0,0)))/\(w.heap.size<=s_)/\(w0.heap.size<=s_)/\(Kept w w' (fun k_=>aZ k_))/\(Below w0.heap.size w0 w')) ?_ ?_
  rotate_left
  ·intro hCont
   refine two_ (i:=11) (j:=12) (Ni:=some 25) (Nj:=some 9) (jb 14 4095) (jb 14 6143) rfl rfl rfl rfl (two_of HT_.out (by kernel_rfl)) (by decide) (by decide) (fun K hK=>?_) (fun K hK=>?_)
   ·skip
    refine goes_ func127 (by kernel_rfl) rfl #[.agg #[iV ((rd_T118 (rd_L8 af a1) aa).f0),iV ((rd_T118 (rd_L8 af a1) aa).f1)],.agg #[iV ((rd_T118 l2 aa).f0),iV ((rd_T118 l2 aa).f1)]] (by rfl) rfl rfl qM ?_
    with_reducible refine (Sb5.calls ((rd_T118 (rd_L8 af a1) aa).f0) ((rd_T118 (rd_L8 af a1) aa).f1) ((rd_T118 l2 aa).f0) ((rd_T118 l2 aa).f1) az aA _ gz.out).mono ?_
    rintro e iC ⟨rfl,hb⟩
    have bA:=(hb.cell (World.block_lt_of_cell? _ _ (hHeld.1))).trans (hHeld.1)
    have bB:=(hb.cell (World.block_lt_of_cell? _ _ (hHeld.2.1))).trans (hHeld.2.1)
    have bC:=(hb.cell (World.block_lt_of_cell? _ _ (hHeld.2.2.1))).trans (hHeld.2.2.1)
    refine⟨_,rfl,?_⟩
    replace ai:=kS ai hb
    replace ag:=kR ag hb
    replace av:=kQ av hb
    replace au:=kW hb au
    replace HK:=kT hb
    replace HB:=kH hb
    (try clear hb)
    (try clear hb2)
    (try clear hk)
    (try clear hi)
    refine hK.out _ _ ⟨bA,bB,bC,(foot_T118_0 (HR2.out _ (by repeat (first|exact HK.out|apply Kept.alloc|apply Kept.drewN|apply Kept.drew|refine Kept.setCell ?_ (.inr ah.out) _|refine Kept.setCell ?_ (.inr ah.out) _))) aa (of_eq_true aD) (of_eq_true aG)),(foot_T118_1 (HR2.out _ (by repeat (first|exact HK.out|apply Kept.alloc|apply Kept.drewN|apply Kept.drew|refine Kept.setCell ?_ (.inr ah.out) _|refine Kept.setCell ?_ (.inr ah.out) _))) aa (of_eq_true aD) (of_eq_true aG))⟩ (fun hHeld=>?_)
    clear hK K
    refine norm_ (a':=?_) ?_ ?_
    rotate_left
    ·show Act.put _ (some 25) _=_
     simp only [Act.put,List.setIfInBounds_toArray,List.set_cons_zero,List.set_cons_succ,i64_w,i32_w]
     rfl
    refine one_ (i:=12) (N:=some 9) (jb 14 8191) rfl rfl (one_of HT_.out (by kernel_rfl)) (by decide) (fun K hK=>?_)
    refine box_step ?hg (N:=9) ?hd (cs:=#[iV 0,iV 0]) (t:=118) ?hr ?_;(case hd=>rfl);(case hg=>rfl);(case hr=>first|(go_simp;done)|(go_simp;rfl))
    intro ae hg w16 hbox hb
    have bA:=(hb.cell (World.block_lt_of_cell? _ _ (hHeld.1))).trans (hHeld.1)
    have bB:=(hb.cell (World.block_lt_of_cell? _ _ (hHeld.2.1))).trans (hHeld.2.1)
    have bC:=(hb.cell (World.block_lt_of_cell? _ _ (hHeld.2.2.1))).trans (hHeld.2.2.1)
    have aj:=aM hbox
    have ah:=aM ((by rw [hg];exact (by first|exact HK.out.1|exact (show Kept w _ (fun k_=>aZ k_) from qT).1):w.heap.size<=ae))
    have bv:=aM ((by rw [hg];exact (below_size qB):w0.heap.size<=ae))
    replace ai:=aM (Kd.S_below (Kd.S_elderB (qS ai) ae (Nat.le_of_eq hg.symm)) hb)
    replace ag:=aM (Kd.R_below (Kd.R_elderB (qR ag) ae (Nat.le_of_eq hg.symm)) hb)
    replace av:=kQ av hb
    replace au:=kW hb au
    replace HK:=kT hb
    replace HB:=kH hb
    clear hb hbox hg
    refine hK.out _ _ ⟨bA,bB,bC,(foot_T118_0 (HR2.out _ (by repeat (first|exact HK.out|apply Kept.alloc|apply Kept.drewN|apply Kept.drew|refine Kept.setCell ?_ (.inr ah.out) _|refine Kept.setCell ?_ (.inr ah.out) _))) aa (of_eq_true aD) (of_eq_true aG)),(foot_T118_1 (HR2.out _ (by repeat (first|exact HK.out|apply Kept.alloc|apply Kept.drewN|apply Kept.drew|refine Kept.setCell ?_ (.inr ah.out) _|refine Kept.setCell ?_ (.inr ah.out) _))) aa (of_eq_true aD) (of_eq_true aG))⟩ (fun hHeld=>?_)
    clear hK K
    refine norm_ (a':=?_) ?_ ?_
    rotate_left
    ·show Act.put _ (some 9) _=_
     simp only [Act.put,List.setIfInBounds_toArray,List.set_cons_zero,List.set_cons_succ,i64_w,i32_w]
     rfl
    exact norm_ (by simp only [putAll,Act.put,List.setIfInBounds_toArray,List.set_cons_zero,List.set_cons_succ]) (hCont (ae) _ ⟨hHeld,(by (with_reducible repeat (first|apply Kd.R_alloc|apply Kd.R_drewN|apply Kd.R_drew));exact Kd.R_mono ag.out (fun _ hk=>⟨hk.1.1,⟨hk.1.2,hk.2⟩⟩)),(qS ai),au.out,(qK aj),ah.out,bv.out,(by repeat (first|(with_reducible first|exact HK.out|apply Kept.alloc|apply Kept.drewN|apply Kept.drew|refine Kept.setCell ?_ (.inr ah.out) _)|exact HK.out)),qB⟩)
   skip
   refine box_step ?hg (N:=9) ?hd (cs:=#[iV 0,iV 0]) (t:=118) ?hr ?_;(case hd=>rfl);(case hg=>rfl);(case hr=>first|(go_simp;done)|(go_simp;rfl))
   intro ae hg iC hbox hb
   have bA:=(hb.cell (World.block_lt_of_cell? _ _ (hHeld.1))).trans (hHeld.1)
   have bB:=(hb.cell (World.block_lt_of_cell? _ _ (hHeld.2.1))).trans (hHeld.2.1)
   have bC:=(hb.cell (World.block_lt_of_cell? _ _ (hHeld.2.2.1))).trans (hHeld.2.2.1)
   have aj:=aM hbox
   have ah:=aM ((by rw [hg];exact (by first|exact HK.out.1|exact (show Kept w _ (fun k_=>aZ k_) from qT).1):w.heap.size<=ae))
   have bv:=aM ((by rw [hg];exact (below_size qB):w0.heap.size<=ae))
   replace ai:=aM (Kd.S_below (Kd.S_elderB (qS ai) ae (Nat.le_of_eq hg.symm)) hb)
   replace ag:=aM (Kd.R_below (Kd.R_elderB (qR ag) ae (Nat.le_of_eq hg.symm)) hb)
   replace av:=kQ av hb
   replace au:=kW hb au
   replace HK:=kT hb
   replace HB:=kH hb
   clear hb hbox hg
   refine hK.out _ _ ⟨bA,bB,bC,(foot_T118_0 (HR2.out _ (by repeat (first|exact HK.out|apply Kept.alloc|apply Kept.drewN|apply Kept.drew|refine Kept.setCell ?_ (.inr ah.out) _|refine Kept.setCell ?_ (.inr ah.out) _))) aa (of_eq_true aD) (of_eq_true aG)),(foot_T118_1 (HR2.out _ (by repeat (first|exact HK.out|apply Kept.alloc|apply Kept.drewN|apply Kept.drew|refine Kept.setCell ?_ (.inr ah.out) _|refine Kept.setCell ?_ (.inr ah.out) _))) aa (of_eq_true aD) (of_eq_true aG))⟩ (fun hHeld=>?_)
   clear hK K
   refine norm_ (a':=?_) ?_ ?_
   rotate_left
   ·show Act.put _ (some 9) _=_
    simp only [Act.put,List.setIfInBounds_toArray,List.set_cons_zero,List.set_cons_succ,i64_w,i32_w]
    rfl
   refine one_ (i:=11) (N:=some 25) (jb 14 8191) rfl rfl (one_of HT_.out (by kernel_rfl)) (by decide) (fun K hK=>?_)
   refine goes_ func127 (by kernel_rfl) rfl #[.agg #[iV ((rd_T118 (rd_L8 af a1) aa).f0),iV ((rd_T118 (rd_L8 af a1) aa).f1)],.agg #[iV ((rd_T118 l2 aa).f0),iV ((rd_T118 l2 aa).f1)]] (by rfl) rfl rfl qM ?_
   with_reducible refine (Sb5.calls ((rd_T118 (rd_L8 af a1) aa).f0) ((rd_T118 (rd_L8 af a1) aa).f1) ((rd_T118 l2 aa).f0) ((rd_T118 l2 aa).f1) az aA _ gz.out).mono ?_
   rintro e w16 ⟨rfl,hb⟩
   have bA:=(hb.cell (World.block_lt_of_cell? _ _ (hHeld.1))).trans (hHeld.1)
   have bB:=(hb.cell (World.block_lt_of_cell? _ _ (hHeld.2.1))).trans (hHeld.2.1)
   have bC:=(hb.cell (World.block_lt_of_cell? _ _ (hHeld.2.2.1))).trans (hHeld.2.2.1)
   refine⟨_,rfl,?_⟩
   replace ai:=kS ai hb
   replace ag:=kR ag hb
   replace av:=kQ av hb
   replace au:=kW hb au
   replace aj:=kB aj hb
   replace HK:=aM (Kept.below (S:=(fun k_=>aZ k_)) (by repeat (first|(with_reducible first|exact HK.out|apply Kept.alloc|apply Kept.drewN|apply Kept.drew|refine Kept.setCell ?_ (.inr ah.out) _)|exact HK.out)) hb)
   replace HB:=kH hb
   (try clear hb)
   (try clear hb2)
   (try clear hk)
   (try clear hi)
   refine hK.out _ _ ⟨bA,bB,bC,(foot_T118_0 (HR2.out _ (by repeat (first|exact HK.out|apply Kept.alloc|apply Kept.drewN|apply Kept.drew|refine Kept.setCell ?_ (.inr ah.out) _|refine Kept.setCell ?_ (.inr ah.out) _))) aa (of_eq_true aD) (of_eq_true aG)),(foot_T118_1 (HR2.out _ (by repeat (first|exact HK.out|apply Kept.alloc|apply Kept.drewN|apply Kept.drew|refine Kept.setCell ?_ (.inr ah.out) _|refine Kept.setCell ?_ (.inr ah.out) _))) aa (of_eq_true aD) (of_eq_true aG))⟩ (fun hHeld=>?_)
   clear hK K
   refine norm_ (a':=?_) ?_ ?_
   rotate_left
   ·show Act.put _ (some 25) _=_
    simp only [Act.put,List.setIfInBounds_toArray,List.set_cons_zero,List.set_cons_succ,i64_w,i32_w]
    rfl
   exact norm_ (by simp only [putAll,Act.put,List.setIfInBounds_toArray,List.set_cons_zero,List.set_cons_succ]) (hCont (ae) _ ⟨hHeld,(by (with_reducible repeat (first|apply Kd.R_alloc|apply Kd.R_drewN|apply Kd.R_drew));exact Kd.R_mono ag.out (fun _ hk=>⟨hk.1.1,⟨hk.1.2,hk.2⟩⟩)),(qS ai),au.out,(qK aj),ah.out,bv.out,(by repeat (first|(with_reducible first|exact HK.out|apply Kept.alloc|apply Kept.drewN|apply Kept.drew|refine Kept.setCell ?_ (.inr ah.out) _)|exact HK.out)),qB⟩)
  rintro ae bi ⟨hS_,gG,gH,gI,gJ,gK,gL,gM,gN⟩
  have dW:Aside0 (Kd.R k118 118 bi w0.heap.size (fun k_=>(aZ k_\/w.heap.size<=k_)/\some k_≠(.slice (some ay) af.length bU:Value).ownBlock/\k_≠ae) (.slice (some ax) (rd_L8 af a1).length aC) (rd_L8 af a1)):=⟨gG⟩
  have dX:Aside0 (Kd.S (Kd.slice 118 k118) 104 bi w0.heap.size (fun k_=>(aZ k_\/w.heap.size<=k_)/\k_≠ae) (.slice (some ay) af.length bU) af):=⟨gH⟩
  have dY:Aside0 (bi.cell? (ay.add (a1).toNat)=some (.slice (some ax) (rd_L8 af a1).length aC)):=⟨gI⟩
  have dZ:Aside0 (bi.heap[ae]?=some (.cells #[iV 0,iV 0] 118 (0,0))):=⟨gJ⟩
  have d9:Aside0 (w.heap.size<=ae):=⟨gK⟩
  have gP:Aside0 (w0.heap.size<=ae):=⟨gL⟩
  have gQ:Aside0 (Kept w bi (fun k_=>aZ k_)):=⟨gM⟩
  have gT:Aside0 (Below w0.heap.size w0 bi):=⟨gN⟩
  clear ai
  clear HK
  clear HB
  clear gG gH gI gJ gK gL gM gN
  have ag:=dW
  have ai:=dX
  have au:=dY
  have aj:=dZ
  have ah:=d9
  have bv:=gP
  have HK:=gQ
  have HB:=gT
  clear dW dX dY dZ d9 gP gQ gT
  have hHeld:bi.cell? (ay.add (a1).toNat)=some (.slice (some ax) (rd_L8 af a1).length aC)/\bi.cell? (ax.add ((aa).toNat*2))=some (iV ((rd_T118 (rd_L8 af a1) aa).f0))/\bi.cell? ⟨(ax.add ((aa).toNat*2)).block,(ax.add ((aa).toNat*2)).off+1,none⟩=some (iV ((rd_T118 (rd_L8 af a1) aa).f1))/\bi.cell? (aI.add ((aa).toNat*2))=some (iV ((rd_T118 l2 aa).f0))/\bi.cell? ⟨(aI.add ((aa).toNat*2)).block,(aI.add ((aa).toNat*2)).off+1,none⟩=some (iV ((rd_T118 l2 aa).f1)):=hS_
  refine norm_ (a':=?_) ?_ ?_
  rotate_left
  ·simp only [putAll,Act.put,List.setIfInBounds_toArray,List.set_cons_zero,List.set_cons_succ]
   rfl
  refine one_ (i:=13) (N:=none) (jb 14 16383) rfl rfl (one_of HT_.out (by kernel_rfl)) (by decide) (fun K hK=>?_)
  have iD:bi.cell? ⟨ae,0,none⟩=some (iV 0):=(blk_cell aj.out 0).trans rfl
  have gU:=blk_frozen aj.out 0
  have iE:bi.cell? ⟨ae,1,none⟩=some (iV 0):=(blk_cell aj.out 1).trans rfl
  have gV:=blk_frozen aj.out 1
  refine skip_ (w1:=?_) (by rfl) rfl ?_ ?_
  rotate_left
  ·go_simp
   rfl
  refine hK.out _ _ ⟨((cell_far (p:=⟨ae,_,none⟩) (kf (Kd.own_blk (Kd.S_away ai.out (fun _ hk=>hk.2)))) _).trans (((cell_far (p:=⟨ae,_,none⟩) (kf (Kd.own_blk (Kd.S_away ai.out (fun _ hk=>hk.2)))) _).trans (hHeld.1)))),((cell_far (p:=⟨ae,_,none⟩) (kf (Kd.own_blk (Kd.R_away ag.out (fun _ hk=>hk.2.2)))) _).trans (((cell_far (p:=⟨ae,_,none⟩) (kf (Kd.own_blk (Kd.R_away ag.out (fun _ hk=>hk.2.2)))) _).trans (hHeld.2.1)))),((cell_far (p:=⟨ae,_,none⟩) (kf (Kd.own_blk (Kd.R_away ag.out (fun _ hk=>hk.2.2)))) _).trans (((cell_far (p:=⟨ae,_,none⟩) (kf (Kd.own_blk (Kd.R_away ag.out (fun _ hk=>hk.2.2)))) _).trans (hHeld.2.2.1)))),(foot_T118_0 (HR2.out _ (by repeat (first|exact HK.out|apply Kept.alloc|apply Kept.drewN|apply Kept.drew|refine Kept.setCell ?_ (.inr ah.out) _|refine Kept.setCell ?_ (.inr ah.out) _))) aa (of_eq_true aD) (of_eq_true aG)),(foot_T118_1 (HR2.out _ (by repeat (first|exact HK.out|apply Kept.alloc|apply Kept.drewN|apply Kept.drew|refine Kept.setCell ?_ (.inr ah.out) _|refine Kept.setCell ?_ (.inr ah.out) _))) aa (of_eq_true aD) (of_eq_true aG))⟩ (fun hHeld=>?_)
  clear hK K
  refine done_ (done_of HT_.out (by kernel_rfl)) ?_
  try go_wp2
  have dW:Aside0 (Kd.S (Kd.slice 118 k118) 104 ((bi.setCell ⟨ae,0,none⟩ (iV az)).setCell ⟨ae,1,none⟩ (iV aA)) w0.heap.size (fun k_=>(aZ k_\/w.heap.size<=k_)/\k_≠ae) (.slice (some ay) af.length bU) af):=⟨by (with_reducible repeat (first|apply Kd.S_alloc|apply Kd.S_drewN|apply Kd.S_drew));exact Kd.S_mono (Kd.S_far (p:=⟨ae,1,none⟩) (Kd.S_far (p:=⟨ae,0,none⟩) (Kd.S_mono ai.out (fun k_ hk=>(⟨hk,hk.2⟩:_/\k_≠ae))) (fun _ hk=>hk.2) (iV az)) (fun _ hk=>hk.2) (iV aA)) (fun _ hk=>⟨hk.1.1,hk.1.2⟩)⟩
  have dX:Aside0 (Kd.R k118 118 ((bi.setCell ⟨ae,0,none⟩ (iV az)).setCell ⟨ae,1,none⟩ (iV aA)) w0.heap.size (fun k_=>(aZ k_\/w.heap.size<=k_)/\some k_≠(.slice (some ay) af.length bU:Value).ownBlock/\k_≠ae) (.slice (some ax) (rd_L8 af a1).length aC) (rd_L8 af a1)):=⟨by (with_reducible repeat (first|apply Kd.R_alloc|apply Kd.R_drewN|apply Kd.R_drew));exact Kd.R_mono (Kd.R_far (p:=⟨ae,1,none⟩) (Kd.R_far (p:=⟨ae,0,none⟩) (Kd.R_mono ag.out (fun k_ hk=>(⟨hk,hk.2.2⟩:_/\k_≠ae))) (fun _ hk=>hk.2) (iV az)) (fun _ hk=>hk.2) (iV aA)) (fun _ hk=>⟨hk.1.1,⟨hk.1.2.1,hk.1.2.2⟩⟩)⟩
  have dY:Aside0 (((bi.setCell ⟨ae,0,none⟩ (iV az)).setCell ⟨ae,1,none⟩ (iV aA)).heap[ae]?=some (.cells #[iV az,iV aA] 118 (0,0))):=⟨qF aj⟩
  have dZ:Aside0 (Kept w ((bi.setCell ⟨ae,0,none⟩ (iV az)).setCell ⟨ae,1,none⟩ (iV aA)) (fun k_=>aZ k_)):=⟨by repeat (first|(with_reducible first|exact HK.out|apply Kept.alloc|apply Kept.drewN|apply Kept.drew|refine Kept.setCell ?_ (.inr ah.out) _)|exact HK.out)⟩
  have d9:Aside0 (Below w0.heap.size w0 ((bi.setCell ⟨ae,0,none⟩ (iV az)).setCell ⟨ae,1,none⟩ (iV aA))):=⟨qB⟩
  (try clear ai)
  (try clear ag)
  (try clear aj)
  (try clear HK)
  (try clear HB)
  generalize ((bi.setCell ⟨ae,0,none⟩ (iV az)).setCell ⟨ae,1,none⟩ (iV aA))=iF at dW dX dY dZ d9 ⊢
  have ai:=dW
  have ag:=dX
  have aj:=dY
  have HK:=dZ
  have HB:=d9
  clear dW dX dY dZ d9
  replace ai:=aM (Kd.S_drew ai.out)
  replace ag:=aM (Kd.R_drew ag.out)
  replace aj:=aM (blk_drew aj.out)
  replace HK:=aM (Kept.drew HK.out)
  replace HB:=aM (below_drew1 HB.out)
  have di:0<=(a1:Int):=qD
  have dn:a1 < (af.length:Int):=qD
  obtain⟨eu,fJ,dI,fK,aT,bL,bM⟩:=at_L8 (Kd.S_reads' ai.out).2.2 a1 di dn
  obtain rfl:ay=eu:=(by injection fK)
  obtain⟨gW,dJ,dK,bW⟩:=Kd.S_get ai.out [] a1 di (by first|exact dn|exact qD|(have e_:=(Kd.S_reads' ai.out).1;omega))
  obtain⟨fA,rfl,bn⟩:=dK
  have aJ:=bW 0 _ rfl
  rw [Nat.add_zero,show ((Kd.slice 118 k118)).sz=1 from rfl,Nat.mul_one] at aJ
  replace aJ:=Option.some.inj (aJ.symm.trans aT)
  rw [aJ] at bn
  have aU:=aM (show Kd.R k118 118 _ _ _ _ (rd_L8 af a1) from bn)
  clear aJ bn
  have dw:=aM aT
  clear bW dJ
  have aK:=aM bM
  have fB:=aM bL
  clear bM bL
  replace di:=eq_true di
  replace dn:=eq_true dn
  have dL:0<=(aa:Int):=qD
  have dM:aa < ((rd_L8 af a1).length:Int):=qD
  obtain⟨bN,fM,bO,bP⟩:=at_T118 (kC aK.out) aa dL dM
  cases fM
  replace dL:=eq_true dL
  replace dM:=eq_true dM
  refine start_ (n:=9) (S:=fun w'=>w'.cell? ⟨ae,0,none⟩=some (iV az)/\w'.cell? ⟨ae,1,none⟩=some (iV aA)/\w'.cell? (ay.add (a1).toNat)=some (.slice (some bN) (rd_L8 af a1).length dI)/\w'.cell? (bN.add ((aa).toNat*2))=some (iV ((rd_T118 (rd_L8 af a1) aa).f0))/\w'.cell? ⟨(bN.add ((aa).toNat*2)).block,(bN.add ((aa).toNat*2)).off+1,none⟩=some (iV ((rd_T118 (rd_L8 af a1) aa).f1))) (ds:=[]) (jb 9 0) (by kernel_rfl) rfl rfl ⟨(blk_cell aj.out 0).trans rfl,(blk_cell aj.out 1).trans rfl,aT,bO,bP⟩ (fun hHeld=>?_);refine with_tabW Sb1.tab6 Sb1.bits6 (fun HT_ HW_=>?_)
  generalize iF.drew=iG at ai ag aj HK HB aU aK dw aT bO bP hHeld ⊢
  refine jp 1 27 (jb 9 2) ?_
  refine jp 2 28 (jb 9 6) ?_
  refine jp 3 29 (jb 9 14) ?_
  refine jp 5 31 (jb 9 46) ?_
  refine jt 0 26 (jb 9 47) ?_
  refine jt 4 30 (jb 9 63) ?_
  refine jp 6 32 (jb 9 127) ?_
  refine jt 7 33 (jb 9 255) ?_
  have H:=dC.out;clear dC
  by_cases c11:(!(az == ((rd_T118 (rd_L8 af a1) aa).f0)) || (!(aA == ((rd_T118 (rd_L8 af a1) aa).f1))))=true
  ·rw [if_pos c11] at H
   have eB:(!(az == ((rd_T118 (rd_L8 af a1) aa).f0)) || (!(aA == ((rd_T118 (rd_L8 af a1) aa).f1))))=true:=c11
   clear c11
   obtain⟨eD,bX⟩:=ky (((rd_L8 af a1).set (aa:Int).toNat (⟨az,aA⟩:S118)):List (S118))
   first|replace H:=kz bX H|rw [<- bX.out] at H
   obtain⟨fO,bY⟩:=ky ((af.set (a1:Int).toNat eD):List (List (S118)))
   first|replace H:=kz bY H|rw [<- bY.out] at H
   have H':=aM H
   clear H
   refine jp 8 34 (jb 9 511) ?_
   refine done_ (done_of HT_.out (by kernel_rfl)) ?_
   try go_wp2
   replace ai:=aM (Kd.S_drew ai.out)
   replace ag:=aM (Kd.R_drew ag.out)
   replace aU:=aM (Kd.R_drew aU.out)
   replace aj:=aM (blk_drew aj.out)
   replace aK:=aM (Kd.C_drew aK.out)
   replace HK:=aM (Kept.drew HK.out)
   replace HB:=aM (below_drew1 HB.out)
   have dx:0<=(a1:Int):=qD
   have dz:a1 < (af.length:Int):=qD
   obtain⟨eF,fP,dN,fQ,aV,bQ,bR⟩:=at_L8 (Kd.S_reads' ai.out).2.2 a1 dx dz
   obtain rfl:ay=eF:=(by injection fQ)
   obtain⟨gX,dO,dP,bZ⟩:=Kd.S_get ai.out [] a1 dx (by first|exact dz|exact qD|(have e_:=(Kd.S_reads' ai.out).1;omega))
   obtain⟨fC,rfl,bq⟩:=dP
   have aN:=bZ 0 _ rfl
   rw [Nat.add_zero,show ((Kd.slice 118 k118)).sz=1 from rfl,Nat.mul_one] at aN
   replace aN:=Option.some.inj (aN.symm.trans aV)
   rw [aN] at bq
   have aW:=aM (show Kd.R k118 118 _ _ _ _ (rd_L8 af a1) from bq)
   clear aN bq
   have bS:=aM aV
   clear bZ dO
   have bu:=aM bR
   have fD:=aM bQ
   clear bR bQ
   replace dx:=eq_true dx
   replace dz:=eq_true dz
   have fT:0<=(aa:Int):=qD
   have fU:(aa:Int) < (((rd_L8 af a1).length:Int):Int):=qD
   obtain⟨bD,iH,eG,eH,fV,iI,eO⟩:=Kd.R_form aW.out (by omega)
   (first|cases eG|(injection eG with ea_ en_ ec_;(first|subst ea_|(injection ea_ with ea_;subst ea_));subst ec_;clear en_))
   have eP:=aM eH
   have fZ:=aM eO
   clear eH fV eO
   have cz:=aM (show (aZ bD\/w.heap.size<=bD) from (aW.out.1 _ rfl).1.1)
   obtain⟨iJ,eQ,eT,cB,cK⟩:=Kd.R_elem aW.out z118 (aa:Int) fT fU
   obtain rfl:=k118_openM eT
   have dQ:World.cell? _ ⟨bD,(aa:Int).toNat*2,none⟩=some (iV ((rd_T118 (rd_L8 af a1) aa).f0)):=cB 0 _ rfl
   have dR:World.cell? _ ⟨bD,(aa:Int).toNat*2+1,none⟩=some (iV ((rd_T118 (rd_L8 af a1) aa).f1)):=cB 1 _ rfl
   have dS:World.frozen? _ ⟨bD,(aa:Int).toNat*2,none⟩=false:=cK 0
   have dU:World.frozen? _ ⟨bD,(aa:Int).toNat*2+1,none⟩=false:=cK 1
   clear eQ cB cK;(try clear eT)
   replace fT:=eq_true fT
   replace fU:=eq_true fU
   have gm:(a1:Int) < (af.length:Int):=(by have h_:(a1:Int) < ((af.length:Int):Int):=qD;first|exact h_|(have e_:=(Kd.S_reads' ai.out).1;omega)|simpa only [List.length_set,List.length_set] using h_)
   obtain⟨gY,iK,bT,gp,bz,eU,dD⟩:=Kd.S_borrow ai.out [] (a1:Int) (qD) gm
   obtain⟨gq,rfl,aY⟩:=gp
   have dA:=bz 0 _ rfl
   rw [Nat.add_zero,show ((Kd.slice 118 k118)).sz=1 from rfl,Nat.mul_one] at dA
   replace dA:=Option.some.inj (dA.symm.trans bS.out)
   subst dA
   clear bz bT
   replace aY:=(show Kd.R k118 118 _ _ _ _ (rd_L8 af a1) from aY)
   obtain⟨iL,bT,eX,bz,eY⟩:=Kd.R_elem aY z118 (aa:Int) (qD) (by have h_:(aa:Int) < (((rd_L8 af a1).length:Int):Int):=qD;first|exact h_|(have e_:=(Kd.R_reads' bu.out).1;omega)|simpa using h_)
   obtain rfl:=k118_openM eX
   have dB:=Kd.R_seg aY (aa:Int) (qD) (by have h_:(aa:Int) < (((rd_L8 af a1).length:Int):Int):=qD;first|exact h_|(have e_:=(Kd.R_reads' bu.out).1;omega)|simpa using h_) (seg:=[iV az,iV aA]) (j:=0) bT bz (show 2<=2 from by decide) (x':=(⟨az,aA⟩:S118)) (k118_mkM _ _ _ (⟨az,aA⟩:S118)) (fun _ hk=>hk)
   clear bT bz eY eX
   rw [<- bX.out] at dB
   have dV:=dD dB.2 (fun k_ e_=>by injection e_ with e_;subst e_;exact aY.1 _ rfl) (x':=eD) (Kd.M_row dB.1)
   rw [<- bY.out] at dV
   have eZ:=aM dV
   clear dB dV dD eU
   refine start_ (n:=8) (S:=fun w'=>w'.cell? ⟨ae,0,none⟩=some (iV az)/\w'.cell? ⟨ae,1,none⟩=some (iV aA)/\w'.cell? (ay.add (a1).toNat)=some (.slice (some ⟨bD,0,none⟩) (rd_L8 af a1).length dN)) (ds:=[7]) (jb 8 0) (by kernel_rfl) rfl rfl ⟨(blk_cell aj.out 0).trans rfl,(blk_cell aj.out 1).trans rfl,aV⟩ (fun hHeld=>?_);refine with_tabW Sb1.tab7 Sb1.bits7 (fun HT_ HW_=>?_)
   generalize iG.drew=iO at ai ag aU aj aK HK HB fZ aW eZ bu bS dS dU dQ dR aV hHeld ⊢
   refine jp 0 35 (jb 8 1) ?_
   refine jp 1 36 (jb 8 3) ?_
   refine jp 2 37 (jb 8 7) ?_
   refine jp 4 39 (jb 8 23) ?_
   refine jt 3 38 (jb 8 31) ?_
   refine jt 5 40 (jb 8 63) ?_
   refine jp 6 41 (jb 8 127) ?_
   refine last_ (i:=7) (N:=none) (jb 8 255) rfl rfl (one_of HT_.out (by kernel_rfl)) (by decide) (fun K hK=>?_)
   refine skip_ (w1:=?_) (by rfl) rfl ?_ ?_
   rotate_left
   ·go_simp
    rfl
   refine hK.out _ _ ?_
   clear hK K
   refine done_ (done_of HT_.out (by kernel_rfl)) ?_
   try go_wp2
   go_roundg k1
   case measure=>have:=fe.out;omega
   exact⟨(fO),(true),(wrap64 (aa+1)),qZ,qZ,H',⟨by have:=fe.out;omega⟩,⟨by (with_reducible repeat (first|apply Kd.S_alloc|apply Kd.S_drewN|apply Kd.S_drew));exact Kd.S_mono eZ.out (fun _ hk=>hk.1)⟩,⟨by repeat (first|(with_reducible first|exact HK.out|apply Kept.alloc|apply Kept.drewN|apply Kept.drew|refine Kept.setCell ?_ cz.out _|refine Kept.setCell ?_ cz.out _|refine Kept.setCell ?_ (.inr ah.out) _)|exact HK.out)⟩,⟨by repeat (first|(with_reducible first|exact HB.out|apply below_alloc|apply pw_below_drewN|apply below_drew1|refine below_set ?_ eP.out|refine below_set ?_ eP.out|refine below_set ?_ bv.out)|exact HB.out)⟩⟩
  rw [if_neg c11] at H
  have eB:(!(az == ((rd_T118 (rd_L8 af a1) aa).f0)) || (!(aA == ((rd_T118 (rd_L8 af a1) aa).f1))))=false:=by simpa using c11
  clear c11
  have H':=aM H
  clear H
  refine jp 8 34 (jb 9 511) ?_
  refine done_ (done_of HT_.out (by kernel_rfl)) ?_
  try go_wp2
  go_roundg k1
  case measure=>have:=fe.out;omega
  exact⟨(af),(cO),(wrap64 (aa+1)),qZ,qZ,H',⟨by have:=fe.out;omega⟩,⟨by (with_reducible repeat (first|apply Kd.S_alloc|apply Kd.S_drewN|apply Kd.S_drew));exact Kd.S_mono ai.out (fun _ hk=>hk.1)⟩,⟨by repeat (first|(with_reducible first|exact HK.out|apply Kept.alloc|apply Kept.drewN|apply Kept.drew|refine Kept.setCell ?_ (.inr ah.out) _)|exact HK.out)⟩,⟨qB⟩⟩
 obtain⟨rfl,rfl⟩:=oJ2 H
 go_wp2
 go_ret
 exact⟨qW,qS ai,qB,qT⟩
mutual
def Sb7.l0:Nat->List (S27)->List (List (S118))->Bool->Int->Option (Bool × (List (List (S118))))
 | 0,_,_,_,_=>none
 | k+1,x0,x1,x5,x6=>if x6 < (x0.length:Int) then (if 0<=x6 then (if x6 < (x1.length:Int) then (if 0 < ((rd_L8 x1 x6).length:Int) then (if ((rd_T118 (rd_L8 x1 x6) 0).f0)=0 then (Sb7.l0 k x0 x1 x5 (wrap64 (x6+1))) else ((Sb2.f k x0 (rd_L8 x1 x6) x6).bind fun bg=>((SaY.f k ((rd_T27 x0 x6).f0) ((rd_T27 x0 x6).f1) ((rd_T27 x0 x6).f2) ((rd_T27 x0 x6).f3) ((rd_T27 x0 x6).f4) (rd_L8 x1 x6)).bind fun aj=>(Sb7.l1 k x0 x1 x5 x6 bg aj 0)))) else (none)) else (none)) else (none)) else (some (x5,x1))
def Sb7.l1:Nat->List (S27)->List (List (S118))->Bool->Int->List Int->List (S118)->Int->Option (Bool × (List (List (S118))))
 | 0,_,_,_,_,_,_,_=>none
 | k+1,x0,x1,x5,x6,x7,x8,x9=>if x9 < (x7.length:Int) then (if 0<=x9 then ((Sb1.f k x1 (rd x7 x9) x8).bind fun cB=>(if cB.1=true then (Sb7.l1 k x0 cB.2 true x6 x7 x8 (wrap64 (x9+1))) else (Sb7.l1 k x0 cB.2 x5 x6 x7 x8 (wrap64 (x9+1))))) else (none)) else (Sb7.l0 k x0 x1 x5 (wrap64 (x6+1)))
end
def Sb7.f (k:Nat) (l0:List (S27)) (l1:List (List (S118))):Option (Bool × (List (List (S118)))):=Sb7.l0 k l0 l1 false 0
def Sb7.T7:Bool × List (List Nat × List Nat):=(true,[([],[]),([],[]),([0,1],[0,1]),([2],[2]),([],[]),([],[]),([4,5],[4,5]),([6],[6]),([3,7],[3,7]),([8,8,0,1,2,3,4,5,6,7,8],[8])])
def Sb7.B7:List Nat:=[0,0,3,7,0,0,48,112,255,511]
theorem Sb7.tab7:rtab .any (opsOf f112 7)=Sb7.T7:=by kernel_rfl
theorem Sb7.bits7:waitsOk Sb7.T7.2 Sb7.B7=true:=by kernel_rfl
theorem Sb7.calls (k:Nat) (A0:Option Addr) (c0:Nat) (l0:List (S27)) (aG:Nat->Prop) (bi:Value) (l1:List (List (S118))) (r1:Bool) (r2:List (List (S118))) (w0 w:World) (hB:Below w0.heap.size w0 w) (hr0:∀ W_,Kept w W_ (fun k_=>aG k_)->Kd.C k27 W_ A0 l0.length l0) (hc0:l0.length<=c0) (ho1:Kd.S (Kd.slice 118 k118) 104 w w0.heap.size aG bi l1) (h:Sb7.f k l0 l1=some (r1,r2)) :
  Calls prog 112 #[.slice A0 l0.length c0,bi] w fun e w'=>e = .returned (.bool r1)/\Kd.S (Kd.slice 118 k118) 104 w' w0.heap.size (fun k_=>(aG k_\/w.heap.size<=k_)) bi r2/\Below w0.heap.size w0 w'/\Kept w w' (fun k_=>aG k_):=by
 have fV:=underlying27
 have cz:=aM hr0
 have fZ:=aM hc0
 clear hr0 hc0
 have gm:=aM (show Kd.S (Kd.slice 118 k118) 104 w w0.heap.size (fun k_=>(aG k_\/w.heap.size<=k_)) bi l1 from Kd.S_mono ho1 (fun k_ hk=>(.inl hk)))
 have HK:=aM (Kept.refl w (fun k_=>aG k_))
 have HW0:=aM hB.size
 have HB:=aM hB
 clear hB
 have H:(Sb7.l0 k l0 l1 false 0)=some (r1,r2):=h
 clear h
 have H':=aM H
 clear H
 go_enter func112,ntmps112
 go_wp2
 go_loopg [5,6] k (fun kq v5 v6 w'=>∃ (au:List (List (S118))) (cK:Bool) (aa:Int),v5 = .bool cK/\v6 = iV aa/\Aside0 (Sb7.l0 kq l0 au cK aa=some (r1,r2))/\Aside0 (kq<=k)/\Aside0 (Kd.S (Kd.slice 118 k118) 104 w' w0.heap.size (fun k_=>(aG k_\/w.heap.size<=k_)) bi au)/\Aside0 (Kept w w' (fun k_=>aG k_))/\Aside0 (Below w0.heap.size w0 w'))
 case atStart=>exact⟨(l1),(false),(0),qZ,qZ,H',⟨Nat.le_refl _⟩,⟨qS gm⟩,⟨qT⟩,⟨qB⟩⟩
 clear H'
 obtain⟨au,cK,aa,rfl,rfl,HA,dI,ae,HK,HB⟩:=hrel
 rcases gk with _|k1
 ·exact absurd HA.out (by simp [Sb7.l0])
 have H:=HA.out
 clear HA
 simp only [Sb7.l0] at H
 replace H:=jD H;rcases H with ⟨dU,H⟩ | ⟨dU,H⟩
 ·replace H:=jI H;obtain⟨eX,H⟩:=H
  replace H:=jI H;obtain⟨eY,H⟩:=H
  replace H:=jU H;obtain⟨c6,H⟩:=H
  have eZ:=decide_eq_true c6
  have fe:decide (0 < (rd_L8 au aa).length)=true:=decide_eq_true (by omega)
  clear c6
  replace H:=jE H;rcases H with ⟨dV,dW,H⟩ | ⟨c7,dV,dW,H⟩
  ·have H':=aM H
   clear H
   obtain⟨gK,gL,gp⟩:=Kd.S_slice ae.out
   subst gp
   have bv:0<=(aa:Int):=qD
   have bz:aa < (au.length:Int):=qD
   obtain⟨aH,dK,cO,dL,aI,aJ,aK⟩:=at_L8 (Kd.S_reads' ae.out).2.2 aa bv bz
   cases dL
   obtain⟨dX,bS,bT,bn⟩:=Kd.S_get ae.out [] aa bv (by first|exact bz|exact qD|(have e_:=(Kd.S_reads' ae.out).1;omega))
   obtain⟨dC,rfl,aD⟩:=bT
   have af:=bn 0 _ rfl
   rw [Nat.add_zero,show ((Kd.slice 118 k118)).sz=1 from rfl,Nat.mul_one] at af
   replace af:=Option.some.inj (af.symm.trans aI)
   rw [af] at aD
   have av:=aM (show Kd.R k118 118 _ _ _ _ (rd_L8 au aa) from aD)
   clear af aD
   clear bn bS
   have ah:=aM aK
   have dD:=aM aJ
   clear aK aJ
   replace bv:=eq_true bv
   replace bz:=eq_true bz
   have bO:0<=(0:Int):=(by omega)
   have bP:0 < ((rd_L8 au aa).length:Int):=qD
   obtain⟨dJ,dM,ax,ay⟩:=at_T118 (kC ah.out) 0 bO bP
   cases dM
   have dY:(0 < (rd_L8 au aa).length)=True:=eq_true (by omega)
   (try rw [show ((0:Int)).toNat=0 from rfl] at ax)
   (try rw [show 0*2=0 from rfl] at ax)
   (try rw [Addr.add_zero'] at ax)
   (try rw [show ((0:Int)).toNat=0 from rfl] at ay)
   (try rw [show 0*2=0 from rfl] at ay)
   (try rw [Addr.add_zero'] at ay)
   replace bO:=eq_true bO
   replace bP:=eq_true bP
   go_wp2
   go_roundg k1
   case measure=>have:=dI.out;omega
   exact⟨(au),(cK),(wrap64 (aa+1)),qZ,qZ,H',⟨by have:=dI.out;omega⟩,⟨qS ae⟩,⟨qT⟩,⟨qB⟩⟩
  obtain⟨bg,A9,H⟩:=qE H
  try dsimp only at H
  obtain⟨aj,gq,H⟩:=qE H
  try dsimp only at H
  have H':=aM H
  clear H
  obtain⟨gu,df,fo⟩:=Kd.S_slice ae.out
  subst fo
  have bv:0<=(aa:Int):=qD
  have bz:aa < (au.length:Int):=qD
  obtain⟨aH,dK,cO,dL,aI,aJ,aK⟩:=at_L8 (Kd.S_reads' ae.out).2.2 aa bv bz
  cases dL
  obtain⟨dX,bS,bT,bn⟩:=Kd.S_get ae.out [] aa bv (by first|exact bz|exact qD|(have e_:=(Kd.S_reads' ae.out).1;omega))
  obtain⟨dC,rfl,aD⟩:=bT
  have af:=bn 0 _ rfl
  rw [Nat.add_zero,show ((Kd.slice 118 k118)).sz=1 from rfl,Nat.mul_one] at af
  replace af:=Option.some.inj (af.symm.trans aI)
  rw [af] at aD
  have av:=aM (show Kd.R k118 118 _ _ _ _ (rd_L8 au aa) from aD)
  clear af aD
  clear bn bS
  have ah:=aM aK
  have dD:=aM aJ
  clear aK aJ
  replace bv:=eq_true bv
  replace bz:=eq_true bz
  have bO:0<=(0:Int):=(by omega)
  have bP:0 < ((rd_L8 au aa).length:Int):=qD
  obtain⟨dJ,dM,ax,ay⟩:=at_T118 (kC ah.out) 0 bO bP
  cases dM
  have dY:(0 < (rd_L8 au aa).length)=True:=eq_true (by omega)
  (try rw [show ((0:Int)).toNat=0 from rfl] at ax)
  (try rw [show 0*2=0 from rfl] at ax)
  (try rw [Addr.add_zero'] at ax)
  (try rw [show ((0:Int)).toNat=0 from rfl] at ay)
  (try rw [show 0*2=0 from rfl] at ay)
  (try rw [Addr.add_zero'] at ay)
  replace bO:=eq_true bO
  replace bP:=eq_true bP
  have dh:0<=(aa:Int):=qD
  have di:aa < (au.length:Int):=qD
  obtain⟨dZ,fq,fu,fw,bC,bW,bX⟩:=at_L8 (Kd.S_reads' ae.out).2.2 aa dh di
  obtain rfl:aH=dZ:=(by injection fw)
  obtain⟨fK,dN,dO,dn⟩:=Kd.S_get ae.out [] aa dh (by first|exact di|exact qD|(have e_:=(Kd.S_reads' ae.out).1;omega))
  obtain⟨eG,rfl,bD⟩:=dO
  have aN:=dn 0 _ rfl
  rw [Nat.add_zero,show ((Kd.slice 118 k118)).sz=1 from rfl,Nat.mul_one] at aN
  replace aN:=Option.some.inj (aN.symm.trans bC)
  rw [aN] at bD
  have az:=aM (show Kd.R k118 118 _ _ _ _ (rd_L8 au aa) from bD)
  clear aN bD
  clear dn dN
  have aA:=aM bX
  have dE:=aM bW
  clear bX bW
  replace dh:=eq_true dh
  replace di:=eq_true di
  have ea_:=Option.some.inj (aI.symm.trans bC)
  injection ea_ with ea_ en_ ec_
  subst ea_
  subst ec_
  clear en_
  try go_wp2_with (first|((with_reducible refine jc 120 30 rfl rfl ?_);refine jG func120 #[.slice A0 l0.length c0,.slice (some dJ) (rd_L8 au aa).length cO,iV aa] ?_;refine (Sb2.calls k1 _ _ l0 _ _ (rd_L8 au aa) aa bg _ ?bq ?bu ?bQ ?bR A9.out).mono ?_;(case bq=>exact Kd.C_kept_now cz.out qT);(case bu=>exact fZ.out);(case bQ=>repeat (first|exact (kC aA.out)|(with_reducible refine Kd.C_alloc ?_ _)|(with_reducible refine Kd.C_drewN ?_ _)|(with_reducible refine Kd.C_drew ?_)));(case bR=>exact dE.out);rintro e gz ⟨fA,rfl,ho0,hb⟩;refine⟨_,rfl,?_⟩;have bB:=aM (Kd.R_lower (Kd.R_newM (M:=fun k_=>(aG k_\/w.heap.size<=k_)) ho0 (by first|exact HK.out.1|exact (show Kept w _ (fun k_=>aG k_) from qT).1) (fun k_ h_=>.inr h_)) (below_size qB));replace ae:=kS ae hb;replace av:=kR av hb;replace az:=kR az hb;replace ah:=kQ ah hb;replace aA:=kQ aA hb;replace HK:=kT hb;replace HB:=kH hb;clear hb;(try clear ho0)))
  replace ae:=aM (Kd.S_drew ae.out)
  replace av:=aM (Kd.R_drew av.out)
  replace az:=aM (Kd.R_drew az.out)
  replace bB:=aM (Kd.R_drew bB.out)
  replace ah:=aM (Kd.C_drew ah.out)
  replace aA:=aM (Kd.C_drew aA.out)
  replace HK:=aM (Kept.drew HK.out)
  replace HB:=aM (below_drew1 HB.out)
  have aQ:0<=(aa:Int):=qD
  have aT:aa < (l0.length:Int):=qD
  obtain⟨aU,fB,bE,bF,bG,bH,bI⟩:=at_T27 (Kd.C_kept_now cz.out HK.out) aa aQ aT
  have eH:=bI
  have eO:=bH
  have eP:=bG
  have eQ:=bF
  have eT:=bE
  cases fB
  replace aQ:=eq_true aQ
  replace aT:=eq_true aT
  have dw:0<=(aa:Int):=qD
  have dx:aa < (au.length:Int):=qD
  obtain⟨d9,dz,dA,fC,aX,bY,bZ⟩:=at_L8 (Kd.S_reads' ae.out).2.2 aa dw dx
  obtain rfl:aH=d9:=(by injection fC)
  obtain⟨fM,dP,dQ,dB⟩:=Kd.S_get ae.out [] aa dw (by first|exact dx|exact qD|(have e_:=(Kd.S_reads' ae.out).1;omega))
  obtain⟨eU,rfl,bJ⟩:=dQ
  have aV:=dB 0 _ rfl
  rw [Nat.add_zero,show ((Kd.slice 118 k118)).sz=1 from rfl,Nat.mul_one] at aV
  replace aV:=Option.some.inj (aV.symm.trans aX)
  rw [aV] at bJ
  have aY:=aM (show Kd.R k118 118 _ _ _ _ (rd_L8 au aa) from bJ)
  clear aV bJ
  clear dB dP
  have aZ:=aM bZ
  have dF:=aM bY
  clear bZ bY
  replace dw:=eq_true dw
  replace dx:=eq_true dx
  refine start_ (n:=10) (S:=fun w'=>w'.cell? (aU.add ((aa).toNat*5))=some (iV ((rd_T27 l0 aa).f0))/\w'.cell? ⟨(aU.add ((aa).toNat*5)).block,(aU.add ((aa).toNat*5)).off+1,none⟩=some (iV ((rd_T27 l0 aa).f1))/\w'.cell? ⟨(aU.add ((aa).toNat*5)).block,(aU.add ((aa).toNat*5)).off+2,none⟩=some (iV ((rd_T27 l0 aa).f2))/\w'.cell? ⟨(aU.add ((aa).toNat*5)).block,(aU.add ((aa).toNat*5)).off+3,none⟩=some (iV ((rd_T27 l0 aa).f3))/\w'.cell? ⟨(aU.add ((aa).toNat*5)).block,(aU.add ((aa).toNat*5)).off+4,none⟩=some (iV ((rd_T27 l0 aa).f4))/\w'.cell? (aH.add (aa).toNat)=some (.slice dz (rd_L8 au aa).length dA)) (ds:=[]) (jb 10 0) (by kernel_rfl) rfl rfl ⟨(foot_T27_0 (cz.out _ (by repeat (first|exact HK.out|apply Kept.alloc|apply Kept.drewN|apply Kept.drew))) aa (of_eq_true aQ) (of_eq_true aT)),(foot_T27_1 (cz.out _ (by repeat (first|exact HK.out|apply Kept.alloc|apply Kept.drewN|apply Kept.drew))) aa (of_eq_true aQ) (of_eq_true aT)),(foot_T27_2 (cz.out _ (by repeat (first|exact HK.out|apply Kept.alloc|apply Kept.drewN|apply Kept.drew))) aa (of_eq_true aQ) (of_eq_true aT)),(foot_T27_3 (cz.out _ (by repeat (first|exact HK.out|apply Kept.alloc|apply Kept.drewN|apply Kept.drew))) aa (of_eq_true aQ) (of_eq_true aT)),(foot_T27_4 (cz.out _ (by repeat (first|exact HK.out|apply Kept.alloc|apply Kept.drewN|apply Kept.drew))) aa (of_eq_true aQ) (of_eq_true aT)),aX⟩ (fun hHeld=>?_);refine with_tabW Sb7.tab7 Sb7.bits7 (fun HT_ HW_=>?_)
  generalize gz.drew=gM at ae av az bB ah aA HK HB aY aZ bE bF bG bH bI aX hHeld ⊢
  refine jp 0 31 (jb 10 1) ?_
  refine jp 1 32 (jb 10 3) ?_
  refine jp 2 33 (jb 10 7) ?_
  refine jp 4 35 (jb 10 23) ?_
  refine jp 5 36 (jb 10 55) ?_
  refine jp 6 37 (jb 10 119) ?_
  refine jt 3 34 (jb 10 127) ?_
  refine jt 7 38 (jb 10 255) ?_
  refine one_ (i:=8) (N:=some 39) (jb 10 511) rfl rfl (one_of HT_.out (by kernel_rfl)) (by decide) (fun K hK=>?_)
  refine goes_ func121 (by kernel_rfl) rfl #[.agg #[iV ((rd_T27 l0 aa).f0),iV ((rd_T27 l0 aa).f1),iV ((rd_T27 l0 aa).f2),iV ((rd_T27 l0 aa).f3),iV ((rd_T27 l0 aa).f4)],.slice dz (rd_L8 au aa).length dA] (by rfl) rfl rfl qM ?_
  with_reducible refine (SaY.calls k1 ((rd_T27 l0 aa).f0) ((rd_T27 l0 aa).f1) ((rd_T27 l0 aa).f2) ((rd_T27 l0 aa).f3) ((rd_T27 l0 aa).f4) _ _ (rd_L8 au aa) aj _ ?bq ?bu gq.out).mono ?_
  (case bq=>repeat (first|exact (kC aZ.out)|(with_reducible refine Kd.C_alloc ?_ _)|(with_reducible refine Kd.C_drewN ?_ _)|(with_reducible refine Kd.C_drew ?_)))
  (case bu=>exact dF.out)
  rintro e gN ⟨ek,rfl,ho0,hb⟩
  have fD:=(hb.cell (World.block_lt_of_cell? _ _ (hHeld.2.2.2.2.2))).trans (hHeld.2.2.2.2.2)
  refine⟨_,rfl,?_⟩
  have eu:=aM (Kd.R_lower (Kd.R_new' (Kd.R_new' (Kd.R_new' (Kd.R_newM (M:=fun k_=>(aG k_\/w.heap.size<=k_)) ho0 (by first|exact HK.out.1|exact (show Kept w _ (fun k_=>aG k_) from qT).1) (fun k_ h_=>.inr h_)) (Kd.R_lt (qR av))) (Kd.R_lt (qR az))) (Kd.R_lt (qR aY))) (below_size qB))
  replace ae:=aM (Kd.S_elder' (qS ae) (Kd.R_base ho0) hb)
  replace av:=kO av ho0 hb
  replace az:=kO az ho0 hb
  replace bB:=kR bB hb
  replace aY:=kO aY ho0 hb
  replace ah:=kQ ah hb
  replace aA:=kQ aA hb
  replace aZ:=kQ aZ hb
  replace HK:=kT hb
  replace HB:=kH hb
  (try clear hb)
  (try clear hb2)
  (try clear hk)
  (try clear hi)
  (try clear ho0)
  refine hK.out _ _ ⟨(foot_T27_0 (cz.out _ (by repeat (first|exact HK.out|apply Kept.alloc|apply Kept.drewN|apply Kept.drew))) aa (of_eq_true aQ) (of_eq_true aT)),(foot_T27_1 (cz.out _ (by repeat (first|exact HK.out|apply Kept.alloc|apply Kept.drewN|apply Kept.drew))) aa (of_eq_true aQ) (of_eq_true aT)),(foot_T27_2 (cz.out _ (by repeat (first|exact HK.out|apply Kept.alloc|apply Kept.drewN|apply Kept.drew))) aa (of_eq_true aQ) (of_eq_true aT)),(foot_T27_3 (cz.out _ (by repeat (first|exact HK.out|apply Kept.alloc|apply Kept.drewN|apply Kept.drew))) aa (of_eq_true aQ) (of_eq_true aT)),(foot_T27_4 (cz.out _ (by repeat (first|exact HK.out|apply Kept.alloc|apply Kept.drewN|apply Kept.drew))) aa (of_eq_true aQ) (of_eq_true aT)),fD⟩ (fun hHeld=>?_)
  clear hK K
  refine norm_ (a':=?_) ?_ ?_
  rotate_left
  ·show Act.put _ (some 39) _=_
   simp only [Act.put,List.setIfInBounds_toArray,List.set_cons_zero,List.set_cons_succ,i64_w,i32_w]
   rfl
  refine jp 9 8 (jb 10 1023) ?_
  refine done_ (done_of HT_.out (by kernel_rfl)) ?_
  try go_wp2
  go_loopg [5,9] k1 (fun kq v5 v9 w'=>∃ (bA:List (List (S118))) (dG:Bool) (aW:Int),v5 = .bool dG/\v9 = iV aW/\Aside0 (Sb7.l1 kq l0 bA dG aa bg aj aW=some (r1,r2))/\Aside0 (kq<=k1)/\Aside0 (Kd.S (Kd.slice 118 k118) 104 w' w0.heap.size (fun k_=>(aG k_\/w.heap.size<=k_)/\some k_≠(ek:Value).ownBlock) (.slice (some aH) au.length df) bA)/\Aside0 (Kd.R (Kd.int .i64) 3 w' w0.heap.size (fun k_=>(aG k_\/w.heap.size<=k_)) fA bg)/\Aside0 (Kd.R k118 118 w' w0.heap.size (fun k_=>(aG k_\/w.heap.size<=k_)) ek aj)/\Aside0 (Kept w w' (fun k_=>aG k_))/\Aside0 (Below w0.heap.size w0 w'))
  case atStart=>exact⟨(au),(cK),(0),qZ,qZ,H',⟨Nat.le_refl _⟩,⟨qS ae⟩,⟨by (with_reducible repeat (first|apply Kd.R_alloc|apply Kd.R_drewN|apply Kd.R_drew));exact Kd.R_mono bB.out (fun _ hk=>hk.1)⟩,⟨by (with_reducible repeat (first|apply Kd.R_alloc|apply Kd.R_drewN|apply Kd.R_drew));exact Kd.R_mono eu.out (fun _ hk=>hk.1.1.1.1)⟩,⟨qT⟩,⟨qB⟩⟩
  clear H'
  try clear dU;try clear eX;try clear eY;try clear c6;try clear eZ;try clear fe;try clear c7;try clear dV;try clear dW;try clear aI;try clear ax;try clear ay;try clear bC;try clear bE;try clear bF;try clear bG;try clear bH;try clear bI;try clear aX;try clear bv;try clear bO;try clear dh;try clear aQ;try clear dw;try clear bz;try clear bP;try clear di;try clear aT;try clear dx
  obtain⟨bA,dG,aW,rfl,rfl,HA,dS,ae,ai,ag,HK,HB⟩:=hrel
  have aC:=(Kd.S_reads' ae.out).1
  rw [aC] at ae
  (try simp only [aC])
  (try simp only [aC] at ai)
  (try simp only [aC] at ag)
  rcases gk with _|k2
  ·exact absurd HA.out (by simp [Sb7.l1])
  have H:=HA.out
  clear HA
  simp only [Sb7.l1] at H
  replace H:=jD H;rcases H with ⟨eB,H⟩ | ⟨eB,H⟩
  ·replace H:=jI H;obtain⟨fO,H⟩:=H
   obtain⟨⟨gB,eD⟩,fP,H⟩:=qE H
   try dsimp only at H
   replace H:=jB H;rcases H with ⟨rfl,H⟩ | ⟨rfl,H⟩
   ·have H':=aM H
    clear H
    obtain⟨gD,gF,fE⟩:=Kd.R_slice ai.out
    subst fE
    have bU:0<=(aW:Int):=qD
    have bV:aW < (bg.length:Int):=qD
    obtain⟨eF,dR,dH⟩:=Kd.at_int (Kd.R_reads' ai.out).2.2 aW bU bV
    cases dR
    replace bU:=eq_true bU
    replace bV:=eq_true bV
    obtain⟨bK,bL,fF⟩:=Kd.R_slice ag.out
    subst fF
    go_wp2_with (first|((with_reducible refine jc 122 52 rfl rfl ?_);refine jG func122 #[.slice (some aH) bA.length df,iV (rd bg aW),.slice bK aj.length bL] ?_;refine (Sb1.calls k2 ?fQ (.slice (some aH) bA.length df) bA (rd bg aW) _ _ aj true eD w0 _ ?bq ?bu ?bQ ?bR fP.out).mono ?_;(case bu=>exact Kd.S_bound ae.out);(case bq=>exact qB);(case bQ=>exact Kd.C_kept_own (Kd.R_tight rfl ag.out) (fun k_ hk_ hs_=>by first|exact hs_.1.2 hk_|exact hs_.1.2.1 hk_|exact hs_.1.2.2 hk_|exact hs_.1.1.2 hk_|exact hs_.1.1.1.2 hk_|exact tyap ag.out (by decide) hk_ hs_.2.2.2));(case bR=>exact (Kd.R_reads' ag.out).2.1);rintro e fG ⟨rfl,hy0,hb,hkp⟩;refine⟨_,rfl,?_⟩;replace ae:=aM ((by first|exact Kd.S_mono (ok':=fun k_=>(((aG k_\/w.heap.size<=k_))/\some k_≠(.slice bK aj.length bL:Value).ownBlock)) hy0 (fun k_ h_=>Or.elim h_ (fun h_=>h_.1) (fun h_=>.inr (by first|exact Nat.le_trans HK.out.1 h_|exact Nat.le_trans (below_size HB.out) h_)))|exact Kd.S_mono (ok':=fun k_=>(((aG k_\/w.heap.size<=k_))/\some k_≠(.slice bK aj.length bL:Value).ownBlock)) hy0 (fun _ _=>trivial)|exact Kd.S_mono (ok':=fun k_=>(((aG k_\/w.heap.size<=k_))/\some k_≠(.slice bK aj.length bL:Value).ownBlock)) hy0 (fun k_ h_=>Or.elim h_ (fun h_=>h_.1) (fun h_=>⟨.inr (Nat.le_trans HK.out.1 h_),fun e_=>by have:=Kd.R_lt ai.out k_ e_.symm;omega⟩))|exact Kd.S_mono (ok':=fun k_=>(((aG k_\/w.heap.size<=k_))/\some k_≠(.slice bK aj.length bL:Value).ownBlock)) hy0 (fun k_ h_=>Or.elim h_ (fun h_=>h_.1) (fun h_=>⟨.inr (Nat.le_trans HK.out.1 h_),fun e_=>by have:=Kd.R_lt ag.out k_ e_.symm;omega⟩))|exact Kd.S_mono (ok':=fun k_=>(((aG k_\/w.heap.size<=k_))/\some k_≠(.slice bK aj.length bL:Value).ownBlock)) hy0 (fun k_ h_=>Or.elim h_ (fun h_=>h_.1) (fun h_=>⟨⟨.inr (Nat.le_trans HK.out.1 h_),fun e_=>by have:=Kd.R_lt ai.out k_ e_.symm;omega⟩,fun e_=>by have:=Kd.R_lt ag.out k_ e_.symm;omega⟩))|exact Kd.S_mono (ok':=fun k_=>(((aG k_\/w.heap.size<=k_))/\some k_≠(.slice bK aj.length bL:Value).ownBlock)) hy0 (fun k_ h_=>Or.elim h_ (fun h_=>h_.1) (fun h_=>⟨⟨.inr (Nat.le_trans HK.out.1 h_),fun e_=>by have:=Kd.R_lt ag.out k_ e_.symm;omega⟩,fun e_=>by have:=Kd.R_lt ai.out k_ e_.symm;omega⟩))|exact Kd.S_mono (ok':=fun k_=>(((aG k_\/w.heap.size<=k_))/\some k_≠(.slice bK aj.length bL:Value).ownBlock)) hy0 (fun k_ h_=>Or.elim h_ (fun h_=>h_.1) (fun h_=>⟨.inr (Nat.le_trans HK.out.1 h_),⟨fun e_=>by have:=Kd.R_lt ai.out k_ e_.symm;omega,fun e_=>by have:=Kd.R_lt ag.out k_ e_.symm;omega⟩⟩))|exact Kd.S_mono (ok':=fun k_=>(((aG k_\/w.heap.size<=k_))/\some k_≠(.slice bK aj.length bL:Value).ownBlock)) hy0 (fun k_ h_=>Or.elim h_ (fun h_=>h_.1) (fun h_=>⟨.inr (Nat.le_trans HK.out.1 h_),⟨fun e_=>by have:=Kd.R_lt ag.out k_ e_.symm;omega,fun e_=>by have:=Kd.R_lt ai.out k_ e_.symm;omega⟩⟩))));replace ai:=aM (Kd.R_mono (ok':=fun k_=>(aG k_\/w.heap.size<=k_)) (Kd.R_keptB (Kd.R_tight rfl ai.out) hkp (fun k_ hk_ hs_=>by first|exact hs_.1.2 hk_|exact hs_.1.2.1 hk_|exact hs_.1.2.2 hk_|exact hs_.1.1.2 hk_|exact hs_.1.1.1.2 hk_|exact tyap ai.out (by decide) hk_ hs_.2.2.2)) (fun k_ hk_=>ai.out.1 k_ hk_.1.symm));replace ag:=aM (Kd.R_mono (ok':=fun k_=>(aG k_\/w.heap.size<=k_)) (Kd.R_keptB (Kd.R_tight rfl ag.out) hkp (fun k_ hk_ hs_=>by first|exact hs_.1.2 hk_|exact hs_.1.2.1 hk_|exact hs_.1.2.2 hk_|exact hs_.1.1.2 hk_|exact hs_.1.1.1.2 hk_|exact tyap ag.out (by decide) hk_ hs_.2.2.2)) (fun k_ hk_=>ag.out.1 k_ hk_.1.symm));replace HK:=aM (Kept.then_ (S:=(fun k_=>aG k_)) qT hkp (fun k_ hs_=>by first|exact hs_.1.1|exact hs_.1.1.1|exact hs_.1));replace HB:=aM hb;(try clear hb);(try clear hkp);(try clear hy0)))
    (try simp only [<- aC])
    go_roundg k2
    case measure=>have:=dI.out;have:=dS.out;omega
    exact⟨_,_,_,qZ,qZ,H',⟨by have:=dI.out;have:=dS.out;omega⟩,⟨by (try simp only [aC]);(with_reducible repeat (first|apply Kd.S_alloc|apply Kd.S_drewN|apply Kd.S_drew));exact ae.out⟩,⟨by (try simp only [aC]);(with_reducible repeat (first|apply Kd.R_alloc|apply Kd.R_drewN|apply Kd.R_drew));exact ai.out⟩,⟨by (try simp only [aC]);(with_reducible repeat (first|apply Kd.R_alloc|apply Kd.R_drewN|apply Kd.R_drew));exact ag.out⟩,⟨qT⟩,⟨qB⟩⟩
   have H':=aM H
   clear H
   obtain⟨gG,gH,fH⟩:=Kd.R_slice ai.out
   subst fH
   have bU:0<=(aW:Int):=qD
   have bV:aW < (bg.length:Int):=qD
   obtain⟨eF,dR,dH⟩:=Kd.at_int (Kd.R_reads' ai.out).2.2 aW bU bV
   cases dR
   replace bU:=eq_true bU
   replace bV:=eq_true bV
   obtain⟨bM,bN,fI⟩:=Kd.R_slice ag.out
   subst fI
   go_wp2_with (first|((with_reducible refine jc 122 52 rfl rfl ?_);refine jG func122 #[.slice (some aH) bA.length df,iV (rd bg aW),.slice bM aj.length bN] ?_;refine (Sb1.calls k2 ?fT (.slice (some aH) bA.length df) bA (rd bg aW) _ _ aj false eD w0 _ ?bq ?bu ?bQ ?bR fP.out).mono ?_;(case bu=>exact Kd.S_bound ae.out);(case bq=>exact qB);(case bQ=>exact Kd.C_kept_own (Kd.R_tight rfl ag.out) (fun k_ hk_ hs_=>by first|exact hs_.1.2 hk_|exact hs_.1.2.1 hk_|exact hs_.1.2.2 hk_|exact hs_.1.1.2 hk_|exact hs_.1.1.1.2 hk_|exact tyap ag.out (by decide) hk_ hs_.2.2.2));(case bR=>exact (Kd.R_reads' ag.out).2.1);rintro e fG ⟨rfl,hy0,hb,hkp⟩;refine⟨_,rfl,?_⟩;replace ae:=aM ((by first|exact Kd.S_mono (ok':=fun k_=>(((aG k_\/w.heap.size<=k_))/\some k_≠(.slice bM aj.length bN:Value).ownBlock)) hy0 (fun k_ h_=>Or.elim h_ (fun h_=>h_.1) (fun h_=>.inr (by first|exact Nat.le_trans HK.out.1 h_|exact Nat.le_trans (below_size HB.out) h_)))|exact Kd.S_mono (ok':=fun k_=>(((aG k_\/w.heap.size<=k_))/\some k_≠(.slice bM aj.length bN:Value).ownBlock)) hy0 (fun _ _=>trivial)|exact Kd.S_mono (ok':=fun k_=>(((aG k_\/w.heap.size<=k_))/\some k_≠(.slice bM aj.length bN:Value).ownBlock)) hy0 (fun k_ h_=>Or.elim h_ (fun h_=>h_.1) (fun h_=>⟨.inr (Nat.le_trans HK.out.1 h_),fun e_=>by have:=Kd.R_lt ai.out k_ e_.symm;omega⟩))|exact Kd.S_mono (ok':=fun k_=>(((aG k_\/w.heap.size<=k_))/\some k_≠(.slice bM aj.length bN:Value).ownBlock)) hy0 (fun k_ h_=>Or.elim h_ (fun h_=>h_.1) (fun h_=>⟨.inr (Nat.le_trans HK.out.1 h_),fun e_=>by have:=Kd.R_lt ag.out k_ e_.symm;omega⟩))|exact Kd.S_mono (ok':=fun k_=>(((aG k_\/w.heap.size<=k_))/\some k_≠(.slice bM aj.length bN:Value).ownBlock)) hy0 (fun k_ h_=>Or.elim h_ (fun h_=>h_.1) (fun h_=>⟨⟨.inr (Nat.le_trans HK.out.1 h_),fun e_=>by have:=Kd.R_lt ai.out k_ e_.symm;omega⟩,fun e_=>by have:=Kd.R_lt ag.out k_ e_.symm;omega⟩))|exact Kd.S_mono (ok':=fun k_=>(((aG k_\/w.heap.size<=k_))/\some k_≠(.slice bM aj.length bN:Value).ownBlock)) hy0 (fun k_ h_=>Or.elim h_ (fun h_=>h_.1) (fun h_=>⟨⟨.inr (Nat.le_trans HK.out.1 h_),fun e_=>by have:=Kd.R_lt ag.out k_ e_.symm;omega⟩,fun e_=>by have:=Kd.R_lt ai.out k_ e_.symm;omega⟩))|exact Kd.S_mono (ok':=fun k_=>(((aG k_\/w.heap.size<=k_))/\some k_≠(.slice bM aj.length bN:Value).ownBlock)) hy0 (fun k_ h_=>Or.elim h_ (fun h_=>h_.1) (fun h_=>⟨.inr (Nat.le_trans HK.out.1 h_),⟨fun e_=>by have:=Kd.R_lt ai.out k_ e_.symm;omega,fun e_=>by have:=Kd.R_lt ag.out k_ e_.symm;omega⟩⟩))|exact Kd.S_mono (ok':=fun k_=>(((aG k_\/w.heap.size<=k_))/\some k_≠(.slice bM aj.length bN:Value).ownBlock)) hy0 (fun k_ h_=>Or.elim h_ (fun h_=>h_.1) (fun h_=>⟨.inr (Nat.le_trans HK.out.1 h_),⟨fun e_=>by have:=Kd.R_lt ag.out k_ e_.symm;omega,fun e_=>by have:=Kd.R_lt ai.out k_ e_.symm;omega⟩⟩))));replace ai:=aM (Kd.R_mono (ok':=fun k_=>(aG k_\/w.heap.size<=k_)) (Kd.R_keptB (Kd.R_tight rfl ai.out) hkp (fun k_ hk_ hs_=>by first|exact hs_.1.2 hk_|exact hs_.1.2.1 hk_|exact hs_.1.2.2 hk_|exact hs_.1.1.2 hk_|exact hs_.1.1.1.2 hk_|exact tyap ai.out (by decide) hk_ hs_.2.2.2)) (fun k_ hk_=>ai.out.1 k_ hk_.1.symm));replace ag:=aM (Kd.R_mono (ok':=fun k_=>(aG k_\/w.heap.size<=k_)) (Kd.R_keptB (Kd.R_tight rfl ag.out) hkp (fun k_ hk_ hs_=>by first|exact hs_.1.2 hk_|exact hs_.1.2.1 hk_|exact hs_.1.2.2 hk_|exact hs_.1.1.2 hk_|exact hs_.1.1.1.2 hk_|exact tyap ag.out (by decide) hk_ hs_.2.2.2)) (fun k_ hk_=>ag.out.1 k_ hk_.1.symm));replace HK:=aM (Kept.then_ (S:=(fun k_=>aG k_)) qT hkp (fun k_ hs_=>by first|exact hs_.1.1|exact hs_.1.1.1|exact hs_.1));replace HB:=aM hb;(try clear hb);(try clear hkp);(try clear hy0)))
   (try simp only [<- aC])
   go_roundg k2
   case measure=>have:=dI.out;have:=dS.out;omega
   exact⟨_,_,_,qZ,qZ,H',⟨by have:=dI.out;have:=dS.out;omega⟩,⟨by (try simp only [aC]);(with_reducible repeat (first|apply Kd.S_alloc|apply Kd.S_drewN|apply Kd.S_drew));exact ae.out⟩,⟨by (try simp only [aC]);(with_reducible repeat (first|apply Kd.R_alloc|apply Kd.R_drewN|apply Kd.R_drew));exact ai.out⟩,⟨by (try simp only [aC]);(with_reducible repeat (first|apply Kd.R_alloc|apply Kd.R_drewN|apply Kd.R_drew));exact ag.out⟩,⟨qT⟩,⟨qB⟩⟩
  have H':=aM H
  clear H
  obtain⟨gI,gJ,fJ⟩:=Kd.R_slice ai.out
  subst fJ
  go_wp2
  (try simp only [<- aC])
  go_roundg k2
  case measure=>have:=dI.out;have:=dS.out;omega
  exact⟨(bA),(dG),(wrap64 (aa+1)),qZ,qZ,H',⟨by have:=dI.out;have:=dS.out;omega⟩,⟨by (try simp only [aC]);(with_reducible repeat (first|apply Kd.S_alloc|apply Kd.S_drewN|apply Kd.S_drew));exact Kd.S_mono ae.out (fun _ hk=>hk.1)⟩,⟨qT⟩,⟨qB⟩⟩
 obtain⟨rfl,rfl⟩:=oJ2 H
 go_wp2
 go_ret
 exact⟨qW,qS ae,qB,qT⟩
mutual
def Sam.l0:Nat->List (S27)->List (List (S118))->Int->Option ((List (List (S118))))
 | 0,_,_,_=>none
 | k+1,x0,x3,x4=>if x4 < (x0.length:Int) then (if 12<=17592186044416 then (if x3.length < 5864062014805 then (Sam.l0 k x0 (x3 ++ [(List.replicate 12 z118)]) (wrap64 (x4+1))) else (none)) else (none)) else (Sam.l1 k x0 x3 0)
def Sam.l1:Nat->List (S27)->List (List (S118))->Int->Option ((List (List (S118))))
 | 0,_,_,_=>none
 | k+1,x0,x3,x5=>if x5 < 12 then (if 0 < (x3.length:Int) then (if 0<=x5 then (if x5 < ((rd_L8 x3 0).length:Int) then (Sam.l1 k x0 (x3.set (0:Int).toNat ((rd_L8 x3 0).set (x5:Int).toNat (⟨1,0⟩:S118))) (wrap64 (x5+1))) else (none)) else (none)) else (none)) else (Sam.l2 k x0 x3)
def Sam.l2:Nat->List (S27)->List (List (S118))->Option ((List (List (S118))))
 | 0,_,_=>none
 | k+1,x0,x3=>(Sb7.f k x0 x3).bind fun aU=>(if aU.1=true then (Sam.l2 k x0 aU.2) else (some aU.2))
end
def Sam.f (k:Nat) (l0:List (S27)):Option ((List (List (S118)))):=(some (([]:List (List (S118))):List (List (S118)))).bind fun bu=>((Saf.f k l0).bind fun bO=>(if bO=true then (Sam.l0 k l0 bu 0) else (some bu)))
theorem Sam.calls (k:Nat) (A0:Option Addr) (c0:Nat) (l0:List (S27)) (r:List (List (S118))) (w:World) (hr0:Kd.C k27 w A0 l0.length l0) (hc0:l0.length<=c0) (h:Sam.f k l0=some r) :
  Calls prog 97 #[.slice A0 l0.length c0] w fun e w'=>∃ d9:Value,e = .returned (d9)/\Kd.S (Kd.slice 118 k118) 104 w' w.heap.size (fun _=>True) d9 r/\Below w.heap.size w w':=by
 have ek:=underlying118
 have dx:=aM hr0
 have dz:=aM hc0
 clear hr0 hc0
 have HB:=aM (Below.refl w.heap.size w)
 have H:=h;unfold Sam.f at H
 clear h
 obtain⟨bu,ax⟩:=ky ((([]:List (List (S118)))):List (List (S118)))
 first|replace H:=kz ax H|rw [<- ax.out] at H
 obtain⟨bO,A2,H⟩:=qE H
 try dsimp only at H
 replace H:=jB H;rcases H with ⟨rfl,H⟩ | ⟨rfl,H⟩
 ·have H':=aM H
  clear H
  go_enter func97,ntmps97
  go_wp2_with (first|((with_reducible refine jd 6 rfl ?_);refine Kd.S_lit (Kd.slice 118 k118) _ 104 ?hg (N:=6) ?hd (xs:=([]:List (List (S118)))) (inner:=[]) (ok:=fun _=>True) (okp:=fun _=>True) ?hr ?hp (fun _ hk=>hk) trivial (Below.refl _ _) (Nat.le_refl _) (by simp) ?_;(case hd=>rfl);(case hg=>rfl);(case hr=>first|(go_simp;done)|(go_simp;rfl));(case hp=>exact (Reps.none _ _));intro dD w4 bP hb hg_ hnew_;clear hg_ hnew_;(first|rw [<- ax.out] at bP|(simp only [Int.reduceToNat] at bP;rw [<- ax.out] at bP));have ai:=aM (Kd.S_lower bP (below_size qB));replace HB:=kH hb;clear hb bP)|((with_reducible refine jc 36 8 rfl rfl ?_);refine jG func36 #[.slice A0 l0.length c0] ?_;refine (Saf.calls k _ _ l0 true _ ?aj ?au A2.out).mono ?_;(case aj=>exact kC (Kd.C_below dx.out HB.out));(case au=>exact dz.out);rintro e w6 ⟨rfl,hb⟩;refine⟨_,rfl,?_⟩;replace ai:=kS ai hb;replace HB:=kH hb;clear hb))
  go_loopg [3,4] k (fun kq v3 v4 w'=>∃ (aQ:List (List (S118))) (bH:Int),v4 = iV bH/\Aside0 (Sam.l0 kq l0 aQ bH=some r)/\Aside0 (kq<=k)/\Aside0 (Kd.S (Kd.slice 118 k118) 104 w' w.heap.size (fun _=>True) v3 aQ)/\Aside0 (Below w.heap.size w w'))
  case atStart=>exact⟨(bu),(0),qZ,H',⟨Nat.le_refl _⟩,⟨qS ai⟩,⟨qB⟩⟩
  clear H'
  obtain⟨aQ,bH,rfl,HA,bN,aa,HB⟩:=hrel
  rcases gk with _|k1
  ·exact absurd HA.out (by simp [Sam.l0])
  have H:=HA.out
  clear HA
  simp only [Sam.l0] at H
  replace H:=jD H;rcases H with ⟨bI,H⟩ | ⟨bI,H⟩
  ·replace H:=jJ H;obtain⟨eZ,fe,H⟩:=H
   obtain⟨bv,aG⟩:=ky ((List.replicate 12 z118):List (S118))
   first|replace H:=kz aG H|rw [<- aG.out] at H
   replace H:=jL H;obtain⟨dE,H⟩:=H
   obtain⟨fo,aV⟩:=ky ((aQ ++ [bv]):List (List (S118)))
   first|replace H:=kz aV H|rw [<- aV.out] at H
   have H':=aM H
   clear H
   go_wp2_with (first|((with_reducible refine jd 18 rfl ?_);refine Kd.R_make k118 _ 118 rfl (N:=18) rfl 104 _ _ rfl 12 rfl rfl underlying104 (.agg #[(iV 0),(iV 0)]) 16 info118 rfl (by decide) (by omega) z118 (ok:=fun _=>True) (okp:=fun _=>True) (k118_mkM _ _ _ z118 ) (fun _ hk=>hk) trivial (by omega) (by omega) (Below.refl _ _) (Nat.le_refl _) ?_;intro fq fu aT hb hg_ hnew_;clear hg_ hnew_;(first|rw [<- aG.out] at aT|(simp only [Int.reduceToNat] at aT;rw [<- aG.out] at aT));have aH:=kL aT;replace aa:=aM (Kd.S_elder' (qS aa) (Kd.R_base aT) hb);replace HB:=kH hb;clear hb aT;obtain⟨bQ,bR,dF⟩:=Kd.R_slice aH.out;subst dF)|((with_reducible refine gate_builtin (b:=.append) (xs:=#[.tmp 17,.tmp 19]) rfl ?_);at_builtin;refine Kd.S_append (Kd.slice 118 k118) (w0:=w) w.heap.size rfl (.tmp 17) (.tmp 19) 101 104 (.slice none 0 0) 24 rfl underlying101 info104 rfl (by decide) (by omega) u3 aQ bv [.slice bQ bv.length bR] (fun _=>True) (fun k_=>some k_=(.slice bQ bv.length bR:Value).ownBlock) rfl rfl ?aP (fun k_ hk_=>((Kd.R_mono (ok':=fun k_=>((fun _=>True)) k_/\some k_≠(u3:Value).ownBlock) (Kd.R_apart' (aH.out) (Kd.S_typed aa.out) (by decide)) (fun k_ hk=>⟨trivial,hk.2⟩))).1 k_ hk_.symm) ?aF ?aO ?aB ?aS ?aL ?_;(case aP=>exact Kd.M_row (Kd.R_mono (Kd.R_tight rfl (Kd.R_mono (ok':=fun k_=>((fun _=>True)) k_/\some k_≠(u3:Value).ownBlock) (Kd.R_apart' (aH.out) (Kd.S_typed aa.out) (by decide)) (fun k_ hk=>⟨trivial,hk.2⟩))) (fun _ h_=>h_)));(case aB=>exact qB);(case aF=>exact (fun _ _=>trivial));(case aO=>exact (by (with_reducible repeat (first|apply Kd.S_alloc|apply Kd.S_drewN|apply Kd.S_drew));exact Kd.S_mono aa.out (by first|exact fun k_ hk=>⟨trivial,fun e_=>hk.2 e_⟩|exact fun k_ hk=>hk)));(case aS=>exact (below_size qB));(case aL=>have:=dE.out;omega);intro fw fA ho hb hg hat;rw [<- aV.out] at ho;have bS:=aM ho;replace HB:=aM hb;clear aa aH;clear ho hb hg hat))
   go_roundg k1
   case measure=>have:=bN.out;omega
   exact⟨_,_,qZ,H',⟨by have:=bN.out;omega⟩,⟨qS bS⟩,⟨qB⟩⟩
  have H':=aM H
  clear H
  go_wp2
  go_loopg [5] k1 (fun kq v5 w'=>∃ (ae:List (List (S118))) (af:Int),v5 = iV af/\Aside0 (Sam.l1 kq l0 ae af=some r)/\Aside0 (kq<=k1)/\Aside0 (Kd.S (Kd.slice 118 k118) 104 w' w.heap.size (fun _=>True) u3 ae)/\Aside0 (Below w.heap.size w w'))
  case atStart=>exact⟨(aQ),(0),qZ,H',⟨Nat.le_refl _⟩,⟨qS aa⟩,⟨qB⟩⟩
  clear H'
  try clear bI
  obtain⟨ae,af,rfl,HA,dA,aa,HB⟩:=hrel
  rcases gk with _|k2
  ·exact absurd HA.out (by simp [Sam.l1])
  have H:=HA.out
  clear HA
  simp only [Sam.l1] at H
  replace H:=jD H;rcases H with ⟨bE,H⟩ | ⟨bE,H⟩
  ·replace H:=jU H;obtain⟨c15,H⟩:=H
   have eu:=decide_eq_true c15
   have eB:decide (0 < ae.length)=true:=decide_eq_true (by omega)
   clear c15
   replace H:=jI H;obtain⟨eD,H⟩:=H
   replace H:=jI H;obtain⟨eF,H⟩:=H
   obtain⟨bT,aW⟩:=ky (((rd_L8 ae 0).set (af:Int).toNat (⟨1,0⟩:S118)):List (S118))
   first|replace H:=kz aW H|rw [<- aW.out] at H
   obtain⟨dG,aX⟩:=ky ((ae.set (0:Int).toNat bT):List (List (S118)))
   first|replace H:=kz aX H|rw [<- aX.out] at H
   have H':=aM H
   clear H
   obtain⟨fB,dH,dI⟩:=Kd.S_slice aa.out
   subst dI
   have bz:0<=(0:Int):=(by omega)
   have bA:0 < (ae.length:Int):=qD
   obtain⟨bU,dJ,bJ,dK,ah,aI,aJ⟩:=at_L8 (Kd.S_reads' aa.out).2.2 0 bz bA
   cases dK
   obtain⟨eG,bK,bL,aY⟩:=Kd.S_get aa.out [] 0 bz (by first|exact bA|exact qD|(have e_:=(Kd.S_reads' aa.out).1;omega))
   obtain⟨dB,rfl,ay⟩:=bL
   have ag:=aY 0 _ rfl
   rw [Nat.add_zero,show ((Kd.slice 118 k118)).sz=1 from rfl,Nat.mul_one] at ag
   replace ag:=Option.some.inj (ag.symm.trans ah)
   rw [ag] at ay
   have az:=aM (show Kd.R k118 118 _ _ _ _ (rd_L8 ae 0) from ay)
   clear ag ay
   have bB:=aM ah
   clear aY bK
   have eH:(0 < ae.length)=True:=eq_true (by omega)
   (try rw [show ((0:Int)).toNat=0 from rfl] at ah)
   (try rw [Addr.add_zero'] at ah)
   have aK:=aM aJ
   have dC:=aM aI
   clear aJ aI
   replace bz:=eq_true bz
   replace bA:=eq_true bA
   have dL:0<=(af:Int):=qD
   have dM:(af:Int) < (((rd_L8 ae 0).length:Int):Int):=qD
   obtain⟨aC,fC,bV,bW,dN,fD,bX⟩:=Kd.R_form az.out (by omega)
   (first|cases bV|(injection bV with ea_ en_ ec_;(first|subst ea_|(injection ea_ with ea_;subst ea_));subst ec_;clear en_))
   have bY:=aM bW
   have fE:=aM bX
   clear bW dN bX
   obtain⟨fF,bZ,cz,aZ,bg⟩:=Kd.R_elem az.out z118 (af:Int) dL dM
   obtain rfl:=k118_openM cz
   have dO:wr.cell? ⟨aC,(af:Int).toNat*2,none⟩=some (iV ((rd_T118 (rd_L8 ae 0) af).f0)):=aZ 0 _ rfl
   have dP:wr.cell? ⟨aC,(af:Int).toNat*2+1,none⟩=some (iV ((rd_T118 (rd_L8 ae 0) af).f1)):=aZ 1 _ rfl
   have dQ:wr.frozen? ⟨aC,(af:Int).toNat*2,none⟩=false:=bg 0
   have dR:wr.frozen? ⟨aC,(af:Int).toNat*2+1,none⟩=false:=bg 1
   clear bZ aZ bg;(try clear cz)
   replace dL:=eq_true dL
   replace dM:=eq_true dM
   have dS:(0:Int) < (ae.length:Int):=(by have h_:(0:Int) < ((ae.length:Int):Int):=qD;first|exact h_|(have e_:=(Kd.S_reads' aa.out).1;omega)|simpa only [List.length_set,List.length_set] using h_)
   obtain⟨cB,fG,aN,dU,aD,bF,bG⟩:=Kd.S_borrow aa.out [] (0:Int) (by omega) dS
   obtain⟨dV,rfl,av⟩:=dU
   have bC:=aD 0 _ rfl
   rw [Nat.add_zero,show ((Kd.slice 118 k118)).sz=1 from rfl,Nat.mul_one] at bC
   replace bC:=Option.some.inj (bC.symm.trans bB.out)
   subst bC
   clear aD aN
   replace av:=(show Kd.R k118 118 _ _ _ _ (rd_L8 ae 0) from av)
   obtain⟨fH,aN,cK,aD,cO⟩:=Kd.R_elem av z118 (af:Int) (qD) (by have h_:(af:Int) < (((rd_L8 ae 0).length:Int):Int):=qD;first|exact h_|(have e_:=(Kd.R_reads' aK.out).1;omega)|simpa using h_)
   obtain rfl:=k118_openM cK
   have bM:=Kd.R_seg av (af:Int) (qD) (by have h_:(af:Int) < (((rd_L8 ae 0).length:Int):Int):=qD;first|exact h_|(have e_:=(Kd.R_reads' aK.out).1;omega)|simpa using h_) (seg:=[iV 1,iV 0]) (j:=0) aN aD (show 2<=2 from by decide) (x':=(⟨1,0⟩:S118)) (k118_mkM _ _ _ (⟨1,0⟩:S118)) (fun _ hk=>hk)
   clear aN aD cO cK
   go_wp2_with (first|((with_reducible refine gate_store (t:=118) (p:=30) rfl ?_);refine store_event (t:=118) (p:=30) (v:=?dW) (w1:=((wr.setCell ⟨aC,(af:Int).toNat*2,none⟩ (iV 1)).setCell ⟨aC,(af:Int).toNat*2+1,none⟩ (iV 0))) ?hg ?ho ?hn ?hr ?_;(case ho=>rfl);(case hg=>rfl);(case hn=>rfl);(case hr=>first|(go_simp;done)|(go_simp;rfl));intro bD hw;have hg:wr.grownBy bD (some aC):=(by rw [hw];exact bM.2);have hz_:Kd.R k118 118 bD w.heap.size cB (.slice (some ⟨aC,0,none⟩) (rd_L8 ae 0).length bJ) bT:=(by rw [hw,aW.out];exact bM.1);have hp_:Kd.S (Kd.slice 118 k118) 104 bD w.heap.size (fun _=>True) (.slice (some bU) ae.length dH) dG:=(by rw [aX.out];exact bG hg (fun k_ e_=>by injection e_ with e_;subst e_;exact av.1 _ rfl) (Kd.M_row hz_));have hm_:=Kd.R_mono hz_ bF;clear bM bG;have eO:=aM hm_;have eP:=aM ((Kd.R_reads' hm_).2.1);replace aa:=aM hp_;replace HB:=aM ((by rw [hw];exact below_set (below_set (HB.out) bY.out) bY.out:Below w.heap.size w bD));clear az;clear hg hw hp_ hz_ hm_ bF))
   go_roundg k2
   case measure=>have:=bN.out;have:=dA.out;omega
   exact⟨_,_,qZ,H',⟨by have:=bN.out;have:=dA.out;omega⟩,⟨qS aa⟩,⟨qB⟩⟩
  have H':=aM H
  clear H
  go_wp2
  go_loopg [] k2 (fun kq w'=>∃ (aA:List (List (S118))),Aside0 (Sam.l2 kq l0 aA=some r)/\Aside0 (kq<=k2)/\Aside0 (Kd.S (Kd.slice 118 k118) 104 w' w.heap.size (fun _=>True) u3 aA)/\Aside0 (Below w.heap.size w w'))
  case atStart=>exact⟨(ae),H',⟨Nat.le_refl _⟩,⟨qS aa⟩,⟨qB⟩⟩
  clear H'
  try clear bI;try clear bE
  obtain⟨aA,HA,eQ,aa,HB⟩:=hrel
  rcases gk with _|k3
  ·exact absurd HA.out (by simp [Sam.l2])
  have H:=HA.out
  clear HA
  simp only [Sam.l2] at H
  obtain⟨⟨fI,df⟩,eT,H⟩:=qE H
  try dsimp only at H
  replace H:=jB H;rcases H with ⟨rfl,H⟩ | ⟨rfl,H⟩
  ·have H':=aM H
   clear H
   obtain⟨dh,di,dX⟩:=Kd.S_slice aa.out
   subst dX
   go_wp2_with (first|((with_reducible refine jc 112 33 rfl rfl ?_);refine jG func112 #[.slice A0 l0.length c0,.slice dh aA.length di] ?_;refine (Sb7.calls k3 _ _ l0 ?eU (.slice dh aA.length di) aA true df w _ ?aj ?au ?bi ?bn eT.out).mono ?_;(case bn=>exact Kd.S_bound aa.out);(case aj=>exact qB);(case au=>exact Kd.C_kept_came k27_heap dx.out qB (fun k_ hs_=>(by first|exact Kd.R_base aa.out k_ hs_.symm|exact hs_.2.1)));(case bi=>exact dz.out);rintro e dY ⟨rfl,hy0,hb,hkp⟩;refine⟨_,rfl,?_⟩;replace aa:=aM ((by first|exact Kd.S_mono (ok':=fun k_=>True) hy0 (fun k_ h_=>Or.elim h_ (fun h_=>h_.1) (fun h_=>.inr (by first|exact Nat.le_trans HK.out.1 h_|exact Nat.le_trans (below_size HB.out) h_)))|exact Kd.S_mono (ok':=fun k_=>True) hy0 (fun _ _=>trivial)));replace HB:=aM hb;(try clear hb);(try clear hkp);(try clear hy0)))
   go_roundg k3
   case measure=>have:=bN.out;have:=dA.out;have:=eQ.out;omega
   exact⟨_,H',⟨by have:=bN.out;have:=dA.out;have:=eQ.out;omega⟩,⟨qS aa⟩,⟨qB⟩⟩
  obtain rfl:=oJ H
  obtain⟨dn,dw,dZ⟩:=Kd.S_slice aa.out
  subst dZ
  go_wp2_with (first|((with_reducible refine jc 112 33 rfl rfl ?_);refine jG func112 #[.slice A0 l0.length c0,.slice dn aA.length dw] ?_;refine (Sb7.calls k3 _ _ l0 ?eX (.slice dn aA.length dw) aA false df w _ ?aj ?au ?bi ?bn eT.out).mono ?_;(case bn=>exact Kd.S_bound aa.out);(case aj=>exact qB);(case au=>exact Kd.C_kept_came k27_heap dx.out qB (fun k_ hs_=>(by first|exact Kd.R_base aa.out k_ hs_.symm|exact hs_.2.1)));(case bi=>exact dz.out);rintro e dY ⟨rfl,hy0,hb,hkp⟩;refine⟨_,rfl,?_⟩;replace aa:=aM ((by first|exact Kd.S_mono (ok':=fun k_=>True) hy0 (fun k_ h_=>Or.elim h_ (fun h_=>h_.1) (fun h_=>.inr (by first|exact Nat.le_trans HK.out.1 h_|exact Nat.le_trans (below_size HB.out) h_)))|exact Kd.S_mono (ok':=fun k_=>True) hy0 (fun _ _=>trivial)));replace HB:=aM hb;(try clear hb);(try clear hkp);(try clear hy0)))
  go_ret
  exact⟨_,qW,qS aa,qB⟩
 obtain rfl:=oJ H
 go_enter func97,ntmps97
 go_wp2_with (first|((with_reducible refine jd 6 rfl ?_);refine Kd.S_lit (Kd.slice 118 k118) _ 104 ?hg (N:=6) ?hd (xs:=([]:List (List (S118)))) (inner:=[]) (ok:=fun _=>True) (okp:=fun _=>True) ?hr ?hp (fun _ hk=>hk) trivial (Below.refl _ _) (Nat.le_refl _) (by simp) ?_;(case hd=>rfl);(case hg=>rfl);(case hr=>first|(go_simp;done)|(go_simp;rfl));(case hp=>exact (Reps.none _ _));intro dD fJ bq hb hg_ hnew_;clear hg_ hnew_;(first|rw [<- ax.out] at bq|(simp only [Int.reduceToNat] at bq;rw [<- ax.out] at bq));have ai:=aM (Kd.S_lower bq (below_size qB));replace HB:=kH hb;clear hb bq)|((with_reducible refine jc 36 8 rfl rfl ?_);refine jG func36 #[.slice A0 l0.length c0] ?_;refine (Saf.calls k _ _ l0 false _ ?aj ?au A2.out).mono ?_;(case aj=>exact kC (Kd.C_below dx.out HB.out));(case au=>exact dz.out);rintro e fK ⟨rfl,hb⟩;refine⟨_,rfl,?_⟩;replace ai:=kS ai hb;replace HB:=kH hb;clear hb))
 go_ret
 exact⟨_,qW,qS ai,qB⟩
def Sb4.f (aa ae a1:Int):Option (Bool):=if aa=1 then (some (ae == a1)) else (some false)
theorem Sb4_0 {G:Prop} (h:G:=by
  go_enter func114,ntmps114
  go_wp2_with (first|((with_reducible refine jd 2 rfl ?_);refine jX _ 118 ?_;intro ai hg av hbox hb;have af:=aM hbox;have aj:=kG hg;replace HB:=kH hb;clear hb hbox hg;have ax:=jz2 af))
  go_ret
  exact⟨qW,qB⟩):G:=h
theorem Sb4.calls (aa ae a1:Int) (r:Bool) (w:World) (h:Sb4.f aa ae a1=some r) :
  Calls prog 114 #[.agg #[iV aa,iV ae],iV a1] w fun e w'=>e = .returned (.bool r)/\Below w.heap.size w w':=by
 have au:=underlying118
 have HB:=aM (Below.refl w.heap.size w)
 have H:(if aa=1 then (some (ae == a1)) else (some false))=some r:=h
 clear h
 replace H:=jE H;rcases H with ⟨ag,ah,H⟩ | ⟨c3,ag,ah,H⟩
 ·obtain rfl:=oJ H
  exact Sb4_0
 obtain rfl:=oJ H
 exact Sb4_0
def SaR.l0:Nat->List Int->Int->Int->Option (Bool)
 | 0,_,_,_=>none
 | k+1,x0,x1,x5=>if x5 < (x0.length:Int) then (if 0<=x5 then (if (rd x0 x5)=x1 then (some true) else (SaR.l0 k x0 x1 (wrap64 (x5+1)))) else (none)) else (some false)
def SaR.f (k:Nat) (l0:List Int) (a1:Int):Option (Bool):=SaR.l0 k l0 a1 0
theorem SaR.calls (k:Nat) (A0:Option Addr) (c0:Nat) (l0:List Int) (a1:Int) (r:Bool) (w:World) (hr0:Kd.C (Kd.int .i64) w A0 l0.length l0) (hc0:l0.length<=c0) (h:SaR.f k l0 a1=some r) :
  Calls prog 129 #[.slice A0 l0.length c0,iV a1] w fun e w'=>e = .returned (.bool r)/\Drawn0 w w':=by
 have ax:=aM hr0
 have aC:=aM hc0
 clear hr0 hc0
 have H:(SaR.l0 k l0 a1 0)=some r:=h
 clear h
 have H':=aM H
 clear H
 go_enter func129,ntmps129
 go_wp2
 go_loopg [5] k (fun kq v5 w'=>∃ (aa:Int),v5 = iV aa/\Aside0 (SaR.l0 kq l0 a1 aa=some r)/\Aside0 (kq<=k)/\Drawn0 w w')
 case atStart=>exact⟨(0),qZ,H',⟨Nat.le_refl _⟩,by repeat (first|exact Drawn0.refl _|apply Drawn0.step)⟩
 clear H'
 obtain⟨aa,rfl,HA,ay,⟨m1,rfl⟩⟩:=hrel
 rcases gk with _|k1
 ·exact absurd HA.out (by simp [SaR.l0])
 have H:=HA.out
 clear HA
 simp only [SaR.l0] at H
 replace H:=jD H;rcases H with ⟨aj,H⟩ | ⟨aj,H⟩
 ·replace H:=jI H;obtain⟨aA,H⟩:=H
  replace H:=jE H;rcases H with ⟨au,av,H⟩ | ⟨c5,au,av,H⟩
  ·obtain rfl:=oJ H
   have ae:0<=(aa:Int):=qD
   have af:aa < (l0.length:Int):=qD
   obtain⟨ai,ah,ag⟩:=Kd.at_int ax.out aa ae af
   cases ah
   replace ae:=eq_true ae
   replace af:=eq_true af
   go_wp2
   go_ret
   exact⟨qZ,qU⟩
  have H':=aM H
  clear H
  have ae:0<=(aa:Int):=qD
  have af:aa < (l0.length:Int):=qD
  obtain⟨ai,ah,ag⟩:=Kd.at_int ax.out aa ae af
  cases ah
  replace ae:=eq_true ae
  replace af:=eq_true af
  go_wp2
  go_roundg k1
  case measure=>have:=ay.out;omega
  exact⟨(wrap64 (aa+1)),qZ,H',⟨by have:=ay.out;omega⟩,by repeat (first|exact Drawn0.refl _|apply Drawn0.step)⟩
 obtain rfl:=oJ H
 go_wp2
 go_ret
 exact⟨qZ,qU⟩
def SaZ.f (k:Nat) (a0:Int) (l1:List Int):Option (Bool):=(SaR.f k l1 a0).bind fun aa=>(some aa)
theorem SaZ.calls (k:Nat) (a0:Int) (A1:Option Addr) (c1:Nat) (l1:List Int) (r:Bool) (w:World) (hr1:Kd.C (Kd.int .i64) w A1 l1.length l1) (hc1:l1.length<=c1) (h:SaZ.f k a0 l1=some r) :
  Calls prog 124 #[iV a0,.slice A1 l1.length c1] w fun e w'=>e = .returned (.bool r)/\Drawn0 w w':=by
 have HR1:=aM hr1
 have ag:=aM hc1
 clear hr1 hc1
 have H:((SaR.f k l1 a0).bind fun aa=>(some aa))=some r:=h
 clear h
 obtain⟨aa,A3,H⟩:=qE H
 try dsimp only at H
 obtain rfl:=oJ H
 go_enter func124,ntmps124
 go_wp2_with (first|((with_reducible refine jc 129 7 rfl rfl ?_);refine jG func129 #[.slice A1 l1.length c1,iV a0] ?_;refine (SaR.calls k _ _ l1 a0 aa _ ?ae ?af A3.out).mono ?_;(case ae=>exact kC HR1.out);(case af=>exact ag.out);rintro e w' ⟨rfl,⟨nd,rfl⟩⟩;refine⟨_,rfl,?_⟩))
 go_ret
 exact⟨qZ,qU⟩
mutual
def Sb0.j0:Nat->Bool->Int->Int->Int->Int->Int->Int->Int->Int->Int->Option (Int × Int × Int × Int × Int)
 | 0,_,_,_,_,_,_,_,_,_,_=>none
 | k+1,pQ,xa,xb,xc,xd,xe,xf,xg,xh,xi=>if pQ=true then (some (2,xb,xc,0,0)) else ((Sb4.f xh xi 1).bind fun eB=>(if eB=true then ((SaZ.f k xe (([10,11]:List Int))).bind fun dX=>(Sb0.j1 k dX xa xb xc xd xe xf xg xh xi)) else (Sb0.j1 k false xa xb xc xd xe xf xg xh xi)))
def Sb0.j1:Nat->Bool->Int->Int->Int->Int->Int->Int->Int->Int->Int->Option (Int × Int × Int × Int × Int)
 | 0,_,_,_,_,_,_,_,_,_,_=>none
 | k+1,pR,xa,xb,xc,xd,xe,xf,xg,xh,xi=>if pR=true then (some (2,xb,xc,0,0)) else ((Sb4.f xf xg 0).bind fun eD=>(if eD=true then ((SaZ.f k xe (([1,2,8]:List Int))).bind fun dY=>(Sb0.j2 k dY xa xb xc xd xe xf xg xh xi)) else (Sb0.j2 k false xa xb xc xd xe xf xg xh xi)))
def Sb0.j2:Nat->Bool->Int->Int->Int->Int->Int->Int->Int->Int->Int->Option (Int × Int × Int × Int × Int)
 | 0,_,_,_,_,_,_,_,_,_,_=>none
 | k+1,pU,xa,xb,xc,xd,xe,xf,xg,xh,xi=>if pU=true then (some (2,xb,xd,0,0)) else ((Sb4.f xf xg 1).bind fun eF=>(if eF=true then (Sb0.j3 k (xe == 10) xa xb xc xd xe xf xg xh xi) else (Sb0.j3 k false xa xb xc xd xe xf xg xh xi)))
def Sb0.j3:Nat->Bool->Int->Int->Int->Int->Int->Int->Int->Int->Int->Option (Int × Int × Int × Int × Int)
 | 0,_,_,_,_,_,_,_,_,_,_=>none
 | k+1,pV,xa,xb,xc,xd,xe,xf,xg,xh,xi=>if pV=true then (some (2,xb,xd,0,0)) else ((Sb4.f xf xg 0).bind fun eG=>(if eG=true then ((SaZ.f k xe (([3,10]:List Int))).bind fun eH=>(if eH=true then (some (1,xb,0,0,0)) else (some (xa,xb,xc,xd,xe)))) else ((Sb4.f xh xi 0).bind fun eO=>(if eO=true then ((SaZ.f k xe (([3,10]:List Int))).bind fun eP=>(if eP=true then (some (1,xb,0,0,0)) else (some (xa,xb,xc,xd,xe)))) else (some (xa,xb,xc,xd,xe))))))
end
def Sb0.f (k:Nat) (bA aY bq bu aZ bi bn bv bz:Int):Option (Int × Int × Int × Int × Int):=(Sb6.f k bA aY bq bu aZ bi bn bv bz).bind fun dW=>(if dW.1=1 then (some (1,aY,0,0,dW.2)) else ((Sb4.f bv bz 0).bind fun eQ=>(if eQ=true then ((SaZ.f k aZ (([1,2,6,7,8,9]:List Int))).bind fun dZ=>(Sb0.j0 k dZ bA aY bq bu aZ bi bn bv bz)) else (Sb0.j0 k false bA aY bq bu aZ bi bn bv bz))))
theorem Sb0_0 {G:Prop} (h:G:=by
  go_wp2_with (first|((with_reducible refine jc 114 78 rfl rfl ?_);refine jG func114 #[.agg #[iV bi,iV bn],iV 0] ?_;refine (Sb4.calls _ _ _ _ _ (Aside0.out (by assumption))).mono ?_;rintro e cB ⟨rfl,hb⟩;refine⟨_,rfl,?_⟩;replace aa:=kB aa hb;replace ae:=kB ae hb;replace ag:=kB ag hb;replace af:=kB af hb;replace ah:=kB ah hb;replace HB:=kH hb;clear hb;have cK:=av.out;have cO:=ax.out;have df:=aD.out;have dh:=aG.out;have di:=aW.out;have dn:=aX.out;have dw:=jz2 ag)|(go_at_call 114;(with_reducible refine (Sb4.calls _ _ _ _ _ (Aside0.out (by assumption))).mono ?_);rintro e eT ⟨rfl,hb⟩;replace aa:=kB aa hb;replace ae:=kB ae hb;replace ag:=kB ag hb;replace af:=kB af hb;replace ah:=kB ah hb;replace HB:=kH hb;clear hb;have eU:=aH.out;have eX:=aI.out;have eY:=aJ.out;have eZ:=aK.out;have fe:=jz5 aa;have lT:=aN.out;have lU:=aQ.out;have lV:=jz5 af)|((with_reducible refine jd 86 rfl ?_);(try (refine gate_guard (by rfl) ?_;dsimp only));refine jV (Kd.int .i64) 3 ([3,10]:List Int) [iV 3,iV 10] (Reps.one (show Kd.M (Kd.int .i64) _ _ _ 3 [iV 3] from rfl) (Reps.one (show Kd.M (Kd.int .i64) _ _ _ 10 [iV 10] from rfl) (Reps.none _ _))) ?_;intro fP au aV hb;(first|rw [<- bO.out] at aV|(simp only [Int.reduceToNat] at aV;rw [<- bO.out] at aV));have bB:=kL aV;replace aa:=kB aa hb;replace ae:=kB ae hb;replace ag:=kB ag hb;replace af:=kB af hb;replace ah:=kB ah hb;replace HB:=kH hb;clear hb aV;obtain⟨bJ,bK,bL⟩:=Kd.R_slice bB.out;subst bL)|(go_at_call 124;(with_reducible refine (SaZ.calls bV aZ _ _ bZ false _ ?bC ?bD fo.out).mono ?_);(case bC=>exact kC (Kd.R_reads' bB.out).2.2);(case bD=>exact (Kd.R_reads' bB.out).2.1);rintro e w' ⟨rfl,⟨nd,rfl⟩⟩;(try (rw [drewN_self au];generalize hq_:World.drewN au _=au;have dx:Aside0 (Kd.R (Kd.int .i64) 3 au w.heap.size (fun _=>True) (.slice bJ bZ.length bK) bZ):=⟨by rw [<- hq_];exact (qR bB)⟩;have dz:Aside0 (au.heap[bG]?=some (.cells #[iV bA,iV aY,iV bq,iV bu,iV aZ] 27 (0,0))):=⟨by rw [<- hq_];exact (qK aa)⟩;have dA:Aside0 (au.heap[bH]?=some (.cells #[iV bi,iV bn] 118 (0,0))):=⟨by rw [<- hq_];exact (qK ae)⟩;have dB:Aside0 (au.heap[bI]?=some (.cells #[iV bv,iV bz] 118 (0,0))):=⟨by rw [<- hq_];exact (qK ag)⟩;have dC:Aside0 (au.heap[bg]?=some (.cells #[iV 0,iV 0,iV 0,iV 0,iV 0] 27 (0,0))):=⟨by rw [<- hq_];exact (qK af)⟩;have dD:Aside0 (au.heap[bF]?=some (.cells #[iV bN,iV bM] 118 (0,0))):=⟨by rw [<- hq_];exact (qK ah)⟩;have dE:Aside0 (Below w.heap.size w au):=⟨by rw [<- hq_];exact qB⟩;clear bB aa ae ag af ah HB hq_;have bB:=dx;have aa:=dz;have ae:=dA;have ag:=dB;have af:=dC;have ah:=dD;have HB:=dE;clear dx dz dA dB dC dD dE));have dF:=jz5 aa;have dG:=aN.out;have dH:=aQ.out;have fq:=jz5 af))
  refine bodyPost_ret (results_cell_row rfl _ _ bg 27 #[iV bA,iV aY,iV bq,iV bu,iV aZ] (0,0) _ rfl (qF af) underlying27 rfl (by kernel_rfl)) rfl ?_
  exact⟨qW,qB⟩):G:=h
theorem Sb0_1 {G:Prop} (h:G:=by
  go_wp2_with (first|((with_reducible refine jc 114 23 rfl rfl ?_);refine jG func114 #[.agg #[iV bv,iV bz],iV 0] ?_;refine (Sb4.calls _ _ _ _ _ (Aside0.out (by assumption))).mono ?_;rintro e pX ⟨rfl,hb⟩;refine⟨_,rfl,?_⟩;replace aa:=kB aa hb;replace ae:=kB ae hb;replace ag:=kB ag hb;replace af:=kB af hb;replace ah:=aM (blk_below (g:=bF) (o:=.cells #[iV bN,iV bM] 118 (0,0)) (qF ah) hb);replace HB:=kH hb;clear hb;have pY:=ai.out;have p9:=aj.out;have qb:=aH.out;have qc:=aI.out;have qd:=aJ.out;have qf:=aK.out;have qg:=jz5 aa)|((with_reducible refine jd 27 rfl ?_);(try (refine gate_guard (by rfl) ?_;dsimp only));refine jV (Kd.int .i64) 3 ([1,2,6,7,8,9]:List Int) [iV 1,iV 2,iV 6,iV 7,iV 8,iV 9] (Reps.one (show Kd.M (Kd.int .i64) _ _ _ 1 [iV 1] from rfl) (Reps.one (show Kd.M (Kd.int .i64) _ _ _ 2 [iV 2] from rfl) (Reps.one (show Kd.M (Kd.int .i64) _ _ _ 6 [iV 6] from rfl) (Reps.one (show Kd.M (Kd.int .i64) _ _ _ 7 [iV 7] from rfl) (Reps.one (show Kd.M (Kd.int .i64) _ _ _ 8 [iV 8] from rfl) (Reps.one (show Kd.M (Kd.int .i64) _ _ _ 9 [iV 9] from rfl) (Reps.none _ _))))))) ?_;intro qh qi dI hb;(first|rw [<- bW.out] at dI|(simp only [Int.reduceToNat] at dI;rw [<- bW.out] at dI));have dJ:=kL dI;replace aa:=kB aa hb;replace ae:=kB ae hb;replace ag:=kB ag hb;replace af:=kB af hb;replace ah:=kB ah hb;replace HB:=kH hb;clear hb dI;obtain⟨qj,ql,fQ⟩:=Kd.R_slice dJ.out;subst fQ)|(go_at_call 124;(with_reducible refine (SaZ.calls k aZ _ _ fT dZ _ ?bC ?bD qm.out).mono ?_);(case bC=>exact kC (Kd.R_reads' dJ.out).2.2);(case bD=>exact (Kd.R_reads' dJ.out).2.1);rintro e w' ⟨rfl,⟨nd,rfl⟩⟩))
  go_meet
  exact⟨_,_,qZ,H',⟨by first|omega|exact Nat.le_refl _⟩,⟨qK aa⟩,⟨qK ae⟩,⟨qK ag⟩,⟨qK af⟩,⟨qK ah⟩,⟨qB⟩⟩):G:=h
theorem Sb0_2 {G:Prop} (h:G:=by
  go_wp2_with (first|((with_reducible refine jc 114 51 rfl rfl ?_);refine jG func114 #[.agg #[iV bi,iV bn],iV 0] ?_;refine (Sb4.calls _ _ _ _ _ (Aside0.out (by assumption))).mono ?_;rintro e lW ⟨rfl,hb⟩;refine⟨_,rfl,?_⟩;replace aa:=kB aa hb;replace ae:=kB ae hb;replace ag:=kB ag hb;replace af:=kB af hb;replace ah:=kB ah hb;replace HB:=kH hb;clear hb;have lX:=ax.out;have lY:=av.out;have lZ:=aH.out;have l8:=aI.out;have l9:=aJ.out;have ma:=aK.out;have mf:=jz5 aa)|((with_reducible refine jd 55 rfl ?_);(try (refine gate_guard (by rfl) ?_;dsimp only));refine jV (Kd.int .i64) 3 ([1,2,8]:List Int) [iV 1,iV 2,iV 8] (Reps.one (show Kd.M (Kd.int .i64) _ _ _ 1 [iV 1] from rfl) (Reps.one (show Kd.M (Kd.int .i64) _ _ _ 2 [iV 2] from rfl) (Reps.one (show Kd.M (Kd.int .i64) _ _ _ 8 [iV 8] from rfl) (Reps.none _ _)))) ?_;intro qo mg bS hb;(first|rw [<- bX.out] at bS|(simp only [Int.reduceToNat] at bS;rw [<- bX.out] at bS));have dK:=kL bS;replace aa:=kB aa hb;replace ae:=kB ae hb;replace ag:=kB ag hb;replace af:=kB af hb;replace ah:=kB ah hb;replace HB:=kH hb;clear hb bS;obtain⟨mh,mi,fu⟩:=Kd.R_slice dK.out;subst fu)|(go_at_call 124;(with_reducible refine (SaZ.calls fw aZ _ _ fU dY _ ?bC ?bD fV.out).mono ?_);(case bC=>exact kC (Kd.R_reads' dK.out).2.2);(case bD=>exact (Kd.R_reads' dK.out).2.1);rintro e w' ⟨rfl,⟨nd,rfl⟩⟩))
  go_meet
  exact⟨_,_,qZ,H',⟨by have:=d9.out;have:=fA.out;first|omega|exact Nat.le_refl _⟩,⟨qK aa⟩,⟨qK ae⟩,⟨qK ag⟩,⟨qK af⟩,⟨qK ah⟩,⟨qB⟩⟩):G:=h
theorem Sb0_3 {G:Prop} (h:G:=by
  go_wp2_with (first|((with_reducible refine jc 114 37 rfl rfl ?_);refine jG func114 #[.agg #[iV bv,iV bz],iV 1] ?_;refine (Sb4.calls _ _ _ _ _ (Aside0.out (by assumption))).mono ?_;rintro e qp ⟨rfl,hb⟩;refine⟨_,rfl,?_⟩;replace aa:=kB aa hb;replace ae:=kB ae hb;replace ag:=kB ag hb;replace af:=kB af hb;replace ah:=kB ah hb;replace HB:=kH hb;clear hb;have qw:=ai.out;have qx:=aj.out;have qy:=aH.out;have qz:=aI.out;have qC:=aJ.out;have qG:=aK.out;have qJ:=jz5 aa)|((with_reducible refine jd 41 rfl ?_);(try (refine gate_guard (by rfl) ?_;dsimp only));refine jV (Kd.int .i64) 3 ([10,11]:List Int) [iV 10,iV 11] (Reps.one (show Kd.M (Kd.int .i64) _ _ _ 10 [iV 10] from rfl) (Reps.one (show Kd.M (Kd.int .i64) _ _ _ 11 [iV 11] from rfl) (Reps.none _ _))) ?_;intro qO qX dL hb;(first|rw [<- bY.out] at dL|(simp only [Int.reduceToNat] at dL;rw [<- bY.out] at dL));have dM:=kL dL;replace aa:=kB aa hb;replace ae:=kB ae hb;replace ag:=kB ag hb;replace af:=kB af hb;replace ah:=kB ah hb;replace HB:=kH hb;clear hb dL;obtain⟨qY,q9,fZ⟩:=Kd.R_slice dM.out;subst fZ)|(go_at_call 124;(with_reducible refine (SaZ.calls fB aZ _ _ gm dX _ ?bC ?bD rf.out).mono ?_);(case bC=>exact kC (Kd.R_reads' dM.out).2.2);(case bD=>exact (Kd.R_reads' dM.out).2.1);rintro e w' ⟨rfl,⟨nd,rfl⟩⟩))
  go_meet
  exact⟨_,_,qZ,H',⟨by have:=d9.out;first|omega|exact Nat.le_refl _⟩,⟨qK aa⟩,⟨qK ae⟩,⟨qK ag⟩,⟨qK af⟩,⟨qK ah⟩,⟨qB⟩⟩):G:=h
theorem Sb0_4 {G:Prop} (h:G:=by
  go_wp2_with (first|((with_reducible refine jc 114 65 rfl rfl ?_);refine jG func114 #[.agg #[iV bi,iV bn],iV 1] ?_;refine (Sb4.calls _ _ _ _ _ (Aside0.out (by assumption))).mono ?_;rintro e mo ⟨rfl,hb⟩;refine⟨_,rfl,?_⟩;replace aa:=kB aa hb;replace ae:=kB ae hb;replace ag:=kB ag hb;replace af:=kB af hb;replace ah:=kB ah hb;replace HB:=kH hb;clear hb;have mq:=ax.out;have mr:=av.out;have mD:=aH.out;have mE:=aI.out;have mF:=aJ.out;have mG:=aK.out;have mH:=jz5 aa))
  go_meet
  exact⟨_,_,qZ,H',⟨by have:=d9.out;have:=fA.out;have:=fC.out;first|omega|exact Nat.le_refl _⟩,⟨qK aa⟩,⟨qK ae⟩,⟨qK ag⟩,⟨qK af⟩,⟨qK ah⟩,⟨qB⟩⟩):G:=h
theorem Sb0.calls (k:Nat) (bA aY bq bu aZ bi bn bv bz r1 r2 r3 r4 r5:Int) (w:World) (h:Sb0.f k bA aY bq bu aZ bi bn bv bz=some (r1,r2,r3,r4,r5)) :
  Calls prog 113 #[.agg #[iV bA,iV aY,iV bq,iV bu,iV aZ],.agg #[iV bi,iV bn],.agg #[iV bv,iV bz]] w fun e w'=>e = .returned (.agg #[iV r1,iV r2,iV r3,iV r4,iV r5])/\Below w.heap.size w w':=by
 have ru:=underlying27
 have mI:=underlying118
 have HB:=aM (Below.refl w.heap.size w)
 have H:=h;unfold Sb0.f at H
 clear h
 obtain⟨⟨bN,bM⟩,A4,H⟩:=qE H
 try dsimp only at H
 replace H:=jE H;rcases H with ⟨dN,dO,H⟩ | ⟨c5,dN,dO,H⟩
 ·obtain⟨rfl,rfl,rfl,rfl,rfl⟩:=oJ5 H
  go_enter func113,ntmps113
  go_wp2_with (first|((with_reducible refine jd 3 rfl ?_);(try (refine gate_guard (by rfl) ?_;dsimp only));refine jX _ 27 ?_;intro bG hg ry hbox hb;have aa:=aM hbox;have fD:=kG hg;replace HB:=kH hb;clear hb hbox hg)|((with_reducible refine jd 4 rfl ?_);(try (refine gate_guard (by rfl) ?_;dsimp only));refine jX _ 118 ?_;intro bH hg rA hbox hb;have ae:=aM hbox;have fE:=kG hg;have ai:=kN hg aa;have aj:=kM hg aa;replace aa:=kB aa hb;replace HB:=kH hb;clear hb hbox hg)|((with_reducible refine jd 5 rfl ?_);(try (refine gate_guard (by rfl) ?_;dsimp only));refine jX _ 118 ?_;intro bI hg rC hbox hb;have ag:=aM hbox;have fF:=kG hg;have ax:=kN hg aa;have av:=kM hg aa;have ay:=kN hg ae;have az:=kM hg ae;replace aa:=kB aa hb;replace ae:=kB ae hb;replace HB:=kH hb;clear hb hbox hg)|((with_reducible refine jd 6 rfl ?_);(try (refine gate_guard (by rfl) ?_;dsimp only));refine jX _ 27 ?_;intro bg hg rD hbox hb;have af:=aM hbox;have fG:=kG hg;have aH:=kN hg aa;have aI:=kM hg aa;have aA:=kN hg ae;have aC:=kM hg ae;have aD:=kN hg ag;have aG:=kM hg ag;replace aa:=kB aa hb;replace ae:=kB ae hb;replace ag:=kB ag hb;replace HB:=kH hb;clear hb hbox hg;have rE:=ai.out;have rF:=aj.out;have rG:=ax.out;have rH:=av.out;have rJ:=aH.out;have rM:=aI.out;have rO:=jz5 aa;have rP:=ay.out;have rQ:=az.out;have rR:=aA.out;have rT:=aC.out;have rU:=jz2 ae;have rV:=aD.out;have rW:=aG.out;have rX:=jz2 ag)|((with_reducible refine jc 123 11 rfl rfl ?_);refine jG func123 #[.agg #[iV bA,iV aY,iV bq,iV bu,iV aZ],.agg #[iV bi,iV bn],.agg #[iV bv,iV bz]] ?_;refine (Sb6.calls _ _ _ _ _ _ _ _ _ _ _ _ _ (Aside0.out (by assumption))).mono ?_;rintro e rY ⟨rfl,hb⟩;refine⟨_,rfl,?_⟩;replace aa:=kB aa hb;replace ae:=kB ae hb;replace ag:=kB ag hb;replace af:=kB af hb;replace HB:=kH hb;clear hb)|((with_reducible refine jd 7 rfl ?_);(try (refine gate_guard (by rfl) ?_;dsimp only));refine jX _ 118 ?_;intro bF hg rZ hbox hb;have ah:=aM hbox;have fH:=kG hg;have aJ:=kN hg aa;have aK:=kM hg aa;have aT:=kN hg ae;have aU:=kM hg ae;have aW:=kN hg ag;have aX:=kM hg ag;have aN:=kN hg af;have aQ:=kM hg af;replace aa:=kB aa hb;replace ae:=kB ae hb;replace ag:=kB ag hb;replace af:=kB af hb;replace HB:=kH hb;clear hb hbox hg;have si:=aK.out;have sj:=aJ.out;have su:=aU.out;have sw:=aT.out;have sD:=aX.out;have sF:=aW.out;have sG:=aQ.out;have sH:=aN.out;have sI:=jz2 ah;have sJ:=jz5 aa;have sK:=jz5 af))
  refine bodyPost_ret (results_cell_row rfl _ _ bg 27 #[iV 1,iV aY,iV 0,iV 0,iV bM] (0,0) _ rfl (qF af) underlying27 rfl (by kernel_rfl)) rfl ?_
  exact⟨qW,qB⟩
 have ek:=aM H
 clear H
 go_enter func113,ntmps113
 go_upto_region 4 with (first|((with_reducible refine jd 3 rfl ?_);(try (refine gate_guard (by rfl) ?_;dsimp only));refine jX _ 27 ?_;intro bG hg sZ hbox hb;have aa:=aM hbox;have fD:=kG hg;replace HB:=kH hb;clear hb hbox hg)|((with_reducible refine jd 4 rfl ?_);(try (refine gate_guard (by rfl) ?_;dsimp only));refine jX _ 118 ?_;intro bH hg tq hbox hb;have ae:=aM hbox;have fE:=kG hg;have ai:=kN hg aa;have aj:=kM hg aa;replace aa:=kB aa hb;replace HB:=kH hb;clear hb hbox hg)|((with_reducible refine jd 5 rfl ?_);(try (refine gate_guard (by rfl) ?_;dsimp only));refine jX _ 118 ?_;intro bI hg tu hbox hb;have ag:=aM hbox;have fF:=kG hg;have ax:=kN hg aa;have av:=kM hg aa;have ay:=kN hg ae;have az:=kM hg ae;replace aa:=kB aa hb;replace ae:=kB ae hb;replace HB:=kH hb;clear hb hbox hg)|((with_reducible refine jd 6 rfl ?_);(try (refine gate_guard (by rfl) ?_;dsimp only));refine jX _ 27 ?_;intro bg hg w32 hbox hb;have af:=aM hbox;have fG:=kG hg;have aH:=kN hg aa;have aI:=kM hg aa;have aA:=kN hg ae;have aC:=kM hg ae;have aD:=kN hg ag;have aG:=kM hg ag;replace aa:=kB aa hb;replace ae:=kB ae hb;replace ag:=kB ag hb;replace HB:=kH hb;clear hb hbox hg;have mJ:=ai.out;have mK:=aj.out;have mO:=ax.out;have mQ:=av.out;have mR:=aH.out;have mU:=aI.out;have dR:=jz5 aa;have mV:=ay.out;have mW:=az.out;have mX:=aA.out;have mY:=aC.out;have dS:=jz2 ae;have mZ:=aD.out;have ng:=aG.out;have dU:=jz2 ag)|((with_reducible refine jc 123 11 rfl rfl ?_);refine jG func123 #[.agg #[iV bA,iV aY,iV bq,iV bu,iV aZ],.agg #[iV bi,iV bn],.agg #[iV bv,iV bz]] ?_;refine (Sb6.calls k bA aY bq bu aZ bi bn bv bz bN bM _ A4.out).mono ?_;rintro e tC ⟨rfl,hb⟩;refine⟨_,rfl,?_⟩;replace aa:=kB aa hb;replace ae:=kB ae hb;replace ag:=kB ag hb;replace af:=kB af hb;replace HB:=kH hb;clear hb)|((with_reducible refine jd 7 rfl ?_);(try (refine gate_guard (by rfl) ?_;dsimp only));refine jX _ 118 ?_;intro bF hg tF hbox hb;have ah:=aM hbox;have fH:=kG hg;have aJ:=kN hg aa;have aK:=kM hg aa;have aT:=kN hg ae;have aU:=kM hg ae;have aW:=kN hg ag;have aX:=kM hg ag;have aN:=kN hg af;have aQ:=kM hg af;replace aa:=kB aa hb;replace ae:=kB ae hb;replace ag:=kB ag hb;replace af:=kB af hb;replace HB:=kH hb;clear hb hbox hg;have ni:=aK.out;have nk:=aJ.out;have nu:=aU.out;have ny:=aT.out;have nz:=aX.out;have nA:=aW.out;have nC:=aQ.out;have nD:=aN.out;have dV:=jz2 ah))
 (try simp only [Act.put,List.setIfInBounds_toArray,List.set_cons_zero,List.set_cons_succ])
 go_cut [21] (fun v21 wc=>∃ (kq:Nat) (bT:Bool),v21 = .bool bT/\Aside0 (Sb0.j0 kq bT bA aY bq bu aZ bi bn bv bz=some (r1,r2,r3,r4,r5))/\Aside0 (kq<=k)/\Aside0 (wc.heap[bG]?=some (.cells #[iV bA,iV aY,iV bq,iV bu,iV aZ] 27 (0,0)))/\Aside0 (wc.heap[bH]?=some (.cells #[iV bi,iV bn] 118 (0,0)))/\Aside0 (wc.heap[bI]?=some (.cells #[iV bv,iV bz] 118 (0,0)))/\Aside0 (wc.heap[bg]?=some (.cells #[iV 0,iV 0,iV 0,iV 0,iV 0] 27 (0,0)))/\Aside0 (wc.heap[bF]?=some (.cells #[iV bN,iV bM] 118 (0,0)))/\Aside0 (Below w.heap.size w wc))
 case first =>
  have H:=ek.out
  clear ek
  obtain⟨eQ,tH,H⟩:=qE H
  try dsimp only at H
  replace H:=jB H;rcases H with ⟨rfl,H⟩ | ⟨rfl,H⟩
  ·obtain⟨fT,bW⟩:=ky ((([1,2,6,7,8,9]:List Int)):List Int)
   first|replace H:=kz bW H|rw [<- bW.out] at H
   obtain⟨dZ,qm,H⟩:=qE H
   try dsimp only at H
   have H':=aM H
   clear H
   have nE:=av.out
   have nG:=ax.out
   have nH:=az.out
   have nI:=ay.out
   have nJ:=aD.out
   have nK:=aG.out
   have nL:=aW.out
   have nM:=aX.out
   have sM:=jz2 ag
   exact Sb0_1
  have H':=aM H
  clear H
  have nN:=av.out
  have nO:=ax.out
  have nP:=az.out
  have nQ:=ay.out
  have nR:=aD.out
  have nS:=aG.out
  have nT:=aW.out
  have nU:=aX.out
  have sN:=jz2 ag
  exact Sb0_1
 clear ek
 try clear c5;try clear dN;try clear dO;try clear dR;try clear dS;try clear dU;try clear dV
 obtain⟨kq,bT,rfl,HA,d9,aa,ae,ag,af,ah,HB⟩:=hcut
 cases kq with
 | zero=>exact absurd HA.out (by simp [Sb0.j0])
 | succ fB =>
  have H:=HA.out
  clear HA
  simp only [Sb0.j0] at H
  replace H:=jB H;rcases H with ⟨rfl,H⟩ | ⟨rfl,H⟩
  ·obtain⟨rfl,rfl,rfl,rfl,rfl⟩:=oJ5 H
   have nV:=ai.out
   have nW:=aj.out
   have nX:=ax.out
   have nY:=av.out
   have nZ:=aH.out
   have oh:=aI.out
   have ol:=aJ.out
   have oo:=aK.out
   have sO:=jz5 aa
   have ou:=aC.out
   have ow:=aA.out
   have oz:=aG.out
   have oC:=aD.out
   have oD:=aN.out
   have oF:=aQ.out
   have sP:=jz5 af
   go_wp2
   refine bodyPost_ret (results_cell_row rfl _ _ bg 27 #[iV 2,iV aY,iV bq,iV 0,iV 0] (0,0) _ rfl (qF af) underlying27 rfl (by kernel_rfl)) rfl ?_
   exact⟨qW,qB⟩
  have eu:=aM H
  clear H
  go_upto_region 6 with (fail)
  go_cut [35] (fun v35 wc=>∃ (kq:Nat) (bU:Bool),v35 = .bool bU/\Aside0 (Sb0.j1 kq bU bA aY bq bu aZ bi bn bv bz=some (r1,r2,r3,r4,r5))/\Aside0 (kq<=fB)/\Aside0 (wc.heap[bG]?=some (.cells #[iV bA,iV aY,iV bq,iV bu,iV aZ] 27 (0,0)))/\Aside0 (wc.heap[bH]?=some (.cells #[iV bi,iV bn] 118 (0,0)))/\Aside0 (wc.heap[bI]?=some (.cells #[iV bv,iV bz] 118 (0,0)))/\Aside0 (wc.heap[bg]?=some (.cells #[iV 0,iV 0,iV 0,iV 0,iV 0] 27 (0,0)))/\Aside0 (wc.heap[bF]?=some (.cells #[iV bN,iV bM] 118 (0,0)))/\Aside0 (Below w.heap.size w wc))
  case first =>
   have H:=eu.out
   clear eu
   obtain⟨eB,tJ,H⟩:=qE H
   try dsimp only at H
   replace H:=jB H;rcases H with ⟨rfl,H⟩ | ⟨rfl,H⟩
   ·obtain⟨gm,bY⟩:=ky ((([10,11]:List Int)):List Int)
    first|replace H:=kz bY H|rw [<- bY.out] at H
    obtain⟨dX,rf,H⟩:=qE H
    try dsimp only at H
    have H':=aM H
    clear H
    have oG:=av.out
    have oH:=ax.out
    have oI:=az.out
    have oK:=ay.out
    have oL:=aD.out
    have oM:=aG.out
    have oN:=aW.out
    have oO:=aX.out
    have sQ:=jz2 ag
    exact Sb0_3
   have H':=aM H
   clear H
   have oP:=av.out
   have oQ:=ax.out
   have oU:=az.out
   have oV:=ay.out
   have gp:=aD.out
   have gq:=aG.out
   have gu:=aW.out
   have gz:=aX.out
   have oW:=jz2 ag
   exact Sb0_3
  clear eu
  try clear c5;try clear dN;try clear dO;try clear dR;try clear dS;try clear dU;try clear dV
  obtain⟨kq,bU,rfl,HA,fA,aa,ae,ag,af,ah,HB⟩:=hcut
  cases kq with
  | zero=>exact absurd HA.out (by simp [Sb0.j1])
  | succ fw =>
   have H:=HA.out
   clear HA
   simp only [Sb0.j1] at H
   replace H:=jB H;rcases H with ⟨rfl,H⟩ | ⟨rfl,H⟩
   ·obtain⟨rfl,rfl,rfl,rfl,rfl⟩:=oJ5 H
    have gB:=ai.out
    have gD:=aj.out
    have gF:=ax.out
    have gG:=av.out
    have gH:=aH.out
    have gI:=aI.out
    have gJ:=aJ.out
    have gK:=aK.out
    have oZ:=jz5 aa
    have gL:=aC.out
    have gM:=aA.out
    have gN:=aG.out
    have gP:=aD.out
    have gQ:=aN.out
    have gT:=aQ.out
    have o5:=jz5 af
    go_wp2
    refine bodyPost_ret (results_cell_row rfl _ _ bg 27 #[iV 2,iV aY,iV bq,iV 0,iV 0] (0,0) _ rfl (qF af) underlying27 rfl (by kernel_rfl)) rfl ?_
    exact⟨qW,qB⟩
   have dP:=aM H
   clear H
   go_upto_region 8 with (fail)
   go_cut [49] (fun v49 wc=>∃ (kq:Nat) (bQ:Bool),v49 = .bool bQ/\Aside0 (Sb0.j2 kq bQ bA aY bq bu aZ bi bn bv bz=some (r1,r2,r3,r4,r5))/\Aside0 (kq<=fw)/\Aside0 (wc.heap[bG]?=some (.cells #[iV bA,iV aY,iV bq,iV bu,iV aZ] 27 (0,0)))/\Aside0 (wc.heap[bH]?=some (.cells #[iV bi,iV bn] 118 (0,0)))/\Aside0 (wc.heap[bI]?=some (.cells #[iV bv,iV bz] 118 (0,0)))/\Aside0 (wc.heap[bg]?=some (.cells #[iV 0,iV 0,iV 0,iV 0,iV 0] 27 (0,0)))/\Aside0 (wc.heap[bF]?=some (.cells #[iV bN,iV bM] 118 (0,0)))/\Aside0 (Below w.heap.size w wc))
   case first =>
    have H:=dP.out
    clear dP
    obtain⟨eD,sS,H⟩:=qE H
    try dsimp only at H
    replace H:=jB H;rcases H with ⟨rfl,H⟩ | ⟨rfl,H⟩
    ·obtain⟨fU,bX⟩:=ky ((([1,2,8]:List Int)):List Int)
     first|replace H:=kz bX H|rw [<- bX.out] at H
     obtain⟨dY,fV,H⟩:=qE H
     try dsimp only at H
     have H':=aM H
     clear H
     have gU:=aj.out
     have gV:=ai.out
     have gW:=ay.out
     have gX:=az.out
     have gY:=aA.out
     have gZ:=aC.out
     have ib:=aT.out
     have ic:=aU.out
     have o6:=jz2 ae
     exact Sb0_2
    have H':=aM H
    clear H
    have ig:=aj.out
    have ik:=ai.out
    have il:=ay.out
    have iq:=az.out
    have iw:=aA.out
    have iy:=aC.out
    have iA:=aT.out
    have iB:=aU.out
    have o7:=jz2 ae
    exact Sb0_2
   clear dP
   try clear c5;try clear dN;try clear dO;try clear dR;try clear dS;try clear dU;try clear dV
   obtain⟨kq,bQ,rfl,HA,fC,aa,ae,ag,af,ah,HB⟩:=hcut
   cases kq with
   | zero=>exact absurd HA.out (by simp [Sb0.j2])
   | succ fI =>
    have H:=HA.out
    clear HA
    simp only [Sb0.j2] at H
    replace H:=jB H;rcases H with ⟨rfl,H⟩ | ⟨rfl,H⟩
    ·obtain⟨rfl,rfl,rfl,rfl,rfl⟩:=oJ5 H
     have iC:=ai.out
     have iD:=aj.out
     have iE:=ax.out
     have iF:=av.out
     have iG:=aH.out
     have iH:=aI.out
     have iI:=aJ.out
     have iJ:=aK.out
     have o8:=jz5 aa
     have iK:=aC.out
     have iL:=aA.out
     have iM:=aG.out
     have iN:=aD.out
     have iO:=aN.out
     have iP:=aQ.out
     have o9:=jz5 af
     go_wp2
     refine bodyPost_ret (results_cell_row rfl _ _ bg 27 #[iV 2,iV aY,iV bu,iV 0,iV 0] (0,0) _ rfl (qF af) underlying27 rfl (by kernel_rfl)) rfl ?_
     exact⟨qW,qB⟩
    have dQ:=aM H
    clear H
    go_upto_region 10 with (fail)
    go_cut [63] (fun v63 wc=>∃ (kq:Nat) (bR:Bool),v63 = .bool bR/\Aside0 (Sb0.j3 kq bR bA aY bq bu aZ bi bn bv bz=some (r1,r2,r3,r4,r5))/\Aside0 (kq<=fI)/\Aside0 (wc.heap[bG]?=some (.cells #[iV bA,iV aY,iV bq,iV bu,iV aZ] 27 (0,0)))/\Aside0 (wc.heap[bH]?=some (.cells #[iV bi,iV bn] 118 (0,0)))/\Aside0 (wc.heap[bI]?=some (.cells #[iV bv,iV bz] 118 (0,0)))/\Aside0 (wc.heap[bg]?=some (.cells #[iV 0,iV 0,iV 0,iV 0,iV 0] 27 (0,0)))/\Aside0 (wc.heap[bF]?=some (.cells #[iV bN,iV bM] 118 (0,0)))/\Aside0 (Below w.heap.size w wc))
    case first =>
     have H:=dQ.out
     clear dQ
     obtain⟨eF,sU,H⟩:=qE H
     try dsimp only at H
     replace H:=jB H;rcases H with ⟨rfl,H⟩ | ⟨rfl,H⟩
     ·have H':=aM H
      clear H
      have iQ:=aj.out
      have iR:=ai.out
      have iT:=ay.out
      have iU:=az.out
      have iW:=aA.out
      have iX:=aC.out
      have iY:=aT.out
      have iZ:=aU.out
      have pq:=jz2 ae
      exact Sb0_4
     have H':=aM H
     clear H
     have ja:=aj.out
     have je:=ai.out
     have jf:=ay.out
     have jg:=az.out
     have jh:=aA.out
     have jk:=aC.out
     have jl:=aT.out
     have jm:=aU.out
     have pz:=jz2 ae
     exact Sb0_4
    clear dQ
    try clear c5;try clear dN;try clear dO;try clear dR;try clear dS;try clear dU;try clear dV
    obtain⟨kq,bR,rfl,HA,pE,aa,ae,ag,af,ah,HB⟩:=hcut
    cases kq with
    | zero=>exact absurd HA.out (by simp [Sb0.j3])
    | succ bV =>
     have H:=HA.out
     clear HA
     simp only [Sb0.j3] at H
     replace H:=jB H;rcases H with ⟨rfl,H⟩ | ⟨rfl,H⟩
     ·obtain⟨rfl,rfl,rfl,rfl,rfl⟩:=oJ5 H
      have jo:=ai.out
      have jr:=aj.out
      have jv:=ax.out
      have jw:=av.out
      have jy:=aH.out
      have jA:=aI.out
      have jH:=aJ.out
      have jK:=aK.out
      have pF:=jz5 aa
      have jM:=aC.out
      have jN:=aA.out
      have jO:=aG.out
      have jQ:=aD.out
      have jS:=aN.out
      have jT:=aQ.out
      have pG:=jz5 af
      go_wp2
      refine bodyPost_ret (results_cell_row rfl _ _ bg 27 #[iV 2,iV aY,iV bu,iV 0,iV 0] (0,0) _ rfl (qF af) underlying27 rfl (by kernel_rfl)) rfl ?_
      exact⟨qW,qB⟩
     obtain⟨eG,sV,H⟩:=qE H
     try dsimp only at H
     replace H:=jB H;rcases H with ⟨rfl,H⟩ | ⟨rfl,H⟩
     ·obtain⟨cz,bP⟩:=ky ((([3,10]:List Int)):List Int)
      first|replace H:=kz bP H|rw [<- bP.out] at H
      obtain⟨eH,fJ,H⟩:=qE H
      try dsimp only at H
      replace H:=jB H;rcases H with ⟨rfl,H⟩ | ⟨rfl,H⟩
      ·obtain⟨rfl,rfl,rfl,rfl,rfl⟩:=oJ5 H
       have jW:=aj.out
       have jY:=ai.out
       have jZ:=ay.out
       have j4:=az.out
       have j5:=aA.out
       have j6:=aC.out
       have kg:=aT.out
       have ko:=aU.out
       have pI:=jz2 ae
       go_wp2_with (first|((with_reducible refine jc 114 78 rfl rfl ?_);refine jG func114 #[.agg #[iV bi,iV bn],iV 0] ?_;refine (Sb4.calls _ _ _ _ _ (Aside0.out (by assumption))).mono ?_;rintro e cB ⟨rfl,hb⟩;refine⟨_,rfl,?_⟩;replace aa:=kB aa hb;replace ae:=kB ae hb;replace ag:=kB ag hb;replace af:=kB af hb;replace ah:=kB ah hb;replace HB:=kH hb;clear hb;have cK:=ax.out;have cO:=av.out;have df:=aH.out;have dh:=aI.out;have di:=aJ.out;have dn:=aK.out;have dw:=jz5 aa)|((with_reducible refine jd 86 rfl ?_);(try (refine gate_guard (by rfl) ?_;dsimp only));refine jV (Kd.int .i64) 3 ([3,10]:List Int) [iV 3,iV 10] (Reps.one (show Kd.M (Kd.int .i64) _ _ _ 3 [iV 3] from rfl) (Reps.one (show Kd.M (Kd.int .i64) _ _ _ 10 [iV 10] from rfl) (Reps.none _ _))) ?_;intro kr au aV hb;(first|rw [<- bP.out] at aV|(simp only [Int.reduceToNat] at aV;rw [<- bP.out] at aV));have bE:=kL aV;replace aa:=kB aa hb;replace ae:=kB ae hb;replace ag:=kB ag hb;replace af:=kB af hb;replace ah:=kB ah hb;replace HB:=kH hb;clear hb aV;obtain⟨bJ,bK,bL⟩:=Kd.R_slice bE.out;subst bL)|(go_at_call 124;(with_reducible refine (SaZ.calls bV aZ _ _ cz true _ ?bC ?bD fJ.out).mono ?_);(case bC=>exact kC (Kd.R_reads' bE.out).2.2);(case bD=>exact (Kd.R_reads' bE.out).2.1);rintro e w' ⟨rfl,⟨nd,rfl⟩⟩;(try (rw [drewN_self au];generalize hq_:World.drewN au _=au;have dx:Aside0 (Kd.R (Kd.int .i64) 3 au w.heap.size (fun _=>True) (.slice bJ cz.length bK) cz):=⟨by rw [<- hq_];exact (qR bE)⟩;have dz:Aside0 (au.heap[bG]?=some (.cells #[iV bA,iV aY,iV bq,iV bu,iV aZ] 27 (0,0))):=⟨by rw [<- hq_];exact (qK aa)⟩;have dA:Aside0 (au.heap[bH]?=some (.cells #[iV bi,iV bn] 118 (0,0))):=⟨by rw [<- hq_];exact (qK ae)⟩;have dB:Aside0 (au.heap[bI]?=some (.cells #[iV bv,iV bz] 118 (0,0))):=⟨by rw [<- hq_];exact (qK ag)⟩;have dC:Aside0 (au.heap[bg]?=some (.cells #[iV 0,iV 0,iV 0,iV 0,iV 0] 27 (0,0))):=⟨by rw [<- hq_];exact (qK af)⟩;have dD:Aside0 (au.heap[bF]?=some (.cells #[iV bN,iV bM] 118 (0,0))):=⟨by rw [<- hq_];exact (qK ah)⟩;have dE:Aside0 (Below w.heap.size w au):=⟨by rw [<- hq_];exact qB⟩;clear bE aa ae ag af ah HB hq_;have bE:=dx;have aa:=dz;have ae:=dA;have ag:=dB;have af:=dC;have ah:=dD;have HB:=dE;clear dx dz dA dB dC dD dE));have dF:=jz5 aa;have dG:=aG.out;have dH:=aD.out;have fK:=aN.out;have fM:=aQ.out;have fO:=jz5 af))
       refine bodyPost_ret (results_cell_row rfl _ _ bg 27 #[iV 1,iV aY,iV 0,iV 0,iV 0] (0,0) _ rfl (qF af) underlying27 rfl (by kernel_rfl)) rfl ?_
       exact⟨qW,qB⟩
      obtain⟨rfl,rfl,rfl,rfl,rfl⟩:=oJ5 H
      have ku:=aj.out
      have kv:=ai.out
      have kw:=ay.out
      have kD:=az.out
      have kE:=aA.out
      have kF:=aC.out
      have kJ:=aT.out
      have kP:=aU.out
      have pJ:=jz2 ae
      go_wp2_with (first|((with_reducible refine jc 114 78 rfl rfl ?_);refine jG func114 #[.agg #[iV bi,iV bn],iV 0] ?_;refine (Sb4.calls _ _ _ _ _ (Aside0.out (by assumption))).mono ?_;rintro e cB ⟨rfl,hb⟩;refine⟨_,rfl,?_⟩;replace aa:=kB aa hb;replace ae:=kB ae hb;replace ag:=kB ag hb;replace af:=kB af hb;replace ah:=kB ah hb;replace HB:=kH hb;clear hb;have cK:=ax.out;have cO:=av.out;have df:=aH.out;have dh:=aI.out;have di:=aJ.out;have dn:=aK.out;have dw:=jz5 aa)|((with_reducible refine jd 86 rfl ?_);(try (refine gate_guard (by rfl) ?_;dsimp only));refine jV (Kd.int .i64) 3 ([3,10]:List Int) [iV 3,iV 10] (Reps.one (show Kd.M (Kd.int .i64) _ _ _ 3 [iV 3] from rfl) (Reps.one (show Kd.M (Kd.int .i64) _ _ _ 10 [iV 10] from rfl) (Reps.none _ _))) ?_;intro kr au aV hb;(first|rw [<- bP.out] at aV|(simp only [Int.reduceToNat] at aV;rw [<- bP.out] at aV));have bE:=kL aV;replace aa:=kB aa hb;replace ae:=kB ae hb;replace ag:=kB ag hb;replace af:=kB af hb;replace ah:=kB ah hb;replace HB:=kH hb;clear hb aV;obtain⟨bJ,bK,bL⟩:=Kd.R_slice bE.out;subst bL)|(go_at_call 124;(with_reducible refine (SaZ.calls bV aZ _ _ cz false _ ?bC ?bD fJ.out).mono ?_);(case bC=>exact kC (Kd.R_reads' bE.out).2.2);(case bD=>exact (Kd.R_reads' bE.out).2.1);rintro e w' ⟨rfl,⟨nd,rfl⟩⟩;(try (rw [drewN_self au];generalize hq_:World.drewN au _=au;have dx:Aside0 (Kd.R (Kd.int .i64) 3 au w.heap.size (fun _=>True) (.slice bJ cz.length bK) cz):=⟨by rw [<- hq_];exact (qR bE)⟩;have dz:Aside0 (au.heap[bG]?=some (.cells #[iV bA,iV aY,iV bq,iV bu,iV aZ] 27 (0,0))):=⟨by rw [<- hq_];exact (qK aa)⟩;have dA:Aside0 (au.heap[bH]?=some (.cells #[iV bi,iV bn] 118 (0,0))):=⟨by rw [<- hq_];exact (qK ae)⟩;have dB:Aside0 (au.heap[bI]?=some (.cells #[iV bv,iV bz] 118 (0,0))):=⟨by rw [<- hq_];exact (qK ag)⟩;have dC:Aside0 (au.heap[bg]?=some (.cells #[iV 0,iV 0,iV 0,iV 0,iV 0] 27 (0,0))):=⟨by rw [<- hq_];exact (qK af)⟩;have dD:Aside0 (au.heap[bF]?=some (.cells #[iV bN,iV bM] 118 (0,0))):=⟨by rw [<- hq_];exact (qK ah)⟩;have dE:Aside0 (Below w.heap.size w au):=⟨by rw [<- hq_];exact qB⟩;clear bE aa ae ag af ah HB hq_;have bE:=dx;have aa:=dz;have ae:=dA;have ag:=dB;have af:=dC;have ah:=dD;have HB:=dE;clear dx dz dA dB dC dD dE));have dF:=jz5 aa;have dG:=aG.out;have dH:=aD.out;have fK:=aN.out;have fM:=aQ.out;have fO:=jz5 af))
      refine bodyPost_ret (results_cell_row rfl _ _ bg 27 #[iV bA,iV aY,iV bq,iV bu,iV aZ] (0,0) _ rfl (qF af) underlying27 rfl (by kernel_rfl)) rfl ?_
      exact⟨qW,qB⟩
     obtain⟨eO,sW,H⟩:=qE H
     try dsimp only at H
     replace H:=jB H;rcases H with ⟨rfl,H⟩ | ⟨rfl,H⟩
     ·obtain⟨bZ,bO⟩:=ky ((([3,10]:List Int)):List Int)
      first|replace H:=kz bO H|rw [<- bO.out] at H
      obtain⟨eP,fo,H⟩:=qE H
      try dsimp only at H
      replace H:=jB H;rcases H with ⟨rfl,H⟩ | ⟨rfl,H⟩
      ·obtain⟨rfl,rfl,rfl,rfl,rfl⟩:=oJ5 H
       have kU:=aj.out
       have kV:=ai.out
       have kX:=ay.out
       have kY:=az.out
       have kZ:=aA.out
       have lc:=aC.out
       have lg:=aT.out
       have lh:=aU.out
       have pK:=jz2 ae
       go_wp2_with (first|((with_reducible refine jc 114 78 rfl rfl ?_);refine jG func114 #[.agg #[iV bi,iV bn],iV 0] ?_;refine (Sb4.calls _ _ _ _ _ (Aside0.out (by assumption))).mono ?_;rintro e cB ⟨rfl,hb⟩;refine⟨_,rfl,?_⟩;replace aa:=kB aa hb;replace ae:=kB ae hb;replace ag:=kB ag hb;replace af:=kB af hb;replace ah:=kB ah hb;replace HB:=kH hb;clear hb;have cK:=av.out;have cO:=ax.out;have df:=aD.out;have dh:=aG.out;have di:=aW.out;have dn:=aX.out;have dw:=jz2 ag)|(go_at_call 114;(with_reducible refine (Sb4.calls _ _ _ _ _ (Aside0.out (by assumption))).mono ?_);rintro e eT ⟨rfl,hb⟩;replace aa:=kB aa hb;replace ae:=kB ae hb;replace ag:=kB ag hb;replace af:=kB af hb;replace ah:=kB ah hb;replace HB:=kH hb;clear hb;have eU:=aH.out;have eX:=aI.out;have eY:=aJ.out;have eZ:=aK.out;have fe:=jz5 aa)|((with_reducible refine jd 86 rfl ?_);(try (refine gate_guard (by rfl) ?_;dsimp only));refine jV (Kd.int .i64) 3 ([3,10]:List Int) [iV 3,iV 10] (Reps.one (show Kd.M (Kd.int .i64) _ _ _ 3 [iV 3] from rfl) (Reps.one (show Kd.M (Kd.int .i64) _ _ _ 10 [iV 10] from rfl) (Reps.none _ _))) ?_;intro fP au aV hb;(first|rw [<- bO.out] at aV|(simp only [Int.reduceToNat] at aV;rw [<- bO.out] at aV));have bB:=kL aV;replace aa:=kB aa hb;replace ae:=kB ae hb;replace ag:=kB ag hb;replace af:=kB af hb;replace ah:=kB ah hb;replace HB:=kH hb;clear hb aV;obtain⟨bJ,bK,bL⟩:=Kd.R_slice bB.out;subst bL)|(go_at_call 124;(with_reducible refine (SaZ.calls bV aZ _ _ bZ true _ ?bC ?bD fo.out).mono ?_);(case bC=>exact kC (Kd.R_reads' bB.out).2.2);(case bD=>exact (Kd.R_reads' bB.out).2.1);rintro e w' ⟨rfl,⟨nd,rfl⟩⟩;(try (rw [drewN_self au];generalize hq_:World.drewN au _=au;have dx:Aside0 (Kd.R (Kd.int .i64) 3 au w.heap.size (fun _=>True) (.slice bJ bZ.length bK) bZ):=⟨by rw [<- hq_];exact (qR bB)⟩;have dz:Aside0 (au.heap[bG]?=some (.cells #[iV bA,iV aY,iV bq,iV bu,iV aZ] 27 (0,0))):=⟨by rw [<- hq_];exact (qK aa)⟩;have dA:Aside0 (au.heap[bH]?=some (.cells #[iV bi,iV bn] 118 (0,0))):=⟨by rw [<- hq_];exact (qK ae)⟩;have dB:Aside0 (au.heap[bI]?=some (.cells #[iV bv,iV bz] 118 (0,0))):=⟨by rw [<- hq_];exact (qK ag)⟩;have dC:Aside0 (au.heap[bg]?=some (.cells #[iV 0,iV 0,iV 0,iV 0,iV 0] 27 (0,0))):=⟨by rw [<- hq_];exact (qK af)⟩;have dD:Aside0 (au.heap[bF]?=some (.cells #[iV bN,iV bM] 118 (0,0))):=⟨by rw [<- hq_];exact (qK ah)⟩;have dE:Aside0 (Below w.heap.size w au):=⟨by rw [<- hq_];exact qB⟩;clear bB aa ae ag af ah HB hq_;have bB:=dx;have aa:=dz;have ae:=dA;have ag:=dB;have af:=dC;have ah:=dD;have HB:=dE;clear dx dz dA dB dC dD dE));have dF:=jz5 aa;have dG:=aN.out;have dH:=aQ.out;have fq:=jz5 af))
       refine bodyPost_ret (results_cell_row rfl _ _ bg 27 #[iV 1,iV aY,iV 0,iV 0,iV 0] (0,0) _ rfl (qF af) underlying27 rfl (by kernel_rfl)) rfl ?_
       exact⟨qW,qB⟩
      obtain⟨rfl,rfl,rfl,rfl,rfl⟩:=oJ5 H
      have ll:=aj.out
      have lu:=ai.out
      have lw:=ay.out
      have lC:=az.out
      have lD:=aA.out
      have lF:=aC.out
      have lG:=aT.out
      have lH:=aU.out
      have pM:=jz2 ae
      exact Sb0_0
     obtain⟨rfl,rfl,rfl,rfl,rfl⟩:=oJ5 H
     have lI:=aj.out
     have lJ:=ai.out
     have lK:=ay.out
     have lL:=az.out
     have lM:=aA.out
     have lN:=aC.out
     have lQ:=aT.out
     have lS:=aU.out
     have pO:=jz2 ae
     exact Sb0_0
end Go.Proofs.YtebpplallecogaaGreat.M
