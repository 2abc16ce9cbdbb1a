/- Part 3 of the proof: A function as plain Lean and its contract: written by a program of this session's, turned from the kit's print. -/
import Derived.Test.YtebpplallecogaaGreatDI2
set_option linter.unusedVariables false
set_option linter.unusedSimpArgs false
set_option maxHeartbeats 8000000
set_option maxRecDepth 100000
namespace Go.Proofs.YtebpplallecogaaGreat.M
open Go.Proofs.Tryz Go.RowKit Go.Proofs.YtebpplallecogaaGreatW.PrintWords Go.Proofs.YtebpplallecogaaGreatW.PrintLast Go.Proofs.YtebpplallecogaaGreatW.PrintMore Kd
attribute [local go_sem] aal aaj aaz aay aae aad aak aai
attribute [local go_sem high] anv
def adJ:Nat->List (List ab3)->Int->List ab3->Bool->Int->Option (Bool × (List (List ab3)))
 | 0,_,_,_,_,_=>none
 | k+1,x0,x1,x2,x7,x8=>if x8 < 12 then (if 0<=x1 then (if x1 < (x0.length:Int) then (if 0<=x8 then (if x8 < ((aaC x0 x1).length:Int) then (if x8 < (x2.length:Int) then ((alz ((aa8 (aaC x0 x1) x8).f0) ((aa8 (aaC x0 x1) x8).f1) ((aa8 x2 x8).f0) ((aa8 x2 x8).f1)).bind fun bq=>(if (!(bq.1 == ((aa8 (aaC x0 x1) x8).f0)) || (!(bq.2 == ((aa8 (aaC x0 x1) x8).f1))))=true then (adJ k (x0.set (x1:Int).toNat ((aaC x0 x1).set (x8:Int).toNat (⟨bq.1,bq.2⟩:ab3))) x1 x2 true (wrap64 (x8+1))) else (adJ k x0 x1 x2 x7 (wrap64 (x8+1))))) else (none)) else (none)) else (none)) else (none)) else (none)) else (some (x7,x0))
def Sb3.f (k:Nat) (l0:List (List ab3)) (a1:Int) (l2:List ab3):Option (Bool × (List (List ab3))):=adJ k l0 a1 l2 false 0
def anP:Bool × List (List Nat × List Nat):=(true,[([],[]),([],[]),([0,1],[0,1]),([2],[2]),([],[]),([3,4],[3,4]),([5],[5]),([],[]),([],[]),([7,8],[7,8]),([9],[9]),([6,10],[6,10]),([],[]),([12,11,11,0,1,2,3,4,5,6,7,8,9,10,11,12],[11,12])])
def apK:List Nat:=[0,0,3,7,0,31,63,0,0,384,896,2047,0,8191]
theorem an4:acz .any (opsOf f122 5)=anP:=by kernel_rfl
theorem alI:ab9 anP.2 apK=true:=by kernel_rfl
def anO:Bool × List (List Nat × List Nat):=(true,[([],[]),([],[]),([],[]),([1,2],[1,2]),([3],[3]),([],[]),([4,5],[4,5]),([6],[6]),([0,7],[0,7])])
def apJ:List Nat:=[0,0,0,6,14,0,62,126,255]
theorem an3:acz .any (opsOf f122 6)=anO:=by kernel_rfl
theorem alH:ab9 anO.2 apJ=true:=by kernel_rfl
def anN:Bool × List (List Nat × List Nat):=(true,[([],[]),([],[]),([0,1],[0,1]),([2],[2]),([],[]),([],[]),([3,4,0,1,2,3,4,5],[3,4]),([6,5,0,1,2,3,4,5],[5,6])])
def apI:List Nat:=[0,0,3,7,0,0,63,127]
theorem an2:acz .any (opsOf f122 7)=anN:=by kernel_rfl
theorem alG:ab9 anN.2 apI=true:=by kernel_rfl
theorem Sb3.calls (k:Nat) (aR:Nat->Prop) (aP:Value) (l0:List (List ab3)) (a1:Int) (A2:Option Addr) (c2:Nat) (l2:List ab3) (r1:Bool) (r2:List (List ab3)) (w0 w:World) (hB:Below w0.heap.size w0 w) (ho0:Kd.S (Kd.slice 118 abk) 104 w w0.heap.size aR aP l0) (hr2:∀ W_,Kept w W_ (fun k_=>aR k_)->Kd.C abk W_ A2 l2.length l2) (hc2:l2.length<=c2) (h:Sb3.f k l0 a1 l2=some (r1,r2)) :
  Calls prog 122 #[aP,iV a1,.slice A2 l2.length c2] w fun e w'=>e = .returned (.bool r1)/\Kd.S (Kd.slice 118 abk) 104 w' w0.heap.size (fun k_=>(aR k_\/w.heap.size<=k_)) aP r2/\Below w0.heap.size w0 w'/\Kept w w' (fun k_=>aR k_):=by
 have fO:=underlying118
 have gM:=aM (show Kd.S (Kd.slice 118 abk) 104 w w0.heap.size (fun k_=>(aR k_\/w.heap.size<=k_)) aP l0 from S_mono ho0 (fun k_ hk=>(.inl hk)))
 have HR2:=aM hr2
 have iB:=aM hc2
 clear hr2 hc2
 have HK:=aM (acF w (fun k_=>aR k_))
 have HW0:=aM hB.size
 have HB:=aM hB
 clear hB
 have H:(adJ k l0 a1 l2 false 0)=some (r1,r2):=h
 clear h
 have H':=aM H
 clear H
 go_enter func122,ntmps122
 go_wp2
 go_loopg [7,8] k (fun kq v7 v8 w'=>∃ (af:List (List ab3)) (bV:Bool) (aa:Int),v7 = .bool bV/\v8 = iV aa/\aa1 (adJ kq af a1 l2 bV aa=some (r1,r2))/\aa1 (kq<=k)/\aa1 (Kd.S (Kd.slice 118 abk) 104 w' w0.heap.size (fun k_=>(aR k_\/w.heap.size<=k_)) aP af)/\aa1 (Kept w w' (fun k_=>aR k_))/\aa1 (Below w0.heap.size w0 w'))
 case atStart=>exact⟨(l0),(false),(0),qZ,qZ,H',⟨Nat.le_refl _⟩,⟨qS gM⟩,⟨qT⟩,⟨qB⟩⟩
 clear H'
 try clear c2
 obtain⟨af,bV,aa,rfl,rfl,HA,eG,ai,HK,HB⟩:=hrel
 rcases gk with _|k1
 ·exact absurd HA.out (by simp [adJ])
 have H:=HA.out
 clear HA
 simp only [adJ] at H
 replace H:=jD H;rcases H with ⟨eZ,H⟩ | ⟨eZ,H⟩
 ·replace H:=jI H;obtain⟨gN,H⟩:=H
  replace H:=jI H;obtain⟨gP,H⟩:=H
  replace H:=jI H;obtain⟨gQ,H⟩:=H
  replace H:=jI H;obtain⟨gT,H⟩:=H
  replace H:=jI H;obtain⟨gU,H⟩:=H
  obtain⟨⟨ay,az⟩,fP,H⟩:=qE H
  try dsimp only at H
  have df:=aM H;clear H
  try go_wp2
  replace ai:=aM (S_drew ai.out)
  replace HK:=aM (Kept.drew HK.out)
  replace HB:=aM (aaf HB.out)
  obtain⟨gV,bM,dR⟩:=S_slice ai.out
  (first|subst dR|(injection dR with fQ gW fT;have gX:=fQ.symm;have gY:=fT.symm;clear fQ gW fT;subst gX;subst gY))
  have bW:0<=(a1:Int):=qD
  have bX:a1 < (af.length:Int):=qD
  obtain⟨ax,fe,aA,fo,aJ,bu,bv⟩:=ahj (S_reads' ai.out).2.2 a1 bW bX
  cases fo
  obtain⟨fU,di,dn,bN⟩:=S_get ai.out [] a1 bW (by first|exact bX|exact qD|(have e_:=(S_reads' ai.out).1;omega))
  obtain⟨eH,rfl,aS⟩:=dn
  have aD:=bN 0 _ rfl
  rw [Nat.add_zero,show ((Kd.slice 118 abk)).sz=1 from rfl,Nat.mul_one] at aD
  replace aD:=Option.some.inj (aD.symm.trans aJ)
  rw [aD] at aS
  have ag:=aM (show Kd.R abk 118 _ _ _ _ (aaC af a1) from aS)
  clear aD aS
  have ak:=aM aJ
  clear bN di
  have au:=aM bv
  have eO:=aM bu
  clear bv bu
  replace bW:=eq_true bW
  replace bX:=eq_true bX
  have dw:0<=(aa:Int):=qD
  have dx:aa < ((aaC af a1).length:Int):=qD
  obtain⟨av,fq,bz,bA⟩:=aaW (kC au.out) aa dw dx
  cases fq
  replace dw:=eq_true dw
  replace dx:=eq_true dx
  have aB:0<=(aa:Int):=qD
  have aC:aa < (l2.length:Int):=qD
  obtain⟨aF,fu,bB,bC⟩:=aaW (C_kept_now HR2.out HK.out) aa aB aC
  have eP:=bC
  have eQ:=bB
  cases fu
  replace aB:=eq_true aB
  replace aC:=eq_true aC
  refine abl (n:=14) (S:=fun w'=>w'.cell? (ax.add (a1).toNat)=some (.slice (some av) (aaC af a1).length aA)/\w'.cell? (av.add ((aa).toNat*2))=some (iV ((aa8 (aaC af a1) aa).f0))/\w'.cell? ⟨(av.add ((aa).toNat*2)).block,(av.add ((aa).toNat*2)).off+1,none⟩=some (iV ((aa8 (aaC af a1) aa).f1))/\w'.cell? (aF.add ((aa).toNat*2))=some (iV ((aa8 l2 aa).f0))/\w'.cell? ⟨(aF.add ((aa).toNat*2)).block,(aF.add ((aa).toNat*2)).off+1,none⟩=some (iV ((aa8 l2 aa).f1))) (ds:=[]) (jb 14 0) (by kernel_rfl) rfl rfl ⟨aJ,bz,bA,(abR (HR2.out _ (by repeat (first|exact HK.out|apply Kept.alloc|apply Kept.drewN|apply Kept.drew|refine Kept.setCell ?_ (.inr ah.out) _|refine Kept.setCell ?_ (.inr ah.out) _))) aa (of_eq_true aB) (of_eq_true aC)),(abQ (HR2.out _ (by repeat (first|exact HK.out|apply Kept.alloc|apply Kept.drewN|apply Kept.drew|refine Kept.setCell ?_ (.inr ah.out) _|refine Kept.setCell ?_ (.inr ah.out) _))) aa (of_eq_true aB) (of_eq_true aC))⟩ (fun hHeld=>?_);refine aaL an4 alI (fun HT_ HW_=>?_)
  generalize wr.drew=iC at ai HK HB ag au ak aJ bz bA bB bC hHeld ⊢
  refine jp 0 14 (jb 14 1) ?_
  refine jp 1 15 (jb 14 3) ?_
  refine jp 2 16 (jb 14 7) ?_
  refine jp 4 18 (jb 14 23) ?_
  refine jp 7 21 (jb 14 151) ?_
  refine jp 8 22 (jb 14 407) ?_
  refine jp 9 23 (jb 14 919) ?_
  refine jt 3 17 (jb 14 927) ?_
  refine jp 5 19 (jb 14 959) ?_
  refine jt 6 20 (jb 14 1023) ?_
  refine jt 10 24 (jb 14 2047) ?_
  refine acl (σ:=Nat) 1 (jb 14 8191) (fun s_=>[(25,.agg #[iV ay,iV az]),(9,.pointer (some ⟨s_,0,none⟩))]) (fun s_ w'=>(w'.cell? (ax.add (a1).toNat)=some (.slice (some av) (aaC af a1).length aA)/\w'.cell? (av.add ((aa).toNat*2))=some (iV ((aa8 (aaC af a1) aa).f0))/\w'.cell? ⟨(av.add ((aa).toNat*2)).block,(av.add ((aa).toNat*2)).off+1,none⟩=some (iV ((aa8 (aaC af a1) aa).f1))/\w'.cell? (aF.add ((aa).toNat*2))=some (iV ((aa8 l2 aa).f0))/\w'.cell? ⟨(aF.add ((aa).toNat*2)).block,(aF.add ((aa).toNat*2)).off+1,none⟩=some (iV ((aa8 l2 aa).f1)))/\(Kd.R abk 118 w' w0.heap.size (fun k_=>(aR k_\/w.heap.size<=k_)/\some k_≠(.slice (some ax) af.length bM:Value).ownBlock/\k_≠s_) (.slice (some av) (aaC af a1).length aA) (aaC af a1))/\(Kd.S (Kd.slice 118 abk) 104 w' w0.heap.size (fun k_=>(aR k_\/w.heap.size<=k_)/\k_≠s_) (.slice (some ax) af.length bM) af)/\(w'.cell? (ax.add (a1).toNat)=some (.slice (some av) (aaC af a1).length aA))/\(w'.heap[s_]?=some (.cells #[iV 0,iV 0] 118 (0,0)))/\(w.heap.size<=s_)/\(w0.heap.size<=s_)/\(Kept w w' (fun k_=>aR k_))/\(Below w0.heap.size w0 w')) ?_ ?_
  rotate_left
  ·intro hCont
   refine ak3 (i:=11) (j:=12) (Ni:=some 25) (Nj:=some 9) (jb 14 4095) (jb 14 6143) rfl rfl rfl rfl (ad3 HT_.out (by kernel_rfl)) (by decide) (by decide) (fun K hK=>?_) (fun K hK=>?_)
   ·skip
    refine abn func127 (by kernel_rfl) rfl #[.agg #[iV ((aa8 (aaC af a1) aa).f0),iV ((aa8 (aaC af a1) aa).f1)],.agg #[iV ((aa8 l2 aa).f0),iV ((aa8 l2 aa).f1)]] (by rfl) rfl rfl qM ?_
    with_reducible refine (Sb7.calls ((aa8 (aaC af a1) aa).f0) ((aa8 (aaC af a1) aa).f1) ((aa8 l2 aa).f0) ((aa8 l2 aa).f1) ay az _ fP.out).mono ?_
    rintro e gZ ⟨rfl,hb⟩
    have aZ:=(hb.cell (World.block_lt_of_cell? _ _ (hHeld.1))).trans (hHeld.1)
    have bg:=(hb.cell (World.block_lt_of_cell? _ _ (hHeld.2.1))).trans (hHeld.2.1)
    have bi:=(hb.cell (World.block_lt_of_cell? _ _ (hHeld.2.2.1))).trans (hHeld.2.2.1)
    refine⟨_,rfl,?_⟩
    replace ai:=kS ai hb
    replace ag:=kR ag hb
    replace au:=kQ au hb
    replace ak:=kW hb ak
    replace HK:=kT hb
    replace HB:=kH hb
    (try clear hb)
    (try clear hb2)
    (try clear hk)
    (try clear hi)
    refine hK.out _ _ ⟨aZ,bg,bi,(abR (HR2.out _ (by repeat (first|exact HK.out|apply Kept.alloc|apply Kept.drewN|apply Kept.drew|refine Kept.setCell ?_ (.inr ah.out) _|refine Kept.setCell ?_ (.inr ah.out) _))) aa (of_eq_true aB) (of_eq_true aC)),(abQ (HR2.out _ (by repeat (first|exact HK.out|apply Kept.alloc|apply Kept.drewN|apply Kept.drew|refine Kept.setCell ?_ (.inr ah.out) _|refine Kept.setCell ?_ (.inr ah.out) _))) aa (of_eq_true aB) (of_eq_true aC))⟩ (fun hHeld=>?_)
    clear hK K
    refine aaA (a':=?_) ?_ ?_
    rotate_left
    ·show Act.put _ (some 25) _=_
     simp only [Act.put,List.setIfInBounds_toArray,List.set_cons_zero,List.set_cons_succ,aas,aaw]
     rfl
    refine acK (i:=12) (N:=some 9) (jb 14 8191) rfl rfl (aaR HT_.out (by kernel_rfl)) (by decide) (fun K hK=>?_)
    refine ahh ?hg (N:=9) ?hd (cs:=#[iV 0,iV 0]) (t:=118) ?hr ?_;(case hd=>rfl);(case hg=>rfl);(case hr=>first|(go_simp;done)|(go_simp;rfl))
    intro ae hg w16 hbox hb
    have aZ:=(hb.cell (World.block_lt_of_cell? _ _ (hHeld.1))).trans (hHeld.1)
    have bg:=(hb.cell (World.block_lt_of_cell? _ _ (hHeld.2.1))).trans (hHeld.2.1)
    have bi:=(hb.cell (World.block_lt_of_cell? _ _ (hHeld.2.2.1))).trans (hHeld.2.2.1)
    have aj:=aM hbox
    have ah:=aM ((by rw [hg];exact (by first|exact HK.out.1|exact (show Kept w _ (fun k_=>aR k_) from qT).1):w.heap.size<=ae))
    have aX:=aM ((by rw [hg];exact (aa4 qB):w0.heap.size<=ae))
    replace ai:=aM (S_below (S_elderB (qS ai) ae (Nat.le_of_eq hg.symm)) hb)
    replace ag:=aM (R_below (R_elderB (qR ag) ae (Nat.le_of_eq hg.symm)) hb)
    replace au:=kQ au hb
    replace ak:=kW hb ak
    replace HK:=kT hb
    replace HB:=kH hb
    clear hb hbox hg
    refine hK.out _ _ ⟨aZ,bg,bi,(abR (HR2.out _ (by repeat (first|exact HK.out|apply Kept.alloc|apply Kept.drewN|apply Kept.drew|refine Kept.setCell ?_ (.inr ah.out) _|refine Kept.setCell ?_ (.inr ah.out) _))) aa (of_eq_true aB) (of_eq_true aC)),(abQ (HR2.out _ (by repeat (first|exact HK.out|apply Kept.alloc|apply Kept.drewN|apply Kept.drew|refine Kept.setCell ?_ (.inr ah.out) _|refine Kept.setCell ?_ (.inr ah.out) _))) aa (of_eq_true aB) (of_eq_true aC))⟩ (fun hHeld=>?_)
    clear hK K
    refine aaA (a':=?_) ?_ ?_
    rotate_left
    ·show Act.put _ (some 9) _=_
     simp only [Act.put,List.setIfInBounds_toArray,List.set_cons_zero,List.set_cons_succ,aas,aaw]
     rfl
    exact aaA (by simp only [abg,Act.put,List.setIfInBounds_toArray,List.set_cons_zero,List.set_cons_succ]) (hCont (ae) _ ⟨hHeld,(by (with_reducible repeat (first|apply R_alloc|apply R_drewN|apply R_drew));exact R_mono ag.out (fun _ hk=>⟨hk.1.1,⟨hk.1.2,hk.2⟩⟩)),(qS ai),ak.out,(qK aj),ah.out,aX.out,(by repeat (first|(with_reducible first|exact HK.out|apply Kept.alloc|apply Kept.drewN|apply Kept.drew|refine Kept.setCell ?_ (.inr ah.out) _)|exact HK.out)),qB⟩)
   skip
   refine ahh ?hg (N:=9) ?hd (cs:=#[iV 0,iV 0]) (t:=118) ?hr ?_;(case hd=>rfl);(case hg=>rfl);(case hr=>first|(go_simp;done)|(go_simp;rfl))
   intro ae hg gZ hbox hb
   have aZ:=(hb.cell (World.block_lt_of_cell? _ _ (hHeld.1))).trans (hHeld.1)
   have bg:=(hb.cell (World.block_lt_of_cell? _ _ (hHeld.2.1))).trans (hHeld.2.1)
   have bi:=(hb.cell (World.block_lt_of_cell? _ _ (hHeld.2.2.1))).trans (hHeld.2.2.1)
   have aj:=aM hbox
   have ah:=aM ((by rw [hg];exact (by first|exact HK.out.1|exact (show Kept w _ (fun k_=>aR k_) from qT).1):w.heap.size<=ae))
   have aX:=aM ((by rw [hg];exact (aa4 qB):w0.heap.size<=ae))
   replace ai:=aM (S_below (S_elderB (qS ai) ae (Nat.le_of_eq hg.symm)) hb)
   replace ag:=aM (R_below (R_elderB (qR ag) ae (Nat.le_of_eq hg.symm)) hb)
   replace au:=kQ au hb
   replace ak:=kW hb ak
   replace HK:=kT hb
   replace HB:=kH hb
   clear hb hbox hg
   refine hK.out _ _ ⟨aZ,bg,bi,(abR (HR2.out _ (by repeat (first|exact HK.out|apply Kept.alloc|apply Kept.drewN|apply Kept.drew|refine Kept.setCell ?_ (.inr ah.out) _|refine Kept.setCell ?_ (.inr ah.out) _))) aa (of_eq_true aB) (of_eq_true aC)),(abQ (HR2.out _ (by repeat (first|exact HK.out|apply Kept.alloc|apply Kept.drewN|apply Kept.drew|refine Kept.setCell ?_ (.inr ah.out) _|refine Kept.setCell ?_ (.inr ah.out) _))) aa (of_eq_true aB) (of_eq_true aC))⟩ (fun hHeld=>?_)
   clear hK K
   refine aaA (a':=?_) ?_ ?_
   rotate_left
   ·show Act.put _ (some 9) _=_
    simp only [Act.put,List.setIfInBounds_toArray,List.set_cons_zero,List.set_cons_succ,aas,aaw]
    rfl
   refine acK (i:=11) (N:=some 25) (jb 14 8191) rfl rfl (aaR HT_.out (by kernel_rfl)) (by decide) (fun K hK=>?_)
   refine abn func127 (by kernel_rfl) rfl #[.agg #[iV ((aa8 (aaC af a1) aa).f0),iV ((aa8 (aaC af a1) aa).f1)],.agg #[iV ((aa8 l2 aa).f0),iV ((aa8 l2 aa).f1)]] (by rfl) rfl rfl qM ?_
   with_reducible refine (Sb7.calls ((aa8 (aaC af a1) aa).f0) ((aa8 (aaC af a1) aa).f1) ((aa8 l2 aa).f0) ((aa8 l2 aa).f1) ay az _ fP.out).mono ?_
   rintro e w16 ⟨rfl,hb⟩
   have aZ:=(hb.cell (World.block_lt_of_cell? _ _ (hHeld.1))).trans (hHeld.1)
   have bg:=(hb.cell (World.block_lt_of_cell? _ _ (hHeld.2.1))).trans (hHeld.2.1)
   have bi:=(hb.cell (World.block_lt_of_cell? _ _ (hHeld.2.2.1))).trans (hHeld.2.2.1)
   refine⟨_,rfl,?_⟩
   replace ai:=kS ai hb
   replace ag:=kR ag hb
   replace au:=kQ au hb
   replace ak:=kW hb ak
   replace aj:=kB aj hb
   replace HK:=aM (Kept.below (S:=(fun k_=>aR k_)) (by repeat (first|(with_reducible first|exact HK.out|apply Kept.alloc|apply Kept.drewN|apply Kept.drew|refine Kept.setCell ?_ (.inr ah.out) _)|exact HK.out)) hb)
   replace HB:=kH hb
   (try clear hb)
   (try clear hb2)
   (try clear hk)
   (try clear hi)
   refine hK.out _ _ ⟨aZ,bg,bi,(abR (HR2.out _ (by repeat (first|exact HK.out|apply Kept.alloc|apply Kept.drewN|apply Kept.drew|refine Kept.setCell ?_ (.inr ah.out) _|refine Kept.setCell ?_ (.inr ah.out) _))) aa (of_eq_true aB) (of_eq_true aC)),(abQ (HR2.out _ (by repeat (first|exact HK.out|apply Kept.alloc|apply Kept.drewN|apply Kept.drew|refine Kept.setCell ?_ (.inr ah.out) _|refine Kept.setCell ?_ (.inr ah.out) _))) aa (of_eq_true aB) (of_eq_true aC))⟩ (fun hHeld=>?_)
   clear hK K
   refine aaA (a':=?_) ?_ ?_
   rotate_left
   ·show Act.put _ (some 25) _=_
    simp only [Act.put,List.setIfInBounds_toArray,List.set_cons_zero,List.set_cons_succ,aas,aaw]
    rfl
   exact aaA (by simp only [abg,Act.put,List.setIfInBounds_toArray,List.set_cons_zero,List.set_cons_succ]) (hCont (ae) _ ⟨hHeld,(by (with_reducible repeat (first|apply R_alloc|apply R_drewN|apply R_drew));exact R_mono ag.out (fun _ hk=>⟨hk.1.1,⟨hk.1.2,hk.2⟩⟩)),(qS ai),ak.out,(qK aj),ah.out,aX.out,(by repeat (first|(with_reducible first|exact HK.out|apply Kept.alloc|apply Kept.drewN|apply Kept.drew|refine Kept.setCell ?_ (.inr ah.out) _)|exact HK.out)),qB⟩)
  rintro ae aT ⟨hS_,fV,fZ,gm,gp,gq,gu,gy,gz⟩
  have dM:aa1 (Kd.R abk 118 aT w0.heap.size (fun k_=>(aR k_\/w.heap.size<=k_)/\some k_≠(.slice (some ax) af.length bM:Value).ownBlock/\k_≠ae) (.slice (some av) (aaC af a1).length aA) (aaC af a1)):=⟨fV⟩
  have dN:aa1 (Kd.S (Kd.slice 118 abk) 104 aT w0.heap.size (fun k_=>(aR k_\/w.heap.size<=k_)/\k_≠ae) (.slice (some ax) af.length bM) af):=⟨fZ⟩
  have dO:aa1 (aT.cell? (ax.add (a1).toNat)=some (.slice (some av) (aaC af a1).length aA)):=⟨gm⟩
  have dP:aa1 (aT.heap[ae]?=some (.cells #[iV 0,iV 0] 118 (0,0))):=⟨gp⟩
  have dQ:aa1 (w.heap.size<=ae):=⟨gq⟩
  have gB:aa1 (w0.heap.size<=ae):=⟨gu⟩
  have gD:aa1 (Kept w aT (fun k_=>aR k_)):=⟨gy⟩
  have gF:aa1 (Below w0.heap.size w0 aT):=⟨gz⟩
  clear ai
  clear HK
  clear HB
  clear fV fZ gm gp gq gu gy gz
  have ag:=dM
  have ai:=dN
  have ak:=dO
  have aj:=dP
  have ah:=dQ
  have aX:=gB
  have HK:=gD
  have HB:=gF
  clear dM dN dO dP dQ gB gD gF
  have hHeld:aT.cell? (ax.add (a1).toNat)=some (.slice (some av) (aaC af a1).length aA)/\aT.cell? (av.add ((aa).toNat*2))=some (iV ((aa8 (aaC af a1) aa).f0))/\aT.cell? ⟨(av.add ((aa).toNat*2)).block,(av.add ((aa).toNat*2)).off+1,none⟩=some (iV ((aa8 (aaC af a1) aa).f1))/\aT.cell? (aF.add ((aa).toNat*2))=some (iV ((aa8 l2 aa).f0))/\aT.cell? ⟨(aF.add ((aa).toNat*2)).block,(aF.add ((aa).toNat*2)).off+1,none⟩=some (iV ((aa8 l2 aa).f1)):=hS_
  refine aaA (a':=?_) ?_ ?_
  rotate_left
  ·simp only [abg,Act.put,List.setIfInBounds_toArray,List.set_cons_zero,List.set_cons_succ]
   rfl
  refine acK (i:=13) (N:=none) (jb 14 16383) rfl rfl (aaR HT_.out (by kernel_rfl)) (by decide) (fun K hK=>?_)
  have ib:aT.cell? ⟨ae,0,none⟩=some (iV 0):=(aa3 aj.out 0).trans rfl
  have gG:=aa7 aj.out 0
  have ic:aT.cell? ⟨ae,1,none⟩=some (iV 0):=(aa3 aj.out 1).trans rfl
  have gH:=aa7 aj.out 1
  refine ah3 (w1:=?_) (by rfl) rfl ?_ ?_
  rotate_left
  ·go_simp
   rfl
  refine hK.out _ _ ⟨((cell_far (p:=⟨ae,_,none⟩) (kf (Kd.own_blk (S_away ai.out (fun _ hk=>hk.2)))) _).trans (((cell_far (p:=⟨ae,_,none⟩) (kf (Kd.own_blk (S_away ai.out (fun _ hk=>hk.2)))) _).trans (hHeld.1)))),((cell_far (p:=⟨ae,_,none⟩) (kf (Kd.own_blk (R_away ag.out (fun _ hk=>hk.2.2)))) _).trans (((cell_far (p:=⟨ae,_,none⟩) (kf (Kd.own_blk (R_away ag.out (fun _ hk=>hk.2.2)))) _).trans (hHeld.2.1)))),((cell_far (p:=⟨ae,_,none⟩) (kf (Kd.own_blk (R_away ag.out (fun _ hk=>hk.2.2)))) _).trans (((cell_far (p:=⟨ae,_,none⟩) (kf (Kd.own_blk (R_away ag.out (fun _ hk=>hk.2.2)))) _).trans (hHeld.2.2.1)))),(abR (HR2.out _ (by repeat (first|exact HK.out|apply Kept.alloc|apply Kept.drewN|apply Kept.drew|refine Kept.setCell ?_ (.inr ah.out) _|refine Kept.setCell ?_ (.inr ah.out) _))) aa (of_eq_true aB) (of_eq_true aC)),(abQ (HR2.out _ (by repeat (first|exact HK.out|apply Kept.alloc|apply Kept.drewN|apply Kept.drew|refine Kept.setCell ?_ (.inr ah.out) _|refine Kept.setCell ?_ (.inr ah.out) _))) aa (of_eq_true aB) (of_eq_true aC))⟩ (fun hHeld=>?_)
  clear hK K
  refine abI (ab5 HT_.out (by kernel_rfl)) ?_
  try go_wp2
  have dM:aa1 (Kd.S (Kd.slice 118 abk) 104 ((aT.setCell ⟨ae,0,none⟩ (iV ay)).setCell ⟨ae,1,none⟩ (iV az)) w0.heap.size (fun k_=>(aR k_\/w.heap.size<=k_)/\k_≠ae) (.slice (some ax) af.length bM) af):=⟨by (with_reducible repeat (first|apply S_alloc|apply S_drewN|apply S_drew));exact S_mono (S_far (p:=⟨ae,1,none⟩) (S_far (p:=⟨ae,0,none⟩) (S_mono ai.out (fun k_ hk=>(⟨hk,hk.2⟩:_/\k_≠ae))) (fun _ hk=>hk.2) (iV ay)) (fun _ hk=>hk.2) (iV az)) (fun _ hk=>⟨hk.1.1,hk.1.2⟩)⟩
  have dN:aa1 (Kd.R abk 118 ((aT.setCell ⟨ae,0,none⟩ (iV ay)).setCell ⟨ae,1,none⟩ (iV az)) w0.heap.size (fun k_=>(aR k_\/w.heap.size<=k_)/\some k_≠(.slice (some ax) af.length bM:Value).ownBlock/\k_≠ae) (.slice (some av) (aaC af a1).length aA) (aaC af a1)):=⟨by (with_reducible repeat (first|apply R_alloc|apply R_drewN|apply R_drew));exact R_mono (R_far (p:=⟨ae,1,none⟩) (R_far (p:=⟨ae,0,none⟩) (R_mono ag.out (fun k_ hk=>(⟨hk,hk.2.2⟩:_/\k_≠ae))) (fun _ hk=>hk.2) (iV ay)) (fun _ hk=>hk.2) (iV az)) (fun _ hk=>⟨hk.1.1,⟨hk.1.2.1,hk.1.2.2⟩⟩)⟩
  have dO:aa1 (((aT.setCell ⟨ae,0,none⟩ (iV ay)).setCell ⟨ae,1,none⟩ (iV az)).heap[ae]?=some (.cells #[iV ay,iV az] 118 (0,0))):=⟨qF aj⟩
  have dP:aa1 (Kept w ((aT.setCell ⟨ae,0,none⟩ (iV ay)).setCell ⟨ae,1,none⟩ (iV az)) (fun k_=>aR k_)):=⟨by repeat (first|(with_reducible first|exact HK.out|apply Kept.alloc|apply Kept.drewN|apply Kept.drew|refine Kept.setCell ?_ (.inr ah.out) _)|exact HK.out)⟩
  have dQ:aa1 (Below w0.heap.size w0 ((aT.setCell ⟨ae,0,none⟩ (iV ay)).setCell ⟨ae,1,none⟩ (iV az))):=⟨qB⟩
  (try clear ai)
  (try clear ag)
  (try clear aj)
  (try clear HK)
  (try clear HB)
  generalize ((aT.setCell ⟨ae,0,none⟩ (iV ay)).setCell ⟨ae,1,none⟩ (iV az))=ig at dM dN dO dP dQ ⊢
  have ai:=dM
  have ag:=dN
  have aj:=dO
  have HK:=dP
  have HB:=dQ
  clear dM dN dO dP dQ
  replace ai:=aM (S_drew ai.out)
  replace ag:=aM (R_drew ag.out)
  replace aj:=aM (ab2 aj.out)
  replace HK:=aM (Kept.drew HK.out)
  replace HB:=aM (aaf HB.out)
  have bY:0<=(a1:Int):=qD
  have bZ:a1 < (af.length:Int):=qD
  obtain⟨dS,fw,dz,fA,aK,bD,bE⟩:=ahj (S_reads' ai.out).2.2 a1 bY bZ
  obtain rfl:ax=dS:=(by injection fA)
  obtain⟨gI,dA,dB,bO⟩:=S_get ai.out [] a1 bY (by first|exact bZ|exact qD|(have e_:=(S_reads' ai.out).1;omega))
  obtain⟨eT,rfl,aU⟩:=dB
  have aG:=bO 0 _ rfl
  rw [Nat.add_zero,show ((Kd.slice 118 abk)).sz=1 from rfl,Nat.mul_one] at aG
  replace aG:=Option.some.inj (aG.symm.trans aK)
  rw [aG] at aU
  have aL:=aM (show Kd.R abk 118 _ _ _ _ (aaC af a1) from aU)
  clear aG aU
  have cu:=aM aK
  clear bO dA
  have aH:=aM bE
  have eU:=aM bD
  clear bE bD
  replace bY:=eq_true bY
  replace bZ:=eq_true bZ
  have dC:0<=(aa:Int):=qD
  have dD:aa < ((aaC af a1).length:Int):=qD
  obtain⟨bF,fB,bG,bH⟩:=aaW (kC aH.out) aa dC dD
  cases fB
  replace dC:=eq_true dC
  replace dD:=eq_true dD
  refine abl (n:=9) (S:=fun w'=>w'.cell? ⟨ae,0,none⟩=some (iV ay)/\w'.cell? ⟨ae,1,none⟩=some (iV az)/\w'.cell? (ax.add (a1).toNat)=some (.slice (some bF) (aaC af a1).length dz)/\w'.cell? (bF.add ((aa).toNat*2))=some (iV ((aa8 (aaC af a1) aa).f0))/\w'.cell? ⟨(bF.add ((aa).toNat*2)).block,(bF.add ((aa).toNat*2)).off+1,none⟩=some (iV ((aa8 (aaC af a1) aa).f1))) (ds:=[]) (jb 9 0) (by kernel_rfl) rfl rfl ⟨(aa3 aj.out 0).trans rfl,(aa3 aj.out 1).trans rfl,aK,bG,bH⟩ (fun hHeld=>?_);refine aaL an3 alH (fun HT_ HW_=>?_)
  generalize ig.drew=ik at ai ag aj HK HB aL aH cu aK bG bH hHeld ⊢
  refine jp 1 27 (jb 9 2) ?_
  refine jp 2 28 (jb 9 6) ?_
  refine jp 3 29 (jb 9 14) ?_
  refine jp 5 31 (jb 9 46) ?_
  refine jt 0 26 (jb 9 47) ?_
  refine jt 4 30 (jb 9 63) ?_
  refine jp 6 32 (jb 9 127) ?_
  refine jt 7 33 (jb 9 255) ?_
  have H:=df.out;clear df
  by_cases c11:(!(ay == ((aa8 (aaC af a1) aa).f0)) || (!(az == ((aa8 (aaC af a1) aa).f1))))=true
  ·rw [if_pos c11] at H
   have dU:(!(ay == ((aa8 (aaC af a1) aa).f0)) || (!(az == ((aa8 (aaC af a1) aa).f1))))=true:=c11
   clear c11
   obtain⟨dV,bP⟩:=ky (((aaC af a1).set (aa:Int).toNat (⟨ay,az⟩:ab3)):List ab3)
   replace H:=kv bP H
   obtain⟨fC,bQ⟩:=ky ((af.set (a1:Int).toNat dV):List (List ab3))
   replace H:=kv bQ H
   have H':=aM H
   clear H
   refine jp 8 34 (jb 9 511) ?_
   refine abI (ab5 HT_.out (by kernel_rfl)) ?_
   try go_wp2
   replace ai:=aM (S_drew ai.out)
   replace ag:=aM (R_drew ag.out)
   replace aL:=aM (R_drew aL.out)
   replace aj:=aM (ab2 aj.out)
   replace aH:=aM (C_drew aH.out)
   replace HK:=aM (Kept.drew HK.out)
   replace HB:=aM (aaf HB.out)
   have cz:0<=(a1:Int):=qD
   have cB:a1 < (af.length:Int):=qD
   obtain⟨dW,fD,dE,fE,aN,bI,bJ⟩:=ahj (S_reads' ai.out).2.2 a1 cz cB
   obtain rfl:ax=dW:=(by injection fE)
   obtain⟨gJ,dF,dG,bR⟩:=S_get ai.out [] a1 cz (by first|exact cB|exact qD|(have e_:=(S_reads' ai.out).1;omega))
   obtain⟨eX,rfl,aV⟩:=dG
   have aI:=bR 0 _ rfl
   rw [Nat.add_zero,show ((Kd.slice 118 abk)).sz=1 from rfl,Nat.mul_one] at aI
   replace aI:=Option.some.inj (aI.symm.trans aN)
   rw [aI] at aV
   have aO:=aM (show Kd.R abk 118 _ _ _ _ (aaC af a1) from aV)
   clear aI aV
   have bK:=aM aN
   clear bR dF
   have aW:=aM bJ
   have eY:=aM bI
   clear bJ bI
   replace cz:=eq_true cz
   replace cB:=eq_true cB
   have fF:0<=(aa:Int):=qD
   have fG:(aa:Int) < (((aaC af a1).length:Int):Int):=qD
   obtain⟨bn,il,dX,dY,fH,iq,dZ⟩:=R_form aO.out (by omega)
   (first|cases dX|(injection dX with ea_ en_ ec_;(first|subst ea_|(injection ea_ with ea_;subst ea_));subst ec_;clear en_))
   have d9:=aM dY
   have fI:=aM dZ
   clear dY fH dZ
   have bS:=aM (show (aR bn\/w.heap.size<=bn) from (aO.out.1 _ rfl).1.1)
   obtain⟨iw,ed,ek,bT,bU⟩:=R_elem aO.out agX (aa:Int) fF fG
   obtain rfl:=abe ek
   have dH:World.cell? _ ⟨bn,(aa:Int).toNat*2,none⟩=some (iV ((aa8 (aaC af a1) aa).f0)):=bT 0 _ rfl
   have dI:World.cell? _ ⟨bn,(aa:Int).toNat*2+1,none⟩=some (iV ((aa8 (aaC af a1) aa).f1)):=bT 1 _ rfl
   have dJ:World.frozen? _ ⟨bn,(aa:Int).toNat*2,none⟩=false:=bU 0
   have dK:World.frozen? _ ⟨bn,(aa:Int).toNat*2+1,none⟩=false:=bU 1
   clear ed bT bU;(try clear ek)
   replace fF:=eq_true fF
   replace fG:=eq_true fG
   have fJ:(a1:Int) < (af.length:Int):=(by have h_:(a1:Int) < ((af.length:Int):Int):=qD;first|exact h_|(have e_:=(S_reads' ai.out).1;omega)|simpa only [List.length_set,List.length_set] using h_)
   obtain⟨gK,iy,bL,fK,aY,eu,dh⟩:=S_borrow ai.out [] (a1:Int) (qD) fJ
   obtain⟨fM,rfl,aQ⟩:=fK
   have cK:=aY 0 _ rfl
   rw [Nat.add_zero,show ((Kd.slice 118 abk)).sz=1 from rfl,Nat.mul_one] at cK
   replace cK:=Option.some.inj (cK.symm.trans bK.out)
   subst cK
   clear aY bL
   replace aQ:=(show Kd.R abk 118 _ _ _ _ (aaC af a1) from aQ)
   obtain⟨iA,bL,eB,aY,eD⟩:=R_elem aQ agX (aa:Int) (qD) (by have h_:(aa:Int) < (((aaC af a1).length:Int):Int):=qD;first|exact h_|(have e_:=(R_reads' aW.out).1;omega)|simpa using h_)
   obtain rfl:=abe eB
   have cO:=R_seg aQ (aa:Int) (qD) (by have h_:(aa:Int) < (((aaC af a1).length:Int):Int):=qD;first|exact h_|(have e_:=(R_reads' aW.out).1;omega)|simpa using h_) (seg:=[iV ay,iV az]) (j:=0) bL aY (show 2<=2 from by decide) (x':=(⟨ay,az⟩:ab3)) (acL _ _ _ (⟨ay,az⟩:ab3)) (fun _ hk=>hk)
   clear bL aY eD eB
   rw [<- bP.out] at cO
   have dL:=dh cO.2 (fun k_ e_=>by injection e_ with e_;subst e_;exact aQ.1 _ rfl) (x':=dV) (M_row cO.1)
   rw [<- bQ.out] at dL
   have eF:=aM dL
   clear cO dL dh eu
   refine abl (n:=8) (S:=fun w'=>w'.cell? ⟨ae,0,none⟩=some (iV ay)/\w'.cell? ⟨ae,1,none⟩=some (iV az)/\w'.cell? (ax.add (a1).toNat)=some (.slice (some ⟨bn,0,none⟩) (aaC af a1).length dE)) (ds:=[7]) (jb 8 0) (by kernel_rfl) rfl rfl ⟨(aa3 aj.out 0).trans rfl,(aa3 aj.out 1).trans rfl,aN⟩ (fun hHeld=>?_);refine aaL an2 alG (fun HT_ HW_=>?_)
   generalize ik.drew=iD at ai ag aL aj aH HK HB fI aO eF aW bK dJ dK dH dI aN hHeld ⊢
   refine jp 0 35 (jb 8 1) ?_
   refine jp 1 36 (jb 8 3) ?_
   refine jp 2 37 (jb 8 7) ?_
   refine jp 4 39 (jb 8 23) ?_
   refine jt 3 38 (jb 8 31) ?_
   refine jt 5 40 (jb 8 63) ?_
   refine jp 6 41 (jb 8 127) ?_
   refine aij (i:=7) (N:=none) (jb 8 255) rfl rfl (aaR HT_.out (by kernel_rfl)) (by decide) (fun K hK=>?_)
   refine ah3 (w1:=?_) (by rfl) rfl ?_ ?_
   rotate_left
   ·go_simp
    rfl
   refine hK.out _ _ ?_
   clear hK K
   refine abI (ab5 HT_.out (by kernel_rfl)) ?_
   try go_wp2
   go_roundg k1
   case measure=>have:=eG.out;omega
   exact⟨(fC),(true),(wrap64 (aa+1)),qZ,qZ,H',⟨by have:=eG.out;omega⟩,⟨by (with_reducible repeat (first|apply S_alloc|apply S_drewN|apply S_drew));exact S_mono eF.out (fun _ hk=>hk.1)⟩,⟨by repeat (first|(with_reducible first|exact HK.out|apply Kept.alloc|apply Kept.drewN|apply Kept.drew|refine Kept.setCell ?_ bS.out _|refine Kept.setCell ?_ bS.out _|refine Kept.setCell ?_ (.inr ah.out) _)|exact HK.out)⟩,⟨by repeat (first|(with_reducible first|exact HB.out|apply aaE|apply aat|apply aaf|refine aac ?_ d9.out|refine aac ?_ d9.out|refine aac ?_ aX.out)|exact HB.out)⟩⟩
  rw [if_neg c11] at H
  have dU:(!(ay == ((aa8 (aaC af a1) aa).f0)) || (!(az == ((aa8 (aaC af a1) aa).f1))))=false:=by simpa using c11
  clear c11
  have H':=aM H
  clear H
  refine jp 8 34 (jb 9 511) ?_
  refine abI (ab5 HT_.out (by kernel_rfl)) ?_
  try go_wp2
  go_roundg k1
  case measure=>have:=eG.out;omega
  exact⟨(af),(bV),(wrap64 (aa+1)),qZ,qZ,H',⟨by have:=eG.out;omega⟩,⟨by (with_reducible repeat (first|apply S_alloc|apply S_drewN|apply S_drew));exact S_mono ai.out (fun _ hk=>hk.1)⟩,⟨by repeat (first|(with_reducible first|exact HK.out|apply Kept.alloc|apply Kept.drewN|apply Kept.drew|refine Kept.setCell ?_ (.inr ah.out) _)|exact HK.out)⟩,⟨qB⟩⟩
 obtain⟨rfl,rfl⟩:=oJ2 H
 go_wp2
 go_ret
 exact⟨qW,qS ai,qB,qT⟩
mutual
def adm:Nat->List S27->List (List ab3)->Bool->Int->Option (Bool × (List (List ab3)))
 | 0,_,_,_,_=>none
 | k+1,x0,x1,x5,x6=>if x6 < (x0.length:Int) then (if 0<=x6 then (if x6 < (x1.length:Int) then (if 0 < ((aaC x1 x6).length:Int) then (if ((aa8 (aaC x1 x6) 0).f0)=0 then (adm k x0 x1 x5 (wrap64 (x6+1))) else ((alE k x0 (aaC x1 x6) x6).bind fun aS=>((alP k ((aa0 x0 x6).f0) ((aa0 x0 x6).f1) ((aa0 x0 x6).f2) ((aa0 x0 x6).f3) ((aa0 x0 x6).f4) (aaC x1 x6)).bind fun aj=>(aem k x0 x1 x5 x6 aS aj 0)))) else (none)) else (none)) else (none)) else (some (x5,x1))
def aem:Nat->List S27->List (List ab3)->Bool->Int->List Int->List ab3->Int->Option (Bool × (List (List ab3)))
 | 0,_,_,_,_,_,_,_=>none
 | k+1,x0,x1,x5,x6,x7,x8,x9=>if x9 < (x7.length:Int) then (if 0<=x9 then ((Sb3.f k x1 (rd x7 x9) x8).bind fun bT=>(if bT.1=true then (aem k x0 bT.2 true x6 x7 x8 (wrap64 (x9+1))) else (aem k x0 bT.2 x5 x6 x7 x8 (wrap64 (x9+1))))) else (none)) else (adm k x0 x1 x5 (wrap64 (x6+1)))
end
def Sb9.f (k:Nat) (l0:List S27) (l1:List (List ab3)):Option (Bool × (List (List ab3))):=adm k l0 l1 false 0
def anJ:Bool × List (List Nat × List Nat):=(true,[([],[]),([],[]),([0,1],[0,1]),([2],[2]),([],[]),([],[]),([4,5],[4,5]),([6],[6]),([3,7],[3,7]),([8,8,0,1,2,3,4,5,6,7,8],[8])])
def apz:List Nat:=[0,0,3,7,0,0,48,112,255,511]
theorem amZ:acz .any (opsOf f112 7)=anJ:=by kernel_rfl
theorem aly:ab9 anJ.2 apz=true:=by kernel_rfl
theorem Sb9.calls (k:Nat) (A0:Option Addr) (c0:Nat) (l0:List S27) (aC:Nat->Prop) (aT:Value) (l1:List (List ab3)) (r1:Bool) (r2:List (List ab3)) (w0 w:World) (hB:Below w0.heap.size w0 w) (hr0:∀ W_,Kept w W_ (fun k_=>aC k_)->Kd.C k27 W_ A0 l0.length l0) (hc0:l0.length<=c0) (ho1:Kd.S (Kd.slice 118 abk) 104 w w0.heap.size aC aT l1) (h:Sb9.f k l0 l1=some (r1,r2)) :
  Calls prog 112 #[.slice A0 l0.length c0,aT] w fun e w'=>e = .returned (.bool r1)/\Kd.S (Kd.slice 118 abk) 104 w' w0.heap.size (fun k_=>(aC k_\/w.heap.size<=k_)) aT r2/\Below w0.heap.size w0 w'/\Kept w w' (fun k_=>aC k_):=by
 have fH:=underlying27
 have bS:=aM hr0
 have fI:=aM hc0
 clear hr0 hc0
 have fJ:=aM (show Kd.S (Kd.slice 118 abk) 104 w w0.heap.size (fun k_=>(aC k_\/w.heap.size<=k_)) aT l1 from S_mono ho1 (fun k_ hk=>(.inl hk)))
 have HK:=aM (acF w (fun k_=>aC k_))
 have HW0:=aM hB.size
 have HB:=aM hB
 clear hB
 have H:(adm k l0 l1 false 0)=some (r1,r2):=h
 clear h
 have H':=aM H
 clear H
 go_enter func112,ntmps112
 go_wp2
 go_loopg [5,6] k (fun kq v5 v6 w'=>∃ (ak:List (List ab3)) (bU:Bool) (aa:Int),v5 = .bool bU/\v6 = iV aa/\aa1 (adm kq l0 ak bU aa=some (r1,r2))/\aa1 (kq<=k)/\aa1 (Kd.S (Kd.slice 118 abk) 104 w' w0.heap.size (fun k_=>(aC k_\/w.heap.size<=k_)) aT ak)/\aa1 (Kept w w' (fun k_=>aC k_))/\aa1 (Below w0.heap.size w0 w'))
 case atStart=>exact⟨(l1),(false),(0),qZ,qZ,H',⟨Nat.le_refl _⟩,⟨qS fJ⟩,⟨qT⟩,⟨qB⟩⟩
 clear H'
 obtain⟨ak,bU,aa,rfl,rfl,HA,dz,ae,HK,HB⟩:=hrel
 rcases gk with _|k1
 ·exact absurd HA.out (by simp [adm])
 have H:=HA.out
 clear HA
 simp only [adm] at H
 replace H:=jD H;rcases H with ⟨dK,H⟩ | ⟨dK,H⟩
 ·replace H:=jI H;obtain⟨eB,H⟩:=H
  replace H:=jI H;obtain⟨eD,H⟩:=H
  replace H:=jU H;obtain⟨c6,H⟩:=H
  have eF:=decide_eq_true c6
  have eG:decide (0 < (aaC ak aa).length)=true:=decide_eq_true (by omega)
  clear c6
  replace H:=jE H;rcases H with ⟨dL,dM,H⟩ | ⟨c7,dL,dM,H⟩
  ·have H':=aM H
   clear H
   obtain⟨gq,gu,fK⟩:=S_slice ae.out
   subst fK
   have aX:0<=(aa:Int):=qD
   have aY:aa < (ak.length:Int):=qD
   obtain⟨aD,dB,bV,dC,aF,aG,aH⟩:=ahj (S_reads' ae.out).2.2 aa aX aY
   cases dC
   obtain⟨dN,bK,bL,aU⟩:=S_get ae.out [] aa aX (by first|exact aY|exact qD|(have e_:=(S_reads' ae.out).1;omega))
   obtain⟨df,rfl,aB⟩:=bL
   have af:=aU 0 _ rfl
   rw [Nat.add_zero,show ((Kd.slice 118 abk)).sz=1 from rfl,Nat.mul_one] at af
   replace af:=Option.some.inj (af.symm.trans aF)
   rw [af] at aB
   have au:=aM (show Kd.R abk 118 _ _ _ _ (aaC ak aa) from aB)
   clear af aB
   clear aU bK
   have ah:=aM aH
   have dh:=aM aG
   clear aH aG
   replace aX:=eq_true aX
   replace aY:=eq_true aY
   have bG:0<=(0:Int):=(by omega)
   have bH:0 < ((aaC ak aa).length:Int):=qD
   obtain⟨dA,dD,av,ax⟩:=aaW (kC ah.out) 0 bG bH
   cases dD
   have dO:(0 < (aaC ak aa).length)=True:=eq_true (by omega)
   (try rw [show ((0:Int)).toNat=0 from rfl] at av)
   (try rw [show 0*2=0 from rfl] at av)
   (try rw [Addr.add_zero'] at av)
   (try rw [show ((0:Int)).toNat=0 from rfl] at ax)
   (try rw [show 0*2=0 from rfl] at ax)
   (try rw [Addr.add_zero'] at ax)
   replace bG:=eq_true bG
   replace bH:=eq_true bH
   go_wp2
   go_roundg k1
   case measure=>have:=dz.out;omega
   exact⟨(ak),(bU),(wrap64 (aa+1)),qZ,qZ,H',⟨by have:=dz.out;omega⟩,⟨qS ae⟩,⟨qT⟩,⟨qB⟩⟩
  obtain⟨aS,A9,H⟩:=qE H
  try dsimp only at H
  obtain⟨aj,fM,H⟩:=qE H
  try dsimp only at H
  have H':=aM H
  clear H
  obtain⟨fO,bW,eH⟩:=S_slice ae.out
  subst eH
  have aX:0<=(aa:Int):=qD
  have aY:aa < (ak.length:Int):=qD
  obtain⟨aD,dB,bV,dC,aF,aG,aH⟩:=ahj (S_reads' ae.out).2.2 aa aX aY
  cases dC
  obtain⟨dN,bK,bL,aU⟩:=S_get ae.out [] aa aX (by first|exact aY|exact qD|(have e_:=(S_reads' ae.out).1;omega))
  obtain⟨df,rfl,aB⟩:=bL
  have af:=aU 0 _ rfl
  rw [Nat.add_zero,show ((Kd.slice 118 abk)).sz=1 from rfl,Nat.mul_one] at af
  replace af:=Option.some.inj (af.symm.trans aF)
  rw [af] at aB
  have au:=aM (show Kd.R abk 118 _ _ _ _ (aaC ak aa) from aB)
  clear af aB
  clear aU bK
  have ah:=aM aH
  have dh:=aM aG
  clear aH aG
  replace aX:=eq_true aX
  replace aY:=eq_true aY
  have bG:0<=(0:Int):=(by omega)
  have bH:0 < ((aaC ak aa).length:Int):=qD
  obtain⟨dA,dD,av,ax⟩:=aaW (kC ah.out) 0 bG bH
  cases dD
  have dO:(0 < (aaC ak aa).length)=True:=eq_true (by omega)
  (try rw [show ((0:Int)).toNat=0 from rfl] at av)
  (try rw [show 0*2=0 from rfl] at av)
  (try rw [Addr.add_zero'] at av)
  (try rw [show ((0:Int)).toNat=0 from rfl] at ax)
  (try rw [show 0*2=0 from rfl] at ax)
  (try rw [Addr.add_zero'] at ax)
  replace bG:=eq_true bG
  replace bH:=eq_true bH
  have bX:0<=(aa:Int):=qD
  have bY:aa < (ak.length:Int):=qD
  obtain⟨dP,eO,eP,eQ,bi,bO,bP⟩:=ahj (S_reads' ae.out).2.2 aa bX bY
  obtain rfl:aD=dP:=(by injection eQ)
  obtain⟨fA,dE,dF,bZ⟩:=S_get ae.out [] aa bX (by first|exact bY|exact qD|(have e_:=(S_reads' ae.out).1;omega))
  obtain⟨dX,rfl,bn⟩:=dF
  have aI:=bZ 0 _ rfl
  rw [Nat.add_zero,show ((Kd.slice 118 abk)).sz=1 from rfl,Nat.mul_one] at aI
  replace aI:=Option.some.inj (aI.symm.trans bi)
  rw [aI] at bn
  have ay:=aM (show Kd.R abk 118 _ _ _ _ (aaC ak aa) from bn)
  clear aI bn
  clear bZ dE
  have az:=aM bP
  have di:=aM bO
  clear bP bO
  replace bX:=eq_true bX
  replace bY:=eq_true bY
  have ea_:=Option.some.inj (aF.symm.trans bi)
  injection ea_ with ea_ en_ ec_
  subst ea_
  subst ec_
  clear en_
  try go_wp2_with (first|((with_reducible refine jc 120 30 ?_);refine jM func120 (alF k1 _ _ l0 _ _ (aaC ak aa) aa aS _ (by exact C_kept_now bS.out qT) fI.out (by repeat (first|exact (kC az.out)|(with_reducible refine C_alloc ?_ _)|(with_reducible refine C_drewN ?_ _)|(with_reducible refine C_drew ?_))) di.out A9.out) ?_;rintro eT fP ⟨ho0,hb⟩;have bg:=aM (R_lower (R_newM (M:=fun k_=>(aC k_\/w.heap.size<=k_)) ho0 (by first|exact HK.out.1|exact (show Kept w _ (fun k_=>aC k_) from qT).1) (fun k_ h_=>.inr h_)) (aa4 qB));replace ae:=kS ae hb;replace au:=kR au hb;replace ay:=kR ay hb;replace ah:=kQ ah hb;replace az:=kQ az hb;replace HK:=kT hb;replace HB:=kH hb;clear hb;(try clear ho0)))
  replace ae:=aM (S_drew ae.out)
  replace au:=aM (R_drew au.out)
  replace ay:=aM (R_drew ay.out)
  replace bg:=aM (R_drew bg.out)
  replace ah:=aM (C_drew ah.out)
  replace az:=aM (C_drew az.out)
  replace HK:=aM (Kept.drew HK.out)
  replace HB:=aM (aaf HB.out)
  have aJ:0<=(aa:Int):=qD
  have aK:aa < (l0.length:Int):=qD
  obtain⟨aL,eU,bq,bu,bv,bz,bA⟩:=aaG (C_kept_now bS.out HK.out) aa aJ aK
  have dY:=bA
  have dZ:=bz
  have d9:=bv
  have ed:=bu
  have ek:=bq
  cases eU
  replace aJ:=eq_true aJ
  replace aK:=eq_true aK
  have cu:0<=(aa:Int):=qD
  have cz:aa < (ak.length:Int):=qD
  obtain⟨dQ,cB,cK,eX,aP,bQ,bR⟩:=ahj (S_reads' ae.out).2.2 aa cu cz
  obtain rfl:aD=dQ:=(by injection eX)
  obtain⟨fB,dG,dH,cO⟩:=S_get ae.out [] aa cu (by first|exact cz|exact qD|(have e_:=(S_reads' ae.out).1;omega))
  obtain⟨eu,rfl,bB⟩:=dH
  have aN:=cO 0 _ rfl
  rw [Nat.add_zero,show ((Kd.slice 118 abk)).sz=1 from rfl,Nat.mul_one] at aN
  replace aN:=Option.some.inj (aN.symm.trans aP)
  rw [aN] at bB
  have aQ:=aM (show Kd.R abk 118 _ _ _ _ (aaC ak aa) from bB)
  clear aN bB
  clear cO dG
  have aR:=aM bR
  have dn:=aM bQ
  clear bR bQ
  replace cu:=eq_true cu
  replace cz:=eq_true cz
  refine abl (n:=10) (S:=fun w'=>w'.cell? (aL.add ((aa).toNat*5))=some (iV ((aa0 l0 aa).f0))/\w'.cell? ⟨(aL.add ((aa).toNat*5)).block,(aL.add ((aa).toNat*5)).off+1,none⟩=some (iV ((aa0 l0 aa).f1))/\w'.cell? ⟨(aL.add ((aa).toNat*5)).block,(aL.add ((aa).toNat*5)).off+2,none⟩=some (iV ((aa0 l0 aa).f2))/\w'.cell? ⟨(aL.add ((aa).toNat*5)).block,(aL.add ((aa).toNat*5)).off+3,none⟩=some (iV ((aa0 l0 aa).f3))/\w'.cell? ⟨(aL.add ((aa).toNat*5)).block,(aL.add ((aa).toNat*5)).off+4,none⟩=some (iV ((aa0 l0 aa).f4))/\w'.cell? (aD.add (aa).toNat)=some (.slice cB (aaC ak aa).length cK)) (ds:=[]) (jb 10 0) (by kernel_rfl) rfl rfl ⟨(abP (bS.out _ (by repeat (first|exact HK.out|apply Kept.alloc|apply Kept.drewN|apply Kept.drew))) aa (of_eq_true aJ) (of_eq_true aK)),(abO (bS.out _ (by repeat (first|exact HK.out|apply Kept.alloc|apply Kept.drewN|apply Kept.drew))) aa (of_eq_true aJ) (of_eq_true aK)),(abN (bS.out _ (by repeat (first|exact HK.out|apply Kept.alloc|apply Kept.drewN|apply Kept.drew))) aa (of_eq_true aJ) (of_eq_true aK)),(abM (bS.out _ (by repeat (first|exact HK.out|apply Kept.alloc|apply Kept.drewN|apply Kept.drew))) aa (of_eq_true aJ) (of_eq_true aK)),(abL (bS.out _ (by repeat (first|exact HK.out|apply Kept.alloc|apply Kept.drewN|apply Kept.drew))) aa (of_eq_true aJ) (of_eq_true aK)),aP⟩ (fun hHeld=>?_);refine aaL amZ aly (fun HT_ HW_=>?_)
  generalize fP.drew=gy at ae au ay bg ah az HK HB aQ aR bq bu bv bz bA aP hHeld ⊢
  refine jp 0 31 (jb 10 1) ?_
  refine jp 1 32 (jb 10 3) ?_
  refine jp 2 33 (jb 10 7) ?_
  refine jp 4 35 (jb 10 23) ?_
  refine jp 5 36 (jb 10 55) ?_
  refine jp 6 37 (jb 10 119) ?_
  refine jt 3 34 (jb 10 127) ?_
  refine jt 7 38 (jb 10 255) ?_
  refine acK (i:=8) (N:=some 39) (jb 10 511) rfl rfl (aaR HT_.out (by kernel_rfl)) (by decide) (fun K hK=>?_)
  refine abn func121 (by kernel_rfl) rfl #[.agg #[iV ((aa0 l0 aa).f0),iV ((aa0 l0 aa).f1),iV ((aa0 l0 aa).f2),iV ((aa0 l0 aa).f3),iV ((aa0 l0 aa).f4)],.slice cB (aaC ak aa).length cK] (by rfl) rfl rfl qM ?_
  with_reducible refine (alQ k1 ((aa0 l0 aa).f0) ((aa0 l0 aa).f1) ((aa0 l0 aa).f2) ((aa0 l0 aa).f3) ((aa0 l0 aa).f4) _ _ (aaC ak aa) aj _ ?aV ?aW fM.out).mono ?_
  (case aV=>repeat (first|exact (kC aR.out)|(with_reducible refine C_alloc ?_ _)|(with_reducible refine C_drewN ?_ _)|(with_reducible refine C_drew ?_)))
  (case aW=>exact dn.out)
  rintro e gz ⟨dR,rfl,ho0,hb⟩
  have eY:=(hb.cell (World.block_lt_of_cell? _ _ (hHeld.2.2.2.2.2))).trans (hHeld.2.2.2.2.2)
  refine⟨_,rfl,?_⟩
  have dS:=aM (R_lower (R_new' (R_new' (R_new' (R_newM (M:=fun k_=>(aC k_\/w.heap.size<=k_)) ho0 (by first|exact HK.out.1|exact (show Kept w _ (fun k_=>aC k_) from qT).1) (fun k_ h_=>.inr h_)) (R_lt (qR au))) (R_lt (qR ay))) (R_lt (qR aQ))) (aa4 qB))
  replace ae:=aM (S_elder' (qS ae) (R_base ho0) hb)
  replace au:=kO au ho0 hb
  replace ay:=kO ay ho0 hb
  replace bg:=kR bg hb
  replace aQ:=kO aQ ho0 hb
  replace ah:=kQ ah hb
  replace az:=kQ az hb
  replace aR:=kQ aR hb
  replace HK:=kT hb
  replace HB:=kH hb
  (try clear hb)
  (try clear hb2)
  (try clear hk)
  (try clear hi)
  (try clear ho0)
  refine hK.out _ _ ⟨(abP (bS.out _ (by repeat (first|exact HK.out|apply Kept.alloc|apply Kept.drewN|apply Kept.drew))) aa (of_eq_true aJ) (of_eq_true aK)),(abO (bS.out _ (by repeat (first|exact HK.out|apply Kept.alloc|apply Kept.drewN|apply Kept.drew))) aa (of_eq_true aJ) (of_eq_true aK)),(abN (bS.out _ (by repeat (first|exact HK.out|apply Kept.alloc|apply Kept.drewN|apply Kept.drew))) aa (of_eq_true aJ) (of_eq_true aK)),(abM (bS.out _ (by repeat (first|exact HK.out|apply Kept.alloc|apply Kept.drewN|apply Kept.drew))) aa (of_eq_true aJ) (of_eq_true aK)),(abL (bS.out _ (by repeat (first|exact HK.out|apply Kept.alloc|apply Kept.drewN|apply Kept.drew))) aa (of_eq_true aJ) (of_eq_true aK)),eY⟩ (fun hHeld=>?_)
  clear hK K
  refine aaA (a':=?_) ?_ ?_
  rotate_left
  ·show Act.put _ (some 39) _=_
   simp only [Act.put,List.setIfInBounds_toArray,List.set_cons_zero,List.set_cons_succ,aas,aaw]
   rfl
  refine jp 9 8 (jb 10 1023) ?_
  refine abI (ab5 HT_.out (by kernel_rfl)) ?_
  try go_wp2
  go_loopg [5,9] k1 (fun kq v5 v9 w'=>∃ (aZ:List (List ab3)) (dw:Bool) (aO:Int),v5 = .bool dw/\v9 = iV aO/\aa1 (aem kq l0 aZ dw aa aS aj aO=some (r1,r2))/\aa1 (kq<=k1)/\aa1 (Kd.S (Kd.slice 118 abk) 104 w' w0.heap.size (fun k_=>(aC k_\/w.heap.size<=k_)/\some k_≠(dR:Value).ownBlock) (.slice (some aD) ak.length bW) aZ)/\aa1 (Kd.R (Kd.int .i64) 3 w' w0.heap.size (fun k_=>(aC k_\/w.heap.size<=k_)) eT aS)/\aa1 (Kd.R abk 118 w' w0.heap.size (fun k_=>(aC k_\/w.heap.size<=k_)) dR aj)/\aa1 (Kept w w' (fun k_=>aC k_))/\aa1 (Below w0.heap.size w0 w'))
  case atStart=>exact⟨(ak),(bU),(0),qZ,qZ,H',⟨Nat.le_refl _⟩,⟨qS ae⟩,⟨by (with_reducible repeat (first|apply R_alloc|apply R_drewN|apply R_drew));exact R_mono bg.out (fun _ hk=>hk.1)⟩,⟨by (with_reducible repeat (first|apply R_alloc|apply R_drewN|apply R_drew));exact R_mono dS.out (fun _ hk=>hk.1.1.1.1)⟩,⟨qT⟩,⟨qB⟩⟩
  clear H'
  try clear dK;try clear eB;try clear eD;try clear c6;try clear eF;try clear eG;try clear c7;try clear dL;try clear dM;try clear aF;try clear av;try clear ax;try clear bi;try clear bq;try clear bu;try clear bv;try clear bz;try clear bA;try clear aP;try clear aX;try clear bG;try clear bX;try clear aJ;try clear cu;try clear aY;try clear bH;try clear bY;try clear aK;try clear cz
  obtain⟨aZ,dw,aO,rfl,rfl,HA,dJ,ae,ai,ag,HK,HB⟩:=hrel
  have aA:=(S_reads' ae.out).1
  rw [aA] at ae
  (try simp only [aA])
  (try simp only [aA] at ai)
  (try simp only [aA] at ag)
  rcases gk with _|k2
  ·exact absurd HA.out (by simp [aem])
  have H:=HA.out
  clear HA
  simp only [aem] at H
  replace H:=jD H;rcases H with ⟨dU,H⟩ | ⟨dU,H⟩
  ·replace H:=jI H;obtain⟨fC,H⟩:=H
   obtain⟨⟨fQ,dV⟩,fD,H⟩:=qE H
   try dsimp only at H
   replace H:=jB H;rcases H with ⟨rfl,H⟩ | ⟨rfl,H⟩
   ·have H':=aM H
    clear H
    obtain⟨fT,fU,eZ⟩:=R_slice ai.out
    subst eZ
    have bM:0<=(aO:Int):=qD
    have bN:aO < (aS.length:Int):=qD
    obtain⟨dW,dI,dx⟩:=Kd.at_int (R_reads' ai.out).2.2 aO bM bN
    cases dI
    replace bM:=eq_true bM
    replace bN:=eq_true bN
    obtain⟨bC,bD,fe⟩:=R_slice ag.out
    subst fe
    go_wp2_with (first|((with_reducible refine jc 122 52 ?_);refine jG func122 #[.slice (some aD) aZ.length bW,iV (rd aS aO),.slice bC aj.length bD] ?_;refine (Sb3.calls k2 ?fE (.slice (some aD) aZ.length bW) aZ (rd aS aO) _ _ aj true dV w0 _ ?aV ?aW ?bI ?bJ fD.out).mono ?_;(case aW=>exact S_bound ae.out);(case aV=>exact qB);(case bI=>exact C_kept_own (R_tight rfl ag.out) (fun k_ hk_ hs_=>by first|exact hs_.1.2 hk_|exact hs_.1.2.1 hk_|exact hs_.1.2.2 hk_|exact hs_.1.1.2 hk_|exact hs_.1.1.1.2 hk_|exact ajS ag.out (by decide) hk_ hs_.2.2.2));(case bJ=>exact (kp ag));rintro e fo ⟨rfl,hy0,hb,hkp⟩;refine⟨_,rfl,?_⟩;replace ae:=aM ((by first|exact S_mono (ok':=fun k_=>(((aC k_\/w.heap.size<=k_))/\some k_≠(.slice bC aj.length bD:Value).ownBlock)) hy0 (fun k_ h_=>Or.elim h_ (fun h_=>h_.1) (fun h_=>.inr (by first|exact Nat.le_trans HK.out.1 h_|exact Nat.le_trans (aa4 HB.out) h_)))|exact S_mono (ok':=fun k_=>(((aC k_\/w.heap.size<=k_))/\some k_≠(.slice bC aj.length bD:Value).ownBlock)) hy0 (fun _ _=>trivial)|exact S_mono (ok':=fun k_=>(((aC k_\/w.heap.size<=k_))/\some k_≠(.slice bC aj.length bD:Value).ownBlock)) hy0 (fun k_ h_=>Or.elim h_ (fun h_=>h_.1) (fun h_=>⟨.inr (Nat.le_trans HK.out.1 h_),fun e_=>by have:=R_lt ai.out k_ e_.symm;omega⟩))|exact S_mono (ok':=fun k_=>(((aC k_\/w.heap.size<=k_))/\some k_≠(.slice bC aj.length bD:Value).ownBlock)) hy0 (fun k_ h_=>Or.elim h_ (fun h_=>h_.1) (fun h_=>⟨.inr (Nat.le_trans HK.out.1 h_),fun e_=>by have:=R_lt ag.out k_ e_.symm;omega⟩))|exact S_mono (ok':=fun k_=>(((aC k_\/w.heap.size<=k_))/\some k_≠(.slice bC aj.length bD:Value).ownBlock)) hy0 (fun k_ h_=>Or.elim h_ (fun h_=>h_.1) (fun h_=>⟨⟨.inr (Nat.le_trans HK.out.1 h_),fun e_=>by have:=R_lt ai.out k_ e_.symm;omega⟩,fun e_=>by have:=R_lt ag.out k_ e_.symm;omega⟩))|exact S_mono (ok':=fun k_=>(((aC k_\/w.heap.size<=k_))/\some k_≠(.slice bC aj.length bD:Value).ownBlock)) hy0 (fun k_ h_=>Or.elim h_ (fun h_=>h_.1) (fun h_=>⟨⟨.inr (Nat.le_trans HK.out.1 h_),fun e_=>by have:=R_lt ag.out k_ e_.symm;omega⟩,fun e_=>by have:=R_lt ai.out k_ e_.symm;omega⟩))|exact S_mono (ok':=fun k_=>(((aC k_\/w.heap.size<=k_))/\some k_≠(.slice bC aj.length bD:Value).ownBlock)) hy0 (fun k_ h_=>Or.elim h_ (fun h_=>h_.1) (fun h_=>⟨.inr (Nat.le_trans HK.out.1 h_),⟨fun e_=>by have:=R_lt ai.out k_ e_.symm;omega,fun e_=>by have:=R_lt ag.out k_ e_.symm;omega⟩⟩))|exact S_mono (ok':=fun k_=>(((aC k_\/w.heap.size<=k_))/\some k_≠(.slice bC aj.length bD:Value).ownBlock)) hy0 (fun k_ h_=>Or.elim h_ (fun h_=>h_.1) (fun h_=>⟨.inr (Nat.le_trans HK.out.1 h_),⟨fun e_=>by have:=R_lt ag.out k_ e_.symm;omega,fun e_=>by have:=R_lt ai.out k_ e_.symm;omega⟩⟩))));replace ai:=aM (R_mono (ok':=fun k_=>(aC k_\/w.heap.size<=k_)) (R_keptB (R_tight rfl ai.out) hkp (fun k_ hk_ hs_=>by first|exact hs_.1.2 hk_|exact hs_.1.2.1 hk_|exact hs_.1.2.2 hk_|exact hs_.1.1.2 hk_|exact hs_.1.1.1.2 hk_|exact ajS ai.out (by decide) hk_ hs_.2.2.2)) (fun k_ hk_=>ai.out.1 k_ hk_.1.symm));replace ag:=aM (R_mono (ok':=fun k_=>(aC k_\/w.heap.size<=k_)) (R_keptB (R_tight rfl ag.out) hkp (fun k_ hk_ hs_=>by first|exact hs_.1.2 hk_|exact hs_.1.2.1 hk_|exact hs_.1.2.2 hk_|exact hs_.1.1.2 hk_|exact hs_.1.1.1.2 hk_|exact ajS ag.out (by decide) hk_ hs_.2.2.2)) (fun k_ hk_=>ag.out.1 k_ hk_.1.symm));replace HK:=aM (Kept.then_ (S:=(fun k_=>aC k_)) qT hkp (fun k_ hs_=>by first|exact hs_.1.1|exact hs_.1.1.1|exact hs_.1));replace HB:=aM hb;(try clear hb);(try clear hkp);(try clear hy0)))
    (try simp only [<- aA])
    go_roundg k2
    case measure=>have:=dz.out;have:=dJ.out;omega
    exact⟨_,_,_,qZ,qZ,H',⟨by have:=dz.out;have:=dJ.out;omega⟩,⟨by (try simp only [aA]);(with_reducible repeat (first|apply S_alloc|apply S_drewN|apply S_drew));exact ae.out⟩,⟨by (try simp only [aA]);(with_reducible repeat (first|apply R_alloc|apply R_drewN|apply R_drew));exact ai.out⟩,⟨by (try simp only [aA]);(with_reducible repeat (first|apply R_alloc|apply R_drewN|apply R_drew));exact ag.out⟩,⟨qT⟩,⟨qB⟩⟩
   have H':=aM H
   clear H
   obtain⟨fV,fZ,fq⟩:=R_slice ai.out
   subst fq
   have bM:0<=(aO:Int):=qD
   have bN:aO < (aS.length:Int):=qD
   obtain⟨dW,dI,dx⟩:=Kd.at_int (R_reads' ai.out).2.2 aO bM bN
   cases dI
   replace bM:=eq_true bM
   replace bN:=eq_true bN
   obtain⟨bE,bF,fu⟩:=R_slice ag.out
   subst fu
   go_wp2_with (first|((with_reducible refine jc 122 52 ?_);refine jG func122 #[.slice (some aD) aZ.length bW,iV (rd aS aO),.slice bE aj.length bF] ?_;refine (Sb3.calls k2 ?fF (.slice (some aD) aZ.length bW) aZ (rd aS aO) _ _ aj false dV w0 _ ?aV ?aW ?bI ?bJ fD.out).mono ?_;(case aW=>exact S_bound ae.out);(case aV=>exact qB);(case bI=>exact C_kept_own (R_tight rfl ag.out) (fun k_ hk_ hs_=>by first|exact hs_.1.2 hk_|exact hs_.1.2.1 hk_|exact hs_.1.2.2 hk_|exact hs_.1.1.2 hk_|exact hs_.1.1.1.2 hk_|exact ajS ag.out (by decide) hk_ hs_.2.2.2));(case bJ=>exact (kp ag));rintro e fo ⟨rfl,hy0,hb,hkp⟩;refine⟨_,rfl,?_⟩;replace ae:=aM ((by first|exact S_mono (ok':=fun k_=>(((aC k_\/w.heap.size<=k_))/\some k_≠(.slice bE aj.length bF:Value).ownBlock)) hy0 (fun k_ h_=>Or.elim h_ (fun h_=>h_.1) (fun h_=>.inr (by first|exact Nat.le_trans HK.out.1 h_|exact Nat.le_trans (aa4 HB.out) h_)))|exact S_mono (ok':=fun k_=>(((aC k_\/w.heap.size<=k_))/\some k_≠(.slice bE aj.length bF:Value).ownBlock)) hy0 (fun _ _=>trivial)|exact S_mono (ok':=fun k_=>(((aC k_\/w.heap.size<=k_))/\some k_≠(.slice bE aj.length bF:Value).ownBlock)) hy0 (fun k_ h_=>Or.elim h_ (fun h_=>h_.1) (fun h_=>⟨.inr (Nat.le_trans HK.out.1 h_),fun e_=>by have:=R_lt ai.out k_ e_.symm;omega⟩))|exact S_mono (ok':=fun k_=>(((aC k_\/w.heap.size<=k_))/\some k_≠(.slice bE aj.length bF:Value).ownBlock)) hy0 (fun k_ h_=>Or.elim h_ (fun h_=>h_.1) (fun h_=>⟨.inr (Nat.le_trans HK.out.1 h_),fun e_=>by have:=R_lt ag.out k_ e_.symm;omega⟩))|exact S_mono (ok':=fun k_=>(((aC k_\/w.heap.size<=k_))/\some k_≠(.slice bE aj.length bF:Value).ownBlock)) hy0 (fun k_ h_=>Or.elim h_ (fun h_=>h_.1) (fun h_=>⟨⟨.inr (Nat.le_trans HK.out.1 h_),fun e_=>by have:=R_lt ai.out k_ e_.symm;omega⟩,fun e_=>by have:=R_lt ag.out k_ e_.symm;omega⟩))|exact S_mono (ok':=fun k_=>(((aC k_\/w.heap.size<=k_))/\some k_≠(.slice bE aj.length bF:Value).ownBlock)) hy0 (fun k_ h_=>Or.elim h_ (fun h_=>h_.1) (fun h_=>⟨⟨.inr (Nat.le_trans HK.out.1 h_),fun e_=>by have:=R_lt ag.out k_ e_.symm;omega⟩,fun e_=>by have:=R_lt ai.out k_ e_.symm;omega⟩))|exact S_mono (ok':=fun k_=>(((aC k_\/w.heap.size<=k_))/\some k_≠(.slice bE aj.length bF:Value).ownBlock)) hy0 (fun k_ h_=>Or.elim h_ (fun h_=>h_.1) (fun h_=>⟨.inr (Nat.le_trans HK.out.1 h_),⟨fun e_=>by have:=R_lt ai.out k_ e_.symm;omega,fun e_=>by have:=R_lt ag.out k_ e_.symm;omega⟩⟩))|exact S_mono (ok':=fun k_=>(((aC k_\/w.heap.size<=k_))/\some k_≠(.slice bE aj.length bF:Value).ownBlock)) hy0 (fun k_ h_=>Or.elim h_ (fun h_=>h_.1) (fun h_=>⟨.inr (Nat.le_trans HK.out.1 h_),⟨fun e_=>by have:=R_lt ag.out k_ e_.symm;omega,fun e_=>by have:=R_lt ai.out k_ e_.symm;omega⟩⟩))));replace ai:=aM (R_mono (ok':=fun k_=>(aC k_\/w.heap.size<=k_)) (R_keptB (R_tight rfl ai.out) hkp (fun k_ hk_ hs_=>by first|exact hs_.1.2 hk_|exact hs_.1.2.1 hk_|exact hs_.1.2.2 hk_|exact hs_.1.1.2 hk_|exact hs_.1.1.1.2 hk_|exact ajS ai.out (by decide) hk_ hs_.2.2.2)) (fun k_ hk_=>ai.out.1 k_ hk_.1.symm));replace ag:=aM (R_mono (ok':=fun k_=>(aC k_\/w.heap.size<=k_)) (R_keptB (R_tight rfl ag.out) hkp (fun k_ hk_ hs_=>by first|exact hs_.1.2 hk_|exact hs_.1.2.1 hk_|exact hs_.1.2.2 hk_|exact hs_.1.1.2 hk_|exact hs_.1.1.1.2 hk_|exact ajS ag.out (by decide) hk_ hs_.2.2.2)) (fun k_ hk_=>ag.out.1 k_ hk_.1.symm));replace HK:=aM (Kept.then_ (S:=(fun k_=>aC k_)) qT hkp (fun k_ hs_=>by first|exact hs_.1.1|exact hs_.1.1.1|exact hs_.1));replace HB:=aM hb;(try clear hb);(try clear hkp);(try clear hy0)))
   (try simp only [<- aA])
   go_roundg k2
   case measure=>have:=dz.out;have:=dJ.out;omega
   exact⟨_,_,_,qZ,qZ,H',⟨by have:=dz.out;have:=dJ.out;omega⟩,⟨by (try simp only [aA]);(with_reducible repeat (first|apply S_alloc|apply S_drewN|apply S_drew));exact ae.out⟩,⟨by (try simp only [aA]);(with_reducible repeat (first|apply R_alloc|apply R_drewN|apply R_drew));exact ai.out⟩,⟨by (try simp only [aA]);(with_reducible repeat (first|apply R_alloc|apply R_drewN|apply R_drew));exact ag.out⟩,⟨qT⟩,⟨qB⟩⟩
  have H':=aM H
  clear H
  obtain⟨gm,gp,fw⟩:=R_slice ai.out
  subst fw
  go_wp2
  (try simp only [<- aA])
  go_roundg k2
  case measure=>have:=dz.out;have:=dJ.out;omega
  exact⟨(aZ),(dw),(wrap64 (aa+1)),qZ,qZ,H',⟨by have:=dz.out;have:=dJ.out;omega⟩,⟨by (try simp only [aA]);(with_reducible repeat (first|apply S_alloc|apply S_drewN|apply S_drew));exact S_mono ae.out (fun _ hk=>hk.1)⟩,⟨qT⟩,⟨qB⟩⟩
 obtain⟨rfl,rfl⟩:=oJ2 H
 go_wp2
 go_ret
 exact⟨qW,qS ae,qB,qT⟩
mutual
def af6:Nat->List S27->List (List ab3)->Int->Option ((List (List ab3)))
 | 0,_,_,_=>none
 | k+1,x0,x3,x4=>if x4 < (x0.length:Int) then (if 12<=17592186044416 then (if x3.length < 5864062014805 then (af6 k x0 (x3 ++ [(List.replicate 12 agX)]) (wrap64 (x4+1))) else (none)) else (none)) else (af5 k x0 x3 0)
def af5:Nat->List S27->List (List ab3)->Int->Option ((List (List ab3)))
 | 0,_,_,_=>none
 | k+1,x0,x3,x5=>if x5 < 12 then (if 0 < (x3.length:Int) then (if 0<=x5 then (if x5 < ((aaC x3 0).length:Int) then (af5 k x0 (x3.set (0:Int).toNat ((aaC x3 0).set (x5:Int).toNat (⟨1,0⟩:ab3))) (wrap64 (x5+1))) else (none)) else (none)) else (none)) else (adM k x0 x3)
def adM:Nat->List S27->List (List ab3)->Option ((List (List ab3)))
 | 0,_,_=>none
 | k+1,x0,x3=>(Sb9.f k x0 x3).bind fun aR=>(if aR.1=true then (adM k x0 aR.2) else (some aR.2))
end
def San.f (k:Nat) (l0:List S27):Option ((List (List ab3))):=(some (([]:List (List ab3)):List (List ab3))).bind fun bn=>((Sag.f k l0).bind fun bM=>(if bM=true then (af6 k l0 bn 0) else (some bn)))
theorem San.calls (k:Nat) (A0:Option Addr) (c0:Nat) (l0:List S27) (r:List (List ab3)) (w:World) (hr0:Kd.C k27 w A0 l0.length l0) (hc0:l0.length<=c0) (h:San.f k l0=some r) :
  Calls prog 97 #[.slice A0 l0.length c0] w fun e w'=>∃ dX:Value,e = .returned (dX)/\Kd.S (Kd.slice 118 abk) 104 w' w.heap.size (fun _=>True) dX r/\Below w.heap.size w w':=by
 have dY:=underlying118
 have di:=aM hr0
 have dn:=aM hc0
 clear hr0 hc0
 have HB:=jb_ w
 have H:=h;unfold San.f at H
 clear h
 obtain⟨bn,av⟩:=ky ((([]:List (List ab3))):List (List ab3))
 replace H:=kv av H
 obtain⟨bM,A2,H⟩:=qE H
 try dsimp only at H
 replace H:=jB H;rcases H with ⟨rfl,H⟩ | ⟨rfl,H⟩
 ·have H':=aM H
  clear H
  go_enter func97,ntmps97
  go_wp2_with (first|((with_reducible refine jd 6 ?_);refine S_lit (Kd.slice 118 abk) _ 104 ?hg (N:=6) ?hd (xs:=([]:List (List ab3))) (inner:=[]) (ok:=fun _=>True) (okp:=fun _=>True) ?hr ?hp (fun _ hk=>hk) trivial (Below.refl _ _) (Nat.le_refl _) (by simp) ?_;(case hd=>rfl);(case hg=>rfl);(case hr=>first|(go_simp;done)|(go_simp;rfl));(case hp=>exact (aa9 _ _));intro dA w4 bN hb hg_ hnew_;clear hg_ hnew_;replace bN:=kr av bN;have ai:=aM (S_lower bN (aa4 qB));replace HB:=kH hb;clear hb bN)|((with_reducible refine jc 36 8 ?_);refine jK func36 (Sag.calls k _ _ l0 true _ (kb di HB) dn.out A2.out) ?_;intro w6 hb;replace ai:=kS ai hb;replace HB:=kH hb;clear hb))
  go_loopg [3,4] k (fun kq v3 v4 w'=>∃ (aN:List (List ab3)) (bF:Int),v4 = iV bF/\aa1 (af6 kq l0 aN bF=some r)/\aa1 (kq<=k)/\aa1 (Kd.S (Kd.slice 118 abk) 104 w' w.heap.size (fun _=>True) v3 aN)/\aa1 (Below w.heap.size w w'))
  case atStart=>exact⟨(bn),(0),qZ,H',⟨Nat.le_refl _⟩,⟨qS ai⟩,⟨qB⟩⟩
  clear H'
  obtain⟨aN,bF,rfl,HA,bL,aa,HB⟩:=hrel
  rcases gk with _|k1
  ·exact absurd HA.out (by simp [af6])
  have H:=HA.out
  clear HA
  simp only [af6] at H
  replace H:=jD H;rcases H with ⟨bG,H⟩ | ⟨bG,H⟩
  ·replace H:=jJ H;obtain⟨eT,eU,H⟩:=H
   obtain⟨bq,aD⟩:=ky ((List.replicate 12 agX):List ab3)
   replace H:=kv aD H
   replace H:=jL H;obtain⟨dB,H⟩:=H
   obtain⟨eX,aT⟩:=ky ((aN ++ [bq]):List (List ab3))
   replace H:=kv aT H
   have H':=aM H
   clear H
   go_wp2_with (first|((with_reducible refine jd 18 ?_);refine R_make abk _ 118 rfl (N:=18) rfl 104 _ _ rfl 12 rfl rfl underlying104 (.agg #[(iV 0),(iV 0)]) 16 aeM rfl (by decide) (by omega) agX (ok:=fun _=>True) (okp:=fun _=>True) (acL _ _ _ agX ) (fun _ hk=>hk) trivial (by omega) (by omega) (Below.refl _ _) (Nat.le_refl _) ?_;intro eY eZ aQ hb hg_ hnew_;clear hg_ hnew_;replace aQ:=kr aD aQ;have aG:=kL aQ;replace aa:=aM (S_elder' (qS aa) (R_base aQ) hb);replace HB:=kH hb;clear hb aQ;obtain⟨bO,bP,dC⟩:=R_slice aG.out;subst dC)|((with_reducible refine aaa (b:=.append) (xs:=#[.tmp 17,.tmp 19]) rfl ?_);at_builtin;refine S_append (Kd.slice 118 abk) (w0:=w) w.heap.size rfl (.tmp 17) (.tmp 19) 101 104 (.slice none 0 0) 24 rfl underlying101 aow rfl (by decide) (by omega) u3 aN bq [.slice bO bq.length bP] (fun _=>True) (fun k_=>some k_=(.slice bO bq.length bP:Value).ownBlock) rfl rfl ?aP (fun k_ hk_=>((R_mono (ok':=fun k_=>((fun _=>True)) k_/\some k_≠(u3:Value).ownBlock) (R_apart' (aG.out) (S_typed aa.out) (by decide)) (fun k_ hk=>⟨trivial,hk.2⟩))).1 k_ hk_.symm) ?aF ?aO ?aB ?aS ?aL ?_;(case aP=>exact M_row (R_mono (R_tight rfl (R_mono (ok':=fun k_=>((fun _=>True)) k_/\some k_≠(u3:Value).ownBlock) (R_apart' (aG.out) (S_typed aa.out) (by decide)) (fun k_ hk=>⟨trivial,hk.2⟩))) (fun _ h_=>h_)));(case aB=>exact qB);(case aF=>exact (fun _ _=>trivial));(case aO=>exact (by (with_reducible repeat (first|apply S_alloc|apply S_drewN|apply S_drew));exact S_mono aa.out (by first|exact fun k_ hk=>⟨trivial,fun e_=>hk.2 e_⟩|exact fun k_ hk=>hk)));(case aS=>exact (aa4 qB));(case aL=>have:=dB.out;omega);intro fe fo ho hb hg hat;rw [<- aT.out] at ho;have bQ:=aM ho;replace HB:=aM hb;clear aa aG;clear ho hb hg hat))
   go_roundg k1
   case measure=>have:=bL.out;omega
   exact⟨_,_,qZ,H',⟨by have:=bL.out;omega⟩,⟨qS bQ⟩,⟨qB⟩⟩
  have H':=aM H
  clear H
  go_wp2
  go_loopg [5] k1 (fun kq v5 w'=>∃ (ae:List (List ab3)) (af:Int),v5 = iV af/\aa1 (af5 kq l0 ae af=some r)/\aa1 (kq<=k1)/\aa1 (Kd.S (Kd.slice 118 abk) 104 w' w.heap.size (fun _=>True) u3 ae)/\aa1 (Below w.heap.size w w'))
  case atStart=>exact⟨(aN),(0),qZ,H',⟨Nat.le_refl _⟩,⟨qS aa⟩,⟨qB⟩⟩
  clear H'
  try clear bG
  obtain⟨ae,af,rfl,HA,dw,aa,HB⟩:=hrel
  rcases gk with _|k2
  ·exact absurd HA.out (by simp [af5])
  have H:=HA.out
  clear HA
  simp only [af5] at H
  replace H:=jD H;rcases H with ⟨bC,H⟩ | ⟨bC,H⟩
  ·replace H:=jU H;obtain⟨c15,H⟩:=H
   have dZ:=decide_eq_true c15
   have d9:decide (0 < ae.length)=true:=decide_eq_true (by omega)
   clear c15
   replace H:=jI H;obtain⟨ed,H⟩:=H
   replace H:=jI H;obtain⟨ek,H⟩:=H
   obtain⟨bR,aU⟩:=ky (((aaC ae 0).set (af:Int).toNat (⟨1,0⟩:ab3)):List ab3)
   replace H:=kv aU H
   obtain⟨dD,aV⟩:=ky ((ae.set (0:Int).toNat bR):List (List ab3))
   replace H:=kv aV H
   have H':=aM H
   clear H
   obtain⟨fq,dE,dF⟩:=S_slice aa.out
   subst dF
   have bu:0<=(0:Int):=(by omega)
   have bv:0 < (ae.length:Int):=qD
   obtain⟨bS,dG,bH,dH,ah,aH,aI⟩:=ahj (S_reads' aa.out).2.2 0 bu bv
   cases dH
   obtain⟨eu,bI,bJ,aW⟩:=S_get aa.out [] 0 bu (by first|exact bv|exact qD|(have e_:=(S_reads' aa.out).1;omega))
   obtain⟨dx,rfl,ax⟩:=bJ
   have ag:=aW 0 _ rfl
   rw [Nat.add_zero,show ((Kd.slice 118 abk)).sz=1 from rfl,Nat.mul_one] at ag
   replace ag:=Option.some.inj (ag.symm.trans ah)
   rw [ag] at ax
   have ay:=aM (show Kd.R abk 118 _ _ _ _ (aaC ae 0) from ax)
   clear ag ax
   have bz:=aM ah
   clear aW bI
   have eB:(0 < ae.length)=True:=eq_true (by omega)
   (try rw [show ((0:Int)).toNat=0 from rfl] at ah)
   (try rw [Addr.add_zero'] at ah)
   have aJ:=aM aI
   have dz:=aM aH
   clear aI aH
   replace bu:=eq_true bu
   replace bv:=eq_true bv
   have dI:0<=(af:Int):=qD
   have dJ:(af:Int) < (((aaC ae 0).length:Int):Int):=qD
   obtain⟨aA,fu,bT,bU,dK,fw,bV⟩:=R_form ay.out (by omega)
   (first|cases bT|(injection bT with ea_ en_ ec_;(first|subst ea_|(injection ea_ with ea_;subst ea_));subst ec_;clear en_))
   have bW:=aM bU
   have fA:=aM bV
   clear bU dK bV
   obtain⟨fB,bX,bY,aX,aY⟩:=R_elem ay.out agX (af:Int) dI dJ
   obtain rfl:=abe bY
   have dL:wr.cell? ⟨aA,(af:Int).toNat*2,none⟩=some (iV ((aa8 (aaC ae 0) af).f0)):=aX 0 _ rfl
   have dM:wr.cell? ⟨aA,(af:Int).toNat*2+1,none⟩=some (iV ((aa8 (aaC ae 0) af).f1)):=aX 1 _ rfl
   have dN:wr.frozen? ⟨aA,(af:Int).toNat*2,none⟩=false:=aY 0
   have dO:wr.frozen? ⟨aA,(af:Int).toNat*2+1,none⟩=false:=aY 1
   clear bX aX aY;(try clear bY)
   replace dI:=eq_true dI
   replace dJ:=eq_true dJ
   have dP:(0:Int) < (ae.length:Int):=(by have h_:(0:Int) < ((ae.length:Int):Int):=qD;first|exact h_|(have e_:=(S_reads' aa.out).1;omega)|simpa only [List.length_set,List.length_set] using h_)
   obtain⟨bZ,fC,aK,dQ,aC,bD,bE⟩:=S_borrow aa.out [] (0:Int) (by omega) dP
   obtain⟨dR,rfl,au⟩:=dQ
   have bA:=aC 0 _ rfl
   rw [Nat.add_zero,show ((Kd.slice 118 abk)).sz=1 from rfl,Nat.mul_one] at bA
   replace bA:=Option.some.inj (bA.symm.trans bz.out)
   subst bA
   clear aC aK
   replace au:=(show Kd.R abk 118 _ _ _ _ (aaC ae 0) from au)
   obtain⟨fD,aK,cu,aC,cz⟩:=R_elem au agX (af:Int) (qD) (by have h_:(af:Int) < (((aaC ae 0).length:Int):Int):=qD;first|exact h_|(have e_:=(R_reads' aJ.out).1;omega)|simpa using h_)
   obtain rfl:=abe cu
   have bK:=R_seg au (af:Int) (qD) (by have h_:(af:Int) < (((aaC ae 0).length:Int):Int):=qD;first|exact h_|(have e_:=(R_reads' aJ.out).1;omega)|simpa using h_) (seg:=[iV 1,iV 0]) (j:=0) aK aC (show 2<=2 from by decide) (x':=(⟨1,0⟩:ab3)) (acL _ _ _ (⟨1,0⟩:ab3)) (fun _ hk=>hk)
   clear aK aC cz cu
   go_wp2_with (first|((with_reducible refine aaB (t:=118) (p:=30) rfl ?_);refine aar (t:=118) (p:=30) (v:=?dS) (w1:=((wr.setCell ⟨aA,(af:Int).toNat*2,none⟩ (iV 1)).setCell ⟨aA,(af:Int).toNat*2+1,none⟩ (iV 0))) ?hg ?ho ?hn ?hr ?_;(case ho=>rfl);(case hg=>rfl);(case hn=>rfl);(case hr=>first|(go_simp;done)|(go_simp;rfl));intro bB hw;have hg:wr.grownBy bB (some aA):=(by rw [hw];exact bK.2);have hz_:Kd.R abk 118 bB w.heap.size bZ (.slice (some ⟨aA,0,none⟩) (aaC ae 0).length bH) bR:=(by rw [hw,aU.out];exact bK.1);have hp_:Kd.S (Kd.slice 118 abk) 104 bB w.heap.size (fun _=>True) (.slice (some bS) ae.length dE) dD:=(by rw [aV.out];exact bE hg (fun k_ e_=>by injection e_ with e_;subst e_;exact au.1 _ rfl) (M_row hz_));have hm_:=R_mono hz_ bD;clear bK bE;have eD:=aM hm_;have eF:=aM ((R_reads' hm_).2.1);replace aa:=aM hp_;replace HB:=aM ((by rw [hw];exact aac (aac (HB.out) bW.out) bW.out:Below w.heap.size w bB));clear ay;clear hg hw hp_ hz_ hm_ bD))
   go_roundg k2
   case measure=>have:=bL.out;have:=dw.out;omega
   exact⟨_,_,qZ,H',⟨by have:=bL.out;have:=dw.out;omega⟩,⟨qS aa⟩,⟨qB⟩⟩
  have H':=aM H
  clear H
  go_wp2
  go_loopg [] k2 (fun kq w'=>∃ (az:List (List ab3)),aa1 (adM kq l0 az=some r)/\aa1 (kq<=k2)/\aa1 (Kd.S (Kd.slice 118 abk) 104 w' w.heap.size (fun _=>True) u3 az)/\aa1 (Below w.heap.size w w'))
  case atStart=>exact⟨(ae),H',⟨Nat.le_refl _⟩,⟨qS aa⟩,⟨qB⟩⟩
  clear H'
  try clear bG;try clear bC
  obtain⟨az,HA,eG,aa,HB⟩:=hrel
  rcases gk with _|k3
  ·exact absurd HA.out (by simp [adM])
  have H:=HA.out
  clear HA
  simp only [adM] at H
  obtain⟨⟨fE,cB⟩,eH,H⟩:=qE H
  try dsimp only at H
  replace H:=jB H;rcases H with ⟨rfl,H⟩ | ⟨rfl,H⟩
  ·have H':=aM H
   clear H
   obtain⟨cK,cO,dU⟩:=S_slice aa.out
   subst dU
   go_wp2_with (first|((with_reducible refine jc 112 33 ?_);refine jG func112 #[.slice A0 l0.length c0,.slice cK az.length cO] ?_;refine (Sb9.calls k3 _ _ l0 ?eO (.slice cK az.length cO) az true cB w _ ?aj ?ak ?aZ ?bg eH.out).mono ?_;(case bg=>exact S_bound aa.out);(case aj=>exact qB);(case ak=>exact C_kept_came acp di.out qB (fun k_ hs_=>(by first|exact R_base aa.out k_ hs_.symm|exact hs_.2.1)));(case aZ=>exact dn.out);rintro e dV ⟨rfl,hy0,hb,hkp⟩;refine⟨_,rfl,?_⟩;replace aa:=aM ((by first|exact S_mono (ok':=fun k_=>True) hy0 (fun k_ h_=>Or.elim h_ (fun h_=>h_.1) (fun h_=>.inr (by first|exact Nat.le_trans HK.out.1 h_|exact Nat.le_trans (aa4 HB.out) h_)))|exact S_mono (ok':=fun k_=>True) hy0 (fun _ _=>trivial)));replace HB:=aM hb;(try clear hb);(try clear hkp);(try clear hy0)))
   go_roundg k3
   case measure=>have:=bL.out;have:=dw.out;have:=eG.out;omega
   exact⟨_,H',⟨by have:=bL.out;have:=dw.out;have:=eG.out;omega⟩,⟨qS aa⟩,⟨qB⟩⟩
  obtain rfl:=oJ H
  obtain⟨df,dh,dW⟩:=S_slice aa.out
  subst dW
  go_wp2_with (first|((with_reducible refine jc 112 33 ?_);refine jG func112 #[.slice A0 l0.length c0,.slice df az.length dh] ?_;refine (Sb9.calls k3 _ _ l0 ?eP (.slice df az.length dh) az false cB w _ ?aj ?ak ?aZ ?bg eH.out).mono ?_;(case bg=>exact S_bound aa.out);(case aj=>exact qB);(case ak=>exact C_kept_came acp di.out qB (fun k_ hs_=>(by first|exact R_base aa.out k_ hs_.symm|exact hs_.2.1)));(case aZ=>exact dn.out);rintro e dV ⟨rfl,hy0,hb,hkp⟩;refine⟨_,rfl,?_⟩;replace aa:=aM ((by first|exact S_mono (ok':=fun k_=>True) hy0 (fun k_ h_=>Or.elim h_ (fun h_=>h_.1) (fun h_=>.inr (by first|exact Nat.le_trans HK.out.1 h_|exact Nat.le_trans (aa4 HB.out) h_)))|exact S_mono (ok':=fun k_=>True) hy0 (fun _ _=>trivial)));replace HB:=aM hb;(try clear hb);(try clear hkp);(try clear hy0)))
  go_ret
  exact⟨_,qW,qS aa,qB⟩
 obtain rfl:=oJ H
 go_enter func97,ntmps97
 go_wp2_with (first|((with_reducible refine jd 6 ?_);refine S_lit (Kd.slice 118 abk) _ 104 ?hg (N:=6) ?hd (xs:=([]:List (List ab3))) (inner:=[]) (ok:=fun _=>True) (okp:=fun _=>True) ?hr ?hp (fun _ hk=>hk) trivial (Below.refl _ _) (Nat.le_refl _) (by simp) ?_;(case hd=>rfl);(case hg=>rfl);(case hr=>first|(go_simp;done)|(go_simp;rfl));(case hp=>exact (aa9 _ _));intro dA fF bi hb hg_ hnew_;clear hg_ hnew_;replace bi:=kr av bi;have ai:=aM (S_lower bi (aa4 qB));replace HB:=kH hb;clear hb bi)|((with_reducible refine jc 36 8 ?_);refine jK func36 (Sag.calls k _ _ l0 false _ (kb di HB) dn.out A2.out) ?_;intro fG hb;replace ai:=kS ai hb;replace HB:=kH hb;clear hb))
 go_ret
 exact⟨_,qW,qS ai,qB⟩
end Go.Proofs.YtebpplallecogaaGreat.M
namespace Go.Proofs.YtebpplallecogaaGreat.M
open Go.Proofs.Tryz Go.RowKit Go.Proofs.YtebpplallecogaaGreatW.PrintWords Go.Proofs.YtebpplallecogaaGreatW.PrintLast Go.Proofs.YtebpplallecogaaGreatW.PrintMore
attribute [local go_sem] aal aaj aaz aay aae aad aak aai
def agn (aa ae a1:Int):Option (Bool):=if aa=1 then (some (ae == a1)) else (some false)
theorem apB {G:Prop} (h:G:=by
  go_enter func114,ntmps114
  go_wp2_with (first|((with_reducible refine jd 2 ?_);refine jY _ 118 ?_;intro ai hg au af hb;have aj:=kG hg;replace HB:=kH hb;clear hb hg;have av:=jz2 af))
  go_ret
  exact⟨qW,qB⟩):G:=h
theorem Sb6.calls (aa ae a1:Int) (r:Bool) (w:World) (h:agn aa ae a1=some r) :
  Calls prog 114 #[.agg #[iV aa,iV ae],iV a1] w fun e w'=>e = .returned (.bool r)/\Below w.heap.size w w':=by
 have ak:=underlying118
 have HB:=jb_ w
 have H:(if aa=1 then (some (ae == a1)) else (some false))=some r:=h
 clear h
 replace H:=jE H;rcases H with ⟨ag,ah,H⟩ | ⟨c3,ag,ah,H⟩
 ·obtain rfl:=oJ H
  exact apB
 obtain rfl:=oJ H
 exact apB
def aey:Nat->List Int->Int->Int->Option (Bool)
 | 0,_,_,_=>none
 | k+1,x0,x1,x5=>if x5 < (x0.length:Int) then (if 0<=x5 then (if (rd x0 x5)=x1 then (some true) else (aey k x0 x1 (wrap64 (x5+1)))) else (none)) else (some false)
def SaT.f (k:Nat) (l0:List Int) (a1:Int):Option (Bool):=aey k l0 a1 0
theorem SaT.calls (k:Nat) (A0:Option Addr) (c0:Nat) (l0:List Int) (a1:Int) (r:Bool) (w:World) (hr0:Kd.C (Kd.int .i64) w A0 l0.length l0) (hc0:l0.length<=c0) (h:SaT.f k l0 a1=some r) :
  Calls prog 129 #[.slice A0 l0.length c0,iV a1] w fun e w'=>e = .returned (.bool r)/\aaD w w':=by
 have av:=aM hr0
 have aA:=aM hc0
 clear hr0 hc0
 have H:(aey k l0 a1 0)=some r:=h
 clear h
 have H':=aM H
 clear H
 go_enter func129,ntmps129
 go_wp2
 go_loopg [5] k (fun kq v5 w'=>∃ (aa:Int),v5 = iV aa/\aa1 (aey kq l0 a1 aa=some r)/\aa1 (kq<=k)/\aaD w w')
 case atStart=>exact⟨(0),qZ,H',⟨Nat.le_refl _⟩,by repeat (first|exact aaO _|apply aaD.step)⟩
 clear H'
 obtain⟨aa,rfl,HA,ax,⟨m1,rfl⟩⟩:=hrel
 rcases gk with _|k1
 ·exact absurd HA.out (by simp [aey])
 have H:=HA.out
 clear HA
 simp only [aey] at H
 replace H:=jD H;rcases H with ⟨aj,H⟩ | ⟨aj,H⟩
 ·replace H:=jI H;obtain⟨az,H⟩:=H
  replace H:=jE H;rcases H with ⟨ak,au,H⟩ | ⟨c5,ak,au,H⟩
  ·obtain rfl:=oJ H
   have ae:0<=(aa:Int):=qD
   have af:aa < (l0.length:Int):=qD
   obtain⟨ai,ah,ag⟩:=Kd.at_int av.out aa ae af
   cases ah
   replace ae:=eq_true ae
   replace af:=eq_true af
   go_wp2
   go_ret
   exact⟨qZ,qU⟩
  have H':=aM H
  clear H
  have ae:0<=(aa:Int):=qD
  have af:aa < (l0.length:Int):=qD
  obtain⟨ai,ah,ag⟩:=Kd.at_int av.out aa ae af
  cases ah
  replace ae:=eq_true ae
  replace af:=eq_true af
  go_wp2
  go_roundg k1
  case measure=>have:=ax.out;omega
  exact⟨(wrap64 (aa+1)),qZ,H',⟨by have:=ax.out;omega⟩,by repeat (first|exact aaO _|apply aaD.step)⟩
 obtain rfl:=oJ H
 go_wp2
 go_ret
 exact⟨qZ,qU⟩
def ahn (k:Nat) (a0:Int) (l1:List Int):Option (Bool):=(SaT.f k l1 a0).bind fun aa=>(some aa)
theorem ace (k:Nat) (a0:Int) (A1:Option Addr) (c1:Nat) (l1:List Int) (r:Bool) (w:World) (hr1:Kd.C (Kd.int .i64) w A1 l1.length l1) (hc1:l1.length<=c1) (h:ahn k a0 l1=some r) :
  Calls prog 124 #[iV a0,.slice A1 l1.length c1] w fun e w'=>e = .returned (.bool r)/\aaD w w':=by
 have HR1:=aM hr1
 have ag:=aM hc1
 clear hr1 hc1
 have H:((SaT.f k l1 a0).bind fun aa=>(some aa))=some r:=h
 clear h
 obtain⟨aa,A3,H⟩:=qE H
 try dsimp only at H
 obtain rfl:=oJ H
 go_enter func124,ntmps124
 go_wp2_with (first|((with_reducible refine jc 129 7 ?_);refine jK func129 (SaT.calls k _ _ l1 a0 aa _ (kC HR1.out) ag.out A3.out) ?_;rintro w' ⟨nd,rfl⟩))
 go_ret
 exact⟨qZ,qU⟩
mutual
def ag1:Nat->Bool->Int->Int->Int->Int->Int->Int->Int->Int->Int->Option (Int × Int × Int × Int × Int)
 | 0,_,_,_,_,_,_,_,_,_,_=>none
 | k+1,pI,xa,xb,xc,xd,xe,xf,xg,xh,xi=>if pI=true then (some (2,xb,xc,0,0)) else ((agn xh xi 1).bind fun dU=>(if dU=true then ((ahn k xe (([10,11]:List Int))).bind fun dN=>(ag0 k dN xa xb xc xd xe xf xg xh xi)) else (ag0 k false xa xb xc xd xe xf xg xh xi)))
def ag0:Nat->Bool->Int->Int->Int->Int->Int->Int->Int->Int->Int->Option (Int × Int × Int × Int × Int)
 | 0,_,_,_,_,_,_,_,_,_,_=>none
 | k+1,pJ,xa,xb,xc,xd,xe,xf,xg,xh,xi=>if pJ=true then (some (2,xb,xc,0,0)) else ((agn xf xg 0).bind fun dV=>(if dV=true then ((ahn k xe (([1,2,8]:List Int))).bind fun dO=>(afZ k dO xa xb xc xd xe xf xg xh xi)) else (afZ k false xa xb xc xd xe xf xg xh xi)))
def afZ:Nat->Bool->Int->Int->Int->Int->Int->Int->Int->Int->Int->Option (Int × Int × Int × Int × Int)
 | 0,_,_,_,_,_,_,_,_,_,_=>none
 | k+1,pK,xa,xb,xc,xd,xe,xf,xg,xh,xi=>if pK=true then (some (2,xb,xd,0,0)) else ((agn xf xg 1).bind fun dW=>(if dW=true then (afY k (xe == 10) xa xb xc xd xe xf xg xh xi) else (afY k false xa xb xc xd xe xf xg xh xi)))
def afY:Nat->Bool->Int->Int->Int->Int->Int->Int->Int->Int->Int->Option (Int × Int × Int × Int × Int)
 | 0,_,_,_,_,_,_,_,_,_,_=>none
 | k+1,pM,xa,xb,xc,xd,xe,xf,xg,xh,xi=>if pM=true then (some (2,xb,xd,0,0)) else ((agn xf xg 0).bind fun dX=>(if dX=true then ((ahn k xe (([3,10]:List Int))).bind fun dY=>(if dY=true then (some (1,xb,0,0,0)) else (some (xa,xb,xc,xd,xe)))) else ((agn xh xi 0).bind fun dZ=>(if dZ=true then ((ahn k xe (([3,10]:List Int))).bind fun d9=>(if d9=true then (some (1,xb,0,0,0)) else (some (xa,xb,xc,xd,xe)))) else (some (xa,xb,xc,xd,xe))))))
end
def alM (k:Nat) (aZ aQ aV aW aR aT aU aX aY:Int):Option (Int × Int × Int × Int × Int):=(ajL k aZ aQ aV aW aR aT aU aX aY).bind fun dM=>(if dM.1=1 then (some (1,aQ,0,0,dM.2)) else ((agn aX aY 0).bind fun ed=>(if ed=true then ((ahn k aR (([1,2,6,7,8,9]:List Int))).bind fun dP=>(ag1 k dP aZ aQ aV aW aR aT aU aX aY)) else (ag1 k false aZ aQ aV aW aR aT aU aX aY))))
theorem apP {G:Prop} (h:G:=by
  go_wp2_with (first|((with_reducible refine jc 114 78 ?_);refine jG func114 #[.agg #[iV aT,iV aU],iV 0] ?_;refine (Sb6.calls _ _ _ _ _ (aa1.out (by assumption))).mono ?_;rintro e bT ⟨rfl,hb⟩;refine⟨_,rfl,?_⟩;replace aa:=kB aa hb;replace ae:=kB ae hb;replace ag:=kB ag hb;replace af:=kB af hb;replace ah:=kB ah hb;replace HB:=kH hb;clear hb;have bU:=au.out;have bV:=av.out;have bW:=aB.out;have bX:=aC.out;have bY:=aO.out;have bZ:=aP.out;have cu:=jz2 ag)|(go_at_call 114;(with_reducible refine (Sb6.calls _ _ _ _ _ (aa1.out (by assumption))).mono ?_);rintro e ek ⟨rfl,hb⟩;replace aa:=kB aa hb;replace ae:=kB ae hb;replace ag:=kB ag hb;replace af:=kB af hb;replace ah:=kB ah hb;replace HB:=kH hb;clear hb;have eu:=aD.out;have eB:=aF.out;have eD:=aG.out;have eF:=aH.out;have eG:=jz5 aa;have lN:=aI.out;have lQ:=aJ.out;have lS:=jz5 af)|((with_reducible refine jd 86 ?_);(try (refine aap (by rfl) ?_;dsimp only));refine jV (Kd.int .i64) 3 ([3,10]:List Int) [iV 3,iV 10] (aax.one (show Kd.M (Kd.int .i64) _ _ _ 3 [iV 3] from rfl) (aax.one (show Kd.M (Kd.int .i64) _ _ _ 10 [iV 10] from rfl) (aa9 _ _))) ?_;intro fD ak aN hb;(first|rw [<- bG.out] at aN|(simp only [Int.reduceToNat] at aN;rw [<- bG.out] at aN));have bg:=kL aN;replace aa:=kB aa hb;replace ae:=kB ae hb;replace ag:=kB ag hb;replace af:=kB af hb;replace ah:=kB ah hb;replace HB:=kH hb;clear hb aN;obtain⟨bB,bC,bD⟩:=Kd.R_slice bg.out;subst bD)|(go_at_call 124;(with_reducible refine (ace bN aR _ _ bR false _ ?bi ?bn eH.out).mono ?_);(case bi=>exact kJ bg);(case bn=>exact (kp bg));rintro e w' ⟨rfl,⟨nd,rfl⟩⟩;(try (rw [abm ak];generalize hq_:World.drewN ak _=ak;have cz:aa1 (Kd.R (Kd.int .i64) 3 ak w.heap.size (fun _=>True) (.slice bB bR.length bC) bR):=⟨by rw [<- hq_];exact (qR bg)⟩;have cB:aa1 (ak.heap[bv]?=some (.cells #[iV aZ,iV aQ,iV aV,iV aW,iV aR] 27 (0,0))):=⟨by rw [<- hq_];exact (qK aa)⟩;have cK:aa1 (ak.heap[bz]?=some (.cells #[iV aT,iV aU] 118 (0,0))):=⟨by rw [<- hq_];exact (qK ae)⟩;have cO:aa1 (ak.heap[bA]?=some (.cells #[iV aX,iV aY] 118 (0,0))):=⟨by rw [<- hq_];exact (qK ag)⟩;have df:aa1 (ak.heap[aS]?=some (.cells #[iV 0,iV 0,iV 0,iV 0,iV 0] 27 (0,0))):=⟨by rw [<- hq_];exact (qK af)⟩;have dh:aa1 (ak.heap[bu]?=some (.cells #[iV bF,iV bE] 118 (0,0))):=⟨by rw [<- hq_];exact (qK ah)⟩;have di:aa1 (Below w.heap.size w ak):=⟨by rw [<- hq_];exact qB⟩;clear bg aa ae ag af ah HB hq_;have bg:=cz;have aa:=cB;have ae:=cK;have ag:=cO;have af:=df;have ah:=dh;have HB:=di;clear cz cB cK cO df dh di));have dn:=jz5 aa;have dw:=aI.out;have dx:=aJ.out;have eO:=jz5 af))
  refine bodyPost_ret (results_cell_row rfl _ _ aS 27 #[iV aZ,iV aQ,iV aV,iV aW,iV aR] (0,0) _ rfl (qF af) underlying27 rfl (by kernel_rfl)) rfl ?_
  exact⟨qW,qB⟩):G:=h
theorem apO {G:Prop} (h:G:=by
  go_wp2_with (first|((with_reducible refine jc 114 23 ?_);refine jG func114 #[.agg #[iV aX,iV aY],iV 0] ?_;refine (Sb6.calls _ _ _ _ _ (aa1.out (by assumption))).mono ?_;rintro e pQ ⟨rfl,hb⟩;refine⟨_,rfl,?_⟩;replace aa:=kB aa hb;replace ae:=kB ae hb;replace ag:=kB ag hb;replace af:=kB af hb;replace ah:=aM (abC (g:=bu) (qF ah) hb);replace HB:=kH hb;clear hb;have pR:=ai.out;have pU:=aj.out;have pV:=aD.out;have pW:=aF.out;have pX:=aG.out;have pY:=aH.out;have p8:=jz5 aa)|((with_reducible refine jd 27 ?_);(try (refine aap (by rfl) ?_;dsimp only));refine jV (Kd.int .i64) 3 ([1,2,6,7,8,9]:List Int) [iV 1,iV 2,iV 6,iV 7,iV 8,iV 9] (aax.one (show Kd.M (Kd.int .i64) _ _ _ 1 [iV 1] from rfl) (aax.one (show Kd.M (Kd.int .i64) _ _ _ 2 [iV 2] from rfl) (aax.one (show Kd.M (Kd.int .i64) _ _ _ 6 [iV 6] from rfl) (aax.one (show Kd.M (Kd.int .i64) _ _ _ 7 [iV 7] from rfl) (aax.one (show Kd.M (Kd.int .i64) _ _ _ 8 [iV 8] from rfl) (aax.one (show Kd.M (Kd.int .i64) _ _ _ 9 [iV 9] from rfl) (aa9 _ _))))))) ?_;intro p9 qb dz hb;(first|rw [<- bO.out] at dz|(simp only [Int.reduceToNat] at dz;rw [<- bO.out] at dz));have dA:=kL dz;replace aa:=kB aa hb;replace ae:=kB ae hb;replace ag:=kB ag hb;replace af:=kB af hb;replace ah:=kB ah hb;replace HB:=kH hb;clear hb dz;obtain⟨qc,qd,fE⟩:=Kd.R_slice dA.out;subst fE)|(go_at_call 124;(with_reducible refine (ace k aR _ _ fF dP _ ?bi ?bn qf.out).mono ?_);(case bi=>exact kJ dA);(case bn=>exact (kp dA));rintro e w' ⟨rfl,⟨nd,rfl⟩⟩))
  go_meet
  exact⟨_,_,qZ,H',⟨by first|omega|exact Nat.le_refl _⟩,⟨qK aa⟩,⟨qK ae⟩,⟨qK ag⟩,⟨qK af⟩,⟨qK ah⟩,⟨qB⟩⟩):G:=h
theorem apN {G:Prop} (h:G:=by
  go_wp2_with (first|((with_reducible refine jc 114 51 ?_);refine jG func114 #[.agg #[iV aT,iV aU],iV 0] ?_;refine (Sb6.calls _ _ _ _ _ (aa1.out (by assumption))).mono ?_;rintro e lT ⟨rfl,hb⟩;refine⟨_,rfl,?_⟩;replace aa:=kB aa hb;replace ae:=kB ae hb;replace ag:=kB ag hb;replace af:=kB af hb;replace ah:=kB ah hb;replace HB:=kH hb;clear hb;have lU:=av.out;have lV:=au.out;have lW:=aD.out;have lX:=aF.out;have lY:=aG.out;have lZ:=aH.out;have l8:=jz5 aa)|((with_reducible refine jd 55 ?_);(try (refine aap (by rfl) ?_;dsimp only));refine jV (Kd.int .i64) 3 ([1,2,8]:List Int) [iV 1,iV 2,iV 8] (aax.one (show Kd.M (Kd.int .i64) _ _ _ 1 [iV 1] from rfl) (aax.one (show Kd.M (Kd.int .i64) _ _ _ 2 [iV 2] from rfl) (aax.one (show Kd.M (Kd.int .i64) _ _ _ 8 [iV 8] from rfl) (aa9 _ _)))) ?_;intro qg l9 bK hb;(first|rw [<- bP.out] at bK|(simp only [Int.reduceToNat] at bK;rw [<- bP.out] at bK));have dB:=kL bK;replace aa:=kB aa hb;replace ae:=kB ae hb;replace ag:=kB ag hb;replace af:=kB af hb;replace ah:=kB ah hb;replace HB:=kH hb;clear hb bK;obtain⟨ma,mf,eP⟩:=Kd.R_slice dB.out;subst eP)|(go_at_call 124;(with_reducible refine (ace eQ aR _ _ fG dO _ ?bi ?bn fH.out).mono ?_);(case bi=>exact kJ dB);(case bn=>exact (kp dB));rintro e w' ⟨rfl,⟨nd,rfl⟩⟩))
  go_meet
  exact⟨_,_,qZ,H',⟨by have:=dQ.out;have:=eT.out;first|omega|exact Nat.le_refl _⟩,⟨qK aa⟩,⟨qK ae⟩,⟨qK ag⟩,⟨qK af⟩,⟨qK ah⟩,⟨qB⟩⟩):G:=h
theorem apM {G:Prop} (h:G:=by
  go_wp2_with (first|((with_reducible refine jc 114 37 ?_);refine jG func114 #[.agg #[iV aX,iV aY],iV 1] ?_;refine (Sb6.calls _ _ _ _ _ (aa1.out (by assumption))).mono ?_;rintro e qh ⟨rfl,hb⟩;refine⟨_,rfl,?_⟩;replace aa:=kB aa hb;replace ae:=kB ae hb;replace ag:=kB ag hb;replace af:=kB af hb;replace ah:=kB ah hb;replace HB:=kH hb;clear hb;have qi:=ai.out;have qj:=aj.out;have ql:=aD.out;have qm:=aF.out;have qo:=aG.out;have qp:=aH.out;have qw:=jz5 aa)|((with_reducible refine jd 41 ?_);(try (refine aap (by rfl) ?_;dsimp only));refine jV (Kd.int .i64) 3 ([10,11]:List Int) [iV 10,iV 11] (aax.one (show Kd.M (Kd.int .i64) _ _ _ 10 [iV 10] from rfl) (aax.one (show Kd.M (Kd.int .i64) _ _ _ 11 [iV 11] from rfl) (aa9 _ _))) ?_;intro qx qy dC hb;(first|rw [<- bQ.out] at dC|(simp only [Int.reduceToNat] at dC;rw [<- bQ.out] at dC));have dD:=kL dC;replace aa:=kB aa hb;replace ae:=kB ae hb;replace ag:=kB ag hb;replace af:=kB af hb;replace ah:=kB ah hb;replace HB:=kH hb;clear hb dC;obtain⟨qz,qC,fI⟩:=Kd.R_slice dD.out;subst fI)|(go_at_call 124;(with_reducible refine (ace eU aR _ _ fJ dN _ ?bi ?bn qG.out).mono ?_);(case bi=>exact kJ dD);(case bn=>exact (kp dD));rintro e w' ⟨rfl,⟨nd,rfl⟩⟩))
  go_meet
  exact⟨_,_,qZ,H',⟨by have:=dQ.out;first|omega|exact Nat.le_refl _⟩,⟨qK aa⟩,⟨qK ae⟩,⟨qK ag⟩,⟨qK af⟩,⟨qK ah⟩,⟨qB⟩⟩):G:=h
theorem apL {G:Prop} (h:G:=by
  go_wp2_with (first|((with_reducible refine jc 114 65 ?_);refine jG func114 #[.agg #[iV aT,iV aU],iV 1] ?_;refine (Sb6.calls _ _ _ _ _ (aa1.out (by assumption))).mono ?_;rintro e mg ⟨rfl,hb⟩;refine⟨_,rfl,?_⟩;replace aa:=kB aa hb;replace ae:=kB ae hb;replace ag:=kB ag hb;replace af:=kB af hb;replace ah:=kB ah hb;replace HB:=kH hb;clear hb;have mh:=av.out;have mi:=au.out;have mo:=aD.out;have mq:=aF.out;have mr:=aG.out;have mD:=aH.out;have mE:=jz5 aa))
  go_meet
  exact⟨_,_,qZ,H',⟨by have:=dQ.out;have:=eT.out;have:=eX.out;first|omega|exact Nat.le_refl _⟩,⟨qK aa⟩,⟨qK ae⟩,⟨qK ag⟩,⟨qK af⟩,⟨qK ah⟩,⟨qB⟩⟩):G:=h
theorem alN (k:Nat) (aZ aQ aV aW aR aT aU aX aY r1 r2 r3 r4 r5:Int) (w:World) (h:alM k aZ aQ aV aW aR aT aU aX aY=some (r1,r2,r3,r4,r5)) :
  Calls prog 113 #[.agg #[iV aZ,iV aQ,iV aV,iV aW,iV aR],.agg #[iV aT,iV aU],.agg #[iV aX,iV aY]] w fun e w'=>e = .returned (.agg #[iV r1,iV r2,iV r3,iV r4,iV r5])/\Below w.heap.size w w':=by
 have qJ:=underlying27
 have mF:=underlying118
 have HB:=jb_ w
 have H:=h;unfold alM at H
 clear h
 obtain⟨⟨bF,bE⟩,A4,H⟩:=qE H
 try dsimp only at H
 replace H:=jE H;rcases H with ⟨dE,dF,H⟩ | ⟨c5,dE,dF,H⟩
 ·obtain⟨rfl,rfl,rfl,rfl,rfl⟩:=oJ5 H
  go_enter func113,ntmps113
  go_wp2_with (first|((with_reducible refine jd 3 ?_);(try (refine aap (by rfl) ?_;dsimp only));refine jY _ 27 ?_;intro bv hg qO aa hb;have eY:=kG hg;replace HB:=kH hb;clear hb hg)|((with_reducible refine jd 4 ?_);(try (refine aap (by rfl) ?_;dsimp only));refine jY _ 118 ?_;intro bz hg qX ae hb;have eZ:=kG hg;have ai:=kN hg aa;have aj:=kM hg aa;replace aa:=kB aa hb;replace HB:=kH hb;clear hb hg)|((with_reducible refine jd 5 ?_);(try (refine aap (by rfl) ?_;dsimp only));refine jY _ 118 ?_;intro bA hg qY ag hb;have fe:=kG hg;have av:=kN hg aa;have au:=kM hg aa;have ax:=kN hg ae;have ay:=kM hg ae;replace aa:=kB aa hb;replace ae:=kB ae hb;replace HB:=kH hb;clear hb hg)|((with_reducible refine jd 6 ?_);(try (refine aap (by rfl) ?_;dsimp only));refine jY _ 27 ?_;intro aS hg q8 af hb;have fo:=kG hg;have aD:=kN hg aa;have aF:=kM hg aa;have az:=kN hg ae;have aA:=kM hg ae;have aB:=kN hg ag;have aC:=kM hg ag;replace aa:=kB aa hb;replace ae:=kB ae hb;replace ag:=kB ag hb;replace HB:=kH hb;clear hb hg;have q9:=ai.out;have rf:=aj.out;have rq:=av.out;have ru:=au.out;have ry:=aD.out;have rz:=aF.out;have rA:=jz5 aa;have rC:=ax.out;have rD:=ay.out;have rE:=az.out;have rF:=aA.out;have rG:=jz2 ae;have rH:=aB.out;have rJ:=aC.out;have rM:=jz2 ag)|((with_reducible refine jc 123 11 ?_);refine jG func123 #[.agg #[iV aZ,iV aQ,iV aV,iV aW,iV aR],.agg #[iV aT,iV aU],.agg #[iV aX,iV aY]] ?_;refine (afX _ _ _ _ _ _ _ _ _ _ _ _ _ (aa1.out (by assumption))).mono ?_;rintro e rO ⟨rfl,hb⟩;refine⟨_,rfl,?_⟩;replace aa:=kB aa hb;replace ae:=kB ae hb;replace ag:=kB ag hb;replace af:=kB af hb;replace HB:=kH hb;clear hb)|((with_reducible refine jd 7 ?_);(try (refine aap (by rfl) ?_;dsimp only));refine jY _ 118 ?_;intro bu hg rP ah hb;have fq:=kG hg;have aG:=kN hg aa;have aH:=kM hg aa;have aK:=kN hg ae;have aL:=kM hg ae;have aO:=kN hg ag;have aP:=kM hg ag;have aI:=kN hg af;have aJ:=kM hg af;replace aa:=kB aa hb;replace ae:=kB ae hb;replace ag:=kB ag hb;replace af:=kB af hb;replace HB:=kH hb;clear hb hg;have rQ:=aH.out;have rR:=aG.out;have rT:=aL.out;have rU:=aK.out;have rV:=aP.out;have rW:=aO.out;have rX:=aJ.out;have rY:=aI.out;have rZ:=jz2 ah;have r9:=jz5 aa;have si:=jz5 af))
  refine bodyPost_ret (results_cell_row rfl _ _ aS 27 #[iV 1,iV aQ,iV 0,iV 0,iV bE] (0,0) _ rfl (qF af) underlying27 rfl (by kernel_rfl)) rfl ?_
  exact⟨qW,qB⟩
 have dR:=aM H
 clear H
 go_enter func113,ntmps113
 go_upto_region 4 with (first|((with_reducible refine jd 3 ?_);(try (refine aap (by rfl) ?_;dsimp only));refine jY _ 27 ?_;intro bv hg sK aa hb;have eY:=kG hg;replace HB:=kH hb;clear hb hg)|((with_reducible refine jd 4 ?_);(try (refine aap (by rfl) ?_;dsimp only));refine jY _ 118 ?_;intro bz hg sM ae hb;have eZ:=kG hg;have ai:=kN hg aa;have aj:=kM hg aa;replace aa:=kB aa hb;replace HB:=kH hb;clear hb hg)|((with_reducible refine jd 5 ?_);(try (refine aap (by rfl) ?_;dsimp only));refine jY _ 118 ?_;intro bA hg sN ag hb;have fe:=kG hg;have av:=kN hg aa;have au:=kM hg aa;have ax:=kN hg ae;have ay:=kM hg ae;replace aa:=kB aa hb;replace ae:=kB ae hb;replace HB:=kH hb;clear hb hg)|((with_reducible refine jd 6 ?_);(try (refine aap (by rfl) ?_;dsimp only));refine jY _ 27 ?_;intro aS hg w32 af hb;have fo:=kG hg;have aD:=kN hg aa;have aF:=kM hg aa;have az:=kN hg ae;have aA:=kM hg ae;have aB:=kN hg ag;have aC:=kM hg ag;replace aa:=kB aa hb;replace ae:=kB ae hb;replace ag:=kB ag hb;replace HB:=kH hb;clear hb hg;have mG:=ai.out;have mH:=aj.out;have mI:=av.out;have mJ:=au.out;have mK:=aD.out;have mO:=aF.out;have dI:=jz5 aa;have mQ:=ax.out;have mR:=ay.out;have mU:=az.out;have mV:=aA.out;have dJ:=jz2 ae;have mW:=aB.out;have mX:=aC.out;have dK:=jz2 ag)|((with_reducible refine jc 123 11 ?_);refine jK func123 (afX k aZ aQ aV aW aR aT aU aX aY bF bE _ A4.out) ?_;intro sO hb;replace aa:=kB aa hb;replace ae:=kB ae hb;replace ag:=kB ag hb;replace af:=kB af hb;replace HB:=kH hb;clear hb)|((with_reducible refine jd 7 ?_);(try (refine aap (by rfl) ?_;dsimp only));refine jY _ 118 ?_;intro bu hg sP ah hb;have fq:=kG hg;have aG:=kN hg aa;have aH:=kM hg aa;have aK:=kN hg ae;have aL:=kM hg ae;have aO:=kN hg ag;have aP:=kM hg ag;have aI:=kN hg af;have aJ:=kM hg af;replace aa:=kB aa hb;replace ae:=kB ae hb;replace ag:=kB ag hb;replace af:=kB af hb;replace HB:=kH hb;clear hb hg;have mY:=aH.out;have mZ:=aG.out;have ng:=aL.out;have ni:=aK.out;have nk:=aP.out;have nu:=aO.out;have ny:=aJ.out;have nz:=aI.out;have dL:=jz2 ah))
 (try simp only [Act.put,List.setIfInBounds_toArray,List.set_cons_zero,List.set_cons_succ])
 go_cut [21] (fun v21 wc=>∃ (kq:Nat) (bL:Bool),v21 = .bool bL/\aa1 (ag1 kq bL aZ aQ aV aW aR aT aU aX aY=some (r1,r2,r3,r4,r5))/\aa1 (kq<=k)/\aa1 (wc.heap[bv]?=some (.cells #[iV aZ,iV aQ,iV aV,iV aW,iV aR] 27 (0,0)))/\aa1 (wc.heap[bz]?=some (.cells #[iV aT,iV aU] 118 (0,0)))/\aa1 (wc.heap[bA]?=some (.cells #[iV aX,iV aY] 118 (0,0)))/\aa1 (wc.heap[aS]?=some (.cells #[iV 0,iV 0,iV 0,iV 0,iV 0] 27 (0,0)))/\aa1 (wc.heap[bu]?=some (.cells #[iV bF,iV bE] 118 (0,0)))/\aa1 (Below w.heap.size w wc))
 case first =>
  have H:=dR.out
  clear dR
  obtain⟨ed,sQ,H⟩:=qE H
  try dsimp only at H
  replace H:=jB H;rcases H with ⟨rfl,H⟩ | ⟨rfl,H⟩
  ·obtain⟨fF,bO⟩:=ky ((([1,2,6,7,8,9]:List Int)):List Int)
   first|replace H:=kz bO H|rw [<- bO.out] at H
   obtain⟨dP,qf,H⟩:=qE H
   try dsimp only at H
   have H':=aM H
   clear H
   have nA:=au.out
   have nC:=av.out
   have nD:=ay.out
   have nE:=ax.out
   have nG:=aB.out
   have nH:=aC.out
   have nI:=aO.out
   have nJ:=aP.out
   have sj:=jz2 ag
   exact apO
  have H':=aM H
  clear H
  have nK:=au.out
  have nL:=av.out
  have nM:=ay.out
  have nN:=ax.out
  have nO:=aB.out
  have nP:=aC.out
  have nQ:=aO.out
  have nR:=aP.out
  have su:=jz2 ag
  exact apO
 clear dR
 try clear c5;try clear dE;try clear dF;try clear dI;try clear dJ;try clear dK;try clear dL
 obtain⟨kq,bL,rfl,HA,dQ,aa,ae,ag,af,ah,HB⟩:=hcut
 cases kq with
 | zero=>exact absurd HA.out (by simp [ag1])
 | succ eU =>
  have H:=HA.out
  clear HA
  simp only [ag1] at H
  replace H:=jB H;rcases H with ⟨rfl,H⟩ | ⟨rfl,H⟩
  ·obtain⟨rfl,rfl,rfl,rfl,rfl⟩:=oJ5 H
   have nS:=ai.out
   have nT:=aj.out
   have nU:=av.out
   have nV:=au.out
   have nW:=aD.out
   have nX:=aF.out
   have nY:=aG.out
   have nZ:=aH.out
   have sw:=jz5 aa
   have oh:=aA.out
   have ol:=az.out
   have oo:=aC.out
   have ou:=aB.out
   have ow:=aI.out
   have oz:=aJ.out
   have sD:=jz5 af
   go_wp2
   refine bodyPost_ret (results_cell_row rfl _ _ aS 27 #[iV 2,iV aQ,iV aV,iV 0,iV 0] (0,0) _ rfl (qF af) underlying27 rfl (by kernel_rfl)) rfl ?_
   exact⟨qW,qB⟩
  have dS:=aM H
  clear H
  go_upto_region 6 with (fail)
  go_cut [35] (fun v35 wc=>∃ (kq:Nat) (bM:Bool),v35 = .bool bM/\aa1 (ag0 kq bM aZ aQ aV aW aR aT aU aX aY=some (r1,r2,r3,r4,r5))/\aa1 (kq<=eU)/\aa1 (wc.heap[bv]?=some (.cells #[iV aZ,iV aQ,iV aV,iV aW,iV aR] 27 (0,0)))/\aa1 (wc.heap[bz]?=some (.cells #[iV aT,iV aU] 118 (0,0)))/\aa1 (wc.heap[bA]?=some (.cells #[iV aX,iV aY] 118 (0,0)))/\aa1 (wc.heap[aS]?=some (.cells #[iV 0,iV 0,iV 0,iV 0,iV 0] 27 (0,0)))/\aa1 (wc.heap[bu]?=some (.cells #[iV bF,iV bE] 118 (0,0)))/\aa1 (Below w.heap.size w wc))
  case first =>
   have H:=dS.out
   clear dS
   obtain⟨dU,sS,H⟩:=qE H
   try dsimp only at H
   replace H:=jB H;rcases H with ⟨rfl,H⟩ | ⟨rfl,H⟩
   ·obtain⟨fJ,bQ⟩:=ky ((([10,11]:List Int)):List Int)
    first|replace H:=kz bQ H|rw [<- bQ.out] at H
    obtain⟨dN,qG,H⟩:=qE H
    try dsimp only at H
    have H':=aM H
    clear H
    have oC:=au.out
    have oD:=av.out
    have oF:=ay.out
    have oG:=ax.out
    have oH:=aB.out
    have oI:=aC.out
    have oK:=aO.out
    have oL:=aP.out
    have sF:=jz2 ag
    exact apM
   have H':=aM H
   clear H
   have oM:=au.out
   have oN:=av.out
   have oO:=ay.out
   have oP:=ax.out
   have fK:=aB.out
   have fM:=aC.out
   have fO:=aO.out
   have fP:=aP.out
   have oQ:=jz2 ag
   exact apM
  clear dS
  try clear c5;try clear dE;try clear dF;try clear dI;try clear dJ;try clear dK;try clear dL
  obtain⟨kq,bM,rfl,HA,eT,aa,ae,ag,af,ah,HB⟩:=hcut
  cases kq with
  | zero=>exact absurd HA.out (by simp [ag0])
  | succ eQ =>
   have H:=HA.out
   clear HA
   simp only [ag0] at H
   replace H:=jB H;rcases H with ⟨rfl,H⟩ | ⟨rfl,H⟩
   ·obtain⟨rfl,rfl,rfl,rfl,rfl⟩:=oJ5 H
    have fQ:=ai.out
    have fT:=aj.out
    have fU:=av.out
    have fV:=au.out
    have fZ:=aD.out
    have gm:=aF.out
    have gp:=aG.out
    have gq:=aH.out
    have oU:=jz5 aa
    have gu:=aA.out
    have gy:=az.out
    have gz:=aC.out
    have gB:=aB.out
    have gD:=aI.out
    have gF:=aJ.out
    have oV:=jz5 af
    go_wp2
    refine bodyPost_ret (results_cell_row rfl _ _ aS 27 #[iV 2,iV aQ,iV aV,iV 0,iV 0] (0,0) _ rfl (qF af) underlying27 rfl (by kernel_rfl)) rfl ?_
    exact⟨qW,qB⟩
   have dG:=aM H
   clear H
   go_upto_region 8 with (fail)
   go_cut [49] (fun v49 wc=>∃ (kq:Nat) (bI:Bool),v49 = .bool bI/\aa1 (afZ kq bI aZ aQ aV aW aR aT aU aX aY=some (r1,r2,r3,r4,r5))/\aa1 (kq<=eQ)/\aa1 (wc.heap[bv]?=some (.cells #[iV aZ,iV aQ,iV aV,iV aW,iV aR] 27 (0,0)))/\aa1 (wc.heap[bz]?=some (.cells #[iV aT,iV aU] 118 (0,0)))/\aa1 (wc.heap[bA]?=some (.cells #[iV aX,iV aY] 118 (0,0)))/\aa1 (wc.heap[aS]?=some (.cells #[iV 0,iV 0,iV 0,iV 0,iV 0] 27 (0,0)))/\aa1 (wc.heap[bu]?=some (.cells #[iV bF,iV bE] 118 (0,0)))/\aa1 (Below w.heap.size w wc))
   case first =>
    have H:=dG.out
    clear dG
    obtain⟨dV,sG,H⟩:=qE H
    try dsimp only at H
    replace H:=jB H;rcases H with ⟨rfl,H⟩ | ⟨rfl,H⟩
    ·obtain⟨fG,bP⟩:=ky ((([1,2,8]:List Int)):List Int)
     first|replace H:=kz bP H|rw [<- bP.out] at H
     obtain⟨dO,fH,H⟩:=qE H
     try dsimp only at H
     have H':=aM H
     clear H
     have gG:=aj.out
     have gH:=ai.out
     have gI:=ax.out
     have gJ:=ay.out
     have gK:=az.out
     have gL:=aA.out
     have gM:=aK.out
     have gN:=aL.out
     have oW:=jz2 ae
     exact apN
    have H':=aM H
    clear H
    have gP:=aj.out
    have gQ:=ai.out
    have gT:=ax.out
    have gU:=ay.out
    have gV:=az.out
    have gW:=aA.out
    have gX:=aK.out
    have gY:=aL.out
    have oZ:=jz2 ae
    exact apN
   clear dG
   try clear c5;try clear dE;try clear dF;try clear dI;try clear dJ;try clear dK;try clear dL
   obtain⟨kq,bI,rfl,HA,eX,aa,ae,ag,af,ah,HB⟩:=hcut
   cases kq with
   | zero=>exact absurd HA.out (by simp [afZ])
   | succ fu =>
    have H:=HA.out
    clear HA
    simp only [afZ] at H
    replace H:=jB H;rcases H with ⟨rfl,H⟩ | ⟨rfl,H⟩
    ·obtain⟨rfl,rfl,rfl,rfl,rfl⟩:=oJ5 H
     have gZ:=ai.out
     have ib:=aj.out
     have ic:=av.out
     have ig:=au.out
     have ik:=aD.out
     have il:=aF.out
     have iq:=aG.out
     have iw:=aH.out
     have o5:=jz5 aa
     have iy:=aA.out
     have iA:=az.out
     have iB:=aC.out
     have iC:=aB.out
     have iD:=aI.out
     have iE:=aJ.out
     have o6:=jz5 af
     go_wp2
     refine bodyPost_ret (results_cell_row rfl _ _ aS 27 #[iV 2,iV aQ,iV aW,iV 0,iV 0] (0,0) _ rfl (qF af) underlying27 rfl (by kernel_rfl)) rfl ?_
     exact⟨qW,qB⟩
    have dH:=aM H
    clear H
    go_upto_region 10 with (fail)
    go_cut [63] (fun v63 wc=>∃ (kq:Nat) (bJ:Bool),v63 = .bool bJ/\aa1 (afY kq bJ aZ aQ aV aW aR aT aU aX aY=some (r1,r2,r3,r4,r5))/\aa1 (kq<=fu)/\aa1 (wc.heap[bv]?=some (.cells #[iV aZ,iV aQ,iV aV,iV aW,iV aR] 27 (0,0)))/\aa1 (wc.heap[bz]?=some (.cells #[iV aT,iV aU] 118 (0,0)))/\aa1 (wc.heap[bA]?=some (.cells #[iV aX,iV aY] 118 (0,0)))/\aa1 (wc.heap[aS]?=some (.cells #[iV 0,iV 0,iV 0,iV 0,iV 0] 27 (0,0)))/\aa1 (wc.heap[bu]?=some (.cells #[iV bF,iV bE] 118 (0,0)))/\aa1 (Below w.heap.size w wc))
    case first =>
     have H:=dH.out
     clear dH
     obtain⟨dW,sH,H⟩:=qE H
     try dsimp only at H
     replace H:=jB H;rcases H with ⟨rfl,H⟩ | ⟨rfl,H⟩
     ·have H':=aM H
      clear H
      have iF:=aj.out
      have iG:=ai.out
      have iH:=ax.out
      have iI:=ay.out
      have iJ:=az.out
      have iK:=aA.out
      have iL:=aK.out
      have iM:=aL.out
      have o7:=jz2 ae
      exact apL
     have H':=aM H
     clear H
     have iN:=aj.out
     have iO:=ai.out
     have iP:=ax.out
     have iQ:=ay.out
     have iR:=az.out
     have iT:=aA.out
     have iU:=aK.out
     have iW:=aL.out
     have o8:=jz2 ae
     exact apL
    clear dH
    try clear c5;try clear dE;try clear dF;try clear dI;try clear dJ;try clear dK;try clear dL
    obtain⟨kq,bJ,rfl,HA,o9,aa,ae,ag,af,ah,HB⟩:=hcut
    cases kq with
    | zero=>exact absurd HA.out (by simp [afY])
    | succ bN =>
     have H:=HA.out
     clear HA
     simp only [afY] at H
     replace H:=jB H;rcases H with ⟨rfl,H⟩ | ⟨rfl,H⟩
     ·obtain⟨rfl,rfl,rfl,rfl,rfl⟩:=oJ5 H
      have iX:=ai.out
      have iY:=aj.out
      have iZ:=av.out
      have ja:=au.out
      have je:=aD.out
      have jf:=aF.out
      have jg:=aG.out
      have jh:=aH.out
      have pg:=jz5 aa
      have ji:=aA.out
      have jk:=az.out
      have jl:=aC.out
      have jm:=aB.out
      have jo:=aI.out
      have jr:=aJ.out
      have pq:=jz5 af
      go_wp2
      refine bodyPost_ret (results_cell_row rfl _ _ aS 27 #[iV 2,iV aQ,iV aW,iV 0,iV 0] (0,0) _ rfl (qF af) underlying27 rfl (by kernel_rfl)) rfl ?_
      exact⟨qW,qB⟩
     obtain⟨dX,sI,H⟩:=qE H
     try dsimp only at H
     replace H:=jB H;rcases H with ⟨rfl,H⟩ | ⟨rfl,H⟩
     ·obtain⟨bS,bH⟩:=ky ((([3,10]:List Int)):List Int)
      first|replace H:=kz bH H|rw [<- bH.out] at H
      obtain⟨dY,fw,H⟩:=qE H
      try dsimp only at H
      replace H:=jB H;rcases H with ⟨rfl,H⟩ | ⟨rfl,H⟩
      ·obtain⟨rfl,rfl,rfl,rfl,rfl⟩:=oJ5 H
       have jv:=aj.out
       have jw:=ai.out
       have jy:=ax.out
       have jA:=ay.out
       have jH:=az.out
       have jN:=aA.out
       have jQ:=aK.out
       have jS:=aL.out
       have pu:=jz2 ae
       go_wp2_with (first|((with_reducible refine jc 114 78 ?_);refine jG func114 #[.agg #[iV aT,iV aU],iV 0] ?_;refine (Sb6.calls _ _ _ _ _ (aa1.out (by assumption))).mono ?_;rintro e bT ⟨rfl,hb⟩;refine⟨_,rfl,?_⟩;replace aa:=kB aa hb;replace ae:=kB ae hb;replace ag:=kB ag hb;replace af:=kB af hb;replace ah:=kB ah hb;replace HB:=kH hb;clear hb;have bU:=av.out;have bV:=au.out;have bW:=aD.out;have bX:=aF.out;have bY:=aG.out;have bZ:=aH.out;have cu:=jz5 aa)|((with_reducible refine jd 86 ?_);(try (refine aap (by rfl) ?_;dsimp only));refine jV (Kd.int .i64) 3 ([3,10]:List Int) [iV 3,iV 10] (aax.one (show Kd.M (Kd.int .i64) _ _ _ 3 [iV 3] from rfl) (aax.one (show Kd.M (Kd.int .i64) _ _ _ 10 [iV 10] from rfl) (aa9 _ _))) ?_;intro jT ak aN hb;(first|rw [<- bH.out] at aN|(simp only [Int.reduceToNat] at aN;rw [<- bH.out] at aN));have bq:=kL aN;replace aa:=kB aa hb;replace ae:=kB ae hb;replace ag:=kB ag hb;replace af:=kB af hb;replace ah:=kB ah hb;replace HB:=kH hb;clear hb aN;obtain⟨bB,bC,bD⟩:=Kd.R_slice bq.out;subst bD)|(go_at_call 124;(with_reducible refine (ace bN aR _ _ bS true _ ?bi ?bn fw.out).mono ?_);(case bi=>exact kJ bq);(case bn=>exact (kp bq));rintro e w' ⟨rfl,⟨nd,rfl⟩⟩;(try (rw [abm ak];generalize hq_:World.drewN ak _=ak;have cz:aa1 (Kd.R (Kd.int .i64) 3 ak w.heap.size (fun _=>True) (.slice bB bS.length bC) bS):=⟨by rw [<- hq_];exact (qR bq)⟩;have cB:aa1 (ak.heap[bv]?=some (.cells #[iV aZ,iV aQ,iV aV,iV aW,iV aR] 27 (0,0))):=⟨by rw [<- hq_];exact (qK aa)⟩;have cK:aa1 (ak.heap[bz]?=some (.cells #[iV aT,iV aU] 118 (0,0))):=⟨by rw [<- hq_];exact (qK ae)⟩;have cO:aa1 (ak.heap[bA]?=some (.cells #[iV aX,iV aY] 118 (0,0))):=⟨by rw [<- hq_];exact (qK ag)⟩;have df:aa1 (ak.heap[aS]?=some (.cells #[iV 0,iV 0,iV 0,iV 0,iV 0] 27 (0,0))):=⟨by rw [<- hq_];exact (qK af)⟩;have dh:aa1 (ak.heap[bu]?=some (.cells #[iV bF,iV bE] 118 (0,0))):=⟨by rw [<- hq_];exact (qK ah)⟩;have di:aa1 (Below w.heap.size w ak):=⟨by rw [<- hq_];exact qB⟩;clear bq aa ae ag af ah HB hq_;have bq:=cz;have aa:=cB;have ae:=cK;have ag:=cO;have af:=df;have ah:=dh;have HB:=di;clear cz cB cK cO df dh di));have dn:=jz5 aa;have dw:=aC.out;have dx:=aB.out;have fA:=aI.out;have fB:=aJ.out;have fC:=jz5 af))
       refine bodyPost_ret (results_cell_row rfl _ _ aS 27 #[iV 1,iV aQ,iV 0,iV 0,iV 0] (0,0) _ rfl (qF af) underlying27 rfl (by kernel_rfl)) rfl ?_
       exact⟨qW,qB⟩
      obtain⟨rfl,rfl,rfl,rfl,rfl⟩:=oJ5 H
      have jW:=aj.out
      have jZ:=ai.out
      have j4:=ax.out
      have j5:=ay.out
      have j6:=az.out
      have kg:=aA.out
      have ko:=aK.out
      have ku:=aL.out
      have pz:=jz2 ae
      go_wp2_with (first|((with_reducible refine jc 114 78 ?_);refine jG func114 #[.agg #[iV aT,iV aU],iV 0] ?_;refine (Sb6.calls _ _ _ _ _ (aa1.out (by assumption))).mono ?_;rintro e bT ⟨rfl,hb⟩;refine⟨_,rfl,?_⟩;replace aa:=kB aa hb;replace ae:=kB ae hb;replace ag:=kB ag hb;replace af:=kB af hb;replace ah:=kB ah hb;replace HB:=kH hb;clear hb;have bU:=av.out;have bV:=au.out;have bW:=aD.out;have bX:=aF.out;have bY:=aG.out;have bZ:=aH.out;have cu:=jz5 aa)|((with_reducible refine jd 86 ?_);(try (refine aap (by rfl) ?_;dsimp only));refine jV (Kd.int .i64) 3 ([3,10]:List Int) [iV 3,iV 10] (aax.one (show Kd.M (Kd.int .i64) _ _ _ 3 [iV 3] from rfl) (aax.one (show Kd.M (Kd.int .i64) _ _ _ 10 [iV 10] from rfl) (aa9 _ _))) ?_;intro jT ak aN hb;(first|rw [<- bH.out] at aN|(simp only [Int.reduceToNat] at aN;rw [<- bH.out] at aN));have bq:=kL aN;replace aa:=kB aa hb;replace ae:=kB ae hb;replace ag:=kB ag hb;replace af:=kB af hb;replace ah:=kB ah hb;replace HB:=kH hb;clear hb aN;obtain⟨bB,bC,bD⟩:=Kd.R_slice bq.out;subst bD)|(go_at_call 124;(with_reducible refine (ace bN aR _ _ bS false _ ?bi ?bn fw.out).mono ?_);(case bi=>exact kJ bq);(case bn=>exact (kp bq));rintro e w' ⟨rfl,⟨nd,rfl⟩⟩;(try (rw [abm ak];generalize hq_:World.drewN ak _=ak;have cz:aa1 (Kd.R (Kd.int .i64) 3 ak w.heap.size (fun _=>True) (.slice bB bS.length bC) bS):=⟨by rw [<- hq_];exact (qR bq)⟩;have cB:aa1 (ak.heap[bv]?=some (.cells #[iV aZ,iV aQ,iV aV,iV aW,iV aR] 27 (0,0))):=⟨by rw [<- hq_];exact (qK aa)⟩;have cK:aa1 (ak.heap[bz]?=some (.cells #[iV aT,iV aU] 118 (0,0))):=⟨by rw [<- hq_];exact (qK ae)⟩;have cO:aa1 (ak.heap[bA]?=some (.cells #[iV aX,iV aY] 118 (0,0))):=⟨by rw [<- hq_];exact (qK ag)⟩;have df:aa1 (ak.heap[aS]?=some (.cells #[iV 0,iV 0,iV 0,iV 0,iV 0] 27 (0,0))):=⟨by rw [<- hq_];exact (qK af)⟩;have dh:aa1 (ak.heap[bu]?=some (.cells #[iV bF,iV bE] 118 (0,0))):=⟨by rw [<- hq_];exact (qK ah)⟩;have di:aa1 (Below w.heap.size w ak):=⟨by rw [<- hq_];exact qB⟩;clear bq aa ae ag af ah HB hq_;have bq:=cz;have aa:=cB;have ae:=cK;have ag:=cO;have af:=df;have ah:=dh;have HB:=di;clear cz cB cK cO df dh di));have dn:=jz5 aa;have dw:=aC.out;have dx:=aB.out;have fA:=aI.out;have fB:=aJ.out;have fC:=jz5 af))
      refine bodyPost_ret (results_cell_row rfl _ _ aS 27 #[iV aZ,iV aQ,iV aV,iV aW,iV aR] (0,0) _ rfl (qF af) underlying27 rfl (by kernel_rfl)) rfl ?_
      exact⟨qW,qB⟩
     obtain⟨dZ,sJ,H⟩:=qE H
     try dsimp only at H
     replace H:=jB H;rcases H with ⟨rfl,H⟩ | ⟨rfl,H⟩
     ·obtain⟨bR,bG⟩:=ky ((([3,10]:List Int)):List Int)
      first|replace H:=kz bG H|rw [<- bG.out] at H
      obtain⟨d9,eH,H⟩:=qE H
      try dsimp only at H
      replace H:=jB H;rcases H with ⟨rfl,H⟩ | ⟨rfl,H⟩
      ·obtain⟨rfl,rfl,rfl,rfl,rfl⟩:=oJ5 H
       have kD:=aj.out
       have kE:=ai.out
       have kF:=ax.out
       have kP:=ay.out
       have kV:=az.out
       have kX:=aA.out
       have kZ:=aK.out
       have lc:=aL.out
       have pE:=jz2 ae
       go_wp2_with (first|((with_reducible refine jc 114 78 ?_);refine jG func114 #[.agg #[iV aT,iV aU],iV 0] ?_;refine (Sb6.calls _ _ _ _ _ (aa1.out (by assumption))).mono ?_;rintro e bT ⟨rfl,hb⟩;refine⟨_,rfl,?_⟩;replace aa:=kB aa hb;replace ae:=kB ae hb;replace ag:=kB ag hb;replace af:=kB af hb;replace ah:=kB ah hb;replace HB:=kH hb;clear hb;have bU:=au.out;have bV:=av.out;have bW:=aB.out;have bX:=aC.out;have bY:=aO.out;have bZ:=aP.out;have cu:=jz2 ag)|(go_at_call 114;(with_reducible refine (Sb6.calls _ _ _ _ _ (aa1.out (by assumption))).mono ?_);rintro e ek ⟨rfl,hb⟩;replace aa:=kB aa hb;replace ae:=kB ae hb;replace ag:=kB ag hb;replace af:=kB af hb;replace ah:=kB ah hb;replace HB:=kH hb;clear hb;have eu:=aD.out;have eB:=aF.out;have eD:=aG.out;have eF:=aH.out;have eG:=jz5 aa)|((with_reducible refine jd 86 ?_);(try (refine aap (by rfl) ?_;dsimp only));refine jV (Kd.int .i64) 3 ([3,10]:List Int) [iV 3,iV 10] (aax.one (show Kd.M (Kd.int .i64) _ _ _ 3 [iV 3] from rfl) (aax.one (show Kd.M (Kd.int .i64) _ _ _ 10 [iV 10] from rfl) (aa9 _ _))) ?_;intro fD ak aN hb;(first|rw [<- bG.out] at aN|(simp only [Int.reduceToNat] at aN;rw [<- bG.out] at aN));have bg:=kL aN;replace aa:=kB aa hb;replace ae:=kB ae hb;replace ag:=kB ag hb;replace af:=kB af hb;replace ah:=kB ah hb;replace HB:=kH hb;clear hb aN;obtain⟨bB,bC,bD⟩:=Kd.R_slice bg.out;subst bD)|(go_at_call 124;(with_reducible refine (ace bN aR _ _ bR true _ ?bi ?bn eH.out).mono ?_);(case bi=>exact kJ bg);(case bn=>exact (kp bg));rintro e w' ⟨rfl,⟨nd,rfl⟩⟩;(try (rw [abm ak];generalize hq_:World.drewN ak _=ak;have cz:aa1 (Kd.R (Kd.int .i64) 3 ak w.heap.size (fun _=>True) (.slice bB bR.length bC) bR):=⟨by rw [<- hq_];exact (qR bg)⟩;have cB:aa1 (ak.heap[bv]?=some (.cells #[iV aZ,iV aQ,iV aV,iV aW,iV aR] 27 (0,0))):=⟨by rw [<- hq_];exact (qK aa)⟩;have cK:aa1 (ak.heap[bz]?=some (.cells #[iV aT,iV aU] 118 (0,0))):=⟨by rw [<- hq_];exact (qK ae)⟩;have cO:aa1 (ak.heap[bA]?=some (.cells #[iV aX,iV aY] 118 (0,0))):=⟨by rw [<- hq_];exact (qK ag)⟩;have df:aa1 (ak.heap[aS]?=some (.cells #[iV 0,iV 0,iV 0,iV 0,iV 0] 27 (0,0))):=⟨by rw [<- hq_];exact (qK af)⟩;have dh:aa1 (ak.heap[bu]?=some (.cells #[iV bF,iV bE] 118 (0,0))):=⟨by rw [<- hq_];exact (qK ah)⟩;have di:aa1 (Below w.heap.size w ak):=⟨by rw [<- hq_];exact qB⟩;clear bg aa ae ag af ah HB hq_;have bg:=cz;have aa:=cB;have ae:=cK;have ag:=cO;have af:=df;have ah:=dh;have HB:=di;clear cz cB cK cO df dh di));have dn:=jz5 aa;have dw:=aI.out;have dx:=aJ.out;have eO:=jz5 af))
       refine bodyPost_ret (results_cell_row rfl _ _ aS 27 #[iV 1,iV aQ,iV 0,iV 0,iV 0] (0,0) _ rfl (qF af) underlying27 rfl (by kernel_rfl)) rfl ?_
       exact⟨qW,qB⟩
      obtain⟨rfl,rfl,rfl,rfl,rfl⟩:=oJ5 H
      have lg:=aj.out
      have lh:=ai.out
      have ll:=ax.out
      have lu:=ay.out
      have lv:=az.out
      have lw:=aA.out
      have lC:=aK.out
      have lD:=aL.out
      have pF:=jz2 ae
      exact apP
     obtain⟨rfl,rfl,rfl,rfl,rfl⟩:=oJ5 H
     have lF:=aj.out
     have lG:=ai.out
     have lH:=ax.out
     have lI:=ay.out
     have lJ:=az.out
     have lK:=aA.out
     have lL:=aK.out
     have lM:=aL.out
     have pG:=jz2 ae
     exact apP
def alA (k:Nat) (aI aJ ak ax aK:Int) (l1:List ab3) (a2:Int):Option (Int × Int × Int × Int × Int):=if 0 < (l1.length:Int) then (if ((aa8 l1 0).f0)=0 then (some (aI,aJ,ak,ax,aK)) else (if aI=2 then (if 0<=ak then (if ak < (l1.length:Int) then (if ((aa8 l1 ak).f0)=1 then (some (1,aJ,0,0,(aa8 l1 ak).f1)) else (some (aI,aJ,ak,ax,aK))) else (none)) else (none)) else (if aI=3 then (if 0<=ak then (if ak < (l1.length:Int) then (if 0<=ax then (if ax < (l1.length:Int) then ((alM k aI aJ ak ax aK ((aa8 l1 ak).f0) ((aa8 l1 ak).f1) ((aa8 l1 ax).f0) ((aa8 l1 ax).f1)).bind fun bq=>(some (bq.1,bq.2.1,bq.2.2.1,bq.2.2.2.1,bq.2.2.2.2))) else (none)) else (none)) else (none)) else (none)) else (if aI=5 then (if 0<=ak then (if ak < (l1.length:Int) then ((agn ((aa8 l1 ak).f0) ((aa8 l1 ak).f1) 0).bind fun bS=>(if bS=true then (some (4,0,0,0,aK)) else (if ((aa8 l1 ak).f0)=1 then (some (4,0,0,0,wrap64 (a2+1))) else (some (aI,aJ,ak,ax,aK))))) else (none)) else (none)) else (some (aI,aJ,ak,ax,aK)))))) else (none)
def anM:Bool × List (List Nat × List Nat):=(true,[([],[]),([0],[0]),([],[]),([],[]),([3],[3]),([2,4],[2,4]),([5],[5]),([6],[6]),([1,7],[1,7]),([8,0,1,2,3,4,5,6,7,8],[8])])
def apF:List Nat:=[0,1,0,0,8,28,60,124,255,511]
theorem an1:acz .any (opsOf f98 6)=anM:=by kernel_rfl
theorem alD:ab9 anM.2 apF=true:=by kernel_rfl
def anL:Bool × List (List Nat × List Nat):=(true,[([],[]),([],[]),([],[]),([2],[2]),([1,3],[1,3]),([4],[4]),([],[]),([],[]),([7],[7]),([6,8],[6,8]),([9],[9]),([0,5,10],[0,5,10]),([11,11,0,1,2,3,4,5,6,7,8,9,10,11],[11])])
def apE:List Nat:=[0,0,0,4,14,30,0,0,128,448,960,2047,4095]
theorem an0:acz .any (opsOf f98 8)=anL:=by kernel_rfl
theorem alC:ab9 anL.2 apE=true:=by kernel_rfl
theorem apC {G:Prop} (h:G:=by
  go_enter func98,ntmps98
  go_wp2_with (first|((with_reducible refine jd 3 ?_);refine jY _ 27 ?_;intro aA hg bD af hb;have bi:=kG hg;replace HB:=kH hb;clear hb hg)|((with_reducible refine jd 6 ?_);refine jY _ 27 ?_;intro ae hg bu aj hb;have au:=kG hg;have aa:=kN hg af;have ai:=kM hg af;replace af:=kB af hb;replace HB:=kH hb;clear hb hg;have ay:0<=(0:Int):=(by omega);have az:0 < (l1.length:Int):=qD;obtain⟨av,aS,ag,ah⟩:=aaW HR1.out 0 ay az;cases aS;have bn:(0 < l1.length)=True:=eq_true (by omega);(try rw [show ((0:Int)).toNat=0 from rfl] at ag);(try rw [show 0*2=0 from rfl] at ag);(try rw [Addr.add_zero'] at ag);(try rw [show ((0:Int)).toNat=0 from rfl] at ah);(try rw [show 0*2=0 from rfl] at ah);(try rw [Addr.add_zero'] at ah);replace ag:=kx HB ag;replace ah:=kx HB ah;replace ay:=eq_true ay;replace az:=eq_true az;have bE:=aa.out;have bF:=ai.out;have bG:=jz5 af;have dZ:=jz5 aj))
  refine bodyPost_ret (results_cell_row rfl _ _ ae 27 #[iV aI,iV aJ,iV ak,iV ax,iV aK] (0,0) _ rfl (qF aj) underlying27 rfl (by kernel_rfl)) rfl ?_
  exact⟨qW,qB⟩):G:=h
theorem alB (k:Nat) (aI aJ ak ax aK:Int) (A1:Option Addr) (c1:Nat) (l1:List ab3) (a2 r1 r2 r3 r4 r5:Int) (w:World) (hr1:Kd.C abk w A1 l1.length l1) (hc1:l1.length<=c1) (h:alA k aI aJ ak ax aK l1 a2=some (r1,r2,r3,r4,r5)) :
  Calls prog 98 #[.agg #[iV aI,iV aJ,iV ak,iV ax,iV aK],.slice A1 l1.length c1,iV a2] w fun e w'=>e = .returned (.agg #[iV r1,iV r2,iV r3,iV r4,iV r5])/\Below w.heap.size w w':=by
 have fC:=underlying27
 have eD:=underlying118
 have HR1:=aM hr1
 have fU:=aM hc1
 clear hr1 hc1
 have HB:=jb_ w
 have H:=h;unfold alA at H
 clear h
 replace H:=jU H;obtain⟨c4,H⟩:=H
 have fD:=decide_eq_true c4
 have fE:decide (0 < l1.length)=true:=decide_eq_true (by omega)
 clear c4
 replace H:=jE H;rcases H with ⟨d9,ed,H⟩ | ⟨c5,d9,ed,H⟩
 ·obtain⟨rfl,rfl,rfl,rfl,rfl⟩:=oJ5 H
  exact apC
 replace H:=jE H;rcases H with ⟨bT,bU,H⟩ | ⟨c11,bT,bU,H⟩
 ·replace H:=jI H;obtain⟨eF,H⟩:=H
  replace H:=jI H;obtain⟨eG,H⟩:=H
  replace H:=jE H;rcases H with ⟨bV,bW,H⟩ | ⟨c14,bV,bW,H⟩
  ·obtain⟨rfl,rfl,rfl,rfl,rfl⟩:=oJ5 H
   go_enter func98,ntmps98
   try go_wp2_with (first|((with_reducible refine jd 3 ?_);refine jY _ 27 ?_;intro aA hg bD af hb;have bi:=kG hg;replace HB:=kH hb;clear hb hg)|((with_reducible refine jd 6 ?_);refine jY _ 27 ?_;intro ae hg bu aj hb;have au:=kG hg;have aa:=kN hg af;have ai:=kM hg af;replace af:=kB af hb;replace HB:=kH hb;clear hb hg;have ay:0<=(0:Int):=(by omega);have az:0 < (l1.length:Int):=qD;obtain⟨av,aS,ag,ah⟩:=aaW HR1.out 0 ay az;cases aS;have bn:(0 < l1.length)=True:=eq_true (by omega);(try rw [show ((0:Int)).toNat=0 from rfl] at ag);(try rw [show 0*2=0 from rfl] at ag);(try rw [Addr.add_zero'] at ag);(try rw [show ((0:Int)).toNat=0 from rfl] at ah);(try rw [show 0*2=0 from rfl] at ah);(try rw [Addr.add_zero'] at ah);replace ag:=kx HB ag;replace ah:=kx HB ah;replace ay:=eq_true ay;replace az:=eq_true az;have bE:=aa.out;have bF:=ai.out;have bG:=jz5 af;have bz:0<=(ak:Int):=qD;have bA:ak < (l1.length:Int):=qD;obtain⟨bH,bK,aO,aP⟩:=aaW HR1.out ak bz bA;obtain rfl:av=bH:=(by injection bK);replace aO:=kx HB aO;replace aP:=kx HB aP;replace bz:=eq_true bz;replace bA:=eq_true bA))
   replace af:=aM (ab2 af.out)
   replace aj:=aM (ab2 aj.out)
   replace HB:=aM (aaf HB.out)
   have bL:0<=(ak:Int):=qD
   have bM:ak < (l1.length:Int):=qD
   obtain⟨bX,ek,aT,aU⟩:=aaW HR1.out ak bL bM
   have aL:=aU
   have aN:=aT
   obtain rfl:av=bX:=(by injection ek)
   replace aT:=kx HB aT
   replace aU:=kx HB aU
   replace bL:=eq_true bL
   replace bM:=eq_true bM
   refine abl (n:=10) (S:=fun w'=>w'.cell? ⟨aA,0,none⟩=some (iV aI)/\w'.cell? ⟨aA,1,none⟩=some (iV aJ)/\w'.cell? ⟨aA,2,none⟩=some (iV ak)/\w'.cell? ⟨aA,3,none⟩=some (iV ax)/\w'.cell? ⟨aA,4,none⟩=some (iV aK)/\w'.cell? (av.add ((ak).toNat*2))=some (iV ((aa8 l1 ak).f0))/\w'.cell? ⟨(av.add ((ak).toNat*2)).block,(av.add ((ak).toNat*2)).off+1,none⟩=some (iV ((aa8 l1 ak).f1))) (ds:=[]) (jb 10 0) (by kernel_rfl) rfl rfl ⟨(aa3 af.out 0).trans rfl,(aa3 af.out 1).trans rfl,(aa3 af.out 2).trans rfl,(aa3 af.out 3).trans rfl,(aa3 af.out 4).trans rfl,(kx HB aN),(kx HB aL)⟩ (fun hHeld=>?_);refine aaL an1 alD (fun HT_ HW_=>?_)
   generalize bu.drew=bY at af aj HB aT aU hHeld ⊢
   refine jp 0 24 (jb 10 1) ?_
   refine jp 2 26 (jb 10 5) ?_
   refine jp 3 27 (jb 10 13) ?_
   refine jt 1 25 (jb 10 15) ?_
   refine jt 4 28 (jb 10 31) ?_
   refine jp 5 29 (jb 10 63) ?_
   refine jp 6 30 (jb 10 127) ?_
   refine jt 7 31 (jb 10 255) ?_
   refine jp 8 32 (jb 10 511) ?_
   refine acK (i:=9) (N:=none) (jb 10 1023) rfl rfl (aaR HT_.out (by kernel_rfl)) (by decide) (fun K hK=>?_)
   have fF:bY.cell? ⟨ae,0,none⟩=some (iV 0):=(aa3 aj.out 0).trans rfl
   have eH:=aa7 aj.out 0
   have dE:=aa.out
   have dF:=ai.out
   have fG:bY.cell? ⟨ae,1,none⟩=some (iV 0):=(aa3 aj.out 1).trans rfl
   have eO:=aa7 aj.out 1
   have dG:=aa.out
   have dH:=ai.out
   have fH:bY.cell? ⟨ae,2,none⟩=some (iV 0):=(aa3 aj.out 2).trans rfl
   have eP:=aa7 aj.out 2
   have dI:=aa.out
   have dJ:=ai.out
   have fI:bY.cell? ⟨ae,3,none⟩=some (iV 0):=(aa3 aj.out 3).trans rfl
   have eQ:=aa7 aj.out 3
   have dK:=aa.out
   have dL:=ai.out
   have fJ:bY.cell? ⟨ae,4,none⟩=some (iV 0):=(aa3 aj.out 4).trans rfl
   have eT:=aa7 aj.out 4
   have dM:=aa.out
   have dN:=ai.out
   refine ah3 (w1:=?_) (by rfl) rfl ?_ ?_
   rotate_left
   ·go_simp
    rfl
   refine hK.out _ _ ⟨((cell_far (p:=⟨ae,_,none⟩) aa.out _).trans (((cell_far (p:=⟨ae,_,none⟩) aa.out _).trans (((cell_far (p:=⟨ae,_,none⟩) aa.out _).trans (((cell_far (p:=⟨ae,_,none⟩) aa.out _).trans (((cell_far (p:=⟨ae,_,none⟩) aa.out _).trans (hHeld.1)))))))))),((cell_far (p:=⟨ae,_,none⟩) aa.out _).trans (((cell_far (p:=⟨ae,_,none⟩) aa.out _).trans (((cell_far (p:=⟨ae,_,none⟩) aa.out _).trans (((cell_far (p:=⟨ae,_,none⟩) aa.out _).trans (((cell_far (p:=⟨ae,_,none⟩) aa.out _).trans (hHeld.2.1)))))))))),((cell_far (p:=⟨ae,_,none⟩) aa.out _).trans (((cell_far (p:=⟨ae,_,none⟩) aa.out _).trans (((cell_far (p:=⟨ae,_,none⟩) aa.out _).trans (((cell_far (p:=⟨ae,_,none⟩) aa.out _).trans (((cell_far (p:=⟨ae,_,none⟩) aa.out _).trans (hHeld.2.2.1)))))))))),((cell_far (p:=⟨ae,_,none⟩) aa.out _).trans (((cell_far (p:=⟨ae,_,none⟩) aa.out _).trans (((cell_far (p:=⟨ae,_,none⟩) aa.out _).trans (((cell_far (p:=⟨ae,_,none⟩) aa.out _).trans (((cell_far (p:=⟨ae,_,none⟩) aa.out _).trans (hHeld.2.2.2.1)))))))))),((cell_far (p:=⟨ae,_,none⟩) aa.out _).trans (((cell_far (p:=⟨ae,_,none⟩) aa.out _).trans (((cell_far (p:=⟨ae,_,none⟩) aa.out _).trans (((cell_far (p:=⟨ae,_,none⟩) aa.out _).trans (((cell_far (p:=⟨ae,_,none⟩) aa.out _).trans (hHeld.2.2.2.2.1)))))))))),((cell_far (p:=⟨ae,_,none⟩) (kf (kn aN au)) _).trans (((cell_far (p:=⟨ae,_,none⟩) (kf (kn aN au)) _).trans (((cell_far (p:=⟨ae,_,none⟩) (kf (kn aN au)) _).trans (((cell_far (p:=⟨ae,_,none⟩) (kf (kn aN au)) _).trans (((cell_far (p:=⟨ae,_,none⟩) (kf (kn aN au)) _).trans (hHeld.2.2.2.2.2.1)))))))))),((cell_far (p:=⟨ae,_,none⟩) (kf (kn aL au)) _).trans (((cell_far (p:=⟨ae,_,none⟩) (kf (kn aL au)) _).trans (((cell_far (p:=⟨ae,_,none⟩) (kf (kn aL au)) _).trans (((cell_far (p:=⟨ae,_,none⟩) (kf (kn aL au)) _).trans (((cell_far (p:=⟨ae,_,none⟩) (kf (kn aL au)) _).trans (hHeld.2.2.2.2.2.2))))))))))⟩ (fun hHeld=>?_)
   clear hK K
   refine abI (ab5 HT_.out (by kernel_rfl)) ?_
   try go_wp2
   refine bodyPost_ret (results_cell_row rfl _ _ ae 27 #[iV 1,iV aJ,iV 0,iV 0,iV ((aa8 l1 ak).f1)] (0,0) _ rfl (qF aj) underlying27 rfl (by kernel_rfl)) rfl ?_
   exact⟨qW,qB⟩
  obtain⟨rfl,rfl,rfl,rfl,rfl⟩:=oJ5 H
  go_enter func98,ntmps98
  go_wp2_with (first|((with_reducible refine jd 3 ?_);refine jY _ 27 ?_;intro aA hg bD af hb;have bi:=kG hg;replace HB:=kH hb;clear hb hg)|((with_reducible refine jd 6 ?_);refine jY _ 27 ?_;intro ae hg bu aj hb;have au:=kG hg;have aa:=kN hg af;have ai:=kM hg af;replace af:=kB af hb;replace HB:=kH hb;clear hb hg;have ay:0<=(0:Int):=(by omega);have az:0 < (l1.length:Int):=qD;obtain⟨av,aS,ag,ah⟩:=aaW HR1.out 0 ay az;cases aS;have bn:(0 < l1.length)=True:=eq_true (by omega);(try rw [show ((0:Int)).toNat=0 from rfl] at ag);(try rw [show 0*2=0 from rfl] at ag);(try rw [Addr.add_zero'] at ag);(try rw [show ((0:Int)).toNat=0 from rfl] at ah);(try rw [show 0*2=0 from rfl] at ah);(try rw [Addr.add_zero'] at ah);replace ag:=kx HB ag;replace ah:=kx HB ah;replace ay:=eq_true ay;replace az:=eq_true az;have bE:=aa.out;have bF:=ai.out;have bG:=jz5 af;have bz:0<=(ak:Int):=qD;have bA:ak < (l1.length:Int):=qD;obtain⟨bH,bK,aO,aP⟩:=aaW HR1.out ak bz bA;obtain rfl:av=bH:=(by injection bK);replace aO:=kx HB aO;replace aP:=kx HB aP;replace bz:=eq_true bz;replace bA:=eq_true bA;have dZ:=jz5 aj))
  refine bodyPost_ret (results_cell_row rfl _ _ ae 27 #[iV aI,iV aJ,iV ak,iV ax,iV aK] (0,0) _ rfl (qF aj) underlying27 rfl (by kernel_rfl)) rfl ?_
  exact⟨qW,qB⟩
 replace H:=jE H;rcases H with ⟨bZ,cu,H⟩ | ⟨fV,bZ,cu,H⟩
 ·replace H:=jI H;obtain⟨eU,H⟩:=H
  replace H:=jI H;obtain⟨eX,H⟩:=H
  replace H:=jI H;obtain⟨eY,H⟩:=H
  replace H:=jI H;obtain⟨eZ,H⟩:=H
  obtain⟨⟨cz,cB,cK,cO,df⟩,fK,H⟩:=qE H
  try dsimp only at H
  obtain⟨rfl,rfl,rfl,rfl,rfl⟩:=oJ5 H
  go_enter func98,ntmps98
  try go_wp2_with (first|((with_reducible refine jd 3 ?_);refine jY _ 27 ?_;intro aA hg bD af hb;have bi:=kG hg;replace HB:=kH hb;clear hb hg)|((with_reducible refine jd 6 ?_);refine jY _ 27 ?_;intro ae hg bu aj hb;have au:=kG hg;have aa:=kN hg af;have ai:=kM hg af;replace af:=kB af hb;replace HB:=kH hb;clear hb hg;have ay:0<=(0:Int):=(by omega);have az:0 < (l1.length:Int):=qD;obtain⟨av,aS,ag,ah⟩:=aaW HR1.out 0 ay az;cases aS;have bn:(0 < l1.length)=True:=eq_true (by omega);(try rw [show ((0:Int)).toNat=0 from rfl] at ag);(try rw [show 0*2=0 from rfl] at ag);(try rw [Addr.add_zero'] at ag);(try rw [show ((0:Int)).toNat=0 from rfl] at ah);(try rw [show 0*2=0 from rfl] at ah);(try rw [Addr.add_zero'] at ah);replace ag:=kx HB ag;replace ah:=kx HB ah;replace ay:=eq_true ay;replace az:=eq_true az;have bE:=aa.out;have bF:=ai.out;have bG:=jz5 af))
  replace af:=aM (ab2 af.out)
  replace aj:=aM (ab2 aj.out)
  replace HB:=aM (aaf HB.out)
  have bN:0<=(ak:Int):=qD
  have bO:ak < (l1.length:Int):=qD
  obtain⟨dh,eu,aV,aW⟩:=aaW HR1.out ak bN bO
  have aD:=aW
  have aF:=aV
  obtain rfl:av=dh:=(by injection eu)
  replace aV:=kx HB aV
  replace aW:=kx HB aW
  replace bN:=eq_true bN
  replace bO:=eq_true bO
  have bP:0<=(ax:Int):=qD
  have bQ:ax < (l1.length:Int):=qD
  obtain⟨di,eB,aX,aY⟩:=aaW HR1.out ax bP bQ
  have aG:=aY
  have aH:=aX
  obtain rfl:av=di:=(by injection eB)
  replace aX:=kx HB aX
  replace aY:=kx HB aY
  replace bP:=eq_true bP
  replace bQ:=eq_true bQ
  refine abl (n:=13) (S:=fun w'=>w'.cell? ⟨aA,0,none⟩=some (iV aI)/\w'.cell? ⟨aA,1,none⟩=some (iV aJ)/\w'.cell? ⟨aA,2,none⟩=some (iV ak)/\w'.cell? ⟨aA,3,none⟩=some (iV ax)/\w'.cell? ⟨aA,4,none⟩=some (iV aK)/\w'.cell? (av.add ((ak).toNat*2))=some (iV ((aa8 l1 ak).f0))/\w'.cell? ⟨(av.add ((ak).toNat*2)).block,(av.add ((ak).toNat*2)).off+1,none⟩=some (iV ((aa8 l1 ak).f1))/\w'.cell? (av.add ((ax).toNat*2))=some (iV ((aa8 l1 ax).f0))/\w'.cell? ⟨(av.add ((ax).toNat*2)).block,(av.add ((ax).toNat*2)).off+1,none⟩=some (iV ((aa8 l1 ax).f1))) (ds:=[]) (jb 13 0) (by kernel_rfl) rfl rfl ⟨(aa3 af.out 0).trans rfl,(aa3 af.out 1).trans rfl,(aa3 af.out 2).trans rfl,(aa3 af.out 3).trans rfl,(aa3 af.out 4).trans rfl,(kx HB aF),(kx HB aD),(kx HB aH),(kx HB aG)⟩ (fun hHeld=>?_);refine aaL an0 alC (fun HT_ HW_=>?_)
  generalize bu.drew=fZ at af aj HB aV aW aX aY hHeld ⊢
  refine jp 1 36 (jb 13 2) ?_
  refine jp 2 37 (jb 13 6) ?_
  refine jp 6 41 (jb 13 70) ?_
  refine jp 7 42 (jb 13 198) ?_
  refine jt 0 35 (jb 13 199) ?_
  refine jt 3 38 (jb 13 207) ?_
  refine jp 4 39 (jb 13 223) ?_
  refine jt 5 40 (jb 13 255) ?_
  refine jt 8 43 (jb 13 511) ?_
  refine jp 9 44 (jb 13 1023) ?_
  refine jt 10 45 (jb 13 2047) ?_
  refine acK (i:=11) (N:=some 46) (jb 13 4095) rfl rfl (aaR HT_.out (by kernel_rfl)) (by decide) (fun K hK=>?_)
  refine abn func113 (by kernel_rfl) rfl #[.agg #[iV aI,iV aJ,iV ak,iV ax,iV aK],.agg #[iV ((aa8 l1 ak).f0),iV ((aa8 l1 ak).f1)],.agg #[iV ((aa8 l1 ax).f0),iV ((aa8 l1 ax).f1)]] (by rfl) rfl rfl qM ?_
  with_reducible refine (alN k aI aJ ak ax aK ((aa8 l1 ak).f0) ((aa8 l1 ak).f1) ((aa8 l1 ax).f0) ((aa8 l1 ax).f1) cz cB cK cO df _ fK.out).mono ?_
  rintro e dn ⟨rfl,hb⟩
  refine⟨_,rfl,?_⟩
  replace af:=kB af hb
  replace aj:=kB aj hb
  replace HB:=kH hb
  (try clear hb)
  (try clear hb2)
  (try clear hk)
  (try clear hi)
  refine hK.out _ _ ⟨(aa3 af.out 0).trans rfl,(aa3 af.out 1).trans rfl,(aa3 af.out 2).trans rfl,(aa3 af.out 3).trans rfl,(aa3 af.out 4).trans rfl,(kx HB aF),(kx HB aD),(kx HB aH),(kx HB aG)⟩ (fun hHeld=>?_)
  clear hK K
  refine aaA (a':=?_) ?_ ?_
  rotate_left
  ·show Act.put _ (some 46) _=_
   simp only [Act.put,List.setIfInBounds_toArray,List.set_cons_zero,List.set_cons_succ,aas,aaw]
   rfl
  refine acK (i:=12) (N:=none) (jb 13 8191) rfl rfl (aaR HT_.out (by kernel_rfl)) (by decide) (fun K hK=>?_)
  have fM:dn.cell? ⟨ae,0,none⟩=some (iV 0):=(aa3 aj.out 0).trans rfl
  have fe:=aa7 aj.out 0
  have dO:=aa.out
  have dP:=ai.out
  have fO:dn.cell? ⟨ae,1,none⟩=some (iV 0):=(aa3 aj.out 1).trans rfl
  have fo:=aa7 aj.out 1
  have dQ:=aa.out
  have dR:=ai.out
  have fP:dn.cell? ⟨ae,2,none⟩=some (iV 0):=(aa3 aj.out 2).trans rfl
  have fq:=aa7 aj.out 2
  have dS:=aa.out
  have dU:=ai.out
  have fQ:dn.cell? ⟨ae,3,none⟩=some (iV 0):=(aa3 aj.out 3).trans rfl
  have fu:=aa7 aj.out 3
  have dV:=aa.out
  have dW:=ai.out
  have fT:dn.cell? ⟨ae,4,none⟩=some (iV 0):=(aa3 aj.out 4).trans rfl
  have fw:=aa7 aj.out 4
  have dX:=aa.out
  have dY:=ai.out
  refine ah3 (w1:=?_) (by rfl) rfl ?_ ?_
  rotate_left
  ·go_simp
   rfl
  refine hK.out _ _ ⟨((cell_far (p:=⟨ae,_,none⟩) aa.out _).trans (((cell_far (p:=⟨ae,_,none⟩) aa.out _).trans (((cell_far (p:=⟨ae,_,none⟩) aa.out _).trans (((cell_far (p:=⟨ae,_,none⟩) aa.out _).trans (((cell_far (p:=⟨ae,_,none⟩) aa.out _).trans (hHeld.1)))))))))),((cell_far (p:=⟨ae,_,none⟩) aa.out _).trans (((cell_far (p:=⟨ae,_,none⟩) aa.out _).trans (((cell_far (p:=⟨ae,_,none⟩) aa.out _).trans (((cell_far (p:=⟨ae,_,none⟩) aa.out _).trans (((cell_far (p:=⟨ae,_,none⟩) aa.out _).trans (hHeld.2.1)))))))))),((cell_far (p:=⟨ae,_,none⟩) aa.out _).trans (((cell_far (p:=⟨ae,_,none⟩) aa.out _).trans (((cell_far (p:=⟨ae,_,none⟩) aa.out _).trans (((cell_far (p:=⟨ae,_,none⟩) aa.out _).trans (((cell_far (p:=⟨ae,_,none⟩) aa.out _).trans (hHeld.2.2.1)))))))))),((cell_far (p:=⟨ae,_,none⟩) aa.out _).trans (((cell_far (p:=⟨ae,_,none⟩) aa.out _).trans (((cell_far (p:=⟨ae,_,none⟩) aa.out _).trans (((cell_far (p:=⟨ae,_,none⟩) aa.out _).trans (((cell_far (p:=⟨ae,_,none⟩) aa.out _).trans (hHeld.2.2.2.1)))))))))),((cell_far (p:=⟨ae,_,none⟩) aa.out _).trans (((cell_far (p:=⟨ae,_,none⟩) aa.out _).trans (((cell_far (p:=⟨ae,_,none⟩) aa.out _).trans (((cell_far (p:=⟨ae,_,none⟩) aa.out _).trans (((cell_far (p:=⟨ae,_,none⟩) aa.out _).trans (hHeld.2.2.2.2.1)))))))))),((cell_far (p:=⟨ae,_,none⟩) (kf (kn aF au)) _).trans (((cell_far (p:=⟨ae,_,none⟩) (kf (kn aF au)) _).trans (((cell_far (p:=⟨ae,_,none⟩) (kf (kn aF au)) _).trans (((cell_far (p:=⟨ae,_,none⟩) (kf (kn aF au)) _).trans (((cell_far (p:=⟨ae,_,none⟩) (kf (kn aF au)) _).trans (hHeld.2.2.2.2.2.1)))))))))),((cell_far (p:=⟨ae,_,none⟩) (kf (kn aD au)) _).trans (((cell_far (p:=⟨ae,_,none⟩) (kf (kn aD au)) _).trans (((cell_far (p:=⟨ae,_,none⟩) (kf (kn aD au)) _).trans (((cell_far (p:=⟨ae,_,none⟩) (kf (kn aD au)) _).trans (((cell_far (p:=⟨ae,_,none⟩) (kf (kn aD au)) _).trans (hHeld.2.2.2.2.2.2.1)))))))))),((cell_far (p:=⟨ae,_,none⟩) (kf (kn aH au)) _).trans (((cell_far (p:=⟨ae,_,none⟩) (kf (kn aH au)) _).trans (((cell_far (p:=⟨ae,_,none⟩) (kf (kn aH au)) _).trans (((cell_far (p:=⟨ae,_,none⟩) (kf (kn aH au)) _).trans (((cell_far (p:=⟨ae,_,none⟩) (kf (kn aH au)) _).trans (hHeld.2.2.2.2.2.2.2.1)))))))))),((cell_far (p:=⟨ae,_,none⟩) (kf (kn aG au)) _).trans (((cell_far (p:=⟨ae,_,none⟩) (kf (kn aG au)) _).trans (((cell_far (p:=⟨ae,_,none⟩) (kf (kn aG au)) _).trans (((cell_far (p:=⟨ae,_,none⟩) (kf (kn aG au)) _).trans (((cell_far (p:=⟨ae,_,none⟩) (kf (kn aG au)) _).trans (hHeld.2.2.2.2.2.2.2.2))))))))))⟩ (fun hHeld=>?_)
  clear hK K
  refine abI (ab5 HT_.out (by kernel_rfl)) ?_
  try go_wp2
  refine bodyPost_ret (results_cell_row rfl _ _ ae 27 #[iV cz,iV cB,iV cK,iV cO,iV df] (0,0) _ rfl (qF aj) underlying27 rfl (by kernel_rfl)) rfl ?_
  exact⟨qW,qB⟩
 replace H:=jE H;rcases H with ⟨dw,dx,H⟩ | ⟨gm,dw,dx,H⟩
 ·replace H:=jI H;obtain⟨fA,H⟩:=H
  replace H:=jI H;obtain⟨fB,H⟩:=H
  obtain⟨bS,gp,H⟩:=qE H
  try dsimp only at H
  replace H:=jB H;rcases H with ⟨rfl,H⟩ | ⟨rfl,H⟩
  ·obtain⟨rfl,rfl,rfl,rfl,rfl⟩:=oJ5 H
   go_enter func98,ntmps98
   go_wp2_with (first|((with_reducible refine jd 3 ?_);refine jY _ 27 ?_;intro aA hg bD af hb;have bi:=kG hg;replace HB:=kH hb;clear hb hg)|((with_reducible refine jd 6 ?_);refine jY _ 27 ?_;intro ae hg bu aj hb;have au:=kG hg;have aa:=kN hg af;have ai:=kM hg af;replace af:=kB af hb;replace HB:=kH hb;clear hb hg;have ay:0<=(0:Int):=(by omega);have az:0 < (l1.length:Int):=qD;obtain⟨av,aS,ag,ah⟩:=aaW HR1.out 0 ay az;cases aS;have bn:(0 < l1.length)=True:=eq_true (by omega);(try rw [show ((0:Int)).toNat=0 from rfl] at ag);(try rw [show 0*2=0 from rfl] at ag);(try rw [Addr.add_zero'] at ag);(try rw [show ((0:Int)).toNat=0 from rfl] at ah);(try rw [show 0*2=0 from rfl] at ah);(try rw [Addr.add_zero'] at ah);replace ag:=kx HB ag;replace ah:=kx HB ah;replace ay:=eq_true ay;replace az:=eq_true az;have bE:=aa.out;have bF:=ai.out;have bG:=jz5 af;have aZ:0<=(ak:Int):=qD;have bg:ak < (l1.length:Int):=qD;obtain⟨bv,bI,aB,aC⟩:=aaW HR1.out ak aZ bg;obtain rfl:av=bv:=(by injection bI);replace aB:=kx HB aB;replace aC:=kx HB aC;replace aZ:=eq_true aZ;replace bg:=eq_true bg)|((with_reducible refine jc 114 54 ?_);refine jG func114 #[.agg #[iV ((aa8 l1 ak).f0),iV ((aa8 l1 ak).f1)],iV 0] ?_;refine (Sb6.calls _ _ _ _ _ (aa1.out (by assumption))).mono ?_;rintro e dz ⟨rfl,hb⟩;refine⟨_,rfl,?_⟩;replace af:=kB af hb;replace aj:=kB aj hb;replace HB:=kH hb;clear hb;have dA:=jz5 af;have dB:=jz5 aj))
   refine bodyPost_ret (results_cell_row rfl _ _ ae 27 #[iV 4,iV 0,iV 0,iV 0,iV aK] (0,0) _ rfl (qF aj) underlying27 rfl (by kernel_rfl)) rfl ?_
   exact⟨qW,qB⟩
  replace H:=jE H;rcases H with ⟨dC,dD,H⟩ | ⟨c59,dC,dD,H⟩
  ·obtain⟨rfl,rfl,rfl,rfl,rfl⟩:=oJ5 H
   go_enter func98,ntmps98
   go_wp2_with (first|((with_reducible refine jd 3 ?_);refine jY _ 27 ?_;intro aA hg bD af hb;have bi:=kG hg;replace HB:=kH hb;clear hb hg)|((with_reducible refine jd 6 ?_);refine jY _ 27 ?_;intro ae hg bu aj hb;have au:=kG hg;have aa:=kN hg af;have ai:=kM hg af;replace af:=kB af hb;replace HB:=kH hb;clear hb hg;have ay:0<=(0:Int):=(by omega);have az:0 < (l1.length:Int):=qD;obtain⟨av,aS,ag,ah⟩:=aaW HR1.out 0 ay az;cases aS;have bn:(0 < l1.length)=True:=eq_true (by omega);(try rw [show ((0:Int)).toNat=0 from rfl] at ag);(try rw [show 0*2=0 from rfl] at ag);(try rw [Addr.add_zero'] at ag);(try rw [show ((0:Int)).toNat=0 from rfl] at ah);(try rw [show 0*2=0 from rfl] at ah);(try rw [Addr.add_zero'] at ah);replace ag:=kx HB ag;replace ah:=kx HB ah;replace ay:=eq_true ay;replace az:=eq_true az;have bE:=aa.out;have bF:=ai.out;have bG:=jz5 af;have aZ:0<=(ak:Int):=qD;have bg:ak < (l1.length:Int):=qD;obtain⟨bv,bI,aB,aC⟩:=aaW HR1.out ak aZ bg;obtain rfl:av=bv:=(by injection bI);replace aB:=kx HB aB;replace aC:=kx HB aC;replace aZ:=eq_true aZ;replace bg:=eq_true bg)|((with_reducible refine jc 114 54 ?_);refine jG func114 #[.agg #[iV ((aa8 l1 ak).f0),iV ((aa8 l1 ak).f1)],iV 0] ?_;refine (Sb6.calls _ _ _ _ _ (aa1.out (by assumption))).mono ?_;rintro e dz ⟨rfl,hb⟩;refine⟨_,rfl,?_⟩;replace af:=kB af hb;replace aj:=kB aj hb;replace HB:=kH hb;clear hb;have dA:=jz5 af;have bB:0<=(ak:Int):=qD;have bC:ak < (l1.length:Int):=qD;obtain⟨bJ,bR,aQ,aR⟩:=aaW HR1.out ak bB bC;obtain rfl:av=bJ:=(by injection bR);replace aQ:=kx HB aQ;replace aR:=kx HB aR;replace bB:=eq_true bB;replace bC:=eq_true bC;have dB:=jz5 aj))
   refine bodyPost_ret (results_cell_row rfl _ _ ae 27 #[iV 4,iV 0,iV 0,iV 0,iV (wrap64 (a2+1))] (0,0) _ rfl (qF aj) underlying27 rfl (by kernel_rfl)) rfl ?_
   exact⟨qW,qB⟩
  obtain⟨rfl,rfl,rfl,rfl,rfl⟩:=oJ5 H
  go_enter func98,ntmps98
  go_wp2_with (first|((with_reducible refine jd 3 ?_);refine jY _ 27 ?_;intro aA hg bD af hb;have bi:=kG hg;replace HB:=kH hb;clear hb hg)|((with_reducible refine jd 6 ?_);refine jY _ 27 ?_;intro ae hg bu aj hb;have au:=kG hg;have aa:=kN hg af;have ai:=kM hg af;replace af:=kB af hb;replace HB:=kH hb;clear hb hg;have ay:0<=(0:Int):=(by omega);have az:0 < (l1.length:Int):=qD;obtain⟨av,aS,ag,ah⟩:=aaW HR1.out 0 ay az;cases aS;have bn:(0 < l1.length)=True:=eq_true (by omega);(try rw [show ((0:Int)).toNat=0 from rfl] at ag);(try rw [show 0*2=0 from rfl] at ag);(try rw [Addr.add_zero'] at ag);(try rw [show ((0:Int)).toNat=0 from rfl] at ah);(try rw [show 0*2=0 from rfl] at ah);(try rw [Addr.add_zero'] at ah);replace ag:=kx HB ag;replace ah:=kx HB ah;replace ay:=eq_true ay;replace az:=eq_true az;have bE:=aa.out;have bF:=ai.out;have bG:=jz5 af;have aZ:0<=(ak:Int):=qD;have bg:ak < (l1.length:Int):=qD;obtain⟨bv,bI,aB,aC⟩:=aaW HR1.out ak aZ bg;obtain rfl:av=bv:=(by injection bI);replace aB:=kx HB aB;replace aC:=kx HB aC;replace aZ:=eq_true aZ;replace bg:=eq_true bg)|((with_reducible refine jc 114 54 ?_);refine jG func114 #[.agg #[iV ((aa8 l1 ak).f0),iV ((aa8 l1 ak).f1)],iV 0] ?_;refine (Sb6.calls _ _ _ _ _ (aa1.out (by assumption))).mono ?_;rintro e dz ⟨rfl,hb⟩;refine⟨_,rfl,?_⟩;replace af:=kB af hb;replace aj:=kB aj hb;replace HB:=kH hb;clear hb;have dA:=jz5 af;have bB:0<=(ak:Int):=qD;have bC:ak < (l1.length:Int):=qD;obtain⟨bJ,bR,aQ,aR⟩:=aaW HR1.out ak bB bC;obtain rfl:av=bJ:=(by injection bR);replace aQ:=kx HB aQ;replace aR:=kx HB aR;replace bB:=eq_true bB;replace bC:=eq_true bC;have dB:=jz5 aj))
  refine bodyPost_ret (results_cell_row rfl _ _ ae 27 #[iV aI,iV aJ,iV ak,iV ax,iV aK] (0,0) _ rfl (qF aj) underlying27 rfl (by kernel_rfl)) rfl ?_
  exact⟨qW,qB⟩
 obtain⟨rfl,rfl,rfl,rfl,rfl⟩:=oJ5 H
 exact apC
end Go.Proofs.YtebpplallecogaaGreat.M
namespace Go.Proofs.YtebpplallecogaaGreat.M
open Go.Proofs.Tryz Go.RowKit Go.Proofs.YtebpplallecogaaGreatW.PrintWords Go.Proofs.YtebpplallecogaaGreatW.PrintLast Go.Proofs.YtebpplallecogaaGreatW.PrintMore Kd
attribute [local go_sem] aal aaj aaz aay aae aad aak aai
def af4:Nat->List S27->List S27->List (List ab3)->Int->Option ((List S27) × Bool)
 | 0,_,_,_,_=>none
 | k+1,x0,x4,x5,x6=>if x6 < (x0.length:Int) then (if 0<=x6 then (if x6 < (x5.length:Int) then ((alA k ((aa0 x0 x6).f0) ((aa0 x0 x6).f1) ((aa0 x0 x6).f2) ((aa0 x0 x6).f3) ((aa0 x0 x6).f4) (aaC x5 x6) x6).bind fun aJ=>(if x4.length < 3518437208883 then (af4 k x0 (x4 ++ [(⟨aJ.1,aJ.2.1,aJ.2.2.1,aJ.2.2.2.1,aJ.2.2.2.2⟩:S27)]) x5 (wrap64 (x6+1))) else (none))) else (none)) else (none)) else (some (x4,true))
def Sao.f (k:Nat) (l0:List S27):Option ((List S27) × Bool):=(some (([]:List S27):List S27)).bind fun bA=>((Sag.f k l0).bind fun bI=>(if bI=true then ((San.f k l0).bind fun aC=>(af4 k l0 bA aC 0)) else (some (bA,false))))
def anS:Bool × List (List Nat × List Nat):=(true,[([],[]),([],[]),([],[]),([1,2],[1,2]),([3],[3]),([],[]),([],[]),([5,6],[5,6]),([7],[7]),([],[]),([4,8,9],[4,8,9]),([10],[10]),([0,11,10],[0,11]),([12,12,0,1,2,3,4,5,6,7,8,9,10,11,12],[0,12])])
def apZ:List Nat:=[0,0,0,6,14,0,0,96,224,0,1022,2046,4095,8191]
theorem an8:acz .any (opsOf f83 8)=anS:=by kernel_rfl
theorem alZ:ab9 anS.2 apZ=true:=by kernel_rfl
theorem Sao.calls (k:Nat) (A0:Option Addr) (c0:Nat) (l0 r1:List S27) (r2:Bool) (w:World) (hr0:Kd.C k27 w A0 l0.length l0) (hc0:l0.length<=c0) (h:Sao.f k l0=some (r1,r2)) :
  Calls prog 83 #[.slice A0 l0.length c0] w fun e w'=>∃ bZ:Value,e = .returned (.tuple #[bZ,.bool r2])/\Kd.R k27 27 w' w.heap.size (fun _=>True) bZ r1/\Below w.heap.size w w':=by
 have di:=underlying27
 have bP:=aM hr0
 have bR:=aM hc0
 clear hr0 hc0
 have HB:=jb_ w
 have H:=h;unfold Sao.f at H
 clear h
 obtain⟨bA,aG⟩:=ky ([]:List S27)
 replace H:=kv aG H
 obtain⟨bI,A2,H⟩:=qE H
 try dsimp only at H
 replace H:=jB H;rcases H with ⟨rfl,H⟩ | ⟨rfl,H⟩
 ·obtain⟨aC,A4,H⟩:=qE H
  try dsimp only at H
  have H':=aM H
  clear H
  go_enter func83,ntmps83
  go_wp2_with (first|((with_reducible refine jd 7 ?_);refine jV k27 27 ([]:List S27) [] (aa9 _ _) ?_;intro bS w5 bJ hb;replace bJ:=kr aG bJ;have ae:=kL bJ;replace HB:=kH hb;clear hb bJ)|((with_reducible refine jc 36 9 ?_);refine jK func36 (Sag.calls k _ _ l0 true _ (kb bP HB) bR.out A2.out) ?_;intro w7 hb;replace ae:=kR ae hb;replace HB:=kH hb;clear hb)|((with_reducible refine jc 97 13 ?_);refine jM func97 (San.calls k _ _ l0 aC _ (kb bP HB) bR.out A4.out) ?_;rintro bT w8 ⟨ho0,hb⟩;have bK:=aM (S_lower ho0 (aa4 qB));replace ae:=kR ae hb;replace HB:=kH hb;clear hb;(try clear ho0)))
  go_loopg [4,6] k (fun kq v4 v6 w'=>∃ (aW:List S27) (aa:Int),v6 = iV aa/\aa1 (af4 kq l0 aW aC aa=some (r1,r2))/\aa1 (kq<=k)/\aa1 (Kd.R k27 27 w' w.heap.size (fun _=>True) v4 aW)/\aa1 (Kd.S (Kd.slice 118 abk) 104 w' w.heap.size (fun _=>True) bT aC)/\aa1 (Below w.heap.size w w'))
  case atStart=>exact⟨(bA),(0),qZ,H',⟨Nat.le_refl _⟩,⟨qR ae⟩,⟨qS bK⟩,⟨qB⟩⟩
  clear H'
  obtain⟨aW,aa,rfl,HA,cu,aD,ai,HB⟩:=hrel
  rcases gk with _|k1
  ·exact absurd HA.out (by simp [af4])
  have H:=HA.out
  clear HA
  simp only [af4] at H
  replace H:=jD H;rcases H with ⟨bU,H⟩ | ⟨bU,H⟩
  ·replace H:=jI H;obtain⟨cz,H⟩:=H
   replace H:=jI H;obtain⟨cB,H⟩:=H
   obtain⟨⟨aX,aY,aZ,bg,bi⟩,dn,H⟩:=qE H
   try dsimp only at H
   replace H:=jL H;obtain⟨bL,H⟩:=H
   obtain⟨bV,bn⟩:=ky ((aW ++ [(⟨aX,aY,aZ,bg,bi⟩:S27)]):List S27)
   replace H:=kv bn H
   have H':=aM H
   clear H
   try go_wp2
   replace aD:=aM (R_drew aD.out)
   replace ai:=aM (S_drew ai.out)
   replace HB:=aM (aaf HB.out)
   have bE:0<=(aa:Int):=qD
   have bF:aa < (l0.length:Int):=qD
   obtain⟨af,bW,aj,ak,au,av,ax⟩:=aaG bP.out aa bE bF
   have aK:=ax
   have aN:=av
   have aQ:=au
   have aR:=ak
   have aT:=aj
   cases bW
   replace aj:=kx HB aj
   replace ak:=kx HB ak
   replace au:=kx HB au
   replace av:=kx HB av
   replace ax:=kx HB ax
   replace bE:=eq_true bE
   replace bF:=eq_true bF
   obtain⟨dw,dx,bM⟩:=S_slice ai.out
   (first|subst bM|(injection bM with cK dz cO;have dA:=cK.symm;have dB:=cO.symm;clear cK dz cO;subst dA;subst dB))
   have bB:0<=(aa:Int):=qD
   have bC:aa < (aC.length:Int):=qD
   obtain⟨bN,bq,bu,bX,aH,aU,aV⟩:=ahj (S_reads' ai.out).2.2 aa bB bC
   cases bX
   obtain⟨df,bG,bH,bv⟩:=S_get ai.out [] aa bB (by first|exact bC|exact qD|(have e_:=(S_reads' ai.out).1;omega))
   obtain⟨bQ,rfl,aI⟩:=bH
   have ag:=bv 0 _ rfl
   rw [Nat.add_zero,show ((Kd.slice 118 abk)).sz=1 from rfl,Nat.mul_one] at ag
   replace ag:=Option.some.inj (ag.symm.trans aH)
   rw [ag] at aI
   have ah:=aM (show Kd.R abk 118 _ _ _ _ (aaC aC aa) from aI)
   clear ag aI
   clear bv bG
   have ay:=aM aV
   have bD:=aM aU
   clear aV aU
   replace bB:=eq_true bB
   replace bC:=eq_true bC
   refine abl (n:=14) (S:=fun w'=>w'.cell? (af.add ((aa).toNat*5))=some (iV ((aa0 l0 aa).f0))/\w'.cell? ⟨(af.add ((aa).toNat*5)).block,(af.add ((aa).toNat*5)).off+1,none⟩=some (iV ((aa0 l0 aa).f1))/\w'.cell? ⟨(af.add ((aa).toNat*5)).block,(af.add ((aa).toNat*5)).off+2,none⟩=some (iV ((aa0 l0 aa).f2))/\w'.cell? ⟨(af.add ((aa).toNat*5)).block,(af.add ((aa).toNat*5)).off+3,none⟩=some (iV ((aa0 l0 aa).f3))/\w'.cell? ⟨(af.add ((aa).toNat*5)).block,(af.add ((aa).toNat*5)).off+4,none⟩=some (iV ((aa0 l0 aa).f4))/\w'.cell? (bN.add (aa).toNat)=some (.slice bq (aaC aC aa).length bu)) (ds:=[11,12]) (jb 14 0) (by kernel_rfl) rfl rfl ⟨(kx HB aT),(kx HB aR),(kx HB aQ),(kx HB aN),(kx HB aK),aH⟩ (fun hHeld=>?_);refine aaL an8 alZ (fun HT_ HW_=>?_)
   generalize wr.drew=dD at aD ai HB ah ay aj ak au av ax aH hHeld ⊢
   refine jp 0 20 (jb 14 1) ?_
   refine jp 1 21 (jb 14 3) ?_
   refine jp 2 22 (jb 14 7) ?_
   refine jp 3 23 (jb 14 15) ?_
   refine jp 5 25 (jb 14 47) ?_
   refine jp 6 26 (jb 14 111) ?_
   refine jp 7 27 (jb 14 239) ?_
   refine jp 9 29 (jb 14 751) ?_
   refine jt 4 24 (jb 14 767) ?_
   refine jt 8 28 (jb 14 1023) ?_
   refine acK (i:=10) (N:=some 30) (jb 14 2047) rfl rfl (aaR HT_.out (by kernel_rfl)) (by decide) (fun K hK=>?_)
   refine abn func98 (by kernel_rfl) rfl #[.agg #[iV ((aa0 l0 aa).f0),iV ((aa0 l0 aa).f1),iV ((aa0 l0 aa).f2),iV ((aa0 l0 aa).f3),iV ((aa0 l0 aa).f4)],.slice bq (aaC aC aa).length bu,iV aa] (by rfl) rfl rfl qM ?_
   with_reducible refine (alB k1 ((aa0 l0 aa).f0) ((aa0 l0 aa).f1) ((aa0 l0 aa).f2) ((aa0 l0 aa).f3) ((aa0 l0 aa).f4) _ _ (aaC aC aa) aa aX aY aZ bg bi _ ?az ?aA dn.out).mono ?_
   (case az=>repeat (first|exact (kC ay.out)|(with_reducible refine C_alloc ?_ _)|(with_reducible refine C_drewN ?_ _)|(with_reducible refine C_drew ?_)))
   (case aA=>exact bD.out)
   rintro e w16 ⟨rfl,hb⟩
   have bY:=(hb.cell (World.block_lt_of_cell? _ _ (hHeld.2.2.2.2.2))).trans (hHeld.2.2.2.2.2)
   refine⟨_,rfl,?_⟩
   replace aD:=kR aD hb
   replace ai:=kS ai hb
   replace ah:=kR ah hb
   replace ay:=kQ ay hb
   replace HB:=kH hb
   (try clear hb)
   (try clear hb2)
   (try clear hk)
   (try clear hi)
   refine hK.out _ _ ⟨(kx HB aT),(kx HB aR),(kx HB aQ),(kx HB aN),(kx HB aK),bY⟩ (fun hHeld=>?_)
   clear hK K
   refine aaA (a':=?_) ?_ ?_
   rotate_left
   ·show Act.put _ (some 30) _=_
    simp only [Act.put,List.setIfInBounds_toArray,List.set_cons_zero,List.set_cons_succ,aas,aaw]
    rfl
   refine aij (i:=11) (N:=some 31) (jb 14 4095) rfl rfl (aaR HT_.out (by kernel_rfl)) (by decide) (fun K hK=>?_)
   refine anj (w1:=?_) (v:=?_) (by rfl) rfl ?_ ?_
   rotate_left 2
   ·go_simp
    constructor
    ·rfl
    rfl
   refine hK.out _ _ ?_
   clear hK K
   refine aaA (a':=?_) ?_ ?_
   rotate_left
   ·show Act.put _ (some 31) _=_
    simp only [Act.put,List.setIfInBounds_toArray,List.set_cons_zero,List.set_cons_succ,aas,aaw]
    rfl
   refine aij (i:=12) (N:=some 32) (jb 14 8191) rfl rfl (aaR HT_.out (by kernel_rfl)) (by decide) (fun K hK=>?_)
   refine R_append_step k27 (w0:=w) w.heap.size (by rfl) (.tmp 20) (.tmp 31) 23 27 (.agg #[(iV 0),(iV 0),(iV 0),(iV 0),(iV 0)]) 40 rfl underlying23 aba rfl (by decide) (by omega) u4 aW (⟨aX,aY,aZ,bg,bi⟩:S27) [iV aX,iV aY,iV aZ,iV bg,iV bi] (fun _=>True) (fun _=>False) rfl rfl ?aP (fun _ hk=>hk.elim) ?aF ?aO ?aB ?aS ?aL ?_
   (case aP=>exact aaV _ _ _ (⟨aX,aY,aZ,bg,bi⟩:S27))
   (case aB=>exact qB)
   (case aF=>exact (fun _ _=>trivial))
   (case aO=>exact (qR aD))
   (case aS=>exact (aa4 qB))
   (case aL=>have:=bL.out;omega)
   intro dC dE ho hb hg hat
   rw [<- bn.out] at ho
   have bO:=aM ho
   replace ai:=aM (S_over' (qS ai) (R_typed (qR aD)) (by decide) hg)
   replace ah:=aM (R_over' (qR ah) (R_typed (qR aD)) (by decide) hg)
   replace HB:=aM hb
   clear aD
   clear ho hb hg hat
   refine hK.out _ _ ?_
   clear hK K
   refine aaA (a':=?_) ?_ ?_
   rotate_left
   ·show Act.put _ (some 32) _=_
    simp only [Act.put,List.setIfInBounds_toArray,List.set_cons_zero,List.set_cons_succ,aas,aaw]
    rfl
   refine jp 13 4 (jb 14 16383) ?_
   refine abI (ab5 HT_.out (by kernel_rfl)) ?_
   try go_wp2
   go_roundg k1
   case measure=>have:=cu.out;omega
   exact⟨(bV),(wrap64 (aa+1)),qZ,H',⟨by have:=cu.out;omega⟩,⟨qR bO⟩,⟨qS ai⟩,⟨qB⟩⟩
  obtain⟨rfl,rfl⟩:=oJ2 H
  go_wp2
  go_ret2
  exact⟨_,qW,qR aD,qB⟩
 obtain⟨rfl,rfl⟩:=oJ2 H
 go_enter func83,ntmps83
 go_wp2_with (first|((with_reducible refine jd 7 ?_);refine jV k27 27 ([]:List S27) [] (aa9 _ _) ?_;intro bS dF bz hb;replace bz:=kr aG bz;have ae:=kL bz;replace HB:=kH hb;clear hb bz)|((with_reducible refine jc 36 9 ?_);refine jK func36 (Sag.calls k _ _ l0 false _ (kb bP HB) bR.out A2.out) ?_;intro dG hb;replace ae:=kR ae hb;replace HB:=kH hb;clear hb))
 go_ret2
 exact⟨_,qW,qR ae,qB⟩
end Go.Proofs.YtebpplallecogaaGreat.M
namespace Go.Proofs.YtebpplallecogaaGreat.M
open Go.Proofs.Tryz Go.RowKit Go.Proofs.YtebpplallecogaaGreatW.PrintWords Go.Proofs.YtebpplallecogaaGreatW.PrintLast Go.Proofs.YtebpplallecogaaGreatW.PrintMore
attribute [local go_sem] aal aaj aaz aay aae aad aak aai
def aeg:Nat->List Int->Int->Option (List Int)
 | 0,_,_=>none
 | k+1,x1,x2=>if x2 < 12 then (if x1.length < 17592186044416 then (aeg k (x1 ++ [x2]) (wrap64 (x2+1))) else (none)) else (some x1)
def amW (k:Nat)  : Option (List Int):=aeg k (([]:List Int)) 0
theorem ahU (k:Nat)  (r:List Int) (w:World) (h:amW k  = some r) :
  Calls prog 115 #[] w fun e w'=>∃ ax:Value,e = .returned (ax)/\Kd.R (Kd.int .i64) 3 w' w.heap.size (fun _=>True) ax r/\Below w.heap.size w w':=by
 have HB:=jb_ w
 have H:(aeg k (([]:List Int)) 0)=some r:=h
 clear h
 obtain⟨ak,aa⟩:=ky ([]:List Int)
 replace H:=kv aa H
 have H':=aM H
 clear H
 go_enter func115,ntmps115
 go_wp2_with (first|((with_reducible refine jd 3 ?_);refine jV (Kd.int .i64) 3 ([]:List Int) [] (aa9 _ _) ?_;intro aA w1 ho2 hb;replace ho2:=kr aa ho2;have ai:=kL ho2;replace HB:=kH hb;clear hb ho2))
 go_loopg [1,2] k (fun kq v1 v2 w'=>∃ (af:List Int) (ae:Int),v2 = iV ae/\aa1 (aeg kq af ae=some r)/\aa1 (kq<=k)/\aa1 (Kd.R (Kd.int .i64) 3 w' w.heap.size (fun _=>True) v1 af)/\aa1 (Below w.heap.size w w'))
 case atStart=>exact⟨(ak),(0),qZ,H',⟨Nat.le_refl _⟩,⟨qR ai⟩,⟨qB⟩⟩
 clear H'
 obtain⟨af,ae,rfl,HA,ay,ah,HB⟩:=hrel
 rcases gk with _|k1
 ·exact absurd HA.out (by simp [aeg])
 have H:=HA.out
 clear HA
 simp only [aeg] at H
 replace H:=jD H;rcases H with ⟨au,H⟩ | ⟨au,H⟩
 ·replace H:=jL H;obtain⟨av,H⟩:=H
  obtain⟨aC,ag⟩:=ky ((af ++ [ae]):List Int)
  replace H:=kv ag H
  have H':=aM H
  clear H
  go_wp2_with (first|((with_reducible refine aaa (b:=.append) (xs:=#[.tmp 8,.tmp 10]) rfl ?_);at_builtin;refine Kd.R_append (Kd.int .i64) (w0:=w) w.heap.size rfl (.tmp 8) (.tmp 10) 43 3 (iV 0) 8 rfl underlying43 akD rfl (by decide) (by omega) u1 af ae [iV ae] (fun _=>True) (fun _=>False) rfl rfl ?aP (fun _ hk=>hk.elim) ?aF ?aO ?aB ?aS ?aL ?_;(case aP=>exact rfl);(case aB=>exact qB);(case aF=>exact (fun _ _=>trivial));(case aO=>exact (qR ah));(case aS=>exact (aa4 qB));(case aL=>have:=av.out;omega);intro aD aG ho hb hg hat;rw [<- ag.out] at ho;have aj:=aM ho;replace HB:=aM hb;clear ah;clear ho hb hg hat))
  go_roundg k1
  case measure=>have:=ay.out;omega
  exact⟨_,_,qZ,H',⟨by have:=ay.out;omega⟩,⟨qR aj⟩,⟨qB⟩⟩
 obtain rfl:=oJ H
 go_wp2
 go_ret
 exact⟨_,qW,qR ah,qB⟩
end Go.Proofs.YtebpplallecogaaGreat.M
namespace Go.Proofs.YtebpplallecogaaGreat.M
open Go.Proofs.Tryz Go.RowKit Go.Proofs.YtebpplallecogaaGreatW.PrintWords Go.Proofs.YtebpplallecogaaGreatW.PrintLast Go.Proofs.YtebpplallecogaaGreatW.PrintMore Kd
attribute [local go_sem] aal aaj aaz aay aae aad aak aai
def aei:Nat->List Int->Int->Int->Int->Int->Int->Int->Int->Option (List Int)
 | 0,_,_,_,_,_,_,_,_=>none
 | k+1,x5,x6,x7,xa,xb,xc,xd,xe=>if x7 < 12 then (if 0<=x7 then (if x7 < (x5.length:Int) then (if (rd x5 x7)=x6 then (aei k (x5.set (x7:Int).toNat x7) x6 (wrap64 (x7+1)) xa xb xc xd xe) else (aei k x5 x6 (wrap64 (x7+1)) xa xb xc xd xe)) else (none)) else (none)) else (if 0<=x6 then (if x6 < (x5.length:Int) then ((some (x5.set (x6:Int).toNat x6:List Int)).bind fun aK=>(if xa=2 then (some (aK.set (x6:Int).toNat xc)) else (some aK))) else (none)) else (none))
def ali (k:Nat) (ai aj ag ak au:Int) (l1:List Int):Option (List Int):=(some (([]:List Int):List Int)).bind fun aN=>(if aN.length+l1.length < 17592186044416 then ((some (aN ++ l1:List Int)).bind fun aX=>((aiB ai aj ag ak au).bind fun ae=>(if ae < 0 then (some aX) else (aei k aX ae 0 ai aj ag ak au)))) else (none))
theorem alj (k:Nat) (ai aj ag ak au:Int) (A1:Option Addr) (c1:Nat) (l1 r:List Int) (w:World) (hr1:Kd.C (Kd.int .i64) w A1 l1.length l1) (hc1:l1.length<=c1) (h:ali k ai aj ag ak au l1=some r) :
  Calls prog 125 #[.agg #[iV ai,iV aj,iV ag,iV ak,iV au],.slice A1 l1.length c1] w fun e w'=>∃ dF:Value,e = .returned (dF)/\Kd.R (Kd.int .i64) 3 w' w.heap.size (fun _=>True) dF r/\Below w.heap.size w w':=by
 have dN:=underlying27
 have HR1:=aM hr1
 have dY:=aM hc1
 clear hr1 hc1
 have HB:=jb_ w
 have H:=h;unfold ali at H
 clear h
 obtain⟨aN,aC⟩:=ky ([]:List Int)
 replace H:=kv aC H
 replace H:=jL H;obtain⟨bE,H⟩:=H
 obtain⟨aX,aH⟩:=ky ((aN ++ l1):List Int)
 replace H:=kv aH H
 obtain⟨ae,A4,H⟩:=qE H
 try dsimp only at H
 replace H:=jD H;rcases H with ⟨bF,H⟩ | ⟨bF,H⟩
 ·obtain rfl:=oJ H
  go_enter func125,ntmps125
  go_wp2_with (first|((with_reducible refine jd 2 ?_);refine jY _ 27 ?_;intro ax hg w6 aa hb;have bG:=kG hg;replace HB:=kH hb;clear hb hg)|((with_reducible refine jd 8 ?_);refine jV (Kd.int .i64) 3 ([]:List Int) [] (aa9 _ _) ?_;intro bg w7 bH hb;replace bH:=kr aC bH;have ay:=kL bH;replace aa:=kB aa hb;replace HB:=kH hb;clear hb bH)|((with_reducible refine aaa (b:=.append) (xs:=#[.tmp 8,.tmp 9]) rfl ?_);at_builtin;refine R_append_rows (Kd.int .i64) (w0:=w) w.heap.size rfl (.tmp 8) (.tmp 9) 43 3 (iV 0) 8 rfl underlying43 akD rfl (by decide) (by omega) bg aN l1 _ _ _ (fun _=>True) (fun _=>False) rfl rfl ?aO ?aR (fun _ _ h=>h) (fun _ h=>h.elim) ?aF ?aB ?aS ?aL ?_;(case aR=>exact kb HR1 HB);(case aB=>exact qB);(case aF=>exact (fun _ _=>trivial));(case aO=>exact (qR ay));(case aS=>exact (aa4 qB));(case aL=>have:=bE.out;omega);intro bI w9 ho hb hg hat;rw [<- aH.out] at ho;have az:=aM ho;replace aa:=aM (aaq (g:=ax) (qK aa) hg (R_ne ay.out aa.out (by decide)));replace HB:=aM hb;clear ay;clear ho hb hg hat;have dO:=jz5 aa)|((with_reducible refine jc 68 12 ?_);refine jK func68 (Sau.calls ai aj ag ak au ae _ A4.out) ?_;intro dZ hb;replace az:=kR az hb;replace aa:=kB aa hb;replace HB:=kH hb;clear hb))
  go_ret
  exact⟨_,qW,qR az,qB⟩
 have H':=aM H
 clear H
 go_enter func125,ntmps125
 go_wp2_with (first|((with_reducible refine jd 2 ?_);refine jY _ 27 ?_;intro ax hg d9 aa hb;have bG:=kG hg;replace HB:=kH hb;clear hb hg)|((with_reducible refine jd 8 ?_);refine jV (Kd.int .i64) 3 ([]:List Int) [] (aa9 _ _) ?_;intro bg ed aP hb;replace aP:=kr aC aP;have ay:=kL aP;replace aa:=kB aa hb;replace HB:=kH hb;clear hb aP)|((with_reducible refine aaa (b:=.append) (xs:=#[.tmp 8,.tmp 9]) rfl ?_);at_builtin;refine R_append_rows (Kd.int .i64) (w0:=w) w.heap.size rfl (.tmp 8) (.tmp 9) 43 3 (iV 0) 8 rfl underlying43 akD rfl (by decide) (by omega) bg aN l1 _ _ _ (fun _=>True) (fun _=>False) rfl rfl ?aO ?aR (fun _ _ h=>h) (fun _ h=>h.elim) ?aF ?aB ?aS ?aL ?_;(case aR=>exact kb HR1 HB);(case aB=>exact qB);(case aF=>exact (fun _ _=>trivial));(case aO=>exact (qR ay));(case aS=>exact (aa4 qB));(case aL=>have:=bE.out;omega);intro bI ek ho hb hg hat;rw [<- aH.out] at ho;have az:=aM ho;replace aa:=aM (aaq (g:=ax) (qK aa) hg (R_ne ay.out aa.out (by decide)));replace HB:=aM hb;clear ay;clear ho hb hg hat;have bV:=jz5 aa)|((with_reducible refine jc 68 12 ?_);refine jK func68 (Sau.calls ai aj ag ak au ae _ A4.out) ?_;intro eu hb;replace az:=kR az hb;replace aa:=kB aa hb;replace HB:=kH hb;clear hb))
 go_loopg [7] k (fun kq v7 w'=>∃ (av:List Int) (ah:Int),v7 = iV ah/\aa1 (aei kq av ae ah ai aj ag ak au=some r)/\aa1 (kq<=k)/\aa1 (Kd.R (Kd.int .i64) 3 w' w.heap.size (fun _=>True) bI av)/\aa1 (w'.heap[ax]?=some (.cells #[iV ai,iV aj,iV ag,iV ak,iV au] 27 (0,0)))/\aa1 (Below w.heap.size w w'))
 case atStart=>exact⟨(aX),(0),qZ,H',⟨Nat.le_refl _⟩,⟨qR az⟩,⟨qK aa⟩,⟨qB⟩⟩
 clear H'
 try clear c1;try clear bF;try clear bV
 obtain⟨av,ah,rfl,HA,bU,af,aa,HB⟩:=hrel
 rcases gk with _|k1
 ·exact absurd HA.out (by simp [aei])
 have H:=HA.out
 clear HA
 simp only [aei] at H
 replace H:=jD H;rcases H with ⟨bJ,H⟩ | ⟨bJ,H⟩
 ·replace H:=jI H;obtain⟨dG,H⟩:=H
  replace H:=jI H;obtain⟨dH,H⟩:=H
  replace H:=jE H;rcases H with ⟨bK,bL,H⟩ | ⟨c21,bK,bL,H⟩
  ·obtain⟨bM,aQ⟩:=ky ((av.set (ah:Int).toNat ah):List Int)
   replace H:=kv aQ H
   have H':=aM H
   clear H
   obtain⟨dP,bW,bX⟩:=R_slice af.out
   subst bX
   have aD:0<=(ah:Int):=qD
   have aG:ah < (av.length:Int):=qD
   obtain⟨bN,bi,aI⟩:=Kd.at_int (R_reads' af.out).2.2 ah aD aG
   cases bi
   replace aD:=eq_true aD
   replace aG:=eq_true aG
   have bY:0<=(ah:Int):=qD
   have q22:(ah:Int) < ((av.length:Int):Int):=qD
   obtain⟨bn,dQ,bO,bP,bZ,dR,bQ⟩:=R_form af.out (by omega)
   (first|cases bO|(injection bO with ea_ en_ ec_;(first|subst ea_|(injection ea_ with ea_;subst ea_));subst ec_;clear en_))
   have cu:=aM bP
   have dS:=aM bQ
   clear bP bZ bQ
   (first|simp only [add_plain] at aI|skip)
   obtain⟨cz,cB⟩:=R_celln 0 af.out (ah:Int) bY q22
   replace bY:=eq_true bY
   replace q22:=eq_true q22
   have bq:=R_putg af.out (ah:Int) ah
   go_wp2_with (first|((with_reducible refine aaB (t:=3) (p:=29) rfl ?_);refine aar (t:=3) (p:=29) (v:=?cK) (w1:=(wr.setCell ⟨bn,(ah:Int).toNat,none⟩ (iV ah))) ?hg ?ho ?hn ?hr ?_;(case ho=>rfl);(case hg=>rfl);(case hn=>rfl);(case hr=>first|(go_simp;done)|(go_simp;rfl));intro cO hw;have hg:wr.grownBy cO (some bn):=(by rw [hw];exact bq.2);have hp_:Kd.R (Kd.int .i64) 3 cO w.heap.size (fun _=>True) (.slice (some ⟨bn,0,none⟩) av.length bW) bM:=(by rw [hw,aQ.out];exact bq.1);clear bq;replace aa:=aM (aaq (g:=ax) (qK aa) hg (R_ne af.out aa.out (by decide)));replace af:=aM hp_;replace HB:=aM ((by rw [hw];exact aac (HB.out) cu.out:Below w.heap.size w cO));clear hg hw hp_))
   go_roundg k1
   case measure=>have:=bU.out;omega
   exact⟨(bM),(wrap64 (ah+1)),qZ,H',⟨by have:=bU.out;omega⟩,⟨qR af⟩,⟨qK aa⟩,⟨qB⟩⟩
  have H':=aM H
  clear H
  obtain⟨dU,dV,df⟩:=R_slice af.out
  subst df
  have aD:0<=(ah:Int):=qD
  have aG:ah < (av.length:Int):=qD
  obtain⟨bN,bi,aI⟩:=Kd.at_int (R_reads' af.out).2.2 ah aD aG
  cases bi
  replace aD:=eq_true aD
  replace aG:=eq_true aG
  go_wp2
  go_roundg k1
  case measure=>have:=bU.out;omega
  exact⟨(av),(wrap64 (ah+1)),qZ,H',⟨by have:=bU.out;omega⟩,⟨qR af⟩,⟨qK aa⟩,⟨qB⟩⟩
 replace H:=jI H;obtain⟨dI,H⟩:=H
 replace H:=jI H;obtain⟨dJ,H⟩:=H
 obtain⟨aK,aJ⟩:=ky ((av.set (ae:Int).toNat ae):List Int)
 replace H:=kv aJ H
 replace H:=jE H;rcases H with ⟨bR,bS,H⟩ | ⟨eB,bR,bS,H⟩
 ·obtain⟨dh,aT⟩:=ky ((aK.set (ae:Int).toNat ag):List Int)
  replace H:=kv aT H
  obtain rfl:=oJ H
  have p29:0<=(ae:Int):=qD
  have bu:(ae:Int) < ((av.length:Int):Int):=qD
  obtain⟨aA,aY,aU,aV,bv,di,aW⟩:=R_form af.out (by omega)
  (first|cases aU|(injection aU with ea_ en_ ec_;(first|subst ea_|(injection ea_ with ea_;subst ea_));subst ec_;clear en_))
  have aZ:=aM aV
  have dn:=aM aW
  clear aV bv aW
  obtain⟨bz,bA⟩:=R_celln 0 af.out (ae:Int) p29 bu
  replace p29:=eq_true p29
  replace bu:=eq_true bu
  have bB:=R_putg af.out (ae:Int) ae
  go_wp2_with (first|((with_reducible refine aaB (t:=3) (p:=33) rfl ?_);refine aar (t:=3) (p:=33) (v:=?dw) (w1:=(wr.setCell ⟨aA,(ae:Int).toNat,none⟩ (iV ae))) ?hg ?ho ?hn ?hr ?_;(case ho=>rfl);(case hg=>rfl);(case hn=>rfl);(case hr=>first|(go_simp;done)|(go_simp;rfl));intro bT hw;have hg:wr.grownBy bT (some aA):=(by rw [hw];exact bB.2);have hp_:Kd.R (Kd.int .i64) 3 bT w.heap.size (fun _=>True) (.slice (some ⟨aA,0,none⟩) av.length aY) aK:=(by rw [hw,aJ.out];exact bB.1);clear bB;replace aa:=aM (aaq (g:=ax) (qK aa) hg (R_ne af.out aa.out (by decide)));replace af:=aM hp_;replace HB:=aM ((by rw [hw];exact aac (HB.out) aZ.out:Below w.heap.size w bT));clear hg hw hp_;have dW:=jz5 aa;have p31:0<=(ae:Int):=qD;have dx:(ae:Int) < ((av.length:Int):Int):=qD;obtain⟨dz,dA⟩:=R_celln 0 af.out (ae:Int) p31 dx;replace p31:=eq_true p31;replace dx:=eq_true dx;obtain⟨dK,dL⟩:=R_celln 0 af.out (ae:Int) (qD) (qD);have bC:=R_putg af.out (ae:Int) ag)|((with_reducible refine aaB (t:=3) (p:=41) rfl ?_);refine aar (t:=3) (p:=41) (v:=?dB) (w1:=(bT.setCell ⟨aA,(ae:Int).toNat,none⟩ (iV ag))) ?hg ?ho ?hn ?hr ?_;(case ho=>rfl);(case hg=>rfl);(case hn=>rfl);(case hr=>first|(go_simp;done)|(go_simp;rfl));intro dC hw;have hg:bT.grownBy dC (some aA):=(by rw [hw];exact bC.2);have hp_:Kd.R (Kd.int .i64) 3 dC w.heap.size (fun _=>True) (.slice (some ⟨aA,0,none⟩) av.length aY) dh:=(by rw [hw,aT.out];exact bC.1);clear bC;replace aa:=aM (aaq (g:=ax) (qK aa) hg (R_ne af.out aa.out (by decide)));replace af:=aM hp_;replace HB:=aM ((by rw [hw];exact aac (HB.out) aZ.out:Below w.heap.size w dC));clear hg hw hp_))
  go_ret
  exact⟨_,qW,qR af,qB⟩
 obtain rfl:=oJ H
 have p29:0<=(ae:Int):=qD
 have bu:(ae:Int) < ((av.length:Int):Int):=qD
 obtain⟨aA,aY,aU,aV,bv,di,aW⟩:=R_form af.out (by omega)
 (first|cases aU|(injection aU with ea_ en_ ec_;(first|subst ea_|(injection ea_ with ea_;subst ea_));subst ec_;clear en_))
 have aZ:=aM aV
 have dn:=aM aW
 clear aV bv aW
 obtain⟨bz,bA⟩:=R_celln 0 af.out (ae:Int) p29 bu
 replace p29:=eq_true p29
 replace bu:=eq_true bu
 have bD:=R_putg af.out (ae:Int) ae
 go_wp2_with (first|((with_reducible refine aaB (t:=3) (p:=33) rfl ?_);refine aar (t:=3) (p:=33) (v:=?dD) (w1:=(wr.setCell ⟨aA,(ae:Int).toNat,none⟩ (iV ae))) ?hg ?ho ?hn ?hr ?_;(case ho=>rfl);(case hg=>rfl);(case hn=>rfl);(case hr=>first|(go_simp;done)|(go_simp;rfl));intro dE hw;have hg:wr.grownBy dE (some aA):=(by rw [hw];exact bD.2);have hp_:Kd.R (Kd.int .i64) 3 dE w.heap.size (fun _=>True) (.slice (some ⟨aA,0,none⟩) av.length aY) aK:=(by rw [hw,aJ.out];exact bD.1);clear bD;replace aa:=aM (aaq (g:=ax) (qK aa) hg (R_ne af.out aa.out (by decide)));replace af:=aM hp_;replace HB:=aM ((by rw [hw];exact aac (HB.out) aZ.out:Below w.heap.size w dE));clear hg hw hp_;have dX:=jz5 aa))
 go_ret
 exact⟨_,qW,qR af,qB⟩
def adI:Nat->List (List Int)->Int->List Int->Bool->Int->Option (Bool × (List (List Int)))
 | 0,_,_,_,_,_=>none
 | k+1,x0,x1,x2,x7,x8=>if x8 < 12 then (if 0<=x1 then (if x1 < (x0.length:Int) then (if 0<=x8 then (if x8 < ((aaY x0 x1).length:Int) then (if (rd (aaY x0 x1) x8)=x8 then (adI k x0 x1 x2 x7 (wrap64 (x8+1))) else (if x8 < (x2.length:Int) then (if (rd (aaY x0 x1) x8)=(rd x2 x8) then (adI k x0 x1 x2 x7 (wrap64 (x8+1))) else (adI k (x0.set (x1:Int).toNat ((aaY x0 x1).set (x8:Int).toNat x8)) x1 x2 true (wrap64 (x8+1)))) else (none))) else (none)) else (none)) else (none)) else (none)) else (some (x7,x0))
def Sbb.f (k:Nat) (l0:List (List Int)) (a1:Int) (l2:List Int):Option (Bool × (List (List Int))):=if 0<=a1 then (if a1 < (l0.length:Int) then (if ((aaY l0 a1).length:Int)=0 then ((some (([]:List Int):List Int)).bind fun dE=>(if dE.length+l2.length < 17592186044416 then (some (true,(l0.set (a1:Int).toNat (dE ++ l2)))) else (none))) else (adI k l0 a1 l2 false 0)) else (none)) else (none)
theorem Sbb.calls (k:Nat) (aD:Nat->Prop) (bA:Value) (l0:List (List Int)) (a1:Int) (A2:Option Addr) (c2:Nat) (l2:List Int) (r1:Bool) (r2:List (List Int)) (w0 w:World) (hB:Below w0.heap.size w0 w) (ho0:Kd.S (Kd.slice 3 (Kd.int .i64)) 43 w w0.heap.size aD bA l0) (hr2:∀ W_,Kept w W_ (fun k_=>aD k_)->Kd.C (Kd.int .i64) W_ A2 l2.length l2) (hc2:l2.length<=c2) (h:Sbb.f k l0 a1 l2=some (r1,r2)) :
  Calls prog 126 #[bA,iV a1,.slice A2 l2.length c2] w fun e w'=>e = .returned (.bool r1)/\Kd.S (Kd.slice 3 (Kd.int .i64)) 43 w' w0.heap.size (fun k_=>(aD k_\/w.heap.size<=k_)) bA r2/\Below w0.heap.size w0 w'/\Kept w w' (fun k_=>aD k_):=by
 have aC:=aM (show Kd.S (Kd.slice 3 (Kd.int .i64)) 43 w w0.heap.size (fun k_=>(aD k_\/w.heap.size<=k_)) bA l0 from S_mono ho0 (fun k_ hk=>(.inl hk)))
 have HR2:=aM hr2
 have jl:=aM hc2
 clear hr2 hc2
 have HK:=aM (acF w (fun k_=>aD k_))
 have HW0:=aM hB.size
 have HB:=aM hB
 clear hB
 have H:=h;unfold Sbb.f at H
 clear h
 replace H:=jI H;obtain⟨gQ,H⟩:=H
 replace H:=jI H;obtain⟨gT,H⟩:=H
 replace H:=jE H;rcases H with ⟨fJ,fK,H⟩ | ⟨c6,fJ,fK,H⟩
 ·obtain⟨dE,dn⟩:=ky ([]:List Int)
  replace H:=kv dn H
  replace H:=jL H;obtain⟨gU,H⟩:=H
  obtain⟨bB,dF⟩:=ky ((dE ++ l2):List Int)
  replace H:=kv dF H
  obtain⟨gV,dG⟩:=ky ((l0.set (a1:Int).toNat bB):List (List Int))
  replace H:=kv dG H
  obtain⟨rfl,rfl⟩:=oJ2 H
  obtain⟨jm,fH,iZ⟩:=S_slice aC.out
  subst iZ
  have bq:0<=(a1:Int):=qD
  have bu:a1 < (l0.length:Int):=qD
  obtain⟨aG,dH,dI,eQ,av,aH,aI⟩:=afh (S_reads' aC.out).2.2 a1 bq bu
  cases eQ
  obtain⟨fM,bV,bW,aZ⟩:=S_get aC.out [] a1 bq (by first|exact bu|exact qD|(have e_:=(S_reads' aC.out).1;omega))
  obtain⟨dS,rfl,ax⟩:=bW
  have ak:=aZ 0 _ rfl
  rw [Nat.add_zero,show ((Kd.slice 3 (Kd.int .i64))).sz=1 from rfl,Nat.mul_one] at ak
  replace ak:=Option.some.inj (ak.symm.trans av)
  rw [ak] at ax
  have ai:=aM (show Kd.R (Kd.int .i64) 3 _ _ _ _ (aaY l0 a1) from ax)
  clear ak ax
  have bC:=aM av
  clear aZ bV
  have bD:=aM aI
  have dU:=aM aH
  clear aI aH
  replace bq:=eq_true bq
  replace bu:=eq_true bu
  go_enter func126,ntmps126
  go_wp2_with (first|((with_reducible refine jd 17 ?_);refine jV (Kd.int .i64) 3 ([]:List Int) [] (aa9 _ _) ?_;intro gW jo bX hb;replace bX:=kr dn bX;have dJ:=aM (R_lower (R_new' (R_newM (M:=fun k_=>(aD k_\/w.heap.size<=k_)) bX (by first|exact HK.out.1|exact (show Kept w _ (fun k_=>aD k_) from qT).1) (fun k_ h_=>.inr h_)) (R_lt (qR ai))) (aa4 qB));replace aC:=aM (S_elder' (qS aC) (R_base bX) hb);replace ai:=kO ai bX hb;replace bD:=kQ bD hb;replace bC:=kW hb bC;replace HK:=kT hb;replace HB:=kH hb;clear hb bX)|((with_reducible refine aaa (b:=.append) (xs:=#[.tmp 17,.tmp 18]) rfl ?_);at_builtin;refine R_append_rows (Kd.int .i64) (w0:=w0) w0.heap.size rfl (.tmp 17) (.tmp 18) 43 3 (iV 0) 8 rfl underlying43 akD rfl (by decide) (by omega) gW dE l2 _ _ _ (fun k_=>(aD k_\/w.heap.size<=k_)/\some k_≠(.slice dH (aaY l0 a1).length dI:Value).ownBlock) (fun _=>False) rfl rfl ?aO ?aR (fun _ _ h=>h) (fun _ h=>h.elim) ?aF ?aB ?aS ?aL ?_;(case aR=>exact C_kept_now HR2.out qT);(case aB=>exact qB);(case aF=>exact (fun k_ hk=>⟨(.inr (Nat.le_trans (by first|exact HK.out.1|exact (show Kept w _ (fun k_=>aD k_) from qT).1) hk)),Kd.fresh' (R_lt (qR ai)) k_ hk⟩));(case aO=>exact (by (with_reducible repeat (first|apply R_alloc|apply R_drewN|apply R_drew));exact R_mono dJ.out (fun _ hk=>⟨hk.1.1,hk.2⟩)));(case aS=>exact (aa4 qB));(case aL=>have:=gU.out;omega);intro ja eT ho hb hg hat;rw [<- dF.out] at ho;have bN:=aM (S_after (ok:=(fun k_=>(aD k_\/w.heap.size<=k_))) (qS aC) hg hat);have bO:=aM (R_after (ok:=(fun k_=>(aD k_\/w.heap.size<=k_)/\some k_≠(.slice (some aG) l0.length fH:Value).ownBlock)) (qR ai) hg hat);have bP:=aM hb;have bQ:=aM (abq (S:=(fun k_=>aD k_)) hg qT (fun k_ e_=>(dJ.out.1 k_ e_).1.1));have fO:=aM ho;clear aC;clear ai;clear HB;clear HK;clear dJ;have aC:=bN;have ai:=bO;have HB:=bP;have HK:=bQ;have bv:=fO;obtain⟨Aoz,coz,eoz⟩:=R_slice bv.out;subst eoz;clear bN bO bP bQ fO;clear ho hb hg hat;have p8:0<=(a1:Int):=qD;have q8:(a1:Int) < ((l0.length:Int):Int):=qD;obtain⟨dC,jr,iG,iH,je,jv,iI⟩:=S_form aC.out (by omega);(first|cases iG|(injection iG with ea_ en_ ec_;(first|subst ea_|(injection ea_ with ea_;subst ea_));subst ec_;clear en_));have jf:=aM iH;have jw:=aM iI;clear iH je iI;have iJ:=aM (show (aD dC\/w.heap.size<=dC) from ((S_R aC.out).1 _ rfl).1);(first|simp only [add_plain] at av|skip);obtain⟨_,jy,gX,iK,fP,fQ,_,_⟩:=S_elem aC.out [] (a1:Int) p8 q8;obtain⟨iL,rfl,iM⟩:=iK;have fT:=fP 0 _ rfl;have fU:=fQ 0;(try simp only [show ((Kd.slice 3 (Kd.int .i64))).sz=1 from rfl,Nat.mul_one,Nat.add_zero] at fT);(try simp only [show ((Kd.slice 3 (Kd.int .i64))).sz=1 from rfl,Nat.mul_one,Nat.add_zero] at fU);clear gX fP fQ;(try clear iK);replace p8:=eq_true p8;replace q8:=eq_true q8;have eU:=aM (show Kd.S (Kd.slice 3 (Kd.int .i64)) 43 eT w0.heap.size (fun k_=>((fun k_=>(aD k_\/w.heap.size<=k_))) k_/\¬ ((fun k_=>some k_=((.slice Aoz bB.length coz):Value).ownBlock)) k_) (.slice (some ⟨dC,0,none⟩) l0.length fH) l0 from (by (with_reducible repeat (first|apply S_alloc|apply S_drewN|apply S_drew));exact S_mono aC.out (by first|exact fun k_ hk=>⟨hk.1,fun e_=>hk.2 e_⟩|exact fun k_ hk=>hk)));obtain⟨fV,gY,dK,dL,bR,bS,bY,dM⟩:=S_elem eU.out [] (a1:Int) (qD) (by have h_:(a1:Int) < ((l0.length:Int):Int):=qD;first|exact h_|(have e_:=(S_reads' aC.out).1;omega)|simpa using h_);obtain⟨eX,rfl,eY⟩:=dL;have dD:=S_seg dM (qD) (by have h_:(a1:Int) < ((l0.length:Int):Int):=qD;first|exact h_|(have e_:=(S_reads' aC.out).1;omega)|simpa using h_) (seg:=[(.slice Aoz bB.length coz)]) (j:=0) (show 1<=1 from by decide) (x':=bB) (M_row (R_mono (R_tight rfl (R_mono (ok':=fun k_=>((fun k_=>(aD k_\/w.heap.size<=k_))) k_/\k_≠dC) (R_apart' (bv.out) (S_typed aC.out) (by decide)) (fun k_ hk=>⟨hk.1.1,fun e_=>(hk.2) (by rw [e_];rfl)⟩))) (fun _ h_=>Or.inr (h_)))) (fun _ hk=>hk) (fun k_ hk_=>((R_mono (ok':=fun k_=>((fun k_=>(aD k_\/w.heap.size<=k_))) k_/\k_≠dC) (R_apart' (bv.out) (S_typed aC.out) (by decide)) (fun k_ hk=>⟨hk.1.1,fun e_=>(hk.2) (by rw [e_];rfl)⟩))).1 k_ hk_.symm);have bZ:=bR 0 _ rfl;(try simp only [show ((Kd.slice 3 (Kd.int .i64))).sz=1 from rfl,Nat.mul_one,Nat.add_zero] at bZ);have cu:=bS 0;(try simp only [show ((Kd.slice 3 (Kd.int .i64))).sz=1 from rfl,Nat.mul_one,Nat.add_zero] at cu);clear dK bR bS bY dM;(try clear dL);(try simp only [show ((Kd.slice 3 (Kd.int .i64))).sz=1 from rfl,Nat.mul_one,Nat.add_zero] at dD))|((with_reducible refine aaB (t:=43) (p:=20) rfl ?_);(try (rw [abm eT];generalize hq_:World.drewN eT _=eT;have bN:=aM (S_at hq_ aC.out);have bO:=aM (R_at hq_ ai.out);have bP:=aM (ahb hq_ HK.out);have bQ:=aM (afs hq_ HB.out);clear hq_ aC ai HK HB;have aC:=bN;have ai:=bO;have HK:=bP;have HB:=bQ;clear bN bO bP bQ;(try (have eU:=aM (show Kd.S (Kd.slice 3 (Kd.int .i64)) 43 eT w0.heap.size (fun k_=>((fun k_=>(aD k_\/w.heap.size<=k_))) k_/\¬ ((fun k_=>some k_=((.slice Aoz bB.length coz):Value).ownBlock)) k_) (.slice (some ⟨dC,0,none⟩) l0.length fH) l0 from (by (with_reducible repeat (first|apply S_alloc|apply S_drewN|apply S_drew));exact S_mono aC.out (by first|exact fun k_ hk=>⟨hk.1,fun e_=>hk.2 e_⟩|exact fun k_ hk=>hk)))));(try (obtain⟨fV,gY,dK,dL,bR,bS,bY,dM⟩:=S_elem eU.out [] (a1:Int) (qD) (by have h_:(a1:Int) < ((l0.length:Int):Int):=qD;first|exact h_|(have e_:=(S_reads' aC.out).1;omega)|simpa using h_)));(try (obtain⟨eX,rfl,eY⟩:=dL));(try (have dD:=S_seg dM (qD) (by have h_:(a1:Int) < ((l0.length:Int):Int):=qD;first|exact h_|(have e_:=(S_reads' aC.out).1;omega)|simpa using h_) (seg:=[(.slice Aoz bB.length coz)]) (j:=0) (show 1<=1 from by decide) (x':=bB) (M_row (R_mono (R_tight rfl (R_mono (ok':=fun k_=>((fun k_=>(aD k_\/w.heap.size<=k_))) k_/\k_≠dC) (R_apart' (bv.out) (S_typed aC.out) (by decide)) (fun k_ hk=>⟨hk.1.1,fun e_=>(hk.2) (by rw [e_];rfl)⟩))) (fun _ h_=>Or.inr (h_)))) (fun _ hk=>hk) (fun k_ hk_=>((R_mono (ok':=fun k_=>((fun k_=>(aD k_\/w.heap.size<=k_))) k_/\k_≠dC) (R_apart' (bv.out) (S_typed aC.out) (by decide)) (fun k_ hk=>⟨hk.1.1,fun e_=>(hk.2) (by rw [e_];rfl)⟩))).1 k_ hk_.symm)));(try (have bZ:=bR 0 _ rfl));(try (try simp only [show ((Kd.slice 3 (Kd.int .i64))).sz=1 from rfl,Nat.mul_one,Nat.add_zero] at bZ));(try (have cu:=bS 0));(try (try simp only [show ((Kd.slice 3 (Kd.int .i64))).sz=1 from rfl,Nat.mul_one,Nat.add_zero] at cu));(try (clear dK bR bS bY dM;(try clear dL)));(try (try simp only [show ((Kd.slice 3 (Kd.int .i64))).sz=1 from rfl,Nat.mul_one,Nat.add_zero] at dD))));refine aar (t:=43) (p:=20) (v:=?gZ) (w1:=(eT.setCell ⟨dC,(a1:Int).toNat,none⟩ ((.slice Aoz bB.length coz)))) ?hg ?ho ?hn ?hr ?_;(case ho=>rfl);(case hg=>rfl);(case hn=>rfl);(case hr=>first|(go_simp;done)|(go_simp;rfl));intro ib hw;have hg:eT.grownBy ib (some dC):=(by rw [hw];exact dD.2);have hp_:Kd.S (Kd.slice 3 (Kd.int .i64)) 43 ib w0.heap.size (fun k_=>(aD k_\/w.heap.size<=k_)) (.slice (some ⟨dC,0,none⟩) l0.length fH) gV:=(by rw [hw,dG.out];exact dD.1);clear dD;replace ai:=aM (R_after (v:=(.slice (some ⟨dC,0,none⟩) l0.length fH)) (v1:=(.slice (some ⟨dC,0,none⟩) l0.length fH)) (ok:=(fun k_=>(aD k_\/w.heap.size<=k_)/\some k_≠((.slice Aoz bB.length coz):Value).ownBlock)) (by (with_reducible repeat (first|apply R_alloc|apply R_drewN|apply R_drew));exact R_mono ai.out (fun _ hk=>⟨⟨hk.1.1,hk.2⟩,hk.1.2⟩)) hg (.inl rfl));replace HB:=aM ((by rw [hw];exact aac (HB.out) jf.out:Below w0.heap.size w0 ib));replace HK:=aM (abq (S:=(fun k_=>aD k_)) hg qT (fun k_ e_=>((S_R aC.out).1 k_ e_).1));replace aC:=aM hp_;clear bv;clear hg hw hp_))
  go_ret
  exact⟨qW,qS aC,qB,qT⟩
 have ic:¬ ((aaY l0 a1)=[]):=fun h_=>c6 (by rw [h_];rfl)
 have H':=aM H
 clear H
 obtain⟨jg,dV,ig⟩:=S_slice aC.out
 subst ig
 have bq:0<=(a1:Int):=qD
 have bu:a1 < (l0.length:Int):=qD
 obtain⟨aG,dH,dI,eQ,av,aH,aI⟩:=afh (S_reads' aC.out).2.2 a1 bq bu
 cases eQ
 obtain⟨fM,bV,bW,aZ⟩:=S_get aC.out [] a1 bq (by first|exact bu|exact qD|(have e_:=(S_reads' aC.out).1;omega))
 obtain⟨dS,rfl,ax⟩:=bW
 have ak:=aZ 0 _ rfl
 rw [Nat.add_zero,show ((Kd.slice 3 (Kd.int .i64))).sz=1 from rfl,Nat.mul_one] at ak
 replace ak:=Option.some.inj (ak.symm.trans av)
 rw [ak] at ax
 have ai:=aM (show Kd.R (Kd.int .i64) 3 _ _ _ _ (aaY l0 a1) from ax)
 clear ak ax
 have bC:=aM av
 clear aZ bV
 have bD:=aM aI
 have dU:=aM aH
 clear aI aH
 replace bq:=eq_true bq
 replace bu:=eq_true bu
 go_enter func126,ntmps126
 go_wp2
 repeat (go_quiet (fail);try go_wp2)
 go_loopg [7,8] k (fun kq v7 v8 w'=>∃ (af:List (List Int)) (dN:Bool) (ag:Int),v7 = .bool dN/\v8 = iV ag/\aa1 (adI kq af a1 l2 dN ag=some (r1,r2))/\aa1 (kq<=k)/\aa1 (Kd.S (Kd.slice 3 (Kd.int .i64)) 43 w' w0.heap.size (fun k_=>(aD k_\/w.heap.size<=k_)) (.slice (some aG) l0.length dV) af)/\aa1 (Kept w w' (fun k_=>aD k_))/\aa1 (Below w0.heap.size w0 w'))
 case atStart=>exact⟨(l0),(false),(0),qZ,qZ,H',⟨Nat.le_refl _⟩,⟨qS aC⟩,⟨qT⟩,⟨qB⟩⟩
 clear H'
 try clear c2;try clear gQ;try clear gT;try clear c6;try clear fJ;try clear fK;try clear ic;try clear av;try clear bq;try clear bu
 obtain⟨af,dN,ag,rfl,rfl,HA,fI,ae,HK,HB⟩:=hrel
 have aJ:=(S_reads' ae.out).1
 rw [aJ] at ae
 (try simp only [aJ])
 rcases gk with _|k1
 ·exact absurd HA.out (by simp [adI])
 have H:=HA.out
 clear HA
 simp only [adI] at H
 replace H:=jD H;rcases H with ⟨fZ,H⟩ | ⟨fZ,H⟩
 ·replace H:=jI H;obtain⟨iN,H⟩:=H
  replace H:=jI H;obtain⟨iO,H⟩:=H
  replace H:=jI H;obtain⟨iP,H⟩:=H
  replace H:=jI H;obtain⟨iQ,H⟩:=H
  replace H:=jE H;rcases H with ⟨gm,gp,H⟩ | ⟨c21,gm,gp,H⟩
  ·have H':=aM H
   clear H
   have bE:0<=(a1:Int):=qD
   have bF:a1 < (af.length:Int):=qD
   obtain⟨dO,eZ,bG,fe,ay,aK,aN⟩:=afh (S_reads' ae.out).2.2 a1 bE bF
   obtain rfl:aG=dO:=(by injection fe)
   obtain⟨gq,cz,cB,bg⟩:=S_get ae.out [] a1 bE (by first|exact bF|exact qD|(have e_:=(S_reads' ae.out).1;omega))
   obtain⟨dW,rfl,az⟩:=cB
   have au:=bg 0 _ rfl
   rw [Nat.add_zero,show ((Kd.slice 3 (Kd.int .i64))).sz=1 from rfl,Nat.mul_one] at au
   replace au:=Option.some.inj (au.symm.trans ay)
   rw [au] at az
   have aY:=aM (show Kd.R (Kd.int .i64) 3 _ _ _ _ (aaY af a1) from az)
   clear au az
   have dX:=aM ay
   clear bg cz
   have bH:=aM aN
   have dY:=aM aK
   clear aN aK
   replace bE:=eq_true bE
   replace bF:=eq_true bF
   have cK:0<=(ag:Int):=qD
   have cO:ag < ((aaY af a1).length:Int):=qD
   obtain⟨gu,fo,dZ⟩:=Kd.at_int (kC bH.out) ag cK cO
   cases fo
   replace cK:=eq_true cK
   replace cO:=eq_true cO
   go_wp2
   repeat (go_quiet (fail);try go_wp2)
   (try simp only [<- aJ])
   go_roundg k1
   case measure=>have:=fI.out;omega
   exact⟨(af),(dN),(wrap64 (ag+1)),qZ,qZ,H',⟨by have:=fI.out;omega⟩,⟨by (try simp only [aJ]);(with_reducible repeat (first|apply S_alloc|apply S_drewN|apply S_drew));exact ae.out⟩,⟨qT⟩,⟨qB⟩⟩
  replace H:=jI H;obtain⟨iR,H⟩:=H
  have eH:=aM H;clear H
  have bE:0<=(a1:Int):=qD
  have bF:a1 < (af.length:Int):=qD
  obtain⟨dO,eZ,bG,fe,ay,aK,aN⟩:=afh (S_reads' ae.out).2.2 a1 bE bF
  obtain rfl:aG=dO:=(by injection fe)
  obtain⟨gq,cz,cB,bg⟩:=S_get ae.out [] a1 bE (by first|exact bF|exact qD|(have e_:=(S_reads' ae.out).1;omega))
  obtain⟨dW,rfl,az⟩:=cB
  have au:=bg 0 _ rfl
  rw [Nat.add_zero,show ((Kd.slice 3 (Kd.int .i64))).sz=1 from rfl,Nat.mul_one] at au
  replace au:=Option.some.inj (au.symm.trans ay)
  rw [au] at az
  have aY:=aM (show Kd.R (Kd.int .i64) 3 _ _ _ _ (aaY af a1) from az)
  clear au az
  have dX:=aM ay
  clear bg cz
  have bH:=aM aN
  have dY:=aM aK
  clear aN aK
  replace bE:=eq_true bE
  replace bF:=eq_true bF
  have cK:0<=(ag:Int):=qD
  have cO:ag < ((aaY af a1).length:Int):=qD
  obtain⟨gu,fo,dZ⟩:=Kd.at_int (kC bH.out) ag cK cO
  cases fo
  replace cK:=eq_true cK
  replace cO:=eq_true cO
  have d9:0<=(a1:Int):=qD
  have ed:a1 < (af.length:Int):=qD
  obtain⟨gy,ik,il,iq,bI,dw,dx⟩:=afh (S_reads' ae.out).2.2 a1 d9 ed
  obtain rfl:aG=gy:=(by injection iq)
  obtain⟨iT,fq,fu,dP⟩:=S_get ae.out [] a1 d9 (by first|exact ed|exact qD|(have e_:=(S_reads' ae.out).1;omega))
  obtain⟨gI,rfl,bJ⟩:=fu
  have aP:=dP 0 _ rfl
  rw [Nat.add_zero,show ((Kd.slice 3 (Kd.int .i64))).sz=1 from rfl,Nat.mul_one] at aP
  replace aP:=Option.some.inj (aP.symm.trans bI)
  rw [aP] at bJ
  have bK:=aM (show Kd.R (Kd.int .i64) 3 _ _ _ _ (aaY af a1) from bJ)
  clear aP bJ
  have gJ:=aM bI
  clear dP fq
  have ek:=aM dx
  have gK:=aM dw
  clear dx dw
  replace d9:=eq_true d9
  replace ed:=eq_true ed
  have ea_:=Option.some.inj (ay.symm.trans bI)
  injection ea_ with ea_ en_ ec_
  subst ea_
  subst ec_
  clear en_
  have fw:0<=(ag:Int):=qD
  have fA:ag < ((aaY af a1).length:Int):=qD
  obtain⟨iU,iw,eu⟩:=Kd.at_int (kC ek.out) ag fw fA
  cases iw
  replace fw:=eq_true fw
  replace fA:=eq_true fA
  have fB:0<=(ag:Int):=qD
  have fC:ag < (l2.length:Int):=qD
  obtain⟨iW,iy,gL⟩:=Kd.at_int (C_kept_now HR2.out HK.out) ag fB fC
  cases iy
  replace fB:=eq_true fB
  replace fC:=eq_true fC
  have H:=eH.out;clear eH
  replace H:=jE H;rcases H with ⟨gz,gB,H⟩ | ⟨c23,gz,gB,H⟩
  ·have H':=aM H
   clear H
   go_wp2
   repeat (go_quiet (fail);try go_wp2)
   (try simp only [<- aJ])
   go_roundg k1
   case measure=>have:=fI.out;omega
   exact⟨(af),(dN),(wrap64 (ag+1)),qZ,qZ,H',⟨by have:=fI.out;omega⟩,⟨by (try simp only [aJ]);(with_reducible repeat (first|apply S_alloc|apply S_drewN|apply S_drew));exact ae.out⟩,⟨qT⟩,⟨qB⟩⟩
  obtain⟨eB,bT⟩:=ky (((aaY af a1).set (ag:Int).toNat ag):List Int)
  replace H:=kv bT H
  obtain⟨eD,bU⟩:=ky ((af.set (a1:Int).toNat eB):List (List Int))
  replace H:=kv bU H
  have H':=aM H
  clear H
  have eF:0<=(a1:Int):=qD
  have eG:a1 < (af.length:Int):=qD
  obtain⟨gD,iA,iB,iC,bL,dz,dA⟩:=afh (S_reads' ae.out).2.2 a1 eF eG
  obtain rfl:aG=gD:=(by injection iC)
  obtain⟨iX,fD,fE,dQ⟩:=S_get ae.out [] a1 eF (by first|exact eG|exact qD|(have e_:=(S_reads' ae.out).1;omega))
  obtain⟨gM,rfl,bM⟩:=fE
  have aQ:=dQ 0 _ rfl
  rw [Nat.add_zero,show ((Kd.slice 3 (Kd.int .i64))).sz=1 from rfl,Nat.mul_one] at aQ
  replace aQ:=Option.some.inj (aQ.symm.trans bL)
  rw [aQ] at bM
  have aa:=aM (show Kd.R (Kd.int .i64) 3 _ _ _ _ (aaY af a1) from bM)
  clear aQ bM
  have aj:=aM bL
  clear dQ fD
  have gN:=aM dA
  have gP:=aM dz
  clear dA dz
  replace eF:=eq_true eF
  replace eG:=eq_true eG
  have ea_:=Option.some.inj (ay.symm.trans bL)
  injection ea_ with ea_ en_ ec_
  subst ea_
  subst ec_
  clear en_
  have iD:0<=(ag:Int):=qD
  have q24:(ag:Int) < (((aaY af a1).length:Int):Int):=qD
  obtain⟨bi,jh,gF,gG,iE,ji,gH⟩:=R_form aa.out (by omega)
  (first|cases gF|(injection gF with ea_ en_ ec_;(first|subst ea_|(injection ea_ with ea_;subst ea_));subst ec_;clear en_))
  have fF:=aM gG
  have jk:=aM gH
  clear gG iE gH
  have iF:=aM (show (aD bi\/w.heap.size<=bi) from (aa.out.1 _ rfl).1)
  (first|simp only [add_plain] at eu|skip)
  obtain⟨aV,aW⟩:=R_celln 0 aa.out (ag:Int) iD q24
  replace iD:=eq_true iD
  replace q24:=eq_true q24
  have df:(a1:Int) < (af.length:Int):=(by have h_:(a1:Int) < ((af.length:Int):Int):=qD;first|exact h_|(have e_:=(S_reads' ae.out).1;omega)|simpa only [List.length_set,List.length_set] using h_)
  obtain⟨bz,fG,bn,dh,aA,aT,aU⟩:=S_borrow ae.out [] (a1:Int) (qD) df
  obtain⟨di,rfl,ah⟩:=dh
  have hv25:=aA 0 _ rfl
  rw [Nat.add_zero,show ((Kd.slice 3 (Kd.int .i64))).sz=1 from rfl,Nat.mul_one] at hv25
  replace hv25:=Option.some.inj (hv25.symm.trans aj.out)
  subst hv25
  clear aA bn
  replace ah:=(show Kd.R (Kd.int .i64) 3 _ _ _ _ (aaY af a1) from ah)
  have aX:=R_putg ah (ag:Int) ag
  go_wp2_with (first|((with_reducible refine aaB (t:=3) (p:=54) rfl ?_);(try (rw [abm wr];generalize hq_:World.drewN wr _=wr;(try (have nx_:=aM (aeO hq_ aj.out);clear aj;have aj:=nx_;clear nx_));have bN:=aM (S_at hq_ ae.out);have bO:=aM (R_at hq_ aa.out);have bP:=aM (ahb hq_ HK.out);have bQ:=aM (afs hq_ HB.out);(try (have aV:=aeO hq_ aV));(try (have aW:=afI hq_ aW));clear hq_ ae aa HK HB;have ae:=bN;have aa:=bO;have HK:=bP;have HB:=bQ;clear bN bO bP bQ;(try (have df:(a1:Int) < (af.length:Int):=(by have h_:(a1:Int) < ((af.length:Int):Int):=qD;first|exact h_|(have e_:=(S_reads' ae.out).1;omega)|simpa only [List.length_set,List.length_set] using h_)));(try (obtain⟨bz,fG,bn,dh,aA,aT,aU⟩:=S_borrow ae.out [] (a1:Int) (qD) df));(try (obtain⟨di,rfl,ah⟩:=dh));(try (have hv25:=aA 0 _ rfl));(try (rw [Nat.add_zero,show ((Kd.slice 3 (Kd.int .i64))).sz=1 from rfl,Nat.mul_one] at hv25));(try (replace hv25:=Option.some.inj (hv25.symm.trans aj.out)));(try (subst hv25));(try (clear aA bn));(try (replace ah:=(show Kd.R (Kd.int .i64) 3 _ _ _ _ (aaY af a1) from ah)));(try (have aX:=R_putg ah (ag:Int) ag))));refine aar (t:=3) (p:=54) (v:=?dR) (w1:=(wr.setCell ⟨bi,(ag:Int).toNat,none⟩ (iV ag))) ?hg ?ho ?hn ?hr ?_;(case ho=>rfl);(case hg=>rfl);(case hn=>rfl);(case hr=>first|(go_simp;done)|(go_simp;rfl));intro dB hw;have hg:wr.grownBy dB (some bi):=(by rw [hw];exact aX.2);have hz_:Kd.R (Kd.int .i64) 3 dB w0.heap.size bz (.slice (some ⟨bi,0,none⟩) (aaY af a1).length bG) eB:=(by rw [hw,bT.out];exact aX.1);have hp_:Kd.S (Kd.slice 3 (Kd.int .i64)) 43 dB w0.heap.size (fun k_=>(aD k_\/w.heap.size<=k_)) (.slice (some aG) af.length dV) eD:=(by rw [bU.out];exact aU hg (fun k_ e_=>by injection e_ with e_;subst e_;exact ah.1 _ rfl) (M_row hz_));have hm_:=R_mono hz_ aT;clear aX aU;have eO:=aM hm_;have eP:=aM ((R_reads' hm_).2.1);replace ae:=aM hp_;replace HB:=aM ((by rw [hw];exact aac (HB.out) fF.out:Below w0.heap.size w0 dB));replace HK:=aM (abq (S:=(fun k_=>aD k_)) hg qT (fun k_ e_=>(aa.out.1 k_ e_).1));clear aY bK aa;clear hg hw hp_ hz_ hm_ aT))
  repeat (go_quiet (first|((with_reducible refine aaB (t:=3) (p:=54) rfl ?_);(try (rw [abm wr];generalize hq_:World.drewN wr _=wr;(try (have nx_:=aM (aeO hq_ aj.out);clear aj;have aj:=nx_;clear nx_));have bN:=aM (S_at hq_ ae.out);have bO:=aM (R_at hq_ aa.out);have bP:=aM (ahb hq_ HK.out);have bQ:=aM (afs hq_ HB.out);(try (have aV:=aeO hq_ aV));(try (have aW:=afI hq_ aW));clear hq_ ae aa HK HB;have ae:=bN;have aa:=bO;have HK:=bP;have HB:=bQ;clear bN bO bP bQ;(try (have df:(a1:Int) < (af.length:Int):=(by have h_:(a1:Int) < ((af.length:Int):Int):=qD;first|exact h_|(have e_:=(S_reads' ae.out).1;omega)|simpa only [List.length_set,List.length_set] using h_)));(try (obtain⟨bz,fG,bn,dh,aA,aT,aU⟩:=S_borrow ae.out [] (a1:Int) (qD) df));(try (obtain⟨di,rfl,ah⟩:=dh));(try (have hv25:=aA 0 _ rfl));(try (rw [Nat.add_zero,show ((Kd.slice 3 (Kd.int .i64))).sz=1 from rfl,Nat.mul_one] at hv25));(try (replace hv25:=Option.some.inj (hv25.symm.trans aj.out)));(try (subst hv25));(try (clear aA bn));(try (replace ah:=(show Kd.R (Kd.int .i64) 3 _ _ _ _ (aaY af a1) from ah)));(try (have aX:=R_putg ah (ag:Int) ag))));refine aar (t:=3) (p:=54) (v:=?dR) (w1:=(wr.setCell ⟨bi,(ag:Int).toNat,none⟩ (iV ag))) ?hg ?ho ?hn ?hr ?_;(case ho=>rfl);(case hg=>rfl);(case hn=>rfl);(case hr=>first|(go_simp;done)|(go_simp;rfl));intro dB hw;have hg:wr.grownBy dB (some bi):=(by rw [hw];exact aX.2);have hz_:Kd.R (Kd.int .i64) 3 dB w0.heap.size bz (.slice (some ⟨bi,0,none⟩) (aaY af a1).length bG) eB:=(by rw [hw,bT.out];exact aX.1);have hp_:Kd.S (Kd.slice 3 (Kd.int .i64)) 43 dB w0.heap.size (fun k_=>(aD k_\/w.heap.size<=k_)) (.slice (some aG) af.length dV) eD:=(by rw [bU.out];exact aU hg (fun k_ e_=>by injection e_ with e_;subst e_;exact ah.1 _ rfl) (M_row hz_));have hm_:=R_mono hz_ aT;clear aX aU;have bN:=aM hp_;have bO:=aM ((by rw [hw];exact aac (HB.out) fF.out:Below w0.heap.size w0 dB));have bP:=aM (abq (S:=(fun k_=>aD k_)) hg qT (fun k_ e_=>(aa.out.1 k_ e_).1));have bQ:=aM hm_;have fO:=aM ((R_reads' hm_).2.1);clear ae;clear HB;clear HK;clear aY;clear bK;clear aa;have ae:=bN;have HB:=bO;have HK:=bP;have eO:=bQ;have eP:=fO;clear bN bO bP bQ fO;clear hg hw hp_ hz_ hm_ aT));try go_wp2_with (first|((with_reducible refine aaB (t:=3) (p:=54) rfl ?_);(try (rw [abm wr];generalize hq_:World.drewN wr _=wr;(try (have nx_:=aM (aeO hq_ aj.out);clear aj;have aj:=nx_;clear nx_));have bN:=aM (S_at hq_ ae.out);have bO:=aM (R_at hq_ aa.out);have bP:=aM (ahb hq_ HK.out);have bQ:=aM (afs hq_ HB.out);(try (have aV:=aeO hq_ aV));(try (have aW:=afI hq_ aW));clear hq_ ae aa HK HB;have ae:=bN;have aa:=bO;have HK:=bP;have HB:=bQ;clear bN bO bP bQ;(try (have df:(a1:Int) < (af.length:Int):=(by have h_:(a1:Int) < ((af.length:Int):Int):=qD;first|exact h_|(have e_:=(S_reads' ae.out).1;omega)|simpa only [List.length_set,List.length_set] using h_)));(try (obtain⟨bz,fG,bn,dh,aA,aT,aU⟩:=S_borrow ae.out [] (a1:Int) (qD) df));(try (obtain⟨di,rfl,ah⟩:=dh));(try (have hv25:=aA 0 _ rfl));(try (rw [Nat.add_zero,show ((Kd.slice 3 (Kd.int .i64))).sz=1 from rfl,Nat.mul_one] at hv25));(try (replace hv25:=Option.some.inj (hv25.symm.trans aj.out)));(try (subst hv25));(try (clear aA bn));(try (replace ah:=(show Kd.R (Kd.int .i64) 3 _ _ _ _ (aaY af a1) from ah)));(try (have aX:=R_putg ah (ag:Int) ag))));refine aar (t:=3) (p:=54) (v:=?dR) (w1:=(wr.setCell ⟨bi,(ag:Int).toNat,none⟩ (iV ag))) ?hg ?ho ?hn ?hr ?_;(case ho=>rfl);(case hg=>rfl);(case hn=>rfl);(case hr=>first|(go_simp;done)|(go_simp;rfl));intro dB hw;have hg:wr.grownBy dB (some bi):=(by rw [hw];exact aX.2);have hz_:Kd.R (Kd.int .i64) 3 dB w0.heap.size bz (.slice (some ⟨bi,0,none⟩) (aaY af a1).length bG) eB:=(by rw [hw,bT.out];exact aX.1);have hp_:Kd.S (Kd.slice 3 (Kd.int .i64)) 43 dB w0.heap.size (fun k_=>(aD k_\/w.heap.size<=k_)) (.slice (some aG) af.length dV) eD:=(by rw [bU.out];exact aU hg (fun k_ e_=>by injection e_ with e_;subst e_;exact ah.1 _ rfl) (M_row hz_));have hm_:=R_mono hz_ aT;clear aX aU;have eO:=aM hm_;have eP:=aM ((R_reads' hm_).2.1);replace ae:=aM hp_;replace HB:=aM ((by rw [hw];exact aac (HB.out) fF.out:Below w0.heap.size w0 dB));replace HK:=aM (abq (S:=(fun k_=>aD k_)) hg qT (fun k_ e_=>(aa.out.1 k_ e_).1));clear aY bK aa;clear hg hw hp_ hz_ hm_ aT)))
  (try simp only [<- aJ])
  go_roundg k1
  case measure=>have:=fI.out;omega
  exact⟨(eD),(true),(wrap64 (ag+1)),qZ,qZ,H',⟨by have:=fI.out;omega⟩,⟨by (try simp only [aJ]);(with_reducible repeat (first|apply S_alloc|apply S_drewN|apply S_drew));exact ae.out⟩,⟨qT⟩,⟨qB⟩⟩
 obtain⟨rfl,rfl⟩:=oJ2 H
 go_wp2
 repeat (go_quiet (fail);try go_wp2)
 go_ret
 exact⟨qW,(by first|exact (qS ae)|(simp only [aJ];exact (qS ae))),qB,qT⟩
mutual
def adk:Nat->List S27->List (List Int)->Bool->Int->Option (Bool × (List (List Int)))
 | 0,_,_,_,_=>none
 | k+1,x0,x1,x5,x6=>if x6 < (x0.length:Int) then (if 0<=x6 then (if x6 < (x1.length:Int) then (if ((aaY x1 x6).length:Int)=0 then (adk k x0 x1 x5 (wrap64 (x6+1))) else ((afk k x0 x6).bind fun ag=>((ali k ((aa0 x0 x6).f0) ((aa0 x0 x6).f1) ((aa0 x0 x6).f2) ((aa0 x0 x6).f3) ((aa0 x0 x6).f4) (aaY x1 x6)).bind fun aj=>(aeh k x0 x1 x5 x6 ag aj 0)))) else (none)) else (none)) else (some (x5,x1))
def aeh:Nat->List S27->List (List Int)->Bool->Int->List Int->List Int->Int->Option (Bool × (List (List Int)))
 | 0,_,_,_,_,_,_,_=>none
 | k+1,x0,x1,x5,x6,x7,x8,x9=>if x9 < (x7.length:Int) then (if 0<=x9 then ((Sbb.f k x1 (rd x7 x9) x8).bind fun bE=>(if bE.1=true then (aeh k x0 bE.2 true x6 x7 x8 (wrap64 (x9+1))) else (aeh k x0 bE.2 x5 x6 x7 x8 (wrap64 (x9+1))))) else (none)) else (adk k x0 x1 x5 (wrap64 (x6+1)))
end
def Sbd.f (k:Nat) (l0:List S27) (l1:List (List Int)):Option (Bool × (List (List Int))):=adk k l0 l1 false 0
def anH:Bool × List (List Nat × List Nat):=(true,[([],[]),([],[]),([0,1],[0,1]),([2],[2]),([],[]),([],[]),([4,5],[4,5]),([6],[6]),([3,7],[3,7]),([8,8,0,1,2,3,4,5,6,7,8],[8])])
def apv:List Nat:=[0,0,3,7,0,0,48,112,255,511]
theorem amX:acz .any (opsOf f116 7)=anH:=by kernel_rfl
theorem alf:ab9 anH.2 apv=true:=by kernel_rfl
theorem Sbd.calls (k:Nat) (A0:Option Addr) (c0:Nat) (l0:List S27) (az:Nat->Prop) (aP:Value) (l1:List (List Int)) (r1:Bool) (r2:List (List Int)) (w0 w:World) (hB:Below w0.heap.size w0 w) (hr0:∀ W_,Kept w W_ (fun k_=>az k_)->Kd.C k27 W_ A0 l0.length l0) (hc0:l0.length<=c0) (ho1:Kd.S (Kd.slice 3 (Kd.int .i64)) 43 w w0.heap.size az aP l1) (h:Sbd.f k l0 l1=some (r1,r2)) :
  Calls prog 116 #[.slice A0 l0.length c0,aP] w fun e w'=>e = .returned (.bool r1)/\Kd.S (Kd.slice 3 (Kd.int .i64)) 43 w' w0.heap.size (fun k_=>(az k_\/w.heap.size<=k_)) aP r2/\Below w0.heap.size w0 w'/\Kept w w' (fun k_=>az k_):=by
 have eD:=underlying27
 have bJ:=aM hr0
 have eF:=aM hc0
 clear hr0 hc0
 have eG:=aM (show Kd.S (Kd.slice 3 (Kd.int .i64)) 43 w w0.heap.size (fun k_=>(az k_\/w.heap.size<=k_)) aP l1 from S_mono ho1 (fun k_ hk=>(.inl hk)))
 have HK:=aM (acF w (fun k_=>az k_))
 have HW0:=aM hB.size
 have HB:=aM hB
 clear hB
 have H:(adk k l0 l1 false 0)=some (r1,r2):=h
 clear h
 have H':=aM H
 clear H
 go_enter func116,ntmps116
 go_wp2
 go_loopg [5,6] k (fun kq v5 v6 w'=>∃ (aA:List (List Int)) (bK:Bool) (aa:Int),v5 = .bool bK/\v6 = iV aa/\aa1 (adk kq l0 aA bK aa=some (r1,r2))/\aa1 (kq<=k)/\aa1 (Kd.S (Kd.slice 3 (Kd.int .i64)) 43 w' w0.heap.size (fun k_=>(az k_\/w.heap.size<=k_)) aP aA)/\aa1 (Kept w w' (fun k_=>az k_))/\aa1 (Below w0.heap.size w0 w'))
 case atStart=>exact⟨(l1),(false),(0),qZ,qZ,H',⟨Nat.le_refl _⟩,⟨qS eG⟩,⟨qT⟩,⟨qB⟩⟩
 clear H'
 obtain⟨aA,bK,aa,rfl,rfl,HA,bZ,af,HK,HB⟩:=hrel
 rcases gk with _|k1
 ·exact absurd HA.out (by simp [adk])
 have H:=HA.out
 clear HA
 simp only [adk] at H
 replace H:=jD H;rcases H with ⟨dw,H⟩ | ⟨dw,H⟩
 ·replace H:=jI H;obtain⟨dK,H⟩:=H
  replace H:=jI H;obtain⟨dL,H⟩:=H
  replace H:=jE H;rcases H with ⟨dx,dz,H⟩ | ⟨c6,dx,dz,H⟩
  ·have H':=aM H
   clear H
   obtain⟨eY,eZ,eH⟩:=S_slice af.out
   subst eH
   have aW:0<=(aa:Int):=qD
   have aX:aa < (aA.length:Int):=qD
   obtain⟨aJ,cz,cB,cK,aK,aB,aC⟩:=afh (S_reads' af.out).2.2 aa aW aX
   cases cK
   obtain⟨dA,bF,bG,aQ⟩:=S_get af.out [] aa aW (by first|exact aX|exact qD|(have e_:=(S_reads' af.out).1;omega))
   obtain⟨bV,rfl,ay⟩:=bG
   have ah:=aQ 0 _ rfl
   rw [Nat.add_zero,show ((Kd.slice 3 (Kd.int .i64))).sz=1 from rfl,Nat.mul_one] at ah
   replace ah:=Option.some.inj (ah.symm.trans aK)
   rw [ah] at ay
   have ak:=aM (show Kd.R (Kd.int .i64) 3 _ _ _ _ (aaY aA aa) from ay)
   clear ah ay
   clear aQ bF
   have av:=aM aC
   have bW:=aM aB
   clear aC aB
   replace aW:=eq_true aW
   replace aX:=eq_true aX
   go_wp2
   go_roundg k1
   case measure=>have:=bZ.out;omega
   exact⟨(aA),(bK),(wrap64 (aa+1)),qZ,qZ,H',⟨by have:=bZ.out;omega⟩,⟨qS af⟩,⟨qT⟩,⟨qB⟩⟩
  have dM:¬ ((aaY aA aa)=[]):=fun h_=>c6 (by rw [h_];rfl)
  obtain⟨ag,A8,H⟩:=qE H
  try dsimp only at H
  obtain⟨aj,A9,H⟩:=qE H
  try dsimp only at H
  have H':=aM H
  clear H
  obtain⟨eO,bL,dN⟩:=S_slice af.out
  subst dN
  have aW:0<=(aa:Int):=qD
  have aX:aa < (aA.length:Int):=qD
  obtain⟨aJ,cz,cB,cK,aK,aB,aC⟩:=afh (S_reads' af.out).2.2 aa aW aX
  cases cK
  obtain⟨dA,bF,bG,aQ⟩:=S_get af.out [] aa aW (by first|exact aX|exact qD|(have e_:=(S_reads' af.out).1;omega))
  obtain⟨bV,rfl,ay⟩:=bG
  have ah:=aQ 0 _ rfl
  rw [Nat.add_zero,show ((Kd.slice 3 (Kd.int .i64))).sz=1 from rfl,Nat.mul_one] at ah
  replace ah:=Option.some.inj (ah.symm.trans aK)
  rw [ah] at ay
  have ak:=aM (show Kd.R (Kd.int .i64) 3 _ _ _ _ (aaY aA aa) from ay)
  clear ah ay
  clear aQ bF
  have av:=aM aC
  have bW:=aM aB
  clear aC aB
  replace aW:=eq_true aW
  replace aX:=eq_true aX
  try go_wp2_with (first|((with_reducible refine jc 55 24 ?_);refine jM func55 (aex k1 _ _ l0 aa ag _ (by exact C_kept_now bJ.out qT) eF.out A8.out) ?_;rintro cO eP ⟨ho0,hb⟩;have aT:=aM (R_lower (R_new' (R_newM (M:=fun k_=>(az k_\/w.heap.size<=k_)) ho0 (by first|exact HK.out.1|exact (show Kept w _ (fun k_=>az k_) from qT).1) (fun k_ h_=>.inr h_)) (R_lt (qR ak))) (aa4 qB));replace af:=aM (S_elder' (qS af) (R_base ho0) hb);replace ak:=kO ak ho0 hb;replace av:=kQ av hb;replace HK:=kT hb;replace HB:=kH hb;clear hb;(try clear ho0)))
  replace af:=aM (S_drew af.out)
  replace ak:=aM (R_drew ak.out)
  replace aT:=aM (R_drew aT.out)
  replace av:=aM (C_drew av.out)
  replace HK:=aM (Kept.drew HK.out)
  replace HB:=aM (aaf HB.out)
  have aD:0<=(aa:Int):=qD
  have aF:aa < (l0.length:Int):=qD
  obtain⟨aG,dO,bq,bu,bv,bz,bA⟩:=aaG (C_kept_now bJ.out HK.out) aa aD aF
  have dE:=bA
  have dF:=bz
  have dG:=bv
  have dH:=bu
  have dI:=bq
  cases dO
  replace aD:=eq_true aD
  replace aF:=eq_true aF
  have bM:0<=(aa:Int):=qD
  have bN:aa < (aA.length:Int):=qD
  obtain⟨dB,bO,bP,dP,aL,bH,bI⟩:=afh (S_reads' af.out).2.2 aa bM bN
  obtain rfl:aJ=dB:=(by injection dP)
  obtain⟨dY,df,dh,bQ⟩:=S_get af.out [] aa bM (by first|exact bN|exact qD|(have e_:=(S_reads' af.out).1;omega))
  obtain⟨dJ,rfl,bB⟩:=dh
  have aH:=bQ 0 _ rfl
  rw [Nat.add_zero,show ((Kd.slice 3 (Kd.int .i64))).sz=1 from rfl,Nat.mul_one] at aH
  replace aH:=Option.some.inj (aH.symm.trans aL)
  rw [aH] at bB
  have aN:=aM (show Kd.R (Kd.int .i64) 3 _ _ _ _ (aaY aA aa) from bB)
  clear aH bB
  clear bQ df
  have aO:=aM bI
  have bX:=aM bH
  clear bI bH
  replace bM:=eq_true bM
  replace bN:=eq_true bN
  refine abl (n:=10) (S:=fun w'=>w'.cell? (aG.add ((aa).toNat*5))=some (iV ((aa0 l0 aa).f0))/\w'.cell? ⟨(aG.add ((aa).toNat*5)).block,(aG.add ((aa).toNat*5)).off+1,none⟩=some (iV ((aa0 l0 aa).f1))/\w'.cell? ⟨(aG.add ((aa).toNat*5)).block,(aG.add ((aa).toNat*5)).off+2,none⟩=some (iV ((aa0 l0 aa).f2))/\w'.cell? ⟨(aG.add ((aa).toNat*5)).block,(aG.add ((aa).toNat*5)).off+3,none⟩=some (iV ((aa0 l0 aa).f3))/\w'.cell? ⟨(aG.add ((aa).toNat*5)).block,(aG.add ((aa).toNat*5)).off+4,none⟩=some (iV ((aa0 l0 aa).f4))/\w'.cell? (aJ.add (aa).toNat)=some (.slice bO (aaY aA aa).length bP)) (ds:=[]) (jb 10 0) (by kernel_rfl) rfl rfl ⟨(abP (bJ.out _ (by repeat (first|exact HK.out|apply Kept.alloc|apply Kept.drewN|apply Kept.drew))) aa (of_eq_true aD) (of_eq_true aF)),(abO (bJ.out _ (by repeat (first|exact HK.out|apply Kept.alloc|apply Kept.drewN|apply Kept.drew))) aa (of_eq_true aD) (of_eq_true aF)),(abN (bJ.out _ (by repeat (first|exact HK.out|apply Kept.alloc|apply Kept.drewN|apply Kept.drew))) aa (of_eq_true aD) (of_eq_true aF)),(abM (bJ.out _ (by repeat (first|exact HK.out|apply Kept.alloc|apply Kept.drewN|apply Kept.drew))) aa (of_eq_true aD) (of_eq_true aF)),(abL (bJ.out _ (by repeat (first|exact HK.out|apply Kept.alloc|apply Kept.drewN|apply Kept.drew))) aa (of_eq_true aD) (of_eq_true aF)),aL⟩ (fun hHeld=>?_);refine aaL amX alf (fun HT_ HW_=>?_)
  generalize eP.drew=fe at af ak aT av HK HB aN aO bq bu bv bz bA aL hHeld ⊢
  refine jp 0 25 (jb 10 1) ?_
  refine jp 1 26 (jb 10 3) ?_
  refine jp 2 27 (jb 10 7) ?_
  refine jp 4 29 (jb 10 23) ?_
  refine jp 5 30 (jb 10 55) ?_
  refine jp 6 31 (jb 10 119) ?_
  refine jt 3 28 (jb 10 127) ?_
  refine jt 7 32 (jb 10 255) ?_
  refine acK (i:=8) (N:=some 33) (jb 10 511) rfl rfl (aaR HT_.out (by kernel_rfl)) (by decide) (fun K hK=>?_)
  refine abn func125 (by kernel_rfl) rfl #[.agg #[iV ((aa0 l0 aa).f0),iV ((aa0 l0 aa).f1),iV ((aa0 l0 aa).f2),iV ((aa0 l0 aa).f3),iV ((aa0 l0 aa).f4)],.slice bO (aaY aA aa).length bP] (by rfl) rfl rfl qM ?_
  with_reducible refine (alj k1 ((aa0 l0 aa).f0) ((aa0 l0 aa).f1) ((aa0 l0 aa).f2) ((aa0 l0 aa).f3) ((aa0 l0 aa).f4) _ _ (aaY aA aa) aj _ ?aR ?aS A9.out).mono ?_
  (case aR=>repeat (first|exact (kC aO.out)|(with_reducible refine C_alloc ?_ _)|(with_reducible refine C_drewN ?_ _)|(with_reducible refine C_drew ?_)))
  (case aS=>exact bX.out)
  rintro e fo ⟨di,rfl,ho0,hb⟩
  have dQ:=(hb.cell (World.block_lt_of_cell? _ _ (hHeld.2.2.2.2.2))).trans (hHeld.2.2.2.2.2)
  refine⟨_,rfl,?_⟩
  have dC:=aM (R_lower (R_new' (R_new' (R_new' (R_newM (M:=fun k_=>(az k_\/w.heap.size<=k_)) ho0 (by first|exact HK.out.1|exact (show Kept w _ (fun k_=>az k_) from qT).1) (fun k_ h_=>.inr h_)) (R_lt (qR ak))) (R_lt (qR aT))) (R_lt (qR aN))) (aa4 qB))
  replace af:=aM (S_elder' (qS af) (R_base ho0) hb)
  replace ak:=kO ak ho0 hb
  replace aT:=kO aT ho0 hb
  replace aN:=kO aN ho0 hb
  replace av:=kQ av hb
  replace aO:=kQ aO hb
  replace HK:=kT hb
  replace HB:=kH hb
  (try clear hb)
  (try clear hb2)
  (try clear hk)
  (try clear hi)
  (try clear ho0)
  refine hK.out _ _ ⟨(abP (bJ.out _ (by repeat (first|exact HK.out|apply Kept.alloc|apply Kept.drewN|apply Kept.drew))) aa (of_eq_true aD) (of_eq_true aF)),(abO (bJ.out _ (by repeat (first|exact HK.out|apply Kept.alloc|apply Kept.drewN|apply Kept.drew))) aa (of_eq_true aD) (of_eq_true aF)),(abN (bJ.out _ (by repeat (first|exact HK.out|apply Kept.alloc|apply Kept.drewN|apply Kept.drew))) aa (of_eq_true aD) (of_eq_true aF)),(abM (bJ.out _ (by repeat (first|exact HK.out|apply Kept.alloc|apply Kept.drewN|apply Kept.drew))) aa (of_eq_true aD) (of_eq_true aF)),(abL (bJ.out _ (by repeat (first|exact HK.out|apply Kept.alloc|apply Kept.drewN|apply Kept.drew))) aa (of_eq_true aD) (of_eq_true aF)),dQ⟩ (fun hHeld=>?_)
  clear hK K
  refine aaA (a':=?_) ?_ ?_
  rotate_left
  ·show Act.put _ (some 33) _=_
   simp only [Act.put,List.setIfInBounds_toArray,List.set_cons_zero,List.set_cons_succ,aas,aaw]
   rfl
  refine jp 9 8 (jb 10 1023) ?_
  refine abI (ab5 HT_.out (by kernel_rfl)) ?_
  try go_wp2
  go_loopg [5,9] k1 (fun kq v5 v9 w'=>∃ (aY:List (List Int)) (bY:Bool) (aI:Int),v5 = .bool bY/\v9 = iV aI/\aa1 (aeh kq l0 aY bY aa ag aj aI=some (r1,r2))/\aa1 (kq<=k1)/\aa1 (Kd.S (Kd.slice 3 (Kd.int .i64)) 43 w' w0.heap.size (fun k_=>(az k_\/w.heap.size<=k_)/\some k_≠(cO:Value).ownBlock/\some k_≠(di:Value).ownBlock) (.slice (some aJ) aA.length bL) aY)/\aa1 (Kd.R (Kd.int .i64) 3 w' w0.heap.size (fun k_=>(az k_\/w.heap.size<=k_)/\some k_≠(di:Value).ownBlock) cO ag)/\aa1 (Kd.R (Kd.int .i64) 3 w' w0.heap.size (fun k_=>(az k_\/w.heap.size<=k_)/\some k_≠(cO:Value).ownBlock) di aj)/\aa1 (Kept w w' (fun k_=>az k_))/\aa1 (Below w0.heap.size w0 w'))
  case atStart=>exact⟨(aA),(bK),(0),qZ,qZ,H',⟨Nat.le_refl _⟩,⟨by (with_reducible repeat (first|apply S_alloc|apply S_drewN|apply S_drew));exact S_mono af.out (fun _ hk=>⟨hk.1.1,⟨hk.1.2,hk.2⟩⟩)⟩,⟨by (with_reducible repeat (first|apply R_alloc|apply R_drewN|apply R_drew));exact R_mono aT.out (fun _ hk=>⟨hk.1.1.1,hk.2⟩)⟩,⟨by (with_reducible repeat (first|apply R_alloc|apply R_drewN|apply R_drew));exact R_mono dC.out (fun _ hk=>⟨hk.1.1.1.1,hk.1.2⟩)⟩,⟨qT⟩,⟨qB⟩⟩
  clear H'
  try clear dw;try clear dK;try clear dL;try clear c6;try clear dx;try clear dz;try clear dM;try clear aK;try clear bq;try clear bu;try clear bv;try clear bz;try clear bA;try clear aL;try clear aW;try clear aD;try clear bM;try clear aX;try clear aF;try clear bN
  obtain⟨aY,bY,aI,rfl,rfl,HA,dn,af,au,ai,HK,HB⟩:=hrel
  have ax:=(S_reads' af.out).1
  rw [ax] at af
  (try simp only [ax])
  (try simp only [ax] at au)
  (try simp only [ax] at ai)
  rcases gk with _|k2
  ·exact absurd HA.out (by simp [aeh])
  have H:=HA.out
  clear HA
  simp only [aeh] at H
  replace H:=jD H;rcases H with ⟨dD,H⟩ | ⟨dD,H⟩
  ·replace H:=jI H;obtain⟨dZ,H⟩:=H
   obtain⟨⟨d9,cu⟩,ed,H⟩:=qE H
   try dsimp only at H
   replace H:=jB H;rcases H with ⟨rfl,H⟩ | ⟨rfl,H⟩
   ·have H':=aM H
    clear H
    obtain⟨eQ,bC,dR⟩:=R_slice au.out
    subst dR
    have aU:0<=(aI:Int):=qD
    have aV:aI < (ag.length:Int):=qD
    obtain⟨ae,bR,bS⟩:=Kd.at_int (R_reads' au.out).2.2 aI aU aV
    cases bR
    replace aU:=eq_true aU
    replace aV:=eq_true aV
    obtain⟨aZ,bg,dS⟩:=R_slice ai.out
    subst dS
    go_wp2_with (first|((with_reducible refine jc 126 46 ?_);refine jG func126 #[.slice (some aJ) aY.length bL,iV (rd ag aI),.slice aZ aj.length bg] ?_;refine (Sbb.calls k2 ?ek (.slice (some aJ) aY.length bL) aY (rd ag aI) _ _ aj true cu w0 _ ?aR ?aS ?bT ?bU ed.out).mono ?_;(case aS=>exact S_bound af.out);(case aR=>exact qB);(case bT=>exact C_kept_own (R_tight rfl ai.out) (fun k_ hk_ hs_=>by first|exact hs_.1.2 hk_|exact hs_.1.2.1 hk_|exact hs_.1.2.2 hk_|exact hs_.1.1.2 hk_|exact hs_.1.1.1.2 hk_|exact ajS ai.out (by decide) hk_ hs_.2.2.2));(case bU=>exact (kp ai));rintro e dU ⟨rfl,hy0,hb,hkp⟩;refine⟨_,rfl,?_⟩;replace af:=aM ((by first|exact S_mono (ok':=fun k_=>(((az k_\/w.heap.size<=k_))/\(some k_≠(.slice (some ae) ag.length bC:Value).ownBlock/\some k_≠(.slice aZ aj.length bg:Value).ownBlock))) hy0 (fun k_ h_=>Or.elim h_ (fun h_=>h_.1) (fun h_=>.inr (by first|exact Nat.le_trans HK.out.1 h_|exact Nat.le_trans (aa4 HB.out) h_)))|exact S_mono (ok':=fun k_=>(((az k_\/w.heap.size<=k_))/\(some k_≠(.slice (some ae) ag.length bC:Value).ownBlock/\some k_≠(.slice aZ aj.length bg:Value).ownBlock))) hy0 (fun _ _=>trivial)|exact S_mono (ok':=fun k_=>(((az k_\/w.heap.size<=k_))/\(some k_≠(.slice (some ae) ag.length bC:Value).ownBlock/\some k_≠(.slice aZ aj.length bg:Value).ownBlock))) hy0 (fun k_ h_=>Or.elim h_ (fun h_=>h_.1) (fun h_=>⟨.inr (Nat.le_trans HK.out.1 h_),fun e_=>by have:=R_lt au.out k_ e_.symm;omega⟩))|exact S_mono (ok':=fun k_=>(((az k_\/w.heap.size<=k_))/\(some k_≠(.slice (some ae) ag.length bC:Value).ownBlock/\some k_≠(.slice aZ aj.length bg:Value).ownBlock))) hy0 (fun k_ h_=>Or.elim h_ (fun h_=>h_.1) (fun h_=>⟨.inr (Nat.le_trans HK.out.1 h_),fun e_=>by have:=R_lt ai.out k_ e_.symm;omega⟩))|exact S_mono (ok':=fun k_=>(((az k_\/w.heap.size<=k_))/\(some k_≠(.slice (some ae) ag.length bC:Value).ownBlock/\some k_≠(.slice aZ aj.length bg:Value).ownBlock))) hy0 (fun k_ h_=>Or.elim h_ (fun h_=>h_.1) (fun h_=>⟨⟨.inr (Nat.le_trans HK.out.1 h_),fun e_=>by have:=R_lt au.out k_ e_.symm;omega⟩,fun e_=>by have:=R_lt ai.out k_ e_.symm;omega⟩))|exact S_mono (ok':=fun k_=>(((az k_\/w.heap.size<=k_))/\(some k_≠(.slice (some ae) ag.length bC:Value).ownBlock/\some k_≠(.slice aZ aj.length bg:Value).ownBlock))) hy0 (fun k_ h_=>Or.elim h_ (fun h_=>h_.1) (fun h_=>⟨⟨.inr (Nat.le_trans HK.out.1 h_),fun e_=>by have:=R_lt ai.out k_ e_.symm;omega⟩,fun e_=>by have:=R_lt au.out k_ e_.symm;omega⟩))|exact S_mono (ok':=fun k_=>(((az k_\/w.heap.size<=k_))/\(some k_≠(.slice (some ae) ag.length bC:Value).ownBlock/\some k_≠(.slice aZ aj.length bg:Value).ownBlock))) hy0 (fun k_ h_=>Or.elim h_ (fun h_=>h_.1) (fun h_=>⟨.inr (Nat.le_trans HK.out.1 h_),⟨fun e_=>by have:=R_lt au.out k_ e_.symm;omega,fun e_=>by have:=R_lt ai.out k_ e_.symm;omega⟩⟩))|exact S_mono (ok':=fun k_=>(((az k_\/w.heap.size<=k_))/\(some k_≠(.slice (some ae) ag.length bC:Value).ownBlock/\some k_≠(.slice aZ aj.length bg:Value).ownBlock))) hy0 (fun k_ h_=>Or.elim h_ (fun h_=>h_.1) (fun h_=>⟨.inr (Nat.le_trans HK.out.1 h_),⟨fun e_=>by have:=R_lt ai.out k_ e_.symm;omega,fun e_=>by have:=R_lt au.out k_ e_.symm;omega⟩⟩))));replace au:=aM (R_mono (ok':=fun k_=>(az k_\/w.heap.size<=k_)/\some k_≠(.slice aZ aj.length bg:Value).ownBlock) (R_keptB (R_tight rfl au.out) hkp (fun k_ hk_ hs_=>by first|exact hs_.1.2 hk_|exact hs_.1.2.1 hk_|exact hs_.1.2.2 hk_|exact hs_.1.1.2 hk_|exact hs_.1.1.1.2 hk_|exact ajS au.out (by decide) hk_ hs_.2.2.2)) (fun k_ hk_=>au.out.1 k_ hk_.1.symm));replace ai:=aM (R_mono (ok':=fun k_=>(az k_\/w.heap.size<=k_)/\some k_≠(.slice (some ae) ag.length bC:Value).ownBlock) (R_keptB (R_tight rfl ai.out) hkp (fun k_ hk_ hs_=>by first|exact hs_.1.2 hk_|exact hs_.1.2.1 hk_|exact hs_.1.2.2 hk_|exact hs_.1.1.2 hk_|exact hs_.1.1.1.2 hk_|exact ajS ai.out (by decide) hk_ hs_.2.2.2)) (fun k_ hk_=>ai.out.1 k_ hk_.1.symm));replace HK:=aM (Kept.then_ (S:=(fun k_=>az k_)) qT hkp (fun k_ hs_=>by first|exact hs_.1.1|exact hs_.1.1.1|exact hs_.1));replace HB:=aM hb;(try clear hb);(try clear hkp);(try clear hy0)))
    (try simp only [<- ax])
    go_roundg k2
    case measure=>have:=bZ.out;have:=dn.out;omega
    exact⟨_,_,_,qZ,qZ,H',⟨by have:=bZ.out;have:=dn.out;omega⟩,⟨by (try simp only [ax]);(with_reducible repeat (first|apply S_alloc|apply S_drewN|apply S_drew));exact af.out⟩,⟨by (try simp only [ax]);(with_reducible repeat (first|apply R_alloc|apply R_drewN|apply R_drew));exact au.out⟩,⟨by (try simp only [ax]);(with_reducible repeat (first|apply R_alloc|apply R_drewN|apply R_drew));exact ai.out⟩,⟨qT⟩,⟨qB⟩⟩
   have H':=aM H
   clear H
   obtain⟨eT,bD,dV⟩:=R_slice au.out
   subst dV
   have aU:0<=(aI:Int):=qD
   have aV:aI < (ag.length:Int):=qD
   obtain⟨ae,bR,bS⟩:=Kd.at_int (R_reads' au.out).2.2 aI aU aV
   cases bR
   replace aU:=eq_true aU
   replace aV:=eq_true aV
   obtain⟨bi,bn,dW⟩:=R_slice ai.out
   subst dW
   go_wp2_with (first|((with_reducible refine jc 126 46 ?_);refine jG func126 #[.slice (some aJ) aY.length bL,iV (rd ag aI),.slice bi aj.length bn] ?_;refine (Sbb.calls k2 ?eu (.slice (some aJ) aY.length bL) aY (rd ag aI) _ _ aj false cu w0 _ ?aR ?aS ?bT ?bU ed.out).mono ?_;(case aS=>exact S_bound af.out);(case aR=>exact qB);(case bT=>exact C_kept_own (R_tight rfl ai.out) (fun k_ hk_ hs_=>by first|exact hs_.1.2 hk_|exact hs_.1.2.1 hk_|exact hs_.1.2.2 hk_|exact hs_.1.1.2 hk_|exact hs_.1.1.1.2 hk_|exact ajS ai.out (by decide) hk_ hs_.2.2.2));(case bU=>exact (kp ai));rintro e dU ⟨rfl,hy0,hb,hkp⟩;refine⟨_,rfl,?_⟩;replace af:=aM ((by first|exact S_mono (ok':=fun k_=>(((az k_\/w.heap.size<=k_))/\(some k_≠(.slice (some ae) ag.length bD:Value).ownBlock/\some k_≠(.slice bi aj.length bn:Value).ownBlock))) hy0 (fun k_ h_=>Or.elim h_ (fun h_=>h_.1) (fun h_=>.inr (by first|exact Nat.le_trans HK.out.1 h_|exact Nat.le_trans (aa4 HB.out) h_)))|exact S_mono (ok':=fun k_=>(((az k_\/w.heap.size<=k_))/\(some k_≠(.slice (some ae) ag.length bD:Value).ownBlock/\some k_≠(.slice bi aj.length bn:Value).ownBlock))) hy0 (fun _ _=>trivial)|exact S_mono (ok':=fun k_=>(((az k_\/w.heap.size<=k_))/\(some k_≠(.slice (some ae) ag.length bD:Value).ownBlock/\some k_≠(.slice bi aj.length bn:Value).ownBlock))) hy0 (fun k_ h_=>Or.elim h_ (fun h_=>h_.1) (fun h_=>⟨.inr (Nat.le_trans HK.out.1 h_),fun e_=>by have:=R_lt au.out k_ e_.symm;omega⟩))|exact S_mono (ok':=fun k_=>(((az k_\/w.heap.size<=k_))/\(some k_≠(.slice (some ae) ag.length bD:Value).ownBlock/\some k_≠(.slice bi aj.length bn:Value).ownBlock))) hy0 (fun k_ h_=>Or.elim h_ (fun h_=>h_.1) (fun h_=>⟨.inr (Nat.le_trans HK.out.1 h_),fun e_=>by have:=R_lt ai.out k_ e_.symm;omega⟩))|exact S_mono (ok':=fun k_=>(((az k_\/w.heap.size<=k_))/\(some k_≠(.slice (some ae) ag.length bD:Value).ownBlock/\some k_≠(.slice bi aj.length bn:Value).ownBlock))) hy0 (fun k_ h_=>Or.elim h_ (fun h_=>h_.1) (fun h_=>⟨⟨.inr (Nat.le_trans HK.out.1 h_),fun e_=>by have:=R_lt au.out k_ e_.symm;omega⟩,fun e_=>by have:=R_lt ai.out k_ e_.symm;omega⟩))|exact S_mono (ok':=fun k_=>(((az k_\/w.heap.size<=k_))/\(some k_≠(.slice (some ae) ag.length bD:Value).ownBlock/\some k_≠(.slice bi aj.length bn:Value).ownBlock))) hy0 (fun k_ h_=>Or.elim h_ (fun h_=>h_.1) (fun h_=>⟨⟨.inr (Nat.le_trans HK.out.1 h_),fun e_=>by have:=R_lt ai.out k_ e_.symm;omega⟩,fun e_=>by have:=R_lt au.out k_ e_.symm;omega⟩))|exact S_mono (ok':=fun k_=>(((az k_\/w.heap.size<=k_))/\(some k_≠(.slice (some ae) ag.length bD:Value).ownBlock/\some k_≠(.slice bi aj.length bn:Value).ownBlock))) hy0 (fun k_ h_=>Or.elim h_ (fun h_=>h_.1) (fun h_=>⟨.inr (Nat.le_trans HK.out.1 h_),⟨fun e_=>by have:=R_lt au.out k_ e_.symm;omega,fun e_=>by have:=R_lt ai.out k_ e_.symm;omega⟩⟩))|exact S_mono (ok':=fun k_=>(((az k_\/w.heap.size<=k_))/\(some k_≠(.slice (some ae) ag.length bD:Value).ownBlock/\some k_≠(.slice bi aj.length bn:Value).ownBlock))) hy0 (fun k_ h_=>Or.elim h_ (fun h_=>h_.1) (fun h_=>⟨.inr (Nat.le_trans HK.out.1 h_),⟨fun e_=>by have:=R_lt ai.out k_ e_.symm;omega,fun e_=>by have:=R_lt au.out k_ e_.symm;omega⟩⟩))));replace au:=aM (R_mono (ok':=fun k_=>(az k_\/w.heap.size<=k_)/\some k_≠(.slice bi aj.length bn:Value).ownBlock) (R_keptB (R_tight rfl au.out) hkp (fun k_ hk_ hs_=>by first|exact hs_.1.2 hk_|exact hs_.1.2.1 hk_|exact hs_.1.2.2 hk_|exact hs_.1.1.2 hk_|exact hs_.1.1.1.2 hk_|exact ajS au.out (by decide) hk_ hs_.2.2.2)) (fun k_ hk_=>au.out.1 k_ hk_.1.symm));replace ai:=aM (R_mono (ok':=fun k_=>(az k_\/w.heap.size<=k_)/\some k_≠(.slice (some ae) ag.length bD:Value).ownBlock) (R_keptB (R_tight rfl ai.out) hkp (fun k_ hk_ hs_=>by first|exact hs_.1.2 hk_|exact hs_.1.2.1 hk_|exact hs_.1.2.2 hk_|exact hs_.1.1.2 hk_|exact hs_.1.1.1.2 hk_|exact ajS ai.out (by decide) hk_ hs_.2.2.2)) (fun k_ hk_=>ai.out.1 k_ hk_.1.symm));replace HK:=aM (Kept.then_ (S:=(fun k_=>az k_)) qT hkp (fun k_ hs_=>by first|exact hs_.1.1|exact hs_.1.1.1|exact hs_.1));replace HB:=aM hb;(try clear hb);(try clear hkp);(try clear hy0)))
   (try simp only [<- ax])
   go_roundg k2
   case measure=>have:=bZ.out;have:=dn.out;omega
   exact⟨_,_,_,qZ,qZ,H',⟨by have:=bZ.out;have:=dn.out;omega⟩,⟨by (try simp only [ax]);(with_reducible repeat (first|apply S_alloc|apply S_drewN|apply S_drew));exact af.out⟩,⟨by (try simp only [ax]);(with_reducible repeat (first|apply R_alloc|apply R_drewN|apply R_drew));exact au.out⟩,⟨by (try simp only [ax]);(with_reducible repeat (first|apply R_alloc|apply R_drewN|apply R_drew));exact ai.out⟩,⟨qT⟩,⟨qB⟩⟩
  have H':=aM H
  clear H
  obtain⟨eU,eX,dX⟩:=R_slice au.out
  subst dX
  go_wp2
  (try simp only [<- ax])
  go_roundg k2
  case measure=>have:=bZ.out;have:=dn.out;omega
  exact⟨(aY),(bY),(wrap64 (aa+1)),qZ,qZ,H',⟨by have:=bZ.out;have:=dn.out;omega⟩,⟨by (try simp only [ax]);(with_reducible repeat (first|apply S_alloc|apply S_drewN|apply S_drew));exact S_mono af.out (fun _ hk=>hk.1)⟩,⟨qT⟩,⟨qB⟩⟩
 obtain⟨rfl,rfl⟩:=oJ2 H
 go_wp2
 go_ret
 exact⟨qW,qS af,qB,qT⟩
mutual
def af8:Nat->List S27->List (List Int)->Int->Option ((List (List Int)))
 | 0,_,_,_=>none
 | k+1,x0,x3,x4=>if x4 < (x0.length:Int) then (if x3.length < 5864062014805 then (af8 k x0 (x3 ++ [(([]:List Int))]) (wrap64 (x4+1))) else (none)) else ((amW k).bind fun az=>(if 0 < (x3.length:Int) then (aer k x0 (x3.set (0:Int).toNat az)) else (none)))
def aer:Nat->List S27->List (List Int)->Option ((List (List Int)))
 | 0,_,_=>none
 | k+1,x0,x3=>(Sbd.f k x0 x3).bind fun bn=>(if bn.1=true then (aer k x0 bn.2) else (aeq k x0 bn.2 0))
def aeq:Nat->List S27->List (List Int)->Int->Option ((List (List Int)))
 | 0,_,_,_=>none
 | k+1,x0,x3,x5=>if x5 < (x0.length:Int) then (if 0<=x5 then (if x5 < (x3.length:Int) then (if ((aaY x3 x5).length:Int)=0 then ((amW k).bind fun aA=>(aeq k x0 (x3.set (x5:Int).toNat aA) (wrap64 (x5+1)))) else (aeq k x0 x3 (wrap64 (x5+1)))) else (none)) else (none)) else (some x3)
end
def Sai.f (k:Nat) (l0:List S27):Option ((List (List Int))):=(some (([]:List (List Int)):List (List Int))).bind fun bC=>((Sag.f k l0).bind fun bQ=>(if bQ=true then (af8 k l0 bC 0) else (some bC)))
theorem Sai.calls (k:Nat) (A0:Option Addr) (c0:Nat) (l0:List S27) (r:List (List Int)) (w:World) (hr0:Kd.C k27 w A0 l0.length l0) (hc0:l0.length<=c0) (h:Sai.f k l0=some r) :
  Calls prog 99 #[.slice A0 l0.length c0] w fun e w'=>∃ fC:Value,e = .returned (fC)/\Kd.S (Kd.slice 3 (Kd.int .i64)) 43 w' w.heap.size (fun _=>True) fC r/\Below w.heap.size w w':=by
 have eB:=aM hr0
 have eD:=aM hc0
 clear hr0 hc0
 have HB:=jb_ w
 have H:=h;unfold Sai.f at H
 clear h
 obtain⟨bC,aH⟩:=ky ((([]:List (List Int))):List (List Int))
 replace H:=kv aH H
 obtain⟨bQ,A2,H⟩:=qE H
 try dsimp only at H
 replace H:=jB H;rcases H with ⟨rfl,H⟩ | ⟨rfl,H⟩
 ·have H':=aM H
  clear H
  go_enter func99,ntmps99
  go_wp2_with (first|((with_reducible refine jd 6 ?_);refine S_lit (Kd.slice 3 (Kd.int .i64)) _ 43 ?hg (N:=6) ?hd (xs:=([]:List (List Int))) (inner:=[]) (ok:=fun _=>True) (okp:=fun _=>True) ?hr ?hp (fun _ hk=>hk) trivial (Below.refl _ _) (Nat.le_refl _) (by simp) ?_;(case hd=>rfl);(case hg=>rfl);(case hr=>first|(go_simp;done)|(go_simp;rfl));(case hp=>exact (aa9 _ _));intro dE w4 dF hb hg_ hnew_;clear hg_ hnew_;replace dF:=kr aH dF;have ax:=aM (S_lower dF (aa4 qB));replace HB:=kH hb;clear hb dF)|((with_reducible refine jc 36 8 ?_);refine jK func36 (Sag.calls k _ _ l0 true _ (kb eB HB) eD.out A2.out) ?_;intro w6 hb;replace ax:=kS ax hb;replace HB:=kH hb;clear hb))
  go_loopg [3,4] k (fun kq v3 v4 w'=>∃ (ay:List (List Int)) (cK:Int),v4 = iV cK/\aa1 (af8 kq l0 ay cK=some r)/\aa1 (kq<=k)/\aa1 (Kd.S (Kd.slice 3 (Kd.int .i64)) 43 w' w.heap.size (fun _=>True) v3 ay)/\aa1 (Below w.heap.size w w'))
  case atStart=>exact⟨(bC),(0),qZ,H',⟨Nat.le_refl _⟩,⟨qS ax⟩,⟨qB⟩⟩
  clear H'
  obtain⟨ay,cK,rfl,HA,bR,aa,HB⟩:=hrel
  rcases gk with _|k1
  ·exact absurd HA.out (by simp [af8])
  have H:=HA.out
  clear HA
  simp only [af8] at H
  replace H:=jD H;rcases H with ⟨cO,H⟩ | ⟨cO,H⟩
  ·obtain⟨bD,aW⟩:=ky ([]:List Int)
   replace H:=kv aW H
   replace H:=jL H;obtain⟨eG,H⟩:=H
   obtain⟨fD,bq⟩:=ky ((ay ++ [bD]):List (List Int))
   replace H:=kv bq H
   have H':=aM H
   clear H
   go_wp2_with (first|((with_reducible refine jd 18 ?_);refine jV (Kd.int .i64) 3 ([]:List Int) [] (aa9 _ _) ?_;intro fE fZ bE hb;replace bE:=kr aW bE;have aX:=kL bE;replace aa:=aM (S_elder' (qS aa) (R_base bE) hb);replace HB:=kH hb;clear hb bE;obtain⟨dG,dH,eH⟩:=R_slice aX.out;subst eH)|((with_reducible refine aaa (b:=.append) (xs:=#[.tmp 17,.tmp 19]) rfl ?_);at_builtin;refine S_append (Kd.slice 3 (Kd.int .i64)) (w0:=w) w.heap.size rfl (.tmp 17) (.tmp 19) 105 43 (.slice none 0 0) 24 rfl underlying105 apf rfl (by decide) (by omega) u3 ay bD [.slice dG bD.length dH] (fun _=>True) (fun k_=>some k_=(.slice dG bD.length dH:Value).ownBlock) rfl rfl ?aP (fun k_ hk_=>((R_mono (ok':=fun k_=>((fun _=>True)) k_/\some k_≠(u3:Value).ownBlock) (R_apart' (aX.out) (S_typed aa.out) (by decide)) (fun k_ hk=>⟨trivial,hk.2⟩))).1 k_ hk_.symm) ?aF ?aO ?aB ?aS ?aL ?_;(case aP=>exact M_row (R_mono (R_tight rfl (R_mono (ok':=fun k_=>((fun _=>True)) k_/\some k_≠(u3:Value).ownBlock) (R_apart' (aX.out) (S_typed aa.out) (by decide)) (fun k_ hk=>⟨trivial,hk.2⟩))) (fun _ h_=>h_)));(case aB=>exact qB);(case aF=>exact (fun _ _=>trivial));(case aO=>exact (by (with_reducible repeat (first|apply S_alloc|apply S_drewN|apply S_drew));exact S_mono aa.out (by first|exact fun k_ hk=>⟨trivial,fun e_=>hk.2 e_⟩|exact fun k_ hk=>hk)));(case aS=>exact (aa4 qB));(case aL=>have:=eG.out;omega);intro fF gm ho hb hg hat;rw [<- bq.out] at ho;have df:=aM ho;replace HB:=aM hb;clear aa aX;clear ho hb hg hat))
   go_roundg k1
   case measure=>have:=bR.out;omega
   exact⟨_,_,qZ,H',⟨by have:=bR.out;omega⟩,⟨qS df⟩,⟨qB⟩⟩
  obtain⟨az,gp,H⟩:=qE H
  try dsimp only at H
  replace H:=jU H;obtain⟨c14,H⟩:=H
  have bS:=decide_eq_true c14
  have bT:decide (0 < ay.length)=true:=decide_eq_true (by omega)
  clear c14
  obtain⟨bU,bu⟩:=ky ((ay.set (0:Int).toNat az):List (List Int))
  replace H:=kv bu H
  have H':=aM H
  clear H
  go_wp2_with (first|((with_reducible refine jc 115 22 ?_);refine jM func115 (ahU k1  az _ gp.out) ?_;rintro fG w16 ⟨ho0,hb⟩;have aY:=kL ho0;replace aa:=aM (S_elder' (qS aa) (R_base ho0) hb);replace HB:=kH hb;clear hb;(try clear hk);(try clear ho0);obtain⟨Aoz,coz,eoz⟩:=R_slice aY.out;subst eoz;have dI:0<=(0:Int):=(by omega);have dJ:(0:Int) < ((ay.length:Int):Int):=qD;have dK:(0 < ay.length)=True:=eq_true (by omega);obtain⟨ai,aI,dL,dM,eO,gq,dN⟩:=S_form aa.out (by omega);(first|cases dL|(injection dL with ea_ en_ ec_;(first|subst ea_|(injection ea_ with ea_;subst ea_));subst ec_;clear en_));have dO:=aM dM;have gu:=aM dN;clear dM eO dN;obtain⟨_,gy,dP,dQ,bV,bW,_,_⟩:=S_elem aa.out [] (0:Int) dI dJ;obtain⟨eP,rfl,eQ⟩:=dQ;have aN:=bV 0 _ rfl;have bv:=bW 0;(try simp only [show ((Kd.slice 3 (Kd.int .i64))).sz=1 from rfl,Nat.mul_one,Nat.add_zero] at aN);(try simp only [show ((Kd.slice 3 (Kd.int .i64))).sz=1 from rfl,Nat.mul_one,Nat.add_zero] at bv);clear dP bV bW;(try clear dQ);(try rw [show ((0:Int)).toNat=0 from rfl] at aN);(try simp only [Nat.reduceMul,Nat.zero_mul,Nat.zero_add,Nat.reduceAdd] at aN);(try rw [show ((0:Int)).toNat=0 from rfl] at bv);(try simp only [Nat.reduceMul,Nat.zero_mul,Nat.zero_add,Nat.reduceAdd] at bv);replace dI:=eq_true dI;replace dJ:=eq_true dJ;have n_:=aM (S_mono (ok':=(fun k_=>some k_≠((.slice Aoz az.length coz):Value).ownBlock)) aa.out (fun k_ hk=>hk.2));clear aa;have aa:=n_;clear n_;have eT:=aM (show Kd.S (Kd.slice 3 (Kd.int .i64)) 43 w16 w.heap.size (fun k_=>((fun _=>True)) k_/\¬ ((fun k_=>some k_=((.slice Aoz az.length coz):Value).ownBlock)) k_) (.slice (some ⟨ai,0,none⟩) ay.length aI) ay from (by (with_reducible repeat (first|apply S_alloc|apply S_drewN|apply S_drew));exact S_mono aa.out (by first|exact fun k_ hk=>⟨trivial,fun e_=>hk e_⟩|exact fun k_ hk=>hk)));obtain⟨fH,gz,dR,dS,bX,bY,dh,dU⟩:=S_elem eT.out [] (0:Int) (by omega) (by have h_:(0:Int) < ((ay.length:Int):Int):=qD;first|exact h_|(have e_:=(S_reads' aa.out).1;omega)|simpa using h_);obtain⟨eU,rfl,eX⟩:=dS;have bM:=S_seg dU (by omega) (by have h_:(0:Int) < ((ay.length:Int):Int):=qD;first|exact h_|(have e_:=(S_reads' aa.out).1;omega)|simpa using h_) (seg:=[(.slice Aoz az.length coz)]) (j:=0) (show 1<=1 from by decide) (x':=az) (M_row (R_mono (R_tight rfl (R_mono (ok':=fun k_=>((fun _=>True)) k_/\k_≠ai) (R_apart' (aY.out) (S_typed aa.out) (by decide)) (fun k_ hk=>⟨trivial,fun e_=>(hk.2) (by rw [e_];rfl)⟩))) (fun _ h_=>Or.inr (h_)))) (fun _ hk=>hk) (fun k_ hk_=>((R_mono (ok':=fun k_=>((fun _=>True)) k_/\k_≠ai) (R_apart' (aY.out) (S_typed aa.out) (by decide)) (fun k_ hk=>⟨trivial,fun e_=>(hk.2) (by rw [e_];rfl)⟩))).1 k_ hk_.symm);have aQ:=bX 0 _ rfl;(try simp only [show ((Kd.slice 3 (Kd.int .i64))).sz=1 from rfl,Nat.mul_one,Nat.add_zero] at aQ);(try rw [show ((0:Int)).toNat=0 from rfl] at aQ);(try simp only [Nat.reduceMul,Nat.zero_mul,Nat.zero_add,Nat.reduceAdd] at aQ);have bz:=bY 0;(try simp only [show ((Kd.slice 3 (Kd.int .i64))).sz=1 from rfl,Nat.mul_one,Nat.add_zero] at bz);(try rw [show ((0:Int)).toNat=0 from rfl] at bz);(try simp only [Nat.reduceMul,Nat.zero_mul,Nat.zero_add,Nat.reduceAdd] at bz);clear dR bX bY dh dU;(try clear dS);(try simp only [show ((Kd.slice 3 (Kd.int .i64))).sz=1 from rfl,Nat.mul_one,Nat.add_zero] at bM))|((with_reducible refine aaB (t:=43) (p:=23) rfl ?_);refine aar (t:=43) (p:=23) (v:=?eY) (w1:=(w16.setCell ⟨ai,0,none⟩ ((.slice Aoz az.length coz)))) ?hg ?ho ?hn ?hr ?_;(case ho=>rfl);(case hg=>rfl);(case hn=>rfl);(case hr=>first|(go_simp;done)|(go_simp;rfl));intro eZ hw;have hg:w16.grownBy eZ (some ai):=(by rw [hw];exact bM.2);have hp_:Kd.S (Kd.slice 3 (Kd.int .i64)) 43 eZ w.heap.size (fun _=>True) (.slice (some ⟨ai,0,none⟩) ay.length aI) bU:=(by rw [hw,bu.out];exact bM.1);clear bM;replace aa:=aM hp_;replace HB:=aM ((by rw [hw];exact aac (HB.out) dO.out:Below w.heap.size w eZ));clear aY;clear hg hw hp_))
  go_loopg [] k1 (fun kq w'=>∃ (aU:List (List Int)),aa1 (aer kq l0 aU=some r)/\aa1 (kq<=k1)/\aa1 (Kd.S (Kd.slice 3 (Kd.int .i64)) 43 w' w.heap.size (fun _=>True) (.slice (some ⟨ai,0,none⟩) ay.length aI) aU)/\aa1 (Below w.heap.size w w'))
  case atStart=>exact⟨(bU),H',⟨Nat.le_refl _⟩,⟨qS aa⟩,⟨qB⟩⟩
  clear H'
  try clear cO;try clear c14;try clear bS;try clear bT;try clear dI;try clear dJ;try clear dK;try clear aN;try clear aQ
  obtain⟨aU,HA,dD,aa,HB⟩:=hrel
  have aR:=(S_reads' aa.out).1
  rw [aR] at aa
  (try simp only [aR])
  rcases gk with _|k2
  ·exact absurd HA.out (by simp [aer])
  have H:=HA.out
  clear HA
  simp only [aer] at H
  obtain⟨⟨fI,bF⟩,fJ,H⟩:=qE H
  try dsimp only at H
  replace H:=jB H;rcases H with ⟨rfl,H⟩ | ⟨rfl,H⟩
  ·have H':=aM H
   clear H
   go_wp2_with (first|((with_reducible refine jc 116 26 ?_);refine jG func116 #[.slice A0 l0.length c0,.slice (some ⟨ai,0,none⟩) aU.length aI] ?_;refine (Sbd.calls k2 _ _ l0 ?fK (.slice (some ⟨ai,0,none⟩) aU.length aI) aU true bF w _ ?aJ ?aK ?bG ?bH fJ.out).mono ?_;(case bH=>exact S_bound aa.out);(case aJ=>exact qB);(case aK=>exact C_kept_came acp eB.out qB (fun k_ hs_=>(by first|exact R_base aa.out k_ hs_.symm|exact hs_.2.1)));(case bG=>exact eD.out);rintro e gB ⟨rfl,hy0,hb,hkp⟩;refine⟨_,rfl,?_⟩;replace aa:=aM ((by first|exact S_mono (ok':=fun k_=>True) hy0 (fun k_ h_=>Or.elim h_ (fun h_=>h_.1) (fun h_=>.inr (by first|exact Nat.le_trans HK.out.1 h_|exact Nat.le_trans (aa4 HB.out) h_)))|exact S_mono (ok':=fun k_=>True) hy0 (fun _ _=>trivial)));replace HB:=aM hb;(try clear hb);(try clear hkp);(try clear hy0)))
   (try simp only [<- aR])
   go_roundg k2
   case measure=>have:=bR.out;have:=dD.out;omega
   exact⟨_,H',⟨by have:=bR.out;have:=dD.out;omega⟩,⟨by (try simp only [aR]);(with_reducible repeat (first|apply S_alloc|apply S_drewN|apply S_drew));exact aa.out⟩,⟨qB⟩⟩
  have H':=aM H
  clear H
  go_wp2_with (first|((with_reducible refine jc 116 26 ?_);refine jG func116 #[.slice A0 l0.length c0,.slice (some ⟨ai,0,none⟩) aU.length aI] ?_;refine (Sbd.calls k2 _ _ l0 ?fM (.slice (some ⟨ai,0,none⟩) aU.length aI) aU false bF w _ ?aJ ?aK ?bG ?bH fJ.out).mono ?_;(case bH=>exact S_bound aa.out);(case aJ=>exact qB);(case aK=>exact C_kept_came acp eB.out qB (fun k_ hs_=>(by first|exact R_base aa.out k_ hs_.symm|exact hs_.2.1)));(case bG=>exact eD.out);rintro e gJ ⟨rfl,hy0,hb,hkp⟩;refine⟨_,rfl,?_⟩;replace aa:=aM ((by first|exact S_mono (ok':=fun k_=>True) hy0 (fun k_ h_=>Or.elim h_ (fun h_=>h_.1) (fun h_=>.inr (by first|exact Nat.le_trans HK.out.1 h_|exact Nat.le_trans (aa4 HB.out) h_)))|exact S_mono (ok':=fun k_=>True) hy0 (fun _ _=>trivial)));replace HB:=aM hb;(try clear hb);(try clear hkp);(try clear hy0)))
  go_loopg [5] k2 (fun kq v5 w'=>∃ (ak:List (List Int)) (ag:Int),v5 = iV ag/\aa1 (aeq kq l0 ak ag=some r)/\aa1 (kq<=k2)/\aa1 (Kd.S (Kd.slice 3 (Kd.int .i64)) 43 w' w.heap.size (fun _=>True) (.slice (some ⟨ai,0,none⟩) aU.length aI) ak)/\aa1 (Below w.heap.size w w'))
  case atStart=>exact⟨(bF),(0),qZ,H',⟨Nat.le_refl _⟩,⟨by (try simp only [aR]);(with_reducible repeat (first|apply S_alloc|apply S_drewN|apply S_drew));exact aa.out⟩,⟨qB⟩⟩
  clear H'
  try clear cO;try clear c14;try clear bS;try clear bT;try clear dI;try clear dJ;try clear dK;try clear aN;try clear aQ
  obtain⟨ak,ag,rfl,HA,eF,aa,HB⟩:=hrel
  have aV:=(S_reads' aa.out).1
  rw [aV] at aa
  (try simp only [aV])
  rcases gk with _|k3
  ·exact absurd HA.out (by simp [aeq])
  have H:=HA.out
  clear HA
  simp only [aeq] at H
  replace H:=jD H;rcases H with ⟨dV,H⟩ | ⟨dV,H⟩
  ·replace H:=jI H;obtain⟨fO,H⟩:=H
   replace H:=jI H;obtain⟨fP,H⟩:=H
   replace H:=jE H;rcases H with ⟨dW,dX,H⟩ | ⟨gD,dW,dX,H⟩
   ·obtain⟨aA,gK,H⟩:=qE H
    try dsimp only at H
    obtain⟨dY,bA⟩:=ky ((ak.set (ag:Int).toNat aA):List (List Int))
    replace H:=kv bA H
    have H':=aM H
    clear H
    have aC:0<=(ag:Int):=qD
    have aD:ag < (ak.length:Int):=qD
    obtain⟨bB,bN,bO,bI,af,au,av⟩:=afh (S_reads' aa.out).2.2 ag aC aD
    obtain rfl:(⟨ai,0,none⟩:Addr)=bB:=(by injection bI)
    obtain⟨di,aZ,bg,aG⟩:=S_get aa.out [] ag aC (by first|exact aD|exact qD|(have e_:=(S_reads' aa.out).1;omega))
    obtain⟨bJ,rfl,ah⟩:=bg
    have ae:=aG 0 _ rfl
    rw [Nat.add_zero,show ((Kd.slice 3 (Kd.int .i64))).sz=1 from rfl,Nat.mul_one] at ae
    replace ae:=Option.some.inj (ae.symm.trans af)
    rw [ae] at ah
    have aj:=aM (show Kd.R (Kd.int .i64) 3 _ _ _ _ (aaY ak ag) from ah)
    clear ae ah
    clear aG aZ
    (first|simp only [add_plain] at af|simp only [agH] at af|simp only [Addr.add,Nat.zero_add] at af|skip)
    have aT:=aM av
    have bK:=aM au
    clear av au
    replace aC:=eq_true aC
    replace aD:=eq_true aD
    go_wp2_with (first|((with_reducible refine jc 115 41 ?_);refine jG func115 #[] ?_;refine (ahU _ _ _ (aa1.out (by assumption))).mono ?_;rintro e dn ⟨fQ,rfl,ho0,hb⟩;refine⟨_,rfl,?_⟩;have bi:=aM (R_lower (R_new' ho0 (R_lt (qR aj))) (aa4 qB));replace aa:=aM (S_elder' (qS aa) (R_base ho0) hb);replace aj:=kO aj ho0 hb;replace aT:=kQ aT hb;replace HB:=kH hb;clear hb;(try clear hk);(try clear ho0);obtain⟨Aoz,coz,eoz⟩:=R_slice bi.out;subst eoz;have p28:0<=(ag:Int):=qD;have fe:(ag:Int) < ((ak.length:Int):Int):=qD;obtain⟨_,gF,dZ,d9,bZ,cu,_,_⟩:=S_elem aa.out [] (ag:Int) p28 fe;obtain⟨fo,rfl,fq⟩:=d9;have dw:=bZ 0 _ rfl;have dx:=cu 0;(try simp only [show ((Kd.slice 3 (Kd.int .i64))).sz=1 from rfl,Nat.mul_one,Nat.add_zero] at dw);(try simp only [show ((Kd.slice 3 (Kd.int .i64))).sz=1 from rfl,Nat.mul_one,Nat.add_zero] at dx);clear dZ bZ cu;(try clear d9);replace p28:=eq_true p28;replace fe:=eq_true fe;have n_:=aM (S_mono (ok':=(fun k_=>some k_≠((.slice Aoz aA.length coz):Value).ownBlock)) aa.out (fun k_ hk=>hk.2));clear aa;have aa:=n_;clear n_;have fu:=aM (show Kd.S (Kd.slice 3 (Kd.int .i64)) 43 dn w.heap.size (fun k_=>((fun _=>True)) k_/\¬ ((fun k_=>some k_=((.slice Aoz aA.length coz):Value).ownBlock)) k_) (.slice (some ⟨ai,0,none⟩) ak.length aI) ak from (by (with_reducible repeat (first|apply S_alloc|apply S_drewN|apply S_drew));exact S_mono aa.out (by first|exact fun k_ hk=>⟨trivial,fun e_=>hk e_⟩|exact fun k_ hk=>hk)));obtain⟨fT,gG,ed,ek,cz,cB,dz,eu⟩:=S_elem fu.out [] (ag:Int) (qD) (by have h_:(ag:Int) < ((ak.length:Int):Int):=qD;first|exact h_|(have e_:=(S_reads' aa.out).1;omega)|simpa using h_);obtain⟨fw,rfl,fA⟩:=ek;have bP:=S_seg eu (qD) (by have h_:(ag:Int) < ((ak.length:Int):Int):=qD;first|exact h_|(have e_:=(S_reads' aa.out).1;omega)|simpa using h_) (seg:=[(.slice Aoz aA.length coz)]) (j:=0) (show 1<=1 from by decide) (x':=aA) (M_row (R_mono (R_tight rfl (R_mono (ok':=fun k_=>((fun _=>True)) k_/\k_≠ai) (R_apart' (bi.out) (S_typed aa.out) (by decide)) (fun k_ hk=>⟨trivial,fun e_=>(hk.2) (by rw [e_];rfl)⟩))) (fun _ h_=>Or.inr (h_)))) (fun _ hk=>hk) (fun k_ hk_=>((R_mono (ok':=fun k_=>((fun _=>True)) k_/\k_≠ai) (R_apart' (bi.out) (S_typed aa.out) (by decide)) (fun k_ hk=>⟨trivial,fun e_=>(hk.2) (by rw [e_];rfl)⟩))).1 k_ hk_.symm);have dA:=cz 0 _ rfl;(try simp only [show ((Kd.slice 3 (Kd.int .i64))).sz=1 from rfl,Nat.mul_one,Nat.add_zero] at dA);have dB:=cB 0;(try simp only [show ((Kd.slice 3 (Kd.int .i64))).sz=1 from rfl,Nat.mul_one,Nat.add_zero] at dB);clear ed cz cB dz eu;(try clear ek);(try simp only [show ((Kd.slice 3 (Kd.int .i64))).sz=1 from rfl,Nat.mul_one,Nat.add_zero] at bP))|((with_reducible refine aaB (t:=43) (p:=42) rfl ?_);refine aar (t:=43) (p:=42) (v:=?fB) (w1:=(dn.setCell ⟨ai,(ag:Int).toNat,none⟩ ((.slice Aoz aA.length coz)))) ?hg ?ho ?hn ?hr ?_;(case ho=>rfl);(case hg=>rfl);(case hn=>rfl);(case hr=>first|(go_simp;done)|(go_simp;rfl));intro dC hw;have hg:dn.grownBy dC (some ai):=(by rw [hw];exact bP.2);have hp_:Kd.S (Kd.slice 3 (Kd.int .i64)) 43 dC w.heap.size (fun _=>True) (.slice (some ⟨ai,0,none⟩) ak.length aI) dY:=(by rw [hw,bA.out];exact bP.1);clear bP;replace aa:=aM hp_;replace aj:=aM (R_after (v:=(.slice (some ⟨ai,0,none⟩) ak.length aI)) (v1:=(.slice (some ⟨ai,0,none⟩) ak.length aI)) (ok:=(fun k_=>some k_≠((.slice Aoz aA.length coz):Value).ownBlock)) (by (with_reducible repeat (first|apply R_alloc|apply R_drewN|apply R_drew));exact R_mono aj.out (fun _ hk=>⟨hk.2,hk.1.2⟩)) hg (.inl rfl));replace HB:=aM ((by rw [hw];exact aac (HB.out) dO.out:Below w.heap.size w dC));clear bi;clear hg hw hp_))
    (try simp only [<- aV])
    go_roundg k3
    case measure=>have:=bR.out;have:=dD.out;have:=eF.out;omega
    exact⟨_,_,qZ,H',⟨by have:=bR.out;have:=dD.out;have:=eF.out;omega⟩,⟨by (try simp only [aR]);(try simp only [aV]);(with_reducible repeat (first|apply S_alloc|apply S_drewN|apply S_drew));exact aa.out⟩,⟨qB⟩⟩
   have fU:¬ ((aaY ak ag)=[]):=fun h_=>gD (by rw [h_];rfl)
   have H':=aM H
   clear H
   have aC:0<=(ag:Int):=qD
   have aD:ag < (ak.length:Int):=qD
   obtain⟨bB,bN,bO,bI,af,au,av⟩:=afh (S_reads' aa.out).2.2 ag aC aD
   obtain rfl:(⟨ai,0,none⟩:Addr)=bB:=(by injection bI)
   obtain⟨di,aZ,bg,aG⟩:=S_get aa.out [] ag aC (by first|exact aD|exact qD|(have e_:=(S_reads' aa.out).1;omega))
   obtain⟨bJ,rfl,ah⟩:=bg
   have ae:=aG 0 _ rfl
   rw [Nat.add_zero,show ((Kd.slice 3 (Kd.int .i64))).sz=1 from rfl,Nat.mul_one] at ae
   replace ae:=Option.some.inj (ae.symm.trans af)
   rw [ae] at ah
   have aj:=aM (show Kd.R (Kd.int .i64) 3 _ _ _ _ (aaY ak ag) from ah)
   clear ae ah
   clear aG aZ
   (first|simp only [add_plain] at af|simp only [agH] at af|simp only [Addr.add,Nat.zero_add] at af|skip)
   have aT:=aM av
   have bK:=aM au
   clear av au
   replace aC:=eq_true aC
   replace aD:=eq_true aD
   go_wp2
   (try simp only [<- aV])
   go_roundg k3
   case measure=>have:=bR.out;have:=dD.out;have:=eF.out;omega
   exact⟨(ak),(wrap64 (ag+1)),qZ,H',⟨by have:=bR.out;have:=dD.out;have:=eF.out;omega⟩,⟨by (try simp only [aR]);(try simp only [aV]);(with_reducible repeat (first|apply S_alloc|apply S_drewN|apply S_drew));exact aa.out⟩,⟨qB⟩⟩
  obtain rfl:=oJ H
  go_wp2
  go_ret
  exact⟨_,qW,qS aa,qB⟩
 obtain rfl:=oJ H
 go_enter func99,ntmps99
 go_wp2_with (first|((with_reducible refine jd 6 ?_);refine S_lit (Kd.slice 3 (Kd.int .i64)) _ 43 ?hg (N:=6) ?hd (xs:=([]:List (List Int))) (inner:=[]) (ok:=fun _=>True) (okp:=fun _=>True) ?hr ?hp (fun _ hk=>hk) trivial (Below.refl _ _) (Nat.le_refl _) (by simp) ?_;(case hd=>rfl);(case hg=>rfl);(case hr=>first|(go_simp;done)|(go_simp;rfl));(case hp=>exact (aa9 _ _));intro dE gH bL hb hg_ hnew_;clear hg_ hnew_;replace bL:=kr aH bL;have ax:=aM (S_lower bL (aa4 qB));replace HB:=kH hb;clear hb bL)|((with_reducible refine jc 36 8 ?_);refine jK func36 (Sag.calls k _ _ l0 false _ (kb eB HB) eD.out A2.out) ?_;intro gI hb;replace ax:=kS ax hb;replace HB:=kH hb;clear hb))
 go_ret
 exact⟨_,qW,qS ax,qB⟩
end Go.Proofs.YtebpplallecogaaGreat.M
namespace Go.Proofs.YtebpplallecogaaGreat.M
open Go.Proofs.Tryz Go.RowKit Go.Proofs.YtebpplallecogaaGreatW.PrintWords Go.Proofs.YtebpplallecogaaGreatW.PrintLast Go.Proofs.YtebpplallecogaaGreatW.PrintMore
attribute [local go_sem] aal aaj aaz aay aae aad aak aai
def adH:Nat->List Int->Int->Bool->Int->Int->Int->Int->Int->Option (Int × Int × Int × Int × Int)
 | 0,_,_,_,_,_,_,_,_=>none
 | k+1,x1,x6,x7,az,aA,af,ak,aB=>if x7=true then (if 0<=af then (if af < (x1.length:Int) then (some (az,aA,rd x1 af,ak,aB)) else (none)) else (none)) else (if x6=3 then (if 0<=af then (if af < (x1.length:Int) then (if 0<=ak then (if ak < (x1.length:Int) then (some (az,aA,rd x1 af,rd x1 ak,aB)) else (none)) else (none)) else (none)) else (none)) else (some (az,aA,af,ak,aB)))
def alg (k:Nat) (aa ax aj av ay:Int) (l1:List Int):Option (Int × Int × Int × Int × Int):=if aa=2 then (adH k l1 aa (aa == 2) aa ax aj av ay) else (if aa=5 then (adH k l1 aa (aa == 5) aa ax aj av ay) else (if aa=6 then (adH k l1 aa (aa == 6) aa ax aj av ay) else (adH k l1 aa (aa == 9) aa ax aj av ay)))
theorem alh (k:Nat) (aa ax aj av ay:Int) (A1:Option Addr) (c1:Nat) (l1:List Int) (r1 r2 r3 r4 r5:Int) (w:World) (hr1:Kd.C (Kd.int .i64) w A1 l1.length l1) (hc1:l1.length<=c1) (h:alg k aa ax aj av ay l1=some (r1,r2,r3,r4,r5)) :
  Calls prog 100 #[.agg #[iV aa,iV ax,iV aj,iV av,iV ay],.slice A1 l1.length c1] w fun e w'=>e = .returned (.agg #[iV r1,iV r2,iV r3,iV r4,iV r5])/\Below w.heap.size w w':=by
 have bN:=underlying27
 have HR1:=aM hr1
 have bX:=aM hc1
 clear hr1 hc1
 have HB:=jb_ w
 have H:=h;unfold alg at H
 clear h
 have bi:=aM H
 clear H
 go_enter func100,ntmps100
 go_upto_if 7 with (first|((with_reducible refine jd 2 ?_);refine jY _ 27 ?_;intro aH hg w4 ae hb;have aR:=kG hg;replace HB:=kH hb;clear hb hg)|((with_reducible refine jd 4 ?_);refine jY _ 27 ?_;intro aC hg w5 ag hb;have bn:=kG hg;have ah:=kN hg ae;have ai:=kM hg ae;replace ae:=kB ae hb;replace HB:=kH hb;clear hb hg;have bO:=ah.out;have bP:=ai.out;have bQ:=jz5 ae))
 (try simp only [Act.put,List.setIfInBounds_toArray,List.set_cons_zero,List.set_cons_succ])
 go_cut [7] (fun v7 wc=>∃ (kq:Nat) (aS:Bool),v7 = .bool aS/\aa1 (adH kq l1 aa aS aa ax aj av ay=some (r1,r2,r3,r4,r5))/\aa1 (kq<=k)/\aa1 (wc.heap[aH]?=some (.cells #[iV aa,iV ax,iV aj,iV av,iV ay] 27 (0,0)))/\aa1 (wc.heap[aC]?=some (.cells #[iV 0,iV 0,iV 0,iV 0,iV 0] 27 (0,0)))/\aa1 (Below w.heap.size w wc))
 case first =>
  have H:=bi.out
  clear bi
  replace H:=jE H;rcases H with ⟨aI,bq,H⟩ | ⟨c8,aI,bq,H⟩
  ·(first|rw [aI]|(simp only [aas,aaw];rw [aI])|skip)
   have H':=aM H
   clear H
   go_wp2
   go_meet
   exact⟨_,((aa == 2)),qZ,H',⟨by first|omega|exact Nat.le_refl _⟩,⟨qK ae⟩,⟨qK ag⟩,⟨qB⟩⟩
  (first|rw [aI]|(simp only [aas,aaw];rw [aI])|skip)
  replace H:=jE H;rcases H with ⟨bu,bv,H⟩ | ⟨c9,bu,bv,H⟩
  ·have H':=aM H
   clear H
   go_wp2
   go_meet
   exact⟨_,((aa == 5)),qZ,H',⟨by first|omega|exact Nat.le_refl _⟩,⟨qK ae⟩,⟨qK ag⟩,⟨qB⟩⟩
  replace H:=jE H;rcases H with ⟨aU,aV,H⟩ | ⟨c10,aU,aV,H⟩
  ·have H':=aM H
   clear H
   go_wp2
   go_meet
   exact⟨_,((aa == 6)),qZ,H',⟨by first|omega|exact Nat.le_refl _⟩,⟨qK ae⟩,⟨qK ag⟩,⟨qB⟩⟩
  have H':=aM H
  clear H
  go_wp2
  go_meet
  exact⟨_,((aa == 9)),qZ,H',⟨by first|omega|exact Nat.le_refl _⟩,⟨qK ae⟩,⟨qK ag⟩,⟨qB⟩⟩
 clear bi
 try clear c1;try clear bQ
 obtain⟨kq,aS,rfl,HA,HJ2,ae,ag,HB⟩:=hcut
 cases kq with
 | zero=>exact absurd HA.out (by simp [adH])
 | succ bY =>
  have H:=HA.out
  clear HA
  simp only [adH] at H
  replace H:=jB H;rcases H with ⟨rfl,H⟩ | ⟨rfl,H⟩
  ·replace H:=jI H;obtain⟨bA,H⟩:=H
   replace H:=jI H;obtain⟨bB,H⟩:=H
   obtain⟨rfl,rfl,rfl,rfl,rfl⟩:=oJ5 H
   have bC:=ah.out
   have bD:=ai.out
   have bR:=jz5 ae
   have aJ:0<=(aj:Int):=qD
   have aK:aj < (l1.length:Int):=qD
   obtain⟨bz,aW,aD⟩:=Kd.at_int HR1.out aj aJ aK
   cases aW
   replace aD:=kx HB aD
   replace aJ:=eq_true aJ
   replace aK:=eq_true aK
   have bS:=jz5 ag
   go_wp2
   refine bodyPost_ret (results_cell_row rfl _ _ aC 27 #[iV aa,iV ax,iV (rd l1 aj),iV av,iV ay] (0,0) _ rfl (qF ag) underlying27 rfl (by kernel_rfl)) rfl ?_
   exact⟨qW,qB⟩
  replace H:=jE H;rcases H with ⟨aX,aY,H⟩ | ⟨c17,aX,aY,H⟩
  ·replace H:=jI H;obtain⟨bE,H⟩:=H
   replace H:=jI H;obtain⟨bF,H⟩:=H
   replace H:=jI H;obtain⟨bG,H⟩:=H
   replace H:=jI H;obtain⟨bH,H⟩:=H
   obtain⟨rfl,rfl,rfl,rfl,rfl⟩:=oJ5 H
   have bI:=ah.out
   have bJ:=ai.out
   have bT:=jz5 ae
   have aL:0<=(aj:Int):=qD
   have aN:aj < (l1.length:Int):=qD
   obtain⟨aO,aZ,aF⟩:=Kd.at_int HR1.out aj aL aN
   cases aZ
   replace aF:=kx HB aF
   replace aL:=eq_true aL
   replace aN:=eq_true aN
   have aP:0<=(av:Int):=qD
   have aQ:av < (l1.length:Int):=qD
   obtain⟨aT,bg,au⟩:=Kd.at_int HR1.out av aP aQ
   obtain rfl:aO=aT:=(by injection bg)
   have aG:aO.block≠aH:=kn au aR
   replace au:=kx HB au
   replace au:=(cell_far (p:=⟨aH,2,none⟩) (kf (aG)) (iV (rd l1 aj))).trans au
   clear aG
   replace aP:=eq_true aP
   replace aQ:=eq_true aQ
   have bU:=jz5 ag
   go_wp2
   refine bodyPost_ret (results_cell_row rfl _ _ aC 27 #[iV aa,iV ax,iV (rd l1 aj),iV (rd l1 av),iV ay] (0,0) _ rfl (qF ag) underlying27 rfl (by kernel_rfl)) rfl ?_
   exact⟨qW,qB⟩
  obtain⟨rfl,rfl,rfl,rfl,rfl⟩:=oJ5 H
  have bK:=ah.out
  have bL:=ai.out
  have bV:=jz5 ae
  have bW:=jz5 ag
  go_wp2
  refine bodyPost_ret (results_cell_row rfl _ _ aC 27 #[iV aa,iV ax,iV aj,iV av,iV ay] (0,0) _ rfl (qF ag) underlying27 rfl (by kernel_rfl)) rfl ?_
  exact⟨qW,qB⟩
end Go.Proofs.YtebpplallecogaaGreat.M
namespace Go.Proofs.YtebpplallecogaaGreat.M
open Go.Proofs.Tryz Go.RowKit Go.Proofs.YtebpplallecogaaGreatW.PrintWords Go.Proofs.YtebpplallecogaaGreatW.PrintLast Go.Proofs.YtebpplallecogaaGreatW.PrintMore Kd
attribute [local go_sem] aal aaj aaz aay aae aad aak aai
def af7:Nat->List S27->List S27->List (List Int)->Int->Option ((List S27) × Bool)
 | 0,_,_,_,_=>none
 | k+1,x0,x4,x5,x6=>if x6 < (x0.length:Int) then (if 0<=x6 then (if x6 < (x5.length:Int) then ((alg k ((aa0 x0 x6).f0) ((aa0 x0 x6).f1) ((aa0 x0 x6).f2) ((aa0 x0 x6).f3) ((aa0 x0 x6).f4) (aaY x5 x6)).bind fun aC=>(if x4.length < 3518437208883 then (af7 k x0 (x4 ++ [(⟨aC.1,aC.2.1,aC.2.2.1,aC.2.2.2.1,aC.2.2.2.2⟩:S27)]) x5 (wrap64 (x6+1))) else (none))) else (none)) else (none)) else (some (x4,true))
def Saj.f (k:Nat) (l0:List S27):Option ((List S27) × Bool):=(some (([]:List S27):List S27)).bind fun bn=>((Sag.f k l0).bind fun bI=>(if bI=true then ((Sai.f k l0).bind fun ai=>(af7 k l0 bn ai 0)) else (some (bn,false))))
def anT:Bool × List (List Nat × List Nat):=(true,[([],[]),([],[]),([],[]),([1,2],[1,2]),([3],[3]),([],[]),([],[]),([5,6],[5,6]),([7],[7]),([4,8],[4,8]),([9],[9]),([0,10,9],[0,10]),([11,11,0,1,2,3,4,5,6,7,8,9,10,11],[0,11])])
def aq2:List Nat:=[0,0,0,6,14,0,0,96,224,510,1022,2047,4095]
theorem an9:acz .any (opsOf f84 8)=anT:=by kernel_rfl
theorem am2:ab9 anT.2 aq2=true:=by kernel_rfl
theorem Saj.calls (k:Nat) (A0:Option Addr) (c0:Nat) (l0 r1:List S27) (r2:Bool) (w:World) (hr0:Kd.C k27 w A0 l0.length l0) (hc0:l0.length<=c0) (h:Saj.f k l0=some (r1,r2)) :
  Calls prog 84 #[.slice A0 l0.length c0] w fun e w'=>∃ cu:Value,e = .returned (.tuple #[cu,.bool r2])/\Kd.R k27 27 w' w.heap.size (fun _=>True) cu r1/\Below w.heap.size w w':=by
 have dn:=underlying27
 have bV:=aM hr0
 have bW:=aM hc0
 clear hr0 hc0
 have HB:=jb_ w
 have H:=h;unfold Saj.f at H
 clear h
 obtain⟨bn,az⟩:=ky ([]:List S27)
 replace H:=kv az H
 obtain⟨bI,A2,H⟩:=qE H
 try dsimp only at H
 replace H:=jB H;rcases H with ⟨rfl,H⟩ | ⟨rfl,H⟩
 ·obtain⟨ai,A4,H⟩:=qE H
  try dsimp only at H
  have H':=aM H
  clear H
  go_enter func84,ntmps84
  go_wp2_with (first|((with_reducible refine jd 7 ?_);refine jV k27 27 ([]:List S27) [] (aa9 _ _) ?_;intro bM w5 bN hb;replace bN:=kr az bN;have ae:=kL bN;replace HB:=kH hb;clear hb bN)|((with_reducible refine jc 36 9 ?_);refine jK func36 (Sag.calls k _ _ l0 true _ (kb bV HB) bW.out A2.out) ?_;intro w7 hb;replace ae:=kR ae hb;replace HB:=kH hb;clear hb)|((with_reducible refine jc 99 13 ?_);refine jM func99 (Sai.calls k _ _ l0 ai _ (kb bV HB) bW.out A4.out) ?_;rintro bO w8 ⟨ho0,hb⟩;have bJ:=aM (S_lower ho0 (aa4 qB));replace ae:=kR ae hb;replace HB:=kH hb;clear hb;(try clear ho0)))
  go_loopg [4,6] k (fun kq v4 v6 w'=>∃ (bB:List S27) (aa:Int),v6 = iV aa/\aa1 (af7 kq l0 bB ai aa=some (r1,r2))/\aa1 (kq<=k)/\aa1 (Kd.R k27 27 w' w.heap.size (fun _=>True) v4 bB)/\aa1 (Kd.S (Kd.slice 3 (Kd.int .i64)) 43 w' w.heap.size (fun _=>True) bO ai)/\aa1 (Below w.heap.size w w'))
  case atStart=>exact⟨(bn),(0),qZ,H',⟨Nat.le_refl _⟩,⟨qR ae⟩,⟨qS bJ⟩,⟨qB⟩⟩
  clear H'
  obtain⟨bB,aa,rfl,HA,cz,aJ,aA,HB⟩:=hrel
  rcases gk with _|k1
  ·exact absurd HA.out (by simp [af7])
  have H:=HA.out
  clear HA
  simp only [af7] at H
  replace H:=jD H;rcases H with ⟨bX,H⟩ | ⟨bX,H⟩
  ·replace H:=jI H;obtain⟨cB,H⟩:=H
   replace H:=jI H;obtain⟨cK,H⟩:=H
   obtain⟨⟨aK,aN,aQ,aR,aT⟩,dw,H⟩:=qE H
   try dsimp only at H
   replace H:=jL H;obtain⟨bP,H⟩:=H
   obtain⟨bQ,bi⟩:=ky ((bB ++ [(⟨aK,aN,aQ,aR,aT⟩:S27)]):List S27)
   replace H:=kv bi H
   have H':=aM H
   clear H
   try go_wp2
   replace aJ:=aM (R_drew aJ.out)
   replace aA:=aM (S_drew aA.out)
   replace HB:=aM (aaf HB.out)
   have bC:0<=(aa:Int):=qD
   have bD:aa < (l0.length:Int):=qD
   obtain⟨af,bR,aj,ak,au,av,ax⟩:=aaG bV.out aa bC bD
   have aU:=ax
   have aV:=av
   have aW:=au
   have aX:=ak
   have aY:=aj
   cases bR
   replace aj:=kx HB aj
   replace ak:=kx HB ak
   replace au:=kx HB au
   replace av:=kx HB av
   replace ax:=kx HB ax
   replace bC:=eq_true bC
   replace bD:=eq_true bD
   obtain⟨dx,dz,bS⟩:=S_slice aA.out
   (first|subst bS|(injection bS with cO dA df;have dB:=cO.symm;have dC:=df.symm;clear cO dA df;subst dB;subst dC))
   have bq:0<=(aa:Int):=qD
   have bu:aa < (ai.length:Int):=qD
   obtain⟨bK,bv,bz,bT,aH,aZ,bg⟩:=afh (S_reads' aA.out).2.2 aa bq bu
   cases bT
   obtain⟨bY,bG,bH,bA⟩:=S_get aA.out [] aa bq (by first|exact bu|exact qD|(have e_:=(S_reads' aA.out).1;omega))
   obtain⟨bU,rfl,aI⟩:=bH
   have ag:=bA 0 _ rfl
   rw [Nat.add_zero,show ((Kd.slice 3 (Kd.int .i64))).sz=1 from rfl,Nat.mul_one] at ag
   replace ag:=Option.some.inj (ag.symm.trans aH)
   rw [ag] at aI
   have ah:=aM (show Kd.R (Kd.int .i64) 3 _ _ _ _ (aaY ai aa) from aI)
   clear ag aI
   clear bA bG
   have ay:=aM bg
   have bE:=aM aZ
   clear bg aZ
   replace bq:=eq_true bq
   replace bu:=eq_true bu
   refine abl (n:=13) (S:=fun w'=>w'.cell? (af.add ((aa).toNat*5))=some (iV ((aa0 l0 aa).f0))/\w'.cell? ⟨(af.add ((aa).toNat*5)).block,(af.add ((aa).toNat*5)).off+1,none⟩=some (iV ((aa0 l0 aa).f1))/\w'.cell? ⟨(af.add ((aa).toNat*5)).block,(af.add ((aa).toNat*5)).off+2,none⟩=some (iV ((aa0 l0 aa).f2))/\w'.cell? ⟨(af.add ((aa).toNat*5)).block,(af.add ((aa).toNat*5)).off+3,none⟩=some (iV ((aa0 l0 aa).f3))/\w'.cell? ⟨(af.add ((aa).toNat*5)).block,(af.add ((aa).toNat*5)).off+4,none⟩=some (iV ((aa0 l0 aa).f4))/\w'.cell? (bK.add (aa).toNat)=some (.slice bv (aaY ai aa).length bz)) (ds:=[10,11]) (jb 13 0) (by kernel_rfl) rfl rfl ⟨(kx HB aY),(kx HB aX),(kx HB aW),(kx HB aV),(kx HB aU),aH⟩ (fun hHeld=>?_);refine aaL an9 am2 (fun HT_ HW_=>?_)
   generalize wr.drew=dD at aJ aA HB ah ay aj ak au av ax aH hHeld ⊢
   refine jp 0 20 (jb 13 1) ?_
   refine jp 1 21 (jb 13 3) ?_
   refine jp 2 22 (jb 13 7) ?_
   refine jp 3 23 (jb 13 15) ?_
   refine jp 5 25 (jb 13 47) ?_
   refine jp 6 26 (jb 13 111) ?_
   refine jp 7 27 (jb 13 239) ?_
   refine jt 4 24 (jb 13 255) ?_
   refine jt 8 28 (jb 13 511) ?_
   refine acK (i:=9) (N:=some 29) (jb 13 1023) rfl rfl (aaR HT_.out (by kernel_rfl)) (by decide) (fun K hK=>?_)
   refine abn func100 (by kernel_rfl) rfl #[.agg #[iV ((aa0 l0 aa).f0),iV ((aa0 l0 aa).f1),iV ((aa0 l0 aa).f2),iV ((aa0 l0 aa).f3),iV ((aa0 l0 aa).f4)],.slice bv (aaY ai aa).length bz] (by rfl) rfl rfl qM ?_
   with_reducible refine (alh k1 ((aa0 l0 aa).f0) ((aa0 l0 aa).f1) ((aa0 l0 aa).f2) ((aa0 l0 aa).f3) ((aa0 l0 aa).f4) _ _ (aaY ai aa) aK aN aQ aR aT _ ?aD ?aG dw.out).mono ?_
   (case aD=>repeat (first|exact (kC ay.out)|(with_reducible refine C_alloc ?_ _)|(with_reducible refine C_drewN ?_ _)|(with_reducible refine C_drew ?_)))
   (case aG=>exact bE.out)
   rintro e w16 ⟨rfl,hb⟩
   have bZ:=(hb.cell (World.block_lt_of_cell? _ _ (hHeld.2.2.2.2.2))).trans (hHeld.2.2.2.2.2)
   refine⟨_,rfl,?_⟩
   replace aJ:=kR aJ hb
   replace aA:=kS aA hb
   replace ah:=kR ah hb
   replace ay:=kQ ay hb
   replace HB:=kH hb
   (try clear hb)
   (try clear hb2)
   (try clear hk)
   (try clear hi)
   refine hK.out _ _ ⟨(kx HB aY),(kx HB aX),(kx HB aW),(kx HB aV),(kx HB aU),bZ⟩ (fun hHeld=>?_)
   clear hK K
   refine aaA (a':=?_) ?_ ?_
   rotate_left
   ·show Act.put _ (some 29) _=_
    simp only [Act.put,List.setIfInBounds_toArray,List.set_cons_zero,List.set_cons_succ,aas,aaw]
    rfl
   refine aij (i:=10) (N:=some 30) (jb 13 2047) rfl rfl (aaR HT_.out (by kernel_rfl)) (by decide) (fun K hK=>?_)
   refine anj (w1:=?_) (v:=?_) (by rfl) rfl ?_ ?_
   rotate_left 2
   ·go_simp
    constructor
    ·rfl
    rfl
   refine hK.out _ _ ?_
   clear hK K
   refine aaA (a':=?_) ?_ ?_
   rotate_left
   ·show Act.put _ (some 30) _=_
    simp only [Act.put,List.setIfInBounds_toArray,List.set_cons_zero,List.set_cons_succ,aas,aaw]
    rfl
   refine aij (i:=11) (N:=some 31) (jb 13 4095) rfl rfl (aaR HT_.out (by kernel_rfl)) (by decide) (fun K hK=>?_)
   refine R_append_step k27 (w0:=w) w.heap.size (by rfl) (.tmp 20) (.tmp 30) 23 27 (.agg #[(iV 0),(iV 0),(iV 0),(iV 0),(iV 0)]) 40 rfl underlying23 aba rfl (by decide) (by omega) u4 bB (⟨aK,aN,aQ,aR,aT⟩:S27) [iV aK,iV aN,iV aQ,iV aR,iV aT] (fun _=>True) (fun _=>False) rfl rfl ?aP (fun _ hk=>hk.elim) ?aF ?aO ?aB ?aS ?aL ?_
   (case aP=>exact aaV _ _ _ (⟨aK,aN,aQ,aR,aT⟩:S27))
   (case aB=>exact qB)
   (case aF=>exact (fun _ _=>trivial))
   (case aO=>exact (qR aJ))
   (case aS=>exact (aa4 qB))
   (case aL=>have:=bP.out;omega)
   intro dh dE ho hb hg hat
   rw [<- bi.out] at ho
   have bL:=aM ho
   replace aA:=aM (S_over' (qS aA) (R_typed (qR aJ)) (by decide) hg)
   replace ah:=aM (R_over' (qR ah) (R_typed (qR aJ)) (by decide) hg)
   replace HB:=aM hb
   clear aJ
   clear ho hb hg hat
   refine hK.out _ _ ?_
   clear hK K
   refine aaA (a':=?_) ?_ ?_
   rotate_left
   ·show Act.put _ (some 31) _=_
    simp only [Act.put,List.setIfInBounds_toArray,List.set_cons_zero,List.set_cons_succ,aas,aaw]
    rfl
   refine jp 12 4 (jb 13 8191) ?_
   refine abI (ab5 HT_.out (by kernel_rfl)) ?_
   try go_wp2
   go_roundg k1
   case measure=>have:=cz.out;omega
   exact⟨(bQ),(wrap64 (aa+1)),qZ,H',⟨by have:=cz.out;omega⟩,⟨qR bL⟩,⟨qS aA⟩,⟨qB⟩⟩
  obtain⟨rfl,rfl⟩:=oJ2 H
  go_wp2
  go_ret2
  exact⟨_,qW,qR aJ,qB⟩
 obtain⟨rfl,rfl⟩:=oJ2 H
 go_enter func84,ntmps84
 go_wp2_with (first|((with_reducible refine jd 7 ?_);refine jV k27 27 ([]:List S27) [] (aa9 _ _) ?_;intro bM dF bF hb;replace bF:=kr az bF;have ae:=kL bF;replace HB:=kH hb;clear hb bF)|((with_reducible refine jc 36 9 ?_);refine jK func36 (Sag.calls k _ _ l0 false _ (kb bV HB) bW.out A2.out) ?_;intro dG hb;replace ae:=kR ae hb;replace HB:=kH hb;clear hb))
 go_ret2
 exact⟨_,qW,qR ae,qB⟩
end Go.Proofs.YtebpplallecogaaGreat.M
namespace Go.Proofs.YtebpplallecogaaGreat.M
open Go.Proofs.Tryz Go.RowKit Go.Proofs.YtebpplallecogaaGreatW.PrintWords Go.Proofs.YtebpplallecogaaGreatW.PrintLast Go.Proofs.YtebpplallecogaaGreatW.PrintMore
attribute [local go_sem] aal aaj aaz aay aae aad aak aai
def aef:Nat->List S27->Int->Int->Int->Option (Int)
 | 0,_,_,_,_=>none
 | k+1,x0,x1,x5,x6=>if x6 < (x0.length:Int) then (if 0<=x5 then (if x5 < (x0.length:Int) then (if ((aa0 x0 x5).f0)=4 then (aef k x0 x1 ((aa0 x0 x5).f4) (wrap64 (x6+1))) else (some x5)) else (none)) else (none)) else (some x1)
def Sbi.f (k:Nat) (l0:List S27) (a1:Int):Option (Int):=aef k l0 a1 a1 0
theorem Sbi.calls (k:Nat) (A0:Option Addr) (c0:Nat) (l0:List S27) (a1 r:Int) (w:World) (hr0:Kd.C k27 w A0 l0.length l0) (hc0:l0.length<=c0) (h:Sbi.f k l0 a1=some r) :
  Calls prog 101 #[.slice A0 l0.length c0,iV a1] w fun e w'=>e = .returned (iV r)/\aaD w w':=by
 have aI:=aM hr0
 have aR:=aM hc0
 clear hr0 hc0
 have H:(aef k l0 a1 a1 0)=some r:=h
 clear h
 have H':=aM H
 clear H
 go_enter func101,ntmps101
 go_wp2
 go_loopg [5,6] k (fun kq v5 v6 w'=>∃ (aa:Int) (ax:Int),v5 = iV aa/\v6 = iV ax/\aa1 (aef kq l0 a1 aa ax=some r)/\aa1 (kq<=k)/\aaD w w')
 case atStart=>exact⟨(a1),(0),qZ,qZ,H',⟨Nat.le_refl _⟩,by repeat (first|exact aaO _|apply aaD.step)⟩
 clear H'
 obtain⟨aa,ax,rfl,rfl,HA,aN,⟨m1,rfl⟩⟩:=hrel
 rcases gk with _|k1
 ·exact absurd HA.out (by simp [aef])
 have H:=HA.out
 clear HA
 simp only [aef] at H
 replace H:=jD H;rcases H with ⟨aJ,H⟩ | ⟨aJ,H⟩
 ·replace H:=jI H;obtain⟨aP,H⟩:=H
  replace H:=jI H;obtain⟨aQ,H⟩:=H
  replace H:=jE H;rcases H with ⟨aK,aL,H⟩ | ⟨c6,aK,aL,H⟩
  ·have H':=aM H
   clear H
   obtain⟨ae,af,ag,ah,ai,aj,ak,az,aA⟩:=aky aI aa
   cases af
   have au:0<=(aa:Int):=qD
   have av:aa < (l0.length:Int):=qD
   obtain⟨ay,aB,aC,aD,aF,aG,aH⟩:=aaG aI.out aa au av
   obtain rfl:ae=ay:=(by injection aB)
   replace au:=eq_true au
   replace av:=eq_true av
   go_wp2
   go_roundg k1
   case measure=>have:=aN.out;omega
   exact⟨((aa0 l0 aa).f4),(wrap64 (ax+1)),qZ,qZ,H',⟨by have:=aN.out;omega⟩,by repeat (first|exact aaO _|apply aaD.step)⟩
  obtain rfl:=oJ H
  obtain⟨ae,af,ag,ah,ai,aj,ak,az,aA⟩:=aky aI aa
  cases af
  go_wp2
  go_ret
  exact⟨qZ,qU⟩
 obtain rfl:=oJ H
 go_wp2
 go_ret
 exact⟨qZ,qU⟩
end Go.Proofs.YtebpplallecogaaGreat.M
namespace Go.Proofs.YtebpplallecogaaGreat.M
open Go.Proofs.Tryz Go.RowKit Go.Proofs.YtebpplallecogaaGreatW.PrintWords Go.Proofs.YtebpplallecogaaGreatW.PrintLast Go.Proofs.YtebpplallecogaaGreatW.PrintMore Kd
attribute [local go_sem] aal aaj aaz aay aae aad aak aai
def adL:Nat->List S27->List S27->Int->Option ((List S27) × Bool)
 | 0,_,_,_=>none
 | k+1,x0,x4,x5=>if x5 < (x0.length:Int) then (if 0<=x5 then (if ((aa0 x0 x5).f0)=4 then ((Sbi.f k x0 ((aa0 x0 x5).f4)).bind fun az=>(if x4.length < 3518437208883 then (adL k x0 (x4 ++ [(⟨(aa0 x0 x5).f0,(aa0 x0 x5).f1,(aa0 x0 x5).f2,(aa0 x0 x5).f3,az⟩:S27)]) (wrap64 (x5+1))) else (none))) else (if ((aa0 x0 x5).f0)=5 then ((Sbi.f k x0 ((aa0 x0 x5).f4)).bind fun aA=>(if x4.length < 3518437208883 then (adL k x0 (x4 ++ [(⟨(aa0 x0 x5).f0,(aa0 x0 x5).f1,(aa0 x0 x5).f2,(aa0 x0 x5).f3,aA⟩:S27)]) (wrap64 (x5+1))) else (none))) else (if x4.length < 3518437208883 then (adL k x0 (x4 ++ [(⟨(aa0 x0 x5).f0,(aa0 x0 x5).f1,(aa0 x0 x5).f2,(aa0 x0 x5).f3,(aa0 x0 x5).f4⟩:S27)]) (wrap64 (x5+1))) else (none)))) else (none)) else (some (x4,true))
def Sap.f (k:Nat) (l0:List S27):Option ((List S27) × Bool):=(some (([]:List S27):List S27)).bind fun aR=>((Sag.f k l0).bind fun aV=>(if aV=true then (adL k l0 aR 0) else (some (aR,false))))
theorem Sap.calls (k:Nat) (A0:Option Addr) (c0:Nat) (l0 r1:List S27) (r2:Bool) (w:World) (hr0:Kd.C k27 w A0 l0.length l0) (hc0:l0.length<=c0) (h:Sap.f k l0=some (r1,r2)) :
  Calls prog 85 #[.slice A0 l0.length c0] w fun e w'=>∃ bW:Value,e = .returned (.tuple #[bW,.bool r2])/\Kd.R k27 27 w' w.heap.size (fun _=>True) bW r1/\Below w.heap.size w w':=by
 have cO:=underlying27
 have aW:=aM hr0
 have bH:=aM hc0
 clear hr0 hc0
 have HB:=jb_ w
 have H:=h;unfold Sap.f at H
 clear h
 obtain⟨aR,aC⟩:=ky ([]:List S27)
 replace H:=kv aC H
 obtain⟨aV,A2,H⟩:=qE H
 try dsimp only at H
 replace H:=jB H;rcases H with ⟨rfl,H⟩ | ⟨rfl,H⟩
 ·have H':=aM H
  clear H
  go_enter func85,ntmps85
  go_wp2_with (first|((with_reducible refine jd 7 ?_);refine jV k27 27 ([]:List S27) [] (aa9 _ _) ?_;intro bi w4 bn hb;replace bn:=kr aC bn;have ay:=kL bn;replace HB:=kH hb;clear hb bn)|((with_reducible refine jc 36 9 ?_);refine jK func36 (Sag.calls k _ _ l0 true _ (kb aW HB) bH.out A2.out) ?_;intro w6 hb;replace ay:=kR ay hb;replace HB:=kH hb;clear hb))
  go_loopg [4,5] k (fun kq v4 v5 w'=>∃ (aH:List S27) (aa:Int),v5 = iV aa/\aa1 (adL kq l0 aH aa=some (r1,r2))/\aa1 (kq<=k)/\aa1 (Kd.R k27 27 w' w.heap.size (fun _=>True) v4 aH)/\aa1 (Below w.heap.size w w'))
  case atStart=>exact⟨(aR),(0),qZ,H',⟨Nat.le_refl _⟩,⟨qR ay⟩,⟨qB⟩⟩
  clear H'
  obtain⟨aH,aa,rfl,HA,bg,au,HB⟩:=hrel
  rcases gk with _|k1
  ·exact absurd HA.out (by simp [adL])
  have H:=HA.out
  clear HA
  simp only [adL] at H
  replace H:=jD H;rcases H with ⟨bI,H⟩ | ⟨bI,H⟩
  ·replace H:=jI H;obtain⟨df,H⟩:=H
   replace H:=jE H;rcases H with ⟨bJ,bK,H⟩ | ⟨c9,bJ,bK,H⟩
   ·obtain⟨az,dh,H⟩:=qE H
    try dsimp only at H
    replace H:=jL H;obtain⟨bq,H⟩:=H
    obtain⟨bX,aK⟩:=ky ((aH ++ [(⟨(aa0 l0 aa).f0,(aa0 l0 aa).f1,(aa0 l0 aa).f2,(aa0 l0 aa).f3,az⟩:S27)]):List S27)
    replace H:=kv aK H
    have H':=aM H
    clear H
    have av:0<=(aa:Int):=qD
    have ax:aa < (l0.length:Int):=qD
    obtain⟨aI,aJ,ag,ah,ai,aj,ak⟩:=aaG aW.out aa av ax
    cases aJ
    replace ag:=kx HB ag
    replace ah:=kx HB ah
    replace ai:=kx HB ai
    replace aj:=kx HB aj
    replace ak:=kx HB ak
    replace av:=eq_true av
    replace ax:=eq_true ax
    go_wp2_with (first|((with_reducible refine jd 6 ?_);refine jY _ 27 ?_;intro ae hg bu af hb;have aT:=kG hg;replace au:=aM (R_below (R_elderB (qR au) ae (Nat.le_of_eq hg.symm)) hb);replace HB:=kH hb;clear hb hg;have bv:=jz5 af)|((with_reducible refine jc 101 33 ?_);refine jK func101 (Sbi.calls k1 _ _ l0 ((aa0 l0 aa).f4) az _ (by exact C_below aW.out qB) bH.out dh.out) ?_;intro bL hd;have hb:=hd.below;have bz:=aM (R_below (show Kd.R k27 27 _ w.heap.size (fun k_=>k_≠ae) u4 aH from (by (with_reducible repeat (first|apply R_alloc|apply R_drewN|apply R_drew));exact R_mono (R_far (p:=⟨ae,4,none⟩) (R_far (p:=⟨ae,3,none⟩) (R_far (p:=⟨ae,2,none⟩) (R_far (p:=⟨ae,1,none⟩) (R_far (p:=⟨ae,0,none⟩) (R_mono au.out (fun k_ hk=>(⟨hk,hk.2⟩:_/\k_≠ae))) (fun _ hk=>hk.2) (iV ((aa0 l0 aa).f0))) (fun _ hk=>hk.2) (iV ((aa0 l0 aa).f1))) (fun _ hk=>hk.2) (iV ((aa0 l0 aa).f2))) (fun _ hk=>hk.2) (iV ((aa0 l0 aa).f3))) (fun _ hk=>hk.2) (iV ((aa0 l0 aa).f4))) (fun _ hk=>hk.1.2))) hb);have bA:=aM (abS (show Below w.heap.size w _ from qB) hb);have bB:aa1 (bL.heap[ae]?=some (.cells #[iV ((aa0 l0 aa).f0),iV ((aa0 l0 aa).f1),iV ((aa0 l0 aa).f2),iV ((aa0 l0 aa).f3),iV ((aa0 l0 aa).f4)] 27 (0,0))):=⟨(hb.block ae (acC (g:=ae) (o:=.cells #[iV ((aa0 l0 aa).f0),iV ((aa0 l0 aa).f1),iV ((aa0 l0 aa).f2),iV ((aa0 l0 aa).f3),iV ((aa0 l0 aa).f4)] 27 (0,0)) (qF af))).trans (qF af)⟩;clear au HB af hd hb;have au:=bz;have HB:=bA;have af:=bB;clear bz bA bB;have bM:=aa3 af.out 0;have bN:=aa7 af.out 0;have bO:=aa3 af.out 1;have bP:=aa7 af.out 1;have bQ:=aa3 af.out 2;have bR:=aa7 af.out 2;have bS:=aa3 af.out 3;have bT:=aa7 af.out 3;have bU:=aa3 af.out 4;have bV:=aa7 af.out 4)|((with_reducible refine aaa (b:=.append) (xs:=#[.tmp 35,.tmp 37]) rfl ?_);at_builtin;refine R_append k27 (w0:=w) w.heap.size rfl (.tmp 35) (.tmp 37) 23 27 (.agg #[(iV 0),(iV 0),(iV 0),(iV 0),(iV 0)]) 40 rfl underlying23 aba rfl (by decide) (by omega) u4 aH (⟨(aa0 l0 aa).f0,(aa0 l0 aa).f1,(aa0 l0 aa).f2,(aa0 l0 aa).f3,az⟩:S27) [iV ((aa0 l0 aa).f0),iV ((aa0 l0 aa).f1),iV ((aa0 l0 aa).f2),iV ((aa0 l0 aa).f3),iV az] (fun k_=>k_≠ae) (fun _=>False) rfl (by first|(go_simp;done)|(go_simp;rfl)) ?aP (fun _ hk=>hk.elim) ?aF ?aO ?aB ?aS ?aL ?_;(case aP=>exact aaV _ _ _ (⟨(aa0 l0 aa).f0,(aa0 l0 aa).f1,(aa0 l0 aa).f2,(aa0 l0 aa).f3,az⟩:S27));(case aB=>exact qB);(case aF=>exact (fun k_ hk=>Kd.freshB (g:=ae) (o:=.cells #[iV ((aa0 l0 aa).f0),iV ((aa0 l0 aa).f1),iV ((aa0 l0 aa).f2),iV ((aa0 l0 aa).f3),iV az] 27 (0,0)) (qF af) k_ hk));(case aO=>exact (by (with_reducible repeat (first|apply R_alloc|apply R_drewN|apply R_drew));exact R_far (p:=⟨ae,4,none⟩) au.out (fun _ hk=>hk) _));(case aS=>exact (aa4 qB));(case aL=>have:=bq.out;omega);intro bY bC ho hb hg hat;rw [<- aK.out] at ho;have aX:=aM ho;replace af:=aM (aaq (g:=ae) (qF af) hg (R_away au.out (fun _ hk=>hk)));replace HB:=aM hb;clear au;clear ho hb hg hat))
    go_roundg k1
    case measure=>have:=bg.out;omega
    exact⟨_,_,qZ,H',⟨by have:=bg.out;omega⟩,⟨by (with_reducible repeat (first|apply R_alloc|apply R_drewN|apply R_drew));exact R_mono aX.out (fun _ hk=>trivial)⟩,⟨qB⟩⟩
   replace H:=jE H;rcases H with ⟨bD,bE,H⟩ | ⟨c15,bD,bE,H⟩
   ·obtain⟨aA,di,H⟩:=qE H
    try dsimp only at H
    replace H:=jL H;obtain⟨bF,H⟩:=H
    obtain⟨bZ,aN⟩:=ky ((aH ++ [(⟨(aa0 l0 aa).f0,(aa0 l0 aa).f1,(aa0 l0 aa).f2,(aa0 l0 aa).f3,aA⟩:S27)]):List S27)
    replace H:=kv aN H
    have H':=aM H
    clear H
    have av:0<=(aa:Int):=qD
    have ax:aa < (l0.length:Int):=qD
    obtain⟨aI,aJ,ag,ah,ai,aj,ak⟩:=aaG aW.out aa av ax
    cases aJ
    replace ag:=kx HB ag
    replace ah:=kx HB ah
    replace ai:=kx HB ai
    replace aj:=kx HB aj
    replace ak:=kx HB ak
    replace av:=eq_true av
    replace ax:=eq_true ax
    go_wp2_with (first|((with_reducible refine jd 6 ?_);refine jY _ 27 ?_;intro ae hg bu af hb;have aT:=kG hg;replace au:=aM (R_below (R_elderB (qR au) ae (Nat.le_of_eq hg.symm)) hb);replace HB:=kH hb;clear hb hg;have bv:=jz5 af)|((with_reducible refine jc 101 33 ?_);refine jK func101 (Sbi.calls k1 _ _ l0 ((aa0 l0 aa).f4) aA _ (by exact C_below aW.out qB) bH.out di.out) ?_;intro dn hd;have hb:=hd.below;have bz:=aM (R_below (show Kd.R k27 27 _ w.heap.size (fun k_=>k_≠ae) u4 aH from (by (with_reducible repeat (first|apply R_alloc|apply R_drewN|apply R_drew));exact R_mono (R_far (p:=⟨ae,4,none⟩) (R_far (p:=⟨ae,3,none⟩) (R_far (p:=⟨ae,2,none⟩) (R_far (p:=⟨ae,1,none⟩) (R_far (p:=⟨ae,0,none⟩) (R_mono au.out (fun k_ hk=>(⟨hk,hk.2⟩:_/\k_≠ae))) (fun _ hk=>hk.2) (iV ((aa0 l0 aa).f0))) (fun _ hk=>hk.2) (iV ((aa0 l0 aa).f1))) (fun _ hk=>hk.2) (iV ((aa0 l0 aa).f2))) (fun _ hk=>hk.2) (iV ((aa0 l0 aa).f3))) (fun _ hk=>hk.2) (iV ((aa0 l0 aa).f4))) (fun _ hk=>hk.1.2))) hb);have bA:=aM (abS (show Below w.heap.size w _ from qB) hb);have bB:aa1 (dn.heap[ae]?=some (.cells #[iV ((aa0 l0 aa).f0),iV ((aa0 l0 aa).f1),iV ((aa0 l0 aa).f2),iV ((aa0 l0 aa).f3),iV ((aa0 l0 aa).f4)] 27 (0,0))):=⟨(hb.block ae (acC (g:=ae) (o:=.cells #[iV ((aa0 l0 aa).f0),iV ((aa0 l0 aa).f1),iV ((aa0 l0 aa).f2),iV ((aa0 l0 aa).f3),iV ((aa0 l0 aa).f4)] 27 (0,0)) (qF af))).trans (qF af)⟩;clear au HB af hd hb;have au:=bz;have HB:=bA;have af:=bB;clear bz bA bB;have bM:=aa3 af.out 0;have bN:=aa7 af.out 0;have bO:=aa3 af.out 1;have bP:=aa7 af.out 1;have bQ:=aa3 af.out 2;have bR:=aa7 af.out 2;have bS:=aa3 af.out 3;have bT:=aa7 af.out 3;have bU:=aa3 af.out 4;have bV:=aa7 af.out 4)|((with_reducible refine aaa (b:=.append) (xs:=#[.tmp 35,.tmp 37]) rfl ?_);at_builtin;refine R_append k27 (w0:=w) w.heap.size rfl (.tmp 35) (.tmp 37) 23 27 (.agg #[(iV 0),(iV 0),(iV 0),(iV 0),(iV 0)]) 40 rfl underlying23 aba rfl (by decide) (by omega) u4 aH (⟨(aa0 l0 aa).f0,(aa0 l0 aa).f1,(aa0 l0 aa).f2,(aa0 l0 aa).f3,aA⟩:S27) [iV ((aa0 l0 aa).f0),iV ((aa0 l0 aa).f1),iV ((aa0 l0 aa).f2),iV ((aa0 l0 aa).f3),iV aA] (fun k_=>k_≠ae) (fun _=>False) rfl (by first|(go_simp;done)|(go_simp;rfl)) ?aP (fun _ hk=>hk.elim) ?aF ?aO ?aB ?aS ?aL ?_;(case aP=>exact aaV _ _ _ (⟨(aa0 l0 aa).f0,(aa0 l0 aa).f1,(aa0 l0 aa).f2,(aa0 l0 aa).f3,aA⟩:S27));(case aB=>exact qB);(case aF=>exact (fun k_ hk=>Kd.freshB (g:=ae) (o:=.cells #[iV ((aa0 l0 aa).f0),iV ((aa0 l0 aa).f1),iV ((aa0 l0 aa).f2),iV ((aa0 l0 aa).f3),iV aA] 27 (0,0)) (qF af) k_ hk));(case aO=>exact (by (with_reducible repeat (first|apply R_alloc|apply R_drewN|apply R_drew));exact R_far (p:=⟨ae,4,none⟩) au.out (fun _ hk=>hk) _));(case aS=>exact (aa4 qB));(case aL=>have:=bF.out;omega);intro cu bC ho hb hg hat;rw [<- aN.out] at ho;have aY:=aM ho;replace af:=aM (aaq (g:=ae) (qF af) hg (R_away au.out (fun _ hk=>hk)));replace HB:=aM hb;clear au;clear ho hb hg hat))
    go_roundg k1
    case measure=>have:=bg.out;omega
    exact⟨_,_,qZ,H',⟨by have:=bg.out;omega⟩,⟨by (with_reducible repeat (first|apply R_alloc|apply R_drewN|apply R_drew));exact R_mono aY.out (fun _ hk=>trivial)⟩,⟨qB⟩⟩
   replace H:=jL H;obtain⟨bG,H⟩:=H
   obtain⟨cz,aQ⟩:=ky ((aH ++ [(⟨(aa0 l0 aa).f0,(aa0 l0 aa).f1,(aa0 l0 aa).f2,(aa0 l0 aa).f3,(aa0 l0 aa).f4⟩:S27)]):List S27)
   replace H:=kv aQ H
   have H':=aM H
   clear H
   have av:0<=(aa:Int):=qD
   have ax:aa < (l0.length:Int):=qD
   obtain⟨aI,aJ,ag,ah,ai,aj,ak⟩:=aaG aW.out aa av ax
   cases aJ
   replace ag:=kx HB ag
   replace ah:=kx HB ah
   replace ai:=kx HB ai
   replace aj:=kx HB aj
   replace ak:=kx HB ak
   replace av:=eq_true av
   replace ax:=eq_true ax
   go_wp2_with (first|((with_reducible refine jd 6 ?_);refine jY _ 27 ?_;intro ae hg bu af hb;have aT:=kG hg;replace au:=aM (R_below (R_elderB (qR au) ae (Nat.le_of_eq hg.symm)) hb);replace HB:=kH hb;clear hb hg;have bv:=jz5 af)|((with_reducible refine aaa (b:=.append) (xs:=#[.tmp 35,.tmp 37]) rfl ?_);at_builtin;refine R_append k27 (w0:=w) w.heap.size rfl (.tmp 35) (.tmp 37) 23 27 (.agg #[(iV 0),(iV 0),(iV 0),(iV 0),(iV 0)]) 40 rfl underlying23 aba rfl (by decide) (by omega) u4 aH (⟨(aa0 l0 aa).f0,(aa0 l0 aa).f1,(aa0 l0 aa).f2,(aa0 l0 aa).f3,(aa0 l0 aa).f4⟩:S27) [iV ((aa0 l0 aa).f0),iV ((aa0 l0 aa).f1),iV ((aa0 l0 aa).f2),iV ((aa0 l0 aa).f3),iV ((aa0 l0 aa).f4)] (fun k_=>k_≠ae) (fun _=>False) rfl (by first|(go_simp;done)|(go_simp;rfl)) ?aP (fun _ hk=>hk.elim) ?aF ?aO ?aB ?aS ?aL ?_;(case aP=>exact aaV _ _ _ (⟨(aa0 l0 aa).f0,(aa0 l0 aa).f1,(aa0 l0 aa).f2,(aa0 l0 aa).f3,(aa0 l0 aa).f4⟩:S27));(case aB=>exact qB);(case aF=>exact (fun k_ hk=>Kd.freshB (g:=ae) (o:=.cells #[iV ((aa0 l0 aa).f0),iV ((aa0 l0 aa).f1),iV ((aa0 l0 aa).f2),iV ((aa0 l0 aa).f3),iV ((aa0 l0 aa).f4)] 27 (0,0)) (qF af) k_ hk));(case aO=>exact (by (with_reducible repeat (first|apply R_alloc|apply R_drewN|apply R_drew));exact R_mono (R_far (p:=⟨ae,4,none⟩) (R_far (p:=⟨ae,3,none⟩) (R_far (p:=⟨ae,2,none⟩) (R_far (p:=⟨ae,1,none⟩) (R_far (p:=⟨ae,0,none⟩) (R_mono au.out (fun k_ hk=>(⟨hk,hk.2⟩:_/\k_≠ae))) (fun _ hk=>hk.2) (iV ((aa0 l0 aa).f0))) (fun _ hk=>hk.2) (iV ((aa0 l0 aa).f1))) (fun _ hk=>hk.2) (iV ((aa0 l0 aa).f2))) (fun _ hk=>hk.2) (iV ((aa0 l0 aa).f3))) (fun _ hk=>hk.2) (iV ((aa0 l0 aa).f4))) (fun _ hk=>hk.1.2)));(case aS=>exact (aa4 qB));(case aL=>have:=bG.out;omega);intro cB bC ho hb hg hat;rw [<- aQ.out] at ho;have aZ:=aM ho;replace af:=aM (aaq (g:=ae) (qF af) hg (R_away au.out (fun _ hk=>hk.2)));replace HB:=aM hb;clear au;clear ho hb hg hat))
   go_roundg k1
   case measure=>have:=bg.out;omega
   exact⟨_,_,qZ,H',⟨by have:=bg.out;omega⟩,⟨by (with_reducible repeat (first|apply R_alloc|apply R_drewN|apply R_drew));exact R_mono aZ.out (fun _ hk=>trivial)⟩,⟨qB⟩⟩
  obtain⟨rfl,rfl⟩:=oJ2 H
  go_wp2
  go_ret2
  exact⟨_,qW,qR au,qB⟩
 obtain⟨rfl,rfl⟩:=oJ2 H
 go_enter func85,ntmps85
 go_wp2_with (first|((with_reducible refine jd 7 ?_);refine jV k27 27 ([]:List S27) [] (aa9 _ _) ?_;intro bi dw aU hb;replace aU:=kr aC aU;have ay:=kL aU;replace HB:=kH hb;clear hb aU)|((with_reducible refine jc 36 9 ?_);refine jK func36 (Sag.calls k _ _ l0 false _ (kb aW HB) bH.out A2.out) ?_;intro dx hb;replace ay:=kR ay hb;replace HB:=kH hb;clear hb))
 go_ret2
 exact⟨_,qW,qR ay,qB⟩
end Go.Proofs.YtebpplallecogaaGreat.M
-- JUMPED
namespace Go.Proofs.YtebpplallecogaaGreat.M
open Go.Proofs.Tryz Go.RowKit Go.Proofs.YtebpplallecogaaGreatW.PrintWords Go.Proofs.YtebpplallecogaaGreatW.PrintLast Go.Proofs.YtebpplallecogaaGreatW.PrintMore
attribute [local go_sem] aal aaj aaz aay aae aad aak aai
def adj:Nat->Int->Int->Bool->Int->Int->Int->Int->Int->Option (Bool)
 | 0,_,_,_,_,_,_,_,_=>none
 | k+1,x1,x6,x7,az,aj,ak,aA,au=>if x7=true then (some (au == (wrap64 (x1+1)))) else (if x6=2 then (some (aj == ak)) else (some false))
def ahT (k:Nat) (aa af ag ah ai a1:Int):Option (Bool):=if aa=4 then (adj k a1 aa (aa == 4) aa af ag ah ai) else (adj k a1 aa (aa == 5) aa af ag ah ai)
theorem agK:∀ k,(∀ y0 y1 y2 y3 y4 y5 y6 y7,LeO (adj k y0 y1 y2 y3 y4 y5 y6 y7) (adj (k+1) y0 y1 y2 y3 y4 y5 y6 y7))
 | 0=>fun _ _ _ _ _ _ _ _ r h=>by simp [adj] at h
 | k+1=>by
  have aH:=agK k
  intros;unfold adj;exact mM
theorem Sbg.mono:∀ a0 a1 a2 a3 a4 a5 k,LeO (ahT k a0 a1 a2 a3 a4 a5) (ahT (k+1) a0 a1 a2 a3 a4 a5):=by
 intro a0 a1 a2 a3 a4 a5 k;have aH:=agK k;unfold ahT;exact mM
theorem ald (k:Nat) (aa af ag ah ai a1:Int) (r:Bool) (w:World) (h:ahT k aa af ag ah ai a1=some r) :
  Calls prog 103 #[.agg #[iV aa,iV af,iV ag,iV ah,iV ai],iV a1] w fun e w'=>e = .returned (.bool r)/\Below w.heap.size w w':=by
 have aI:=underlying27
 have HB:=jb_ w
 have H:=h;unfold ahT at H
 clear h
 have aB:=aM H
 clear H
 go_enter func103,ntmps103
 go_upto_if 7 with (first|((with_reducible refine jd 2 ?_);refine jY _ 27 ?_;intro ax hg w4 ae hb;have aC:=kG hg;replace HB:=kH hb;clear hb hg;have aJ:=jz5 ae))
 (try simp only [Act.put,List.setIfInBounds_toArray,List.set_cons_zero,List.set_cons_succ])
 go_cut [7] (fun v7 wc=>∃ (kq:Nat) (ay:Bool),v7 = .bool ay/\aa1 (adj kq a1 aa ay aa af ag ah ai=some r)/\aa1 (kq<=k)/\aa1 (wc.heap[ax]?=some (.cells #[iV aa,iV af,iV ag,iV ah,iV ai] 27 (0,0)))/\aa1 (Below w.heap.size w wc))
 case first =>
  have H:=aB.out
  clear aB
  replace H:=jE H;rcases H with ⟨av,aD,H⟩ | ⟨c6,av,aD,H⟩
  ·(first|rw [av]|(simp only [aas,aaw];rw [av])|skip)
   have H':=aM H
   clear H
   go_wp2
   go_meet
   exact⟨_,((aa == 4)),qZ,H',⟨by first|omega|exact Nat.le_refl _⟩,⟨qK ae⟩,⟨qB⟩⟩
  (first|rw [av]|(simp only [aas,aaw];rw [av])|skip)
  have H':=aM H
  clear H
  go_wp2
  go_meet
  exact⟨_,((aa == 5)),qZ,H',⟨by first|omega|exact Nat.le_refl _⟩,⟨qK ae⟩,⟨qB⟩⟩
 clear aB
 try clear aJ
 obtain⟨kq,ay,rfl,HA,HJ2,ae,HB⟩:=hcut
 cases kq with
 | zero=>exact absurd HA.out (by simp [adj])
 | succ aL =>
  have H:=HA.out
  clear HA
  simp only [adj] at H
  replace H:=jB H;rcases H with ⟨rfl,H⟩ | ⟨rfl,H⟩
  ·obtain rfl:=oJ H
   have aN:=jz5 ae
   go_wp2
   go_ret
   exact⟨qW,qB⟩
  replace H:=jE H;rcases H with ⟨aF,aG,H⟩ | ⟨c9,aF,aG,H⟩
  ·obtain rfl:=oJ H
   have aK:=jz5 ae
   go_wp2
   go_ret
   exact⟨qW,qB⟩
  obtain rfl:=oJ H
  go_wp2
  go_ret
  exact⟨qW,qB⟩
end Go.Proofs.YtebpplallecogaaGreat.M
namespace Go.Proofs.YtebpplallecogaaGreat.M
open Go.Proofs.Tryz Go.RowKit Go.Proofs.YtebpplallecogaaGreatW.PrintWords Go.Proofs.YtebpplallecogaaGreatW.PrintLast Go.Proofs.YtebpplallecogaaGreatW.PrintMore
attribute [local go_sem] aal aaj aaz aay aae aad aak aai
def abX:Nat->List Bool->Int->Int->Int->Option (Int)
 | 0,_,_,_,_=>none
 | k+1,x0,x1,x5,x6=>if x6 < x1 then (if 0<=x6 then (if x6 < (x0.length:Int) then (if abJ false x0 x6=true then (abX k x0 x1 (wrap64 (x5+1)) (wrap64 (x6+1))) else (abX k x0 x1 x5 (wrap64 (x6+1)))) else (none)) else (none)) else (some x5)
def Sbh.f (k:Nat) (l0:List Bool) (a1:Int):Option (Int):=abX k l0 a1 0 0
theorem agJ:∀ k,(∀ y0 y1 y2 y3,LeO (abX k y0 y1 y2 y3) (abX (k+1) y0 y1 y2 y3))
 | 0=>fun _ _ _ _ r h=>by simp [abX] at h
 | k+1=>by
  have az:=agJ k
  intros;unfold abX;exact mM
theorem Sbh.mono:∀ a0 a1 k,LeO (Sbh.f k a0 a1) (Sbh.f (k+1) a0 a1):=by
 intro a0 a1 k;have az:=agJ k;unfold Sbh.f;exact mM
theorem Sbh.calls (k:Nat) (A0:Option Addr) (c0:Nat) (l0:List Bool) (a1 r:Int) (w:World) (hr0:Kd.C Kd.bool w A0 l0.length l0) (hc0:l0.length<=c0) (h:Sbh.f k l0 a1=some r) :
  Calls prog 104 #[.slice A0 l0.length c0,iV a1] w fun e w'=>e = .returned (iV r)/\aaD w w':=by
 have ay:=aM hr0
 have aD:=aM hc0
 clear hr0 hc0
 have H:(abX k l0 a1 0 0)=some r:=h
 clear h
 have H':=aM H
 clear H
 go_enter func104,ntmps104
 go_wp2
 go_loopg [5,6] k (fun kq v5 v6 w'=>∃ (ah:Int) (aa:Int),v5 = iV ah/\v6 = iV aa/\aa1 (abX kq l0 a1 ah aa=some r)/\aa1 (kq<=k)/\aaD w w')
 case atStart=>exact⟨(0),(0),qZ,qZ,H',⟨Nat.le_refl _⟩,by repeat (first|exact aaO _|apply aaD.step)⟩
 clear H'
 obtain⟨ah,aa,rfl,rfl,HA,av,⟨m1,rfl⟩⟩:=hrel
 rcases gk with _|k1
 ·exact absurd HA.out (by simp [abX])
 have H:=HA.out
 clear HA
 simp only [abX] at H
 replace H:=jD H;rcases H with ⟨ax,H⟩ | ⟨ax,H⟩
 ·replace H:=jI H;obtain⟨aA,H⟩:=H
  replace H:=jI H;obtain⟨aB,H⟩:=H
  obtain⟨aC,aj⟩:∃ b_:Bool,b_=(abJ false l0 aa):=⟨_,rfl⟩
  replace H:(if aC=true then (abX k1 l0 a1 (wrap64 (ah+1)) (wrap64 (aa+1))) else (abX k1 l0 a1 ah (wrap64 (aa+1))))=some r:=by rw [<- aj] at H;exact H
  have au:=aM aj;clear aj
  replace H:=jB H;rcases H with ⟨rfl,H⟩ | ⟨rfl,H⟩
  ·have H':=aM H
   clear H
   have ae:0<=(aa:Int):=qD
   have af:aa < (l0.length:Int):=qD
   obtain⟨ak,ai,ag⟩:=Kd.at_bool ay.out aa ae af
   (try rw [<- au.out] at ag)
   cases ai
   replace ae:=eq_true ae
   replace af:=eq_true af
   go_wp2
   go_roundg k1
   case measure=>have:=av.out;omega
   exact⟨(wrap64 (ah+1)),(wrap64 (aa+1)),qZ,qZ,H',⟨by have:=av.out;omega⟩,by repeat (first|exact aaO _|apply aaD.step)⟩
  have H':=aM H
  clear H
  have ae:0<=(aa:Int):=qD
  have af:aa < (l0.length:Int):=qD
  obtain⟨ak,ai,ag⟩:=Kd.at_bool ay.out aa ae af
  (try rw [<- au.out] at ag)
  cases ai
  replace ae:=eq_true ae
  replace af:=eq_true af
  go_wp2
  go_roundg k1
  case measure=>have:=av.out;omega
  exact⟨(ah),(wrap64 (aa+1)),qZ,qZ,H',⟨by have:=av.out;omega⟩,by repeat (first|exact aaO _|apply aaD.step)⟩
 obtain rfl:=oJ H
 go_wp2
 go_ret
 exact⟨qZ,qU⟩
end Go.Proofs.YtebpplallecogaaGreat.M
namespace Go.Proofs.YtebpplallecogaaGreat.M
open Go.Proofs.Tryz Go.RowKit Go.Proofs.YtebpplallecogaaGreatW.PrintWords Go.Proofs.YtebpplallecogaaGreatW.PrintLast Go.Proofs.YtebpplallecogaaGreatW.PrintMore Kd
attribute [local go_sem] aal aaj aaz aay aae aad aak aai
mutual
def abZ:Nat->List S27->List Bool->Bool->Int->Option (Bool × List Bool)
 | 0,_,_,_,_=>none
 | k+1,x0,x1,x5,x6=>if x6 < (x0.length:Int) then (if 0<=x6 then (if x6 < (x1.length:Int) then (if abJ false x1 x6=true then ((afk k x0 x6).bind fun aa=>(abY k x0 x1 x5 x6 aa 0)) else (abZ k x0 x1 x5 (wrap64 (x6+1)))) else (none)) else (none)) else (some (x5,x1))
def abY:Nat->List S27->List Bool->Bool->Int->List Int->Int->Option (Bool × List Bool)
 | 0,_,_,_,_,_,_=>none
 | k+1,x0,x1,x5,x6,x7,x8=>if x8 < (x7.length:Int) then (if 0<=x8 then (if 0<=(rd x7 x8) then (if (rd x7 x8) < (x1.length:Int) then (if (abJ false x1 (rd x7 x8)=true) then (abY k x0 x1 x5 x6 x7 (wrap64 (x8+1))) else (abY k x0 (x1.set ((rd x7 x8):Int).toNat true) true x6 x7 (wrap64 (x8+1)))) else (none)) else (none)) else (none)) else (abZ k x0 x1 x5 (wrap64 (x6+1)))
end
def SaV.f (k:Nat) (l0:List S27) (l1:List Bool):Option (Bool × List Bool):=abZ k l0 l1 false 0
theorem agS:∀ k,(∀ y0 y1 y2 y3,LeO (abZ k y0 y1 y2 y3) (abZ (k+1) y0 y1 y2 y3))/\(∀ y0 y1 y2 y3 y4 y5,LeO (abY k y0 y1 y2 y3 y4 y5) (abY (k+1) y0 y1 y2 y3 y4 y5))
 | 0=>⟨fun _ _ _ _ r h=>by simp [abZ] at h,fun _ _ _ _ _ _ r h=>by simp [abY] at h⟩
 | k+1=>by
  obtain⟨cz,ih1⟩:=agS k;have m0:=@SaU.mono
  exact⟨by intros;unfold abZ;exact mM,by intros;unfold abY;exact mM⟩
theorem SaV.mono:∀ a0 a1 k,LeO (SaV.f k a0 a1) (SaV.f (k+1) a0 a1):=by
 intro a0 a1 k;obtain⟨cz,ih1⟩:=agS k;unfold SaV.f;have m0:=@SaU.mono;exact mM
theorem SaV.calls (k:Nat) (A0:Option Addr) (c0:Nat) (l0:List S27) (aB:Nat->Prop) (av:Value) (l1:List Bool) (r1:Bool) (r2:List Bool) (w0 w:World) (hB:Below w0.heap.size w0 w) (hr0:∀ W_,Kept w W_ (fun k_=>aB k_)->Kd.C k27 W_ A0 l0.length l0) (hc0:l0.length<=c0) (ho1:Kd.R Kd.bool 4 w w0.heap.size aB av l1) (h:SaV.f k l0 l1=some (r1,r2)) :
  Calls prog 117 #[.slice A0 l0.length c0,av] w fun e w'=>e = .returned (.bool r1)/\Kd.R Kd.bool 4 w' w0.heap.size (fun k_=>(aB k_\/w.heap.size<=k_)) av r2/\Below w0.heap.size w0 w'/\Kept w w' (fun k_=>aB k_):=by
 have cB:=aM hr0
 have cK:=aM hc0
 clear hr0 hc0
 have cO:=aM (show Kd.R Kd.bool 4 w w0.heap.size (fun k_=>(aB k_\/w.heap.size<=k_)) av l1 from R_mono ho1 (fun k_ hk=>(.inl hk)))
 have HK:=aM (acF w (fun k_=>aB k_))
 have HW0:=aM hB.size
 have HB:=aM hB
 clear hB
 have H:(abZ k l0 l1 false 0)=some (r1,r2):=h
 clear h
 have H':=aM H
 clear H
 go_enter func117,ntmps117
 go_wp2
 go_loopg [5,6] k (fun kq v5 v6 w'=>∃ (ax:List Bool) (aC:Bool) (ag:Int),v5 = .bool aC/\v6 = iV ag/\aa1 (abZ kq l0 ax aC ag=some (r1,r2))/\aa1 (kq<=k)/\aa1 (Kd.R Kd.bool 4 w' w0.heap.size (fun k_=>(aB k_\/w.heap.size<=k_)) av ax)/\aa1 (Kept w w' (fun k_=>aB k_))/\aa1 (Below w0.heap.size w0 w'))
 case atStart=>exact⟨(l1),(false),(0),qZ,qZ,H',⟨Nat.le_refl _⟩,⟨qR cO⟩,⟨qT⟩,⟨qB⟩⟩
 clear H'
 obtain⟨ax,aC,ag,rfl,rfl,HA,aQ,ae,HK,HB⟩:=hrel
 rcases gk with _|k1
 ·exact absurd HA.out (by simp [abZ])
 have H:=HA.out
 clear HA
 simp only [abZ] at H
 replace H:=jD H;rcases H with ⟨bg,H⟩ | ⟨bg,H⟩
 ·replace H:=jI H;obtain⟨bJ,H⟩:=H
  replace H:=jI H;obtain⟨bK,H⟩:=H
  obtain⟨df,aR⟩:∃ b_:Bool,b_=(abJ false ax ag):=⟨_,rfl⟩
  replace H:(if df=true then ((afk k1 l0 ag).bind fun aa=>(abY k1 l0 ax aC ag aa 0)) else (abZ k1 l0 ax aC (wrap64 (ag+1))))=some (r1,r2):=by rw [<- aR] at H;exact H
  have aS:=aM aR;clear aR
  replace H:=jB H;rcases H with ⟨rfl,H⟩ | ⟨rfl,H⟩
  ·obtain⟨aa,A8,H⟩:=qE H
   try dsimp only at H
   have H':=aM H
   clear H
   obtain⟨dE,bL,dh⟩:=R_slice ae.out
   subst dh
   have ak:0<=(ag:Int):=qD
   have au:ag < (ax.length:Int):=qD
   obtain⟨aD,aH,ah⟩:=Kd.at_bool (R_reads' ae.out).2.2 ag ak au
   (try rw [<- aS.out] at ah)
   cases aH
   replace ak:=eq_true ak
   replace au:=eq_true au
   go_wp2_with (first|((with_reducible refine jc 55 22 ?_);refine jM func55 (aex k1 _ _ l0 ag aa _ (by exact C_kept_now cB.out qT) cK.out A8.out) ?_;rintro bq dF ⟨ho0,hb⟩;have aT:=aM (R_lower (R_newM (M:=fun k_=>(aB k_\/w.heap.size<=k_)) ho0 (by first|exact HK.out.1|exact (show Kept w _ (fun k_=>aB k_) from qT).1) (fun k_ h_=>.inr h_)) (aa4 qB));replace ae:=kR ae hb;replace HK:=kT hb;replace HB:=kH hb;clear hb;(try clear ho0)))
   go_loopg [5,8] k1 (fun kq v5 v8 w'=>∃ (aj:List Bool) (aG:Bool) (af:Int),v5 = .bool aG/\v8 = iV af/\aa1 (abY kq l0 aj aG ag aa af=some (r1,r2))/\aa1 (kq<=k1)/\aa1 (Kd.R Kd.bool 4 w' w0.heap.size (fun k_=>(aB k_\/w.heap.size<=k_)) (.slice (some aD) ax.length bL) aj)/\aa1 (Kd.R (Kd.int .i64) 3 w' w0.heap.size (fun k_=>(aB k_\/w.heap.size<=k_)) bq aa)/\aa1 (Kept w w' (fun k_=>aB k_))/\aa1 (Below w0.heap.size w0 w'))
   case atStart=>exact⟨(ax),(aC),(0),qZ,qZ,H',⟨Nat.le_refl _⟩,⟨qR ae⟩,⟨by (with_reducible repeat (first|apply R_alloc|apply R_drewN|apply R_drew));exact R_mono aT.out (fun _ hk=>hk.1)⟩,⟨qT⟩,⟨qB⟩⟩
   clear H'
   try clear bg;try clear bJ;try clear bK;try clear ah;try clear ak;try clear au
   obtain⟨aj,aG,af,rfl,rfl,HA,aZ,ae,az,HK,HB⟩:=hrel
   have ai:=(R_reads' ae.out).1
   rw [ai] at ae
   (try simp only [ai])
   (try simp only [ai] at az)
   rcases gk with _|k2
   ·exact absurd HA.out (by simp [abY])
   have H:=HA.out
   clear HA
   simp only [abY] at H
   replace H:=jD H;rcases H with ⟨bu,H⟩ | ⟨bu,H⟩
   ·replace H:=jI H;obtain⟨bY,H⟩:=H
    replace H:=jI H;obtain⟨bZ,H⟩:=H
    replace H:=jI H;obtain⟨cu,H⟩:=H
    obtain⟨bM,aI⟩:∃ b_:Bool,b_=(abJ false aj (rd aa af)):=⟨_,rfl⟩
    replace H:(if (bM=true) then (abY k2 l0 aj aG ag aa (wrap64 (af+1))) else (abY k2 l0 (aj.set ((rd aa af):Int).toNat true) true ag aa (wrap64 (af+1))))=some (r1,r2):=by rw [<- aI] at H;exact H
    have bv:=aM aI;clear aI
    have bz:=aM H;clear H
    obtain⟨di,dn,bN⟩:=R_slice az.out
    subst bN
    have aJ:0<=(af:Int):=qD
    have aK:af < (aa.length:Int):=qD
    obtain⟨aU,bA,bB⟩:=Kd.at_int (R_reads' az.out).2.2 af aJ aK
    cases bA
    replace aJ:=eq_true aJ
    replace aK:=eq_true aK
    have aL:0<=((rd aa af):Int):=qD
    have aN:(rd aa af) < (aj.length:Int):=qD
    obtain⟨aV,bC,ay⟩:=Kd.at_bool (R_reads' ae.out).2.2 (rd aa af) aL aN
    (try rw [<- aS.out] at ay)
    (try rw [<- bv.out] at ay)
    obtain rfl:aD=aV:=(by injection bC)
    replace aL:=eq_true aL
    replace aN:=eq_true aN
    have H:=bz.out;clear bz
    replace H:=jB H;rcases H with ⟨rfl,H⟩ | ⟨rfl,H⟩
    ·have H':=aM H
     clear H
     go_wp2
     (try simp only [<- ai])
     go_roundg k2
     case measure=>have:=aQ.out;have:=aZ.out;omega
     exact⟨(aj),(aG),(wrap64 (af+1)),qZ,qZ,H',⟨by have:=aQ.out;have:=aZ.out;omega⟩,⟨by (try simp only [ai]);(with_reducible repeat (first|apply R_alloc|apply R_drewN|apply R_drew));exact ae.out⟩,⟨by (try simp only [ai]);(with_reducible repeat (first|apply R_alloc|apply R_drewN|apply R_drew));exact az.out⟩,⟨qT⟩,⟨qB⟩⟩
    obtain⟨bD,aF⟩:=ky ((aj.set ((rd aa af):Int).toNat true):List Bool)
    replace H:=kv aF H
    have H':=aM H
    clear H
    have aO:0<=(af:Int):=qD
    have aP:af < (aa.length:Int):=qD
    obtain⟨aW,bE,bF⟩:=Kd.at_int (R_reads' az.out).2.2 af aO aP
    obtain rfl:aU=aW:=(by injection bE)
    replace aO:=eq_true aO
    replace aP:=eq_true aP
    have bO:0<=((rd aa af):Int):=qD
    have bP:((rd aa af):Int) < ((aj.length:Int):Int):=qD
    obtain⟨aA,dw,bG,bH,bQ,dx,bI⟩:=R_form ae.out (by omega)
    (first|cases bG|(injection bG with ea_ en_ ec_;(first|subst ea_|(injection ea_ with ea_;subst ea_));subst ec_;clear en_))
    have bR:=aM bH
    have dz:=aM bI
    clear bH bQ bI
    have bS:=aM (show (aB aA\/w.heap.size<=aA) from (ae.out.1 _ rfl))
    (first|simp only [add_plain] at ah|skip)
    (first|simp only [add_plain] at ay|skip)
    obtain⟨bT,bU⟩:=R_celln false ae.out ((rd aa af):Int) bO bP
    replace bO:=eq_true bO
    replace bP:=eq_true bP
    have aX:=R_putg ae.out ((rd aa af):Int) true
    go_wp2_with (first|((with_reducible refine aaB (t:=4) (p:=42) rfl ?_);refine aar (t:=4) (p:=42) (v:=?bV) (w1:=(wr.setCell ⟨aA,((rd aa af):Int).toNat,none⟩ (.bool true))) ?hg ?ho ?hn ?hr ?_;(case ho=>rfl);(case hg=>rfl);(case hn=>rfl);(case hr=>first|(go_simp;done)|(go_simp;rfl));intro aY hw;have hg:wr.grownBy aY (some aA):=(by rw [hw];exact aX.2);have hp_:Kd.R Kd.bool 4 aY w0.heap.size (fun k_=>(aB k_\/w.heap.size<=k_)) (.slice (some ⟨aA,0,none⟩) aj.length bL) bD:=(by rw [hw,aF.out];exact aX.1);clear aX;replace az:=aM (R_over' (v:=(.slice (some ⟨aA,0,none⟩) aj.length bL)) (qR az) (R_typed ae.out) (by decide) hg);replace HB:=aM ((by rw [hw];exact aac (HB.out) bR.out:Below w0.heap.size w0 aY));replace HK:=aM (abq (S:=(fun k_=>aB k_)) hg qT (fun k_ e_=>(ae.out.1 k_ e_)));replace ae:=aM hp_;clear hg hw hp_))
    (try simp only [<- ai])
    rw [show (⟨aA,ag.toNat,none⟩:Addr)=(⟨aA,0,none⟩:Addr).add ag.toNat from (add_plain _ _).symm]
    go_roundg k2
    case measure=>have:=aQ.out;have:=aZ.out;omega
    exact⟨_,_,_,qZ,qZ,H',⟨by have:=aQ.out;have:=aZ.out;omega⟩,⟨by (try simp only [ai]);(with_reducible repeat (first|apply R_alloc|apply R_drewN|apply R_drew));exact ae.out⟩,⟨by (try simp only [ai]);(with_reducible repeat (first|apply R_alloc|apply R_drewN|apply R_drew));exact az.out⟩,⟨qT⟩,⟨qB⟩⟩
   have H':=aM H
   clear H
   obtain⟨dA,dB,bW⟩:=R_slice az.out
   subst bW
   go_wp2
   (try simp only [<- ai])
   go_roundg k2
   case measure=>have:=aQ.out;have:=aZ.out;omega
   exact⟨(aj),(aG),(wrap64 (ag+1)),qZ,qZ,H',⟨by have:=aQ.out;have:=aZ.out;omega⟩,⟨by (try simp only [ai]);(with_reducible repeat (first|apply R_alloc|apply R_drewN|apply R_drew));exact ae.out⟩,⟨qT⟩,⟨qB⟩⟩
  have H':=aM H
  clear H
  obtain⟨dC,dD,bX⟩:=R_slice ae.out
  subst bX
  have ak:0<=(ag:Int):=qD
  have au:ag < (ax.length:Int):=qD
  obtain⟨aD,aH,ah⟩:=Kd.at_bool (R_reads' ae.out).2.2 ag ak au
  (try rw [<- aS.out] at ah)
  cases aH
  replace ak:=eq_true ak
  replace au:=eq_true au
  go_wp2
  go_roundg k1
  case measure=>have:=aQ.out;omega
  exact⟨(ax),(aC),(wrap64 (ag+1)),qZ,qZ,H',⟨by have:=aQ.out;omega⟩,⟨qR ae⟩,⟨qT⟩,⟨qB⟩⟩
 obtain⟨rfl,rfl⟩:=oJ2 H
 go_wp2
 go_ret
 exact⟨qW,qR ae,qB,qT⟩
end Go.Proofs.YtebpplallecogaaGreat.M
