/- Part 2 of the proof: A function as plain Lean and its contract: written by a program of this session's, turned from the kit's print. -/
import Derived.Test.YtebpplallecogaaGreatDE1
set_option linter.unusedVariables false
set_option linter.unusedSimpArgs false
set_option maxHeartbeats 8000000
set_option maxRecDepth 100000
namespace Go.Proofs.YtebpplallecogaaGreat.M
open Go.Proofs.Tryz Go.RowKit Go.Proofs.YtebpplallecogaaGreatW.PrintWords Go.Proofs.YtebpplallecogaaGreatW.PrintLast Go.Proofs.YtebpplallecogaaGreatW.PrintMore
attribute [local go_sem] aan aal aay aax aaf aae aam aak
def amt (k:Nat) (l0:List S92):Option ((List S27) × Bool):=(amJ k l0).bind fun ak=>(if ak=true then ((SaO.f k l0 0).bind fun ag=>(if ag.length < 3518437208883 then (some ((ag ++ [(⟨10,0,0,0,0⟩:S27)]),true)) else (none))) else (some ((([]:List S27)),false)))
theorem aif (k:Nat) (A0:Option Addr) (c0:Nat) (l0:List S92) (r1:List S27) (r2:Bool) (w:World) (hr0:Kd.C k92 w A0 l0.length l0) (hc0:l0.length<=c0) (h:amt k l0=some (r1,r2)) :
  Calls prog 62 #[.slice A0 l0.length c0] w fun e w'=>∃ aC:Value,e = .returned (.tuple #[aC,.bool r2])/\Kd.R k27 27 w' w.heap.size (fun _=>True) aC r1/\Below w.heap.size w w':=by
 have aD:=underlying27
 have ax:=aM hr0
 have ay:=aM hc0
 clear hr0 hc0
 have HB:=jb_ w
 have H:=h;unfold amt at H
 clear h
 obtain⟨ak,A2,H⟩:=qE H
 try dsimp only at H
 replace H:=jB H;rcases H with ⟨rfl,H⟩ | ⟨rfl,H⟩
 ·obtain⟨ag,A4,H⟩:=qE H
  try dsimp only at H
  replace H:=jL H;obtain⟨az,H⟩:=H
  obtain⟨aG,ah⟩:=ky ((ag ++ [(⟨10,0,0,0,0⟩:S27)]):List S27)
  replace H:=kv ah H
  obtain⟨rfl,rfl⟩:=oJ2 H
  go_enter func62,ntmps62
  go_wp2_with (first|((with_reducible refine jc 71 5 ?_);refine jK func71 (aim k _ _ l0 true _ (kC ax.out) ay.out A2.out) ?_;intro w6 hb;replace HB:=kH hb;clear hb)|((with_reducible refine jc 72 9 ?_);refine jM func72 (amE k _ _ l0 0 ag _ (kb ax HB) ay.out A4.out) ?_;rintro aA w7 ⟨ho0,hb⟩;have aj:=kL ho0;replace HB:=kH hb;clear hb;(try clear ho0))|((with_reducible refine aaa (b:=.append) (xs:=#[.tmp 9,.tmp 11]) rfl ?_);at_builtin;refine Kd.R_append k27 (w0:=w) w.heap.size rfl (.tmp 9) (.tmp 11) 23 27 (.agg #[(iV 0),(iV 0),(iV 0),(iV 0),(iV 0)]) 40 rfl underlying23 abb rfl (by decide) (by omega) aA ag (⟨10,0,0,0,0⟩:S27) [iV 10,iV 0,iV 0,iV 0,iV 0] (fun _=>True) (fun _=>False) rfl rfl ?aP (fun _ hk=>hk.elim) ?aF ?aO ?aB ?aS ?aL ?_;(case aP=>exact aaU _ _ _ (⟨10,0,0,0,0⟩:S27));(case aB=>exact qB);(case aF=>exact (fun _ _=>trivial));(case aO=>exact (qR aj));(case aS=>exact (aa4 qB));(case aL=>have:=az.out;omega);intro aH w8 ho hb hg hat;rw [<- ah.out] at ho;have au:=aM ho;replace HB:=aM hb;clear aj;clear ho hb hg hat))
  go_ret2
  exact⟨_,qW,qR au,qB⟩
 obtain⟨aI,af⟩:=ky ([]:List S27)
 replace H:=kv af H
 obtain⟨rfl,rfl⟩:=oJ2 H
 go_enter func62,ntmps62
 go_wp2_with (first|((with_reducible refine jc 71 5 ?_);refine jK func71 (aim k _ _ l0 false _ (kC ax.out) ay.out A2.out) ?_;intro w9 hb;replace HB:=kH hb;clear hb)|((with_reducible refine jd 7 ?_);refine jV k27 27 ([]:List S27) [] (aa9 _ _) ?_;intro aJ aK ai hb;replace ai:=kr af ai;have av:=kL ai;replace HB:=kH hb;clear hb ai))
 go_ret2
 exact⟨_,qW,qR av,qB⟩
end Go.Proofs.YtebpplallecogaaGreat.M
namespace Go.Proofs.YtebpplallecogaaGreat.M
open Go.Proofs.Tryz Go.RowKit Go.Proofs.YtebpplallecogaaGreatW.PrintWords Go.Proofs.YtebpplallecogaaGreatW.PrintLast Go.Proofs.YtebpplallecogaaGreatW.PrintMore Kd
attribute [local go_sem] aan aal aay aax aaf aae aam aak
def ai5 (a0 ay az:Int) (au:List S90) (aA aB:Int) (av:List S90):Option (Int × Int × (List S90)):=some (a0,0,(([(⟨ay,az,au⟩:S90),(⟨aA,aB,av⟩:S90)]:List S90)))
theorem ai6 (a0 ay az:Int) (af:Nat->Prop) (aG:Option Addr) (aH:Nat) (au:List S90) (aA aB:Int) (ag:Nat->Prop) (aI:Option Addr) (aJ:Nat) (av:List S90) (r1 r2:Int) (r3:List S90) (w:World) (aS:Kd.V k90 90 w w.heap.size (fun k_=>af k_) (.slice aG au.length aH) au) (aT:Kd.V k90 90 w w.heap.size (fun k_=>ag k_) (.slice aI av.length aJ) av) (h:ai5 a0 ay az au aA aB av=some (r1,r2,r3)) :
  Calls prog 109 #[iV a0,.agg #[iV ay,iV az,.slice aG au.length aH],.agg #[iV aA,iV aB,.slice aI av.length aJ]] w fun e w'=>∃ aY:Value,e = .returned (.agg #[iV r1,iV r2,aY])/\Kd.N k90 90 w' w.heap.size (fun k_=>((af k_\/ag k_)\/w.heap.size<=k_)) aY r3/\Below w.heap.size w w':=by
 have bu:=underlying90
 have ah:=aM (show Kd.V k90 90 w w.heap.size (fun k_=>((af k_\/ag k_)\/w.heap.size<=k_)) (.slice aG au.length aH) au from V_mono aS (fun k_ hk=>.inl (.inl hk)))
 have ai:=aM (show Kd.V k90 90 w w.heap.size (fun k_=>((af k_\/ag k_)\/w.heap.size<=k_)) (.slice aI av.length aJ) av from V_mono aT (fun k_ hk=>.inl (.inr hk)))
 have HB:=jb_ w
 have H:=h;unfold ai5 at H
 clear h
 obtain⟨aU,aF⟩:=ky ((([(⟨ay,az,au⟩:S90),(⟨aA,aB,av⟩:S90)]:List S90)):List S90)
 replace H:=kv aF H
 obtain⟨rfl,rfl,rfl⟩:=oJ3 H
 go_enter func109,ntmps109
 go_wp2_with (first|((with_reducible refine jd 4 ?_);refine jY _ 90 ?_;intro aj hg w4 ae hb;have aZ:=kG hg;replace ah:=aM (V_below (V_elderB (qV ah) aj (Nat.le_of_eq hg.symm)) hb);replace ai:=aM (V_below (V_elderB (qV ai) aj (Nat.le_of_eq hg.symm)) hb);replace HB:=kH hb;clear hb hg)|((with_reducible refine jd 5 ?_);refine jY _ 90 ?_;intro ak hg w5 ax hb;have bg:=kG hg;have aK:=kN hg ae;have aL:=kM hg ae;replace ah:=aM (V_below (V_elderB (qV ah) ak (Nat.le_of_eq hg.symm)) hb);replace ai:=aM (V_below (V_elderB (qV ai) ak (Nat.le_of_eq hg.symm)) hb);replace ae:=kB ae hb;replace HB:=kH hb;clear hb hg)|((with_reducible refine jd 6 ?_);refine jY _ 90 ?_;intro aa hg w6 aD hb;have bi:=kG hg;have aN:=kN hg ae;have aO:=kM hg ae;have aP:=kN hg ax;have aQ:=kM hg ax;replace ah:=aM (V_below (V_elderB (qV ah) aa (Nat.le_of_eq hg.symm)) hb);replace ai:=aM (V_below (V_elderB (qV ai) aa (Nat.le_of_eq hg.symm)) hb);replace ae:=kB ae hb;replace ax:=kB ax hb;replace HB:=kH hb;clear hb hg;have bv:=aK.out;have bz:=aL.out;have bA:=aN.out;have bB:=aO.out;have bF:=jz3 ae;have bn:=aP.out;have bq:=aQ.out;have bC:=jz3 ax)|((with_reducible refine jd 10 ?_);refine N_lit k90 _ 90 ?hg (N':=10) ?hd (xs:=([(⟨ay,az,au⟩:S90),(⟨aA,aB,av⟩:S90)]:List S90)) (inner:=[iV ay,iV az,.slice aG au.length aH,iV aA,iV aB,.slice aI av.length aJ]) (ok:=(fun k_=>((af k_\/ag k_)\/w.heap.size<=k_)/\k_≠aj/\k_≠ak/\k_≠aa)) (okp:=(fun k_=>((af k_\/ag k_)\/w.heap.size<=k_)/\k_≠aj/\k_≠ak/\k_≠aa)) ?hr ?hp (fun _ hk=>hk) ((show ∀ k_,w6.heap.size<=k_->(fun k_=>((af k_\/ag k_)\/w.heap.size<=k_)/\k_≠aj/\k_≠ak/\k_≠aa) k_ from fun k_ hk=>⟨(.inr (Nat.le_trans (aa4 qB) hk)),Kd.freshB (g:=aj) (o:=.cells #[iV ay,iV az,.slice aG au.length aH] 90 (0,0)) (qK ae) k_ hk,Kd.freshB (g:=ak) (o:=.cells #[iV aA,iV aB,.slice aI av.length aJ] 90 (0,0)) (qK ax) k_ hk,Kd.freshB (g:=aa) (o:=.cells #[iV 0,iV 0,.slice none 0 0] 90 (0,0)) (qK aD) k_ hk⟩) _ (Nat.le_refl _)) (Below.refl _ _) (Nat.le_refl _) (by simp) ?_;(case hd=>rfl);(case hg=>rfl);(case hr=>first|(go_simp;done)|(go_simp;rfl));(case hp=>exact (amO (show Kd.FK k90 _ _ (⟨ay,az,au⟩:S90) [iV ay,iV az,.slice aG au.length aH] from (al0 _ _ (⟨ay,az,au⟩:S90) (V_reads' (V_mono (ok':=(fun k_=>((af k_\/ag k_)\/w.heap.size<=k_)/\k_≠aj/\k_≠ak/\k_≠aa)) (ah.out) (fun k_ hk=>⟨hk.1.1.1,⟨hk.1.1.2,⟨hk.1.2,hk.2⟩⟩⟩))).2.1 (V_F (V_mono (ok':=(fun k_=>((af k_\/ag k_)\/w.heap.size<=k_)/\k_≠aj/\k_≠ak/\k_≠aa)) (ah.out) (fun k_ hk=>⟨hk.1.1.1,⟨hk.1.1.2,⟨hk.1.2,hk.2⟩⟩⟩))))) (amO (show Kd.FK k90 _ _ (⟨aA,aB,av⟩:S90) [iV aA,iV aB,.slice aI av.length aJ] from (al0 _ _ (⟨aA,aB,av⟩:S90) (V_reads' (V_mono (ok':=(fun k_=>((af k_\/ag k_)\/w.heap.size<=k_)/\k_≠aj/\k_≠ak/\k_≠aa)) (ai.out) (fun k_ hk=>⟨hk.1.1.1,⟨hk.1.1.2,⟨hk.1.2,hk.2⟩⟩⟩))).2.1 (V_F (V_mono (ok':=(fun k_=>((af k_\/ag k_)\/w.heap.size<=k_)/\k_≠aj/\k_≠ak/\k_≠aa)) (ai.out) (fun k_ hk=>⟨hk.1.1.1,⟨hk.1.1.2,⟨hk.1.2,hk.2⟩⟩⟩))))) (aa9 _ _))));intro bD bG aC hb hg_ hnew_;clear hg_ hnew_;replace aC:=kr aF aC;have aR:=aM (N_lower aC (aa4 qB));replace ah:=aM (V_elder' (qV ah) (by first|exact N_base aC|exact R_base aC) hb);replace ai:=aM (V_elder' (qV ai) (by first|exact N_base aC|exact R_base aC) hb);replace ae:=kB ae hb;replace ax:=kB ax hb;replace aD:=kB aD hb;replace HB:=kH hb;clear hb aC;obtain⟨aV,aW,aX⟩:=N_slice aR.out;subst aX;have bE:=jz3 aD))
 refine bodyPost_ret (results_cell_row rfl _ _ aa 90 #[iV a0,iV 0,.slice aV aU.length aW] (0,0) _ rfl (qF aD) underlying90 rfl (by kernel_rfl)) rfl ?_
 exact⟨_,qW,by (with_reducible repeat (first|apply N_alloc|apply N_drewN|apply N_drew));exact N_mono (N_far (p:=⟨aa,2,none⟩) (N_far (p:=⟨aa,1,none⟩) (N_far (p:=⟨aa,0,none⟩) (N_mono aR.out (fun k_ hk=>(⟨hk,hk.2.2.2⟩:_/\k_≠aa))) (fun _ hk=>hk.2) (iV a0)) (fun _ hk=>hk.2) (iV 0)) (fun _ hk=>hk.2) (.slice aV aU.length aW)) (fun _ hk=>hk.1.1),qB⟩
end Go.Proofs.YtebpplallecogaaGreat.M
namespace Go.Proofs.YtebpplallecogaaGreat.M
open Go.Proofs.Tryz Go.RowKit Go.Proofs.YtebpplallecogaaGreatW.PrintWords Go.Proofs.YtebpplallecogaaGreatW.PrintLast Go.Proofs.YtebpplallecogaaGreatW.PrintMore
attribute [local go_sem] aan aal aay aax aaf aae aam aak
def afq (a0 a1:Int):Option (Int × Int × (List S90)):=some (a0,a1,(([]:List S90)))
theorem aei (a0 a1 r1 r2:Int) (r3:List S90) (w:World) (h:afq a0 a1=some (r1,r2,r3)) :
  Calls prog 110 #[iV a0,iV a1] w fun e w'=>∃ aj:Value,e = .returned (.agg #[iV r1,iV r2,aj])/\Kd.R k90 90 w' w.heap.size (fun _=>True) aj r3/\Below w.heap.size w w':=by
 have ax:=underlying90
 have HB:=jb_ w
 have H:(some (a0,a1,(([]:List S90))))=some (r1,r2,r3):=h
 clear h
 obtain⟨ah,af⟩:=ky ([]:List S90)
 replace H:=kv af H
 obtain⟨rfl,rfl,rfl⟩:=oJ3 H
 go_enter func110,ntmps110
 go_wp2_with (first|((with_reducible refine jd 4 ?_);refine jY _ 90 ?_;intro aa hg w3 ae hb;have ak:=kG hg;replace HB:=kH hb;clear hb hg)|((with_reducible refine jd 7 ?_);refine jV k90 90 ([]:List S90) [] (aa9 _ _) ?_;intro ay w4 ai hb;replace ai:=kr af ai;have ag:=aM (Kd.R_lower (Kd.R_newB ai (g:=aa) (o:=.cells #[iV 0,iV 0,.slice none 0 0] 90 (0,0)) (qK ae)) (aa4 qB));replace ae:=kB ae hb;replace HB:=kH hb;clear hb ai;obtain⟨au,av,az⟩:=Kd.R_slice ag.out;subst az;have aA:=jz3 ae))
 refine bodyPost_ret (results_cell_row rfl _ _ aa 90 #[iV a0,iV a1,.slice au ah.length av] (0,0) _ rfl (qF ae) underlying90 rfl (by kernel_rfl)) rfl ?_
 exact⟨_,qW,by (with_reducible repeat (first|apply Kd.R_alloc|apply Kd.R_drewN|apply Kd.R_drew));exact Kd.R_mono (Kd.R_far (p:=⟨aa,2,none⟩) (Kd.R_far (p:=⟨aa,1,none⟩) (Kd.R_far (p:=⟨aa,0,none⟩) (Kd.R_mono ag.out (fun k_ hk=>(⟨hk,hk.2⟩:_/\k_≠aa))) (fun _ hk=>hk.2) (iV a0)) (fun _ hk=>hk.2) (iV a1)) (fun _ hk=>hk.2) (.slice au ah.length av)) (fun _ hk=>trivial),qB⟩
end Go.Proofs.YtebpplallecogaaGreat.M
namespace Go.Proofs.YtebpplallecogaaGreat.M
open Go.Proofs.Tryz Go.RowKit Go.Proofs.YtebpplallecogaaGreatW.PrintWords Go.Proofs.YtebpplallecogaaGreatW.PrintLast Go.Proofs.YtebpplallecogaaGreatW.PrintMore Kd
abbrev eV (x y:Int) (A:Option Addr) (z:List S90) (c:Nat):Value:=.agg #[iV x,iV y,.slice A z.length c]
abbrev Z8:Array Value:=#[iV 0,iV 0,iV 0,iV 0,iV 0,.slice none 0 0,.slice none 0 0,.slice none 0 0]
theorem nrm {p:Prop} (h:p:=by first|(simp only [abf,Act.put,List.setIfInBounds_toArray,List.set_cons_zero,List.set_cons_succ,eV];done)|(simp only [abf,Act.put,List.setIfInBounds_toArray,List.set_cons_zero,List.set_cons_succ,eV];rfl)):p:=h
theorem qR9 {p:Prop} (h:p:=by first|(go_simp;done)|(go_simp;rfl)):p:=h
theorem akH {p:Prop} (h:p:=by first|(go_simp;done)|(go_simp;rfl)):p:=h
theorem aqH {W:World} {b:Nat} {t:TypeId} {a0 a1 a2 a3 a4 a5 a6 a7:Value} (h:W.heap[b]?=some (.cells #[a0,a1,a2,a3,a4,a5,a6,a7] t (0,0))):W.cell? ⟨b,0,none⟩=some a0/\W.cell? ⟨b,1,none⟩=some a1/\W.cell? ⟨b,2,none⟩=some a2/\W.cell? ⟨b,3,none⟩=some a3/\W.cell? ⟨b,4,none⟩=some a4/\W.cell? ⟨b,5,none⟩=some a5/\W.cell? ⟨b,6,none⟩=some a6/\W.cell? ⟨b,7,none⟩=some a7/\W.frozen? ⟨b,0,none⟩=false/\W.frozen? ⟨b,1,none⟩=false/\W.frozen? ⟨b,2,none⟩=false/\W.frozen? ⟨b,3,none⟩=false/\W.frozen? ⟨b,4,none⟩=false/\W.frozen? ⟨b,5,none⟩=false/\W.frozen? ⟨b,6,none⟩=false/\W.frozen? ⟨b,7,none⟩=false :=
 ⟨(aa3 h 0).trans rfl,(aa3 h 1).trans rfl,(aa3 h 2).trans rfl,(aa3 h 3).trans rfl,(aa3 h 4).trans rfl,(aa3 h 5).trans rfl,(aa3 h 6).trans rfl,(aa3 h 7).trans rfl,aa7 h 0,aa7 h 1,aa7 h 2,aa7 h 3,aa7 h 4,aa7 h 5,aa7 h 6,aa7 h 7⟩
def okB (w:World) (g:Nat) (B:List (Nat × Array Value)) (k:Nat):Prop:=w.heap.size<=k/\k≠g/\∀ b∈B,k≠b.1
structure LX (w0 w:World) (g:Nat) (s0:List Int) (v:Value) (tb:List S92) (B:List (Nat × Array Value)) (L:List (Value × List S90)) (M:List (Value × List S92)) (p:Int) (W:World):Prop where
 body:Kd.N k92 92 W w.heap.size (okB w g B) v tb
 es:∀ x∈L,Kd.N k90 90 W w.heap.size (fun k=>okB w g B k/\some k≠v.ownBlock) x.1 x.2
 ms:∀ x∈M,Kd.N k92 92 W w.heap.size (fun k=>okB w g B k/\some k≠v.ownBlock) x.1 x.2
 bx:∀ b∈B,W.heap[b.1]?=some (.cells b.2 92 (0,0))/\w.heap.size<=b.1/\b.1≠g
 nd:(B.map (fun b=>b.1)).Nodup
 rd:Sad w0 W g s0 p
 kp:aa6 w W g none
 bl:Below w0.heap.size w0 W
 ws:w0.heap.size<=w.heap.size
section
variable {w0 w W W':World} {g:Nat} {s0:List Int} {v:Value} {tb:List S92} {B:List (Nat × Array Value)} {L:List (Value × List S90)} {M:List (Value × List S92)} {p:Int}
theorem LX.below (h:LX w0 w g s0 v tb B L M p W) (hb:Below W.heap.size W W'):LX w0 w g s0 v tb B L M p W' :=
 ⟨N_below h.body hb,fun x hx=>N_below (h.es x hx) hb,fun x hx=>N_below (h.ms x hx) hb,fun b hx=>⟨abW (h.bx b hx).1 hb,(h.bx b hx).2⟩,h.nd,Sad.below h.rd hb,h.kp.trans (ad4 hb g none) (.inl rfl),abH h.bl hb,h.ws⟩
theorem LX.size (h:LX w0 w g s0 v tb B L M p W):w.heap.size<=W.heap.size:=ae6 h.kp
theorem LX.fresh (h:LX w0 w g s0 v tb B L M p W) {k:Nat} (hk:W.heap.size<=k):okB w g B k/\some k≠v.ownBlock :=
 ⟨⟨Nat.le_trans h.size hk,Sad.fresh h.rd k hk,fun b hx e=>by have:=acK (h.bx b hx).1;omega⟩,Kd.fresh' (N_lt h.body) k hk⟩
theorem LX.tail {x:Value × List S90} (h:LX w0 w g s0 v tb B (x :: L) M p W):LX w0 w g s0 v tb B L M p W:=⟨h.body,fun y hy=>h.es y (List.mem_cons_of_mem _ hy),h.ms,h.bx,h.nd,h.rd,h.kp,h.bl,h.ws⟩
theorem LX.expr (h:LX w0 w g s0 v tb B L M p W) (hb:Below W.heap.size W W') {base:Nat} {ok:Nat->Prop} {u:Value} {t:List S90} (ho:Kd.N k90 90 W' base ok u t) (hbase:w.heap.size<=base) (hok:∀ k,ok k->okB w g B k/\some k≠v.ownBlock):LX w0 w g s0 v tb B ((u,t) :: L) M p W':=by
 have h':=h.below hb
 exact⟨h'.body,fun x hx=>(List.mem_cons.1 hx).elim (fun e=>by subst e;exact N_lower (N_mono ho hok) hbase) (h'.es x),h'.ms,h'.bx,h'.nd,h'.rd,h'.kp,h'.bl,h'.ws⟩
theorem aco (h:LX w0 w g s0 v tb B L M p W) {a b x y:Int} {z:List S90} (A:afq a b=some (x,y,z)) {R:Value->World->Prop} (hc:∀ A c W',LX w0 w g s0 v tb B ((.slice A z.length c,z) :: L) M p W'->R (.agg #[iV x,iV y,.slice A z.length c]) W') :
  Calls prog 110 #[iV a,iV b] W fun e W'=>∃ v,e = .returned v/\R v W':=by
 refine (aei a b x y z W A).mono ?_
 rintro e W' ⟨u,rfl,ho,hb⟩
 have ho:=R_N (R_bound ho)
 obtain⟨A',c',rfl⟩:=N_slice ho
 exact⟨_,rfl,hc A' c' W' (h.expr hb ho h.size fun k hk=>h.fresh hk.2.1)⟩
theorem agl (h:LX w0 w g s0 v tb B L M p W) {o a1 a2 b1 b2 x y:Int} {l1 l2 z:List S90} {A1 A2:Option Addr} {c1 c2:Nat} (h1:(.slice A1 l1.length c1,l1)∈L) (h2:(.slice A2 l2.length c2,l2)∈L) (A:ai5 o a1 a2 l1 b1 b2 l2=some (x,y,z)) {R:Value->World->Prop} (hc:∀ A c W',LX w0 w g s0 v tb B ((.slice A z.length c,z) :: L) M p W'->R (.agg #[iV x,iV y,.slice A z.length c]) W') :
  Calls prog 109 #[iV o,.agg #[iV a1,iV a2,.slice A1 l1.length c1],.agg #[iV b1,iV b2,.slice A2 l2.length c2]] W fun e W'=>∃ v,e = .returned v/\R v W':=by
 refine (ai6 o a1 a2 _ A1 c1 l1 b1 b2 _ A2 c2 l2 x y z W (N_V (h.es _ h1)) (N_V (h.es _ h2)) A).mono ?_
 rintro e W' ⟨u,rfl,ho,hb⟩
 obtain⟨A',c',rfl⟩:=N_slice ho
 exact⟨_,rfl,hc A' c' W' (h.expr hb ho h.size fun k hk=>hk.elim (fun hk=>hk.elim id id) (fun hk=>h.fresh hk))⟩
theorem LX.pick (h:LX w0 w g s0 v tb B L M p W) {k:Nat} {n x q:Int} (A:aaW k s0 p n=some (x,q)) {R:Value->World->Prop} (hc:∀ W',LX w0 w g s0 v tb B L M q W'->R (iV x) W') :
  Calls prog 52 #[.pointer (some ⟨g,0,none⟩),iV n] W fun e W'=>∃ v,e = .returned v/\R v W':=by
 refine (aab k g s0 p n x q w0 W h.rd h.bl A).mono ?_
 rintro e W' ⟨rfl,hi,hb,hk⟩
 exact⟨_,rfl,hc W' ⟨N_keep h.body hk (fun _ q=>q.2.1),fun x hx=>N_keep (h.es x hx) hk (fun _ q=>q.1.2.1),fun x hx=>N_keep (h.ms x hx) hk (fun _ q=>q.1.2.1),fun b hx=>⟨acW hk (h.bx b hx).1 (h.bx b hx).2.2 (by simp),(h.bx b hx).2⟩,h.nd,hi,h.kp.trans hk (.inl rfl),hb,h.ws⟩⟩
/-- A new box. -/
theorem LX.box (h:LX w0 w g s0 v tb B L M p W) {b:Nat} (hg:b=W.heap.size) {cs:Array Value} (hbox:W'.heap[b]?=some (.cells cs 92 (0,0))) (hb:Below W.heap.size W W'):LX w0 w g s0 v tb ((b,cs) :: B) L M p W':=by
 have hf:=(h.fresh (k:=b) (by omega)).1
 have e:∀ k,okB w g B k/\k≠b->okB w g ((b,cs) :: B) k:=fun k hk=>⟨hk.1.1,hk.1.2.1,fun x hx=>(List.mem_cons.1 hx).elim (fun e=>by subst e;exact hk.2) (hk.1.2.2 x)⟩
 exact⟨N_mono (N_below (N_elderB h.body b (Nat.le_of_eq hg.symm)) hb) e,
  fun x hx=>N_mono (N_below (N_elderB (h.es x hx) b (Nat.le_of_eq hg.symm)) hb) fun k hk=>⟨e k ⟨hk.1.1,hk.2⟩,hk.1.2⟩,
  fun x hx=>N_mono (N_below (N_elderB (h.ms x hx) b (Nat.le_of_eq hg.symm)) hb) fun k hk=>⟨e k ⟨hk.1.1,hk.2⟩,hk.1.2⟩,
  fun x hx=>(List.mem_cons.1 hx).elim (fun e=>by subst e;exact⟨hbox,hf.1,hf.2.1⟩) (fun hx=>⟨abW (h.bx x hx).1 hb,(h.bx x hx).2⟩),
  List.nodup_cons.2 ⟨fun hm=>by obtain⟨x,hx,e⟩:=List.mem_map.1 hm;exact hf.2.2 x hx e.symm,h.nd⟩,
  (h.below hb).rd,(h.below hb).kp,(h.below hb).bl,h.ws⟩
/-- A cell of the youngest box is set. -/
theorem LX.put {b:Nat} {cs:Array Value} (h:LX w0 w g s0 v tb ((b,cs) :: B) L M p W) (j:Nat) (u:Value) {ds:Array Value} (hd:cs.setIfInBounds j u=ds):LX w0 w g s0 v tb ((b,ds) :: B) L M p (W.setCell ⟨b,j,none⟩ u):=by
 obtain⟨hb1,hb2,hb3⟩:=h.bx _ (List.mem_cons_self ..)
 have e:∀ k,okB w g ((b,cs) :: B) k->okB w g ((b,ds) :: B) k:=fun k hk=>⟨hk.1,hk.2.1,fun x hx=>(List.mem_cons.1 hx).elim (fun e=>by subst e;exact hk.2.2 (b,cs) (List.mem_cons_self ..)) (fun hx=>hk.2.2 x (List.mem_cons_of_mem _ hx))⟩
 have n:∀ k,okB w g ((b,cs) :: B) k->k≠b:=fun k hk=>hk.2.2 _ (List.mem_cons_self ..)
 have nd:=List.nodup_cons.1 h.nd
 exact⟨N_mono (N_far (p:=⟨b,j,none⟩) h.body n u) e,fun x hx=>N_mono (N_far (p:=⟨b,j,none⟩) (h.es x hx) (fun k hk=>n k hk.1) u) fun k hk=>⟨e k hk.1,hk.2⟩,
  fun x hx=>N_mono (N_far (p:=⟨b,j,none⟩) (h.ms x hx) (fun k hk=>n k hk.1) u) fun k hk=>⟨e k hk.1,hk.2⟩,
  fun x hx=>(List.mem_cons.1 hx).elim (fun e=>by subst e;exact⟨alh hb1 j u hd,hb2,hb3⟩) (fun hx=>⟨alj (h.bx x (List.mem_cons_of_mem _ hx)).1 (fun e=>nd.1 (List.mem_map.2 ⟨x,hx,e⟩)) u,(h.bx x (List.mem_cons_of_mem _ hx)).2⟩),
  h.nd,amw h.rd (fun e=>hb3 e.symm) u,aho h.kp hb2 u,aag h.bl (Nat.le_trans h.ws hb2),h.ws⟩
theorem LX.row (h:LX w0 w g s0 v tb B L M p W) {ok:Nat->Prop} {u:Value} {t:List S92} (hb:Below W.heap.size W W') {base:Nat} (ho:Kd.N k92 92 W' base ok u t) (hbase:w.heap.size<=base) (hok:∀ k,ok k->okB w g B k/\some k≠v.ownBlock):LX w0 w g s0 v tb B L ((u,t) :: M) p W':=by
 have h':=h.below hb
 exact⟨h'.body,h'.es,fun x hx=>(List.mem_cons.1 hx).elim (fun e=>by subst e;exact N_lower (N_mono ho hok) hbase) (h'.ms x),h'.bx,h'.nd,h'.rd,h'.kp,h'.bl,h'.ws⟩
theorem LX.drew (h:LX w0 w g s0 v tb B L M p W):LX w0 w g s0 v tb B L M p W.drew:=h.below (ac8 (Below.refl _ _))
theorem LX.at_ {W:World} (h:LX w0 w g s0 v tb B L M p W) {b:Nat} {cs:Array Value} (hb:(b,cs)∈B:=by simp):W.heap[b]?=some (.cells cs 92 (0,0))/\True:=⟨(h.bx _ hb).1,trivial⟩
theorem anH {W:World} {p0:Int} (hk0:aa6 w W g none) (hi0:Sad w0 W g s0 p0) (hw:w0.heap.size<=w.heap.size) (ho:Kd.N k92 92 W' W.heap.size (fun k=>W.heap.size<=k) v tb) (hi:Sad w0 W' g s0 p) (hb:Below w0.heap.size w0 W') (hk:aa6 W W' g none):LX w0 w g s0 v tb [] [] [] p W' :=
 ⟨N_lower (N_mono ho fun k h=>⟨Nat.le_trans (ae6 hk0) h,Sad.fresh hi0 k h,fun _ hb=>(by cases hb)⟩) (ae6 hk0),fun _ h=>(by cases h),fun _ h=>(by cases h),fun _ h=>(by cases h),List.nodup_nil,hi,hk0.trans hk (.inl rfl),hb,hw⟩
theorem LX.one (h:LX w0 w g s0 v tb B L M p W) {A:Option Addr} {c:Nat} {x y:Int} {z:List S90} (hm:(.slice A z.length c,z)∈L):aat (Kd.FK k92 W (fun k=>okB w g B k/\some k≠v.ownBlock)) k92.sz [(⟨1,3,0,(⟨x,y,z⟩:S90),[],[]⟩:S92)] [iV 1,iV 3,iV 0,iV x,iV y,.slice A z.length c,.slice none 0 0,.slice none 0 0] :=
 acH (acF _ _ (⟨1,3,0,(⟨x,y,z⟩:S90),[],[]⟩:S92) (N_reads' (h.es _ hm)).2.1 (N_F (h.es _ hm)) (Nat.le_refl _) (F_nil _ _ _) (Nat.le_refl _) (F_nil _ _ _)) (aa9 _ _)
theorem aqG {A0:Option Addr} {c0:Nat} (h:LX w0 w g s0 (.slice A0 tb.length c0) tb B L M p W) {A A':Option Addr} {c c':Nat} {x y x' y':Int} {z z':List S90} (hm:(.slice A z.length c,z)∈L) (hm':(.slice A' z'.length c',z')∈L):aat (Kd.FK k92 W (okB w g B)) k92.sz [(⟨1,3,0,(⟨x,y,z⟩:S90),[],[]⟩:S92),(⟨3,0,0,(⟨x',y',z'⟩:S90),tb,[]⟩:S92)] [iV 1,iV 3,iV 0,iV x,iV y,.slice A z.length c,.slice none 0 0,.slice none 0 0,iV 3,iV 0,iV 0,iV x',iV y',.slice A' z'.length c',.slice A0 tb.length c0,.slice none 0 0] :=
 acH (acF _ _ (⟨1,3,0,(⟨x,y,z⟩:S90),[],[]⟩:S92) (N_reads' (h.es _ hm)).2.1 (N_F (N_mono (h.es _ hm) fun _ hk=>hk.1)) (Nat.le_refl _) (F_nil _ _ _) (Nat.le_refl _) (F_nil _ _ _))
  (acH (acF _ _ (⟨3,0,0,(⟨x',y',z'⟩:S90),tb,[]⟩:S92) (N_reads' (h.es _ hm')).2.1 (N_F (N_mono (h.es _ hm') fun _ hk=>hk.1)) (N_reads' h.body).2.1 (N_F h.body) (Nat.le_refl _) (F_nil _ _ _)) (aa9 _ _))
theorem LX.put8 {b:Nat} {a0 a1 a2 a3 a4 a5 a6 a7:Value} (u0 u1 u2 u3 u4 u5 u6 u7:Value) (h:LX w0 w g s0 v tb ((b,#[a0,a1,a2,a3,a4,a5,a6,a7]) :: B) L M p W):LX w0 w g s0 v tb ((b,#[u0,u1,u2,u3,u4,u5,u6,u7]) :: B) L M p ((((((((W.setCell ⟨b,0,none⟩ u0).setCell ⟨b,1,none⟩ u1).setCell ⟨b,2,none⟩ u2).setCell ⟨b,3,none⟩ u3).setCell ⟨b,4,none⟩ u4).setCell ⟨b,5,none⟩ u5).setCell ⟨b,6,none⟩ u6).setCell ⟨b,7,none⟩ u7) :=
 (LX.put (ds:=#[u0,u1,u2,u3,u4,u5,u6,u7]) (LX.put (ds:=#[u0,u1,u2,u3,u4,u5,u6,a7]) (LX.put (ds:=#[u0,u1,u2,u3,u4,u5,a6,a7]) (LX.put (ds:=#[u0,u1,u2,u3,u4,a5,a6,a7]) (LX.put (ds:=#[u0,u1,u2,u3,a4,a5,a6,a7]) (LX.put (ds:=#[u0,u1,u2,a3,a4,a5,a6,a7]) (LX.put (ds:=#[u0,u1,a2,a3,a4,a5,a6,a7]) (LX.put (ds:=#[u0,a1,a2,a3,a4,a5,a6,a7]) h 0 u0 rfl) 1 u1 rfl) 2 u2 rfl) 3 u3 rfl) 4 u4 rfl) 5 u5 rfl) 6 u6 rfl) 7 u7 rfl)
variable {ops:Array Oper} {o:Oper} {a:Act} {Q:Exit->Act->World->Prop} {Kc:Act->World->Prop}
/-- A literal of one statement that sets. -/
theorem adM (h:LX w0 w g s0 v tb B L M p W) (hw:Region.wanted o (yielded ops a.tmps)=true) {N:Tmp} (hd:o.dst=some N) {inner:List Value} {xs ys:List S92} (hy:ys=xs)
  (hrun:(execOp a.eval o).run prog W = .ok (.value (.slice (some ⟨W.heap.size,0,none⟩) xs.length xs.length)) (W.alloc (.cells inner.toArray 92 (0,0))))
  (hrep:aat (Kd.FK k92 W (fun k=>okB w g B k/\some k≠v.ownBlock)) k92.sz xs inner) (hm:xs.length<=9223372036854775807)
  (hc:∀ A c W',LX w0 w g s0 v tb B L ((.slice A ys.length c,ys) :: M) p W'->Kc (a.put (some N) (.slice A ys.length c)) W'):if Region.wanted o (yielded ops a.tmps)=true then Oper.wp prog o a W Kc Q else Kc (a.put o.dst undef) W:=by
 subst hy
 refine N_lit_step k92 W.heap.size 92 hw hd hrun hrep (fun _ hk=>hk) (h.fresh (Nat.le_refl _)) (Below.refl _ _) (Nat.le_refl _) hm ?_
 intro v1 W1 hN hb _ _
 obtain⟨A,c,rfl⟩:=N_slice hN
 rw [hd]
 exact hc A c W1 (h.row hb hN h.size fun k hk=>hk)
theorem LX.lit2 (h:LX w0 w g s0 v tb B L M p W) (hw:Region.wanted o (yielded ops a.tmps)=true) {N:Tmp} (hd:o.dst=some N) {inner:List Value} {xs:List S92}
  (hrun:(execOp a.eval o).run prog W = .ok (.value (.slice (some ⟨W.heap.size,0,none⟩) xs.length xs.length)) (W.alloc (.cells inner.toArray 92 (0,0))))
  (hrep:aat (Kd.FK k92 W (okB w g B)) k92.sz xs inner) (hm:xs.length<=9223372036854775807)
  (hc:∀ v1 W',Kd.N k92 92 W' w.heap.size (okB w g B) v1 xs->LX w0 w g s0 v tb B L M p W'->Kc (a.put (some N) v1) W'):if Region.wanted o (yielded ops a.tmps)=true then Oper.wp prog o a W Kc Q else Kc (a.put o.dst undef) W:=by
 refine N_lit_step k92 W.heap.size 92 hw hd hrun hrep (fun _ hk=>hk) (h.fresh (Nat.le_refl _)).1 (Below.refl _ _) (Nat.le_refl _) hm ?_
 intro v1 W1 hN hb _ _
 rw [hd]
 exact hc v1 W1 (N_lower hN h.size) (h.below hb)
/-- A row is appended to the row of statements. -/
theorem LX.app {A1:Option Addr} {c1:Nat} (h:LX w0 w g s0 (.slice A1 tb.length c1) tb B L M p W) (hw:Region.wanted o (yielded ops a.tmps)=true) {N:Tmp} (hd:o.dst=some N) (s x:Operand)
  (ho:o.op = .call { callee:=.builtin .append,args:=#[s,x],argTypes:=#[75,75] }) {A2:Option Addr} {c2:Nat} {ys yt:List S92} (hy:yt=tb ++ ys) (hs:a.eval s = .slice A1 tb.length c1) (hx:a.eval x = .slice A2 ys.length c2) (hys:(.slice A2 ys.length c2,ys)∈M)
  (hl:tb.length+ys.length < 1256584717458) (hc:∀ A c W',LX w0 w g s0 (.slice A yt.length c) yt B L [] p W'->Kc (a.put (some N) (.slice A yt.length c)) W'):if Region.wanted o (yielded ops a.tmps)=true then Oper.wp prog o a W Kc Q else Kc (a.put o.dst undef) W:=by
 subst hy
 refine N_append_rows_step k92 w.heap.size hw s x 75 92 (.agg #[(iV 0),(iV 0),(iV 0),(iV 0),(iV 0),(.slice none 0 0),(.slice none 0 0),(.slice none 0 0)]) 112 ho underlying75 al4 rfl (by decide) (by omega) (.slice A1 tb.length c1) tb ys A2 ys.length c2 (okB w g B) (fun k=>okB w g B k/\some k≠(.slice A1 tb.length c1:Value).ownBlock) hs hx h.body (N_F (h.ms _ hys)) (fun _ hk=>hk) (fun k hk=>(h.fresh hk).1) (Below.refl _ _) h.size (by omega) ?_
 intro v1 W1 hN hb hg hat
 obtain⟨A,c,rfl⟩:=N_slice hN
 rw [hd]
 exact hc A c W1 ⟨hN,fun y hy=>N_afterv (h.es y hy) hg hat,fun y hy=>(by cases hy),
  fun b hb'=>⟨aaq (h.bx b hb').1 hg (N_away h.body fun k hk=>hk.2.2 b hb'),(h.bx b hb').2⟩,h.nd,Sad.grown h.rd hg (N_away h.body fun k hk=>hk.2.1),h.kp.trans (aaP hg g) (N_base2 h.body),abG h.bl h.ws hb,h.ws⟩
theorem abx (h:LX w0 w g s0 v tb B L M p W) (hw:Region.wanted o (yielded ops a.tmps)=true) {N:Tmp} (hd:o.dst=some N) {cs:Array Value}
  (hrun:(execOp a.eval o).run prog W = .ok (.value (.pointer (some ⟨W.heap.size,0,none⟩))) (W.alloc (.cells cs 92 (0,0))))
  (hc:∀ b W',LX w0 w g s0 v tb ((b,cs) :: B) L M p W'->Kc (a.put (some N) (.pointer (some ⟨b,0,none⟩))) W'):if Region.wanted o (yielded ops a.tmps)=true then Oper.wp prog o a W Kc Q else Kc (a.put o.dst undef) W:=by
 refine aht hw hd hrun ?_
 intro b hg W1 hbox hb
 rw [hd]
 exact hc b W1 (h.box hg hbox hb)
end
end Go.Proofs.YtebpplallecogaaGreat.M
namespace Go.Proofs.YtebpplallecogaaGreat.M
open Go.Proofs.Tryz Go.RowKit Go.Proofs.YtebpplallecogaaGreatW.PrintWords Go.Proofs.YtebpplallecogaaGreatW.PrintLast Go.Proofs.YtebpplallecogaaGreatW.PrintMore Kd
attribute [local go_sem] aan aal aay aax aaf aae aam aak
def aly (k:Nat) (ag:List Int) (ak:Int):Option (Int × Int × (List S90) × Int):=(aaW k ag ak 4).bind fun av=>(if av.1=0 then ((aaW k ag av.2 4).bind fun aH=>((afq 0 aH.1).bind fun aC=>(some (aC.1,aC.2.1,aC.2.2,aH.2)))) else (if av.1=1 then ((some (([5,31,32,100,2047,2048,65536,99999]:List Int):List Int)).bind fun aA=>((aaW k ag av.2 8).bind fun ay=>(if 0<=ay.1 then (if ay.1 < (aA.length:Int) then ((afq 0 (rd aA ay.1)).bind fun aD=>(some (aD.1,aD.2.1,aD.2.2,ay.2))) else (none)) else (none)))) else ((aaW k ag av.2 4).bind fun aI=>((afq 13 aI.1).bind fun aF=>(some (aF.1,aF.2.1,aF.2.2,aI.2))))))
theorem alz (k g:Nat) (ag:List Int) (ak r1 r2:Int) (r3:List S90) (r4:Int) (w0 w:World) (hI:Sad w0 w g ag ak) (hB:Below w0.heap.size w0 w) (h:aly k ag ak=some (r1,r2,r3,r4)) :
  Calls prog 111 #[.pointer (some ⟨g,0,none⟩)] w fun e w'=>∃ bP:Value,e = .returned (.agg #[iV r1,iV r2,bP])/\Kd.R k90 90 w' w.heap.size (fun _=>True) bP r3/\Sad w0 w' g ag r4/\Below w0.heap.size w0 w'/\aa6 w w' g none:=by
 have bZ:=underlying90
 have HI0:=aM hI
 have HK:=aM (aaG w g none)
 have HL:=aM hB.size
 clear hI
 have HW0:=aM hB.size
 have HB:=aM hB
 clear hB
 have H:=h;unfold aly at H
 clear h
 obtain⟨⟨aP,ax⟩,A2,H⟩:=qE H
 try dsimp only at H
 replace H:=jE H;rcases H with ⟨bF,bG,H⟩ | ⟨c3,bF,bG,H⟩
 ·obtain⟨⟨aQ,bH⟩,A4,H⟩:=qE H
  try dsimp only at H
  obtain⟨⟨aR,aS,aT⟩,A5,H⟩:=qE H
  try dsimp only at H
  obtain⟨rfl,rfl,rfl,rfl⟩:=oJ4 H
  go_enter func111,ntmps111
  go_wp2_with (first|((with_reducible refine jd 2 ?_);refine jY _ 90 ?_;intro aa hg w6 ae hb;have aJ:=aM ((by rw [hg];exact kU:w.heap.size<=aa));have aK:=aM ((Nat.le_trans HW0.out (by rw [hg];exact kU:w.heap.size<=aa):w0.heap.size<=aa));have aj:=aM ((by rw [hg];exact Nat.ne_of_lt (abt (show Sad w0 _ g ag ak from qI HI0)):g≠aa));have af:=aM ((by rw [hg];exact Nat.ne_of_gt (abt (show Sad w0 _ g ag ak from qI HI0)):aa≠g));replace HI0:=aM (Sad.below (qI HI0) hb);replace HK:=kY hb;replace HB:=kH hb;clear hb hg)|((with_reducible refine jc 52 4 ?_);refine jK func52 (aab k g ag ak 4 aP ax w0 _ (qI HI0) qB A2.out) ?_;rintro w7 ⟨hi,hb,hk⟩;replace ae:=kw hk ae af;replace HK:=kI hk;replace HB:=aM hb;replace HI0:=aM hi;clear hb hk hi)|((with_reducible refine jc 52 8 ?_);refine jK func52 (aab k g ag ax 4 aQ bH w0 _ (qI HI0) qB A4.out) ?_;rintro w8 ⟨hi,hb,hk⟩;replace ae:=kw hk ae af;replace HK:=kI hk;replace HB:=aM hb;replace HI0:=aM hi;clear hb hk hi)|((with_reducible refine jc 110 9 ?_);refine jM func110 (aei 0 aQ aR aS aT _ A5.out) ?_;rintro cu w9 ⟨ho0,hb⟩;have aL:=aM (R_lower (R_newB ho0 (g:=aa) (o:=.cells #[iV 0,iV 0,.slice none 0 0] 90 (0,0)) (qK ae)) kU);replace HI0:=aM (Sad.below (qI HI0) hb);replace ae:=kB ae hb;replace HK:=kY hb;replace HB:=kH hb;clear hb;(try clear ho0);have bQ:=af.out;have bR:=aj.out;have cz:=jz3 ae;obtain⟨bq,bu,bI⟩:=R_slice aL.out;subst bI))
  refine bodyPost_ret (results_cell_row rfl _ _ aa 90 #[iV aR,iV aS,.slice bq aT.length bu] (0,0) _ rfl (qF ae) underlying90 rfl (by kernel_rfl)) rfl ?_
  exact⟨_,qW,by (with_reducible repeat (first|apply R_alloc|apply R_drewN|apply R_drew));exact R_mono (R_far (p:=⟨aa,2,none⟩) (R_far (p:=⟨aa,1,none⟩) (R_far (p:=⟨aa,0,none⟩) (R_mono aL.out (fun k_ hk=>(⟨hk,hk.2⟩:_/\k_≠aa))) (fun _ hk=>hk.2) (iV aR)) (fun _ hk=>hk.2) (iV aS)) (fun _ hk=>hk.2) (.slice bq aT.length bu)) (fun _ hk=>trivial),qI HI0,qB,qH⟩
 replace H:=jE H;rcases H with ⟨bv,bz,H⟩ | ⟨c13,bv,bz,H⟩
 ·obtain⟨aA,az⟩:=ky ((([5,31,32,100,2047,2048,65536,99999]:List Int)):List Int)
  replace H:=kv az H
  obtain⟨⟨aB,bJ⟩,cB,H⟩:=qE H
  try dsimp only at H
  replace H:=jI H;obtain⟨bS,H⟩:=H
  replace H:=jI H;obtain⟨bT,H⟩:=H
  obtain⟨⟨aU,aV,aW⟩,cK,H⟩:=qE H
  try dsimp only at H
  obtain⟨rfl,rfl,rfl,rfl⟩:=oJ4 H
  go_enter func111,ntmps111
  go_wp2_with (first|((with_reducible refine jd 2 ?_);refine jY _ 90 ?_;intro aa hg dB ae hb;have aJ:=aM ((by rw [hg];exact kU:w.heap.size<=aa));have aK:=aM ((Nat.le_trans HW0.out (by rw [hg];exact kU:w.heap.size<=aa):w0.heap.size<=aa));have aj:=aM ((by rw [hg];exact Nat.ne_of_lt (abt (show Sad w0 _ g ag ak from qI HI0)):g≠aa));have af:=aM ((by rw [hg];exact Nat.ne_of_gt (abt (show Sad w0 _ g ag ak from qI HI0)):aa≠g));replace HI0:=aM (Sad.below (qI HI0) hb);replace HK:=kY hb;replace HB:=kH hb;clear hb hg)|((with_reducible refine jc 52 4 ?_);refine jK func52 (aab k g ag ak 4 aP ax w0 _ (qI HI0) qB A2.out) ?_;rintro dC ⟨hi,hb,hk⟩;replace ae:=kw hk ae af;replace HK:=kI hk;replace HB:=aM hb;replace HI0:=aM hi;clear hb hk hi)|((with_reducible refine jd 12 ?_);refine jV (Kd.int .i64) 3 ([5,31,32,100,2047,2048,65536,99999]:List Int) [iV 5,iV 31,iV 32,iV 100,iV 2047,iV 2048,iV 65536,iV 99999] (aat.one (show Kd.M (Kd.int .i64) _ _ _ 5 [iV 5] from rfl) (aat.one (show Kd.M (Kd.int .i64) _ _ _ 31 [iV 31] from rfl) (aat.one (show Kd.M (Kd.int .i64) _ _ _ 32 [iV 32] from rfl) (aat.one (show Kd.M (Kd.int .i64) _ _ _ 100 [iV 100] from rfl) (aat.one (show Kd.M (Kd.int .i64) _ _ _ 2047 [iV 2047] from rfl) (aat.one (show Kd.M (Kd.int .i64) _ _ _ 2048 [iV 2048] from rfl) (aat.one (show Kd.M (Kd.int .i64) _ _ _ 65536 [iV 65536] from rfl) (aat.one (show Kd.M (Kd.int .i64) _ _ _ 99999 [iV 99999] from rfl) (aa9 _ _))))))))) ?_;intro cO dD aG hb;replace aG:=kr az aG;have au:=aM (R_lower aG kU);replace HI0:=aM (Sad.below (qI HI0) hb);replace ae:=kB ae hb;replace HK:=kY hb;replace HB:=kH hb;clear hb aG)|((with_reducible refine jc 52 14 ?_);refine jK func52 (aab k g ag ax 8 aB bJ w0 _ (qI HI0) qB cB.out) ?_;rintro dE ⟨hi,hb,hk⟩;replace ae:=kw hk ae af;replace au:=aM (R_mono (R_keep (Sad.apart (show Sad w0 _ g ag ax from qI HI0) (qR au) (by decide)) hk (fun _ h=>h.2)) (fun _ h=>h.1));replace HK:=kI hk;replace HB:=aM hb;replace HI0:=aM hi;clear hb hk hi;obtain⟨df,dh,bK⟩:=R_slice au.out;subst bK;have aX:0<=(aB:Int):=qD;have aY:aB < (aA.length:Int):=qD;obtain⟨bU,bL,bE⟩:=Kd.at_int (R_reads' au.out).2.2 aB aX aY;cases bL;replace aX:=eq_true aX;replace aY:=eq_true aY)|((with_reducible refine jc 110 17 ?_);refine jM func110 (aei 0 (rd aA aB) aU aV aW _ cK.out) ?_;rintro di dF ⟨ho0,hb⟩;have aN:=aM (R_lower (R_newB ho0 (g:=aa) (o:=.cells #[iV 0,iV 0,.slice none 0 0] 90 (0,0)) (qK ae)) kU);replace au:=kR au hb;replace HI0:=aM (Sad.below (qI HI0) hb);replace ae:=kB ae hb;replace HK:=kY hb;replace HB:=kH hb;clear hb;(try clear ho0);have bV:=af.out;have bW:=aj.out;have dn:=jz3 ae;obtain⟨bA,bB,bM⟩:=R_slice aN.out;subst bM))
  refine bodyPost_ret (results_cell_row rfl _ _ aa 90 #[iV aU,iV aV,.slice bA aW.length bB] (0,0) _ rfl (qF ae) underlying90 rfl (by kernel_rfl)) rfl ?_
  exact⟨_,qW,by (with_reducible repeat (first|apply R_alloc|apply R_drewN|apply R_drew));exact R_mono (R_far (p:=⟨aa,2,none⟩) (R_far (p:=⟨aa,1,none⟩) (R_far (p:=⟨aa,0,none⟩) (R_mono aN.out (fun k_ hk=>(⟨hk,hk.2⟩:_/\k_≠aa))) (fun _ hk=>hk.2) (iV aU)) (fun _ hk=>hk.2) (iV aV)) (fun _ hk=>hk.2) (.slice bA aW.length bB)) (fun _ hk=>trivial),qI HI0,qB,qH⟩
 obtain⟨⟨aZ,bN⟩,dw,H⟩:=qE H
 try dsimp only at H
 obtain⟨⟨bg,bi,bn⟩,dx,H⟩:=qE H
 try dsimp only at H
 obtain⟨rfl,rfl,rfl,rfl⟩:=oJ4 H
 go_enter func111,ntmps111
 go_wp2_with (first|((with_reducible refine jd 2 ?_);refine jY _ 90 ?_;intro aa hg dG ae hb;have aJ:=aM ((by rw [hg];exact kU:w.heap.size<=aa));have aK:=aM ((Nat.le_trans HW0.out (by rw [hg];exact kU:w.heap.size<=aa):w0.heap.size<=aa));have aj:=aM ((by rw [hg];exact Nat.ne_of_lt (abt (show Sad w0 _ g ag ak from qI HI0)):g≠aa));have af:=aM ((by rw [hg];exact Nat.ne_of_gt (abt (show Sad w0 _ g ag ak from qI HI0)):aa≠g));replace HI0:=aM (Sad.below (qI HI0) hb);replace HK:=kY hb;replace HB:=kH hb;clear hb hg)|((with_reducible refine jc 52 4 ?_);refine jK func52 (aab k g ag ak 4 aP ax w0 _ (qI HI0) qB A2.out) ?_;rintro dH ⟨hi,hb,hk⟩;replace ae:=kw hk ae af;replace HK:=kI hk;replace HB:=aM hb;replace HI0:=aM hi;clear hb hk hi)|((with_reducible refine jc 52 19 ?_);refine jK func52 (aab k g ag ax 4 aZ bN w0 _ (qI HI0) qB dw.out) ?_;rintro w32 ⟨hi,hb,hk⟩;replace ae:=kw hk ae af;replace HK:=kI hk;replace HB:=aM hb;replace HI0:=aM hi;clear hb hk hi)|((with_reducible refine jc 110 20 ?_);refine jM func110 (aei 13 aZ bg bi bn _ dx.out) ?_;rintro dz dI ⟨ho0,hb⟩;have aO:=aM (R_lower (R_newB ho0 (g:=aa) (o:=.cells #[iV 0,iV 0,.slice none 0 0] 90 (0,0)) (qK ae)) kU);replace HI0:=aM (Sad.below (qI HI0) hb);replace ae:=kB ae hb;replace HK:=kY hb;replace HB:=kH hb;clear hb;(try clear ho0);have bX:=af.out;have bY:=aj.out;have dA:=jz3 ae;obtain⟨bC,bD,bO⟩:=R_slice aO.out;subst bO))
 refine bodyPost_ret (results_cell_row rfl _ _ aa 90 #[iV bg,iV bi,.slice bC bn.length bD] (0,0) _ rfl (qF ae) underlying90 rfl (by kernel_rfl)) rfl ?_
 exact⟨_,qW,by (with_reducible repeat (first|apply R_alloc|apply R_drewN|apply R_drew));exact R_mono (R_far (p:=⟨aa,2,none⟩) (R_far (p:=⟨aa,1,none⟩) (R_far (p:=⟨aa,0,none⟩) (R_mono aO.out (fun k_ hk=>(⟨hk,hk.2⟩:_/\k_≠aa))) (fun _ hk=>hk.2) (iV bg)) (fun _ hk=>hk.2) (iV bi)) (fun _ hk=>hk.2) (.slice bC bn.length bD)) (fun _ hk=>trivial),qI HI0,qB,qH⟩
mutual
def ag4:Nat->Int->Bool->List Int->Int->Option (Int × Int × (List S90) × Int)
 | 0,_,_,_,_=>none
 | k+1,x1,dM,x1000,aT=>if dM=true then ((aly k x1000 aT).bind fun aG=>(some (aG.1,aG.2.1,aG.2.2.1,aG.2.2.2))) else ((ak9 k x1000 aT).bind fun aU=>((adj k x1000 aU.2 (wrap64 (x1 - 1))).bind fun aH=>((adj k x1000 aH.2.2.2 (wrap64 (x1 - 1))).bind fun aI=>((ai5 aU.1 aH.1 aH.2.1 aH.2.2.1 aI.1 aI.2.1 aI.2.2.1).bind fun aL=>(some (aL.1,aL.2.1,aL.2.2,aI.2.2.2))))))
def adj:Nat->List Int->Int->Int->Option (Int × Int × (List S90) × Int)
 | 0,_,_,_=>none
 | k+1,aj,aF,a1=>if a1 < 2 then (ag4 k a1 true aj aF) else ((aaW k aj aF 3).bind fun aV=>(ag4 k a1 (aV.1 == 0) aj aV.2))
end
def anZ:Bool × List (List Nat × List Nat):=(true,[([],[]),([],[]),([],[]),([],[]),([3],[3]),([2,4],[2,4]),([0,1,5,5],[0,1,5]),([6,6,0,1,2,3,4,5,6],[6])])
def apP:List Nat:=[0,0,0,0,8,28,63,127]
theorem ani:abL .any (opsOf f96 5)=anZ:=by kernel_rfl
theorem alA:ab0 anZ.2 apP=true:=by kernel_rfl
theorem acL (k:Nat):∀ (g:Nat) (aj:List Int) (aF:Int) (a1:Int) (r1:Int) (r2:Int) (r3:List S90) (r4:Int) (w0 w:World) (hI:Sad w0 w g aj aF) (hB:Below w0.heap.size w0 w) (h:adj k aj aF a1=some (r1,r2,r3,r4)),
  Calls prog 96 #[.pointer (some ⟨g,0,none⟩),iV a1] w fun e w'=>∃ dA:Value,e = .returned (.agg #[iV r1,iV r2,dA])/\Kd.N k90 90 w' w.heap.size (fun k_=>(w.heap.size<=k_)) dA r3/\Sad w0 w' g aj r4/\Below w0.heap.size w0 w'/\aa6 w w' g none:=by
 induction k using Nat.strongRecOn with
 | _ k ih =>
 intro g aj aF a1 r1 r2 r3 r4 w0 w hI hB h
 cases k with
 | zero=>exact absurd h (by simp [adj])
 | succ k =>
 simp only [adj] at h
 have dN:=underlying90
 have HI0:=aM hI
 have HK:=aM (aaG w g none)
 have HL:=aM hB.size
 clear hI
 have HW0:=aM hB.size
 have HB:=aM hB
 clear hB
 have H:=h
 clear h
 have bU:=aM H
 clear H
 go_enter func96,ntmps96
 go_upto_region 1 with (first|((with_reducible refine jd 4 ?_);refine jY _ 90 ?_;intro aa hg w4 af hb;have dB:=aM ((by rw [hg];exact kU:w.heap.size<=aa));have dC:=aM ((Nat.le_trans HW0.out (by rw [hg];exact kU:w.heap.size<=aa):w0.heap.size<=aa));have aQ:=aM ((by rw [hg];exact Nat.ne_of_lt (abt (show Sad w0 _ g aj aF from qI HI0)):g≠aa));have az:=aM ((by rw [hg];exact Nat.ne_of_gt (abt (show Sad w0 _ g aj aF from qI HI0)):aa≠g));replace HI0:=aM (Sad.below (qI HI0) hb);replace HK:=kY hb;replace HB:=kH hb;clear hb hg))
 (try simp only [Act.put,List.setIfInBounds_toArray,List.set_cons_zero,List.set_cons_succ])
 go_cut [13] (fun v13 wc=>∃ (kq:Nat) (aN:Bool) (aD:Int),v13 = .bool aN/\aa1 (ag4 kq a1 aN aj aD=some (r1,r2,r3,r4))/\aa1 (kq<=k)/\aa1 (wc.heap[aa]?=some (.cells #[iV 0,iV 0,(.slice none 0 0)] 90 (0,0)))/\aa1 (Sad w0 wc g aj aD)/\aa1 (aa6 w wc g none)/\aa1 (Below w0.heap.size w0 wc))
 case first =>
  have H:=bU.out
  clear bU
  replace H:=jD H;rcases H with ⟨aO,H⟩ | ⟨aO,H⟩
  ·(first|rw [aO]|(simp only [aau,aaD];rw [aO])|skip)
   have H':=aM H
   clear H
   go_wp2
   go_meet
   exact⟨_,(true),(aF),qZ,H',⟨by first|omega|exact Nat.le_refl _⟩,⟨qK af⟩,⟨qI HI0⟩,⟨qH⟩,⟨qB⟩⟩
  (first|rw [aO]|(simp only [aau,aaD];rw [aO])|skip)
  obtain⟨⟨bV,bW⟩,A6,H⟩:=qE H
  try dsimp only at H
  have H':=aM H
  clear H
  go_wp2_with (first|(go_at_call 52;(with_reducible refine (aab k g aj aF 3 bV bW w0 _ ?au ?av A6.out).mono ?_);(case au=>exact qI HI0);(case av=>exact qB);rintro e dO ⟨rfl,hi,hb,hk⟩;replace af:=kw hk af az;replace HK:=kI hk;replace HB:=aM hb;replace HI0:=aM hi;clear hb hk hi))
  go_meet
  exact⟨_,_,_,qZ,H',⟨by first|omega|exact Nat.le_refl _⟩,⟨qK af⟩,⟨qI HI0⟩,⟨qH⟩,⟨qB⟩⟩
 clear bU
 obtain⟨kq,aN,aD,rfl,HA,HJ2,af,HI0,HK,HB⟩:=hcut
 cases kq with
 | zero=>exact absurd HA.out (by simp [ag4])
 | succ bN =>
  have H:=HA.out
  clear HA
  simp only [ag4] at H
  replace H:=jB H;rcases H with ⟨rfl,H⟩ | ⟨rfl,H⟩
  ·obtain⟨⟨aY,aZ,bg,bX⟩,A9,H⟩:=qE H
   try dsimp only at H
   obtain⟨rfl,rfl,rfl,rfl⟩:=oJ4 H
   go_wp2_with (first|((with_reducible refine jc 111 15 ?_);refine jM func111 (alz bN g aj aD aY aZ bg bX w0 _ (qI HI0) qB A9.out) ?_;rintro dQ dP ⟨bB,hi,hb,hk⟩;have aW:=aM (N_lower (N_mono (ok':=fun k_=>(w.heap.size<=k_)/\k_≠aa/\k_≠g) (R_N (R_bound bB)) (fun k_ hk_=>⟨(Nat.le_trans kU hk_.2.1),(Kd.freshB (g:=aa) (o:=.cells #[iV 0,iV 0,.slice none 0 0] 90 (0,0)) (qK af) k_ hk_.2.1),(Sad.fresh (qI HI0) k_ hk_.2.1)⟩)) kU);replace af:=kw hk af az;replace HK:=kI hk;replace HB:=aM hb;replace HI0:=aM hi;clear hb hk hi;(try clear bB);have dR:=az.out;have dS:=aQ.out;have dU:=jz3 af;obtain⟨bC,bD,bY⟩:=N_slice aW.out;subst bY))
   refine bodyPost_ret (results_cell_row rfl _ _ aa 90 #[iV aY,iV aZ,.slice bC bg.length bD] (0,0) _ rfl (qF af) underlying90 rfl (by kernel_rfl)) rfl ?_
   exact⟨_,qW,by (with_reducible repeat (first|apply N_alloc|apply N_drewN|apply N_drew));exact N_mono (N_far (p:=⟨aa,2,none⟩) (N_far (p:=⟨aa,1,none⟩) (N_far (p:=⟨aa,0,none⟩) (N_mono aW.out (fun k_ hk=>(⟨hk,hk.2.1⟩:_/\k_≠aa))) (fun _ hk=>hk.2) (iV aY)) (fun _ hk=>hk.2) (iV aZ)) (fun _ hk=>hk.2) (.slice bC bg.length bD)) (fun _ hk=>hk.1.1),qI HI0,qB,qH⟩
  obtain⟨⟨bi,bE⟩,dV,H⟩:=qE H
  try dsimp only at H
  obtain⟨⟨aB,aC,ak,aP⟩,dW,H⟩:=qE H
  try dsimp only at H
  obtain⟨⟨bn,bq,aR,bZ⟩,dX,H⟩:=qE H
  try dsimp only at H
  obtain⟨⟨bu,bv,bz⟩,dY,H⟩:=qE H
  try dsimp only at H
  obtain⟨rfl,rfl,rfl,rfl⟩:=oJ4 H
  try go_wp2_with (first|((with_reducible refine jc 79 17 ?_);refine jK func79 (ai4 bN g aj aD bi bE w0 _ (qI HI0) qB dV.out) ?_;rintro eG ⟨hi,hb,hk⟩;replace af:=kw hk af az;replace HK:=kI hk;replace HB:=aM hb;replace HI0:=aM hi;clear hb hk hi)|((with_reducible refine jc 96 21 ?_);refine jM func96 (ih bN (by have:=HJ2.out;omega) g aj bE (wrap64 (a1 - 1)) aB aC ak aP w0 _ (qI HI0) qB dW.out) ?_;rintro dZ eH ⟨ho0,hi,hb,hk⟩;have ai:=aM (N_lower (N_mono (ok':=fun k_=>(w.heap.size<=k_)/\k_≠aa/\k_≠g) ho0 (fun k_ hk_=>⟨(Nat.le_trans kU hk_),(Kd.freshB (g:=aa) (o:=.cells #[iV 0,iV 0,.slice none 0 0] 90 (0,0)) (qK af) k_ hk_),(Sad.fresh (qI HI0) k_ hk_)⟩)) kU);replace af:=kw hk af az;replace HK:=kI hk;replace HB:=aM hb;replace HI0:=aM hi;clear hb hk hi;(try clear ho0))|((with_reducible refine jd 6 ?_);refine jY _ 90 ?_;intro ae hg bA ah hb;have dD:=aM ((by rw [hg];exact kU:w.heap.size<=ae));have dE:=aM ((Nat.le_trans HW0.out (by rw [hg];exact kU:w.heap.size<=ae):w0.heap.size<=ae));have aA:=kN hg af;have ag:=kM hg af;have aS:=aM ((by rw [hg];exact Nat.ne_of_lt (abt (show Sad w0 _ g aj aP from qI HI0)):g≠ae));have aJ:=aM ((by rw [hg];exact Nat.ne_of_gt (abt (show Sad w0 _ g aj aP from qI HI0)):ae≠g));replace ai:=aM (N_below (N_elderB (qN ai) ae (Nat.le_of_eq hg.symm)) hb);replace af:=kB af hb;replace HI0:=aM (Sad.below (qI HI0) hb);replace HK:=kY hb;replace HB:=kH hb;clear hb hg;have dF:=ag.out;have dG:=aA.out;have dH:=aJ.out;have dI:=aS.out;have d9:=jz3 ah;obtain⟨ax,ay,cu⟩:=N_slice ai.out;subst cu))
  have cz:aa1 (Kd.N k90 90 (((bA.setCell ⟨ae,0,none⟩ (iV aB)).setCell ⟨ae,1,none⟩ (iV aC)).setCell ⟨ae,2,none⟩ (.slice ax ak.length ay)) w.heap.size (fun k_=>(w.heap.size<=k_)/\k_≠aa/\k_≠g/\k_≠ae) (.slice ax ak.length ay) ak):=⟨by (with_reducible repeat (first|apply N_alloc|apply N_drewN|apply N_drew));exact N_mono (N_far (p:=⟨ae,2,none⟩) (N_far (p:=⟨ae,1,none⟩) (N_far (p:=⟨ae,0,none⟩) (N_mono ai.out (fun k_ hk=>(⟨hk,hk.2⟩:_/\k_≠ae))) (fun _ hk=>hk.2) (iV aB)) (fun _ hk=>hk.2) (iV aC)) (fun _ hk=>hk.2) (.slice ax ak.length ay)) (fun _ hk=>⟨hk.1.1.1,⟨hk.1.1.2.1,⟨hk.1.1.2.2,hk.1.2⟩⟩⟩)⟩
  have cB:aa1 ((((bA.setCell ⟨ae,0,none⟩ (iV aB)).setCell ⟨ae,1,none⟩ (iV aC)).setCell ⟨ae,2,none⟩ (.slice ax ak.length ay)).heap[aa]?=some (.cells #[iV 0,iV 0,.slice none 0 0] 90 (0,0))):=⟨qL af⟩
  have cK:aa1 ((((bA.setCell ⟨ae,0,none⟩ (iV aB)).setCell ⟨ae,1,none⟩ (iV aC)).setCell ⟨ae,2,none⟩ (.slice ax ak.length ay)).heap[ae]?=some (.cells #[iV aB,iV aC,.slice ax ak.length ay] 90 (0,0))):=⟨qF ah⟩
  have cO:aa1 (Sad w0 (((bA.setCell ⟨ae,0,none⟩ (iV aB)).setCell ⟨ae,1,none⟩ (iV aC)).setCell ⟨ae,2,none⟩ (.slice ax ak.length ay)) g aj aP):=⟨qI HI0⟩
  have df:aa1 (aa6 w (((bA.setCell ⟨ae,0,none⟩ (iV aB)).setCell ⟨ae,1,none⟩ (iV aC)).setCell ⟨ae,2,none⟩ (.slice ax ak.length ay)) g none):=⟨qH⟩
  have dh:aa1 (Below w0.heap.size w0 (((bA.setCell ⟨ae,0,none⟩ (iV aB)).setCell ⟨ae,1,none⟩ (iV aC)).setCell ⟨ae,2,none⟩ (.slice ax ak.length ay))):=⟨qB⟩
  (try clear ai)
  (try clear af)
  (try clear ah)
  (try clear HI0)
  (try clear HK)
  (try clear HB)
  generalize (((bA.setCell ⟨ae,0,none⟩ (iV aB)).setCell ⟨ae,1,none⟩ (iV aC)).setCell ⟨ae,2,none⟩ (.slice ax ak.length ay))=ed at cz cB cK cO df dh ⊢
  have ai:=cz
  have af:=cB
  have ah:=cK
  have HI0:=cO
  have HK:=df
  have HB:=dh
  clear cz cB cK cO df dh
  replace ai:=aM (N_drew ai.out)
  replace af:=aM (ab4 af.out)
  replace ah:=aM (ab4 ah.out)
  replace HI0:=aM (Sad.drew HI0.out)
  replace HK:=aM (adf HK.out)
  replace HB:=aM (aai HB.out)
  refine abF (n:=8) (S:=fun w'=>w'.cell? ⟨ae,0,none⟩=some (iV aB)/\w'.cell? ⟨ae,1,none⟩=some (iV aC)/\w'.cell? ⟨ae,2,none⟩=some (.slice ax ak.length ay)) (ds:=[]) (jb 8 0) (by kernel_rfl) rfl rfl ⟨(aa3 ah.out 0).trans rfl,(aa3 ah.out 1).trans rfl,(aa3 ah.out 2).trans rfl⟩ (fun hHeld=>?_);refine aaZ ani alA (fun HT_ HW_=>?_)
  generalize ed.drew=eO at ai af ah HI0 HK HB hHeld ⊢
  refine jp 0 22 (jb 8 1) ?_
  refine jp 2 24 (jb 8 5) ?_
  refine jp 3 25 (jb 8 13) ?_
  refine jp 4 26 (jb 8 29) ?_
  refine jt 1 23 (jb 8 31) ?_
  refine ad6 (i:=5) (N:=some 27) (jb 8 63) rfl rfl (aaT HT_.out (by kernel_rfl)) (by decide) (fun K hK=>?_)
  refine abn func96 (by kernel_rfl) rfl #[.pointer (some ⟨g,0,none⟩),iV (wrap64 (a1 - 1))] (by rfl) rfl rfl qM ?_
  with_reducible refine (ih bN (by have:=HJ2.out;omega) g aj aP (wrap64 (a1 - 1)) bn bq aR bZ w0 _ ?au ?av dX.out).mono ?_
  (case au=>exact qI HI0)
  (case av=>exact qB)
  rintro e eP ⟨ek,rfl,ho0,hi,hb,hk⟩
  refine⟨_,rfl,?_⟩
  have aK:=aM (N_lower (N_mono (ok':=fun k_=>(w.heap.size<=k_)/\some k_≠(.slice ax ak.length ay:Value).ownBlock/\k_≠aa/\k_≠ae/\k_≠g) ho0 (fun k_ hk_=>⟨(Nat.le_trans kU hk_),(Kd.fresh' (N_lt (qN ai)) k_ hk_),(Kd.freshB (g:=aa) (o:=.cells #[iV 0,iV 0,.slice none 0 0] 90 (0,0)) (qK af) k_ hk_),(Kd.freshB (g:=ae) (o:=.cells #[iV aB,iV aC,.slice ax ak.length ay] 90 (0,0)) (qK ah) k_ hk_),(Sad.fresh (qI HI0) k_ hk_)⟩)) kU)
  replace af:=kw hk af az
  replace ai:=aM (N_mono (N_told (N_oldK (N_mono (ok:=fun k_=>(((w.heap.size<=k_))/\(k_≠aa/\(k_≠g/\k_≠ae)))) (qN ai) (fun k_ hk_=>(⟨hk_,hk_.2.2.1⟩:_/\k_≠g))) hk) (by first|exact N_base ho0|exact R_base ho0)) (fun _ h_=>h_.1))
  replace ah:=kw hk ah aJ
  replace HK:=kI hk
  replace HB:=aM hb
  replace HI0:=aM hi
  (try clear hb)
  (try clear hb2)
  (try clear hk)
  (try clear hi)
  (try clear ho0)
  obtain⟨bF,bG,bH⟩:=N_slice aK.out
  (first|subst bH|(injection bH with bI di bJ;have dn:=bI.symm;have dw:=bJ.symm;clear bI di bJ;subst dn;subst dw))
  refine hK.out _ _ ⟨(aa3 ah.out 0).trans rfl,(aa3 ah.out 1).trans rfl,(aa3 ah.out 2).trans rfl⟩ (fun hHeld=>?_)
  clear hK K
  refine aav (a':=?_) ?_ ?_
  rotate_left
  ·show Act.put _ (some 27) _=_
   simp only [Act.put,List.setIfInBounds_toArray,List.set_cons_zero,List.set_cons_succ,aau,aaD]
   rfl
  refine ad6 (i:=6) (N:=some 28) (jb 8 127) rfl rfl (aaT HT_.out (by kernel_rfl)) (by decide) (fun K hK=>?_)
  refine abn func109 (by kernel_rfl) rfl #[iV bi,.agg #[iV aB,iV aC,.slice ax ak.length ay],.agg #[iV bn,iV bq,.slice bF aR.length bG]] (by rfl) rfl rfl qM ?_
  with_reducible refine (ai6 bi aB aC (fun k_=>(((w.heap.size<=k_)/\(k_≠aa/\(k_≠g/\k_≠ae)))/\some k_≠(.slice bF aR.length bG:Value).ownBlock)) _ _ ak bn bq (fun k_=>((w.heap.size<=k_)/\(some k_≠(.slice ax ak.length ay:Value).ownBlock/\(k_≠aa/\(k_≠ae/\k_≠g))))) _ _ aR bu bv bz _ ?au ?av dY.out).mono ?_
  (case au=>exact N_V (ai.out))
  (case av=>exact N_V (aK.out))
  rintro e dx ⟨eu,rfl,ho0,hb⟩
  refine⟨_,rfl,?_⟩
  have aX:=aM (N_lower (N_mono (ok':=fun k_=>(w.heap.size<=k_)/\k_≠aa/\k_≠ae/\k_≠g) ho0 (fun k_ hk_=>⟨Or.elim hk_ (fun hs_=>Or.elim hs_ (fun hs_=>hs_.1.1) (fun hs_=>hs_.1)) (fun hn_=>(Nat.le_trans kU hn_)),Or.elim hk_ (fun hs_=>Or.elim hs_ (fun hs_=>hs_.1.2.1) (fun hs_=>hs_.2.2.1)) (fun hn_=>(Kd.freshB (g:=aa) (o:=.cells #[iV 0,iV 0,.slice none 0 0] 90 (0,0)) (qK af) k_ hn_)),Or.elim hk_ (fun hs_=>Or.elim hs_ (fun hs_=>hs_.1.2.2.2) (fun hs_=>hs_.2.2.2.1)) (fun hn_=>(Kd.freshB (g:=ae) (o:=.cells #[iV aB,iV aC,.slice ax ak.length ay] 90 (0,0)) (qK ah) k_ hn_)),Or.elim hk_ (fun hs_=>Or.elim hs_ (fun hs_=>hs_.1.2.2.1) (fun hs_=>hs_.2.2.2.2)) (fun hn_=>(Sad.fresh (qI HI0) k_ hn_))⟩)) kU)
  replace ai:=aM (N_elder' (qN ai) (by first|exact N_base ho0|exact R_base ho0) hb)
  replace aK:=aM (N_elder' (qN aK) (by first|exact N_base ho0|exact R_base ho0) hb)
  replace af:=kB af hb
  replace HI0:=aM (Sad.below (qI HI0) hb)
  replace ah:=kB ah hb
  replace HK:=kY hb
  replace HB:=kH hb
  (try clear hb)
  (try clear hb2)
  (try clear hk)
  (try clear hi)
  (try clear ho0)
  obtain⟨bK,bL,bM⟩:=N_slice aX.out
  (first|subst bM|(injection bM with bI di bJ;have dn:=bI.symm;have dw:=bJ.symm;clear bI di bJ;subst dn;subst dw))
  refine hK.out _ _ ⟨(aa3 ah.out 0).trans rfl,(aa3 ah.out 1).trans rfl,(aa3 ah.out 2).trans rfl⟩ (fun hHeld=>?_)
  clear hK K
  refine aav (a':=?_) ?_ ?_
  rotate_left
  ·show Act.put _ (some 28) _=_
   simp only [Act.put,List.setIfInBounds_toArray,List.set_cons_zero,List.set_cons_succ,aau,aaD]
   rfl
  refine ad6 (i:=7) (N:=none) (jb 8 255) rfl rfl (aaT HT_.out (by kernel_rfl)) (by decide) (fun K hK=>?_)
  have eB:dx.cell? ⟨aa,0,none⟩=some (iV 0):=(aa3 af.out 0).trans rfl
  have dJ:=aa7 af.out 0
  have bO:=ag.out
  have bP:=aA.out
  have eD:dx.cell? ⟨aa,1,none⟩=some (iV 0):=(aa3 af.out 1).trans rfl
  have dK:=aa7 af.out 1
  have bQ:=ag.out
  have bR:=aA.out
  have eF:dx.cell? ⟨aa,2,none⟩=some (.slice none 0 0):=(aa3 af.out 2).trans rfl
  have dL:=aa7 af.out 2
  have bS:=ag.out
  have bT:=aA.out
  refine ahf (w1:=?_) (by rfl) rfl ?_ ?_
  rotate_left
  ·go_simp
   rfl
  refine hK.out _ _ ⟨((cell_far (p:=⟨aa,_,none⟩) ag.out _).trans (((cell_far (p:=⟨aa,_,none⟩) ag.out _).trans (((cell_far (p:=⟨aa,_,none⟩) ag.out _).trans (hHeld.1)))))),((cell_far (p:=⟨aa,_,none⟩) ag.out _).trans (((cell_far (p:=⟨aa,_,none⟩) ag.out _).trans (((cell_far (p:=⟨aa,_,none⟩) ag.out _).trans (hHeld.2.1)))))),((cell_far (p:=⟨aa,_,none⟩) ag.out _).trans (((cell_far (p:=⟨aa,_,none⟩) ag.out _).trans (((cell_far (p:=⟨aa,_,none⟩) ag.out _).trans (hHeld.2.2))))))⟩ (fun hHeld=>?_)
  clear hK K
  refine acG (abr HT_.out (by kernel_rfl)) ?_
  try go_wp2
  refine bodyPost_ret (results_cell_row rfl _ _ aa 90 #[iV bu,iV bv,.slice bK bz.length bL] (0,0) _ rfl (qF af) underlying90 rfl (by kernel_rfl)) rfl ?_
  exact⟨_,qW,by (with_reducible repeat (first|apply N_alloc|apply N_drewN|apply N_drew));exact N_mono (N_far (p:=⟨aa,2,none⟩) (N_far (p:=⟨aa,1,none⟩) (N_far (p:=⟨aa,0,none⟩) (N_mono aX.out (fun k_ hk=>(⟨hk,hk.2.1⟩:_/\k_≠aa))) (fun _ hk=>hk.2) (iV bu)) (fun _ hk=>hk.2) (iV bv)) (fun _ hk=>hk.2) (.slice bK bz.length bL)) (fun _ hk=>hk.1.1),qI HI0,qB,qH⟩
def ak6 (k:Nat) (af:List Int) (aj:Int):Option (Int × Int × Int × Int × Int × (List S90) × (List S92) × (List S92) × Int):=(aaW k af aj 3).bind fun av=>((aaW k af av.2 3).bind fun ax=>((adj k af ax.2 (wrap64 (1+ax.1))).bind fun ak=>(some (1,av.1,0,ak.1,ak.2.1,ak.2.2.1,([]:List S92),([]:List S92),ak.2.2.2))))
theorem ai3 (k g:Nat) (af:List Int) (aj r1 r2 r3 r4 r5:Int) (r6:List S90) (r7 r8:List S92) (r9:Int) (w0 w:World) (hI:Sad w0 w g af aj) (hB:Below w0.heap.size w0 w) (h:ak6 k af aj=some (r1,r2,r3,r4,r5,r6,r7,r8,r9)) :
  Calls prog 92 #[.pointer (some ⟨g,0,none⟩)] w fun e w'=>∃ aH aI aJ:Value,e = .returned (.agg #[iV r1,iV r2,iV r3,iV r4,iV r5,aH,aI,aJ])/\Kd.N k90 90 w' w.heap.size (fun k_=>(w.heap.size<=k_)/\some k_≠(aI:Value).ownBlock/\some k_≠(aJ:Value).ownBlock) aH r6/\Kd.N k92 92 w' w.heap.size (fun k_=>(w.heap.size<=k_)/\some k_≠(aH:Value).ownBlock/\some k_≠(aJ:Value).ownBlock) aI r7/\Kd.N k92 92 w' w.heap.size (fun k_=>(w.heap.size<=k_)/\some k_≠(aH:Value).ownBlock/\some k_≠(aI:Value).ownBlock) aJ r8/\Sad w0 w' g af r9/\Below w0.heap.size w0 w'/\aa6 w w' g none:=by
 have aS:=underlying92
 have HI0:=aM hI
 have HK:=aM (aaG w g none)
 have HL:=aM hB.size
 clear hI
 have HW0:=aM hB.size
 have HB:=aM hB
 clear hB
 have H:=h;unfold ak6 at H
 clear h
 obtain⟨⟨az,aF⟩,A2,H⟩:=qE H
 try dsimp only at H
 obtain⟨⟨aA,aG⟩,A3,H⟩:=qE H
 try dsimp only at H
 obtain⟨⟨aB,aC,aD,aK⟩,A4,H⟩:=qE H
 try dsimp only at H
 obtain⟨rfl,rfl,rfl,rfl,rfl,rfl,rfl,rfl,rfl⟩:=oJ9 H
 go_enter func92,ntmps92
 go_wp2_with (first|((with_reducible refine jd 2 ?_);refine jY _ 92 ?_;intro aa hg w5 ae hb;have aL:=aM ((by rw [hg];exact kU:w.heap.size<=aa));have aN:=aM ((Nat.le_trans HW0.out (by rw [hg];exact kU:w.heap.size<=aa):w0.heap.size<=aa));have au:=aM ((by rw [hg];exact Nat.ne_of_lt (abt (show Sad w0 _ g af aj from qI HI0)):g≠aa));have ag:=aM ((by rw [hg];exact Nat.ne_of_gt (abt (show Sad w0 _ g af aj from qI HI0)):aa≠g));replace HI0:=aM (Sad.below (qI HI0) hb);replace HK:=kY hb;replace HB:=kH hb;clear hb hg)|((with_reducible refine jc 52 5 ?_);refine jK func52 (aab k g af aj 3 az aF w0 _ (qI HI0) qB A2.out) ?_;rintro w6 ⟨hi,hb,hk⟩;replace ae:=kw hk ae ag;replace HK:=kI hk;replace HB:=aM hb;replace HI0:=aM hi;clear hb hk hi)|((with_reducible refine jc 52 9 ?_);refine jK func52 (aab k g af aF 3 aA aG w0 _ (qI HI0) qB A3.out) ?_;rintro w7 ⟨hi,hb,hk⟩;replace ae:=kw hk ae ag;replace HK:=kI hk;replace HB:=aM hb;replace HI0:=aM hi;clear hb hk hi)|((with_reducible refine jc 96 11 ?_);refine jM func96 (acL k g af aG (wrap64 (1+aA)) aB aC aD aK w0 _ (qI HI0) qB A4.out) ?_;rintro aT w8 ⟨ho0,hi,hb,hk⟩;have ay:=aM (N_lower (N_mono (ok':=fun k_=>(w.heap.size<=k_)/\k_≠aa/\k_≠g) ho0 (fun k_ hk_=>⟨(Nat.le_trans kU hk_),(Kd.freshB (g:=aa) (o:=.cells #[iV 0,iV 0,iV 0,iV 0,iV 0,.slice none 0 0,.slice none 0 0,.slice none 0 0] 92 (0,0)) (qK ae) k_ hk_),(Sad.fresh (qI HI0) k_ hk_)⟩)) kU);replace ae:=kw hk ae ag;replace HK:=kI hk;replace HB:=aM hb;replace HI0:=aM hi;clear hb hk hi;(try clear ho0);obtain⟨aO,aP,aU⟩:=N_slice ay.out;subst aU;have aQ:=ag.out;have aR:=au.out;have aV:=jz8 ae))
 refine bodyPost_ret (results_cell_row rfl _ _ aa 92 #[iV 1,iV az,iV 0,iV aB,iV aC,.slice aO aD.length aP,.slice none 0 0,.slice none 0 0] (0,0) _ rfl (qF ae) underlying92 rfl (by kernel_rfl)) rfl ?_
 exact⟨_,_,_,qW,by (with_reducible repeat (first|apply N_alloc|apply N_drewN|apply N_drew));exact N_mono (N_far (p:=⟨aa,7,none⟩) (N_far (p:=⟨aa,6,none⟩) (N_far (p:=⟨aa,5,none⟩) (N_far (p:=⟨aa,4,none⟩) (N_far (p:=⟨aa,3,none⟩) (N_far (p:=⟨aa,2,none⟩) (N_far (p:=⟨aa,1,none⟩) (N_far (p:=⟨aa,0,none⟩) (N_mono ay.out (fun k_ hk=>(⟨hk,hk.2.1⟩:_/\k_≠aa))) (fun _ hk=>hk.2) (iV 1)) (fun _ hk=>hk.2) (iV az)) (fun _ hk=>hk.2) (iV 0)) (fun _ hk=>hk.2) (iV aB)) (fun _ hk=>hk.2) (iV aC)) (fun _ hk=>hk.2) (.slice aO aD.length aP)) (fun _ hk=>hk.2) (.slice none 0 0)) (fun _ hk=>hk.2) (.slice none 0 0)) (fun _ hk=>⟨hk.1.1,⟨(by simp [Value.ownBlock]),(by simp [Value.ownBlock])⟩⟩),by first|exact R_nil _ _ _ _ _|exact N_nil _ _ _ _ _|exact V_nil _ _ _ _ _|exact Q_nil _ _ _ _ _|exact S_nil _ _ _ _ _,by first|exact R_nil _ _ _ _ _|exact N_nil _ _ _ _ _|exact V_nil _ _ _ _ _|exact Q_nil _ _ _ _ _|exact S_nil _ _ _ _ _,qI HI0,qB,qH⟩
def alV (k:Nat) (ag:List Int) (aj a1:Int):Option (Int × Int × Int × Int × Int × (List S90) × (List S92) × (List S92) × Int):=if a1 < 1 then ((ak6 k ag aj).bind fun ak=>(some (ak.1,ak.2.1,ak.2.2.1,ak.2.2.2.1,ak.2.2.2.2.1,ak.2.2.2.2.2.1,ak.2.2.2.2.2.2.1,ak.2.2.2.2.2.2.2.1,ak.2.2.2.2.2.2.2.2))) else ((aaW k ag aj a1).bind fun ax=>((aaW k ag ax.2 2).bind fun ay=>(if ay.1=0 then ((aaW k ag ay.2 3).bind fun aQ=>((adj k ag aQ.2 (wrap64 (1+aQ.1))).bind fun av=>(some (4,0,ax.1,av.1,av.2.1,av.2.2.1,([]:List S92),([]:List S92),av.2.2.2)))) else ((aaW k ag ay.2 3).bind fun aR=>(some (5,aR.1,ax.1,0,0,([]:List S90),([]:List S92),([]:List S92),aR.2))))))
theorem alW (k g:Nat) (ag:List Int) (aj a1 r1 r2 r3 r4 r5:Int) (r6:List S90) (r7 r8:List S92) (r9:Int) (w0 w:World) (hI:Sad w0 w g ag aj) (hB:Below w0.heap.size w0 w) (h:alV k ag aj a1=some (r1,r2,r3,r4,r5,r6,r7,r8,r9)) :
  Calls prog 95 #[.pointer (some ⟨g,0,none⟩),iV a1] w fun e w'=>∃ bF bG bH:Value,e = .returned (.agg #[iV r1,iV r2,iV r3,iV r4,iV r5,bF,bG,bH])/\Kd.N k90 90 w' w.heap.size (fun k_=>(w.heap.size<=k_)/\some k_≠(bG:Value).ownBlock/\some k_≠(bH:Value).ownBlock) bF r6/\Kd.N k92 92 w' w.heap.size (fun k_=>(w.heap.size<=k_)/\some k_≠(bF:Value).ownBlock/\some k_≠(bH:Value).ownBlock) bG r7/\Kd.N k92 92 w' w.heap.size (fun k_=>(w.heap.size<=k_)/\some k_≠(bF:Value).ownBlock/\some k_≠(bG:Value).ownBlock) bH r8/\Sad w0 w' g ag r9/\Below w0.heap.size w0 w'/\aa6 w w' g none:=by
 have bX:=underlying92
 have HI0:=aM hI
 have HK:=aM (aaG w g none)
 have HL:=aM hB.size
 clear hI
 have HW0:=aM hB.size
 have HB:=aM hB
 clear hB
 have H:=h;unfold alV at H
 clear h
 replace H:=jD H;rcases H with ⟨bK,H⟩ | ⟨bK,H⟩
 ·obtain⟨⟨az,aA,aB,aC,aD,aF,aG,aH,bL⟩,A4,H⟩:=qE H
  try dsimp only at H
  obtain⟨rfl,rfl,rfl,rfl,rfl,rfl,rfl,rfl,rfl⟩:=oJ9 H
  go_enter func95,ntmps95
  go_wp2_with (first|((with_reducible refine jd 4 ?_);refine jY _ 92 ?_;intro aa hg w5 ae hb;have aS:=aM ((by rw [hg];exact kU:w.heap.size<=aa));have aT:=aM ((Nat.le_trans HW0.out (by rw [hg];exact kU:w.heap.size<=aa):w0.heap.size<=aa));have au:=aM ((by rw [hg];exact Nat.ne_of_lt (abt (show Sad w0 _ g ag aj from qI HI0)):g≠aa));have af:=aM ((by rw [hg];exact Nat.ne_of_gt (abt (show Sad w0 _ g ag aj from qI HI0)):aa≠g));replace HI0:=aM (Sad.below (qI HI0) hb);replace HK:=kY hb;replace HB:=kH hb;clear hb hg)|((with_reducible refine jc 92 9 ?_);refine jO func92 (ai3 k g ag aj az aA aB aC aD aF aG aH bL w0 _ (qI HI0) qB A4.out) ?_;rintro e w6 ⟨bn,bq,bu,rfl,ho0,ho1,ho2,hi,hb,hk⟩;refine⟨_,rfl,?_⟩;have aU:=aM (N_lower (N_mono (ok':=fun k_=>(w.heap.size<=k_)/\some k_≠(bq:Value).ownBlock/\some k_≠(bu:Value).ownBlock/\k_≠aa/\k_≠g) ho0 (fun k_ hk_=>⟨(Nat.le_trans kU hk_.1),hk_.2.1,hk_.2.2,(Kd.freshB (g:=aa) (o:=.cells #[iV 0,iV 0,iV 0,iV 0,iV 0,.slice none 0 0,.slice none 0 0,.slice none 0 0] 92 (0,0)) (qK ae) k_ hk_.1),(Sad.fresh (qI HI0) k_ hk_.1)⟩)) kU);have aV:=aM (N_lower (N_mono (ok':=fun k_=>(w.heap.size<=k_)/\some k_≠(bn:Value).ownBlock/\some k_≠(bu:Value).ownBlock/\k_≠aa/\k_≠g) ho1 (fun k_ hk_=>⟨(Nat.le_trans kU hk_.1),hk_.2.1,hk_.2.2,(Kd.freshB (g:=aa) (o:=.cells #[iV 0,iV 0,iV 0,iV 0,iV 0,.slice none 0 0,.slice none 0 0,.slice none 0 0] 92 (0,0)) (qK ae) k_ hk_.1),(Sad.fresh (qI HI0) k_ hk_.1)⟩)) kU);have aW:=aM (N_lower (N_mono (ok':=fun k_=>(w.heap.size<=k_)/\some k_≠(bn:Value).ownBlock/\some k_≠(bq:Value).ownBlock/\k_≠aa/\k_≠g) ho2 (fun k_ hk_=>⟨(Nat.le_trans kU hk_.1),hk_.2.1,hk_.2.2,(Kd.freshB (g:=aa) (o:=.cells #[iV 0,iV 0,iV 0,iV 0,iV 0,.slice none 0 0,.slice none 0 0,.slice none 0 0] 92 (0,0)) (qK ae) k_ hk_.1),(Sad.fresh (qI HI0) k_ hk_.1)⟩)) kU);replace ae:=kw hk ae af;replace HK:=kI hk;replace HB:=aM hb;replace HI0:=aM hi;clear hb hk hi;(try clear ho0);(try clear ho1);(try clear ho2);have bY:=af.out;have bZ:=au.out;have di:=jz8 ae;obtain⟨bI,bJ,cu⟩:=N_slice aU.out;subst cu;obtain⟨aJ,aK,bM⟩:=N_slice aV.out;subst bM;obtain⟨aL,aN,bN⟩:=N_slice aW.out;subst bN))
  refine bodyPost_ret (results_cell_row rfl _ _ aa 92 #[iV az,iV aA,iV aB,iV aC,iV aD,.slice bI aF.length bJ,.slice aJ aG.length aK,.slice aL aH.length aN] (0,0) _ rfl (qF ae) underlying92 rfl (by kernel_rfl)) rfl ?_
  exact⟨_,_,_,qW,by (with_reducible repeat (first|apply N_alloc|apply N_drewN|apply N_drew));exact N_mono (N_far (p:=⟨aa,7,none⟩) (N_far (p:=⟨aa,6,none⟩) (N_far (p:=⟨aa,5,none⟩) (N_far (p:=⟨aa,4,none⟩) (N_far (p:=⟨aa,3,none⟩) (N_far (p:=⟨aa,2,none⟩) (N_far (p:=⟨aa,1,none⟩) (N_far (p:=⟨aa,0,none⟩) (N_mono aU.out (fun k_ hk=>(⟨hk,hk.2.2.2.1⟩:_/\k_≠aa))) (fun _ hk=>hk.2) (iV az)) (fun _ hk=>hk.2) (iV aA)) (fun _ hk=>hk.2) (iV aB)) (fun _ hk=>hk.2) (iV aC)) (fun _ hk=>hk.2) (iV aD)) (fun _ hk=>hk.2) (.slice bI aF.length bJ)) (fun _ hk=>hk.2) (.slice aJ aG.length aK)) (fun _ hk=>hk.2) (.slice aL aH.length aN)) (fun _ hk=>⟨hk.1.1,⟨hk.1.2.1,hk.1.2.2.1⟩⟩),by (with_reducible repeat (first|apply N_alloc|apply N_drewN|apply N_drew));exact N_mono (N_far (p:=⟨aa,7,none⟩) (N_far (p:=⟨aa,6,none⟩) (N_far (p:=⟨aa,5,none⟩) (N_far (p:=⟨aa,4,none⟩) (N_far (p:=⟨aa,3,none⟩) (N_far (p:=⟨aa,2,none⟩) (N_far (p:=⟨aa,1,none⟩) (N_far (p:=⟨aa,0,none⟩) (N_mono aV.out (fun k_ hk=>(⟨hk,hk.2.2.2.1⟩:_/\k_≠aa))) (fun _ hk=>hk.2) (iV az)) (fun _ hk=>hk.2) (iV aA)) (fun _ hk=>hk.2) (iV aB)) (fun _ hk=>hk.2) (iV aC)) (fun _ hk=>hk.2) (iV aD)) (fun _ hk=>hk.2) (.slice bI aF.length bJ)) (fun _ hk=>hk.2) (.slice aJ aG.length aK)) (fun _ hk=>hk.2) (.slice aL aH.length aN)) (fun _ hk=>⟨hk.1.1,⟨hk.1.2.1,hk.1.2.2.1⟩⟩),by (with_reducible repeat (first|apply N_alloc|apply N_drewN|apply N_drew));exact N_mono (N_far (p:=⟨aa,7,none⟩) (N_far (p:=⟨aa,6,none⟩) (N_far (p:=⟨aa,5,none⟩) (N_far (p:=⟨aa,4,none⟩) (N_far (p:=⟨aa,3,none⟩) (N_far (p:=⟨aa,2,none⟩) (N_far (p:=⟨aa,1,none⟩) (N_far (p:=⟨aa,0,none⟩) (N_mono aW.out (fun k_ hk=>(⟨hk,hk.2.2.2.1⟩:_/\k_≠aa))) (fun _ hk=>hk.2) (iV az)) (fun _ hk=>hk.2) (iV aA)) (fun _ hk=>hk.2) (iV aB)) (fun _ hk=>hk.2) (iV aC)) (fun _ hk=>hk.2) (iV aD)) (fun _ hk=>hk.2) (.slice bI aF.length bJ)) (fun _ hk=>hk.2) (.slice aJ aG.length aK)) (fun _ hk=>hk.2) (.slice aL aH.length aN)) (fun _ hk=>⟨hk.1.1,⟨hk.1.2.1,hk.1.2.2.1⟩⟩),qI HI0,qB,qH⟩
 obtain⟨⟨aI,aO⟩,bR,H⟩:=qE H
 try dsimp only at H
 obtain⟨⟨bv,aP⟩,bS,H⟩:=qE H
 try dsimp only at H
 replace H:=jE H;rcases H with ⟨bz,bA,H⟩ | ⟨c14,bz,bA,H⟩
 ·obtain⟨⟨aY,bB⟩,cz,H⟩:=qE H
  try dsimp only at H
  obtain⟨⟨aZ,bg,bi,bO⟩,cB,H⟩:=qE H
  try dsimp only at H
  obtain⟨rfl,rfl,rfl,rfl,rfl,rfl,rfl,rfl,rfl⟩:=oJ9 H
  go_enter func95,ntmps95
  go_wp2_with (first|((with_reducible refine jd 4 ?_);refine jY _ 92 ?_;intro aa hg dn ae hb;have aS:=aM ((by rw [hg];exact kU:w.heap.size<=aa));have aT:=aM ((Nat.le_trans HW0.out (by rw [hg];exact kU:w.heap.size<=aa):w0.heap.size<=aa));have au:=aM ((by rw [hg];exact Nat.ne_of_lt (abt (show Sad w0 _ g ag aj from qI HI0)):g≠aa));have af:=aM ((by rw [hg];exact Nat.ne_of_gt (abt (show Sad w0 _ g ag aj from qI HI0)):aa≠g));replace HI0:=aM (Sad.below (qI HI0) hb);replace HK:=kY hb;replace HB:=kH hb;clear hb hg)|((with_reducible refine jc 52 12 ?_);refine jK func52 (aab k g ag aj a1 aI aO w0 _ (qI HI0) qB bR.out) ?_;rintro dw ⟨hi,hb,hk⟩;replace ae:=kw hk ae af;replace HK:=kI hk;replace HB:=aM hb;replace HI0:=aM hi;clear hb hk hi)|((with_reducible refine jc 52 14 ?_);refine jK func52 (aab k g ag aO 2 bv aP w0 _ (qI HI0) qB bS.out) ?_;rintro dx ⟨hi,hb,hk⟩;replace ae:=kw hk ae af;replace HK:=kI hk;replace HB:=aM hb;replace HI0:=aM hi;clear hb hk hi)|((with_reducible refine jc 52 19 ?_);refine jK func52 (aab k g ag aP 3 aY bB w0 _ (qI HI0) qB cz.out) ?_;rintro dz ⟨hi,hb,hk⟩;replace ae:=kw hk ae af;replace HK:=kI hk;replace HB:=aM hb;replace HI0:=aM hi;clear hb hk hi)|((with_reducible refine jc 96 21 ?_);refine jM func96 (acL k g ag bB (wrap64 (1+aY)) aZ bg bi bO w0 _ (qI HI0) qB cB.out) ?_;rintro cK dA ⟨ho0,hi,hb,hk⟩;have aX:=aM (N_lower (N_mono (ok':=fun k_=>(w.heap.size<=k_)/\k_≠aa/\k_≠g) ho0 (fun k_ hk_=>⟨(Nat.le_trans kU hk_),(Kd.freshB (g:=aa) (o:=.cells #[iV 0,iV 0,iV 0,iV 0,iV 0,.slice none 0 0,.slice none 0 0,.slice none 0 0] 92 (0,0)) (qK ae) k_ hk_),(Sad.fresh (qI HI0) k_ hk_)⟩)) kU);replace ae:=kw hk ae af;replace HK:=kI hk;replace HB:=aM hb;replace HI0:=aM hi;clear hb hk hi;(try clear ho0);obtain⟨bC,bD,bP⟩:=N_slice aX.out;subst bP;have bT:=af.out;have bU:=au.out;have cO:=jz8 ae))
  refine bodyPost_ret (results_cell_row rfl _ _ aa 92 #[iV 4,iV 0,iV aI,iV aZ,iV bg,.slice bC bi.length bD,.slice none 0 0,.slice none 0 0] (0,0) _ rfl (qF ae) underlying92 rfl (by kernel_rfl)) rfl ?_
  exact⟨_,_,_,qW,by (with_reducible repeat (first|apply N_alloc|apply N_drewN|apply N_drew));exact N_mono (N_far (p:=⟨aa,7,none⟩) (N_far (p:=⟨aa,6,none⟩) (N_far (p:=⟨aa,5,none⟩) (N_far (p:=⟨aa,4,none⟩) (N_far (p:=⟨aa,3,none⟩) (N_far (p:=⟨aa,2,none⟩) (N_far (p:=⟨aa,1,none⟩) (N_far (p:=⟨aa,0,none⟩) (N_mono aX.out (fun k_ hk=>(⟨hk,hk.2.1⟩:_/\k_≠aa))) (fun _ hk=>hk.2) (iV 4)) (fun _ hk=>hk.2) (iV 0)) (fun _ hk=>hk.2) (iV aI)) (fun _ hk=>hk.2) (iV aZ)) (fun _ hk=>hk.2) (iV bg)) (fun _ hk=>hk.2) (.slice bC bi.length bD)) (fun _ hk=>hk.2) (.slice none 0 0)) (fun _ hk=>hk.2) (.slice none 0 0)) (fun _ hk=>⟨hk.1.1,⟨(by simp [Value.ownBlock]),(by simp [Value.ownBlock])⟩⟩),by first|exact R_nil _ _ _ _ _|exact N_nil _ _ _ _ _|exact V_nil _ _ _ _ _|exact Q_nil _ _ _ _ _|exact S_nil _ _ _ _ _,by first|exact R_nil _ _ _ _ _|exact N_nil _ _ _ _ _|exact V_nil _ _ _ _ _|exact Q_nil _ _ _ _ _|exact S_nil _ _ _ _ _,qI HI0,qB,qH⟩
 obtain⟨⟨bE,bQ⟩,df,H⟩:=qE H
 try dsimp only at H
 obtain⟨rfl,rfl,rfl,rfl,rfl,rfl,rfl,rfl,rfl⟩:=oJ9 H
 go_enter func95,ntmps95
 go_wp2_with (first|((with_reducible refine jd 4 ?_);refine jY _ 92 ?_;intro aa hg dB ae hb;have aS:=aM ((by rw [hg];exact kU:w.heap.size<=aa));have aT:=aM ((Nat.le_trans HW0.out (by rw [hg];exact kU:w.heap.size<=aa):w0.heap.size<=aa));have au:=aM ((by rw [hg];exact Nat.ne_of_lt (abt (show Sad w0 _ g ag aj from qI HI0)):g≠aa));have af:=aM ((by rw [hg];exact Nat.ne_of_gt (abt (show Sad w0 _ g ag aj from qI HI0)):aa≠g));replace HI0:=aM (Sad.below (qI HI0) hb);replace HK:=kY hb;replace HB:=kH hb;clear hb hg)|((with_reducible refine jc 52 12 ?_);refine jK func52 (aab k g ag aj a1 aI aO w0 _ (qI HI0) qB bR.out) ?_;rintro dC ⟨hi,hb,hk⟩;replace ae:=kw hk ae af;replace HK:=kI hk;replace HB:=aM hb;replace HI0:=aM hi;clear hb hk hi)|((with_reducible refine jc 52 14 ?_);refine jK func52 (aab k g ag aO 2 bv aP w0 _ (qI HI0) qB bS.out) ?_;rintro dD ⟨hi,hb,hk⟩;replace ae:=kw hk ae af;replace HK:=kI hk;replace HB:=aM hb;replace HI0:=aM hi;clear hb hk hi)|((with_reducible refine jc 52 25 ?_);refine jK func52 (aab k g ag aP 3 bE bQ w0 _ (qI HI0) qB df.out) ?_;rintro dE ⟨hi,hb,hk⟩;replace ae:=kw hk ae af;replace HK:=kI hk;replace HB:=aM hb;replace HI0:=aM hi;clear hb hk hi;have bV:=af.out;have bW:=au.out;have dh:=jz8 ae))
 refine bodyPost_ret (results_cell_row rfl _ _ aa 92 #[iV 5,iV bE,iV aI,iV 0,iV 0,.slice none 0 0,.slice none 0 0,.slice none 0 0] (0,0) _ rfl (qF ae) underlying92 rfl (by kernel_rfl)) rfl ?_
 exact⟨_,_,_,qW,by first|exact R_nil _ _ _ _ _|exact N_nil _ _ _ _ _|exact V_nil _ _ _ _ _|exact Q_nil _ _ _ _ _|exact S_nil _ _ _ _ _,by first|exact R_nil _ _ _ _ _|exact N_nil _ _ _ _ _|exact V_nil _ _ _ _ _|exact Q_nil _ _ _ _ _|exact S_nil _ _ _ _ _,by first|exact R_nil _ _ _ _ _|exact N_nil _ _ _ _ _|exact V_nil _ _ _ _ _|exact Q_nil _ _ _ _ _|exact S_nil _ _ _ _ _,qI HI0,qB,qH⟩
mutual
def ak8:Nat->List Int->Int->Int->Int->Bool->Option (Int × Int × Int × Int × Int × (List S90) × (List S92) × (List S92) × Int)
 | 0,_,_,_,_,_=>none
 | k+1,af,ax,a1,a2,a3=>(aaW k af ax 2).bind fun bF=>((adj k af bF.2 (wrap64 (1+bF.1))).bind fun aW=>((aaW k af aW.2.2.2 3).bind fun bG=>((afp k af bG.2 a1 (wrap64 (a2 - 1)) bG.1 a3).bind fun bH=>((aaW k af bH.2 3).bind fun bI=>((afp k af bI.2 a1 (wrap64 (a2 - 1)) bI.1 a3).bind fun bJ=>(some (2,0,0,aW.1,aW.2.1,aW.2.2.1,bH.1,bJ.1,bJ.2)))))))
def ak7:Nat->List Int->Int->Int->Int->Option ((List S92) × Int)
 | 0,_,_,_,_=>none
 | k+1,af,ax,a1,a2=>(aaW k af ax 3).bind fun gG=>((afp k af gG.2 a1 (wrap64 (a2 - 1)) gG.1 false).bind fun eT=>((afq 13 3).bind fun eU=>((afq 0 1).bind fun eX=>((ai5 8 eU.1 eU.2.1 eU.2.2 eX.1 eX.2.1 eX.2.2).bind fun eY=>((afq 13 3).bind fun eZ=>((aaW k af eT.2 3).bind fun gH=>((afq 0 (wrap64 (1+gH.1))).bind fun fe=>((ai5 5 eZ.1 eZ.2.1 eZ.2.2 fe.1 fe.2.1 fe.2.2).bind fun fo=>((some (([(⟨1,3,0,(⟨eY.1,eY.2.1,eY.2.2⟩:S90),([]:List S92),([]:List S92)⟩:S92)]:List S92):List S92)).bind fun iI=>(if eT.1.length+iI.length < 1256584717458 then ((afq 0 0).bind fun fq=>(some ((([(⟨1,3,0,(⟨fq.1,fq.2.1,fq.2.2⟩:S90),([]:List S92),([]:List S92)⟩:S92),(⟨3,0,0,(⟨fo.1,fo.2.1,fo.2.2⟩:S90),(eT.1 ++ iI),([]:List S92)⟩:S92)]:List S92)),gH.2))) else (none)))))))))))
def ado:Nat->Int->Int->Bool->Int->Bool->List Int->Int->Option ((List S92) × Int)
 | 0,_,_,_,_,_,_,_=>none
 | k+1,x1,x2,x3,eQ,iJ,x1000,aA=>if iJ=true then ((ak6 k x1000 aA).bind fun aX=>(some ((([(⟨aX.1,aX.2.1,aX.2.2.1,(⟨aX.2.2.2.1,aX.2.2.2.2.1,aX.2.2.2.2.2.1⟩:S90),aX.2.2.2.2.2.2.1,aX.2.2.2.2.2.2.2.1⟩:S92)]:List S92)),aX.2.2.2.2.2.2.2.2))) else (if eQ=2 then (if x2 > 0 then ((ak8 k x1000 aA x1 x2 x3).bind fun aY=>(some ((([(⟨aY.1,aY.2.1,aY.2.2.1,(⟨aY.2.2.2.1,aY.2.2.2.2.1,aY.2.2.2.2.2.1⟩:S90),aY.2.2.2.2.2.2.1,aY.2.2.2.2.2.2.2.1⟩:S92)]:List S92)),aY.2.2.2.2.2.2.2.2))) else ((aaW k x1000 aA 3).bind fun gI=>((adj k x1000 gI.2 (wrap64 (1+gI.1))).bind fun dM=>(some ((([(⟨7,0,0,(⟨dM.1,dM.2.1,dM.2.2.1⟩:S90),([]:List S92),([]:List S92)⟩:S92)]:List S92)),dM.2.2.2))))) else (if eQ=3 then (if x2 > 0 then (aer k x1 x2 x3 x1000 aA) else (aer k x1 x2 false x1000 aA)) else (if eQ=4 then (adG k x1 eQ (eQ == 4) x1000 aA) else (if eQ=5 then (adG k x1 eQ (eQ == 5) x1000 aA) else (adG k x1 eQ (eQ == 6) x1000 aA)))))
def aer:Nat->Int->Int->Bool->List Int->Int->Option ((List S92) × Int)
 | 0,_,_,_,_,_=>none
 | k+1,x1,x2,pu,x1000,aA=>if pu=true then ((ak7 k x1000 aA x1 x2).bind fun gJ=>(some (gJ.1,gJ.2))) else ((aaW k x1000 aA 3).bind fun gK=>((adj k x1000 gK.2 (wrap64 (1+gK.1))).bind fun dN=>(some ((([(⟨7,0,0,(⟨dN.1,dN.2.1,dN.2.2.1⟩:S90),([]:List S92),([]:List S92)⟩:S92)]:List S92)),dN.2.2.2))))
def adG:Nat->Int->Int->Bool->List Int->Int->Option ((List S92) × Int)
 | 0,_,_,_,_,_=>none
 | k+1,x1,eQ,x38,x1000,aA=>if x38=true then ((alV k x1000 aA x1).bind fun aZ=>(some ((([(⟨aZ.1,aZ.2.1,aZ.2.2.1,(⟨aZ.2.2.2.1,aZ.2.2.2.2.1,aZ.2.2.2.2.2.1⟩:S90),aZ.2.2.2.2.2.2.1,aZ.2.2.2.2.2.2.2.1⟩:S92)]:List S92)),aZ.2.2.2.2.2.2.2.2))) else (if eQ=7 then (some ((([(⟨6,0,0,(⟨0,0,([]:List S90)⟩:S90),([]:List S92),([]:List S92)⟩:S92)]:List S92)),aA)) else ((aaW k x1000 aA 3).bind fun gL=>((adj k x1000 gL.2 (wrap64 (1+gL.1))).bind fun dO=>(some ((([(⟨7,0,0,(⟨dO.1,dO.2.1,dO.2.2.1⟩:S90),([]:List S92),([]:List S92)⟩:S92)]:List S92)),dO.2.2.2)))))
def akc:Nat->List Int->Int->Int->Int->Bool->Option ((List S92) × Int)
 | 0,_,_,_,_,_=>none
 | k+1,af,ax,a1,a2,a3=>(aaW k af ax 10).bind fun aG=>(if aG.1=0 then (ado k a1 a2 a3 aG.1 (aG.1 == 0) af aG.2) else (ado k a1 a2 a3 aG.1 (aG.1 == 1) af aG.2))
def aeh:Nat->Int->Int->Int->Bool->List S92->Int->List Int->Int->Option ((List S92) × Int)
 | 0,_,_,_,_,_,_,_,_=>none
 | k+1,x1,x2,x3,x4,iJ,oI,x1000,aA=>if oI < x3 then ((akc k x1000 aA x1 x2 x4).bind fun fu=>(if iJ.length+fu.1.length < 1256584717458 then (aeh k x1 x2 x3 x4 (iJ ++ fu.1) (wrap64 (oI+1)) x1000 fu.2) else (none))) else (some (iJ,aA))
def afp:Nat->List Int->Int->Int->Int->Int->Bool->Option ((List S92) × Int)
 | 0,_,_,_,_,_,_=>none
 | k+1,af,ax,a1,a2,a3,a4=>aeh k a1 a2 a3 a4 (([]:List S92)) 0 af ax
end
@[reducible] def adu (k:Nat):Prop:=∀ (g:Nat) (af:List Int) (ax:Int) (a1:Int) (a2:Int) (a3:Bool) (r1:Int) (r2:Int) (r3:Int) (r4:Int) (r5:Int) (r6:List S90) (r7:List S92) (r8:List S92) (r9:Int) (w0 w:World) (hI:Sad w0 w g af ax) (hB:Below w0.heap.size w0 w) (h:ak8 k af ax a1 a2 a3=some (r1,r2,r3,r4,r5,r6,r7,r8,r9)),
  Calls prog 93 #[.pointer (some ⟨g,0,none⟩),iV a1,iV a2,.bool a3] w fun e w'=>∃ ma mf mg:Value,e = .returned (.agg #[iV r1,iV r2,iV r3,iV r4,iV r5,ma,mf,mg])/\Kd.N k90 90 w' w.heap.size (fun k_=>(w.heap.size<=k_)/\some k_≠(mf:Value).ownBlock/\some k_≠(mg:Value).ownBlock) ma r6/\Kd.N k92 92 w' w.heap.size (fun k_=>(w.heap.size<=k_)/\some k_≠(ma:Value).ownBlock/\some k_≠(mg:Value).ownBlock) mf r7/\Kd.N k92 92 w' w.heap.size (fun k_=>(w.heap.size<=k_)/\some k_≠(ma:Value).ownBlock/\some k_≠(mf:Value).ownBlock) mg r8/\Sad w0 w' g af r9/\Below w0.heap.size w0 w'/\aa6 w w' g none
@[reducible] def adt (k:Nat):Prop:=∀ (g:Nat) (af:List Int) (ax:Int) (a1:Int) (a2:Int) (r1:List S92) (r2:Int) (w0 w:World) (hI:Sad w0 w g af ax) (hB:Below w0.heap.size w0 w) (h:ak7 k af ax a1 a2=some (r1,r2)),
  Calls prog 94 #[.pointer (some ⟨g,0,none⟩),iV a1,iV a2] w fun e w'=>∃ gM:Value,e = .returned (gM)/\Kd.N k92 92 w' w.heap.size (fun k_=>(w.heap.size<=k_)) gM r1/\Sad w0 w' g af r2/\Below w0.heap.size w0 w'/\aa6 w w' g none
@[reducible] def adv (k:Nat):Prop:=∀ (g:Nat) (af:List Int) (ax:Int) (a1:Int) (a2:Int) (a3:Bool) (r1:List S92) (r2:Int) (w0 w:World) (hI:Sad w0 w g af ax) (hB:Below w0.heap.size w0 w) (h:akc k af ax a1 a2 a3=some (r1,r2)),
  Calls prog 82 #[.pointer (some ⟨g,0,none⟩),iV a1,iV a2,.bool a3] w fun e w'=>∃ gM:Value,e = .returned (gM)/\Kd.N k92 92 w' w.heap.size (fun k_=>(w.heap.size<=k_)) gM r1/\Sad w0 w' g af r2/\Below w0.heap.size w0 w'/\aa6 w w' g none
@[reducible] def acV (k:Nat):Prop:=∀ (g:Nat) (af:List Int) (ax:Int) (a1:Int) (a2:Int) (a3:Int) (a4:Bool) (r1:List S92) (r2:Int) (w0 w:World) (hI:Sad w0 w g af ax) (hB:Below w0.heap.size w0 w) (h:afp k af ax a1 a2 a3 a4=some (r1,r2)),
  Calls prog 73 #[.pointer (some ⟨g,0,none⟩),iV a1,iV a2,iV a3,.bool a4] w fun e w'=>∃ gM:Value,e = .returned (gM)/\Kd.N k92 92 w' w.heap.size (fun k_=>(w.heap.size<=k_)) gM r1/\Sad w0 w' g af r2/\Below w0.heap.size w0 w'/\aa6 w w' g none
def anY:Bool × List (List Nat × List Nat):=(true,[([],[]),([],[]),([],[]),([],[]),([],[]),([4],[4]),([],[]),([6],[6]),([],[]),([2,3,5,7,8,7],[2,3,5,7,8]),([0,1,9],[0,1,9]),([10,9,0,1,2,3,4,5,6,7,8,9,10],[10])])
def apO:List Nat:=[0,0,0,0,0,16,0,64,0,508,1023,2047]
theorem ang:abL .any (opsOf f93 3)=anY:=by kernel_rfl
theorem als:ab0 anY.2 apO=true:=by kernel_rfl
theorem Sbx.step (k:Nat) (aj:∀ m_,m_ < k->acV m_) (aC:∀ m_,m_ < k->adv m_) (ih:∀ m_,m_ < k->adu m_) (aD:∀ m_,m_ < k->adt m_):adu k:=by
 intro g af ax a1 a2 a3 r1 r2 r3 r4 r5 r6 r7 r8 r9 w0 w hI hB h
 cases k with
 | zero=>exact absurd h (by simp [ak8])
 | succ k =>
 simp only [ak8] at h
 have mV:=underlying92
 have pz:=underlying90
 have HI0:=aM hI
 have HK:=aM (aaG w g none)
 have HL:=aM hB.size
 clear hI
 have HW0:=aM hB.size
 have HB:=aM hB
 clear hB
 have H:((aaW k af ax 2).bind fun bF=>((adj k af bF.2 (wrap64 (1+bF.1))).bind fun aW=>((aaW k af aW.2.2.2 3).bind fun bG=>((afp k af bG.2 a1 (wrap64 (a2 - 1)) bG.1 a3).bind fun bH=>((aaW k af bH.2 3).bind fun bI=>((afp k af bI.2 a1 (wrap64 (a2 - 1)) bI.1 a3).bind fun bJ=>(some (2,0,0,aW.1,aW.2.1,aW.2.2.1,bH.1,bJ.1,bJ.2))))))))=some (r1,r2,r3,r4,r5,r6,r7,r8,r9):=h
 clear h
 obtain⟨⟨ig,iK⟩,A5,H⟩:=qE H
 try dsimp only at H
 obtain⟨⟨bn,bq,aP,gq⟩,A6,H⟩:=qE H
 try dsimp only at H
 obtain⟨⟨ik,iL⟩,A7,H⟩:=qE H
 try dsimp only at H
 obtain⟨⟨fw,iM⟩,A8,H⟩:=qE H
 try dsimp only at H
 obtain⟨⟨il,iN⟩,A9,H⟩:=qE H
 try dsimp only at H
 obtain⟨⟨fA,mW⟩,iO,H⟩:=qE H
 try dsimp only at H
 obtain⟨rfl,rfl,rfl,rfl,rfl,rfl,rfl,rfl,rfl⟩:=oJ9 H
 go_enter func93,ntmps93
 try go_wp2_with (first|((with_reducible refine jd 8 ?_);refine jY _ 92 ?_;intro aa hg oK ag hb;have oL:=aM ((by rw [hg];exact kU:w.heap.size<=aa));have oM:=aM ((Nat.le_trans HW0.out (by rw [hg];exact kU:w.heap.size<=aa):w0.heap.size<=aa));have mh:=aM ((by rw [hg];exact Nat.ne_of_lt (abt (show Sad w0 _ g af ax from qI HI0)):g≠aa));have aQ:=aM ((by rw [hg];exact Nat.ne_of_gt (abt (show Sad w0 _ g af ax from qI HI0)):aa≠g));replace HI0:=aM (Sad.below (qI HI0) hb);replace HK:=kY hb;replace HB:=kH hb;clear hb hg)|((with_reducible refine jc 52 13 ?_);refine jK func52 (aab k g af ax 2 ig iK w0 _ (qI HI0) qB A5.out) ?_;rintro rT ⟨hi,hb,hk⟩;replace ag:=kw hk ag aQ;replace HK:=aM (aa6.trans (w:=w) qH hk (.inl rfl));replace HB:=aM hb;replace HI0:=aM hi;clear hb hk hi)|((with_reducible refine jc 96 15 ?_);refine jM func96 (acL k g af iK (wrap64 (1+ig)) bn bq aP gq w0 _ (qI HI0) qB A6.out) ?_;rintro pE rU ⟨ho0,hi,hb,hk⟩;have aB:=aM (N_lower (N_mono (ok':=fun k_=>(w.heap.size<=k_)/\k_≠aa/\k_≠g) ho0 (fun k_ hk_=>⟨(Nat.le_trans kU hk_),(Kd.freshB (g:=aa) (o:=.cells #[iV 0,iV 0,iV 0,iV 0,iV 0,.slice none 0 0,.slice none 0 0,.slice none 0 0] 92 (0,0)) (qK ag) k_ hk_),(Sad.fresh (qI HI0) k_ hk_)⟩)) kU);replace ag:=kw hk ag aQ;replace HK:=aM (aa6.trans (w:=w) qH hk (.inl rfl));replace HB:=aM hb;replace HI0:=aM hi;clear hb hk hi;(try clear ho0))|((with_reducible refine jd 9 ?_);refine jY _ 90 ?_;intro ak hg rV au hb;have oN:=aM ((by rw [hg];exact kU:w.heap.size<=ak));have oO:=aM ((Nat.le_trans HW0.out (by rw [hg];exact kU:w.heap.size<=ak):w0.heap.size<=ak));have av:=kN hg ag;have ae:=kM hg ag;have gu:=aM ((by rw [hg];exact Nat.ne_of_lt (abt (show Sad w0 _ g af gq from qI HI0)):g≠ak));have bg:=aM ((by rw [hg];exact Nat.ne_of_gt (abt (show Sad w0 _ g af gq from qI HI0)):ak≠g));replace aB:=aM (N_below (N_elderB (qN aB) ak (Nat.le_of_eq hg.symm)) hb);replace HI0:=aM (Sad.below (qI HI0) hb);replace ag:=kB ag hb;replace HK:=kY hb;replace HB:=kH hb;clear hb hg;have oP:=ae.out;have oQ:=av.out;have oU:=bg.out;have oV:=gu.out;have pF:=jz3 au;obtain⟨aT,aU,mX⟩:=N_slice aB.out;subst mX)|((with_reducible refine jc 52 21 ?_);refine jK func52 (aab k g af gq 3 ik iL w0 _ (qI HI0) qB A7.out) ?_;rintro rW ⟨hi,hb,hk⟩;replace ag:=aM (acW hk (g':=aa) (qL ag) aQ.out (by simp));replace aB:=aM (N_mono (N_keep (N_mono (ok:=fun k_=>((((w.heap.size<=k_))/\(k_≠aa/\k_≠g))/\k_≠ak)) (by (with_reducible repeat (first|apply N_alloc|apply N_drewN|apply N_drew));exact (N_mono (N_far (p:=⟨ak,2,none⟩) (N_far (p:=⟨ak,1,none⟩) (N_far (p:=⟨ak,0,none⟩) (N_mono aB.out (fun k_ hk=>(⟨hk,hk.2⟩:_/\k_≠ak))) (fun _ hk=>hk.2) (iV bn)) (fun _ hk=>hk.2) (iV bq)) (fun _ hk=>hk.2) (.slice aT aP.length aU)) (fun _ h_=>h_.1))) (fun k_ hk_=>(⟨hk_,hk_.1.2.2⟩:_/\k_≠g))) hk (fun _ h=>h.2)) (fun _ h=>h.1));replace au:=aM (acW hk (g':=ak) (qF au) bg.out (by simp));replace HK:=aM (aa6.trans (w:=w) qH hk (.inl rfl));replace HB:=aM hb;replace HI0:=aM hi;clear hb hk hi)|((with_reducible refine jc 73 23 ?_);refine jM func73 (aj k (by omega) g af iL a1 (wrap64 (a2 - 1)) ik a3 fw iM w0 _ (qI HI0) qB A8.out) ?_;rintro iq mY ⟨ho0,hi,hb,hk⟩;have aV:=aM (N_lower (N_mono (ok':=fun k_=>(w.heap.size<=k_)/\some k_≠(.slice aT aP.length aU:Value).ownBlock/\k_≠aa/\k_≠ak/\k_≠g) ho0 (fun k_ hk_=>⟨(Nat.le_trans kU hk_),(Kd.fresh' (N_lt (qN aB)) k_ hk_),(Kd.freshB (g:=aa) (o:=.cells #[iV 0,iV 0,iV 0,iV 0,iV 0,.slice none 0 0,.slice none 0 0,.slice none 0 0] 92 (0,0)) (qK ag) k_ hk_),(Kd.freshB (g:=ak) (o:=.cells #[iV bn,iV bq,.slice aT aP.length aU] 90 (0,0)) (qK au) k_ hk_),(Sad.fresh (qI HI0) k_ hk_)⟩)) kU);replace ag:=kw hk ag aQ;replace aB:=aM (N_mono (N_told (N_oldK (N_mono (ok:=fun k_=>((((w.heap.size<=k_))/\(k_≠aa/\k_≠g))/\k_≠ak)) (qN aB) (fun k_ hk_=>(⟨hk_,hk_.1.2.2⟩:_/\k_≠g))) hk) (by first|exact N_base ho0|exact R_base ho0)) (fun _ h_=>h_.1));replace au:=kw hk au bg;replace HK:=aM (aa6.trans (w:=w) qH hk (.inl rfl));replace HB:=aM hb;replace HI0:=aM hi;clear hb hk hi;(try clear ho0)))
 replace aB:=aM (N_drew aB.out)
 replace aV:=aM (N_drew aV.out)
 replace ag:=aM (ab4 ag.out)
 replace au:=aM (ab4 au.out)
 replace HI0:=aM (Sad.drew HI0.out)
 replace HK:=aM (adf HK.out)
 replace HB:=aM (aai HB.out)
 refine abF (n:=12) (S:=fun w'=>w'.cell? ⟨ak,0,none⟩=some (iV bn)/\w'.cell? ⟨ak,1,none⟩=some (iV bq)/\w'.cell? ⟨ak,2,none⟩=some (.slice aT aP.length aU)) (ds:=[]) (jb 12 0) (by kernel_rfl) rfl rfl ⟨(aa3 au.out 0).trans rfl,(aa3 au.out 1).trans rfl,(aa3 au.out 2).trans rfl⟩ (fun hHeld=>?_);refine aaZ ang als (fun HT_ HW_=>?_)
 generalize mY.drew=rX at aB aV ag au HI0 HK HB hHeld ⊢
 refine jp 1 25 (jb 12 2) ?_
 refine jp 2 26 (jb 12 6) ?_
 refine jp 3 27 (jb 12 14) ?_
 refine jp 4 28 (jb 12 30) ?_
 refine jp 5 29 (jb 12 62) ?_
 refine jp 6 30 (jb 12 126) ?_
 refine jp 8 32 (jb 12 382) ?_
 refine jt 0 24 (jb 12 383) ?_
 refine ad6 (i:=7) (N:=some 31) (jb 12 511) rfl rfl (aaT HT_.out (by kernel_rfl)) (by decide) (fun K hK=>?_)
 refine abn func52 (by kernel_rfl) rfl #[.pointer (some ⟨g,0,none⟩),iV 3] (by rfl) rfl rfl qM ?_
 with_reducible refine (aab k g af iM 3 il iN w0 _ ?ah ?ai A9.out).mono ?_
 (case ah=>exact qI HI0)
 (case ai=>exact qB)
 rintro e rY ⟨rfl,hi,hb,hk⟩
 refine⟨_,rfl,?_⟩
 replace ag:=kw hk ag aQ
 replace aB:=aM (N_mono (N_keep (N_mono (ok:=fun k_=>(((((w.heap.size<=k_))/\(k_≠aa/\k_≠g))/\k_≠ak)/\some k_≠(iq:Value).ownBlock)) (qN aB) (fun k_ hk_=>(⟨hk_,hk_.1.1.2.2⟩:_/\k_≠g))) hk (fun _ h=>h.2)) (fun _ h=>h.1))
 replace au:=kw hk au bg
 replace aV:=aM (N_mono (N_keep (N_mono (ok:=fun k_=>(((w.heap.size<=k_))/\(some k_≠(.slice aT aP.length aU:Value).ownBlock/\(k_≠aa/\(k_≠ak/\k_≠g))))) (qN aV) (fun k_ hk_=>(⟨hk_,hk_.2.2.2.2⟩:_/\k_≠g))) hk (fun _ h=>h.2)) (fun _ h=>h.1))
 replace HK:=aM (aa6.trans (w:=w) qH hk (.inl rfl))
 replace HB:=aM hb
 replace HI0:=aM hi
 (try clear hb)
 (try clear hb2)
 (try clear hk)
 (try clear hi)
 refine hK.out _ _ ⟨(aa3 au.out 0).trans rfl,(aa3 au.out 1).trans rfl,(aa3 au.out 2).trans rfl⟩ (fun hHeld=>?_)
 clear hK K
 refine aav (a':=?_) ?_ ?_
 rotate_left
 ·show Act.put _ (some 31) _=_
  simp only [Act.put,List.setIfInBounds_toArray,List.set_cons_zero,List.set_cons_succ,aau,aaD]
  rfl
 refine ad6 (i:=9) (N:=some 33) (jb 12 1023) rfl rfl (aaT HT_.out (by kernel_rfl)) (by decide) (fun K hK=>?_)
 refine abn func73 (by kernel_rfl) rfl #[.pointer (some ⟨g,0,none⟩),iV a1,iV (wrap64 (a2 - 1)),iV il,.bool a3] (by rfl) rfl rfl qM ?_
 with_reducible refine (aj k (by omega) g af iN a1 (wrap64 (a2 - 1)) il a3 fA mW w0 _ ?ah ?ai iO.out).mono ?_
 (case ah=>exact qI HI0)
 (case ai=>exact qB)
 rintro e gN ⟨pG,rfl,ho0,hi,hb,hk⟩
 refine⟨_,rfl,?_⟩
 have gP:=aM (N_lower (N_mono (ok':=fun k_=>(w.heap.size<=k_)/\some k_≠(.slice aT aP.length aU:Value).ownBlock/\some k_≠(iq:Value).ownBlock/\k_≠aa/\k_≠ak/\k_≠g) ho0 (fun k_ hk_=>⟨(Nat.le_trans kU hk_),(Kd.fresh' (N_lt (qN aB)) k_ hk_),(Kd.fresh' (N_lt (qN aV)) k_ hk_),(Kd.freshB (g:=aa) (o:=.cells #[iV 0,iV 0,iV 0,iV 0,iV 0,.slice none 0 0,.slice none 0 0,.slice none 0 0] 92 (0,0)) (qK ag) k_ hk_),(Kd.freshB (g:=ak) (o:=.cells #[iV bn,iV bq,.slice aT aP.length aU] 90 (0,0)) (qK au) k_ hk_),(Sad.fresh (qI HI0) k_ hk_)⟩)) kU)
 replace ag:=kw hk ag aQ
 replace aB:=aM (N_mono (N_told (N_oldK (N_mono (ok:=fun k_=>(((((w.heap.size<=k_))/\(k_≠aa/\k_≠g))/\k_≠ak)/\some k_≠(iq:Value).ownBlock)) (qN aB) (fun k_ hk_=>(⟨hk_,hk_.1.1.2.2⟩:_/\k_≠g))) hk) (by first|exact N_base ho0|exact R_base ho0)) (fun _ h_=>h_.1))
 replace au:=kw hk au bg
 replace aV:=aM (N_mono (N_told (N_oldK (N_mono (ok:=fun k_=>(((w.heap.size<=k_))/\(some k_≠(.slice aT aP.length aU:Value).ownBlock/\(k_≠aa/\(k_≠ak/\k_≠g))))) (qN aV) (fun k_ hk_=>(⟨hk_,hk_.2.2.2.2⟩:_/\k_≠g))) hk) (by first|exact N_base ho0|exact R_base ho0)) (fun _ h_=>h_.1))
 replace HK:=aM (aa6.trans (w:=w) qH hk (.inl rfl))
 replace HB:=aM hb
 replace HI0:=aM hi
 (try clear hb)
 (try clear hb2)
 (try clear hk)
 (try clear hi)
 (try clear ho0)
 obtain⟨gy,gz,iP⟩:=N_slice gP.out
 (first|subst iP|(injection iP with iQ mZ iR;have ng:=iQ.symm;have ni:=iR.symm;clear iQ mZ iR;subst ng;subst ni))
 obtain⟨gB,gD,iT⟩:=N_slice aV.out
 (first|subst iT|(injection iT with iQ mZ iR;have ng:=iQ.symm;have ni:=iR.symm;clear iQ mZ iR;subst ng;subst ni))
 refine hK.out _ _ ⟨(aa3 au.out 0).trans rfl,(aa3 au.out 1).trans rfl,(aa3 au.out 2).trans rfl⟩ (fun hHeld=>?_)
 clear hK K
 refine aav (a':=?_) ?_ ?_
 rotate_left
 ·show Act.put _ (some 33) _=_
  simp only [Act.put,List.setIfInBounds_toArray,List.set_cons_zero,List.set_cons_succ,aau,aaD]
  rfl
 refine jp 10 34 (jb 12 2047) ?_
 refine ad6 (i:=11) (N:=none) (jb 12 4095) rfl rfl (aaT HT_.out (by kernel_rfl)) (by decide) (fun K hK=>?_)
 have pI:gN.cell? ⟨aa,0,none⟩=some (iV 0):=(aa3 ag.out 0).trans rfl
 have oW:=aa7 ag.out 0
 have mi:=ae.out
 have mo:=av.out
 have pJ:gN.cell? ⟨aa,1,none⟩=some (iV 0):=(aa3 ag.out 1).trans rfl
 have oZ:=aa7 ag.out 1
 have mq:=ae.out
 have mr:=av.out
 have pK:gN.cell? ⟨aa,2,none⟩=some (iV 0):=(aa3 ag.out 2).trans rfl
 have o5:=aa7 ag.out 2
 have mD:=ae.out
 have mE:=av.out
 have pM:gN.cell? ⟨aa,3,none⟩=some (iV 0):=(aa3 ag.out 3).trans rfl
 have o6:=aa7 ag.out 3
 have mF:=ae.out
 have mG:=av.out
 have pO:gN.cell? ⟨aa,4,none⟩=some (iV 0):=(aa3 ag.out 4).trans rfl
 have o7:=aa7 ag.out 4
 have mH:=ae.out
 have mI:=av.out
 have pQ:gN.cell? ⟨aa,5,none⟩=some (.slice none 0 0):=(aa3 ag.out 5).trans rfl
 have o8:=aa7 ag.out 5
 have mJ:=ae.out
 have mK:=av.out
 have pR:gN.cell? ⟨aa,6,none⟩=some (.slice none 0 0):=(aa3 ag.out 6).trans rfl
 have o9:=aa7 ag.out 6
 have mO:=ae.out
 have mQ:=av.out
 have pU:gN.cell? ⟨aa,7,none⟩=some (.slice none 0 0):=(aa3 ag.out 7).trans rfl
 have pg:=aa7 ag.out 7
 have mR:=ae.out
 have mU:=av.out
 refine ahf (w1:=?_) (by rfl) rfl ?_ ?_
 rotate_left
 ·go_simp
  rfl
 refine hK.out _ _ ⟨((cell_far (p:=⟨aa,_,none⟩) ae.out _).trans (((cell_far (p:=⟨aa,_,none⟩) ae.out _).trans (((cell_far (p:=⟨aa,_,none⟩) ae.out _).trans (((cell_far (p:=⟨aa,_,none⟩) ae.out _).trans (((cell_far (p:=⟨aa,_,none⟩) ae.out _).trans (((cell_far (p:=⟨aa,_,none⟩) ae.out _).trans (((cell_far (p:=⟨aa,_,none⟩) ae.out _).trans (((cell_far (p:=⟨aa,_,none⟩) ae.out _).trans (hHeld.1)))))))))))))))),((cell_far (p:=⟨aa,_,none⟩) ae.out _).trans (((cell_far (p:=⟨aa,_,none⟩) ae.out _).trans (((cell_far (p:=⟨aa,_,none⟩) ae.out _).trans (((cell_far (p:=⟨aa,_,none⟩) ae.out _).trans (((cell_far (p:=⟨aa,_,none⟩) ae.out _).trans (((cell_far (p:=⟨aa,_,none⟩) ae.out _).trans (((cell_far (p:=⟨aa,_,none⟩) ae.out _).trans (((cell_far (p:=⟨aa,_,none⟩) ae.out _).trans (hHeld.2.1)))))))))))))))),((cell_far (p:=⟨aa,_,none⟩) ae.out _).trans (((cell_far (p:=⟨aa,_,none⟩) ae.out _).trans (((cell_far (p:=⟨aa,_,none⟩) ae.out _).trans (((cell_far (p:=⟨aa,_,none⟩) ae.out _).trans (((cell_far (p:=⟨aa,_,none⟩) ae.out _).trans (((cell_far (p:=⟨aa,_,none⟩) ae.out _).trans (((cell_far (p:=⟨aa,_,none⟩) ae.out _).trans (((cell_far (p:=⟨aa,_,none⟩) ae.out _).trans (hHeld.2.2))))))))))))))))⟩ (fun hHeld=>?_)
 clear hK K
 refine acG (abr HT_.out (by kernel_rfl)) ?_
 try go_wp2
 refine bodyPost_ret (results_cell_row rfl _ _ aa 92 #[iV 2,iV 0,iV 0,iV bn,iV bq,.slice aT aP.length aU,.slice gB fw.length gD,.slice gy fA.length gz] (0,0) _ rfl (qF ag) underlying92 rfl (by kernel_rfl)) rfl ?_
 exact⟨_,_,_,qW,by (with_reducible repeat (first|apply N_alloc|apply N_drewN|apply N_drew));exact N_mono (N_far (p:=⟨aa,7,none⟩) (N_far (p:=⟨aa,6,none⟩) (N_far (p:=⟨aa,5,none⟩) (N_far (p:=⟨aa,4,none⟩) (N_far (p:=⟨aa,3,none⟩) (N_far (p:=⟨aa,2,none⟩) (N_far (p:=⟨aa,1,none⟩) (N_far (p:=⟨aa,0,none⟩) (N_mono aB.out (fun k_ hk=>(⟨hk,hk.1.1.1.2.1⟩:_/\k_≠aa))) (fun _ hk=>hk.2) (iV 2)) (fun _ hk=>hk.2) (iV 0)) (fun _ hk=>hk.2) (iV 0)) (fun _ hk=>hk.2) (iV bn)) (fun _ hk=>hk.2) (iV bq)) (fun _ hk=>hk.2) (.slice aT aP.length aU)) (fun _ hk=>hk.2) (.slice gB fw.length gD)) (fun _ hk=>hk.2) (.slice gy fA.length gz)) (fun _ hk=>⟨hk.1.1.1.1.1,⟨hk.1.1.2,hk.1.2⟩⟩),by (with_reducible repeat (first|apply N_alloc|apply N_drewN|apply N_drew));exact N_mono (N_far (p:=⟨aa,7,none⟩) (N_far (p:=⟨aa,6,none⟩) (N_far (p:=⟨aa,5,none⟩) (N_far (p:=⟨aa,4,none⟩) (N_far (p:=⟨aa,3,none⟩) (N_far (p:=⟨aa,2,none⟩) (N_far (p:=⟨aa,1,none⟩) (N_far (p:=⟨aa,0,none⟩) (N_mono aV.out (fun k_ hk=>(⟨hk,hk.1.2.2.1⟩:_/\k_≠aa))) (fun _ hk=>hk.2) (iV 2)) (fun _ hk=>hk.2) (iV 0)) (fun _ hk=>hk.2) (iV 0)) (fun _ hk=>hk.2) (iV bn)) (fun _ hk=>hk.2) (iV bq)) (fun _ hk=>hk.2) (.slice aT aP.length aU)) (fun _ hk=>hk.2) (.slice gB fw.length gD)) (fun _ hk=>hk.2) (.slice gy fA.length gz)) (fun _ hk=>⟨hk.1.1.1,⟨hk.1.1.2.1,hk.1.2⟩⟩),by (with_reducible repeat (first|apply N_alloc|apply N_drewN|apply N_drew));exact N_mono (N_far (p:=⟨aa,7,none⟩) (N_far (p:=⟨aa,6,none⟩) (N_far (p:=⟨aa,5,none⟩) (N_far (p:=⟨aa,4,none⟩) (N_far (p:=⟨aa,3,none⟩) (N_far (p:=⟨aa,2,none⟩) (N_far (p:=⟨aa,1,none⟩) (N_far (p:=⟨aa,0,none⟩) (N_mono gP.out (fun k_ hk=>(⟨hk,hk.2.2.2.1⟩:_/\k_≠aa))) (fun _ hk=>hk.2) (iV 2)) (fun _ hk=>hk.2) (iV 0)) (fun _ hk=>hk.2) (iV 0)) (fun _ hk=>hk.2) (iV bn)) (fun _ hk=>hk.2) (iV bq)) (fun _ hk=>hk.2) (.slice aT aP.length aU)) (fun _ hk=>hk.2) (.slice gB fw.length gD)) (fun _ hk=>hk.2) (.slice gy fA.length gz)) (fun _ hk=>⟨hk.1.1,⟨hk.1.2.1,hk.1.2.2.1⟩⟩),qI HI0,qB,qH⟩
def anX:Bool × List (List Nat × List Nat):=(true,[([],[]),([0],[0]),([],[]),([2,1],[2]),([3],[3]),([4,3],[4]),([1,5,5],[1,5]),([],[]),([],[]),([8],[8]),([7,9,6],[7,9]),([6,10],[6,10]),([],[]),([12,11,10,0,1,2,3,4,5,6,7,8,9,10,11,12],[11,12])])
def apN:List Nat:=[0,1,0,7,15,31,63,0,0,256,1023,2047,0,8191]
theorem anf:abL .any (opsOf f94 4)=anX:=by kernel_rfl
theorem alr:ab0 anX.2 apN=true:=by kernel_rfl
theorem Sby.step (k:Nat) (aj:∀ m_,m_ < k->acV m_) (aC:∀ m_,m_ < k->adv m_) (aJ:∀ m_,m_ < k->adu m_) (ih:∀ m_,m_ < k->adt m_):adt k:=by
 intro g af ax a1 a2 r1 r2 w0 w hI hB H
 cases k with
 | zero=>exact absurd H (by simp [ak7])
 | succ k =>
 simp only [ak7] at H
 have HI0:=aM hI
 have HK:=aM (aaG w g none)
 have HW0:=aM hB.size
 have HB:=aM hB
 clear hB hI
 obtain⟨⟨n1,p1⟩,A1,H⟩:=qE H
 try dsimp only at H
 obtain⟨⟨tb,p2⟩,A2,H⟩:=qE H
 try dsimp only at H
 obtain⟨⟨x1,y1,z1⟩,A3,H⟩:=qE H
 try dsimp only at H
 obtain⟨⟨x2,y2,z2⟩,A4,H⟩:=qE H
 try dsimp only at H
 obtain⟨⟨x3,y3,z3⟩,A5,H⟩:=qE H
 try dsimp only at H
 obtain⟨⟨x4,y4,z4⟩,A6,H⟩:=qE H
 try dsimp only at H
 obtain⟨⟨n2,p3⟩,A7,H⟩:=qE H
 try dsimp only at H
 obtain⟨⟨x5,y5,z5⟩,A8,H⟩:=qE H
 try dsimp only at H
 obtain⟨⟨x6,y6,z6⟩,A9,H⟩:=qE H
 try dsimp only at H
 obtain⟨ys,Hy⟩:∃ ys:List S92,aa1 (ys=[(⟨1,3,0,(⟨x3,y3,z3⟩:S90),[],[]⟩:S92)]):=⟨_,⟨rfl⟩⟩
 rw [Option.bind_some,<- Hy.out] at H
 replace H:=jU H;obtain⟨c13,H⟩:=H
 obtain⟨⟨x7,y7,z7⟩,iO,H⟩:=qE H
 obtain⟨yt,Hyt⟩:∃ yt:List S92,aa1 (yt=tb ++ ys):=⟨_,⟨rfl⟩⟩
 simp only [Option.some.injEq,Prod.mk.injEq] at H
 rw [<- Hyt.out] at H
 obtain⟨rfl,rfl⟩:=H
 go_enter func94,ntmps94
 go_wp2_with (first|((with_reducible refine jc 52 16 ?_);refine jK func52 (aab k g af ax 3 n1 p1 w0 _ (qI HI0) qB A1.out) ?_;rintro w1 ⟨hi,hb,hk⟩;replace HK:=aM (aa6.trans (w:=w) qH hk (.inl rfl));replace HB:=aM hb;replace HI0:=aM hi;clear hi hb hk)|((with_reducible refine jc 73 17 ?_);refine jM func73 (aj k (by omega) g af p1 a1 (wrap64 (a2 - 1)) n1 false tb p2 w0 _ (qI HI0) qB A2.out) ?_;rintro v1 w2 ⟨ho,hi,hb,hk⟩;obtain⟨bB,bC,rfl⟩:=N_slice ho;have HX:=aM (anH (w:=w) qH (qI HI0) HW0.out ho hi hb hk);clear hi hb hk ho HI0 HB HK)|((with_reducible refine jc 110 20 ?_);refine jG func110 #[iV 13,iV 3] ?_;refine aco HX.out A3.out (fun nk nu w3 hx=>?_);replace HX:=aM hx;clear hx)|((with_reducible refine jc 110 21 ?_);refine jG func110 #[iV 0,iV 1] ?_;refine aco HX.out A4.out (fun ny nz w3 hx=>?_);replace HX:=aM hx;clear hx)|((with_reducible refine jc 109 22 ?_);refine jG func109 #[iV 8,eV x1 y1 nk z1 nu,eV x2 y2 ny z2 nz] ?_;refine agl HX.out (by simp) (by simp) A5.out (fun bD bE w3 hx=>?_);replace HX:=aM hx;clear hx)|((with_reducible refine jd 9 ?_);refine jX _ 92 ?_;intro b1 hg w4 hbox hb;replace HX:=aM (LX.box HX.out hg hbox hb);obtain⟨iU,iW,iX,iY,iZ,ja,je,jf,nA,nC,nD,nE,nG,nH,nI,nJ⟩:=aqH hbox;clear hb hbox hg))
 replace HX:=aM (show LX w0 w g af (.slice bB tb.length bC) tb [(b1,#[iV 1,iV 3,iV 0,iV x3,iV y3,.slice bD z3.length bE,.slice none 0 0,.slice none 0 0])] [(.slice bD z3.length bE,z3),(.slice ny z2.length nz,z2),(.slice nk z1.length nu,z1)] [] p2 _ from LX.put8 (iV 1) (iV 3) (iV 0) (iV x3) (iV y3) (.slice bD z3.length bE) (.slice none 0 0) (.slice none 0 0) HX.out)
 obtain⟨B1,HB1,m1⟩:∃ B:List (Nat × Array Value),aa1 (B=[(b1,#[iV 1,iV 3,iV 0,iV x3,iV y3,.slice bD z3.length bE,.slice none 0 0,.slice none 0 0])])/\(b1,#[iV 1,iV 3,iV 0,iV x3,iV y3,.slice bD z3.length bE,.slice none 0 0,.slice none 0 0])∈B:=⟨_,⟨rfl⟩,List.mem_cons_self ..⟩
 obtain⟨L1,pV,m3⟩:∃ L:List (Value × List S90),aa1 (L=[(.slice bD z3.length bE,z3),(.slice ny z2.length nz,z2),(.slice nk z1.length nu,z1)])/\(.slice bD z3.length bE,z3)∈L:=⟨_,⟨rfl⟩,List.mem_cons_self ..⟩
 rw [<- HB1.out,<- pV.out] at HX
 replace HX:=aM HX.out.drew
 refine abF (n:=14) (S:=fun W=>W.heap[b1]?=some (.cells #[iV 1,iV 3,iV 0,iV x3,iV y3,.slice bD z3.length bE,.slice none 0 0,.slice none 0 0] 92 (0,0))) (ds:=[]) (jb 14 0) (by kernel_rfl) rfl rfl (HX.out.bx _ m1).1 (fun hHeld=>?_);refine aaZ anf alr (fun HT_ HW_=>?_)
 clear iU iW iX iY iZ ja je jf nA nC nD nE nG nH nI nJ
 refine jp 0 24 (jb 14 1) ?_
 refine jp 2 26 (jb 14 5) ?_
 refine jp 7 31 (jb 14 133) ?_
 refine take_ (i:=8) (N:=some 32) (v:=?_) (a':=?_) (jb 14 389) rfl rfl (ajf HT_.out HW_.out (by kernel_rfl)) (fun _ _ _ h=>h) (Or.inl ⟨by rfl,?_⟩) hHeld ?_ ?_
 rotate_left
 ·rintro w' hs
  obtain⟨iU,iW,iX,iY,iZ,ja,je,jf,_⟩:=aqH hs
  go_simp
  with_reducible rfl
 rotate_left
 ·simp only [Act.put,List.setIfInBounds_toArray,List.set_cons_zero,List.set_cons_succ,aau,aaD]
  rfl
 refine acp (σ:=Option Addr × Nat × Option Addr × Nat × Option Addr × Nat × Option Addr × Nat × Option Addr × Nat × Nat) 1 (jb 14 8191) (fun s_=>[(25,eV x4 y4 s_.1 z4 s_.2.1),(27,iV n2),(28,iV (wrap64 (1+n2))),(29,eV x5 y5 s_.2.2.1 z5 s_.2.2.2.1),(30,eV x6 y6 s_.2.2.2.2.1 z6 s_.2.2.2.2.2.1),(33,.slice s_.2.2.2.2.2.2.1 ys.length s_.2.2.2.2.2.2.2.1),(34,.slice s_.2.2.2.2.2.2.2.2.1 yt.length s_.2.2.2.2.2.2.2.2.2.1),(35,.agg #[iV 3,iV 0,iV 0,iV x6,iV y6,.slice s_.2.2.2.2.1 z6.length s_.2.2.2.2.2.1,.slice s_.2.2.2.2.2.2.2.2.1 yt.length s_.2.2.2.2.2.2.2.2.2.1,.slice none 0 0]),(10,.pointer (some ⟨s_.2.2.2.2.2.2.2.2.2.2,0,none⟩))]) (fun s_ w_=>LX w0 w g af (.slice s_.2.2.2.2.2.2.2.2.1 yt.length s_.2.2.2.2.2.2.2.2.2.1) yt ((s_.2.2.2.2.2.2.2.2.2.2,Z8) :: B1) ((.slice s_.2.2.2.2.1 z6.length s_.2.2.2.2.2.1,z6) :: (.slice s_.2.2.1 z5.length s_.2.2.2.1,z5) :: (.slice s_.1 z4.length s_.2.1,z4) :: L1) [] p3 w_) ?_ (fun gQ=>?_)
 ·rintro⟨ay,az,aK,aN,bv,bz,aH,aI,fB,fC,x⟩ w5 h5
  try dsimp only at h5
  refine aav (a':=?_) ?_ ?_
  rotate_left
  ·simp only [abf,Act.put,List.setIfInBounds_toArray,List.set_cons_zero,List.set_cons_succ,eV]
   rfl
  refine ad6 (i:=13) (N:=none) (jb 14 16383) rfl rfl (aaT HT_.out (by kernel_rfl)) (by decide) (fun K hK=>?_)
  obtain⟨iU,iW,iX,iY,iZ,ja,je,jf,nA,nC,nD,nE,nG,nH,nI,nJ⟩:=aqH (h5.bx _ (List.mem_cons_self ..)).1
  refine ahf (w1:=?_) (by rfl) rfl ?_ ?_
  rotate_left
  ·go_simp
   rfl
  have h6:=(show LX w0 w g af (.slice fB yt.length fC) yt ((x,#[iV 3,iV 0,iV 0,iV x6,iV y6,.slice bv z6.length bz,.slice fB yt.length fC,.slice none 0 0]) :: B1) ((.slice bv z6.length bz,z6) :: (.slice aK z5.length aN,z5) :: (.slice ay z4.length az,z4) :: L1) [] p3 _ from LX.put8 (iV 3) (iV 0) (iV 0) (iV x6) (iV y6) (.slice bv z6.length bz) (.slice fB yt.length fC) (.slice none 0 0) h5)
  refine hK.out _ _ (h6.bx _ (.tail _ m1)).1 (fun _=>?_)
  clear hK K
  refine acG (abr HT_.out (by kernel_rfl)) ?_
  try go_wp2
  have h7:=h6.drew
  refine abF (n:=6) (S:=fun W=>W.heap[x]?=some (.cells #[iV 3,iV 0,iV 0,iV x6,iV y6,.slice bv z6.length bz,.slice fB yt.length fC,.slice none 0 0] 92 (0,0))) (ds:=[]) (jb 6 0) (by kernel_rfl) rfl rfl (h7.bx _ (List.mem_cons_self ..)).1 (fun hHeld=>?_)
  clear iU iW iX iY iZ ja je jf nA nC nD nE nG nH nI nJ h5 h6
  refine aiC (i:=0) (N:=some 36) (v:=?_) (a':=?_) (jb 6 1) rfl rfl (by kernel_rfl) (fun _ _ _ h=>h) (Or.inl ⟨by rfl,?_⟩) ?_ ?_
  rotate_left
  ·intro w'
   go_simp
   with_reducible rfl
  rotate_left
  ·simp only [Act.put,List.setIfInBounds_toArray,List.set_cons_zero,List.set_cons_succ,aau,aaD]
   rfl
  refine take_ (i:=3) (N:=some 39) (v:=?_) (a':=?_) (jb 6 9) rfl rfl (by kernel_rfl) (fun _ _ _ h=>h) (Or.inl ⟨by rfl,?_⟩) hHeld ?_ ?_
  rotate_left
  ·rintro w' hs
   obtain⟨iU,iW,iX,iY,iZ,ja,je,jf,_⟩:=aqH hs
   go_simp
   with_reducible rfl
  rotate_left
  ·simp only [Act.put,List.setIfInBounds_toArray,List.set_cons_zero,List.set_cons_succ,aau,aaD]
   rfl
  refine ad6 (i:=1) (N:=some 37) (jb 6 11) rfl rfl (by kernel_rfl) (by decide) (fun K hK=>?_)
  refine abn func110 (by kernel_rfl) rfl #[iV 0,iV 0] (by rfl) rfl rfl qM (aco h7 iO.out (fun pW pX w6 h8=>?_))
  refine hK.out _ _ (h8.bx _ (List.mem_cons_self ..)).1 (fun _=>?_)
  clear hK K
  refine aav (a':=?_) ?_ ?_
  rotate_left
  ·show Act.put _ (some 37) _=_
   simp only [Act.put,List.setIfInBounds_toArray,List.set_cons_zero,List.set_cons_succ,aau,aaD]
   rfl
  refine aiC (i:=2) (N:=some 38) (v:=?_) (a':=?_) (jb 6 15) rfl rfl (by kernel_rfl) (fun _ _ _ h=>h) (Or.inl ⟨by rfl,?_⟩) ?_ ?_
  rotate_left
  ·intro w'
   go_simp
   with_reducible rfl
  rotate_left
  ·simp only [Act.put,List.setIfInBounds_toArray,List.set_cons_zero,List.set_cons_succ,aau,aaD]
   rfl
  refine ad6 (i:=4) (N:=some 40) (jb 6 31) rfl rfl (by kernel_rfl) (by decide) (fun K hK=>?_)
  refine LX.lit2 h8 (by rfl) rfl (inner:=[iV 1,iV 3,iV 0,iV x7,iV y7,.slice pW z7.length pX,.slice none 0 0,.slice none 0 0,iV 3,iV 0,iV 0,iV x6,iV y6,.slice bv z6.length bz,.slice fB yt.length fC,.slice none 0 0]) (xs:=[(⟨1,3,0,(⟨x7,y7,z7⟩:S90),[],[]⟩:S92),(⟨3,0,0,(⟨x6,y6,z6⟩:S90),yt,[]⟩:S92)]) qR9 (aqG h8 (by simp) (by simp)) (by simp) (fun v9 w7 hn h9=>?_)
  refine hK.out _ _ (h9.bx _ (List.mem_cons_self ..)).1 (fun _=>?_)
  clear hK K
  refine aav (a':=?_) ?_ ?_
  rotate_left
  ·show Act.put _ (some 40) _=_
   simp only [Act.put,List.setIfInBounds_toArray,List.set_cons_zero,List.set_cons_succ,aau,aaD]
   rfl
  refine aiC (i:=5) (N:=some 6) (v:=?_) (a':=?_) (jb 6 63) rfl rfl (by kernel_rfl) (fun _ _ _ h=>h) (Or.inl ⟨by rfl,?_⟩) ?_ ?_
  rotate_left
  ·intro w'
   go_simp
   with_reducible rfl
  rotate_left
  ·simp only [Act.put,List.setIfInBounds_toArray,List.set_cons_zero,List.set_cons_succ,aau,aaD]
   rfl
  refine acG (by kernel_rfl) ?_
  try go_wp2
  go_ret
  exact⟨_,rfl,N_mono hn (fun _ hk=>hk.1),h9.rd,h9.bl,h9.kp⟩
 refine acp (σ:=Option Addr × Nat × Option Addr × Nat × Option Addr × Nat × Option Addr × Nat × Option Addr × Nat) 2 (jb 14 4095) (fun s_=>[(25,eV x4 y4 s_.1 z4 s_.2.1),(27,iV n2),(28,iV (wrap64 (1+n2))),(29,eV x5 y5 s_.2.2.1 z5 s_.2.2.2.1),(30,eV x6 y6 s_.2.2.2.2.1 z6 s_.2.2.2.2.2.1),(33,.slice s_.2.2.2.2.2.2.1 ys.length s_.2.2.2.2.2.2.2.1),(34,.slice s_.2.2.2.2.2.2.2.2.1 yt.length s_.2.2.2.2.2.2.2.2.2),(35,.agg #[iV 3,iV 0,iV 0,iV x6,iV y6,.slice s_.2.2.2.2.1 z6.length s_.2.2.2.2.2.1,.slice s_.2.2.2.2.2.2.2.2.1 yt.length s_.2.2.2.2.2.2.2.2.2,.slice none 0 0])]) (fun s_ w_=>LX w0 w g af (.slice s_.2.2.2.2.2.2.2.2.1 yt.length s_.2.2.2.2.2.2.2.2.2) yt B1 ((.slice s_.2.2.2.2.1 z6.length s_.2.2.2.2.2.1,z6) :: (.slice s_.2.2.1 z5.length s_.2.2.2.1,z5) :: (.slice s_.1 z4.length s_.2.1,z4) :: L1) [] p3 w_) ?_ (fun jg=>?_)
 ·rintro⟨ay,az,aK,aN,bv,bz,aH,aI,fB,fC⟩ w5 h5
  try dsimp only at h5
  refine aav (a':=?_) ?_ ?_
  rotate_left
  ·simp only [abf,Act.put,List.setIfInBounds_toArray,List.set_cons_zero,List.set_cons_succ,eV]
   rfl
  refine ad6 (i:=12) (N:=some 10) (jb 14 8191) rfl rfl (aaT HT_.out (by kernel_rfl)) (by decide) (fun K hK=>?_)
  ·exact abx h5 (by rfl) rfl (cs:=Z8) akH (fun x w5 hx=>hK.out _ _ (hx.bx _ (.tail _ m1)).1 (fun _=>aav nrm (gQ (ay,az,aK,aN,bv,bz,aH,aI,fB,fC,x) _ hx)))
 refine acp (σ:=Option Addr × Nat × Option Addr × Nat × Option Addr × Nat × Option Addr × Nat × Nat) 3 (jb 14 5119) (fun s_=>[(25,eV x4 y4 s_.1 z4 s_.2.1),(27,iV n2),(28,iV (wrap64 (1+n2))),(29,eV x5 y5 s_.2.2.1 z5 s_.2.2.2.1),(30,eV x6 y6 s_.2.2.2.2.1 z6 s_.2.2.2.2.2.1),(33,.slice s_.2.2.2.2.2.2.1 ys.length s_.2.2.2.2.2.2.2.1),(10,.pointer (some ⟨s_.2.2.2.2.2.2.2.2,0,none⟩))]) (fun s_ w_=>LX w0 w g af (.slice bB tb.length bC) tb ((s_.2.2.2.2.2.2.2.2,Z8) :: B1) ((.slice s_.2.2.2.2.1 z6.length s_.2.2.2.2.2.1,z6) :: (.slice s_.2.2.1 z5.length s_.2.2.2.1,z5) :: (.slice s_.1 z4.length s_.2.1,z4) :: L1) [(.slice s_.2.2.2.2.2.2.1 ys.length s_.2.2.2.2.2.2.2.1,ys)] p3 w_) ?_ (fun fD=>?_)
 ·rintro⟨ay,az,aK,aN,bv,bz,aH,aI,x⟩ w5 h5
  try dsimp only at h5
  refine aav (a':=?_) ?_ ?_
  rotate_left
  ·simp only [abf,Act.put,List.setIfInBounds_toArray,List.set_cons_zero,List.set_cons_succ,eV]
   rfl
  refine ad6 (i:=10) (N:=some 34) (jb 14 6143) rfl rfl (aaT HT_.out (by kernel_rfl)) (by decide) (fun K hK=>?_)
  ·refine LX.app h5 (by rfl) rfl (.tmp 31) (.tmp 33) rfl Hyt.out rfl rfl (by simp) c13 (fun fB fC w5 hx=>?_)
   refine hK.out _ _ (hx.bx _ (.tail _ m1)).1 (fun _=>?_)
   clear hK K
   refine aav (a':=?_) ?_ ?_
   rotate_left
   ·show Act.put _ (some 34) _=_
    simp only [Act.put,List.setIfInBounds_toArray,List.set_cons_zero,List.set_cons_succ,aau,aaD]
    rfl
   refine jp 11 35 (jb 14 8191) ?_
   exact aav nrm (gQ (ay,az,aK,aN,bv,bz,aH,aI,fB,fC,x) _ hx)
 refine acp (σ:=Option Addr × Nat × Option Addr × Nat × Option Addr × Nat × Nat) 4 (jb 14 5055) (fun s_=>[(25,eV x4 y4 s_.1 z4 s_.2.1),(27,iV n2),(28,iV (wrap64 (1+n2))),(29,eV x5 y5 s_.2.2.1 z5 s_.2.2.2.1),(33,.slice s_.2.2.2.2.1 ys.length s_.2.2.2.2.2.1),(10,.pointer (some ⟨s_.2.2.2.2.2.2,0,none⟩))]) (fun s_ w_=>LX w0 w g af (.slice bB tb.length bC) tb ((s_.2.2.2.2.2.2,Z8) :: B1) ((.slice s_.2.2.1 z5.length s_.2.2.2.1,z5) :: (.slice s_.1 z4.length s_.2.1,z4) :: L1) [(.slice s_.2.2.2.2.1 ys.length s_.2.2.2.2.2.1,ys)] p3 w_) ?_ (fun fE=>?_)
 ·rintro⟨ay,az,aK,aN,aH,aI,x⟩ w5 h5
  try dsimp only at h5
  refine aav (a':=?_) ?_ ?_
  rotate_left
  ·simp only [abf,Act.put,List.setIfInBounds_toArray,List.set_cons_zero,List.set_cons_succ,eV]
   rfl
  refine ad6 (i:=6) (N:=some 30) (jb 14 5119) rfl rfl (aaT HT_.out (by kernel_rfl)) (by decide) (fun K hK=>?_)
  ·exact abn func109 (by kernel_rfl) rfl #[iV 5,eV x4 y4 ay z4 az,eV x5 y5 aK z5 aN] (by rfl) rfl rfl qM (agl h5 (by simp) (by simp) A9.out (fun bv bz w5 hx=>hK.out _ _ (hx.bx _ (.tail _ m1)).1 (fun _=>aav nrm (fD (ay,az,aK,aN,bv,bz,aH,aI,x) _ hx))))
 refine acp (σ:=Option Addr × Nat × Option Addr × Nat × Option Addr × Nat × Nat) 4 (jb 14 4607) (fun s_=>[(25,eV x4 y4 s_.1 z4 s_.2.1),(27,iV n2),(28,iV (wrap64 (1+n2))),(29,eV x5 y5 s_.2.2.1 z5 s_.2.2.2.1),(30,eV x6 y6 s_.2.2.2.2.1 z6 s_.2.2.2.2.2.1),(10,.pointer (some ⟨s_.2.2.2.2.2.2,0,none⟩))]) (fun s_ w_=>LX w0 w g af (.slice bB tb.length bC) tb ((s_.2.2.2.2.2.2,Z8) :: B1) ((.slice s_.2.2.2.2.1 z6.length s_.2.2.2.2.2.1,z6) :: (.slice s_.2.2.1 z5.length s_.2.2.2.1,z5) :: (.slice s_.1 z4.length s_.2.1,z4) :: L1) [] p3 w_) ?_ (fun gT=>?_)
 ·rintro⟨ay,az,aK,aN,bv,bz,x⟩ w5 h5
  try dsimp only at h5
  refine aav (a':=?_) ?_ ?_
  rotate_left
  ·simp only [abf,Act.put,List.setIfInBounds_toArray,List.set_cons_zero,List.set_cons_succ,eV]
   rfl
  refine ad6 (i:=9) (N:=some 33) (jb 14 5119) rfl rfl (aaT HT_.out (by kernel_rfl)) (by decide) (fun K hK=>?_)
  ·exact adM h5 (by rfl) rfl (inner:=[iV 1,iV 3,iV 0,iV x3,iV y3,.slice bD z3.length bE,.slice none 0 0,.slice none 0 0]) (xs:=[(⟨1,3,0,(⟨x3,y3,z3⟩:S90),[],[]⟩:S92)]) Hy.out qR9 (LX.one h5 (by simp [m3])) (by simp) (fun aH aI w5 hx=>hK.out _ _ (hx.bx _ (.tail _ m1)).1 (fun _=>aav nrm (fD (ay,az,aK,aN,bv,bz,aH,aI,x) _ hx)))
 refine acp (σ:=Option Addr × Nat × Option Addr × Nat × Option Addr × Nat × Option Addr × Nat) 4 (jb 14 1023) (fun s_=>[(25,eV x4 y4 s_.1 z4 s_.2.1),(27,iV n2),(28,iV (wrap64 (1+n2))),(29,eV x5 y5 s_.2.2.1 z5 s_.2.2.2.1),(30,eV x6 y6 s_.2.2.2.2.1 z6 s_.2.2.2.2.2.1),(33,.slice s_.2.2.2.2.2.2.1 ys.length s_.2.2.2.2.2.2.2)]) (fun s_ w_=>LX w0 w g af (.slice bB tb.length bC) tb B1 ((.slice s_.2.2.2.2.1 z6.length s_.2.2.2.2.2.1,z6) :: (.slice s_.2.2.1 z5.length s_.2.2.2.1,z5) :: (.slice s_.1 z4.length s_.2.1,z4) :: L1) [(.slice s_.2.2.2.2.2.2.1 ys.length s_.2.2.2.2.2.2.2,ys)] p3 w_) ?_ (fun gU=>?_)
 ·rintro⟨ay,az,aK,aN,bv,bz,aH,aI⟩ w5 h5
  try dsimp only at h5
  refine aav (a':=?_) ?_ ?_
  rotate_left
  ·simp only [abf,Act.put,List.setIfInBounds_toArray,List.set_cons_zero,List.set_cons_succ,eV]
   rfl
  refine akv (i:=10) (j:=12) (Ni:=some 34) (Nj:=some 10) (jb 14 2047) (jb 14 5119) rfl rfl rfl rfl (ad7 HT_.out (by kernel_rfl)) (by decide) (by decide) (fun K hK=>?_) (fun K hK=>?_)
  ·refine LX.app h5 (by rfl) rfl (.tmp 31) (.tmp 33) rfl Hyt.out rfl rfl (by simp) c13 (fun fB fC w5 hx=>?_)
   refine hK.out _ _ (hx.bx _ m1).1 (fun _=>?_)
   clear hK K
   refine aav (a':=?_) ?_ ?_
   rotate_left
   ·show Act.put _ (some 34) _=_
    simp only [Act.put,List.setIfInBounds_toArray,List.set_cons_zero,List.set_cons_succ,aau,aaD]
    rfl
   refine jp 11 35 (jb 14 4095) ?_
   exact aav nrm (jg (ay,az,aK,aN,bv,bz,aH,aI,fB,fC) _ hx)
  exact abx h5 (by rfl) rfl (cs:=Z8) akH (fun x w5 hx=>hK.out _ _ (hx.bx _ (.tail _ m1)).1 (fun _=>aav nrm (fD (ay,az,aK,aN,bv,bz,aH,aI,x) _ hx)))
 refine acp (σ:=Option Addr × Nat × Option Addr × Nat × Nat) 5 (jb 14 5023) (fun s_=>[(25,eV x4 y4 s_.1 z4 s_.2.1),(27,iV n2),(28,iV (wrap64 (1+n2))),(33,.slice s_.2.2.1 ys.length s_.2.2.2.1),(10,.pointer (some ⟨s_.2.2.2.2,0,none⟩))]) (fun s_ w_=>LX w0 w g af (.slice bB tb.length bC) tb ((s_.2.2.2.2,Z8) :: B1) ((.slice s_.1 z4.length s_.2.1,z4) :: L1) [(.slice s_.2.2.1 ys.length s_.2.2.2.1,ys)] p3 w_) ?_ (fun fF=>?_)
 ·rintro⟨ay,az,aH,aI,x⟩ w5 h5
  try dsimp only at h5
  refine aav (a':=?_) ?_ ?_
  rotate_left
  ·simp only [abf,Act.put,List.setIfInBounds_toArray,List.set_cons_zero,List.set_cons_succ,eV]
   rfl
  refine ad6 (i:=5) (N:=some 29) (jb 14 5055) rfl rfl (aaT HT_.out (by kernel_rfl)) (by decide) (fun K hK=>?_)
  ·exact abn func110 (by kernel_rfl) rfl #[iV 0,iV (wrap64 (1+n2))] (by rfl) rfl rfl qM (aco h5 A8.out (fun aK aN w5 hx=>hK.out _ _ (hx.bx _ (.tail _ m1)).1 (fun _=>aav nrm (fE (ay,az,aK,aN,aH,aI,x) _ hx))))
 refine acp (σ:=Option Addr × Nat × Option Addr × Nat × Nat) 5 (jb 14 4543) (fun s_=>[(25,eV x4 y4 s_.1 z4 s_.2.1),(27,iV n2),(28,iV (wrap64 (1+n2))),(29,eV x5 y5 s_.2.2.1 z5 s_.2.2.2.1),(10,.pointer (some ⟨s_.2.2.2.2,0,none⟩))]) (fun s_ w_=>LX w0 w g af (.slice bB tb.length bC) tb ((s_.2.2.2.2,Z8) :: B1) ((.slice s_.2.2.1 z5.length s_.2.2.2.1,z5) :: (.slice s_.1 z4.length s_.2.1,z4) :: L1) [] p3 w_) ?_ (fun gV=>?_)
 ·rintro⟨ay,az,aK,aN,x⟩ w5 h5
  try dsimp only at h5
  refine aav (a':=?_) ?_ ?_
  rotate_left
  ·simp only [abf,Act.put,List.setIfInBounds_toArray,List.set_cons_zero,List.set_cons_succ,eV]
   rfl
  refine akv (i:=6) (j:=9) (Ni:=some 30) (Nj:=some 33) (jb 14 4607) (jb 14 5055) rfl rfl rfl rfl (ad7 HT_.out (by kernel_rfl)) (by decide) (by decide) (fun K hK=>?_) (fun K hK=>?_)
  ·exact abn func109 (by kernel_rfl) rfl #[iV 5,eV x4 y4 ay z4 az,eV x5 y5 aK z5 aN] (by rfl) rfl rfl qM (agl h5 (by simp) (by simp) A9.out (fun bv bz w5 hx=>hK.out _ _ (hx.bx _ (.tail _ m1)).1 (fun _=>aav nrm (gT (ay,az,aK,aN,bv,bz,x) _ hx))))
  exact adM h5 (by rfl) rfl (inner:=[iV 1,iV 3,iV 0,iV x3,iV y3,.slice bD z3.length bE,.slice none 0 0,.slice none 0 0]) (xs:=[(⟨1,3,0,(⟨x3,y3,z3⟩:S90),[],[]⟩:S92)]) Hy.out qR9 (LX.one h5 (by simp [m3])) (by simp) (fun aH aI w5 hx=>hK.out _ _ (hx.bx _ (.tail _ m1)).1 (fun _=>aav nrm (fE (ay,az,aK,aN,aH,aI,x) _ hx)))
 refine acp (σ:=Option Addr × Nat × Option Addr × Nat × Option Addr × Nat) 5 (jb 14 959) (fun s_=>[(25,eV x4 y4 s_.1 z4 s_.2.1),(27,iV n2),(28,iV (wrap64 (1+n2))),(29,eV x5 y5 s_.2.2.1 z5 s_.2.2.2.1),(33,.slice s_.2.2.2.2.1 ys.length s_.2.2.2.2.2)]) (fun s_ w_=>LX w0 w g af (.slice bB tb.length bC) tb B1 ((.slice s_.2.2.1 z5.length s_.2.2.2.1,z5) :: (.slice s_.1 z4.length s_.2.1,z4) :: L1) [(.slice s_.2.2.2.2.1 ys.length s_.2.2.2.2.2,ys)] p3 w_) ?_ (fun gW=>?_)
 ·rintro⟨ay,az,aK,aN,aH,aI⟩ w5 h5
  try dsimp only at h5
  refine aav (a':=?_) ?_ ?_
  rotate_left
  ·simp only [abf,Act.put,List.setIfInBounds_toArray,List.set_cons_zero,List.set_cons_succ,eV]
   rfl
  refine akv (i:=6) (j:=12) (Ni:=some 30) (Nj:=some 10) (jb 14 1023) (jb 14 5055) rfl rfl rfl rfl (ad7 HT_.out (by kernel_rfl)) (by decide) (by decide) (fun K hK=>?_) (fun K hK=>?_)
  ·exact abn func109 (by kernel_rfl) rfl #[iV 5,eV x4 y4 ay z4 az,eV x5 y5 aK z5 aN] (by rfl) rfl rfl qM (agl h5 (by simp) (by simp) A9.out (fun bv bz w5 hx=>hK.out _ _ (hx.bx _ m1).1 (fun _=>aav nrm (gU (ay,az,aK,aN,bv,bz,aH,aI) _ hx))))
  exact abx h5 (by rfl) rfl (cs:=Z8) akH (fun x w5 hx=>hK.out _ _ (hx.bx _ (.tail _ m1)).1 (fun _=>aav nrm (fE (ay,az,aK,aN,aH,aI,x) _ hx)))
 refine acp (σ:=Option Addr × Nat × Option Addr × Nat × Option Addr × Nat) 5 (jb 14 511) (fun s_=>[(25,eV x4 y4 s_.1 z4 s_.2.1),(27,iV n2),(28,iV (wrap64 (1+n2))),(29,eV x5 y5 s_.2.2.1 z5 s_.2.2.2.1),(30,eV x6 y6 s_.2.2.2.2.1 z6 s_.2.2.2.2.2)]) (fun s_ w_=>LX w0 w g af (.slice bB tb.length bC) tb B1 ((.slice s_.2.2.2.2.1 z6.length s_.2.2.2.2.2,z6) :: (.slice s_.2.2.1 z5.length s_.2.2.2.1,z5) :: (.slice s_.1 z4.length s_.2.1,z4) :: L1) [] p3 w_) ?_ (fun jh=>?_)
 ·rintro⟨ay,az,aK,aN,bv,bz⟩ w5 h5
  try dsimp only at h5
  refine aav (a':=?_) ?_ ?_
  rotate_left
  ·simp only [abf,Act.put,List.setIfInBounds_toArray,List.set_cons_zero,List.set_cons_succ,eV]
   rfl
  refine akv (i:=9) (j:=12) (Ni:=some 33) (Nj:=some 10) (jb 14 1023) (jb 14 4607) rfl rfl rfl rfl (ad7 HT_.out (by kernel_rfl)) (by decide) (by decide) (fun K hK=>?_) (fun K hK=>?_)
  ·exact adM h5 (by rfl) rfl (inner:=[iV 1,iV 3,iV 0,iV x3,iV y3,.slice bD z3.length bE,.slice none 0 0,.slice none 0 0]) (xs:=[(⟨1,3,0,(⟨x3,y3,z3⟩:S90),[],[]⟩:S92)]) Hy.out qR9 (LX.one h5 (by simp [m3])) (by simp) (fun aH aI w5 hx=>hK.out _ _ (hx.bx _ m1).1 (fun _=>aav nrm (gU (ay,az,aK,aN,bv,bz,aH,aI) _ hx)))
  exact abx h5 (by rfl) rfl (cs:=Z8) akH (fun x w5 hx=>hK.out _ _ (hx.bx _ (.tail _ m1)).1 (fun _=>aav nrm (gT (ay,az,aK,aN,bv,bz,x) _ hx)))
 refine acp (σ:=Option Addr × Nat × Nat) 6 (jb 14 4511) (fun s_=>[(25,eV x4 y4 s_.1 z4 s_.2.1),(27,iV n2),(28,iV (wrap64 (1+n2))),(10,.pointer (some ⟨s_.2.2,0,none⟩))]) (fun s_ w_=>LX w0 w g af (.slice bB tb.length bC) tb ((s_.2.2,Z8) :: B1) ((.slice s_.1 z4.length s_.2.1,z4) :: L1) [] p3 w_) ?_ (fun gX=>?_)
 ·rintro⟨ay,az,x⟩ w5 h5
  try dsimp only at h5
  refine aav (a':=?_) ?_ ?_
  rotate_left
  ·simp only [abf,Act.put,List.setIfInBounds_toArray,List.set_cons_zero,List.set_cons_succ,eV]
   rfl
  refine akv (i:=5) (j:=9) (Ni:=some 29) (Nj:=some 33) (jb 14 4543) (jb 14 5023) rfl rfl rfl rfl (ad7 HT_.out (by kernel_rfl)) (by decide) (by decide) (fun K hK=>?_) (fun K hK=>?_)
  ·exact abn func110 (by kernel_rfl) rfl #[iV 0,iV (wrap64 (1+n2))] (by rfl) rfl rfl qM (aco h5 A8.out (fun aK aN w5 hx=>hK.out _ _ (hx.bx _ (.tail _ m1)).1 (fun _=>aav nrm (gV (ay,az,aK,aN,x) _ hx))))
  exact adM h5 (by rfl) rfl (inner:=[iV 1,iV 3,iV 0,iV x3,iV y3,.slice bD z3.length bE,.slice none 0 0,.slice none 0 0]) (xs:=[(⟨1,3,0,(⟨x3,y3,z3⟩:S90),[],[]⟩:S92)]) Hy.out qR9 (LX.one h5 (by simp [m3])) (by simp) (fun aH aI w5 hx=>hK.out _ _ (hx.bx _ (.tail _ m1)).1 (fun _=>aav nrm (fF (ay,az,aH,aI,x) _ hx)))
 refine acp (σ:=Option Addr × Nat × Option Addr × Nat) 6 (jb 14 927) (fun s_=>[(25,eV x4 y4 s_.1 z4 s_.2.1),(27,iV n2),(28,iV (wrap64 (1+n2))),(33,.slice s_.2.2.1 ys.length s_.2.2.2)]) (fun s_ w_=>LX w0 w g af (.slice bB tb.length bC) tb B1 ((.slice s_.1 z4.length s_.2.1,z4) :: L1) [(.slice s_.2.2.1 ys.length s_.2.2.2,ys)] p3 w_) ?_ (fun gY=>?_)
 ·rintro⟨ay,az,aH,aI⟩ w5 h5
  try dsimp only at h5
  refine aav (a':=?_) ?_ ?_
  rotate_left
  ·simp only [abf,Act.put,List.setIfInBounds_toArray,List.set_cons_zero,List.set_cons_succ,eV]
   rfl
  refine akv (i:=5) (j:=12) (Ni:=some 29) (Nj:=some 10) (jb 14 959) (jb 14 5023) rfl rfl rfl rfl (ad7 HT_.out (by kernel_rfl)) (by decide) (by decide) (fun K hK=>?_) (fun K hK=>?_)
  ·exact abn func110 (by kernel_rfl) rfl #[iV 0,iV (wrap64 (1+n2))] (by rfl) rfl rfl qM (aco h5 A8.out (fun aK aN w5 hx=>hK.out _ _ (hx.bx _ m1).1 (fun _=>aav nrm (gW (ay,az,aK,aN,aH,aI) _ hx))))
  exact abx h5 (by rfl) rfl (cs:=Z8) akH (fun x w5 hx=>hK.out _ _ (hx.bx _ (.tail _ m1)).1 (fun _=>aav nrm (fF (ay,az,aH,aI,x) _ hx)))
 refine acp (σ:=Option Addr × Nat × Option Addr × Nat) 6 (jb 14 447) (fun s_=>[(25,eV x4 y4 s_.1 z4 s_.2.1),(27,iV n2),(28,iV (wrap64 (1+n2))),(29,eV x5 y5 s_.2.2.1 z5 s_.2.2.2)]) (fun s_ w_=>LX w0 w g af (.slice bB tb.length bC) tb B1 ((.slice s_.2.2.1 z5.length s_.2.2.2,z5) :: (.slice s_.1 z4.length s_.2.1,z4) :: L1) [] p3 w_) ?_ (fun ji=>?_)
 ·rintro⟨ay,az,aK,aN⟩ w5 h5
  try dsimp only at h5
  refine aav (a':=?_) ?_ ?_
  rotate_left
  ·simp only [abf,Act.put,List.setIfInBounds_toArray,List.set_cons_zero,List.set_cons_succ,eV]
   rfl
  refine aje (i:=6) (j:=9) (k:=12) (Ni:=some 30) (Nj:=some 33) (Nk:=some 10) (jb 14 511) (jb 14 959) (jb 14 4543) rfl rfl rfl rfl rfl rfl (afu HT_.out (by kernel_rfl)) (by decide) (by decide) (by decide) (fun K hK=>?_) (fun K hK=>?_) (fun K hK=>?_)
  ·exact abn func109 (by kernel_rfl) rfl #[iV 5,eV x4 y4 ay z4 az,eV x5 y5 aK z5 aN] (by rfl) rfl rfl qM (agl h5 (by simp) (by simp) A9.out (fun bv bz w5 hx=>hK.out _ _ (hx.bx _ m1).1 (fun _=>aav nrm (jh (ay,az,aK,aN,bv,bz) _ hx))))
  ·exact adM h5 (by rfl) rfl (inner:=[iV 1,iV 3,iV 0,iV x3,iV y3,.slice bD z3.length bE,.slice none 0 0,.slice none 0 0]) (xs:=[(⟨1,3,0,(⟨x3,y3,z3⟩:S90),[],[]⟩:S92)]) Hy.out qR9 (LX.one h5 (by simp [m3])) (by simp) (fun aH aI w5 hx=>hK.out _ _ (hx.bx _ m1).1 (fun _=>aav nrm (gW (ay,az,aK,aN,aH,aI) _ hx)))
  exact abx h5 (by rfl) rfl (cs:=Z8) akH (fun x w5 hx=>hK.out _ _ (hx.bx _ (.tail _ m1)).1 (fun _=>aav nrm (gV (ay,az,aK,aN,x) _ hx)))
 refine acp (σ:=Option Addr × Nat × Option Addr × Nat × Nat) 7 (jb 14 4999) (fun s_=>[(25,eV x4 y4 s_.1 z4 s_.2.1),(33,.slice s_.2.2.1 ys.length s_.2.2.2.1),(10,.pointer (some ⟨s_.2.2.2.2,0,none⟩))]) (fun s_ w_=>LX w0 w g af (.slice bB tb.length bC) tb ((s_.2.2.2.2,Z8) :: B1) ((.slice s_.1 z4.length s_.2.1,z4) :: L1) [(.slice s_.2.2.1 ys.length s_.2.2.2.1,ys)] p2 w_) ?_ (fun fG=>?_)
 ·rintro⟨ay,az,aH,aI,x⟩ w5 h5
  try dsimp only at h5
  refine aav (a':=?_) ?_ ?_
  rotate_left
  ·simp only [abf,Act.put,List.setIfInBounds_toArray,List.set_cons_zero,List.set_cons_succ,eV]
   rfl
  refine ad6 (i:=3) (N:=some 27) (jb 14 5007) rfl rfl (aaT HT_.out (by kernel_rfl)) (by decide) (fun K hK=>?_)
  ·refine abn func52 (by kernel_rfl) rfl #[.pointer (some ⟨g,0,none⟩),iV 3] (by rfl) rfl rfl qM (LX.pick h5 A7.out (fun w5 hx=>?_))
   refine hK.out _ _ (hx.bx _ (.tail _ m1)).1 (fun _=>?_)
   clear hK K
   refine aav (a':=?_) ?_ ?_
   rotate_left
   ·show Act.put _ (some 27) _=_
    simp only [Act.put,List.setIfInBounds_toArray,List.set_cons_zero,List.set_cons_succ,aau,aaD]
    rfl
   refine jp 4 28 (jb 14 5023) ?_
   exact aav nrm (fF (ay,az,aH,aI,x) _ hx)
 refine acp (σ:=Option Addr × Nat) 7 (jb 14 415) (fun s_=>[(25,eV x4 y4 s_.1 z4 s_.2),(27,iV n2),(28,iV (wrap64 (1+n2)))]) (fun s_ w_=>LX w0 w g af (.slice bB tb.length bC) tb B1 ((.slice s_.1 z4.length s_.2,z4) :: L1) [] p3 w_) ?_ (fun jk=>?_)
 ·rintro⟨ay,az⟩ w5 h5
  try dsimp only at h5
  refine aav (a':=?_) ?_ ?_
  rotate_left
  ·simp only [abf,Act.put,List.setIfInBounds_toArray,List.set_cons_zero,List.set_cons_succ,eV]
   rfl
  refine aje (i:=5) (j:=9) (k:=12) (Ni:=some 29) (Nj:=some 33) (Nk:=some 10) (jb 14 447) (jb 14 927) (jb 14 4511) rfl rfl rfl rfl rfl rfl (afu HT_.out (by kernel_rfl)) (by decide) (by decide) (by decide) (fun K hK=>?_) (fun K hK=>?_) (fun K hK=>?_)
  ·exact abn func110 (by kernel_rfl) rfl #[iV 0,iV (wrap64 (1+n2))] (by rfl) rfl rfl qM (aco h5 A8.out (fun aK aN w5 hx=>hK.out _ _ (hx.bx _ m1).1 (fun _=>aav nrm (ji (ay,az,aK,aN) _ hx))))
  ·exact adM h5 (by rfl) rfl (inner:=[iV 1,iV 3,iV 0,iV x3,iV y3,.slice bD z3.length bE,.slice none 0 0,.slice none 0 0]) (xs:=[(⟨1,3,0,(⟨x3,y3,z3⟩:S90),[],[]⟩:S92)]) Hy.out qR9 (LX.one h5 (by simp [m3])) (by simp) (fun aH aI w5 hx=>hK.out _ _ (hx.bx _ m1).1 (fun _=>aav nrm (gY (ay,az,aH,aI) _ hx)))
  exact abx h5 (by rfl) rfl (cs:=Z8) akH (fun x w5 hx=>hK.out _ _ (hx.bx _ (.tail _ m1)).1 (fun _=>aav nrm (gX (ay,az,x) _ hx)))
 refine acp (σ:=Option Addr × Nat × Nat) 8 (jb 14 4997) (fun s_=>[(33,.slice s_.1 ys.length s_.2.1),(10,.pointer (some ⟨s_.2.2,0,none⟩))]) (fun s_ w_=>LX w0 w g af (.slice bB tb.length bC) tb ((s_.2.2,Z8) :: B1) L1 [(.slice s_.1 ys.length s_.2.1,ys)] p2 w_) ?_ (fun gZ=>?_)
 ·rintro⟨aH,aI,x⟩ w5 h5
  try dsimp only at h5
  refine aav (a':=?_) ?_ ?_
  rotate_left
  ·simp only [abf,Act.put,List.setIfInBounds_toArray,List.set_cons_zero,List.set_cons_succ,eV]
   rfl
  refine ad6 (i:=1) (N:=some 25) (jb 14 4999) rfl rfl (aaT HT_.out (by kernel_rfl)) (by decide) (fun K hK=>?_)
  ·exact abn func110 (by kernel_rfl) rfl #[iV 13,iV 3] (by rfl) rfl rfl qM (aco h5 A6.out (fun ay az w5 hx=>hK.out _ _ (hx.bx _ (.tail _ m1)).1 (fun _=>aav nrm (fG (ay,az,aH,aI,x) _ hx))))
 refine acp (σ:=Option Addr × Nat × Nat) 8 (jb 14 4487) (fun s_=>[(25,eV x4 y4 s_.1 z4 s_.2.1),(10,.pointer (some ⟨s_.2.2,0,none⟩))]) (fun s_ w_=>LX w0 w g af (.slice bB tb.length bC) tb ((s_.2.2,Z8) :: B1) ((.slice s_.1 z4.length s_.2.1,z4) :: L1) [] p2 w_) ?_ (fun ib=>?_)
 ·rintro⟨ay,az,x⟩ w5 h5
  try dsimp only at h5
  refine aav (a':=?_) ?_ ?_
  rotate_left
  ·simp only [abf,Act.put,List.setIfInBounds_toArray,List.set_cons_zero,List.set_cons_succ,eV]
   rfl
  refine akv (i:=3) (j:=9) (Ni:=some 27) (Nj:=some 33) (jb 14 4495) (jb 14 4999) rfl rfl rfl rfl (ad7 HT_.out (by kernel_rfl)) (by decide) (by decide) (fun K hK=>?_) (fun K hK=>?_)
  ·refine abn func52 (by kernel_rfl) rfl #[.pointer (some ⟨g,0,none⟩),iV 3] (by rfl) rfl rfl qM (LX.pick h5 A7.out (fun w5 hx=>?_))
   refine hK.out _ _ (hx.bx _ (.tail _ m1)).1 (fun _=>?_)
   clear hK K
   refine aav (a':=?_) ?_ ?_
   rotate_left
   ·show Act.put _ (some 27) _=_
    simp only [Act.put,List.setIfInBounds_toArray,List.set_cons_zero,List.set_cons_succ,aau,aaD]
    rfl
   refine jp 4 28 (jb 14 4511) ?_
   exact aav nrm (gX (ay,az,x) _ hx)
  exact adM h5 (by rfl) rfl (inner:=[iV 1,iV 3,iV 0,iV x3,iV y3,.slice bD z3.length bE,.slice none 0 0,.slice none 0 0]) (xs:=[(⟨1,3,0,(⟨x3,y3,z3⟩:S90),[],[]⟩:S92)]) Hy.out qR9 (LX.one h5 (by simp [m3])) (by simp) (fun aH aI w5 hx=>hK.out _ _ (hx.bx _ (.tail _ m1)).1 (fun _=>aav nrm (fG (ay,az,aH,aI,x) _ hx)))
 refine acp (σ:=Option Addr × Nat × Option Addr × Nat) 8 (jb 14 903) (fun s_=>[(25,eV x4 y4 s_.1 z4 s_.2.1),(33,.slice s_.2.2.1 ys.length s_.2.2.2)]) (fun s_ w_=>LX w0 w g af (.slice bB tb.length bC) tb B1 ((.slice s_.1 z4.length s_.2.1,z4) :: L1) [(.slice s_.2.2.1 ys.length s_.2.2.2,ys)] p2 w_) ?_ (fun ic=>?_)
 ·rintro⟨ay,az,aH,aI⟩ w5 h5
  try dsimp only at h5
  refine aav (a':=?_) ?_ ?_
  rotate_left
  ·simp only [abf,Act.put,List.setIfInBounds_toArray,List.set_cons_zero,List.set_cons_succ,eV]
   rfl
  refine akv (i:=3) (j:=12) (Ni:=some 27) (Nj:=some 10) (jb 14 911) (jb 14 4999) rfl rfl rfl rfl (ad7 HT_.out (by kernel_rfl)) (by decide) (by decide) (fun K hK=>?_) (fun K hK=>?_)
  ·refine abn func52 (by kernel_rfl) rfl #[.pointer (some ⟨g,0,none⟩),iV 3] (by rfl) rfl rfl qM (LX.pick h5 A7.out (fun w5 hx=>?_))
   refine hK.out _ _ (hx.bx _ m1).1 (fun _=>?_)
   clear hK K
   refine aav (a':=?_) ?_ ?_
   rotate_left
   ·show Act.put _ (some 27) _=_
    simp only [Act.put,List.setIfInBounds_toArray,List.set_cons_zero,List.set_cons_succ,aau,aaD]
    rfl
   refine jp 4 28 (jb 14 927) ?_
   exact aav nrm (gY (ay,az,aH,aI) _ hx)
  exact abx h5 (by rfl) rfl (cs:=Z8) akH (fun x w5 hx=>hK.out _ _ (hx.bx _ (.tail _ m1)).1 (fun _=>aav nrm (fG (ay,az,aH,aI,x) _ hx)))
 refine acp (σ:=Nat) 9 (jb 14 4485) (fun s_=>[(10,.pointer (some ⟨s_,0,none⟩))]) (fun s_ w_=>LX w0 w g af (.slice bB tb.length bC) tb ((s_,Z8) :: B1) L1 [] p2 w_) ?_ (fun jl=>?_)
 ·rintro x w5 h5
  try dsimp only at h5
  refine aav (a':=?_) ?_ ?_
  rotate_left
  ·simp only [abf,Act.put,List.setIfInBounds_toArray,List.set_cons_zero,List.set_cons_succ,eV]
   rfl
  refine akv (i:=1) (j:=9) (Ni:=some 25) (Nj:=some 33) (jb 14 4487) (jb 14 4997) rfl rfl rfl rfl (ad7 HT_.out (by kernel_rfl)) (by decide) (by decide) (fun K hK=>?_) (fun K hK=>?_)
  ·exact abn func110 (by kernel_rfl) rfl #[iV 13,iV 3] (by rfl) rfl rfl qM (aco h5 A6.out (fun ay az w5 hx=>hK.out _ _ (hx.bx _ (.tail _ m1)).1 (fun _=>aav nrm (ib (ay,az,x) _ hx))))
  exact adM h5 (by rfl) rfl (inner:=[iV 1,iV 3,iV 0,iV x3,iV y3,.slice bD z3.length bE,.slice none 0 0,.slice none 0 0]) (xs:=[(⟨1,3,0,(⟨x3,y3,z3⟩:S90),[],[]⟩:S92)]) Hy.out qR9 (LX.one h5 (by simp [m3])) (by simp) (fun aH aI w5 hx=>hK.out _ _ (hx.bx _ (.tail _ m1)).1 (fun _=>aav nrm (gZ (aH,aI,x) _ hx)))
 refine acp (σ:=Option Addr × Nat) 9 (jb 14 901) (fun s_=>[(33,.slice s_.1 ys.length s_.2)]) (fun s_ w_=>LX w0 w g af (.slice bB tb.length bC) tb B1 L1 [(.slice s_.1 ys.length s_.2,ys)] p2 w_) ?_ (fun jm=>?_)
 ·rintro⟨aH,aI⟩ w5 h5
  try dsimp only at h5
  refine aav (a':=?_) ?_ ?_
  rotate_left
  ·simp only [abf,Act.put,List.setIfInBounds_toArray,List.set_cons_zero,List.set_cons_succ,eV]
   rfl
  refine akv (i:=1) (j:=12) (Ni:=some 25) (Nj:=some 10) (jb 14 903) (jb 14 4997) rfl rfl rfl rfl (ad7 HT_.out (by kernel_rfl)) (by decide) (by decide) (fun K hK=>?_) (fun K hK=>?_)
  ·exact abn func110 (by kernel_rfl) rfl #[iV 13,iV 3] (by rfl) rfl rfl qM (aco h5 A6.out (fun ay az w5 hx=>hK.out _ _ (hx.bx _ m1).1 (fun _=>aav nrm (ic (ay,az,aH,aI) _ hx))))
  exact abx h5 (by rfl) rfl (cs:=Z8) akH (fun x w5 hx=>hK.out _ _ (hx.bx _ (.tail _ m1)).1 (fun _=>aav nrm (gZ (aH,aI,x) _ hx)))
 refine acp (σ:=Option Addr × Nat) 9 (jb 14 391) (fun s_=>[(25,eV x4 y4 s_.1 z4 s_.2)]) (fun s_ w_=>LX w0 w g af (.slice bB tb.length bC) tb B1 ((.slice s_.1 z4.length s_.2,z4) :: L1) [] p2 w_) ?_ (fun jo=>?_)
 ·rintro⟨ay,az⟩ w5 h5
  try dsimp only at h5
  refine aav (a':=?_) ?_ ?_
  rotate_left
  ·simp only [abf,Act.put,List.setIfInBounds_toArray,List.set_cons_zero,List.set_cons_succ,eV]
   rfl
  refine aje (i:=3) (j:=9) (k:=12) (Ni:=some 27) (Nj:=some 33) (Nk:=some 10) (jb 14 399) (jb 14 903) (jb 14 4487) rfl rfl rfl rfl rfl rfl (afu HT_.out (by kernel_rfl)) (by decide) (by decide) (by decide) (fun K hK=>?_) (fun K hK=>?_) (fun K hK=>?_)
  ·refine abn func52 (by kernel_rfl) rfl #[.pointer (some ⟨g,0,none⟩),iV 3] (by rfl) rfl rfl qM (LX.pick h5 A7.out (fun w5 hx=>?_))
   refine hK.out _ _ (hx.bx _ m1).1 (fun _=>?_)
   clear hK K
   refine aav (a':=?_) ?_ ?_
   rotate_left
   ·show Act.put _ (some 27) _=_
    simp only [Act.put,List.setIfInBounds_toArray,List.set_cons_zero,List.set_cons_succ,aau,aaD]
    rfl
   refine jp 4 28 (jb 14 415) ?_
   exact aav nrm (jk (ay,az) _ hx)
  ·exact adM h5 (by rfl) rfl (inner:=[iV 1,iV 3,iV 0,iV x3,iV y3,.slice bD z3.length bE,.slice none 0 0,.slice none 0 0]) (xs:=[(⟨1,3,0,(⟨x3,y3,z3⟩:S90),[],[]⟩:S92)]) Hy.out qR9 (LX.one h5 (by simp [m3])) (by simp) (fun aH aI w5 hx=>hK.out _ _ (hx.bx _ m1).1 (fun _=>aav nrm (ic (ay,az,aH,aI) _ hx)))
  exact abx h5 (by rfl) rfl (cs:=Z8) akH (fun x w5 hx=>hK.out _ _ (hx.bx _ (.tail _ m1)).1 (fun _=>aav nrm (ib (ay,az,x) _ hx)))
 refine aje (i:=1) (j:=9) (k:=12) (Ni:=some 25) (Nj:=some 33) (Nk:=some 10) (jb 14 391) (jb 14 901) (jb 14 4485) rfl rfl rfl rfl rfl rfl (afu HT_.out (by kernel_rfl)) (by decide) (by decide) (by decide) (fun K hK=>?_) (fun K hK=>?_) (fun K hK=>?_)
 ·exact abn func110 (by kernel_rfl) rfl #[iV 13,iV 3] (by rfl) rfl rfl qM (aco HX.out A6.out (fun ay az w5 hx=>hK.out _ _ (hx.bx _ m1).1 (fun _=>aav nrm (jo (ay,az) _ hx))))
 ·exact adM HX.out (by rfl) rfl (inner:=[iV 1,iV 3,iV 0,iV x3,iV y3,.slice bD z3.length bE,.slice none 0 0,.slice none 0 0]) (xs:=[(⟨1,3,0,(⟨x3,y3,z3⟩:S90),[],[]⟩:S92)]) Hy.out qR9 (LX.one HX.out (by simp [m3])) (by simp) (fun aH aI w5 hx=>hK.out _ _ (hx.bx _ m1).1 (fun _=>aav nrm (jm (aH,aI) _ hx)))
 exact abx HX.out (by rfl) rfl (cs:=Z8) akH (fun x w5 hx=>hK.out _ _ (hx.bx _ (.tail _ m1)).1 (fun _=>aav nrm (jl x _ hx)))
theorem SbA.step (k:Nat) (aj:∀ m_,m_ < k->acV m_) (ih:∀ m_,m_ < k->adv m_) (aJ:∀ m_,m_ < k->adu m_) (aD:∀ m_,m_ < k->adt m_):adv k:=by
 intro g af ax a1 a2 a3 r1 r2 w0 w hI hB h
 cases k with
 | zero=>exact absurd h (by simp [akc])
 | succ k =>
 simp only [akc] at h
 have mV:=underlying92
 have HI0:=aM hI
 have HK:=aM (aaG w g none)
 have HL:=aM hB.size
 clear hI
 have HW0:=aM hB.size
 have HB:=aM hB
 clear hB
 have H:((aaW k af ax 10).bind fun aG=>(if aG.1=0 then (ado k a1 a2 a3 aG.1 (aG.1 == 0) af aG.2) else (ado k a1 a2 a3 aG.1 (aG.1 == 1) af aG.2)))=some (r1,r2):=h
 clear h
 obtain⟨⟨bK,bi⟩,A5,H⟩:=qE H
 try dsimp only at H
 have nK:=aM H
 clear H
 go_enter func82,ntmps82
 go_upto_if 11 with (first|((with_reducible refine jc 52 10 ?_);refine jK func52 (aab k g af ax 10 bK bi w0 _ (qI HI0) qB A5.out) ?_;rintro w7 ⟨hi,hb,hk⟩;replace HK:=aM (aa6.trans (w:=w) qH hk (.inl rfl));replace HB:=aM hb;replace HI0:=aM hi;clear hb hk hi))
 (try simp only [Act.put,List.setIfInBounds_toArray,List.set_cons_zero,List.set_cons_succ])
 go_cut [11] (fun v11 wc=>∃ (kq:Nat) (fH:Bool),v11 = .bool fH/\aa1 (ado kq a1 a2 a3 bK fH af bi=some (r1,r2))/\aa1 (kq<=k)/\aa1 (Sad w0 wc g af bi)/\aa1 (aa6 w wc g none)/\aa1 (Below w0.heap.size w0 wc))
 case first =>
  have H:=nK.out
  clear nK
  replace H:=jE H;rcases H with ⟨bO,nL,H⟩ | ⟨c8,bO,nL,H⟩
  ·(first|rw [bO]|(simp only [aau,aaD];rw [bO])|skip)
   have H':=aM H
   clear H
   go_wp2
   go_meet
   exact⟨_,((bK == 0)),qZ,H',⟨by first|omega|exact Nat.le_refl _⟩,⟨qI HI0⟩,⟨qH⟩,⟨qB⟩⟩
  (first|rw [bO]|(simp only [aau,aaD];rw [bO])|skip)
  have H':=aM H
  clear H
  go_wp2
  go_meet
  exact⟨_,((bK == 1)),qZ,H',⟨by first|omega|exact Nat.le_refl _⟩,⟨qI HI0⟩,⟨qH⟩,⟨qB⟩⟩
 clear nK
 obtain⟨kq,fH,rfl,HA,iw,HI0,HK,HB⟩:=hcut
 cases kq with
 | zero=>exact absurd HA.out (by simp [ado])
 | succ iH =>
  have H:=HA.out
  clear HA
  simp only [ado] at H
  replace H:=jB H;rcases H with ⟨rfl,H⟩ | ⟨rfl,H⟩
  ·obtain⟨⟨bP,bQ,bR,bS,bT,bU,bV,bW,nM⟩,iO,H⟩:=qE H
   try dsimp only at H
   obtain⟨pY,dP⟩:=ky ((([(⟨bP,bQ,bR,(⟨bS,bT,bU⟩:S90),bV,bW⟩:S92)]:List S92)):List S92)
   replace H:=kv dP H
   obtain⟨rfl,rfl⟩:=oJ2 H
   go_wp2_with (first|((with_reducible refine jc 92 15 ?_);refine jO func92 (ai3 iH g af bi bP bQ bR bS bT bU bV bW nM w0 _ (qI HI0) qB iO.out) ?_;rintro e oK ⟨jr,jv,jw,rfl,ho0,ho1,ho2,hi,hb,hk⟩;refine⟨_,rfl,?_⟩;have dQ:=aM (N_lower (N_mono (ok':=fun k_=>(w.heap.size<=k_)/\some k_≠(jv:Value).ownBlock/\some k_≠(jw:Value).ownBlock/\k_≠g) ho0 (fun k_ hk_=>⟨(Nat.le_trans kU hk_.1),hk_.2.1,hk_.2.2,(Sad.fresh (qI HI0) k_ hk_.1)⟩)) kU);have dR:=aM (N_lower (N_mono (ok':=fun k_=>(w.heap.size<=k_)/\some k_≠(jr:Value).ownBlock/\some k_≠(jw:Value).ownBlock/\k_≠g) ho1 (fun k_ hk_=>⟨(Nat.le_trans kU hk_.1),hk_.2.1,hk_.2.2,(Sad.fresh (qI HI0) k_ hk_.1)⟩)) kU);have dS:=aM (N_lower (N_mono (ok':=fun k_=>(w.heap.size<=k_)/\some k_≠(jr:Value).ownBlock/\some k_≠(jv:Value).ownBlock/\k_≠g) ho2 (fun k_ hk_=>⟨(Nat.le_trans kU hk_.1),hk_.2.1,hk_.2.2,(Sad.fresh (qI HI0) k_ hk_.1)⟩)) kU);replace HK:=aM (aa6.trans (w:=w) qH hk (.inl rfl));replace HB:=aM hb;replace HI0:=aM hi;clear hb hk hi;(try clear ho0);(try clear ho1);(try clear ho2);obtain⟨jy,jA,nN⟩:=N_slice dQ.out;subst nN;obtain⟨jH,jN,nO⟩:=N_slice dR.out;subst nO;obtain⟨jQ,jS,nP⟩:=N_slice dS.out;subst nP)|((with_reducible refine jd 16 ?_);refine N_lit k92 _ 92 ?hg (N':=16) ?hd (xs:=([(⟨bP,bQ,bR,(⟨bS,bT,bU⟩:S90),bV,bW⟩:S92)]:List S92)) (inner:=[iV bP,iV bQ,iV bR,iV bS,iV bT,.slice jy bU.length jA,.slice jH bV.length jN,.slice jQ bW.length jS]) (ok:=(fun k_=>(w.heap.size<=k_)/\k_≠g)) (okp:=(fun k_=>(w.heap.size<=k_)/\k_≠g)) ?hr ?hp (fun _ hk=>hk) ((show ∀ k_,oK.heap.size<=k_->(fun k_=>(w.heap.size<=k_)/\k_≠g) k_ from fun k_ hk=>⟨(Nat.le_trans kU hk),Sad.fresh (qI HI0) k_ hk⟩) _ (Nat.le_refl _)) (Below.refl _ _) (Nat.le_refl _) (by simp) ?_;(case hd=>rfl);(case hg=>rfl);(case hr=>first|(go_simp;done)|(go_simp;rfl));(case hp=>exact (acH (show Kd.FK k92 _ _ (⟨bP,bQ,bR,(⟨bS,bT,bU⟩:S90),bV,bW⟩:S92) [iV bP,iV bQ,iV bR,iV bS,iV bT,.slice jy bU.length jA,.slice jH bV.length jN,.slice jQ bW.length jS] from (acF _ _ (⟨bP,bQ,bR,(⟨bS,bT,bU⟩:S90),bV,bW⟩:S92) (N_reads' (N_mono (ok':=(fun k_=>(w.heap.size<=k_)/\k_≠g)) (dQ.out) (fun k_ hk=>⟨hk.1,hk.2.2.2⟩))).2.1 (N_F (N_mono (ok':=(fun k_=>(w.heap.size<=k_)/\k_≠g)) (dQ.out) (fun k_ hk=>⟨hk.1,hk.2.2.2⟩))) (N_reads' (N_mono (ok':=(fun k_=>(w.heap.size<=k_)/\k_≠g)) (dR.out) (fun k_ hk=>⟨hk.1,hk.2.2.2⟩))).2.1 (N_F (N_mono (ok':=(fun k_=>(w.heap.size<=k_)/\k_≠g)) (dR.out) (fun k_ hk=>⟨hk.1,hk.2.2.2⟩))) (N_reads' (N_mono (ok':=(fun k_=>(w.heap.size<=k_)/\k_≠g)) (dS.out) (fun k_ hk=>⟨hk.1,hk.2.2.2⟩))).2.1 (N_F (N_mono (ok':=(fun k_=>(w.heap.size<=k_)/\k_≠g)) (dS.out) (fun k_ hk=>⟨hk.1,hk.2.2.2⟩))))) (aa9 _ _)));intro p8 rZ fI hb hg_ hnew_;clear hg_ hnew_;replace fI:=kr dP fI;have jT:=aM (N_lower fI kU);replace HI0:=aM (Sad.below (qI HI0) hb);replace HK:=kY hb;replace HB:=kH hb;clear dQ dR dS;clear hb fI))
   go_ret
   exact⟨_,qW,by (with_reducible repeat (first|apply N_alloc|apply N_drewN|apply N_drew));exact N_mono jT.out (fun _ hk=>hk.1),qI HI0,qB,qH⟩
  replace H:=jE H;rcases H with ⟨fJ,fK,H⟩ | ⟨c17,fJ,fK,H⟩
  ·replace H:=jD H;rcases H with ⟨jW,H⟩ | ⟨jW,H⟩
   ·obtain⟨⟨bX,bY,bZ,cu,cz,cB,cK,cO,nQ⟩,p9,H⟩:=qE H
    try dsimp only at H
    obtain⟨qb,dU⟩:=ky ((([(⟨bX,bY,bZ,(⟨cu,cz,cB⟩:S90),cK,cO⟩:S92)]:List S92)):List S92)
    replace H:=kv dU H
    obtain⟨rfl,rfl⟩:=oJ2 H
    go_wp2_with (first|((with_reducible refine jc 93 25 ?_);refine jO func93 (aJ iH (by have:=iw.out;omega) g af bi a1 a2 a3 bX bY bZ cu cz cB cK cO nQ w0 _ (qI HI0) qB p9.out) ?_;rintro e mY ⟨jZ,j4,j5,rfl,ho0,ho1,ho2,hi,hb,hk⟩;refine⟨_,rfl,?_⟩;have dV:=aM (N_lower (N_mono (ok':=fun k_=>(w.heap.size<=k_)/\some k_≠(j4:Value).ownBlock/\some k_≠(j5:Value).ownBlock/\k_≠g) ho0 (fun k_ hk_=>⟨(Nat.le_trans kU hk_.1),hk_.2.1,hk_.2.2,(Sad.fresh (qI HI0) k_ hk_.1)⟩)) kU);have dW:=aM (N_lower (N_mono (ok':=fun k_=>(w.heap.size<=k_)/\some k_≠(jZ:Value).ownBlock/\some k_≠(j5:Value).ownBlock/\k_≠g) ho1 (fun k_ hk_=>⟨(Nat.le_trans kU hk_.1),hk_.2.1,hk_.2.2,(Sad.fresh (qI HI0) k_ hk_.1)⟩)) kU);have dX:=aM (N_lower (N_mono (ok':=fun k_=>(w.heap.size<=k_)/\some k_≠(jZ:Value).ownBlock/\some k_≠(j4:Value).ownBlock/\k_≠g) ho2 (fun k_ hk_=>⟨(Nat.le_trans kU hk_.1),hk_.2.1,hk_.2.2,(Sad.fresh (qI HI0) k_ hk_.1)⟩)) kU);replace HK:=aM (aa6.trans (w:=w) qH hk (.inl rfl));replace HB:=aM hb;replace HI0:=aM hi;clear hb hk hi;(try clear ho0);(try clear ho1);(try clear ho2);obtain⟨j6,kg,nR⟩:=N_slice dV.out;subst nR;obtain⟨ko,ku,nS⟩:=N_slice dW.out;subst nS;obtain⟨kD,kE,nT⟩:=N_slice dX.out;subst nT)|((with_reducible refine jd 26 ?_);refine N_lit k92 _ 92 ?hg (N':=26) ?hd (xs:=([(⟨bX,bY,bZ,(⟨cu,cz,cB⟩:S90),cK,cO⟩:S92)]:List S92)) (inner:=[iV bX,iV bY,iV bZ,iV cu,iV cz,.slice j6 cB.length kg,.slice ko cK.length ku,.slice kD cO.length kE]) (ok:=(fun k_=>(w.heap.size<=k_)/\k_≠g)) (okp:=(fun k_=>(w.heap.size<=k_)/\k_≠g)) ?hr ?hp (fun _ hk=>hk) ((show ∀ k_,mY.heap.size<=k_->(fun k_=>(w.heap.size<=k_)/\k_≠g) k_ from fun k_ hk=>⟨(Nat.le_trans kU hk),Sad.fresh (qI HI0) k_ hk⟩) _ (Nat.le_refl _)) (Below.refl _ _) (Nat.le_refl _) (by simp) ?_;(case hd=>rfl);(case hg=>rfl);(case hr=>first|(go_simp;done)|(go_simp;rfl));(case hp=>exact (acH (show Kd.FK k92 _ _ (⟨bX,bY,bZ,(⟨cu,cz,cB⟩:S90),cK,cO⟩:S92) [iV bX,iV bY,iV bZ,iV cu,iV cz,.slice j6 cB.length kg,.slice ko cK.length ku,.slice kD cO.length kE] from (acF _ _ (⟨bX,bY,bZ,(⟨cu,cz,cB⟩:S90),cK,cO⟩:S92) (N_reads' (N_mono (ok':=(fun k_=>(w.heap.size<=k_)/\k_≠g)) (dV.out) (fun k_ hk=>⟨hk.1,hk.2.2.2⟩))).2.1 (N_F (N_mono (ok':=(fun k_=>(w.heap.size<=k_)/\k_≠g)) (dV.out) (fun k_ hk=>⟨hk.1,hk.2.2.2⟩))) (N_reads' (N_mono (ok':=(fun k_=>(w.heap.size<=k_)/\k_≠g)) (dW.out) (fun k_ hk=>⟨hk.1,hk.2.2.2⟩))).2.1 (N_F (N_mono (ok':=(fun k_=>(w.heap.size<=k_)/\k_≠g)) (dW.out) (fun k_ hk=>⟨hk.1,hk.2.2.2⟩))) (N_reads' (N_mono (ok':=(fun k_=>(w.heap.size<=k_)/\k_≠g)) (dX.out) (fun k_ hk=>⟨hk.1,hk.2.2.2⟩))).2.1 (N_F (N_mono (ok':=(fun k_=>(w.heap.size<=k_)/\k_≠g)) (dX.out) (fun k_ hk=>⟨hk.1,hk.2.2.2⟩))))) (aa9 _ _)));intro qc si fM hb hg_ hnew_;clear hg_ hnew_;replace fM:=kr dU fM;have kF:=aM (N_lower fM kU);replace HI0:=aM (Sad.below (qI HI0) hb);replace HK:=kY hb;replace HB:=kH hb;clear dV dW dX;clear hb fM))
    go_ret
    exact⟨_,qW,by (with_reducible repeat (first|apply N_alloc|apply N_drewN|apply N_drew));exact N_mono kF.out (fun _ hk=>hk.1),qI HI0,qB,qH⟩
   obtain⟨⟨iy,kP⟩,qd,H⟩:=qE H
   try dsimp only at H
   obtain⟨⟨df,dh,di,nU⟩,qf,H⟩:=qE H
   try dsimp only at H
   obtain⟨qg,dY⟩:=ky ((([(⟨7,0,0,(⟨df,dh,di⟩:S90),([]:List S92),([]:List S92)⟩:S92)]:List S92)):List S92)
   replace H:=kv dY H
   obtain⟨rfl,rfl⟩:=oJ2 H
   go_wp2_with (first|((with_reducible refine jc 52 52 ?_);refine jK func52 (aab iH g af bi 3 iy kP w0 _ (qI HI0) qB qd.out) ?_;rintro sj ⟨hi,hb,hk⟩;replace HK:=aM (aa6.trans (w:=w) qH hk (.inl rfl));replace HB:=aM hb;replace HI0:=aM hi;clear hb hk hi)|((with_reducible refine jc 96 54 ?_);refine jM func96 (acL iH g af kP (wrap64 (1+iy)) df dh di nU w0 _ (qI HI0) qB qf.out) ?_;rintro qi qh ⟨ho0,hi,hb,hk⟩;have dZ:=aM (N_lower (N_mono (ok':=fun k_=>(w.heap.size<=k_)/\k_≠g) ho0 (fun k_ hk_=>⟨(Nat.le_trans kU hk_),(Sad.fresh (qI HI0) k_ hk_)⟩)) kU);replace HK:=aM (aa6.trans (w:=w) qH hk (.inl rfl));replace HB:=aM hb;replace HI0:=aM hi;clear hb hk hi;(try clear ho0);obtain⟨kV,kX,nV⟩:=N_slice dZ.out;subst nV)|((with_reducible refine jd 56 ?_);refine N_lit k92 _ 92 ?hg (N':=56) ?hd (xs:=([(⟨7,0,0,(⟨df,dh,di⟩:S90),([]:List S92),([]:List S92)⟩:S92)]:List S92)) (inner:=[iV 7,iV 0,iV 0,iV df,iV dh,.slice kV di.length kX,.slice none 0 0,.slice none 0 0]) (ok:=(fun k_=>(w.heap.size<=k_)/\k_≠g)) (okp:=(fun k_=>(w.heap.size<=k_)/\k_≠g)) ?hr ?hp (fun _ hk=>hk) ((show ∀ k_,qh.heap.size<=k_->(fun k_=>(w.heap.size<=k_)/\k_≠g) k_ from fun k_ hk=>⟨(Nat.le_trans kU hk),Sad.fresh (qI HI0) k_ hk⟩) _ (Nat.le_refl _)) (Below.refl _ _) (Nat.le_refl _) (by simp) ?_;(case hd=>rfl);(case hg=>rfl);(case hr=>first|(go_simp;done)|(go_simp;rfl));(case hp=>exact (acH (show Kd.FK k92 _ _ (⟨7,0,0,(⟨df,dh,di⟩:S90),([]:List S92),([]:List S92)⟩:S92) [iV 7,iV 0,iV 0,iV df,iV dh,.slice kV di.length kX,.slice none 0 0,.slice none 0 0] from (acF _ _ (⟨7,0,0,(⟨df,dh,di⟩:S90),([]:List S92),([]:List S92)⟩:S92) (N_reads' (N_mono (ok':=(fun k_=>(w.heap.size<=k_)/\k_≠g)) (dZ.out) (fun k_ hk=>⟨hk.1,hk.2⟩))).2.1 (N_F (N_mono (ok':=(fun k_=>(w.heap.size<=k_)/\k_≠g)) (dZ.out) (fun k_ hk=>⟨hk.1,hk.2⟩))) (Nat.le_refl _) (F_nil _ _ _) (Nat.le_refl _) (F_nil _ _ _))) (aa9 _ _)));intro qj su fO hb hg_ hnew_;clear hg_ hnew_;replace fO:=kr dY fO;have kZ:=aM (N_lower fO kU);replace HI0:=aM (Sad.below (qI HI0) hb);replace HK:=kY hb;replace HB:=kH hb;clear dZ;clear hb fO))
   go_ret
   exact⟨_,qW,by (with_reducible repeat (first|apply N_alloc|apply N_drewN|apply N_drew));exact N_mono kZ.out (fun _ hk=>hk.1),qI HI0,qB,qH⟩
  replace H:=jE H;rcases H with ⟨fP,fQ,H⟩ | ⟨pq,fP,fQ,H⟩
  ·have iA:=aM H
   clear H
   go_upto_region 9 with (fail)
   go_cut [33] (fun v33 wc=>∃ (kq:Nat) (dn:Bool),v33 = .bool dn/\aa1 (aer kq a1 a2 dn af bi=some (r1,r2))/\aa1 (kq<=iH)/\aa1 (Sad w0 wc g af bi)/\aa1 (aa6 w wc g none)/\aa1 (Below w0.heap.size w0 wc))
   case first =>
    have H:=iA.out
    clear iA
    replace H:=jD H;rcases H with ⟨bL,H⟩ | ⟨bL,H⟩
    ·(first|rw [bL]|(simp only [aau,aaD];rw [bL])|skip)
     have H':=aM H
     clear H
     go_wp2
     go_meet
     exact⟨_,(a3),qZ,H',⟨by have:=iw.out;first|omega|exact Nat.le_refl _⟩,⟨qI HI0⟩,⟨qH⟩,⟨qB⟩⟩
    (first|rw [bL]|(simp only [aau,aaD];rw [bL])|skip)
    have H':=aM H
    clear H
    go_wp2
    go_meet
    exact⟨_,(false),qZ,H',⟨by have:=iw.out;first|omega|exact Nat.le_refl _⟩,⟨qI HI0⟩,⟨qH⟩,⟨qB⟩⟩
   clear iA
   try clear c17;try clear fJ;try clear fK;try clear pq;try clear fP;try clear fQ
   obtain⟨kq,dn,rfl,HA,nW,HI0,HK,HB⟩:=hcut
   cases kq with
   | zero=>exact absurd HA.out (by simp [aer])
   | succ iB =>
    have H:=HA.out
    clear HA
    simp only [aer] at H
    replace H:=jB H;rcases H with ⟨rfl,H⟩ | ⟨rfl,H⟩
    ·obtain⟨⟨nX,nY⟩,ql,H⟩:=qE H
     try dsimp only at H
     obtain⟨rfl,rfl⟩:=oJ2 H
     go_wp2_with (first|((with_reducible refine jc 94 37 ?_);refine jM func94 (aD iB (by have:=iw.out;have:=nW.out;omega) g af bi a1 a2 nX nY w0 _ (qI HI0) qB ql.out) ?_;rintro qm sw ⟨ho0,hi,hb,hk⟩;have lc:=aM (N_lower (N_mono (ok':=fun k_=>(w.heap.size<=k_)/\k_≠g) ho0 (fun k_ hk_=>⟨(Nat.le_trans kU hk_),(Sad.fresh (qI HI0) k_ hk_)⟩)) kU);replace HK:=aM (aa6.trans (w:=w) qH hk (.inl rfl));replace HB:=aM hb;replace HI0:=aM hi;clear hb hk hi;(try clear ho0)))
     go_ret
     exact⟨_,qW,by (with_reducible repeat (first|apply N_alloc|apply N_drewN|apply N_drew));exact N_mono lc.out (fun _ hk=>hk.1),qI HI0,qB,qH⟩
    obtain⟨⟨iC,lg⟩,qo,H⟩:=qE H
    try dsimp only at H
    obtain⟨⟨dw,dx,dz,nZ⟩,qp,H⟩:=qE H
    try dsimp only at H
    obtain⟨qw,d9⟩:=ky ((([(⟨7,0,0,(⟨dw,dx,dz⟩:S90),([]:List S92),([]:List S92)⟩:S92)]:List S92)):List S92)
    replace H:=kv d9 H
    obtain⟨rfl,rfl⟩:=oJ2 H
    go_wp2_with (first|((with_reducible refine jc 52 52 ?_);refine jK func52 (aab iB g af bi 3 iC lg w0 _ (qI HI0) qB qo.out) ?_;rintro sD ⟨hi,hb,hk⟩;replace HK:=aM (aa6.trans (w:=w) qH hk (.inl rfl));replace HB:=aM hb;replace HI0:=aM hi;clear hb hk hi)|((with_reducible refine jc 96 54 ?_);refine jM func96 (acL iB g af lg (wrap64 (1+iC)) dw dx dz nZ w0 _ (qI HI0) qB qp.out) ?_;rintro qy qx ⟨ho0,hi,hb,hk⟩;have ed:=aM (N_lower (N_mono (ok':=fun k_=>(w.heap.size<=k_)/\k_≠g) ho0 (fun k_ hk_=>⟨(Nat.le_trans kU hk_),(Sad.fresh (qI HI0) k_ hk_)⟩)) kU);replace HK:=aM (aa6.trans (w:=w) qH hk (.inl rfl));replace HB:=aM hb;replace HI0:=aM hi;clear hb hk hi;(try clear ho0);obtain⟨lh,ll,oh⟩:=N_slice ed.out;subst oh)|((with_reducible refine jd 56 ?_);refine N_lit k92 _ 92 ?hg (N':=56) ?hd (xs:=([(⟨7,0,0,(⟨dw,dx,dz⟩:S90),([]:List S92),([]:List S92)⟩:S92)]:List S92)) (inner:=[iV 7,iV 0,iV 0,iV dw,iV dx,.slice lh dz.length ll,.slice none 0 0,.slice none 0 0]) (ok:=(fun k_=>(w.heap.size<=k_)/\k_≠g)) (okp:=(fun k_=>(w.heap.size<=k_)/\k_≠g)) ?hr ?hp (fun _ hk=>hk) ((show ∀ k_,qx.heap.size<=k_->(fun k_=>(w.heap.size<=k_)/\k_≠g) k_ from fun k_ hk=>⟨(Nat.le_trans kU hk),Sad.fresh (qI HI0) k_ hk⟩) _ (Nat.le_refl _)) (Below.refl _ _) (Nat.le_refl _) (by simp) ?_;(case hd=>rfl);(case hg=>rfl);(case hr=>first|(go_simp;done)|(go_simp;rfl));(case hp=>exact (acH (show Kd.FK k92 _ _ (⟨7,0,0,(⟨dw,dx,dz⟩:S90),([]:List S92),([]:List S92)⟩:S92) [iV 7,iV 0,iV 0,iV dw,iV dx,.slice lh dz.length ll,.slice none 0 0,.slice none 0 0] from (acF _ _ (⟨7,0,0,(⟨dw,dx,dz⟩:S90),([]:List S92),([]:List S92)⟩:S92) (N_reads' (N_mono (ok':=(fun k_=>(w.heap.size<=k_)/\k_≠g)) (ed.out) (fun k_ hk=>⟨hk.1,hk.2⟩))).2.1 (N_F (N_mono (ok':=(fun k_=>(w.heap.size<=k_)/\k_≠g)) (ed.out) (fun k_ hk=>⟨hk.1,hk.2⟩))) (Nat.le_refl _) (F_nil _ _ _) (Nat.le_refl _) (F_nil _ _ _))) (aa9 _ _)));intro qz sF fT hb hg_ hnew_;clear hg_ hnew_;replace fT:=kr d9 fT;have lu:=aM (N_lower fT kU);replace HI0:=aM (Sad.below (qI HI0) hb);replace HK:=kY hb;replace HB:=kH hb;clear ed;clear hb fT))
    go_ret
    exact⟨_,qW,by (with_reducible repeat (first|apply N_alloc|apply N_drewN|apply N_drew));exact N_mono lu.out (fun _ hk=>hk.1),qI HI0,qB,qH⟩
  have iD:=aM H
  clear H
  go_upto_if 38 with (fail)
  go_cut [38] (fun v38 wc=>∃ (kq:Nat) (dA:Bool),v38 = .bool dA/\aa1 (adG kq a1 bK dA af bi=some (r1,r2))/\aa1 (kq<=iH)/\aa1 (Sad w0 wc g af bi)/\aa1 (aa6 w wc g none)/\aa1 (Below w0.heap.size w0 wc))
  case first =>
   have H:=iD.out
   clear iD
   replace H:=jE H;rcases H with ⟨bM,lv,H⟩ | ⟨sG,bM,lv,H⟩
   ·(first|rw [bM]|(simp only [aau,aaD];rw [bM])|skip)
    have H':=aM H
    clear H
    go_wp2
    go_meet
    exact⟨_,((bK == 4)),qZ,H',⟨by have:=iw.out;first|omega|exact Nat.le_refl _⟩,⟨qI HI0⟩,⟨qH⟩,⟨qB⟩⟩
   (first|rw [bM]|(simp only [aau,aaD];rw [bM])|skip)
   replace H:=jE H;rcases H with ⟨lw,lC,H⟩ | ⟨sH,lw,lC,H⟩
   ·have H':=aM H
    clear H
    go_wp2
    go_meet
    exact⟨_,((bK == 5)),qZ,H',⟨by have:=iw.out;first|omega|exact Nat.le_refl _⟩,⟨qI HI0⟩,⟨qH⟩,⟨qB⟩⟩
   have H':=aM H
   clear H
   go_wp2
   go_meet
   exact⟨_,((bK == 6)),qZ,H',⟨by have:=iw.out;first|omega|exact Nat.le_refl _⟩,⟨qI HI0⟩,⟨qH⟩,⟨qB⟩⟩
  clear iD
  try clear c17;try clear fJ;try clear fK;try clear pq;try clear fP;try clear fQ
  obtain⟨kq,dA,rfl,HA,qC,HI0,HK,HB⟩:=hcut
  cases kq with
  | zero=>exact absurd HA.out (by simp [adG])
  | succ iE =>
   have H:=HA.out
   clear HA
   simp only [adG] at H
   replace H:=jB H;rcases H with ⟨rfl,H⟩ | ⟨rfl,H⟩
   ·obtain⟨⟨dB,dC,dD,dE,dF,dG,dH,dI,ol⟩,qG,H⟩:=qE H
    try dsimp only at H
    obtain⟨qJ,ek⟩:=ky ((([(⟨dB,dC,dD,(⟨dE,dF,dG⟩:S90),dH,dI⟩:S92)]:List S92)):List S92)
    replace H:=kv ek H
    obtain⟨rfl,rfl⟩:=oJ2 H
    go_wp2_with (first|((with_reducible refine jc 95 44 ?_);refine jO func95 (alW iE g af bi a1 dB dC dD dE dF dG dH dI ol w0 _ (qI HI0) qB qG.out) ?_;rintro e qO ⟨lD,lF,lG,rfl,ho0,ho1,ho2,hi,hb,hk⟩;refine⟨_,rfl,?_⟩;have eu:=aM (N_lower (N_mono (ok':=fun k_=>(w.heap.size<=k_)/\some k_≠(lF:Value).ownBlock/\some k_≠(lG:Value).ownBlock/\k_≠g) ho0 (fun k_ hk_=>⟨(Nat.le_trans kU hk_.1),hk_.2.1,hk_.2.2,(Sad.fresh (qI HI0) k_ hk_.1)⟩)) kU);have eB:=aM (N_lower (N_mono (ok':=fun k_=>(w.heap.size<=k_)/\some k_≠(lD:Value).ownBlock/\some k_≠(lG:Value).ownBlock/\k_≠g) ho1 (fun k_ hk_=>⟨(Nat.le_trans kU hk_.1),hk_.2.1,hk_.2.2,(Sad.fresh (qI HI0) k_ hk_.1)⟩)) kU);have eD:=aM (N_lower (N_mono (ok':=fun k_=>(w.heap.size<=k_)/\some k_≠(lD:Value).ownBlock/\some k_≠(lF:Value).ownBlock/\k_≠g) ho2 (fun k_ hk_=>⟨(Nat.le_trans kU hk_.1),hk_.2.1,hk_.2.2,(Sad.fresh (qI HI0) k_ hk_.1)⟩)) kU);replace HK:=aM (aa6.trans (w:=w) qH hk (.inl rfl));replace HB:=aM hb;replace HI0:=aM hi;clear hb hk hi;(try clear ho0);(try clear ho1);(try clear ho2);obtain⟨lH,lI,oo⟩:=N_slice eu.out;subst oo;obtain⟨lJ,lK,ou⟩:=N_slice eB.out;subst ou;obtain⟨lL,lM,ow⟩:=N_slice eD.out;subst ow)|((with_reducible refine jd 45 ?_);refine N_lit k92 _ 92 ?hg (N':=45) ?hd (xs:=([(⟨dB,dC,dD,(⟨dE,dF,dG⟩:S90),dH,dI⟩:S92)]:List S92)) (inner:=[iV dB,iV dC,iV dD,iV dE,iV dF,.slice lH dG.length lI,.slice lJ dH.length lK,.slice lL dI.length lM]) (ok:=(fun k_=>(w.heap.size<=k_)/\k_≠g)) (okp:=(fun k_=>(w.heap.size<=k_)/\k_≠g)) ?hr ?hp (fun _ hk=>hk) ((show ∀ k_,qO.heap.size<=k_->(fun k_=>(w.heap.size<=k_)/\k_≠g) k_ from fun k_ hk=>⟨(Nat.le_trans kU hk),Sad.fresh (qI HI0) k_ hk⟩) _ (Nat.le_refl _)) (Below.refl _ _) (Nat.le_refl _) (by simp) ?_;(case hd=>rfl);(case hg=>rfl);(case hr=>first|(go_simp;done)|(go_simp;rfl));(case hp=>exact (acH (show Kd.FK k92 _ _ (⟨dB,dC,dD,(⟨dE,dF,dG⟩:S90),dH,dI⟩:S92) [iV dB,iV dC,iV dD,iV dE,iV dF,.slice lH dG.length lI,.slice lJ dH.length lK,.slice lL dI.length lM] from (acF _ _ (⟨dB,dC,dD,(⟨dE,dF,dG⟩:S90),dH,dI⟩:S92) (N_reads' (N_mono (ok':=(fun k_=>(w.heap.size<=k_)/\k_≠g)) (eu.out) (fun k_ hk=>⟨hk.1,hk.2.2.2⟩))).2.1 (N_F (N_mono (ok':=(fun k_=>(w.heap.size<=k_)/\k_≠g)) (eu.out) (fun k_ hk=>⟨hk.1,hk.2.2.2⟩))) (N_reads' (N_mono (ok':=(fun k_=>(w.heap.size<=k_)/\k_≠g)) (eB.out) (fun k_ hk=>⟨hk.1,hk.2.2.2⟩))).2.1 (N_F (N_mono (ok':=(fun k_=>(w.heap.size<=k_)/\k_≠g)) (eB.out) (fun k_ hk=>⟨hk.1,hk.2.2.2⟩))) (N_reads' (N_mono (ok':=(fun k_=>(w.heap.size<=k_)/\k_≠g)) (eD.out) (fun k_ hk=>⟨hk.1,hk.2.2.2⟩))).2.1 (N_F (N_mono (ok':=(fun k_=>(w.heap.size<=k_)/\k_≠g)) (eD.out) (fun k_ hk=>⟨hk.1,hk.2.2.2⟩))))) (aa9 _ _)));intro qX sI fU hb hg_ hnew_;clear hg_ hnew_;replace fU:=kr ek fU;have lN:=aM (N_lower fU kU);replace HI0:=aM (Sad.below (qI HI0) hb);replace HK:=kY hb;replace HB:=kH hb;clear eu eB eD;clear hb fU))
    go_ret
    exact⟨_,qW,by (with_reducible repeat (first|apply N_alloc|apply N_drewN|apply N_drew));exact N_mono lN.out (fun _ hk=>hk.1),qI HI0,qB,qH⟩
   replace H:=jE H;rcases H with ⟨lQ,lS,H⟩ | ⟨sJ,lQ,lS,H⟩
   ·obtain⟨qY,eF⟩:=ky ((([(⟨6,0,0,(⟨0,0,([]:List S90)⟩:S90),([]:List S92),([]:List S92)⟩:S92)]:List S92)):List S92)
    replace H:=kv eF H
    obtain⟨rfl,rfl⟩:=oJ2 H
    go_wp2_with (first|((with_reducible refine jd 49 ?_);refine N_lit k92 _ 92 ?hg (N':=49) ?hd (xs:=([(⟨6,0,0,(⟨0,0,([]:List S90)⟩:S90),([]:List S92),([]:List S92)⟩:S92)]:List S92)) (inner:=[iV 6,iV 0,iV 0,iV 0,iV 0,.slice none 0 0,.slice none 0 0,.slice none 0 0]) (ok:=(fun k_=>(w.heap.size<=k_)/\k_≠g)) (okp:=(fun k_=>(w.heap.size<=k_)/\k_≠g)) ?hr ?hp (fun _ hk=>hk) ((show ∀ k_,wc.heap.size<=k_->(fun k_=>(w.heap.size<=k_)/\k_≠g) k_ from fun k_ hk=>⟨(Nat.le_trans kU hk),Sad.fresh (qI HI0) k_ hk⟩) _ (Nat.le_refl _)) (Below.refl _ _) (Nat.le_refl _) (by simp) ?_;(case hd=>rfl);(case hg=>rfl);(case hr=>first|(go_simp;done)|(go_simp;rfl));(case hp=>exact (acH (show Kd.FK k92 _ _ (⟨6,0,0,(⟨0,0,([]:List S90)⟩:S90),([]:List S92),([]:List S92)⟩:S92) [iV 6,iV 0,iV 0,iV 0,iV 0,.slice none 0 0,.slice none 0 0,.slice none 0 0] from (acF _ _ (⟨6,0,0,(⟨0,0,([]:List S90)⟩:S90),([]:List S92),([]:List S92)⟩:S92) (Nat.le_refl _) (F_nil _ _ _) (Nat.le_refl _) (F_nil _ _ _) (Nat.le_refl _) (F_nil _ _ _))) (aa9 _ _)));intro q8 sK fV hb hg_ hnew_;clear hg_ hnew_;replace fV:=kr eF fV;have lT:=aM (N_lower fV kU);replace HI0:=aM (Sad.below (qI HI0) hb);replace HK:=kY hb;replace HB:=kH hb;clear hb fV))
    go_ret
    exact⟨_,qW,by (with_reducible repeat (first|apply N_alloc|apply N_drewN|apply N_drew));exact N_mono lT.out (fun _ hk=>hk.1),qI HI0,qB,qH⟩
   obtain⟨⟨iF,lU⟩,q9,H⟩:=qE H
   try dsimp only at H
   obtain⟨⟨dJ,dK,dL,oz⟩,rf,H⟩:=qE H
   try dsimp only at H
   obtain⟨rq,eG⟩:=ky ((([(⟨7,0,0,(⟨dJ,dK,dL⟩:S90),([]:List S92),([]:List S92)⟩:S92)]:List S92)):List S92)
   replace H:=kv eG H
   obtain⟨rfl,rfl⟩:=oJ2 H
   go_wp2_with (first|((with_reducible refine jc 52 52 ?_);refine jK func52 (aab iE g af bi 3 iF lU w0 _ (qI HI0) qB q9.out) ?_;rintro sM ⟨hi,hb,hk⟩;replace HK:=aM (aa6.trans (w:=w) qH hk (.inl rfl));replace HB:=aM hb;replace HI0:=aM hi;clear hb hk hi)|((with_reducible refine jc 96 54 ?_);refine jM func96 (acL iE g af lU (wrap64 (1+iF)) dJ dK dL oz w0 _ (qI HI0) qB rf.out) ?_;rintro ry ru ⟨ho0,hi,hb,hk⟩;have eH:=aM (N_lower (N_mono (ok':=fun k_=>(w.heap.size<=k_)/\k_≠g) ho0 (fun k_ hk_=>⟨(Nat.le_trans kU hk_),(Sad.fresh (qI HI0) k_ hk_)⟩)) kU);replace HK:=aM (aa6.trans (w:=w) qH hk (.inl rfl));replace HB:=aM hb;replace HI0:=aM hi;clear hb hk hi;(try clear ho0);obtain⟨lV,lW,oC⟩:=N_slice eH.out;subst oC)|((with_reducible refine jd 56 ?_);refine N_lit k92 _ 92 ?hg (N':=56) ?hd (xs:=([(⟨7,0,0,(⟨dJ,dK,dL⟩:S90),([]:List S92),([]:List S92)⟩:S92)]:List S92)) (inner:=[iV 7,iV 0,iV 0,iV dJ,iV dK,.slice lV dL.length lW,.slice none 0 0,.slice none 0 0]) (ok:=(fun k_=>(w.heap.size<=k_)/\k_≠g)) (okp:=(fun k_=>(w.heap.size<=k_)/\k_≠g)) ?hr ?hp (fun _ hk=>hk) ((show ∀ k_,ru.heap.size<=k_->(fun k_=>(w.heap.size<=k_)/\k_≠g) k_ from fun k_ hk=>⟨(Nat.le_trans kU hk),Sad.fresh (qI HI0) k_ hk⟩) _ (Nat.le_refl _)) (Below.refl _ _) (Nat.le_refl _) (by simp) ?_;(case hd=>rfl);(case hg=>rfl);(case hr=>first|(go_simp;done)|(go_simp;rfl));(case hp=>exact (acH (show Kd.FK k92 _ _ (⟨7,0,0,(⟨dJ,dK,dL⟩:S90),([]:List S92),([]:List S92)⟩:S92) [iV 7,iV 0,iV 0,iV dJ,iV dK,.slice lV dL.length lW,.slice none 0 0,.slice none 0 0] from (acF _ _ (⟨7,0,0,(⟨dJ,dK,dL⟩:S90),([]:List S92),([]:List S92)⟩:S92) (N_reads' (N_mono (ok':=(fun k_=>(w.heap.size<=k_)/\k_≠g)) (eH.out) (fun k_ hk=>⟨hk.1,hk.2⟩))).2.1 (N_F (N_mono (ok':=(fun k_=>(w.heap.size<=k_)/\k_≠g)) (eH.out) (fun k_ hk=>⟨hk.1,hk.2⟩))) (Nat.le_refl _) (F_nil _ _ _) (Nat.le_refl _) (F_nil _ _ _))) (aa9 _ _)));intro rz sN fZ hb hg_ hnew_;clear hg_ hnew_;replace fZ:=kr eG fZ;have lX:=aM (N_lower fZ kU);replace HI0:=aM (Sad.below (qI HI0) hb);replace HK:=kY hb;replace HB:=kH hb;clear eH;clear hb fZ))
   go_ret
   exact⟨_,qW,by (with_reducible repeat (first|apply N_alloc|apply N_drewN|apply N_drew));exact N_mono lX.out (fun _ hk=>hk.1),qI HI0,qB,qH⟩
theorem Sbw.step (k:Nat) (ih:∀ m_,m_ < k->acV m_) (aC:∀ m_,m_ < k->adv m_) (aJ:∀ m_,m_ < k->adu m_) (aD:∀ m_,m_ < k->adt m_):acV k:=by
 intro g af ax a1 a2 a3 a4 r1 r2 w0 w hI hB h
 cases k with
 | zero=>exact absurd h (by simp [afp])
 | succ k =>
 simp only [afp] at h
 have HI0:=aM hI
 have HK:=aM (aaG w g none)
 have HL:=aM hB.size
 clear hI
 have HW0:=aM hB.size
 have HB:=aM hB
 clear hB
 have H:(aeh k a1 a2 a3 a4 (([]:List S92)) 0 af ax)=some (r1,r2):=h
 clear h
 obtain⟨oD,eO⟩:=ky ([]:List S92)
 replace H:=kv eO H
 have H':=aM H
 clear H
 go_enter func73,ntmps73
 go_wp2_with (first|((with_reducible refine jd 13 ?_);refine N_lit k92 _ 92 ?hg (N':=13) ?hd (xs:=([]:List S92)) (inner:=[]) (ok:=(fun k_=>(w.heap.size<=k_)/\k_≠g)) (okp:=(fun k_=>(w.heap.size<=k_)/\k_≠g)) ?hr ?hp (fun _ hk=>hk) ((show ∀ k_,w.heap.size<=k_->(fun k_=>(w.heap.size<=k_)/\k_≠g) k_ from fun k_ hk=>⟨(Nat.le_trans kU hk),Sad.fresh (qI HI0) k_ hk⟩) _ (Nat.le_refl _)) (Below.refl _ _) (Nat.le_refl _) (by simp) ?_;(case hd=>rfl);(case hg=>rfl);(case hr=>first|(go_simp;done)|(go_simp;rfl));(case hp=>exact (aa9 _ _));intro rA w6 lY hb hg_ hnew_;clear hg_ hnew_;replace lY:=kr eO lY;have lZ:=aM (N_lower lY kU);replace HI0:=aM (Sad.below (qI HI0) hb);replace HK:=kY hb;replace HB:=kH hb;clear hb lY))
 go_loopg [11,12] k (fun kq v11 v12 w'=>∃ (bN:List S92) (gm:Int) (bA:Int),v12 = iV gm/\aa1 (aeh kq a1 a2 a3 a4 bN gm af bA=some (r1,r2))/\aa1 (kq<=k)/\aa1 (Kd.N k92 92 w' w.heap.size (fun k_=>(w.heap.size<=k_)/\k_≠g) v11 bN)/\aa1 (Sad w0 w' g af bA)/\aa1 (aa6 w w' g none)/\aa1 (Below w0.heap.size w0 w'))
 case atStart=>exact⟨(oD),(0),(ax),qZ,H',⟨Nat.le_refl _⟩,⟨qN lZ⟩,⟨qI HI0⟩,⟨qH⟩,⟨qB⟩⟩
 clear H'
 obtain⟨bN,gm,bA,rfl,HA,oF,bu,HI0,HK,HB⟩:=hrel
 rcases gk with _|k1
 ·exact absurd HA.out (by simp [aeh])
 have H:=HA.out
 clear HA
 simp only [aeh] at H
 replace H:=jD H;rcases H with ⟨bO,H⟩ | ⟨bO,H⟩
 ·obtain⟨⟨iG,oG⟩,A9,H⟩:=qE H
  try dsimp only at H
  replace H:=jL H;obtain⟨l8,H⟩:=H
  obtain⟨rC,gp⟩:=ky ((bN ++ iG):List S92)
  replace H:=kv gp H
  have H':=aM H
  clear H
  go_wp2_with (first|((with_reducible refine jc 82 24 ?_);refine jM func82 (aC k1 (by have:=oF.out;omega) g af bA a1 a2 a4 iG oG w0 _ (qI HI0) qB A9.out) ?_;rintro rE rD ⟨gF,hi,hb,hk⟩;have eP:=aM (N_lower (N_mono (ok':=fun k_=>(w.heap.size<=k_)/\some k_≠(u11:Value).ownBlock/\k_≠g) gF (fun k_ hk_=>⟨(Nat.le_trans kU hk_),(Kd.fresh' (N_lt (qN bu)) k_ hk_),(Sad.fresh (qI HI0) k_ hk_)⟩)) kU);replace bu:=aM (N_mono (N_told (N_oldK (N_mono (ok:=fun k_=>(((w.heap.size<=k_))/\k_≠g)) (qN bu) (fun k_ hk_=>(⟨hk_,hk_.2⟩:_/\k_≠g))) hk) (by first|exact N_base gF|exact R_base gF)) (fun _ h_=>h_.1));replace HK:=aM (aa6.trans (w:=w) qH hk (.inl rfl));replace HB:=aM hb;replace HI0:=aM hi;clear hb hk hi;(try clear gF);obtain⟨rF,rG,oH⟩:=N_slice eP.out;subst oH)|((with_reducible refine aaa (b:=.append) (xs:=#[.tmp 19,.tmp 24]) rfl ?_);at_builtin;refine N_append_rows k92 w.heap.size rfl (.tmp 19) (.tmp 24) 75 92 (.agg #[(iV 0),(iV 0),(iV 0),(iV 0),(iV 0),(.slice none 0 0),(.slice none 0 0),(.slice none 0 0)]) 112 rfl underlying75 al4 rfl (by decide) (by omega) u11 bN iG _ _ _ (fun k_=>(w.heap.size<=k_)/\k_≠g) (fun k_=>((fun k_=>(w.heap.size<=k_)/\k_≠g)) k_/\some k_≠(u11:Value).ownBlock) rfl rfl ?aO ?aR (fun _ hk=>hk) ?aF (Below.refl _ _) ?aS ?aL ?_;(case aR=>exact (by skip;exact N_F (N_mono (ok':=(fun k_=>((fun k_=>(w.heap.size<=k_)/\k_≠g)) k_/\some k_≠(u11:Value).ownBlock)) (eP.out) (fun k_ hk=>⟨⟨hk.1,hk.2.2⟩,hk.2.1⟩))));(case aF=>exact (fun k_ hk=>⟨(Nat.le_trans kU hk),Sad.fresh (qI HI0) k_ hk⟩));(case aO=>exact (by (with_reducible repeat (first|apply N_alloc|apply N_drewN|apply N_drew));exact N_mono bu.out (fun _ hk=>⟨hk.1.1,hk.1.2⟩)));(case aS=>exact kU);(case aL=>have:=l8.out;omega);intro rH rJ ho hb hg hat;rw [<- gp.out] at ho;have l9:=aM ho;replace HI0:=aM (Sad.grown (qI HI0) hg (aj5 HI0.out bu.out (by decide)));replace eP:=aM (N_afterv (ok:=(fun k_=>(w.heap.size<=k_)/\k_≠g)) (by (with_reducible repeat (first|apply N_alloc|apply N_drewN|apply N_drew));exact N_mono eP.out (fun _ hk=>⟨⟨hk.1,hk.2.2⟩,hk.2.1⟩)) hg hat);replace HB:=aM (abG qB HL.out hb);replace HK:=aM (aa6.trans (w:=w) qH (aaP hg g) (N_base2 bu.out));clear bu;clear ho hb hg hat))
  go_roundg k1
  case measure=>have:=oF.out;omega
  exact⟨_,_,_,qZ,H',⟨by have:=oF.out;omega⟩,⟨qN l9⟩,⟨qI HI0⟩,⟨qH⟩,⟨qB⟩⟩
 obtain⟨rfl,rfl⟩:=oJ2 H
 go_wp2
 go_ret
 exact⟨_,qW,by (with_reducible repeat (first|apply N_alloc|apply N_drewN|apply N_drew));exact N_mono bu.out (fun _ hk=>hk.1),qI HI0,qB,qH⟩
theorem Sbx.grp.calls (k:Nat):adu k/\adt k/\adv k/\acV k:=by
 induction k using Nat.strongRecOn with
 | _ k ih=>exact⟨Sbx.step k (fun m_ h_=>(ih m_ h_).2.2.2) (fun m_ h_=>(ih m_ h_).2.2.1) (fun m_ h_=>(ih m_ h_).1) (fun m_ h_=>(ih m_ h_).2.1),Sby.step k (fun m_ h_=>(ih m_ h_).2.2.2) (fun m_ h_=>(ih m_ h_).2.2.1) (fun m_ h_=>(ih m_ h_).1) (fun m_ h_=>(ih m_ h_).2.1),SbA.step k (fun m_ h_=>(ih m_ h_).2.2.2) (fun m_ h_=>(ih m_ h_).2.2.1) (fun m_ h_=>(ih m_ h_).1) (fun m_ h_=>(ih m_ h_).2.1),Sbw.step k (fun m_ h_=>(ih m_ h_).2.2.2) (fun m_ h_=>(ih m_ h_).2.2.1) (fun m_ h_=>(ih m_ h_).1) (fun m_ h_=>(ih m_ h_).2.1)⟩
theorem alu (k:Nat):acV k:=(Sbx.grp.calls k).2.2.2
def af6:Nat->List S92->List Int->Int->Option ((List S92) × Int)
 | 0,_,_,_=>none
 | k+1,x5,x1000,az=>(SaF.f k x5).bind fun ak=>(if ak > 16 then (if 0<=(wrap64 ((x5.length:Int) - 1)) then (if (wrap64 ((x5.length:Int) - 1))<=(x5.length:Int) then (af6 k (x5.take ((wrap64 ((x5.length:Int) - 1)):Int).toNat) x1000 az) else (none)) else (none)) else (some (x5,az)))
def alX (k:Nat) (af:List Int) (aj a1:Int):Option ((List S92) × Int):=(aaW k af aj 6).bind fun aA=>((afp k af aA.2 a1 3 (wrap64 (1+aA.1)) true).bind fun aB=>(af6 k aB.1 af aB.2))
theorem aib (k g:Nat) (af:List Int) (aj a1:Int) (r1:List S92) (r2:Int) (w0 w:World) (hI:Sad w0 w g af aj) (hB:Below w0.heap.size w0 w) (h:alX k af aj a1=some (r1,r2)) :
  Calls prog 63 #[.pointer (some ⟨g,0,none⟩),iV a1] w fun e w'=>∃ aX:Value,e = .returned (aX)/\Kd.N k92 92 w' w.heap.size (fun k_=>(w.heap.size<=k_)) aX r1/\Sad w0 w' g af r2/\Below w0.heap.size w0 w'/\aa6 w w' g none:=by
 have HI0:=aM hI
 have HK:=aM (aaG w g none)
 have HL:=aM hB.size
 clear hI
 have HW0:=aM hB.size
 have HB:=aM hB
 clear hB
 have H:=h;unfold alX at H
 clear h
 obtain⟨⟨aD,aG⟩,A3,H⟩:=qE H
 try dsimp only at H
 obtain⟨⟨aH,au⟩,A4,H⟩:=qE H
 try dsimp only at H
 have H':=aM H
 clear H
 go_enter func63,ntmps63
 go_wp2_with (first|((with_reducible refine jc 52 9 ?_);refine jK func52 (aab k g af aj 6 aD aG w0 _ (qI HI0) qB A3.out) ?_;rintro w5 ⟨hi,hb,hk⟩;replace HK:=kI hk;replace HB:=aM hb;replace HI0:=aM hi;clear hb hk hi)|((with_reducible refine jc 73 11 ?_);refine jM func73 (alu k g af aG a1 3 (wrap64 (1+aD)) true aH au w0 _ (qI HI0) qB A4.out) ?_;rintro bv w6 ⟨ho0,hi,hb,hk⟩;have aI:=aM (N_lower (N_mono (ok':=fun k_=>(w.heap.size<=k_)/\k_≠g) ho0 (fun k_ hk_=>⟨(Nat.le_trans kU hk_),(Sad.fresh (qI HI0) k_ hk_)⟩)) kU);replace HK:=kI hk;replace HB:=aM hb;replace HI0:=aM hi;clear hb hk hi;(try clear ho0)))
 go_loopg [5] k (fun kq v5 w'=>∃ (aa:List S92),aa1 (af6 kq aa af au=some (r1,r2))/\aa1 (kq<=k)/\aa1 (Kd.N k92 92 w' w.heap.size (fun k_=>(w.heap.size<=k_)/\k_≠g) v5 aa)/\aa1 (Sad w0 w' g af au)/\aa1 (aa6 w w' g none)/\aa1 (Below w0.heap.size w0 w'))
 case atStart=>exact⟨(aH),H',⟨Nat.le_refl _⟩,⟨qN aI⟩,⟨qI HI0⟩,⟨qH⟩,⟨qB⟩⟩
 clear H'
 obtain⟨aa,HA,aY,ae,HI0,HK,HB⟩:=hrel
 rcases gk with _|k1
 ·exact absurd HA.out (by simp [af6])
 have H:=HA.out
 clear HA
 simp only [af6] at H
 obtain⟨ak,A7,H⟩:=qE H
 try dsimp only at H
 replace H:=jD H;rcases H with ⟨aP,H⟩ | ⟨aP,H⟩
 ·obtain⟨av,ax⟩:∃ j_:Int,(wrap64 ((aa.length:Int) - 1))=j_:=⟨_,rfl⟩
  replace H:(if 0<=(av) then (if (av)<=(aa.length:Int) then (af6 k1 (aa.take ((av):Int).toNat) af au) else (none)) else (none))=some (r1,r2):=by first|(rw [ax] at H;exact H)|(simp only [ax] at H ⊢;exact H)
  (try rw [ax] at A7)
  have aZ:(IntKind.i64.wrap ((aa.length:Int) - 1))=av:=(aau _).trans ax
  replace H:=jJ H;obtain⟨bg,bi,H⟩:=H
  replace H:=jJ H;obtain⟨bn,bq,H⟩:=H
  obtain⟨aQ,ai⟩:=ky ((aa.take ((av):Int).toNat):List S92)
  replace H:=kv ai H
  have H':=aM H
  clear H
  obtain⟨aJ,aK,aR⟩:=N_slice ae.out
  subst aR
  go_wp2_with (first|((with_reducible refine jc 74 13 ?_);refine jK func74 (SaF.calls k1 _ _ aa ak _ (kC (N_reads' ae.out).2.2) (N_reads' ae.out).2.1 A7.out) ?_;intro aS hb;replace ae:=aM (N_below (qN ae) hb);replace HI0:=aM (Sad.below (qI HI0) hb);replace HK:=kY hb;replace HB:=kH hb;clear hb;have aT:((av):Int)<=((aa.length:Int):Int):=qD;obtain⟨i014,aC,_,aL,_⟩:=info_parts al4;have aF:=apG (P:=prog) 75 92 .i64 underlying75 aC aJ aa.length aK (av) (qD) aT (N_reads' ae.out).2.1;have ay:=N_take (m:=((av):Int).toNat) ae.out (by omega);have aN:aQ.length=((av):Int).toNat:=(by rw [ai.out,List.length_take];omega);rw [<- ai.out] at ay;rw [<- aN] at ay aF;clear aN aC aL ae;have aO:=aM ay;clear ay;replace aT:=eq_true aT))
  go_roundg k1
  case measure=>have:=aY.out;omega
  exact⟨_,H',⟨by have:=aY.out;omega⟩,⟨qN aO⟩,⟨qI HI0⟩,⟨qH⟩,⟨qB⟩⟩
 obtain⟨rfl,rfl⟩:=oJ2 H
 obtain⟨aU,aV,aW⟩:=N_slice ae.out
 subst aW
 go_wp2_with (first|((with_reducible refine jc 74 13 ?_);refine jK func74 (SaF.calls k1 _ _ aa ak _ (kC (N_reads' ae.out).2.2) (N_reads' ae.out).2.1 A7.out) ?_;intro aS hb;replace ae:=aM (N_below (qN ae) hb);replace HI0:=aM (Sad.below (qI HI0) hb);replace HK:=kY hb;replace HB:=kH hb;clear hb))
 go_ret
 exact⟨_,qW,by (with_reducible repeat (first|apply N_alloc|apply N_drewN|apply N_drew));exact N_mono ae.out (fun _ hk=>hk.1),qI HI0,qB,qH⟩
end Go.Proofs.YtebpplallecogaaGreat.M
namespace Go.Proofs.YtebpplallecogaaGreat.M
open Go.Proofs.Tryz Go.RowKit Go.Proofs.YtebpplallecogaaGreatW.PrintWords Go.Proofs.YtebpplallecogaaGreatW.PrintLast Go.Proofs.YtebpplallecogaaGreatW.PrintMore
attribute [local go_sem] aan aal aay aax aaf aae aam aak
def aj7 (a0:Int) (a1:Bool):Option (Bool):=if a1=true then ((adA a0 0 11).bind fun aa=>(some aa)) else (some (a0 == 0))
theorem SaK.calls (a0:Int) (a1 r:Bool) (w:World) (h:aj7 a0 a1=some r) :
  Calls prog 76 #[iV a0,.bool a1] w fun e w'=>e = .returned (.bool r)/\aaA w w':=by
 have H:=h;unfold aj7 at H
 clear h
 replace H:=jB H;rcases H with ⟨rfl,H⟩ | ⟨rfl,H⟩
 ·obtain⟨aa,A4,H⟩:=qE H
  try dsimp only at H
  obtain rfl:=oJ H
  go_enter func76,ntmps76
  go_wp2_with (first|((with_reducible refine jc 46 7 ?_);refine jK func46 (Sbp.calls a0 0 11 aa _ A4.out) ?_;rintro w' ⟨nd,rfl⟩))
  go_ret
  exact⟨qZ,qU⟩
 obtain rfl:=oJ H
 go_enter func76,ntmps76
 go_wp2
 go_ret
 exact⟨qZ,qU⟩
def aeF (ag aa ae af ah:Int) (a1 a2 a3:Bool):Option (Bool):=(aj7 aa a1).bind fun ai=>(if ai=true then ((aj7 ae a2).bind fun aj=>(if aj=true then ((aj7 af a3).bind fun ak=>(some ak)) else (some false))) else (some false))
theorem apb {G:Prop} (h:G:=by
  go_enter func65,ntmps65
  go_wp2_with (first|((with_reducible refine jd 4 ?_);refine jY _ 27 ?_;intro av hg ay au hb;have ax:=kG hg;replace HB:=kH hb;clear hb hg;have az:=jz5 au)|((with_reducible refine jc 76 12 ?_);refine jG func76 #[iV aa,.bool a1] ?_;refine (SaK.calls _ _ _ _ (aa1.out (by assumption))).mono ?_;rintro e w' ⟨rfl,⟨nd,rfl⟩⟩;refine⟨_,rfl,?_⟩)|(go_at_call 76;(with_reducible refine (SaK.calls _ _ _ _ (aa1.out (by assumption))).mono ?_);rintro e w' ⟨rfl,⟨nd,rfl⟩⟩))
  go_ret
  exact⟨qW,qB⟩):G:=h
theorem SaL.calls (ag aa ae af ah:Int) (a1 a2 a3 r:Bool) (w:World) (h:aeF ag aa ae af ah a1 a2 a3=some r) :
  Calls prog 65 #[.agg #[iV ag,iV aa,iV ae,iV af,iV ah],.bool a1,.bool a2,.bool a3] w fun e w'=>e = .returned (.bool r)/\Below w.heap.size w w':=by
 have aA:=underlying27
 have HB:=jb_ w
 have H:=h;unfold aeF at H
 clear h
 obtain⟨ai,A5,H⟩:=qE H
 try dsimp only at H
 replace H:=jB H;rcases H with ⟨rfl,H⟩ | ⟨rfl,H⟩
 ·obtain⟨aj,A7,H⟩:=qE H
  try dsimp only at H
  replace H:=jB H;rcases H with ⟨rfl,H⟩ | ⟨rfl,H⟩
  ·obtain⟨ak,A9,H⟩:=qE H
   try dsimp only at H
   obtain rfl:=oJ H
   exact apb
  obtain rfl:=oJ H
  exact apb
 obtain rfl:=oJ H
 exact apb
def aj8 (a0:Int):Option (Bool):=(adA a0 (-2147483648) 2147483647).bind fun aa=>(some aa)
theorem ail (a0:Int) (r:Bool) (w:World) (h:aj8 a0=some r) :
  Calls prog 66 #[iV a0] w fun e w'=>e = .returned (.bool r)/\aaA w w':=by
 have H:=h;unfold aj8 at H
 clear h
 obtain⟨aa,A2,H⟩:=qE H
 try dsimp only at H
 obtain rfl:=oJ H
 go_enter func66,ntmps66
 go_wp2_with (first|((with_reducible refine jc 46 4 ?_);refine jG func46 #[iV a0,iV (-2147483648),iV 2147483647] ?_;refine (Sbp.calls _ _ _ _ _ (aa1.out (by assumption))).mono ?_;rintro e w' ⟨rfl,⟨nd,rfl⟩⟩;refine⟨_,rfl,?_⟩))
 go_ret
 exact⟨qZ,qU⟩
def aiY (af ag ah ai ae a1:Int):Option (Bool):=if af=1 then ((aeF af ag ah ai ae true false false).bind fun au=>(if au=true then ((aj8 ae).bind fun av=>(some av)) else (some false))) else (if af=2 then ((aeF af ag ah ai ae true true false).bind fun ax=>(if ax=true then (some (ae == 0)) else (some false))) else (if af=3 then ((aeF af ag ah ai ae true true true).bind fun ay=>(if ay=true then ((aj0 ae).bind fun az=>(some az)) else (some false))) else (if af=4 then ((aeF af ag ah ai ae false false false).bind fun aA=>(if aA=true then (if ae>=0 then (some (decide (ae < a1))) else (some false)) else (some false))) else (if af=5 then ((aeF af ag ah ai ae false true false).bind fun aB=>(if aB=true then (if ae>=0 then (some (decide (ae < a1))) else (some false)) else (some false))) else (if af=6 then ((aeF af ag ah ai ae false true false).bind fun aC=>(if aC=true then ((adA ae 0 2).bind fun aD=>(some aD)) else (some false))) else (if af=7 then ((aeF af ag ah ai ae true false false).bind fun aF=>(if aF=true then ((adA ae 0 2).bind fun aG=>(some aG)) else (some false))) else (if af=9 then ((aeF af ag ah ai ae false true false).bind fun aH=>(if aH=true then (some (ae == 0)) else (some false))) else (if af=8 then ((aeF af ag ah ai ae false false false).bind fun aI=>(if aI=true then (some (ae == 0)) else (some false))) else (if af=10 then ((aeF af ag ah ai ae false false false).bind fun aJ=>(if aJ=true then (some (ae == 0)) else (some false))) else (some false))))))))))
theorem ack {G:Prop} (h:G:=by
  go_enter func54,ntmps54
  go_wp2_with (first|((with_reducible refine jd 2 ?_);refine jY _ 27 ?_;intro bv hg bA aa hb;have bz:=kG hg;replace HB:=kH hb;clear hb hg;have bB:=jz5 aa)|((with_reducible refine jc 65 10 ?_);refine jG func65 #[.agg #[iV af,iV ag,iV ah,iV ai,iV ae],.bool true,.bool false,.bool false] ?_;refine (SaL.calls _ _ _ _ _ _ _ _ _ _ (aa1.out (by assumption))).mono ?_;rintro e bC ⟨rfl,hb⟩;refine⟨_,rfl,?_⟩;replace aa:=kB aa hb;replace HB:=kH hb;clear hb;have bD:=jz5 aa)|(go_at_call 66;(with_reducible refine (ail _ _ _ (aa1.out (by assumption))).mono ?_);rintro e w' ⟨rfl,⟨nd,rfl⟩⟩)|((with_reducible refine jc 65 19 ?_);refine jG func65 #[.agg #[iV af,iV ag,iV ah,iV ai,iV ae],.bool true,.bool true,.bool false] ?_;refine (SaL.calls _ _ _ _ _ _ _ _ _ _ (aa1.out (by assumption))).mono ?_;rintro e bE ⟨rfl,hb⟩;refine⟨_,rfl,?_⟩;replace aa:=kB aa hb;replace HB:=kH hb;clear hb;have bF:=jz5 aa)|((with_reducible refine jc 65 28 ?_);refine jG func65 #[.agg #[iV af,iV ag,iV ah,iV ai,iV ae],.bool true,.bool true,.bool true] ?_;refine (SaL.calls _ _ _ _ _ _ _ _ _ _ (aa1.out (by assumption))).mono ?_;rintro e bG ⟨rfl,hb⟩;refine⟨_,rfl,?_⟩;replace aa:=kB aa hb;replace HB:=kH hb;clear hb;have bH:=jz5 aa)|(go_at_call 67;(with_reducible refine (acl _ _ _ (aa1.out (by assumption))).mono ?_);rintro e w' ⟨rfl,⟨nd,rfl⟩⟩)|((with_reducible refine jc 65 37 ?_);refine jG func65 #[.agg #[iV af,iV ag,iV ah,iV ai,iV ae],.bool false,.bool false,.bool false] ?_;refine (SaL.calls _ _ _ _ _ _ _ _ _ _ (aa1.out (by assumption))).mono ?_;rintro e bI ⟨rfl,hb⟩;refine⟨_,rfl,?_⟩;replace aa:=kB aa hb;replace HB:=kH hb;clear hb;have bJ:=jz5 aa)|((with_reducible refine jc 65 52 ?_);refine jG func65 #[.agg #[iV af,iV ag,iV ah,iV ai,iV ae],.bool false,.bool true,.bool false] ?_;refine (SaL.calls _ _ _ _ _ _ _ _ _ _ (aa1.out (by assumption))).mono ?_;rintro e bK ⟨rfl,hb⟩;refine⟨_,rfl,?_⟩;replace aa:=kB aa hb;replace HB:=kH hb;clear hb;have bL:=jz5 aa)|((with_reducible refine jc 65 67 ?_);refine jG func65 #[.agg #[iV af,iV ag,iV ah,iV ai,iV ae],.bool false,.bool true,.bool false] ?_;refine (SaL.calls _ _ _ _ _ _ _ _ _ _ (aa1.out (by assumption))).mono ?_;rintro e bM ⟨rfl,hb⟩;refine⟨_,rfl,?_⟩;replace aa:=kB aa hb;replace HB:=kH hb;clear hb;have bN:=jz5 aa)|(go_at_call 46;(with_reducible refine (Sbp.calls _ _ _ _ _ (aa1.out (by assumption))).mono ?_);rintro e w' ⟨rfl,⟨nd,rfl⟩⟩)|((with_reducible refine jc 65 76 ?_);refine jG func65 #[.agg #[iV af,iV ag,iV ah,iV ai,iV ae],.bool true,.bool false,.bool false] ?_;refine (SaL.calls _ _ _ _ _ _ _ _ _ _ (aa1.out (by assumption))).mono ?_;rintro e bO ⟨rfl,hb⟩;refine⟨_,rfl,?_⟩;replace aa:=kB aa hb;replace HB:=kH hb;clear hb;have bP:=jz5 aa)|((with_reducible refine jc 65 85 ?_);refine jG func65 #[.agg #[iV af,iV ag,iV ah,iV ai,iV ae],.bool false,.bool true,.bool false] ?_;refine (SaL.calls _ _ _ _ _ _ _ _ _ _ (aa1.out (by assumption))).mono ?_;rintro e bQ ⟨rfl,hb⟩;refine⟨_,rfl,?_⟩;replace aa:=kB aa hb;replace HB:=kH hb;clear hb;have bR:=jz5 aa)|((with_reducible refine jc 65 95 ?_);refine jG func65 #[.agg #[iV af,iV ag,iV ah,iV ai,iV ae],.bool false,.bool false,.bool false] ?_;refine (SaL.calls _ _ _ _ _ _ _ _ _ _ (aa1.out (by assumption))).mono ?_;rintro e bS ⟨rfl,hb⟩;refine⟨_,rfl,?_⟩;replace aa:=kB aa hb;replace HB:=kH hb;clear hb;have bT:=jz5 aa))
  go_ret
  exact⟨qW,qB⟩):G:=h
theorem Say.calls (af ag ah ai ae a1:Int) (r:Bool) (w:World) (h:aiY af ag ah ai ae a1=some r) :
  Calls prog 54 #[.agg #[iV af,iV ag,iV ah,iV ai,iV ae],iV a1] w fun e w'=>e = .returned (.bool r)/\Below w.heap.size w w':=by
 have bU:=underlying27
 have HB:=jb_ w
 have H:=h;unfold aiY at H
 clear h
 replace H:=jE H;rcases H with ⟨bq,bu,H⟩ | ⟨c3,bq,bu,H⟩
 ·obtain⟨au,A4,H⟩:=qE H
  try dsimp only at H
  replace H:=jB H;rcases H with ⟨rfl,H⟩ | ⟨rfl,H⟩
  ·obtain⟨av,A6,H⟩:=qE H
   try dsimp only at H
   obtain rfl:=oJ H
   exact ack
  obtain rfl:=oJ H
  exact ack
 replace H:=jE H;rcases H with ⟨aK,aL,H⟩ | ⟨c14,aK,aL,H⟩
 ·obtain⟨ax,bW,H⟩:=qE H
  try dsimp only at H
  replace H:=jB H;rcases H with ⟨rfl,H⟩ | ⟨rfl,H⟩
  ·obtain rfl:=oJ H
   exact ack
  obtain rfl:=oJ H
  exact ack
 replace H:=jE H;rcases H with ⟨aN,aO,H⟩ | ⟨c24,aN,aO,H⟩
 ·obtain⟨ay,bX,H⟩:=qE H
  try dsimp only at H
  replace H:=jB H;rcases H with ⟨rfl,H⟩ | ⟨rfl,H⟩
  ·obtain⟨az,bY,H⟩:=qE H
   try dsimp only at H
   obtain rfl:=oJ H
   exact ack
  obtain rfl:=oJ H
  exact ack
 replace H:=jE H;rcases H with ⟨aP,aQ,H⟩ | ⟨bZ,aP,aQ,H⟩
 ·obtain⟨aA,cu,H⟩:=qE H
  try dsimp only at H
  replace H:=jB H;rcases H with ⟨rfl,H⟩ | ⟨rfl,H⟩
  ·replace H:=jD H;rcases H with ⟨aR,H⟩ | ⟨aR,H⟩
   ·obtain rfl:=oJ H
    exact ack
   obtain rfl:=oJ H
   exact ack
  obtain rfl:=oJ H
  exact ack
 replace H:=jE H;rcases H with ⟨aS,aT,H⟩ | ⟨cz,aS,aT,H⟩
 ·obtain⟨aB,cB,H⟩:=qE H
  try dsimp only at H
  replace H:=jB H;rcases H with ⟨rfl,H⟩ | ⟨rfl,H⟩
  ·replace H:=jD H;rcases H with ⟨aU,H⟩ | ⟨aU,H⟩
   ·obtain rfl:=oJ H
    exact ack
   obtain rfl:=oJ H
   exact ack
  obtain rfl:=oJ H
  exact ack
 replace H:=jE H;rcases H with ⟨aV,aW,H⟩ | ⟨cK,aV,aW,H⟩
 ·obtain⟨aC,cO,H⟩:=qE H
  try dsimp only at H
  replace H:=jB H;rcases H with ⟨rfl,H⟩ | ⟨rfl,H⟩
  ·obtain⟨aD,df,H⟩:=qE H
   try dsimp only at H
   obtain rfl:=oJ H
   exact ack
  obtain rfl:=oJ H
  exact ack
 replace H:=jE H;rcases H with ⟨aX,aY,H⟩ | ⟨c76,aX,aY,H⟩
 ·obtain⟨aF,dh,H⟩:=qE H
  try dsimp only at H
  replace H:=jB H;rcases H with ⟨rfl,H⟩ | ⟨rfl,H⟩
  ·obtain⟨aG,di,H⟩:=qE H
   try dsimp only at H
   obtain rfl:=oJ H
   exact ack
  obtain rfl:=oJ H
  exact ack
 replace H:=jE H;rcases H with ⟨aZ,bg,H⟩ | ⟨c87,aZ,bg,H⟩
 ·obtain⟨aH,dn,H⟩:=qE H
  try dsimp only at H
  replace H:=jB H;rcases H with ⟨rfl,H⟩ | ⟨rfl,H⟩
  ·obtain rfl:=oJ H
   exact ack
  obtain rfl:=oJ H
  exact ack
 replace H:=jE H;rcases H with ⟨bi,bn,H⟩ | ⟨dw,bi,bn,H⟩
 ·obtain⟨aI,dx,H⟩:=qE H
  try dsimp only at H
  replace H:=jB H;rcases H with ⟨rfl,H⟩ | ⟨rfl,H⟩
  ·obtain rfl:=oJ H
   exact ack
  obtain rfl:=oJ H
  exact ack
 replace H:=jE H;rcases H with ⟨aj,ak,H⟩ | ⟨c107,aj,ak,H⟩
 ·obtain⟨aJ,bV,H⟩:=qE H
  try dsimp only at H
  replace H:=jB H;rcases H with ⟨rfl,H⟩ | ⟨rfl,H⟩
  ·obtain rfl:=oJ H
   exact ack
  obtain rfl:=oJ H
  exact ack
 obtain rfl:=oJ H
 exact ack
def acZ:Nat->List S27->Int->Int->Option (Bool)
 | 0,_,_,_=>none
 | k+1,x0,x3,x4=>if x4 < x3 then (if 0<=x4 then (if x4 < (x0.length:Int) then ((aiY ((aa0 x0 x4).f0) ((aa0 x0 x4).f1) ((aa0 x0 x4).f2) ((aa0 x0 x4).f3) ((aa0 x0 x4).f4) x3).bind fun aQ=>(if aQ=true then (acZ k x0 x3 (wrap64 (x4+1))) else (some false))) else (none)) else (none)) else (if 0<=(wrap64 (x3 - 1)) then (if (wrap64 (x3 - 1)) < (x0.length:Int) then (if ((aa0 x0 (wrap64 (x3 - 1))).f0)=10 then (some true) else (some (((aa0 x0 (wrap64 (x3 - 1))).f0) == 4))) else (none)) else (none))
def Sai.f (k:Nat) (l0:List S27):Option (Bool):=(adA (l0.length:Int) 1 600).bind fun aR=>(if aR=true then (acZ k l0 (l0.length:Int) 0) else (some false))
theorem ah1:∀ k,(∀ y0 y1 y2,LeO (acZ k y0 y1 y2) (acZ (k+1) y0 y1 y2))
 | 0=>fun _ _ _ r h=>by simp [acZ] at h
 | k+1=>by
  have bu:=ah1 k
  intros;unfold acZ;exact mM
theorem Sai.mono:∀ a0 k,LeO (Sai.f k a0) (Sai.f (k+1) a0):=by
 intro a0 k;have bu:=ah1 k;unfold Sai.f;exact mM
theorem Sai.calls (k:Nat) (A0:Option Addr) (c0:Nat) (l0:List S27) (r:Bool) (w:World) (hr0:Kd.C k27 w A0 l0.length l0) (hc0:l0.length<=c0) (h:Sai.f k l0=some r) :
  Calls prog 36 #[.slice A0 l0.length c0] w fun e w'=>e = .returned (.bool r)/\Below w.heap.size w w':=by
 have bv:=underlying27
 have aS:=aM hr0
 have bB:=aM hc0
 clear hr0 hc0
 have HB:=jb_ w
 have H:=h;unfold Sai.f at H
 clear h
 obtain⟨aR,A2,H⟩:=qE H
 try dsimp only at H
 replace H:=jB H;rcases H with ⟨rfl,H⟩ | ⟨rfl,H⟩
 ·have H':=aM H
  clear H
  go_enter func36,ntmps36
  go_wp2_with (first|((with_reducible refine jc 46 8 ?_);refine jK func46 (Sbp.calls (l0.length:Int) 1 600 true _ A2.out) ?_;rintro w' ⟨nd,rfl⟩))
  go_loopg [4] k (fun kq v4 w'=>∃ (aa:Int),v4 = iV aa/\aa1 (acZ kq l0 (l0.length:Int) aa=some r)/\aa1 (kq<=k)/\aa1 (Below w.heap.size w w'))
  case atStart=>exact⟨(0),qZ,H',⟨Nat.le_refl _⟩,⟨qB⟩⟩
  clear H'
  obtain⟨aa,rfl,HA,bi,HB⟩:=hrel
  rcases gk with _|k1
  ·exact absurd HA.out (by simp [acZ])
  have H:=HA.out
  clear HA
  simp only [acZ] at H
  replace H:=jD H;rcases H with ⟨aX,H⟩ | ⟨aX,H⟩
  ·replace H:=jI H;obtain⟨bz,H⟩:=H
   replace H:=jI H;obtain⟨bA,H⟩:=H
   obtain⟨aQ,A7,H⟩:=qE H
   try dsimp only at H
   replace H:=jB H;rcases H with ⟨rfl,H⟩ | ⟨rfl,H⟩
   ·have H':=aM H
    clear H
    have aA:0<=(aa:Int):=qD
    have aB:aa < (l0.length:Int):=qD
    obtain⟨aT,aL,ae,af,ag,ah,ai⟩:=ab2 aS.out aa aA aB
    cases aL
    replace ae:=kx HB ae
    replace af:=kx HB af
    replace ag:=kx HB ag
    replace ah:=kx HB ah
    replace ai:=kx HB ai
    replace aA:=eq_true aA
    replace aB:=eq_true aB
    go_wp2_with (first|((with_reducible refine jc 54 20 ?_);refine jG func54 #[.agg #[iV ((aa0 l0 aa).f0),iV ((aa0 l0 aa).f1),iV ((aa0 l0 aa).f2),iV ((aa0 l0 aa).f3),iV ((aa0 l0 aa).f4)],iV (l0.length:Int)] ?_;refine (Say.calls _ _ _ _ _ _ _ _ (aa1.out (by assumption))).mono ?_;rintro e aY ⟨rfl,hb⟩;refine⟨_,rfl,?_⟩;replace HB:=kH hb;clear hb))
    go_roundg k1
    case measure=>have:=bi.out;omega
    exact⟨_,qZ,H',⟨by have:=bi.out;omega⟩,⟨qB⟩⟩
   obtain rfl:=oJ H
   have aA:0<=(aa:Int):=qD
   have aB:aa < (l0.length:Int):=qD
   obtain⟨aT,aL,ae,af,ag,ah,ai⟩:=ab2 aS.out aa aA aB
   cases aL
   replace ae:=kx HB ae
   replace af:=kx HB af
   replace ag:=kx HB ag
   replace ah:=kx HB ah
   replace ai:=kx HB ai
   replace aA:=eq_true aA
   replace aB:=eq_true aB
   go_wp2_with (first|((with_reducible refine jc 54 20 ?_);refine jG func54 #[.agg #[iV ((aa0 l0 aa).f0),iV ((aa0 l0 aa).f1),iV ((aa0 l0 aa).f2),iV ((aa0 l0 aa).f3),iV ((aa0 l0 aa).f4)],iV (l0.length:Int)] ?_;refine (Say.calls _ _ _ _ _ _ _ _ (aa1.out (by assumption))).mono ?_;rintro e aY ⟨rfl,hb⟩;refine⟨_,rfl,?_⟩;replace HB:=kH hb;clear hb))
   go_ret
   exact⟨qW,qB⟩
  obtain⟨aj,az⟩:∃ j_:Int,(wrap64 ((l0.length:Int) - 1))=j_:=⟨_,rfl⟩
  replace H:(if 0<=(aj) then (if (aj) < (l0.length:Int) then (if ((aa0 l0 (aj)).f0)=10 then (some true) else (some (((aa0 l0 (aj)).f0) == 4))) else (none)) else (none))=some r:=by first|(rw [az] at H;exact H)|(simp only [az] at H ⊢;exact H)
  have aZ:(IntKind.i64.wrap ((l0.length:Int) - 1))=aj:=(aau _).trans az
  replace H:=jI H;obtain⟨bn,H⟩:=H
  replace H:=jI H;obtain⟨bq,H⟩:=H
  replace H:=jE H;rcases H with ⟨aU,aV,H⟩ | ⟨c14,aU,aV,H⟩
  ·obtain rfl:=oJ H
   have aC:0<=((aj):Int):=qD
   have aD:(aj) < (l0.length:Int):=qD
   obtain⟨aK,aN,ak,au,av,ax,ay⟩:=ab2 aS.out (aj) aC aD
   cases aN
   replace ak:=kx HB ak
   replace au:=kx HB au
   replace av:=kx HB av
   replace ax:=kx HB ax
   replace ay:=kx HB ay
   replace aC:=eq_true aC
   replace aD:=eq_true aD
   go_wp2
   go_ret
   exact⟨by first|rfl|(simp [aaF,aaE] <;> rfl)|(simp only [<- az];first|rfl|(simp [aaF,aaE] <;> rfl))|(simp [*,aaF,aaE] <;> rfl),qB⟩
  obtain rfl:=oJ H
  have aC:0<=((aj):Int):=qD
  have aD:(aj) < (l0.length:Int):=qD
  obtain⟨aK,aN,ak,au,av,ax,ay⟩:=ab2 aS.out (aj) aC aD
  cases aN
  replace ak:=kx HB ak
  replace au:=kx HB au
  replace av:=kx HB av
  replace ax:=kx HB ax
  replace ay:=kx HB ay
  replace aC:=eq_true aC
  replace aD:=eq_true aD
  have aO:0<=((aj):Int):=qD
  have aP:(aj) < (l0.length:Int):=qD
  obtain⟨aW,bg,aF,aG,aH,aI,aJ⟩:=ab2 aS.out (aj) aO aP
  obtain rfl:aK=aW:=(by injection bg)
  replace aF:=kx HB aF
  replace aG:=kx HB aG
  replace aH:=kx HB aH
  replace aI:=kx HB aI
  replace aJ:=kx HB aJ
  replace aO:=eq_true aO
  replace aP:=eq_true aP
  go_wp2
  go_ret
  exact⟨by first|rfl|(simp [aaF,aaE] <;> rfl)|(simp only [<- az];first|rfl|(simp [aaF,aaE] <;> rfl))|(simp [*,aaF,aaE] <;> rfl),qB⟩
 obtain rfl:=oJ H
 go_enter func36,ntmps36
 go_wp2_with (first|((with_reducible refine jc 46 8 ?_);refine jG func46 #[iV (l0.length:Int),iV 1,iV 600] ?_;refine (Sbp.calls _ _ _ _ _ (aa1.out (by assumption))).mono ?_;rintro e w' ⟨rfl,⟨nd,rfl⟩⟩;refine⟨_,rfl,?_⟩))
 go_ret
 exact⟨qW,qB⟩
def adp:Nat->Int->Bool->Int->Int->Int->Int->Int->Option (List Int)
 | 0,_,_,_,_,_,_,_=>none
 | k+1,x1,bC,xa,xb,xc,xd,xe=>if bC=true then (some (([xe,wrap64 (x1+1)]:List Int))) else (if xa=5 then (if xe > (wrap64 (x1+1)) then (some (([wrap64 (x1+1),xe]:List Int))) else (some (([wrap64 (x1+1)]:List Int)))) else (some (([wrap64 (x1+1)]:List Int))))
def afr (k:Nat) (l0:List S27) (a1:Int):Option (List Int):=if 0<=a1 then (if a1 < (l0.length:Int) then (if ((aa0 l0 a1).f0)=10 then (some (([]:List Int))) else (if ((aa0 l0 a1).f0)=4 then (some (([(aa0 l0 a1).f4]:List Int))) else (if ((aa0 l0 a1).f0)=5 then (adp k a1 (decide (((aa0 l0 a1).f4) < (wrap64 (a1+1)))) ((aa0 l0 a1).f0) ((aa0 l0 a1).f1) ((aa0 l0 a1).f2) ((aa0 l0 a1).f3) ((aa0 l0 a1).f4)) else (adp k a1 false ((aa0 l0 a1).f0) ((aa0 l0 a1).f1) ((aa0 l0 a1).f2) ((aa0 l0 a1).f3) ((aa0 l0 a1).f4))))) else (none)) else (none)
theorem ah5:∀ k,(∀ y0 y1 y2 y3 y4 y5 y6,LeO (adp k y0 y1 y2 y3 y4 y5 y6) (adp (k+1) y0 y1 y2 y3 y4 y5 y6))
 | 0=>fun _ _ _ _ _ _ _ r h=>by simp [adp] at h
 | k+1=>by
  have bD:=ah5 k
  intros;unfold adp;exact mM
theorem SaW.mono:∀ a0 a1 k,LeO (afr k a0 a1) (afr (k+1) a0 a1):=by
 intro a0 a1 k;have bD:=ah5 k;unfold afr;exact mM
theorem aeC (k:Nat) (A0:Option Addr) (c0:Nat) (l0:List S27) (a1:Int) (r:List Int) (w:World) (hr0:Kd.C k27 w A0 l0.length l0) (hc0:l0.length<=c0) (h:afr k l0 a1=some r) :
  Calls prog 55 #[.slice A0 l0.length c0,iV a1] w fun e w'=>∃ bB:Value,e = .returned (bB)/\Kd.R (Kd.int .i64) 3 w' w.heap.size (fun _=>True) bB r/\Below w.heap.size w w':=by
 have bE:=underlying27
 have bu:=aM hr0
 have cu:=aM hc0
 clear hr0 hc0
 have HB:=jb_ w
 have H:=h;unfold afr at H
 clear h
 replace H:=jI H;obtain⟨bv,H⟩:=H
 replace H:=jI H;obtain⟨bz,H⟩:=H
 replace H:=jE H;rcases H with ⟨aR,aS,H⟩ | ⟨c5,aR,aS,H⟩
 ·obtain⟨bF,av⟩:=ky ([]:List Int)
  replace H:=kv av H
  obtain rfl:=oJ H
  obtain⟨aJ,aC,ae,af,ag,ah,ai,aO,aP⟩:=aoS bu a1
  cases aC
  go_enter func55,ntmps55
  go_wp2_with (first|((with_reducible refine jd 5 ?_);refine jY _ 27 ?_;intro aj hg w6 aa hb;have aK:=kG hg;replace HB:=kH hb;clear hb hg;have cz:=jz5 aa)|((with_reducible refine jd 14 ?_);refine jV (Kd.int .i64) 3 ([]:List Int) [] (aa9 _ _) ?_;intro bG w8 aT hb;replace aT:=kr av aT;have aU:=kL aT;replace aa:=aM (abW (g:=aj) (qF aa) hb);replace HB:=kH hb;clear hb aT))
  go_ret
  exact⟨_,qW,qR aU,qB⟩
 replace H:=jE H;rcases H with ⟨aL,aN,H⟩ | ⟨c10,aL,aN,H⟩
 ·obtain⟨bH,ax⟩:=ky ((([(aa0 l0 a1).f4]:List Int)):List Int)
  replace H:=kv ax H
  obtain rfl:=oJ H
  obtain⟨aJ,aC,ae,af,ag,ah,ai,aO,aP⟩:=aoS bu a1
  cases aC
  go_enter func55,ntmps55
  go_wp2_with (first|((with_reducible refine jd 5 ?_);refine jY _ 27 ?_;intro aj hg cB aa hb;have aK:=kG hg;replace HB:=kH hb;clear hb hg;have bI:=jz5 aa)|((with_reducible refine jd 21 ?_);refine jV (Kd.int .i64) 3 ([(aa0 l0 a1).f4]:List Int) [iV ((aa0 l0 a1).f4)] (aat.one (show Kd.M (Kd.int .i64) _ _ _ ((aa0 l0 a1).f4) [iV ((aa0 l0 a1).f4)] from rfl) (aa9 _ _)) ?_;intro bJ cK aD hb;replace aD:=kr ax aD;have aV:=kL aD;replace aa:=aM (abW (g:=aj) (qF aa) hb);replace HB:=kH hb;clear hb aD))
  go_ret
  exact⟨_,qW,qR aV,qB⟩
 have aQ:=aM H
 clear H
 obtain⟨aJ,aC,ae,af,ag,ah,ai,aO,aP⟩:=aoS bu a1
 cases aC
 go_enter func55,ntmps55
 go_upto_region 6 with (first|((with_reducible refine jd 5 ?_);refine jY _ 27 ?_;intro aj hg w16 aa hb;have aK:=kG hg;replace HB:=kH hb;clear hb hg;have bA:=jz5 aa))
 (try simp only [Act.put,List.setIfInBounds_toArray,List.set_cons_zero,List.set_cons_succ])
 go_cut [22] (fun v22 wc=>∃ (kq:Nat) (au:Bool),v22 = .bool au/\aa1 (adp kq a1 au ((aa0 l0 a1).f0) ((aa0 l0 a1).f1) ((aa0 l0 a1).f2) ((aa0 l0 a1).f3) ((aa0 l0 a1).f4)=some r)/\aa1 (kq<=k)/\aa1 (wc.heap[aj]?=some (.cells #[iV ((aa0 l0 a1).f0),iV ((aa0 l0 a1).f1),iV ((aa0 l0 a1).f2),iV ((aa0 l0 a1).f3),iV ((aa0 l0 a1).f4)] 27 (0,0)))/\aa1 (Below w.heap.size w wc))
 case first =>
  have H:=aQ.out
  clear aQ
  replace H:=jE H;rcases H with ⟨ak,aW,H⟩ | ⟨c18,ak,aW,H⟩
  ·(first|rw [ak]|(simp only [aau,aaD];rw [ak])|skip)
   have H':=aM H
   clear H
   have bK:=jz5 aa
   go_wp2
   go_meet
   exact⟨_,(decide (((aa0 l0 a1).f4) < (wrap64 (a1+1)))),qZ,H',⟨by first|omega|exact Nat.le_refl _⟩,⟨qF aa⟩,⟨qB⟩⟩
  (first|rw [ak]|(simp only [aau,aaD];rw [ak])|skip)
  have H':=aM H
  clear H
  have bL:=jz5 aa
  go_wp2
  go_meet
  exact⟨_,(false),qZ,H',⟨by first|omega|exact Nat.le_refl _⟩,⟨qF aa⟩,⟨qB⟩⟩
 clear aQ
 try clear bv;try clear bz;try clear c5;try clear aR;try clear aS;try clear c10;try clear aL;try clear aN;try clear bA;try clear ae;try clear af;try clear ag;try clear ah;try clear ai;try clear aO;try clear aP
 obtain⟨kq,au,rfl,HA,bM,aa,HB⟩:=hcut
 cases kq with
 | zero=>exact absurd HA.out (by simp [adp])
 | succ bN =>
  have H:=HA.out
  clear HA
  simp only [adp] at H
  replace H:=jB H;rcases H with ⟨rfl,H⟩ | ⟨rfl,H⟩
  ·obtain⟨bO,ay⟩:=ky ((([((aa0 l0 a1).f4),wrap64 (a1+1)]:List Int)):List Int)
   replace H:=kv ay H
   obtain rfl:=oJ H
   have bP:=jz5 aa
   go_wp2_with (first|((with_reducible refine jd 37 ?_);refine jV (Kd.int .i64) 3 ([((aa0 l0 a1).f4),wrap64 (a1+1)]:List Int) [iV ((aa0 l0 a1).f4),iV (wrap64 (a1+1))] (aat.one (show Kd.M (Kd.int .i64) _ _ _ ((aa0 l0 a1).f4) [iV ((aa0 l0 a1).f4)] from rfl) (aat.one (show Kd.M (Kd.int .i64) _ _ _ (wrap64 (a1+1)) [iV (wrap64 (a1+1))] from rfl) (aa9 _ _))) ?_;intro bQ cO aF hb;replace aF:=kr ay aF;have aX:=kL aF;replace aa:=kB aa hb;replace HB:=kH hb;clear hb aF))
   go_ret
   exact⟨_,qW,qR aX,qB⟩
  replace H:=jE H;rcases H with ⟨aY,aZ,H⟩ | ⟨df,aY,aZ,H⟩
  ·replace H:=jD H;rcases H with ⟨bg,H⟩ | ⟨bg,H⟩
   ·obtain⟨bR,az⟩:=ky ((([wrap64 (a1+1),((aa0 l0 a1).f4)]:List Int)):List Int)
    replace H:=kv az H
    obtain rfl:=oJ H
    have bS:=jz5 aa
    go_wp2_with (first|((with_reducible refine jd 53 ?_);refine jV (Kd.int .i64) 3 ([wrap64 (a1+1),((aa0 l0 a1).f4)]:List Int) [iV (wrap64 (a1+1)),iV ((aa0 l0 a1).f4)] (aat.one (show Kd.M (Kd.int .i64) _ _ _ (wrap64 (a1+1)) [iV (wrap64 (a1+1))] from rfl) (aat.one (show Kd.M (Kd.int .i64) _ _ _ ((aa0 l0 a1).f4) [iV ((aa0 l0 a1).f4)] from rfl) (aa9 _ _))) ?_;intro bT dh aG hb;replace aG:=kr az aG;have bi:=kL aG;replace aa:=kB aa hb;replace HB:=kH hb;clear hb aG))
    go_ret
    exact⟨_,qW,qR bi,qB⟩
   obtain⟨bU,aA⟩:=ky ((([wrap64 (a1+1)]:List Int)):List Int)
   replace H:=kv aA H
   obtain rfl:=oJ H
   have bV:=jz5 aa
   go_wp2_with (first|((with_reducible refine jd 56 ?_);refine jV (Kd.int .i64) 3 ([wrap64 (a1+1)]:List Int) [iV (wrap64 (a1+1))] (aat.one (show Kd.M (Kd.int .i64) _ _ _ (wrap64 (a1+1)) [iV (wrap64 (a1+1))] from rfl) (aa9 _ _)) ?_;intro bW di aH hb;replace aH:=kr aA aH;have bn:=kL aH;replace aa:=kB aa hb;replace HB:=kH hb;clear hb aH))
   go_ret
   exact⟨_,qW,qR bn,qB⟩
  obtain⟨bX,aB⟩:=ky ((([wrap64 (a1+1)]:List Int)):List Int)
  replace H:=kv aB H
  obtain rfl:=oJ H
  have bY:=jz5 aa
  go_wp2_with (first|((with_reducible refine jd 56 ?_);refine jV (Kd.int .i64) 3 ([wrap64 (a1+1)]:List Int) [iV (wrap64 (a1+1))] (aat.one (show Kd.M (Kd.int .i64) _ _ _ (wrap64 (a1+1)) [iV (wrap64 (a1+1))] from rfl) (aa9 _ _)) ?_;intro bZ dn aI hb;replace aI:=kr aB aI;have bq:=kL aI;replace aa:=kB aa hb;replace HB:=kH hb;clear hb aI))
  go_ret
  exact⟨_,qW,qR bq,qB⟩
end Go.Proofs.YtebpplallecogaaGreat.M
namespace Go.Proofs.YtebpplallecogaaGreat.M
open Go.Proofs.Tryz Go.RowKit Go.Proofs.YtebpplallecogaaGreatW.PrintWords Go.Proofs.YtebpplallecogaaGreatW.PrintLast Go.Proofs.YtebpplallecogaaGreatW.PrintMore Kd
attribute [local go_sem] aan aal aay aax aaf aae aam aak
mutual
def aeB:Nat->List (List Bool)->List Bool->List Int->Int->Option (List Bool)
 | 0,_,_,_,_=>none
 | k+1,x1,x7,x8,x9=>if x9 < (x8.length:Int) then (ad3 k x1 x7 x8 x9 0) else (some x7)
def ad3:Nat->List (List Bool)->List Bool->List Int->Int->Int->Option (List Bool)
 | 0,_,_,_,_,_=>none
 | k+1,x1,x7,x8,x9,aI=>if aI < 12 then (if 0<=aI then (if aI < (x7.length:Int) then (if abo false x7 aI=true then (ad3 k x1 (x7.set (aI:Int).toNat true) x8 x9 (wrap64 (aI+1))) else (if 0<=x9 then (if x9 < (x8.length:Int) then (if 0<=(rd x8 x9) then (if (rd x8 x9) < (x1.length:Int) then (if aI < ((abX x1 (rd x8 x9)).length:Int) then (ad3 k x1 (x7.set (aI:Int).toNat (abo false (abX x1 (rd x8 x9)) aI)) x8 x9 (wrap64 (aI+1))) else (none)) else (none)) else (none)) else (none)) else (none))) else (none)) else (none)) else (aeB k x1 x7 x8 (wrap64 (x9+1)))
end
def SaY.f (k:Nat) (l0:List S27) (l1:List (List Bool)) (a2:Int):Option (List Bool):=if 12<=281474976710656 then ((afr k l0 a2).bind fun ae=>(aeB k l1 (List.replicate 12 false) ae 0)) else (none)
theorem SaY.calls (k:Nat) (A0:Option Addr) (c0:Nat) (l0:List S27) (A1:Option Addr) (c1:Nat) (l1:List (List Bool)) (a2:Int) (r:List Bool) (w:World) (hr0:Kd.C k27 w A0 l0.length l0) (hc0:l0.length<=c0) (hr1:Kd.C (Kd.slice 4 Kd.bool) w A1 l1.length l1) (hc1:l1.length<=c1) (h:SaY.f k l0 l1 a2=some r) :
  Calls prog 38 #[.slice A0 l0.length c0,.slice A1 l1.length c1,iV a2] w fun e w'=>∃ dB:Value,e = .returned (dB)/\Kd.R Kd.bool 4 w' w.heap.size (fun _=>True) dB r/\Below w.heap.size w w':=by
 have dN:=aM hr0
 have dO:=aM hc0
 clear hr0 hc0
 have HR1:=aM hr1
 have d9:=aM hc1
 clear hr1 hc1
 have HB:=jb_ w
 have H:=h;unfold SaY.f at H
 clear h
 replace H:=jJ H;obtain⟨aZ,bg,H⟩:=H
 obtain⟨bM,ay⟩:=ky ((List.replicate 12 false):List Bool)
 replace H:=kv ay H
 obtain⟨ae,A5,H⟩:=qE H
 try dsimp only at H
 have H':=aM H
 clear H
 go_enter func38,ntmps38
 go_wp2_with (first|((with_reducible refine jd 11 ?_);refine R_make Kd.bool _ 4 rfl (N:=11) rfl 37 _ _ rfl 12 rfl rfl underlying37 (.bool false) 1 al5 rfl (by decide) (by omega) false (ok:=fun _=>True) (okp:=fun _=>True) rfl (fun _ hk=>hk) trivial (by omega) (by omega) (Below.refl _ _) (Nat.le_refl _) ?_;intro bi w6 bn hb hg_ hnew_;clear hg_ hnew_;replace bn:=kr ay bn;have aC:=kL bn;replace HB:=kH hb;clear hb bn)|((with_reducible refine jc 55 14 ?_);refine jM func55 (aeC k _ _ l0 a2 ae _ (kb dN HB) dO.out A5.out) ?_;rintro bN w8 ⟨ho0,hb⟩;have bv:=kL ho0;replace aC:=kR aC hb;replace HB:=kH hb;clear hb;(try clear ho0)))
 go_loopg [9] k (fun kq v9 w'=>∃ (aJ:List Bool) (af:Int),v9 = iV af/\aa1 (aeB kq l1 aJ ae af=some r)/\aa1 (kq<=k)/\aa1 (Kd.R Kd.bool 4 w' w.heap.size (fun _=>True) bi aJ)/\aa1 (Kd.R (Kd.int .i64) 3 w' w.heap.size (fun _=>True) bN ae)/\aa1 (Below w.heap.size w w'))
 case atStart=>exact⟨(bM),(0),qZ,H',⟨Nat.le_refl _⟩,⟨qR aC⟩,⟨qR bv⟩,⟨qB⟩⟩
 clear H'
 try clear c1;try clear aZ;try clear bg
 obtain⟨aJ,af,rfl,HA,aX,ag,aj,HB⟩:=hrel
 rcases gk with _|k1
 ·exact absurd HA.out (by simp [aeB])
 have H:=HA.out
 clear HA
 simp only [aeB] at H
 replace H:=jD H;rcases H with ⟨bz,H⟩ | ⟨bz,H⟩
 ·have H':=aM H
  clear H
  obtain⟨bO,bP,bQ⟩:=R_slice aj.out
  subst bQ
  go_wp2
  go_loopg [10] k1 (fun kq v10 w'=>∃ (ah:List Bool) (aa:Int),v10 = iV aa/\aa1 (ad3 kq l1 ah ae af aa=some r)/\aa1 (kq<=k1)/\aa1 (Kd.R Kd.bool 4 w' w.heap.size (fun _=>True) bi ah)/\aa1 (Kd.R (Kd.int .i64) 3 w' w.heap.size (fun _=>True) (.slice bO ae.length bP) ae)/\aa1 (Below w.heap.size w w'))
  case atStart=>exact⟨(aJ),(0),qZ,H',⟨Nat.le_refl _⟩,⟨qR ag⟩,⟨qR aj⟩,⟨qB⟩⟩
  clear H'
  try clear c1;try clear aZ;try clear bg;try clear bz
  obtain⟨ah,aa,rfl,HA,aY,ag,aj,HB⟩:=hrel
  rcases gk with _|k2
  ·exact absurd HA.out (by simp [ad3])
  have H:=HA.out
  clear HA
  simp only [ad3] at H
  replace H:=jD H;rcases H with ⟨bA,H⟩ | ⟨bA,H⟩
  ·replace H:=jI H;obtain⟨dC,H⟩:=H
   replace H:=jI H;obtain⟨dD,H⟩:=H
   obtain⟨bR,aD⟩:∃ b_:Bool,b_=(abo false ah aa):=⟨_,rfl⟩
   replace H:(if bR=true then (ad3 k2 l1 (ah.set (aa:Int).toNat true) ae af (wrap64 (aa+1))) else (if 0<=af then (if af < (ae.length:Int) then (if 0<=(rd ae af) then (if (rd ae af) < (l1.length:Int) then (if aa < ((abX l1 (rd ae af)).length:Int) then (ad3 k2 l1 (ah.set (aa:Int).toNat (abo false (abX l1 (rd ae af)) aa)) ae af (wrap64 (aa+1))) else (none)) else (none)) else (none)) else (none)) else (none)))=some r:=by rw [<- aD] at H;exact H
   have aF:=aM aD;clear aD
   replace H:=jB H;rcases H with ⟨rfl,H⟩ | ⟨rfl,H⟩
   ·obtain⟨bS,aG⟩:=ky ((ah.set (aa:Int).toNat true):List Bool)
    replace H:=kv aG H
    have H':=aM H
    clear H
    obtain⟨dP,bB,bT⟩:=R_slice ag.out
    subst bT
    have au:0<=(aa:Int):=qD
    have av:aa < (ah.length:Int):=qD
    obtain⟨bC,aO,ai⟩:=Kd.at_bool (R_reads' ag.out).2.2 aa au av
    (try rw [<- aF.out] at ai)
    cases aO
    replace au:=eq_true au
    replace av:=eq_true av
    have p16:0<=(aa:Int):=qD
    have q16:(aa:Int) < ((ah.length:Int):Int):=qD
    obtain⟨aK,dQ,bD,bE,bU,dR,bF⟩:=R_form ag.out (by omega)
    (first|cases bD|(injection bD with ea_ en_ ec_;(first|subst ea_|(injection ea_ with ea_;subst ea_));subst ec_;clear en_))
    have bV:=aM bE
    have dS:=aM bF
    clear bE bU bF
    (first|simp only [add_plain] at ai|skip)
    obtain⟨bW,bX⟩:=R_celln false ag.out (aa:Int) p16 q16
    replace p16:=eq_true p16
    replace q16:=eq_true q16
    have aP:=R_putg ag.out (aa:Int) true
    go_wp2_with (first|((with_reducible refine aaz (t:=4) (p:=43) rfl ?_);refine aar (t:=4) (p:=43) (v:=?bY) (w1:=(wr.setCell ⟨aK,(aa:Int).toNat,none⟩ (.bool true))) ?hg ?ho ?hn ?hr ?_;(case ho=>rfl);(case hg=>rfl);(case hn=>rfl);(case hr=>first|(go_simp;done)|(go_simp;rfl));intro ax hw;have hg:wr.grownBy ax (some aK):=(by rw [hw];exact aP.2);have hp_:Kd.R Kd.bool 4 ax w.heap.size (fun _=>True) (.slice (some ⟨aK,0,none⟩) ah.length bB) bS:=(by rw [hw,aG.out];exact aP.1);clear aP;replace aj:=aM (R_over' (v:=(.slice (some ⟨aK,0,none⟩) ah.length bB)) (qR aj) (R_typed ag.out) (by decide) hg);replace ag:=aM hp_;replace HB:=aM ((by rw [hw];exact aag (HB.out) bV.out:Below w.heap.size w ax));clear hg hw hp_))
    go_roundg k2
    case measure=>have:=aX.out;have:=aY.out;omega
    exact⟨_,_,qZ,H',⟨by have:=aX.out;have:=aY.out;omega⟩,⟨qR ag⟩,⟨qR aj⟩,⟨qB⟩⟩
   replace H:=jI H;obtain⟨dE,H⟩:=H
   replace H:=jI H;obtain⟨dF,H⟩:=H
   replace H:=jI H;obtain⟨dG,H⟩:=H
   replace H:=jI H;obtain⟨dH,H⟩:=H
   replace H:=jI H;obtain⟨dI,H⟩:=H
   obtain⟨bZ,aH⟩:=ky ((ah.set (aa:Int).toNat (abo false (abX l1 (rd ae af)) aa)):List Bool)
   replace H:=kv aH H
   have H':=aM H
   clear H
   obtain⟨dU,bG,cu⟩:=R_slice ag.out
   subst cu
   have au:0<=(aa:Int):=qD
   have av:aa < (ah.length:Int):=qD
   obtain⟨bC,aO,ai⟩:=Kd.at_bool (R_reads' ag.out).2.2 aa au av
   (try rw [<- aF.out] at ai)
   cases aO
   replace au:=eq_true au
   replace av:=eq_true av
   have aQ:0<=(af:Int):=qD
   have aR:af < (ae.length:Int):=qD
   obtain⟨dJ,cz,bK⟩:=Kd.at_int (R_reads' aj.out).2.2 af aQ aR
   cases cz
   replace aQ:=eq_true aQ
   replace aR:=eq_true aR
   have aS:0<=((rd ae af):Int):=qD
   have aT:(rd ae af) < (l1.length:Int):=qD
   obtain⟨dK,cB,cK,cO,az,aA,aB⟩:=ap4 HR1.out (rd ae af) aS aT
   cases cO
   replace az:=kx HB az
   have aL:=aM aB
   have bL:=aM aA
   clear aB aA
   replace aS:=eq_true aS
   replace aT:=eq_true aT
   have aU:0<=(aa:Int):=qD
   have aV:aa < ((abX l1 (rd ae af)).length:Int):=qD
   obtain⟨dL,df,ak⟩:=Kd.at_bool aL.out aa aU aV
   (try rw [<- aF.out] at ak)
   cases df
   replace ak:=kx HB ak
   replace aU:=eq_true aU
   replace aV:=eq_true aV
   have p25:0<=(aa:Int):=qD
   have dh:(aa:Int) < ((ah.length:Int):Int):=qD
   obtain⟨aN,dV,bH,bI,di,dW,bJ⟩:=R_form ag.out (by omega)
   (first|cases bH|(injection bH with ea_ en_ ec_;(first|subst ea_|(injection ea_ with ea_;subst ea_));subst ec_;clear en_))
   have dn:=aM bI
   have dX:=aM bJ
   clear bI di bJ
   (first|simp only [add_plain] at ai|skip)
   obtain⟨dw,dx⟩:=R_celln false ag.out (aa:Int) p25 dh
   replace p25:=eq_true p25
   replace dh:=eq_true dh
   have aW:=R_putg ag.out (aa:Int) (abo false (abX l1 (rd ae af)) aa)
   go_wp2_with (first|((with_reducible refine aaz (t:=4) (p:=43) rfl ?_);refine aar (t:=4) (p:=43) (v:=?dz) (w1:=(wr.setCell ⟨aN,(aa:Int).toNat,none⟩ (.bool (abo false (abX l1 (rd ae af)) aa)))) ?hg ?ho ?hn ?hr ?_;(case ho=>rfl);(case hg=>rfl);(case hn=>rfl);(case hr=>first|(go_simp;done)|(go_simp;rfl));intro ax hw;have hg:wr.grownBy ax (some aN):=(by rw [hw];exact aW.2);have hp_:Kd.R Kd.bool 4 ax w.heap.size (fun _=>True) (.slice (some ⟨aN,0,none⟩) ah.length bG) bZ:=(by rw [hw,aH.out];exact aW.1);clear aW;replace aj:=aM (R_over' (v:=(.slice (some ⟨aN,0,none⟩) ah.length bG)) (qR aj) (R_typed ag.out) (by decide) hg);replace ag:=aM hp_;replace HB:=aM ((by rw [hw];exact aag (HB.out) dn.out:Below w.heap.size w ax));clear hg hw hp_))
   go_roundg k2
   case measure=>have:=aX.out;have:=aY.out;omega
   exact⟨_,_,qZ,H',⟨by have:=aX.out;have:=aY.out;omega⟩,⟨qR ag⟩,⟨qR aj⟩,⟨qB⟩⟩
  have H':=aM H
  clear H
  go_wp2
  go_roundg k2
  case measure=>have:=aX.out;have:=aY.out;omega
  exact⟨(ah),(wrap64 (af+1)),qZ,H',⟨by have:=aX.out;have:=aY.out;omega⟩,⟨qR ag⟩,⟨qR aj⟩,⟨qB⟩⟩
 obtain rfl:=oJ H
 obtain⟨dY,dZ,dA⟩:=R_slice aj.out
 subst dA
 go_wp2
 go_ret
 exact⟨_,qW,qR ag,qB⟩
end Go.Proofs.YtebpplallecogaaGreat.M
namespace Go.Proofs.YtebpplallecogaaGreat.M
open Go.Proofs.Tryz Go.RowKit Go.Proofs.YtebpplallecogaaGreatW.PrintWords Go.Proofs.YtebpplallecogaaGreatW.PrintLast Go.Proofs.YtebpplallecogaaGreatW.PrintMore
attribute [local go_sem] aan aal aay aax aaf aae aam aak
def aiZ (aa ae ag ah ai:Int):Option (Int):=(aiY aa ae ag ah ai 600).bind fun aj=>(if aj=true then (if aa=1 then (some ae) else (if aa=2 then (some ae) else (if aa=3 then (some ae) else (if aa=7 then (some ae) else (some (-1)))))) else (some (-1)))
theorem ake {G:Prop} (h:G:=by
  go_enter func68,ntmps68
  go_wp2_with (first|((with_reducible refine jd 1 ?_);refine jY _ 27 ?_;intro aC hg aF af hb;have aD:=kG hg;replace HB:=kH hb;clear hb hg;have aG:=jz5 af)|((with_reducible refine jc 54 4 ?_);refine jG func54 #[.agg #[iV aa,iV ae,iV ag,iV ah,iV ai],iV 600] ?_;refine (Say.calls _ _ _ _ _ _ _ _ (aa1.out (by assumption))).mono ?_;rintro e aH ⟨rfl,hb⟩;refine⟨_,rfl,?_⟩;replace af:=kB af hb;replace HB:=kH hb;clear hb;have aI:=jz5 af))
  go_ret
  exact⟨qW,qB⟩):G:=h
theorem Saw.calls (aa ae ag ah ai r:Int) (w:World) (h:aiZ aa ae ag ah ai=some r) :
  Calls prog 68 #[.agg #[iV aa,iV ae,iV ag,iV ah,iV ai]] w fun e w'=>e = .returned (iV r)/\Below w.heap.size w w':=by
 have aJ:=underlying27
 have HB:=jb_ w
 have H:=h;unfold aiZ at H
 clear h
 obtain⟨aj,A2,H⟩:=qE H
 try dsimp only at H
 replace H:=jB H;rcases H with ⟨rfl,H⟩ | ⟨rfl,H⟩
 ·replace H:=jE H;rcases H with ⟨ay,az,H⟩ | ⟨c4,ay,az,H⟩
  ·obtain rfl:=oJ H
   exact ake
  replace H:=jE H;rcases H with ⟨aA,aB,H⟩ | ⟨c9,aA,aB,H⟩
  ·obtain rfl:=oJ H
   exact ake
  replace H:=jE H;rcases H with ⟨ak,au,H⟩ | ⟨c14,ak,au,H⟩
  ·obtain rfl:=oJ H
   exact ake
  replace H:=jE H;rcases H with ⟨av,ax,H⟩ | ⟨c19,av,ax,H⟩
  ·obtain rfl:=oJ H
   exact ake
  obtain rfl:=oJ H
  exact ake
 obtain rfl:=oJ H
 exact ake
def aeu:Nat->Int->Bool->Int->Int->Int->Int->Int->Option (List Int)
 | 0,_,_,_,_,_,_,_=>none
 | k+1,x8,x9,xa,xb,xc,xd,xe=>if x9=true then (some (([xc]:List Int))) else (if x8=3 then (if xc=xd then (some (([xc]:List Int))) else (some (([mn xc xd,mx xc xd]:List Int)))) else (some (([]:List Int))))
def amk (k:Nat) (af ah ae ag ai:Int):Option (List Int):=(aiY af ah ae ag ai 600).bind fun aL=>(if aL=true then (if af=2 then (aeu k af (af == 2) af ah ae ag ai) else (if af=5 then (aeu k af (af == 5) af ah ae ag ai) else (if af=6 then (aeu k af (af == 6) af ah ae ag ai) else (aeu k af (af == 9) af ah ae ag ai)))) else (some (([]:List Int))))
theorem aml (k:Nat) (af ah ae ag ai:Int) (r:List Int) (w:World) (h:amk k af ah ae ag ai=some r) :
  Calls prog 69 #[.agg #[iV af,iV ah,iV ae,iV ag,iV ai]] w fun e w'=>∃ bv:Value,e = .returned (bv)/\Kd.R (Kd.int .i64) 3 w' w.heap.size (fun _=>True) bv r/\Below w.heap.size w w':=by
 have bA:=underlying27
 have HB:=jb_ w
 have H:=h;unfold amk at H
 clear h
 obtain⟨aL,A2,H⟩:=qE H
 try dsimp only at H
 replace H:=jB H;rcases H with ⟨rfl,H⟩ | ⟨rfl,H⟩
 ·have bi:=aM H
  clear H
  go_enter func69,ntmps69
  go_upto_if 9 with (first|((with_reducible refine jd 1 ?_);refine jY _ 27 ?_;intro aJ hg w5 aa hb;have aN:=kG hg;replace HB:=kH hb;clear hb hg;have bB:=jz5 aa)|((with_reducible refine jc 54 4 ?_);refine jK func54 (Say.calls af ah ae ag ai 600 true _ A2.out) ?_;intro w7 hb;replace aa:=kB aa hb;replace HB:=kH hb;clear hb;have bC:=jz5 aa))
  (try simp only [Act.put,List.setIfInBounds_toArray,List.set_cons_zero,List.set_cons_succ])
  go_cut [9] (fun v9 wc=>∃ (kq:Nat) (aK:Bool),v9 = .bool aK/\aa1 (aeu kq af aK af ah ae ag ai=some r)/\aa1 (kq<=k)/\aa1 (wc.heap[aJ]?=some (.cells #[iV af,iV ah,iV ae,iV ag,iV ai] 27 (0,0)))/\aa1 (Below w.heap.size w wc))
  case first =>
   have H:=bi.out
   clear bi
   replace H:=jE H;rcases H with ⟨aC,bn,H⟩ | ⟨c9,aC,bn,H⟩
   ·(first|rw [aC]|(simp only [aau,aaD];rw [aC])|skip)
    have H':=aM H
    clear H
    go_wp2
    go_meet
    exact⟨_,((af == 2)),qZ,H',⟨by first|omega|exact Nat.le_refl _⟩,⟨qK aa⟩,⟨qB⟩⟩
   (first|rw [aC]|(simp only [aau,aaD];rw [aC])|skip)
   replace H:=jE H;rcases H with ⟨aO,aP,H⟩ | ⟨c10,aO,aP,H⟩
   ·have H':=aM H
    clear H
    go_wp2
    go_meet
    exact⟨_,((af == 5)),qZ,H',⟨by first|omega|exact Nat.le_refl _⟩,⟨qK aa⟩,⟨qB⟩⟩
   replace H:=jE H;rcases H with ⟨aQ,aR,H⟩ | ⟨c11,aQ,aR,H⟩
   ·have H':=aM H
    clear H
    go_wp2
    go_meet
    exact⟨_,((af == 6)),qZ,H',⟨by first|omega|exact Nat.le_refl _⟩,⟨qK aa⟩,⟨qB⟩⟩
   have H':=aM H
   clear H
   go_wp2
   go_meet
   exact⟨_,((af == 9)),qZ,H',⟨by first|omega|exact Nat.le_refl _⟩,⟨qK aa⟩,⟨qB⟩⟩
  clear bi
  try clear bB;try clear bC
  obtain⟨kq,aK,rfl,HA,bR,aa,HB⟩:=hcut
  cases kq with
  | zero=>exact absurd HA.out (by simp [aeu])
  | succ bS =>
   have H:=HA.out
   clear HA
   simp only [aeu] at H
   replace H:=jB H;rcases H with ⟨rfl,H⟩ | ⟨rfl,H⟩
   ·obtain⟨bD,au⟩:=ky ((([ae]:List Int)):List Int)
    replace H:=kv au H
    obtain rfl:=oJ H
    have bE:=jz5 aa
    go_wp2_with (first|((with_reducible refine jd 16 ?_);refine jV (Kd.int .i64) 3 ([ae]:List Int) [iV ae] (aat.one (show Kd.M (Kd.int .i64) _ _ _ ae [iV ae] from rfl) (aa9 _ _)) ?_;intro bF bT aD hb;replace aD:=kr au aD;have aS:=kL aD;replace aa:=kB aa hb;replace HB:=kH hb;clear hb aD))
    go_ret
    exact⟨_,qW,qR aS,qB⟩
   replace H:=jE H;rcases H with ⟨aT,aU,H⟩ | ⟨c16,aT,aU,H⟩
   ·replace H:=jE H;rcases H with ⟨aV,aW,H⟩ | ⟨c17,aV,aW,H⟩
    ·obtain⟨bG,av⟩:=ky ((([ae]:List Int)):List Int)
     replace H:=kv av H
     obtain rfl:=oJ H
     have bH:=jz5 aa
     go_wp2_with (first|((with_reducible refine jd 26 ?_);refine jV (Kd.int .i64) 3 ([ae]:List Int) [iV ae] (aat.one (show Kd.M (Kd.int .i64) _ _ _ ae [iV ae] from rfl) (aa9 _ _)) ?_;intro bI bU aF hb;replace aF:=kr av aF;have aX:=kL aF;replace aa:=kB aa hb;replace HB:=kH hb;clear hb aF))
     go_ret
     exact⟨_,qW,qR aX,qB⟩
    obtain⟨aj,ax⟩:∃ j_:Int,(mn ae ag)=j_:=⟨_,rfl⟩
    replace H:(some (([aj,mx ae ag]:List Int)))=some r:=by first|(rw [ax] at H;exact H)|(simp only [ax] at H ⊢;exact H)
    have bq:(if ag < ae then ag else ae)=aj:=ax
    obtain⟨ak,ay⟩:∃ j_:Int,(mx ae ag)=j_:=⟨_,rfl⟩
    replace H:(some (([aj,ak]:List Int)))=some r:=by first|(rw [ay] at H;exact H)|(simp only [ay] at H ⊢;exact H)
    have bu:(if ae < ag then ag else ae)=ak:=ay
    obtain⟨bJ,az⟩:=ky ((([aj,ak]:List Int)):List Int)
    replace H:=kv az H
    obtain rfl:=oJ H
    have bK:=jz5 aa
    go_wp2_with (first|((with_reducible refine jd 37 ?_);refine jV (Kd.int .i64) 3 ([aj,ak]:List Int) [iV aj,iV ak] (aat.one (show Kd.M (Kd.int .i64) _ _ _ aj [iV aj] from rfl) (aat.one (show Kd.M (Kd.int .i64) _ _ _ ak [iV ak] from rfl) (aa9 _ _))) ?_;intro bL bV aG hb;replace aG:=kr az aG;have aY:=kL aG;replace aa:=kB aa hb;replace HB:=kH hb;clear hb aG))
    go_ret
    exact⟨_,by first|rfl|(simp [aaF,aaE] <;> rfl)|(simp only [<- ax,<- ay];first|rfl|(simp [aaF,aaE] <;> rfl))|(simp [*,aaF,aaE] <;> rfl),qR aY,qB⟩
   obtain⟨bM,aA⟩:=ky ([]:List Int)
   replace H:=kv aA H
   obtain rfl:=oJ H
   go_wp2_with (first|((with_reducible refine jd 38 ?_);refine jV (Kd.int .i64) 3 ([]:List Int) [] (aa9 _ _) ?_;intro bN bW aH hb;replace aH:=kr aA aH;have aZ:=kL aH;replace aa:=kB aa hb;replace HB:=kH hb;clear hb aH))
   go_ret
   exact⟨_,qW,qR aZ,qB⟩
 obtain⟨bO,aB⟩:=ky ([]:List Int)
 replace H:=kv aB H
 obtain rfl:=oJ H
 go_enter func69,ntmps69
 go_wp2_with (first|((with_reducible refine jd 1 ?_);refine jY _ 27 ?_;intro aJ hg bX aa hb;have aN:=kG hg;replace HB:=kH hb;clear hb hg;have bP:=jz5 aa)|((with_reducible refine jc 54 4 ?_);refine jK func54 (Say.calls af ah ae ag ai 600 false _ A2.out) ?_;intro bY hb;replace aa:=kB aa hb;replace HB:=kH hb;clear hb)|((with_reducible refine jd 6 ?_);refine jV (Kd.int .i64) 3 ([]:List Int) [] (aa9 _ _) ?_;intro bQ bZ aI hb;replace aI:=kr aB aI;have bg:=kL aI;replace aa:=kB aa hb;replace HB:=kH hb;clear hb aI))
 go_ret
 exact⟨_,qW,qR bg,qB⟩
end Go.Proofs.YtebpplallecogaaGreat.M
namespace Go.Proofs.YtebpplallecogaaGreat.M
open Go.Proofs.Tryz Go.RowKit Go.Proofs.YtebpplallecogaaGreatW.PrintWords Go.Proofs.YtebpplallecogaaGreatW.PrintLast Go.Proofs.YtebpplallecogaaGreatW.PrintMore Kd
attribute [local go_sem] aan aal aay aax aaf aae aam aak
mutual
def agh:Nat->List Bool->Int->Int->Int->Int->Int->Option (List Bool)
 | 0,_,_,_,_,_,_=>none
 | k+1,x5,xa,xb,xc,xd,xe=>(amk k xa xb xc xd xe).bind fun ak=>(afg k x5 ak 0)
def afg:Nat->List Bool->List Int->Int->Option (List Bool)
 | 0,_,_,_=>none
 | k+1,x5,x6,x7=>if x7 < (x6.length:Int) then (if 0<=x7 then (if 0<=(rd x6 x7) then (if (rd x6 x7) < (x5.length:Int) then (afg k (x5.set ((rd x6 x7):Int).toNat true) x6 (wrap64 (x7+1))) else (none)) else (none)) else (none)) else (some x5)
end
def amy (k:Nat) (af ag ah ai aj:Int) (l1:List Bool):Option (List Bool):=(some (([]:List Bool):List Bool)).bind fun aH=>(if aH.length+l1.length < 140737488355328 then ((some (aH ++ l1:List Bool)).bind fun ay=>((aiZ af ag ah ai aj).bind fun aT=>(if aT>=0 then ((aiZ af ag ah ai aj).bind fun ax=>(if 0<=ax then (if ax < (ay.length:Int) then (agh k (ay.set (ax:Int).toNat false) af ag ah ai aj) else (none)) else (none))) else (agh k ay af ag ah ai aj)))) else (none))
theorem amz (k:Nat) (af ag ah ai aj:Int) (A1:Option Addr) (c1:Nat) (l1 r:List Bool) (w:World) (hr1:Kd.C Kd.bool w A1 l1.length l1) (hc1:l1.length<=c1) (h:amy k af ag ah ai aj l1=some r) :
  Calls prog 59 #[.agg #[iV af,iV ag,iV ah,iV ai,iV aj],.slice A1 l1.length c1] w fun e w'=>∃ df:Value,e = .returned (df)/\Kd.R Kd.bool 4 w' w.heap.size (fun _=>True) df r/\Below w.heap.size w w':=by
 have dG:=underlying27
 have HR1:=aM hr1
 have dR:=aM hc1
 clear hr1 hc1
 have HB:=jb_ w
 have H:=h;unfold amy at H
 clear h
 obtain⟨aH,aD⟩:=ky ([]:List Bool)
 replace H:=kv aD H
 replace H:=jL H;obtain⟨bI,H⟩:=H
 obtain⟨ay,aI⟩:=ky ((aH ++ l1):List Bool)
 replace H:=kv aI H
 obtain⟨aT,A4,H⟩:=qE H
 try dsimp only at H
 have bJ:=aM H
 clear H
 go_enter func59,ntmps59
 go_upto_if 13 with (first|((with_reducible refine jd 2 ?_);refine jY _ 27 ?_;intro az hg w6 aa hb;have dh:=kG hg;replace HB:=kH hb;clear hb hg)|((with_reducible refine jd 8 ?_);refine jV Kd.bool 4 ([]:List Bool) [] (aa9 _ _) ?_;intro bK w7 bi hb;replace bi:=kr aD bi;have aJ:=kL bi;replace aa:=kB aa hb;replace HB:=kH hb;clear hb bi)|((with_reducible refine aaa (b:=.append) (xs:=#[.tmp 8,.tmp 9]) rfl ?_);at_builtin;refine R_append_rows Kd.bool (w0:=w) w.heap.size rfl (.tmp 8) (.tmp 9) 37 4 (.bool false) 1 rfl underlying37 al5 rfl (by decide) (by omega) bK aH l1 _ _ _ (fun _=>True) (fun _=>False) rfl rfl ?aO ?aR (fun _ _ h=>h) (fun _ h=>h.elim) ?aF ?aB ?aS ?aL ?_;(case aR=>exact kb HR1 HB);(case aB=>exact qB);(case aF=>exact (fun _ _=>trivial));(case aO=>exact (qR aJ));(case aS=>exact (aa4 qB));(case aL=>have:=bI.out;omega);intro bn w9 ho hb hg hat;rw [<- aI.out] at ho;have ae:=aM ho;replace aa:=aM (aaq (g:=az) (qK aa) hg (R_ne aJ.out aa.out (by decide)));replace HB:=aM hb;clear aJ;clear ho hb hg hat;have bq:=jz5 aa)|((with_reducible refine jc 68 12 ?_);refine jK func68 (Saw.calls af ag ah ai aj aT _ A4.out) ?_;intro dS hb;replace ae:=kR ae hb;replace aa:=kB aa hb;replace HB:=kH hb;clear hb))
 (try simp only [Act.put,List.setIfInBounds_toArray,List.set_cons_zero,List.set_cons_succ])
 go_cut [] (fun wc=>∃ (kq:Nat) (aP:List Bool),aa1 (agh kq aP af ag ah ai aj=some r)/\aa1 (kq<=k)/\aa1 (Kd.R Kd.bool 4 wc w.heap.size (fun _=>True) bn aP)/\aa1 (wc.heap[az]?=some (.cells #[iV af,iV ag,iV ah,iV ai,iV aj] 27 (0,0)))/\aa1 (Below w.heap.size w wc))
 case first =>
  have H:=bJ.out
  clear bJ
  replace H:=jD H;rcases H with ⟨aA,H⟩ | ⟨aA,H⟩
  ·(first|rw [aA]|(simp only [aau,aaD];rw [aA])|skip)
   obtain⟨ax,dU,H⟩:=qE H
   try dsimp only at H
   replace H:=jI H;obtain⟨di,H⟩:=H
   replace H:=jI H;obtain⟨dn,H⟩:=H
   obtain⟨bL,aK⟩:=ky ((ay.set (ax:Int).toNat false):List Bool)
   replace H:=kv aK H
   have H':=aM H
   clear H
   have dH:=jz5 aa
   go_wp2_with (first|((with_reducible refine jc 68 16 ?_);refine jG func68 #[.agg #[iV af,iV ag,iV ah,iV ai,iV aj]] ?_;refine (Saw.calls _ _ _ _ _ _ _ (aa1.out (by assumption))).mono ?_;rintro e bu ⟨rfl,hb⟩;refine⟨_,rfl,?_⟩;replace ae:=kR ae hb;replace aa:=kB aa hb;replace HB:=kH hb;clear hb;have p16:0<=(ax:Int):=qD;have q16:(ax:Int) < ((ay.length:Int):Int):=qD;obtain⟨aU,bM,bv,bz,bN,dI,bA⟩:=R_form ae.out (by omega);(first|cases bv|(injection bv with ea_ en_ ec_;(first|subst ea_|(injection ea_ with ea_;subst ea_));subst ec_;clear en_));have bO:=aM bz;have dJ:=aM bA;clear bz bN bA;obtain⟨bP,bQ⟩:=R_celln false ae.out (ax:Int) p16 q16;replace p16:=eq_true p16;replace q16:=eq_true q16;obtain⟨dw,dx⟩:=R_celln false ae.out (ax:Int) (qD) (qD);have aV:=R_putg ae.out (ax:Int) false)|((with_reducible refine aaz (t:=4) (p:=17) rfl ?_);refine aar (t:=4) (p:=17) (v:=?bR) (w1:=(bu.setCell ⟨aU,(ax:Int).toNat,none⟩ (.bool false))) ?hg ?ho ?hn ?hr ?_;(case ho=>rfl);(case hg=>rfl);(case hn=>rfl);(case hr=>first|(go_simp;done)|(go_simp;rfl));intro aW hw;have hg:bu.grownBy aW (some aU):=(by rw [hw];exact aV.2);have hp_:Kd.R Kd.bool 4 aW w.heap.size (fun _=>True) (.slice (some ⟨aU,0,none⟩) ay.length bM) bL:=(by rw [hw,aK.out];exact aV.1);clear aV;replace aa:=aM (aaq (g:=az) (qK aa) hg (R_ne ae.out aa.out (by decide)));replace ae:=aM hp_;replace HB:=aM ((by rw [hw];exact aag (HB.out) bO.out:Below w.heap.size w aW));clear hg hw hp_))
   go_meet
   exact⟨_,_,H',⟨by first|omega|exact Nat.le_refl _⟩,⟨qR ae⟩,⟨qK aa⟩,⟨qB⟩⟩
  (first|rw [aA]|(simp only [aau,aaD];rw [aA])|skip)
  have H':=aM H
  clear H
  go_wp2
  go_meet
  exact⟨_,(ay),H',⟨by first|omega|exact Nat.le_refl _⟩,⟨qR ae⟩,⟨qK aa⟩,⟨qB⟩⟩
 clear bJ
 try clear c1;try clear bq
 obtain⟨kq,aP,HA,dz,au,aa,HB⟩:=hcut
 cases kq with
 | zero=>exact absurd HA.out (by simp [agh])
 | succ bS =>
  have H:=HA.out
  clear HA
  simp only [agh] at H
  obtain⟨ak,dK,H⟩:=qE H
  try dsimp only at H
  have H':=aM H
  clear H
  have bT:=jz5 aa
  go_wp2_with (first|((with_reducible refine jc 69 19 ?_);refine jM func69 (aml bS af ag ah ai aj ak _ dK.out) ?_;rintro bU dV ⟨ho0,hb⟩;have bB:=kL ho0;replace au:=kR au hb;replace aa:=kB aa hb;replace HB:=kH hb;clear hb;(try clear ho0)))
  go_loopg [7] bS (fun kq v7 w'=>∃ (aC:List Bool) (av:Int),v7 = iV av/\aa1 (afg kq aC ak av=some r)/\aa1 (kq<=bS)/\aa1 (Kd.R Kd.bool 4 w' w.heap.size (fun _=>True) bn aC)/\aa1 (Kd.R (Kd.int .i64) 3 w' w.heap.size (fun _=>True) bU ak)/\aa1 (w'.heap[az]?=some (.cells #[iV af,iV ag,iV ah,iV ai,iV aj] 27 (0,0)))/\aa1 (Below w.heap.size w w'))
  case atStart=>exact⟨(aP),(0),qZ,H',⟨Nat.le_refl _⟩,⟨qR au⟩,⟨qR bB⟩,⟨qK aa⟩,⟨qB⟩⟩
  clear H'
  try clear c1;try clear bq;try clear bT
  obtain⟨aC,av,rfl,HA,dA,au,aG,aa,HB⟩:=hrel
  rcases gk with _|k2
  ·exact absurd HA.out (by simp [afg])
  have H:=HA.out
  clear HA
  simp only [afg] at H
  replace H:=jD H;rcases H with ⟨bC,H⟩ | ⟨bC,H⟩
  ·replace H:=jI H;obtain⟨dB,H⟩:=H
   replace H:=jI H;obtain⟨dC,H⟩:=H
   replace H:=jI H;obtain⟨dD,H⟩:=H
   obtain⟨bV,aN⟩:=ky ((aC.set ((rd ak av):Int).toNat true):List Bool)
   replace H:=kv aN H
   have H':=aM H
   clear H
   obtain⟨dL,dM,bW⟩:=R_slice aG.out
   subst bW
   have aX:0<=(av:Int):=qD
   have aY:av < (ak.length:Int):=qD
   obtain⟨dE,bX,bH⟩:=Kd.at_int (R_reads' aG.out).2.2 av aX aY
   cases bX
   replace aX:=eq_true aX
   replace aY:=eq_true aY
   have p28:0<=((rd ak av):Int):=qD
   have bY:((rd ak av):Int) < ((aC.length:Int):Int):=qD
   obtain⟨aQ,bD,bE,bF,bZ,dN,bG⟩:=R_form au.out (by omega)
   (first|cases bE|(injection bE with ea_ en_ ec_;(first|subst ea_|(injection ea_ with ea_;subst ea_));subst ec_;clear en_))
   have cu:=aM bF
   have dO:=aM bG
   clear bF bZ bG
   obtain⟨cz,cB⟩:=R_celln false au.out ((rd ak av):Int) p28 bY
   replace p28:=eq_true p28
   replace bY:=eq_true bY
   have aZ:=R_putg au.out ((rd ak av):Int) true
   go_wp2_with (first|((with_reducible refine aaz (t:=4) (p:=31) rfl ?_);refine aar (t:=4) (p:=31) (v:=?cK) (w1:=(wr.setCell ⟨aQ,((rd ak av):Int).toNat,none⟩ (.bool true))) ?hg ?ho ?hn ?hr ?_;(case ho=>rfl);(case hg=>rfl);(case hn=>rfl);(case hr=>first|(go_simp;done)|(go_simp;rfl));intro bg hw;have hg:wr.grownBy bg (some aQ):=(by rw [hw];exact aZ.2);have hp_:Kd.R Kd.bool 4 bg w.heap.size (fun _=>True) (.slice (some ⟨aQ,0,none⟩) aC.length bD) bV:=(by rw [hw,aN.out];exact aZ.1);clear aZ;replace aG:=aM (R_over' (v:=(.slice (some ⟨aQ,0,none⟩) aC.length bD)) (qR aG) (R_typed au.out) (by decide) hg);replace aa:=aM (aaq (g:=az) (qK aa) hg (R_ne au.out aa.out (by decide)));replace au:=aM hp_;replace HB:=aM ((by rw [hw];exact aag (HB.out) cu.out:Below w.heap.size w bg));clear hg hw hp_))
   go_roundg k2
   case measure=>have:=dz.out;have:=dA.out;omega
   exact⟨_,_,qZ,H',⟨by have:=dz.out;have:=dA.out;omega⟩,⟨qR au⟩,⟨qR aG⟩,⟨qK aa⟩,⟨qB⟩⟩
  obtain rfl:=oJ H
  obtain⟨dP,dQ,cO⟩:=R_slice aG.out
  subst cO
  go_wp2
  go_ret
  exact⟨_,qW,qR au,qB⟩
end Go.Proofs.YtebpplallecogaaGreat.M
namespace Go.Proofs.YtebpplallecogaaGreat.M
open Go.Proofs.Tryz Go.RowKit Go.Proofs.YtebpplallecogaaGreatW.PrintWords Go.Proofs.YtebpplallecogaaGreatW.PrintLast Go.Proofs.YtebpplallecogaaGreatW.PrintMore
attribute [local go_sem] aan aal aay aax aaf aae aam aak
def aes:Nat->List Bool->List Bool->Int->Option (Bool)
 | 0,_,_,_=>none
 | k+1,x0,x1,x5=>if x5 < (x0.length:Int) then (if 0<=x5 then (if x5 < (x1.length:Int) then (if ((abo false x0 x5) != (abo false x1 x5))=true then (some false) else (aes k x0 x1 (wrap64 (x5+1)))) else (none)) else (none)) else (some ((x0.length:Int) == (x1.length:Int)))
def Sb1.f (k:Nat) (l0 l1:List Bool):Option (Bool):=aes k l0 l1 0
theorem Sb1.calls (k:Nat) (A0:Option Addr) (c0:Nat) (l0:List Bool) (A1:Option Addr) (c1:Nat) (l1:List Bool) (r:Bool) (w:World) (hr0:Kd.C Kd.bool w A0 l0.length l0) (hc0:l0.length<=c0) (hr1:Kd.C Kd.bool w A1 l1.length l1) (hc1:l1.length<=c1) (h:Sb1.f k l0 l1=some r) :
  Calls prog 60 #[.slice A0 l0.length c0,.slice A1 l1.length c1] w fun e w'=>e = .returned (.bool r)/\aaA w w':=by
 have aC:=aM hr0
 have aJ:=aM hc0
 clear hr0 hc0
 have HR1:=aM hr1
 have aK:=aM hc1
 clear hr1 hc1
 have H:(aes k l0 l1 0)=some r:=h
 clear h
 have H':=aM H
 clear H
 go_enter func60,ntmps60
 go_wp2
 repeat (go_quiet (fail);try go_wp2)
 go_loopg [5] k (fun kq v5 w'=>∃ (aa:Int),v5 = iV aa/\aa1 (aes kq l0 l1 aa=some r)/\aa1 (kq<=k)/\aaA w w')
 case atStart=>exact⟨(0),qZ,H',⟨Nat.le_refl _⟩,by repeat (first|exact aaM _|apply aaA.step)⟩
 clear H'
 try clear c1
 obtain⟨aa,rfl,HA,aD,⟨m1,rfl⟩⟩:=hrel
 rcases gk with _|k1
 ·exact absurd HA.out (by simp [aes])
 have H:=HA.out
 clear HA
 simp only [aes] at H
 replace H:=jD H;rcases H with ⟨ay,H⟩ | ⟨ay,H⟩
 ·replace H:=jI H;obtain⟨aG,H⟩:=H
  replace H:=jI H;obtain⟨aH,H⟩:=H
  by_cases c6:((abo false l0 aa) != (abo false l1 aa))=true
  ·rw [if_pos c6] at H
   have az:((abo false l0 aa) != (abo false l1 aa))=true:=c6
   (try (have aA:decide ((abo false l0 aa)=(abo false l1 aa))=false:=by simpa using c6))
   (try (have aB:((abo false l0 aa) == (abo false l1 aa))=false:=by simpa using c6))
   (try (have aI:¬ ((abo false l0 aa)=(abo false l1 aa)):=by simpa using c6))
   clear c6
   obtain rfl:=oJ H
   have ae:0<=(aa:Int):=qD
   have af:aa < (l0.length:Int):=qD
   obtain⟨av,ak,ai⟩:=Kd.at_bool aC.out aa ae af
   cases ak
   replace ae:=eq_true ae
   replace af:=eq_true af
   have ag:0<=(aa:Int):=qD
   have ah:aa < (l1.length:Int):=qD
   obtain⟨ax,au,aj⟩:=Kd.at_bool HR1.out aa ag ah
   cases au
   replace ag:=eq_true ag
   replace ah:=eq_true ah
   go_wp2
   repeat (go_quiet (fail);try go_wp2)
   go_ret
   exact⟨qZ,qU⟩
  rw [if_neg c6] at H
  have az:((abo false l0 aa) != (abo false l1 aa))=false:=by simpa using c6
  (try (have aA:decide ((abo false l0 aa)=(abo false l1 aa))=true:=by simpa using c6))
  (try (have aB:((abo false l0 aa) == (abo false l1 aa))=true:=by simpa using c6))
  clear c6
  have H':=aM H
  clear H
  have ae:0<=(aa:Int):=qD
  have af:aa < (l0.length:Int):=qD
  obtain⟨av,ak,ai⟩:=Kd.at_bool aC.out aa ae af
  cases ak
  replace ae:=eq_true ae
  replace af:=eq_true af
  have ag:0<=(aa:Int):=qD
  have ah:aa < (l1.length:Int):=qD
  obtain⟨ax,au,aj⟩:=Kd.at_bool HR1.out aa ag ah
  cases au
  replace ag:=eq_true ag
  replace ah:=eq_true ah
  go_wp2
  repeat (go_quiet (fail);try go_wp2)
  go_roundg k1
  case measure=>have:=aD.out;omega
  exact⟨(wrap64 (aa+1)),qZ,H',⟨by have:=aD.out;omega⟩,by repeat (first|exact aaM _|apply aaA.step)⟩
 obtain rfl:=oJ H
 go_wp2
 repeat (go_quiet (fail);try go_wp2)
 go_ret
 exact⟨qZ,qU⟩
end Go.Proofs.YtebpplallecogaaGreat.M
namespace Go.Proofs.YtebpplallecogaaGreat.M
open Go.Proofs.Tryz Go.RowKit Go.Proofs.YtebpplallecogaaGreatW.PrintWords Go.Proofs.YtebpplallecogaaGreatW.PrintLast Go.Proofs.YtebpplallecogaaGreatW.PrintMore Kd
attribute [local go_sem] aan aal aay aax aaf aae aam aak
def aet:Nat->List S27->List (List Bool)->Bool->Int->Option (Bool × (List (List Bool)))
 | 0,_,_,_,_=>none
 | k+1,x0,x1,x5,x6=>if x6>=0 then (if 0<=x6 then (if x6 < (x0.length:Int) then ((SaY.f k x0 x1 x6).bind fun az=>((amy k ((aa0 x0 x6).f0) ((aa0 x0 x6).f1) ((aa0 x0 x6).f2) ((aa0 x0 x6).f3) ((aa0 x0 x6).f4) az).bind fun au=>(if x6 < (x1.length:Int) then ((Sb1.f k au (abX x1 x6)).bind fun bM=>(if bM=true then (aet k x0 x1 x5 (wrap64 (x6 - 1))) else (aet k x0 (x1.set (x6:Int).toNat au) true (wrap64 (x6 - 1))))) else (none)))) else (none)) else (none)) else (some (x5,x1))
def Sb0.f (k:Nat) (l0:List S27) (l1:List (List Bool)):Option (Bool × (List (List Bool))):=aet k l0 l1 false (wrap64 ((l0.length:Int) - 1))
def aof:Bool × List (List Nat × List Nat):=(true,[([],[]),([],[]),([0,1],[0,1]),([2],[2]),([],[]),([],[]),([],[]),([4,5,6],[4,5,6]),([3,7,7],[3,7]),([8,8,0,1,2,3,4,5,6,7,8],[8])])
def aqi:List Nat:=[0,0,3,7,0,0,0,112,255,511]
theorem anv:abL .any (opsOf f43 5)=aof:=by kernel_rfl
theorem ami:ab0 aof.2 aqi=true:=by kernel_rfl
theorem Sb0.calls (k:Nat) (A0:Option Addr) (c0:Nat) (l0:List S27) (aF:Nat->Prop) (aA:Value) (l1:List (List Bool)) (r1:Bool) (r2:List (List Bool)) (w0 w:World) (hB:Below w0.heap.size w0 w) (hr0:∀ W_,Kept w W_ (fun k_=>aF k_)->Kd.C k27 W_ A0 l0.length l0) (hc0:l0.length<=c0) (ho1:Kd.S (Kd.slice 4 Kd.bool) 37 w w0.heap.size aF aA l1) (h:Sb0.f k l0 l1=some (r1,r2)) :
  Calls prog 43 #[.slice A0 l0.length c0,aA] w fun e w'=>e = .returned (.bool r1)/\Kd.S (Kd.slice 4 Kd.bool) 37 w' w0.heap.size (fun k_=>(aF k_\/w.heap.size<=k_)) aA r2/\Below w0.heap.size w0 w'/\Kept w w' (fun k_=>aF k_):=by
 have ek:=underlying27
 have aH:=aM hr0
 have eu:=aM hc0
 clear hr0 hc0
 have eB:=aM (show Kd.S (Kd.slice 4 Kd.bool) 37 w w0.heap.size (fun k_=>(aF k_\/w.heap.size<=k_)) aA l1 from S_mono ho1 (fun k_ hk=>(.inl hk)))
 have HK:=aM (acN w (fun k_=>aF k_))
 have HW0:=aM hB.size
 have HB:=aM hB
 clear hB
 have H:=h;unfold Sb0.f at H
 clear h
 have H':=aM H
 clear H
 go_enter func43,ntmps43
 go_wp2
 go_loopg [5,6] k (fun kq v5 v6 w'=>∃ (af:List (List Bool)) (bq:Bool) (aa:Int),v5 = .bool bq/\v6 = iV aa/\aa1 (aet kq l0 af bq aa=some (r1,r2))/\aa1 (kq<=k)/\aa1 (Kd.S (Kd.slice 4 Kd.bool) 37 w' w0.heap.size (fun k_=>(aF k_\/w.heap.size<=k_)) aA af)/\aa1 (Kept w w' (fun k_=>aF k_))/\aa1 (Below w0.heap.size w0 w'))
 case atStart=>exact⟨(l1),(false),(wrap64 ((l0.length:Int) - 1)),qZ,qZ,H',⟨Nat.le_refl _⟩,⟨qS eB⟩,⟨qT⟩,⟨qB⟩⟩
 clear H'
 obtain⟨af,bq,aa,rfl,rfl,HA,cz,ae,HK,HB⟩:=hrel
 rcases gk with _|k1
 ·exact absurd HA.out (by simp [aet])
 have H:=HA.out
 clear HA
 simp only [aet] at H
 replace H:=jD H;rcases H with ⟨dn,H⟩ | ⟨dn,H⟩
 ·replace H:=jI H;obtain⟨eD,H⟩:=H
  replace H:=jI H;obtain⟨eF,H⟩:=H
  obtain⟨az,A6,H⟩:=qE H
  try dsimp only at H
  obtain⟨au,A7,H⟩:=qE H
  try dsimp only at H
  replace H:=jI H;obtain⟨eG,H⟩:=H
  obtain⟨bM,A9,H⟩:=qE H
  try dsimp only at H
  have bN:=aM H;clear H
  try go_wp2
  replace ae:=aM (S_drew ae.out)
  replace HK:=aM (Kept.drew HK.out)
  replace HB:=aM (aai HB.out)
  have ag:0<=(aa:Int):=qD
  have ah:aa < (l0.length:Int):=qD
  obtain⟨ak,dw,aQ,aR,aS,aT,aU⟩:=ab2 (C_kept_now aH.out HK.out) aa ag ah
  have cB:=aU
  have cK:=aT
  have cO:=aS
  have df:=aR
  have dh:=aQ
  cases dw
  replace ag:=eq_true ag
  replace ah:=eq_true ah
  obtain⟨dx,aZ,bO⟩:=S_slice ae.out
  (first|subst bO|(injection bO with bP dz bQ;have dA:=bP.symm;have dB:=bQ.symm;clear bP dz bQ;subst dA;subst dB))
  refine abF (n:=10) (S:=fun w'=>w'.cell? (ak.add ((aa).toNat*5))=some (iV ((aa0 l0 aa).f0))/\w'.cell? ⟨(ak.add ((aa).toNat*5)).block,(ak.add ((aa).toNat*5)).off+1,none⟩=some (iV ((aa0 l0 aa).f1))/\w'.cell? ⟨(ak.add ((aa).toNat*5)).block,(ak.add ((aa).toNat*5)).off+2,none⟩=some (iV ((aa0 l0 aa).f2))/\w'.cell? ⟨(ak.add ((aa).toNat*5)).block,(ak.add ((aa).toNat*5)).off+3,none⟩=some (iV ((aa0 l0 aa).f3))/\w'.cell? ⟨(ak.add ((aa).toNat*5)).block,(ak.add ((aa).toNat*5)).off+4,none⟩=some (iV ((aa0 l0 aa).f4))) (ds:=[]) (jb 10 0) (by kernel_rfl) rfl rfl ⟨(abR (aH.out _ (by repeat (first|exact HK.out|apply Kept.alloc|apply Kept.drewN|apply Kept.drew))) aa (of_eq_true ag) (of_eq_true ah)),(abQ (aH.out _ (by repeat (first|exact HK.out|apply Kept.alloc|apply Kept.drewN|apply Kept.drew))) aa (of_eq_true ag) (of_eq_true ah)),(abP (aH.out _ (by repeat (first|exact HK.out|apply Kept.alloc|apply Kept.drewN|apply Kept.drew))) aa (of_eq_true ag) (of_eq_true ah)),(abO (aH.out _ (by repeat (first|exact HK.out|apply Kept.alloc|apply Kept.drewN|apply Kept.drew))) aa (of_eq_true ag) (of_eq_true ah)),(abN (aH.out _ (by repeat (first|exact HK.out|apply Kept.alloc|apply Kept.drewN|apply Kept.drew))) aa (of_eq_true ag) (of_eq_true ah))⟩ (fun hHeld=>?_);refine aaZ anv ami (fun HT_ HW_=>?_)
  generalize wr.drew=eY at ae HK HB aQ aR aS aT aU hHeld ⊢
  refine jp 0 15 (jb 10 1) ?_
  refine jp 1 16 (jb 10 3) ?_
  refine jp 2 17 (jb 10 7) ?_
  refine jp 4 19 (jb 10 23) ?_
  refine jp 5 20 (jb 10 55) ?_
  refine jp 6 21 (jb 10 119) ?_
  refine jt 3 18 (jb 10 127) ?_
  refine ad6 (i:=7) (N:=some 22) (jb 10 255) rfl rfl (aaT HT_.out (by kernel_rfl)) (by decide) (fun K hK=>?_)
  refine abn func38 (by kernel_rfl) rfl #[.slice (some ak) l0.length c0,.slice dx af.length aZ,iV aa] (by rfl) rfl rfl qM ?_
  with_reducible refine (SaY.calls k1 _ _ l0 _ _ af aa az _ ?aB ?aC ?aI ?aJ A6.out).mono ?_
  (case aB=>exact C_kept_now aH.out qT)
  (case aC=>exact eu.out)
  (case aI=>exact kC (S_reads' ae.out).2.2)
  (case aJ=>exact (S_reads' ae.out).2.1)
  rintro e eZ ⟨eH,rfl,ho0,hb⟩
  refine⟨_,rfl,?_⟩
  have ai:=aM (R_lower (R_newM (M:=fun k_=>(aF k_\/w.heap.size<=k_)) ho0 (by first|exact HK.out.1|exact (show Kept w _ (fun k_=>aF k_) from qT).1) (fun k_ h_=>.inr h_)) (aa4 qB))
  replace ae:=aM (S_elder' (qS ae) (R_base ho0) hb)
  replace HK:=kT hb
  replace HB:=kH hb
  (try clear hb)
  (try clear hb2)
  (try clear hk)
  (try clear hi)
  (try clear ho0)
  obtain⟨aK,aL,bR⟩:=R_slice ai.out
  (first|subst bR|(injection bR with bP dz bQ;have dA:=bP.symm;have dB:=bQ.symm;clear bP dz bQ;subst dA;subst dB))
  refine hK.out _ _ ⟨(abR (aH.out _ (by repeat (first|exact HK.out|apply Kept.alloc|apply Kept.drewN|apply Kept.drew))) aa (of_eq_true ag) (of_eq_true ah)),(abQ (aH.out _ (by repeat (first|exact HK.out|apply Kept.alloc|apply Kept.drewN|apply Kept.drew))) aa (of_eq_true ag) (of_eq_true ah)),(abP (aH.out _ (by repeat (first|exact HK.out|apply Kept.alloc|apply Kept.drewN|apply Kept.drew))) aa (of_eq_true ag) (of_eq_true ah)),(abO (aH.out _ (by repeat (first|exact HK.out|apply Kept.alloc|apply Kept.drewN|apply Kept.drew))) aa (of_eq_true ag) (of_eq_true ah)),(abN (aH.out _ (by repeat (first|exact HK.out|apply Kept.alloc|apply Kept.drewN|apply Kept.drew))) aa (of_eq_true ag) (of_eq_true ah))⟩ (fun hHeld=>?_)
  clear hK K
  refine aav (a':=?_) ?_ ?_
  rotate_left
  ·show Act.put _ (some 22) _=_
   simp only [Act.put,List.setIfInBounds_toArray,List.set_cons_zero,List.set_cons_succ,aau,aaD]
   rfl
  refine ad6 (i:=8) (N:=some 23) (jb 10 511) rfl rfl (aaT HT_.out (by kernel_rfl)) (by decide) (fun K hK=>?_)
  refine abn func59 (by kernel_rfl) rfl #[.agg #[iV ((aa0 l0 aa).f0),iV ((aa0 l0 aa).f1),iV ((aa0 l0 aa).f2),iV ((aa0 l0 aa).f3),iV ((aa0 l0 aa).f4)],.slice aK az.length aL] (by rfl) rfl rfl qM ?_
  with_reducible refine (amz k1 ((aa0 l0 aa).f0) ((aa0 l0 aa).f1) ((aa0 l0 aa).f2) ((aa0 l0 aa).f3) ((aa0 l0 aa).f4) _ _ az au _ ?aB ?aC A7.out).mono ?_
  (case aB=>exact kJ ai)
  (case aC=>exact (kp ai))
  rintro e bu ⟨eO,rfl,ho0,hb⟩
  refine⟨_,rfl,?_⟩
  have aj:=aM (R_lower (R_new' (R_newM (M:=fun k_=>(aF k_\/w.heap.size<=k_)) ho0 (by first|exact HK.out.1|exact (show Kept w _ (fun k_=>aF k_) from qT).1) (fun k_ h_=>.inr h_)) (R_lt (qR ai))) (aa4 qB))
  replace ae:=aM (S_elder' (qS ae) (R_base ho0) hb)
  replace ai:=kO ai ho0 hb
  replace HK:=kT hb
  replace HB:=kH hb
  (try clear hb)
  (try clear hb2)
  (try clear hk)
  (try clear hi)
  (try clear ho0)
  refine hK.out _ _ ⟨(abR (aH.out _ (by repeat (first|exact HK.out|apply Kept.alloc|apply Kept.drewN|apply Kept.drew))) aa (of_eq_true ag) (of_eq_true ah)),(abQ (aH.out _ (by repeat (first|exact HK.out|apply Kept.alloc|apply Kept.drewN|apply Kept.drew))) aa (of_eq_true ag) (of_eq_true ah)),(abP (aH.out _ (by repeat (first|exact HK.out|apply Kept.alloc|apply Kept.drewN|apply Kept.drew))) aa (of_eq_true ag) (of_eq_true ah)),(abO (aH.out _ (by repeat (first|exact HK.out|apply Kept.alloc|apply Kept.drewN|apply Kept.drew))) aa (of_eq_true ag) (of_eq_true ah)),(abN (aH.out _ (by repeat (first|exact HK.out|apply Kept.alloc|apply Kept.drewN|apply Kept.drew))) aa (of_eq_true ag) (of_eq_true ah))⟩ (fun hHeld=>?_)
  clear hK K
  refine aav (a':=?_) ?_ ?_
  rotate_left
  ·show Act.put _ (some 23) _=_
   simp only [Act.put,List.setIfInBounds_toArray,List.set_cons_zero,List.set_cons_succ,aau,aaD]
   rfl
  refine jp 9 7 (jb 10 1023) ?_
  refine acG (abr HT_.out (by kernel_rfl)) ?_
  have bv:0<=(aa:Int):=qD
  have bz:aa < (af.length:Int):=qD
  obtain⟨dV,aN,bg,dC,aV,aW,aX⟩:=ap4 (S_reads' ae.out).2.2 aa bv bz
  cases dC
  obtain⟨dW,bF,bG,bi⟩:=S_get ae.out [] aa bv (by first|exact bz|exact qD|(have e_:=(S_reads' ae.out).1;omega))
  obtain⟨di,rfl,aG⟩:=bG
  have av:=bi 0 _ rfl
  rw [Nat.add_zero,show ((Kd.slice 4 Kd.bool)).sz=1 from rfl,Nat.mul_one] at av
  replace av:=Option.some.inj (av.symm.trans aV)
  rw [av] at aG
  have ax:=aM (show Kd.R Kd.bool 4 _ _ _ _ (abX af aa) from aG)
  clear av aG
  clear bi bF
  have ay:=aM aX
  have aY:=aM aW
  clear aX aW
  replace bv:=eq_true bv
  replace bz:=eq_true bz
  obtain⟨aO,aP,dD⟩:=R_slice aj.out
  subst dD
  have H:=bN.out;clear bN
  replace H:=jB H;rcases H with ⟨rfl,H⟩ | ⟨rfl,H⟩
  ·have H':=aM H
   clear H
   try go_wp2_with (first|((with_reducible refine jc 60 29 ?_);refine jK func60 (Sb1.calls k1 _ _ au _ _ (abX af aa) true _ (kJ aj) (kp aj) (by repeat (first|exact (kC ay.out)|(with_reducible refine C_alloc ?_ _)|(with_reducible refine C_drewN ?_ _)|(with_reducible refine C_drew ?_))) aY.out A9.out) ?_;rintro w' ⟨nd,rfl⟩))
   go_roundg k1
   case measure=>have:=cz.out;omega
   exact⟨(af),(bq),(wrap64 (aa - 1)),qZ,qZ,H',⟨by have:=cz.out;omega⟩,⟨by (with_reducible repeat (first|apply S_alloc|apply S_drewN|apply S_drew));exact S_mono ae.out (fun _ hk=>hk.1.1)⟩,⟨qT⟩,⟨qB⟩⟩
  obtain⟨bS,bn⟩:=ky ((af.set (aa:Int).toNat au):List (List Bool))
  replace H:=kv bn H
  have H':=aM H
  clear H
  try go_wp2_with (first|((with_reducible refine jc 60 29 ?_);refine jK func60 (Sb1.calls k1 _ _ au _ _ (abX af aa) false _ (kJ aj) (kp aj) (by repeat (first|exact (kC ay.out)|(with_reducible refine C_alloc ?_ _)|(with_reducible refine C_drewN ?_ _)|(with_reducible refine C_drew ?_))) aY.out A9.out) ?_;rintro w' ⟨nd,rfl⟩;(try (rw [abk bu];generalize hq_:World.drewN bu _=bu;have dE:=aM (R_drewN ax.out nd);rw [hq_] at dE;have dF:=aM (R_drewN ai.out nd);rw [hq_] at dF;have dG:=aM (R_drewN aj.out nd);rw [hq_] at dG;have dH:=aM (S_drewN ae.out nd);rw [hq_] at dH;have dX:aa1 (Kept w bu (fun k_=>aF k_)):=⟨by rw [<- hq_];exact qT⟩;have dY:aa1 (Below w0.heap.size w0 bu):=⟨by rw [<- hq_];exact qB⟩;have dZ:aa1 (Kd.C Kd.bool bu aN (abX af aa).length (abX af aa)):=⟨by rw [<- hq_];exact (kC ay.out)⟩;clear ax ai aj ae HK HB ay hq_;have ax:=dE;have ai:=dF;have aj:=dG;have ae:=dH;have HK:=dX;have HB:=dY;have ay:=dZ;clear dE dF dG dH dX dY dZ));have dI:0<=(aa:Int):=qD;have dJ:(aa:Int) < ((af.length:Int):Int):=qD;obtain⟨aD,eP,bT,bU,dK,eQ,bV⟩:=S_form ae.out (by omega);(first|cases bT|(injection bT with ea_ en_ ec_;(first|subst ea_|(injection ea_ with ea_;subst ea_));subst ec_;clear en_));have dL:=aM bU;have eT:=aM bV;clear bU dK bV;have dM:=aM (show (aF aD\/w.heap.size<=aD) from ((S_R ae.out).1 _ rfl).1.1);(first|simp only [add_plain] at aV|skip);obtain⟨_,eU,bW,bX,bB,bC,_,_⟩:=S_elem ae.out [] (aa:Int) dI dJ;obtain⟨dN,rfl,dO⟩:=bX;have bH:=bB 0 _ rfl;have bI:=bC 0;(try simp only [show ((Kd.slice 4 Kd.bool)).sz=1 from rfl,Nat.mul_one,Nat.add_zero] at bH);(try simp only [show ((Kd.slice 4 Kd.bool)).sz=1 from rfl,Nat.mul_one,Nat.add_zero] at bI);clear bW bB bC;(try clear bX);replace dI:=eq_true dI;replace dJ:=eq_true dJ;have n_:=aM (S_mono (ok':=(fun k_=>(aF k_\/w.heap.size<=k_)/\some k_≠(.slice aK az.length aL:Value).ownBlock/\some k_≠(.slice aO au.length aP:Value).ownBlock)) ae.out (by first|exact fun k_ hk=>⟨hk.1.1,⟨hk.1.2,hk.2⟩⟩|exact fun k_ hk=>hk));clear ae;have ae:=n_;clear n_;have dP:=aM (show Kd.S (Kd.slice 4 Kd.bool) 37 bu w0.heap.size (fun k_=>((fun k_=>(aF k_\/w.heap.size<=k_)/\some k_≠(.slice aK az.length aL:Value).ownBlock)) k_/\¬ ((fun k_=>some k_=(.slice aO au.length aP:Value).ownBlock)) k_) (.slice (some ⟨aD,0,none⟩) af.length aZ) af from (by (with_reducible repeat (first|apply S_alloc|apply S_drewN|apply S_drew));exact S_mono ae.out (by first|exact fun k_ hk=>⟨⟨hk.1,hk.2.1⟩,fun e_=>hk.2.2 e_⟩|exact fun k_ hk=>hk)));obtain⟨d9,eX,bY,bZ,bD,bE,bJ,cu⟩:=S_elem dP.out [] (aa:Int) (qD) (by have h_:(aa:Int) < ((af.length:Int):Int):=qD;first|exact h_|(have e_:=(S_reads' ae.out).1;omega)|simpa using h_);obtain⟨dQ,rfl,dR⟩:=bZ;have bA:=S_seg cu (qD) (by have h_:(aa:Int) < ((af.length:Int):Int):=qD;first|exact h_|(have e_:=(S_reads' ae.out).1;omega)|simpa using h_) (seg:=[.slice aO au.length aP]) (j:=0) (show 1<=1 from by decide) (x':=au) (M_row (R_mono (R_tight rfl (R_mono (ok':=fun k_=>((fun k_=>(aF k_\/w.heap.size<=k_)/\some k_≠(.slice aK az.length aL:Value).ownBlock)) k_/\k_≠aD) (R_apart' (aj.out) (S_typed ae.out) (by decide)) (by first|exact fun k_ hk=>⟨⟨hk.1.1.1,hk.1.2⟩,fun e_=>(hk.2) (by rw [e_];rfl)⟩|exact fun k_ hk=>⟨⟨hk.1.1,hk.1.2⟩,fun e_=>(hk.2) (by rw [e_];rfl)⟩))) (fun _ h_=>Or.inr (h_)))) (fun _ hk=>hk) (fun k_ hk_=>((R_mono (ok':=fun k_=>((fun k_=>(aF k_\/w.heap.size<=k_)/\some k_≠(.slice aK az.length aL:Value).ownBlock)) k_/\k_≠aD) (R_apart' (aj.out) (S_typed ae.out) (by decide)) (by first|exact fun k_ hk=>⟨⟨hk.1.1.1,hk.1.2⟩,fun e_=>(hk.2) (by rw [e_];rfl)⟩|exact fun k_ hk=>⟨⟨hk.1.1,hk.1.2⟩,fun e_=>(hk.2) (by rw [e_];rfl)⟩))).1 k_ hk_.symm);have bK:=bD 0 _ rfl;(try simp only [show ((Kd.slice 4 Kd.bool)).sz=1 from rfl,Nat.mul_one,Nat.add_zero] at bK);have bL:=bE 0;(try simp only [show ((Kd.slice 4 Kd.bool)).sz=1 from rfl,Nat.mul_one,Nat.add_zero] at bL);clear bY bD bE bJ cu;(try clear bZ);(try simp only [show ((Kd.slice 4 Kd.bool)).sz=1 from rfl,Nat.mul_one,Nat.add_zero] at bA))|((with_reducible refine aaz (t:=37) (p:=34) rfl ?_);refine aar (t:=37) (p:=34) (v:=?dS) (w1:=(bu.setCell ⟨aD,(aa:Int).toNat,none⟩ (.slice aO au.length aP))) ?hg ?ho ?hn ?hr ?_;(case ho=>rfl);(case hg=>rfl);(case hn=>rfl);(case hr=>first|(go_simp;done)|(go_simp;rfl));intro dU hw;have hg:bu.grownBy dU (some aD):=(by rw [hw];exact bA.2);have hp_:Kd.S (Kd.slice 4 Kd.bool) 37 dU w0.heap.size (fun k_=>(aF k_\/w.heap.size<=k_)/\some k_≠(.slice aK az.length aL:Value).ownBlock) (.slice (some ⟨aD,0,none⟩) af.length aZ) bS:=(by rw [hw,bn.out];exact bA.1);clear bA;replace ai:=aM (R_over' (v:=(.slice (some ⟨aD,0,none⟩) af.length aZ)) (qR ai) (S_typed ae.out) (by decide) hg);replace ax:=aM (R_after (v:=(.slice (some ⟨aD,0,none⟩) af.length aZ)) (v1:=(.slice (some ⟨aD,0,none⟩) af.length aZ)) (ok:=(fun k_=>(aF k_\/w.heap.size<=k_)/\some k_≠(.slice aK az.length aL:Value).ownBlock/\some k_≠(.slice aO au.length aP:Value).ownBlock)) (by (with_reducible repeat (first|apply R_alloc|apply R_drewN|apply R_drew));exact R_mono ax.out (fun _ hk=>⟨⟨hk.1.1.1,⟨hk.1.1.2,hk.1.2⟩⟩,hk.2⟩)) hg (.inl rfl));replace HB:=aM ((by rw [hw];exact aag (HB.out) dL.out:Below w0.heap.size w0 dU));replace HK:=aM (abm (S:=(fun k_=>aF k_)) hg qT (fun k_ e_=>((S_R ae.out).1 k_ e_).1));replace ae:=aM hp_;clear aj;clear hg hw hp_))
  go_roundg k1
  case measure=>have:=cz.out;omega
  exact⟨(bS),(true),(wrap64 (aa - 1)),qZ,qZ,H',⟨by have:=cz.out;omega⟩,⟨by (with_reducible repeat (first|apply S_alloc|apply S_drewN|apply S_drew));exact S_mono ae.out (fun _ hk=>hk.1)⟩,⟨qT⟩,⟨qB⟩⟩
 obtain⟨rfl,rfl⟩:=oJ2 H
 go_wp2
 go_ret
 exact⟨qW,qS ae,qB,qT⟩
mutual
def af9:Nat->List S27->List (List Bool)->Int->Option ((List (List Bool)))
 | 0,_,_,_=>none
 | k+1,x0,x3,x4=>if x4 < (x0.length:Int) then (if 12<=281474976710656 then (if x3.length < 5864062014805 then (af9 k x0 (x3 ++ [(List.replicate 12 false)]) (wrap64 (x4+1))) else (none)) else (none)) else (aev k x0 x3)
def aev:Nat->List S27->List (List Bool)->Option ((List (List Bool)))
 | 0,_,_=>none
 | k+1,x0,x3=>(Sb0.f k x0 x3).bind fun ax=>(if ax.1=true then (aev k x0 ax.2) else (some ax.2))
end
def Sas.f (k:Nat) (l0:List S27):Option ((List (List Bool))):=(some (([]:List (List Bool)):List (List Bool))).bind fun aD=>((Sai.f k l0).bind fun aI=>(if aI=true then (af9 k l0 aD 0) else (some aD)))
theorem Sas.calls (k:Nat) (A0:Option Addr) (c0:Nat) (l0:List S27) (r:List (List Bool)) (w:World) (hr0:Kd.C k27 w A0 l0.length l0) (hc0:l0.length<=c0) (h:Sas.f k l0=some r) :
  Calls prog 21 #[.slice A0 l0.length c0] w fun e w'=>∃ bA:Value,e = .returned (bA)/\Kd.S (Kd.slice 4 Kd.bool) 37 w' w.heap.size (fun _=>True) bA r/\Below w.heap.size w w':=by
 have aY:=aM hr0
 have aZ:=aM hc0
 clear hr0 hc0
 have HB:=jb_ w
 have H:=h;unfold Sas.f at H
 clear h
 obtain⟨aD,ah⟩:=ky ((([]:List (List Bool))):List (List Bool))
 replace H:=kv ah H
 obtain⟨aI,A2,H⟩:=qE H
 try dsimp only at H
 replace H:=jB H;rcases H with ⟨rfl,H⟩ | ⟨rfl,H⟩
 ·have H':=aM H
  clear H
  go_enter func21,ntmps21
  go_wp2_with (first|((with_reducible refine jd 5 ?_);refine S_lit (Kd.slice 4 Kd.bool) _ 37 ?hg (N:=5) ?hd (xs:=([]:List (List Bool))) (inner:=[]) (ok:=fun _=>True) (okp:=fun _=>True) ?hr ?hp (fun _ hk=>hk) trivial (Below.refl _ _) (Nat.le_refl _) (by simp) ?_;(case hd=>rfl);(case hg=>rfl);(case hr=>first|(go_simp;done)|(go_simp;rfl));(case hp=>exact (aa9 _ _));intro bi w4 aJ hb hg_ hnew_;clear hg_ hnew_;replace aJ:=kr ah aJ;have ae:=aM (S_lower aJ (aa4 qB));replace HB:=kH hb;clear hb aJ)|((with_reducible refine jc 36 7 ?_);refine jK func36 (Sai.calls k _ _ l0 true _ (kb aY HB) aZ.out A2.out) ?_;intro w6 hb;replace ae:=kS ae hb;replace HB:=kH hb;clear hb))
  go_loopg [3,4] k (fun kq v3 v4 w'=>∃ (au:List (List Bool)) (aH:Int),v4 = iV aH/\aa1 (af9 kq l0 au aH=some r)/\aa1 (kq<=k)/\aa1 (Kd.S (Kd.slice 4 Kd.bool) 37 w' w.heap.size (fun _=>True) v3 au)/\aa1 (Below w.heap.size w w'))
  case atStart=>exact⟨(aD),(0),qZ,H',⟨Nat.le_refl _⟩,⟨qS ae⟩,⟨qB⟩⟩
  clear H'
  obtain⟨au,aH,rfl,HA,bg,aa,HB⟩:=hrel
  rcases gk with _|k1
  ·exact absurd HA.out (by simp [af9])
  have H:=HA.out
  clear HA
  simp only [af9] at H
  replace H:=jD H;rcases H with ⟨aK,H⟩ | ⟨aK,H⟩
  ·replace H:=jJ H;obtain⟨bG,bH,H⟩:=H
   obtain⟨aG,aj⟩:=ky ((List.replicate 12 false):List Bool)
   replace H:=kv aj H
   replace H:=jL H;obtain⟨bn,H⟩:=H
   obtain⟨bI,ay⟩:=ky ((au ++ [aG]):List (List Bool))
   replace H:=kv ay H
   have H':=aM H
   clear H
   go_wp2_with (first|((with_reducible refine jd 17 ?_);refine R_make Kd.bool _ 4 rfl (N:=17) rfl 37 _ _ rfl 12 rfl rfl underlying37 (.bool false) 1 al5 rfl (by decide) (by omega) false (ok:=fun _=>True) (okp:=fun _=>True) rfl (fun _ hk=>hk) trivial (by omega) (by omega) (Below.refl _ _) (Nat.le_refl _) ?_;intro bJ bK av hb hg_ hnew_;clear hg_ hnew_;replace av:=kr aj av;have ak:=kL av;replace aa:=aM (S_elder' (qS aa) (R_base av) hb);replace HB:=kH hb;clear hb av;obtain⟨aN,aQ,bq⟩:=R_slice ak.out;subst bq)|((with_reducible refine aaa (b:=.append) (xs:=#[.tmp 16,.tmp 18]) rfl ?_);at_builtin;refine S_append (Kd.slice 4 Kd.bool) (w0:=w) w.heap.size rfl (.tmp 16) (.tmp 18) 33 37 (.slice none 0 0) 24 rfl underlying33 anP rfl (by decide) (by omega) u3 au aG [.slice aN aG.length aQ] (fun _=>True) (fun k_=>some k_=(.slice aN aG.length aQ:Value).ownBlock) rfl rfl ?aP (fun k_ hk_=>((R_mono (ok':=fun k_=>((fun _=>True)) k_/\some k_≠(u3:Value).ownBlock) (R_apart' (ak.out) (S_typed aa.out) (by decide)) (fun k_ hk=>⟨trivial,hk.2⟩))).1 k_ hk_.symm) ?aF ?aO ?aB ?aS ?aL ?_;(case aP=>exact M_row (R_mono (R_tight rfl (R_mono (ok':=fun k_=>((fun _=>True)) k_/\some k_≠(u3:Value).ownBlock) (R_apart' (ak.out) (S_typed aa.out) (by decide)) (fun k_ hk=>⟨trivial,hk.2⟩))) (fun _ h_=>h_)));(case aB=>exact qB);(case aF=>exact (fun _ _=>trivial));(case aO=>exact (by (with_reducible repeat (first|apply S_alloc|apply S_drewN|apply S_drew));exact S_mono aa.out (by first|exact fun k_ hk=>⟨trivial,fun e_=>hk.2 e_⟩|exact fun k_ hk=>hk)));(case aS=>exact (aa4 qB));(case aL=>have:=bn.out;omega);intro bL bM ho hb hg hat;rw [<- ay.out] at ho;have aR:=aM ho;replace HB:=aM hb;clear aa ak;clear ho hb hg hat))
   go_roundg k1
   case measure=>have:=bg.out;omega
   exact⟨_,_,qZ,H',⟨by have:=bg.out;omega⟩,⟨qS aR⟩,⟨qB⟩⟩
  have H':=aM H
  clear H
  go_wp2
  go_loopg [] k1 (fun kq w'=>∃ (ai:List (List Bool)),aa1 (aev kq l0 ai=some r)/\aa1 (kq<=k1)/\aa1 (Kd.S (Kd.slice 4 Kd.bool) 37 w' w.heap.size (fun _=>True) u3 ai)/\aa1 (Below w.heap.size w w'))
  case atStart=>exact⟨(au),H',⟨Nat.le_refl _⟩,⟨qS aa⟩,⟨qB⟩⟩
  clear H'
  try clear aK
  obtain⟨ai,HA,bB,aa,HB⟩:=hrel
  rcases gk with _|k2
  ·exact absurd HA.out (by simp [aev])
  have H:=HA.out
  clear HA
  simp only [aev] at H
  obtain⟨⟨bN,aT⟩,bC,H⟩:=qE H
  try dsimp only at H
  replace H:=jB H;rcases H with ⟨rfl,H⟩ | ⟨rfl,H⟩
  ·have H':=aM H
   clear H
   obtain⟨aU,aV,bu⟩:=S_slice aa.out
   subst bu
   go_wp2_with (first|((with_reducible refine jc 43 22 ?_);refine jG func43 #[.slice A0 l0.length c0,.slice aU ai.length aV] ?_;refine (Sb0.calls k2 _ _ l0 ?bD (.slice aU ai.length aV) ai true aT w _ ?af ?ag ?az ?aA bC.out).mono ?_;(case aA=>exact S_bound aa.out);(case af=>exact qB);(case ag=>exact C_kept_came acv aY.out qB (fun k_ hs_=>(by first|exact R_base aa.out k_ hs_.symm|exact hs_.2.1)));(case az=>exact aZ.out);rintro e bv ⟨rfl,hy0,hb,hkp⟩;refine⟨_,rfl,?_⟩;replace aa:=aM ((by first|exact S_mono (ok':=fun k_=>True) hy0 (fun k_ h_=>Or.elim h_ (fun h_=>h_.1) (fun h_=>.inr (by first|exact Nat.le_trans HK.out.1 h_|exact Nat.le_trans (aa4 HB.out) h_)))|exact S_mono (ok':=fun k_=>True) hy0 (fun _ _=>trivial)));replace HB:=aM hb;(try clear hb);(try clear hkp);(try clear hy0)))
   go_roundg k2
   case measure=>have:=bg.out;have:=bB.out;omega
   exact⟨_,H',⟨by have:=bg.out;have:=bB.out;omega⟩,⟨qS aa⟩,⟨qB⟩⟩
  obtain rfl:=oJ H
  obtain⟨aW,aX,bz⟩:=S_slice aa.out
  subst bz
  go_wp2_with (first|((with_reducible refine jc 43 22 ?_);refine jG func43 #[.slice A0 l0.length c0,.slice aW ai.length aX] ?_;refine (Sb0.calls k2 _ _ l0 ?bE (.slice aW ai.length aX) ai false aT w _ ?af ?ag ?az ?aA bC.out).mono ?_;(case aA=>exact S_bound aa.out);(case af=>exact qB);(case ag=>exact C_kept_came acv aY.out qB (fun k_ hs_=>(by first|exact R_base aa.out k_ hs_.symm|exact hs_.2.1)));(case az=>exact aZ.out);rintro e bv ⟨rfl,hy0,hb,hkp⟩;refine⟨_,rfl,?_⟩;replace aa:=aM ((by first|exact S_mono (ok':=fun k_=>True) hy0 (fun k_ h_=>Or.elim h_ (fun h_=>h_.1) (fun h_=>.inr (by first|exact Nat.le_trans HK.out.1 h_|exact Nat.le_trans (aa4 HB.out) h_)))|exact S_mono (ok':=fun k_=>True) hy0 (fun _ _=>trivial)));replace HB:=aM hb;(try clear hb);(try clear hkp);(try clear hy0)))
  go_ret
  exact⟨_,qW,qS aa,qB⟩
 obtain rfl:=oJ H
 go_enter func21,ntmps21
 go_wp2_with (first|((with_reducible refine jd 5 ?_);refine S_lit (Kd.slice 4 Kd.bool) _ 37 ?hg (N:=5) ?hd (xs:=([]:List (List Bool))) (inner:=[]) (ok:=fun _=>True) (okp:=fun _=>True) ?hr ?hp (fun _ hk=>hk) trivial (Below.refl _ _) (Nat.le_refl _) (by simp) ?_;(case hd=>rfl);(case hg=>rfl);(case hr=>first|(go_simp;done)|(go_simp;rfl));(case hp=>exact (aa9 _ _));intro bi bO aC hb hg_ hnew_;clear hg_ hnew_;replace aC:=kr ah aC;have ae:=aM (S_lower aC (aa4 qB));replace HB:=kH hb;clear hb aC)|((with_reducible refine jc 36 7 ?_);refine jK func36 (Sai.calls k _ _ l0 false _ (kb aY HB) aZ.out A2.out) ?_;intro bP hb;replace ae:=kS ae hb;replace HB:=kH hb;clear hb))
 go_ret
 exact⟨_,qW,qS ae,qB⟩
end Go.Proofs.YtebpplallecogaaGreat.M
namespace Go.Proofs.YtebpplallecogaaGreat.M
open Go.Proofs.Tryz Go.RowKit Go.Proofs.YtebpplallecogaaGreatW.PrintWords Go.Proofs.YtebpplallecogaaGreatW.PrintLast Go.Proofs.YtebpplallecogaaGreatW.PrintMore
attribute [local go_sem] aan aal aay aax aaf aae aam aak
def alH (ai aa au av ax:Int) (l1:List Bool):Option (Bool):=if ai=1 then (if 0<=aa then (if aa < (l1.length:Int) then (some (!(abo false l1 aa))) else (none)) else (none)) else (if ai=2 then (if 0<=aa then (if aa < (l1.length:Int) then (some (!(abo false l1 aa))) else (none)) else (none)) else (if ai=3 then (if 0<=aa then (if aa < (l1.length:Int) then (some (!(abo false l1 aa))) else (none)) else (none)) else (some false)))
theorem apR {G:Prop} (h:G:=by
  go_enter func37,ntmps37
  go_wp2_with (first|((with_reducible refine jd 2 ?_);refine jY _ 27 ?_;intro aj hg aF ae hb;have ak:=kG hg;replace HB:=kH hb;clear hb hg;have aG:=jz5 ae;have ay:0<=(aa:Int):=qD;have az:aa < (l1.length:Int):=qD;obtain⟨aR,aJ,af⟩:=Kd.at_bool HR1.out aa ay az;cases aJ;replace af:=kx HB af;replace ay:=eq_true ay;replace az:=eq_true az))
  go_ret
  exact⟨qW,qB⟩):G:=h
theorem Sbh.calls (ai aa au av ax:Int) (A1:Option Addr) (c1:Nat) (l1:List Bool) (r:Bool) (w:World) (hr1:Kd.C Kd.bool w A1 l1.length l1) (hc1:l1.length<=c1) (h:alH ai aa au av ax l1=some r) :
  Calls prog 37 #[.agg #[iV ai,iV aa,iV au,iV av,iV ax],.slice A1 l1.length c1] w fun e w'=>e = .returned (.bool r)/\Below w.heap.size w w':=by
 have aX:=underlying27
 have HR1:=aM hr1
 have bi:=aM hc1
 clear hr1 hc1
 have HB:=jb_ w
 have H:=h;unfold alH at H
 clear h
 replace H:=jE H;rcases H with ⟨aK,aL,H⟩ | ⟨c3,aK,aL,H⟩
 ·replace H:=jI H;obtain⟨aY,H⟩:=H
  replace H:=jI H;obtain⟨aZ,H⟩:=H
  obtain rfl:=oJ H
  exact apR
 replace H:=jE H;rcases H with ⟨aN,aO,H⟩ | ⟨c8,aN,aO,H⟩
 ·replace H:=jI H;obtain⟨bg,H⟩:=H
  replace H:=jI H;obtain⟨aS,H⟩:=H
  obtain rfl:=oJ H
  go_enter func37,ntmps37
  go_wp2_with (first|((with_reducible refine jd 2 ?_);refine jY _ 27 ?_;intro aj hg aF ae hb;have ak:=kG hg;replace HB:=kH hb;clear hb hg;have aG:=jz5 ae;have aA:0<=(aa:Int):=qD;have aB:aa < (l1.length:Int):=qD;obtain⟨aT,aP,ag⟩:=Kd.at_bool HR1.out aa aA aB;cases aP;replace ag:=kx HB ag;replace aA:=eq_true aA;replace aB:=eq_true aB))
  go_ret
  exact⟨qW,qB⟩
 replace H:=jE H;rcases H with ⟨aH,aI,H⟩ | ⟨c13,aH,aI,H⟩
 ·replace H:=jI H;obtain⟨aU,H⟩:=H
  replace H:=jI H;obtain⟨aV,H⟩:=H
  obtain rfl:=oJ H
  go_enter func37,ntmps37
  go_wp2_with (first|((with_reducible refine jd 2 ?_);refine jY _ 27 ?_;intro aj hg aF ae hb;have ak:=kG hg;replace HB:=kH hb;clear hb hg;have aG:=jz5 ae;have aC:0<=(aa:Int):=qD;have aD:aa < (l1.length:Int):=qD;obtain⟨aW,aQ,ah⟩:=Kd.at_bool HR1.out aa aC aD;cases aQ;replace ah:=kx HB ah;replace aC:=eq_true aC;replace aD:=eq_true aD))
  go_ret
  exact⟨qW,qB⟩
 obtain rfl:=oJ H
 exact apR
end Go.Proofs.YtebpplallecogaaGreat.M
namespace Go.Proofs.YtebpplallecogaaGreat.M
open Go.Proofs.Tryz Go.RowKit Go.Proofs.YtebpplallecogaaGreatW.PrintWords Go.Proofs.YtebpplallecogaaGreatW.PrintLast Go.Proofs.YtebpplallecogaaGreatW.PrintMore Kd
attribute [local go_sem] aan aal aay aax aaf aae aam aak
def aew:Nat->List S27->List S27->List (List Bool)->Int->Option ((List S27) × Bool)
 | 0,_,_,_,_=>none
 | k+1,x0,x4,x5,x6=>if x6 < (x0.length:Int) then (if 0<=x6 then ((SaY.f k x0 x5 x6).bind fun aH=>((alH ((aa0 x0 x6).f0) ((aa0 x0 x6).f1) ((aa0 x0 x6).f2) ((aa0 x0 x6).f3) ((aa0 x0 x6).f4) aH).bind fun aU=>(if aU=true then (if x4.length < 3518437208883 then (aew k x0 (x4 ++ [(⟨4,0,0,0,wrap64 (x6+1)⟩:S27)]) x5 (wrap64 (x6+1))) else (none)) else (if x4.length < 3518437208883 then (aew k x0 (x4 ++ [(⟨(aa0 x0 x6).f0,(aa0 x0 x6).f1,(aa0 x0 x6).f2,(aa0 x0 x6).f3,(aa0 x0 x6).f4⟩:S27)]) x5 (wrap64 (x6+1))) else (none))))) else (none)) else (some (x4,true))
def Sam.f (k:Nat) (l0:List S27):Option ((List S27) × Bool):=(some (([]:List S27):List S27)).bind fun aN=>((Sai.f k l0).bind fun aV=>(if aV=true then ((Sas.f k l0).bind fun ax=>(aew k l0 aN ax 0)) else (some (aN,false))))
theorem Sam.calls (k:Nat) (A0:Option Addr) (c0:Nat) (l0 r1:List S27) (r2:Bool) (w:World) (hr0:Kd.C k27 w A0 l0.length l0) (hc0:l0.length<=c0) (h:Sam.f k l0=some (r1,r2)) :
  Calls prog 16 #[.slice A0 l0.length c0] w fun e w'=>∃ bX:Value,e = .returned (.tuple #[bX,.bool r2])/\Kd.R k27 27 w' w.heap.size (fun _=>True) bX r1/\Below w.heap.size w w':=by
 have cB:=underlying27
 have aW:=aM hr0
 have bF:=aM hc0
 clear hr0 hc0
 have HB:=jb_ w
 have H:=h;unfold Sam.f at H
 clear h
 obtain⟨aN,av⟩:=ky ([]:List S27)
 replace H:=kv av H
 obtain⟨aV,A2,H⟩:=qE H
 try dsimp only at H
 replace H:=jB H;rcases H with ⟨rfl,H⟩ | ⟨rfl,H⟩
 ·obtain⟨ax,A4,H⟩:=qE H
  try dsimp only at H
  have H':=aM H
  clear H
  go_enter func16,ntmps16
  go_wp2_with (first|((with_reducible refine jd 8 ?_);refine jV k27 27 ([]:List S27) [] (aa9 _ _) ?_;intro bH w5 aX hb;replace aX:=kr av aX;have au:=kL aX;replace HB:=kH hb;clear hb aX)|((with_reducible refine jc 36 10 ?_);refine jK func36 (Sai.calls k _ _ l0 true _ (kb aW HB) bF.out A2.out) ?_;intro w7 hb;replace au:=kR au hb;replace HB:=kH hb;clear hb)|((with_reducible refine jc 21 14 ?_);refine jM func21 (Sas.calls k _ _ l0 ax _ (kb aW HB) bF.out A4.out) ?_;rintro aY w8 ⟨ho0,hb⟩;have aZ:=aM (S_lower ho0 (aa4 qB));replace au:=kR au hb;replace HB:=kH hb;clear hb;(try clear ho0)))
  go_loopg [4,6] k (fun kq v4 v6 w'=>∃ (ay:List S27) (ae:Int),v6 = iV ae/\aa1 (aew kq l0 ay ax ae=some (r1,r2))/\aa1 (kq<=k)/\aa1 (Kd.R k27 27 w' w.heap.size (fun _=>True) v4 ay)/\aa1 (Kd.S (Kd.slice 4 Kd.bool) 37 w' w.heap.size (fun _=>True) aY ax)/\aa1 (Below w.heap.size w w'))
  case atStart=>exact⟨(aN),(0),qZ,H',⟨Nat.le_refl _⟩,⟨qR au⟩,⟨qS aZ⟩,⟨qB⟩⟩
  clear H'
  obtain⟨ay,ae,rfl,HA,bG,ag,ah,HB⟩:=hrel
  rcases gk with _|k1
  ·exact absurd HA.out (by simp [aew])
  have H:=HA.out
  clear HA
  simp only [aew] at H
  replace H:=jD H;rcases H with ⟨bI,H⟩ | ⟨bI,H⟩
  ·replace H:=jI H;obtain⟨bY,H⟩:=H
   obtain⟨aH,cK,H⟩:=qE H
   try dsimp only at H
   obtain⟨aU,bZ,H⟩:=qE H
   try dsimp only at H
   have aQ:=aM H;clear H
   have aR:0<=(ae:Int):=qD
   have aT:ae < (l0.length:Int):=qD
   obtain⟨bg,bJ,az,aA,aC,aD,aG⟩:=ab2 aW.out ae aR aT
   cases bJ
   replace az:=kx HB az
   replace aA:=kx HB aA
   replace aC:=kx HB aC
   replace aD:=kx HB aD
   replace aG:=kx HB aG
   replace aR:=eq_true aR
   replace aT:=eq_true aT
   try go_wp2_with (first|((with_reducible refine jd 7 ?_);refine jY _ 27 ?_;intro aa hg bi af hb;have cu:=kG hg;replace ag:=aM (R_below (R_elderB (qR ag) aa (Nat.le_of_eq hg.symm)) hb);replace ah:=kS ah hb;replace HB:=kH hb;clear hb hg;have cO:=jz5 af))
   have bK:aa1 (Kd.R k27 27 (((((bi.setCell ⟨aa,0,none⟩ (iV ((aa0 l0 ae).f0))).setCell ⟨aa,1,none⟩ (iV ((aa0 l0 ae).f1))).setCell ⟨aa,2,none⟩ (iV ((aa0 l0 ae).f2))).setCell ⟨aa,3,none⟩ (iV ((aa0 l0 ae).f3))).setCell ⟨aa,4,none⟩ (iV ((aa0 l0 ae).f4))) w.heap.size (fun k_=>k_≠aa) u4 ay):=⟨by (with_reducible repeat (first|apply R_alloc|apply R_drewN|apply R_drew));exact R_mono (R_far (p:=⟨aa,4,none⟩) (R_far (p:=⟨aa,3,none⟩) (R_far (p:=⟨aa,2,none⟩) (R_far (p:=⟨aa,1,none⟩) (R_far (p:=⟨aa,0,none⟩) (R_mono ag.out (fun k_ hk=>(⟨hk,hk.2⟩:_/\k_≠aa))) (fun _ hk=>hk.2) (iV ((aa0 l0 ae).f0))) (fun _ hk=>hk.2) (iV ((aa0 l0 ae).f1))) (fun _ hk=>hk.2) (iV ((aa0 l0 ae).f2))) (fun _ hk=>hk.2) (iV ((aa0 l0 ae).f3))) (fun _ hk=>hk.2) (iV ((aa0 l0 ae).f4))) (fun _ hk=>hk.1.2)⟩
   have bL:aa1 (Kd.S (Kd.slice 4 Kd.bool) 37 (((((bi.setCell ⟨aa,0,none⟩ (iV ((aa0 l0 ae).f0))).setCell ⟨aa,1,none⟩ (iV ((aa0 l0 ae).f1))).setCell ⟨aa,2,none⟩ (iV ((aa0 l0 ae).f2))).setCell ⟨aa,3,none⟩ (iV ((aa0 l0 ae).f3))).setCell ⟨aa,4,none⟩ (iV ((aa0 l0 ae).f4))) w.heap.size (fun _=>True) aY ax):=⟨by (with_reducible repeat (first|apply S_alloc|apply S_drewN|apply S_drew));exact S_mono (S_far (p:=⟨aa,4,none⟩) (S_far (p:=⟨aa,3,none⟩) (S_far (p:=⟨aa,2,none⟩) (S_far (p:=⟨aa,1,none⟩) (S_far (p:=⟨aa,0,none⟩) (S_types ah.out af.out (by decide)) (fun _ hk=>hk.2) (iV ((aa0 l0 ae).f0))) (fun _ hk=>hk.2) (iV ((aa0 l0 ae).f1))) (fun _ hk=>hk.2) (iV ((aa0 l0 ae).f2))) (fun _ hk=>hk.2) (iV ((aa0 l0 ae).f3))) (fun _ hk=>hk.2) (iV ((aa0 l0 ae).f4))) (fun _ hk=>trivial)⟩
   have bM:aa1 ((((((bi.setCell ⟨aa,0,none⟩ (iV ((aa0 l0 ae).f0))).setCell ⟨aa,1,none⟩ (iV ((aa0 l0 ae).f1))).setCell ⟨aa,2,none⟩ (iV ((aa0 l0 ae).f2))).setCell ⟨aa,3,none⟩ (iV ((aa0 l0 ae).f3))).setCell ⟨aa,4,none⟩ (iV ((aa0 l0 ae).f4))).heap[aa]?=some (.cells #[iV ((aa0 l0 ae).f0),iV ((aa0 l0 ae).f1),iV ((aa0 l0 ae).f2),iV ((aa0 l0 ae).f3),iV ((aa0 l0 ae).f4)] 27 (0,0))):=⟨qF af⟩
   have bN:aa1 (Below w.heap.size w (((((bi.setCell ⟨aa,0,none⟩ (iV ((aa0 l0 ae).f0))).setCell ⟨aa,1,none⟩ (iV ((aa0 l0 ae).f1))).setCell ⟨aa,2,none⟩ (iV ((aa0 l0 ae).f2))).setCell ⟨aa,3,none⟩ (iV ((aa0 l0 ae).f3))).setCell ⟨aa,4,none⟩ (iV ((aa0 l0 ae).f4)))):=⟨qB⟩
   (try clear ag)
   (try clear ah)
   (try clear af)
   (try clear HB)
   generalize (((((bi.setCell ⟨aa,0,none⟩ (iV ((aa0 l0 ae).f0))).setCell ⟨aa,1,none⟩ (iV ((aa0 l0 ae).f1))).setCell ⟨aa,2,none⟩ (iV ((aa0 l0 ae).f2))).setCell ⟨aa,3,none⟩ (iV ((aa0 l0 ae).f3))).setCell ⟨aa,4,none⟩ (iV ((aa0 l0 ae).f4)))=df at bK bL bM bN ⊢
   have ag:=bK
   have ah:=bL
   have af:=bM
   have HB:=bN
   clear bK bL bM bN
   replace ag:=aM (R_drew ag.out)
   replace ah:=aM (S_drew ah.out)
   replace af:=aM (ab4 af.out)
   replace HB:=aM (aai HB.out)
   obtain⟨bO,bP,bn⟩:=S_slice ah.out
   (first|subst bn|(injection bn with bq bQ bu;have bR:=bq.symm;have bS:=bu.symm;clear bq bQ bu;subst bR;subst bS))
   refine abF (n:=6) (S:=fun w'=>w'.cell? ⟨aa,0,none⟩=some (iV ((aa0 l0 ae).f0))/\w'.cell? ⟨aa,1,none⟩=some (iV ((aa0 l0 ae).f1))/\w'.cell? ⟨aa,2,none⟩=some (iV ((aa0 l0 ae).f2))/\w'.cell? ⟨aa,3,none⟩=some (iV ((aa0 l0 ae).f3))/\w'.cell? ⟨aa,4,none⟩=some (iV ((aa0 l0 ae).f4))) (ds:=[]) (jb 6 0) (by kernel_rfl) rfl rfl ⟨(aa3 af.out 0).trans rfl,(aa3 af.out 1).trans rfl,(aa3 af.out 2).trans rfl,(aa3 af.out 3).trans rfl,(aa3 af.out 4).trans rfl⟩ (fun hHeld=>?_)
   generalize df.drew=dz at ag ah af HB hHeld ⊢
   refine aiC (i:=1) (N:=some 26) (v:=?_) (a':=?_) (jb 6 2) rfl rfl (by kernel_rfl) (fun _ _ _ h=>h) (Or.inl ⟨by rfl,?_⟩) ?_ ?_
   rotate_left
   ·intro w'
    go_simp
    with_reducible rfl
   rotate_left
   ·simp only [Act.put,List.setIfInBounds_toArray,List.set_cons_zero,List.set_cons_succ,aau,aaD]
    rfl
   refine aiC (i:=2) (N:=some 27) (v:=?_) (a':=?_) (jb 6 6) rfl rfl (by kernel_rfl) (fun _ _ _ h=>h) (Or.inl ⟨by rfl,?_⟩) ?_ ?_
   rotate_left
   ·intro w'
    go_simp
    with_reducible rfl
   rotate_left
   ·simp only [Act.put,List.setIfInBounds_toArray,List.set_cons_zero,List.set_cons_succ,aau,aaD]
    rfl
   refine aiC (i:=3) (N:=some 28) (v:=?_) (a':=?_) (jb 6 14) rfl rfl (by kernel_rfl) (fun _ _ _ h=>h) (Or.inl ⟨by rfl,?_⟩) ?_ ?_
   rotate_left
   ·intro w'
    go_simp
    with_reducible rfl
   rotate_left
   ·simp only [Act.put,List.setIfInBounds_toArray,List.set_cons_zero,List.set_cons_succ,aau,aaD]
    rfl
   refine take_ (i:=0) (N:=some 25) (v:=?_) (a':=?_) (jb 6 15) rfl rfl (by kernel_rfl) (fun _ _ _ h=>h) (Or.inl ⟨by rfl,?_⟩) hHeld ?_ ?_
   rotate_left
   ·rintro w' ⟨s0,s1,s2,s3,s4⟩
    go_simp
    with_reducible rfl
   rotate_left
   ·simp only [Act.put,List.setIfInBounds_toArray,List.set_cons_zero,List.set_cons_succ,aau,aaD]
    rfl
   refine ad6 (i:=4) (N:=some 29) (jb 6 31) rfl rfl (by kernel_rfl) (by decide) (fun K hK=>?_)
   refine abn func38 (by kernel_rfl) rfl #[.slice (some bg) l0.length c0,.slice bO ax.length bP,iV ae] (by rfl) rfl rfl qM ?_
   with_reducible refine (SaY.calls k1 _ _ l0 _ _ ax ae aH _ ?aj ?ak ?bv ?bz cK.out).mono ?_
   (case aj=>exact kb aW HB)
   (case ak=>exact bF.out)
   (case bv=>exact kC (S_reads' ah.out).2.2)
   (case bz=>exact (S_reads' ah.out).2.1)
   rintro e dA ⟨dh,rfl,ho0,hb⟩
   refine⟨_,rfl,?_⟩
   have ai:=kL ho0
   replace ag:=kR ag hb
   replace ah:=aM (S_elder' (qS ah) (R_base ho0) hb)
   replace af:=kB af hb
   replace HB:=kH hb
   (try clear hb)
   (try clear hb2)
   (try clear hk)
   (try clear hi)
   (try clear ho0)
   obtain⟨bT,bU,bA⟩:=R_slice ai.out
   (first|subst bA|(injection bA with bq bQ bu;have bR:=bq.symm;have bS:=bu.symm;clear bq bQ bu;subst bR;subst bS))
   refine hK.out _ _ ⟨(aa3 af.out 0).trans rfl,(aa3 af.out 1).trans rfl,(aa3 af.out 2).trans rfl,(aa3 af.out 3).trans rfl,(aa3 af.out 4).trans rfl⟩ (fun hHeld=>?_)
   clear hK K
   refine aav (a':=?_) ?_ ?_
   rotate_left
   ·show Act.put _ (some 29) _=_
    simp only [Act.put,List.setIfInBounds_toArray,List.set_cons_zero,List.set_cons_succ,aau,aaD]
    rfl
   refine ad6 (i:=5) (N:=some 30) (jb 6 63) rfl rfl (by kernel_rfl) (by decide) (fun K hK=>?_)
   refine abn func37 (by kernel_rfl) rfl #[.agg #[iV ((aa0 l0 ae).f0),iV ((aa0 l0 ae).f1),iV ((aa0 l0 ae).f2),iV ((aa0 l0 ae).f3),iV ((aa0 l0 ae).f4)],.slice bT aH.length bU] (by rfl) rfl rfl qM ?_
   have H:=aQ.out;clear aQ
   replace H:=jB H;rcases H with ⟨rfl,H⟩ | ⟨rfl,H⟩
   ·replace H:=jL H;obtain⟨bB,H⟩:=H
    obtain⟨bV,aI⟩:=ky ((ay ++ [(⟨4,0,0,0,wrap64 (ae+1)⟩:S27)]):List S27)
    replace H:=kv aI H
    have H':=aM H
    clear H
    with_reducible refine (Sbh.calls ((aa0 l0 ae).f0) ((aa0 l0 ae).f1) ((aa0 l0 ae).f2) ((aa0 l0 ae).f3) ((aa0 l0 ae).f4) _ _ aH true _ ?aj ?ak bZ.out).mono ?_
    (case aj=>exact kJ ai)
    (case ak=>exact (kp ai))
    rintro e dB ⟨rfl,hb⟩
    refine⟨_,rfl,?_⟩
    replace ag:=kR ag hb
    replace ah:=kS ah hb
    replace ai:=kR ai hb
    replace af:=kB af hb
    replace HB:=kH hb
    (try clear hb)
    (try clear hb2)
    (try clear hk)
    (try clear hi)
    refine hK.out _ _ ⟨(aa3 af.out 0).trans rfl,(aa3 af.out 1).trans rfl,(aa3 af.out 2).trans rfl,(aa3 af.out 3).trans rfl,(aa3 af.out 4).trans rfl⟩ (fun hHeld=>?_)
    clear hK K
    refine aav (a':=?_) ?_ ?_
    rotate_left
    ·show Act.put _ (some 30) _=_
     simp only [Act.put,List.setIfInBounds_toArray,List.set_cons_zero,List.set_cons_succ,aau,aaD]
     rfl
    refine acG (by kernel_rfl) ?_
    have di:=jz5 af
    try go_wp2_with (first|((with_reducible refine aaa (b:=.append) (xs:=#[.tmp 34,.tmp 36]) rfl ?_);at_builtin;refine R_append k27 (w0:=w) w.heap.size rfl (.tmp 34) (.tmp 36) 23 27 (.agg #[(iV 0),(iV 0),(iV 0),(iV 0),(iV 0)]) 40 rfl underlying23 abb rfl (by decide) (by omega) u4 ay (⟨4,0,0,0,wrap64 (ae+1)⟩:S27) [iV 4,iV 0,iV 0,iV 0,iV (wrap64 (ae+1))] (fun k_=>k_≠aa) (fun _=>False) rfl (by first|(go_simp;done)|(go_simp;rfl)) ?aP (fun _ hk=>hk.elim) ?aF ?aO ?aB ?aS ?aL ?_;(case aP=>exact aaU _ _ _ (⟨4,0,0,0,wrap64 (ae+1)⟩:S27));(case aB=>exact qB);(case aF=>exact (fun k_ hk=>Kd.freshB (g:=aa) (o:=.cells #[iV 4,iV 0,iV 0,iV 0,iV (wrap64 (ae+1))] 27 (0,0)) (qF af) k_ hk));(case aO=>exact (by (with_reducible repeat (first|apply R_alloc|apply R_drewN|apply R_drew));exact R_mono (R_far (p:=⟨aa,4,none⟩) (R_far (p:=⟨aa,3,none⟩) (R_far (p:=⟨aa,2,none⟩) (R_far (p:=⟨aa,1,none⟩) (R_far (p:=⟨aa,0,none⟩) (R_mono ag.out (fun k_ hk=>(⟨hk,hk⟩:_/\k_≠aa))) (fun _ hk=>hk.2) (iV 4)) (fun _ hk=>hk.2) (iV 0)) (fun _ hk=>hk.2) (iV 0)) (fun _ hk=>hk.2) (iV 0)) (fun _ hk=>hk.2) (iV (wrap64 (ae+1)))) (fun _ hk=>hk.1)));(case aS=>exact (aa4 qB));(case aL=>have:=bB.out;omega);intro dn dC ho hb hg hat;rw [<- aI.out] at ho;have bC:=aM ho;replace ah:=aM (S_over' (by (with_reducible repeat (first|apply S_alloc|apply S_drewN|apply S_drew));exact (S_mono (S_far (p:=⟨aa,4,none⟩) (S_far (p:=⟨aa,3,none⟩) (S_far (p:=⟨aa,2,none⟩) (S_far (p:=⟨aa,1,none⟩) (S_far (p:=⟨aa,0,none⟩) (S_types ah.out af.out (by decide)) (fun _ hk=>hk.2) (iV 4)) (fun _ hk=>hk.2) (iV 0)) (fun _ hk=>hk.2) (iV 0)) (fun _ hk=>hk.2) (iV 0)) (fun _ hk=>hk.2) (iV (wrap64 (ae+1)))) (fun _ h_=>h_.1))) (R_typed (by (with_reducible repeat (first|apply R_alloc|apply R_drewN|apply R_drew));exact (R_mono (R_far (p:=⟨aa,4,none⟩) (R_far (p:=⟨aa,3,none⟩) (R_far (p:=⟨aa,2,none⟩) (R_far (p:=⟨aa,1,none⟩) (R_far (p:=⟨aa,0,none⟩) (R_mono ag.out (fun k_ hk=>(⟨hk,hk⟩:_/\k_≠aa))) (fun _ hk=>hk.2) (iV 4)) (fun _ hk=>hk.2) (iV 0)) (fun _ hk=>hk.2) (iV 0)) (fun _ hk=>hk.2) (iV 0)) (fun _ hk=>hk.2) (iV (wrap64 (ae+1)))) (fun _ h_=>h_.1)))) (by decide) hg);replace ai:=aM (R_over' (by (with_reducible repeat (first|apply R_alloc|apply R_drewN|apply R_drew));exact (R_mono (R_far (p:=⟨aa,4,none⟩) (R_far (p:=⟨aa,3,none⟩) (R_far (p:=⟨aa,2,none⟩) (R_far (p:=⟨aa,1,none⟩) (R_far (p:=⟨aa,0,none⟩) (R_types ai.out af.out (by decide)) (fun _ hk=>hk.2) (iV 4)) (fun _ hk=>hk.2) (iV 0)) (fun _ hk=>hk.2) (iV 0)) (fun _ hk=>hk.2) (iV 0)) (fun _ hk=>hk.2) (iV (wrap64 (ae+1)))) (fun _ h_=>h_.1))) (R_typed (by (with_reducible repeat (first|apply R_alloc|apply R_drewN|apply R_drew));exact (R_mono (R_far (p:=⟨aa,4,none⟩) (R_far (p:=⟨aa,3,none⟩) (R_far (p:=⟨aa,2,none⟩) (R_far (p:=⟨aa,1,none⟩) (R_far (p:=⟨aa,0,none⟩) (R_mono ag.out (fun k_ hk=>(⟨hk,hk⟩:_/\k_≠aa))) (fun _ hk=>hk.2) (iV 4)) (fun _ hk=>hk.2) (iV 0)) (fun _ hk=>hk.2) (iV 0)) (fun _ hk=>hk.2) (iV 0)) (fun _ hk=>hk.2) (iV (wrap64 (ae+1)))) (fun _ h_=>h_.1)))) (by decide) hg);replace af:=aM (aaq (g:=aa) (qF af) hg (R_away ag.out (fun _ hk=>hk)));replace HB:=aM hb;clear ag;clear ho hb hg hat))
    go_roundg k1
    case measure=>have:=bG.out;omega
    exact⟨(bV),(wrap64 (ae+1)),qZ,H',⟨by have:=bG.out;omega⟩,⟨by (with_reducible repeat (first|apply R_alloc|apply R_drewN|apply R_drew));exact R_mono bC.out (fun _ hk=>trivial)⟩,⟨by (with_reducible repeat (first|apply S_alloc|apply S_drewN|apply S_drew));exact S_mono ah.out (fun _ hk=>trivial)⟩,⟨qB⟩⟩
   replace H:=jL H;obtain⟨bD,H⟩:=H
   obtain⟨bW,aJ⟩:=ky ((ay ++ [(⟨(aa0 l0 ae).f0,(aa0 l0 ae).f1,(aa0 l0 ae).f2,(aa0 l0 ae).f3,(aa0 l0 ae).f4⟩:S27)]):List S27)
   replace H:=kv aJ H
   have H':=aM H
   clear H
   with_reducible refine (Sbh.calls ((aa0 l0 ae).f0) ((aa0 l0 ae).f1) ((aa0 l0 ae).f2) ((aa0 l0 ae).f3) ((aa0 l0 ae).f4) _ _ aH false _ ?aj ?ak bZ.out).mono ?_
   (case aj=>exact kJ ai)
   (case ak=>exact (kp ai))
   rintro e dD ⟨rfl,hb⟩
   refine⟨_,rfl,?_⟩
   replace ag:=kR ag hb
   replace ah:=kS ah hb
   replace ai:=kR ai hb
   replace af:=kB af hb
   replace HB:=kH hb
   (try clear hb)
   (try clear hb2)
   (try clear hk)
   (try clear hi)
   refine hK.out _ _ ⟨(aa3 af.out 0).trans rfl,(aa3 af.out 1).trans rfl,(aa3 af.out 2).trans rfl,(aa3 af.out 3).trans rfl,(aa3 af.out 4).trans rfl⟩ (fun hHeld=>?_)
   clear hK K
   refine aav (a':=?_) ?_ ?_
   rotate_left
   ·show Act.put _ (some 30) _=_
    simp only [Act.put,List.setIfInBounds_toArray,List.set_cons_zero,List.set_cons_succ,aau,aaD]
    rfl
   refine acG (by kernel_rfl) ?_
   have dw:=jz5 af
   try go_wp2_with (first|((with_reducible refine aaa (b:=.append) (xs:=#[.tmp 34,.tmp 36]) rfl ?_);at_builtin;refine R_append k27 (w0:=w) w.heap.size rfl (.tmp 34) (.tmp 36) 23 27 (.agg #[(iV 0),(iV 0),(iV 0),(iV 0),(iV 0)]) 40 rfl underlying23 abb rfl (by decide) (by omega) u4 ay (⟨(aa0 l0 ae).f0,(aa0 l0 ae).f1,(aa0 l0 ae).f2,(aa0 l0 ae).f3,(aa0 l0 ae).f4⟩:S27) [iV ((aa0 l0 ae).f0),iV ((aa0 l0 ae).f1),iV ((aa0 l0 ae).f2),iV ((aa0 l0 ae).f3),iV ((aa0 l0 ae).f4)] (fun k_=>k_≠aa) (fun _=>False) rfl rfl ?aP (fun _ hk=>hk.elim) ?aF ?aO ?aB ?aS ?aL ?_;(case aP=>exact aaU _ _ _ (⟨(aa0 l0 ae).f0,(aa0 l0 ae).f1,(aa0 l0 ae).f2,(aa0 l0 ae).f3,(aa0 l0 ae).f4⟩:S27));(case aB=>exact qB);(case aF=>exact (fun k_ hk=>Kd.freshB (g:=aa) (o:=.cells #[iV ((aa0 l0 ae).f0),iV ((aa0 l0 ae).f1),iV ((aa0 l0 ae).f2),iV ((aa0 l0 ae).f3),iV ((aa0 l0 ae).f4)] 27 (0,0)) (qK af) k_ hk));(case aO=>exact (qR ag));(case aS=>exact (aa4 qB));(case aL=>have:=bD.out;omega);intro dx dE ho hb hg hat;rw [<- aJ.out] at ho;have bE:=aM ho;replace ah:=aM (S_over' (qS ah) (R_typed (qR ag)) (by decide) hg);replace af:=aM (aaq (g:=aa) (qK af) hg (R_away ag.out (fun _ hk=>hk)));replace ai:=aM (R_over' (qR ai) (R_typed (qR ag)) (by decide) hg);replace HB:=aM hb;clear ag;clear ho hb hg hat))
   go_roundg k1
   case measure=>have:=bG.out;omega
   exact⟨(bW),(wrap64 (ae+1)),qZ,H',⟨by have:=bG.out;omega⟩,⟨by (with_reducible repeat (first|apply R_alloc|apply R_drewN|apply R_drew));exact R_mono bE.out (fun _ hk=>trivial)⟩,⟨by (with_reducible repeat (first|apply S_alloc|apply S_drewN|apply S_drew));exact S_mono ah.out (fun _ hk=>trivial)⟩,⟨qB⟩⟩
  obtain⟨rfl,rfl⟩:=oJ2 H
  go_wp2
  go_ret2
  exact⟨_,qW,qR ag,qB⟩
 obtain⟨rfl,rfl⟩:=oJ2 H
 go_enter func16,ntmps16
 go_wp2_with (first|((with_reducible refine jd 8 ?_);refine jV k27 27 ([]:List S27) [] (aa9 _ _) ?_;intro bH dF aK hb;replace aK:=kr av aK;have au:=kL aK;replace HB:=kH hb;clear hb aK)|((with_reducible refine jc 36 10 ?_);refine jK func36 (Sai.calls k _ _ l0 false _ (kb aW HB) bF.out A2.out) ?_;intro dG hb;replace au:=kR au hb;replace HB:=kH hb;clear hb))
 go_ret2
 exact⟨_,qW,qR au,qB⟩
end Go.Proofs.YtebpplallecogaaGreat.M
namespace Go.Proofs.YtebpplallecogaaGreat.M
open Go.Proofs.Tryz Go.RowKit Go.Proofs.YtebpplallecogaaGreatW.PrintWords Go.Proofs.YtebpplallecogaaGreatW.PrintLast Go.Proofs.YtebpplallecogaaGreatW.PrintMore
attribute [local go_sem] aan aal aay aax aaf aae aam aak
def af7:Nat->List S27->List ab5->Int->Bool->Int->Int->Int->Int->Int->Option (List Int)
 | 0,_,_,_,_,_,_,_,_,_=>none
 | k+1,x0,x1,x2,bJ,xa,xb,xc,xd,xe=>if bJ=true then ((afr k x0 x2).bind fun aP=>(some aP)) else (if 0<=xc then (if xc < (x1.length:Int) then (if ((aa8 x1 xc).f1)=0 then (some (([xe]:List Int))) else (some (([wrap64 (x2+1)]:List Int)))) else (none)) else (none))
def am3 (k:Nat) (l0:List S27) (l1:List ab5) (a2:Int):Option (List Int):=if 0<=a2 then (if a2 < (l0.length:Int) then (if ((aa0 l0 a2).f0)=5 then (if 0<=((aa0 l0 a2).f2) then (if ((aa0 l0 a2).f2) < (l1.length:Int) then (af7 k l0 l1 a2 (((aa8 l1 ((aa0 l0 a2).f2)).f0) != 1) ((aa0 l0 a2).f0) ((aa0 l0 a2).f1) ((aa0 l0 a2).f2) ((aa0 l0 a2).f3) ((aa0 l0 a2).f4)) else (none)) else (none)) else (af7 k l0 l1 a2 true ((aa0 l0 a2).f0) ((aa0 l0 a2).f1) ((aa0 l0 a2).f2) ((aa0 l0 a2).f3) ((aa0 l0 a2).f4))) else (none)) else (none)
theorem am4 (k:Nat) (A0:Option Addr) (c0:Nat) (l0:List S27) (A1:Option Addr) (c1:Nat) (l1:List ab5) (a2:Int) (r:List Int) (w:World) (hr0:Kd.C k27 w A0 l0.length l0) (hc0:l0.length<=c0) (hr1:Kd.C abj w A1 l1.length l1) (hc1:l1.length<=c1) (h:am3 k l0 l1 a2=some r) :
  Calls prog 120 #[.slice A0 l0.length c0,.slice A1 l1.length c1,iV a2] w fun e w'=>∃ bD:Value,e = .returned (bD)/\Kd.R (Kd.int .i64) 3 w' w.heap.size (fun _=>True) bD r/\Below w.heap.size w w':=by
 have bL:=underlying27
 have bE:=aM hr0
 have bM:=aM hc0
 clear hr0 hc0
 have HR1:=aM hr1
 have bZ:=aM hc1
 clear hr1 hc1
 have HB:=jb_ w
 have H:=h;unfold am3 at H
 clear h
 replace H:=jI H;obtain⟨bn,H⟩:=H
 replace H:=jI H;obtain⟨bq,H⟩:=H
 have bu:=aM H
 clear H
 obtain⟨aT,bv,aJ,aK,aL,aN,aO,bz,bA⟩:=aoS bE a2
 cases bv
 go_enter func120,ntmps120
 go_upto_region 2 with (first|((with_reducible refine jd 7 ?_);refine jY _ 27 ?_;intro af hg w7 ag hb;have ay:=kG hg;replace HB:=kH hb;clear hb hg;have bN:=jz5 ag))
 (try simp only [Act.put,List.setIfInBounds_toArray,List.set_cons_zero,List.set_cons_succ])
 go_cut [23] (fun v23 wc=>∃ (kq:Nat) (aF:Bool),v23 = .bool aF/\aa1 (af7 kq l0 l1 a2 aF ((aa0 l0 a2).f0) ((aa0 l0 a2).f1) ((aa0 l0 a2).f2) ((aa0 l0 a2).f3) ((aa0 l0 a2).f4)=some r)/\aa1 (kq<=k)/\aa1 (wc.heap[af]?=some (.cells #[iV ((aa0 l0 a2).f0),iV ((aa0 l0 a2).f1),iV ((aa0 l0 a2).f2),iV ((aa0 l0 a2).f3),iV ((aa0 l0 a2).f4)] 27 (0,0)))/\aa1 (Below w.heap.size w wc))
 case first =>
  have H:=bu.out
  clear bu
  replace H:=jE H;rcases H with ⟨aG,bB,H⟩ | ⟨c9,aG,bB,H⟩
  ·(first|rw [aG]|(simp only [aau,aaD];rw [aG])|skip)
   replace H:=jI H;obtain⟨bF,H⟩:=H
   replace H:=jI H;obtain⟨bG,H⟩:=H
   have H':=aM H
   clear H
   have bO:=jz5 ag
   have aQ:0<=(((aa0 l0 a2).f2):Int):=qD
   have aR:((aa0 l0 a2).f2) < (l1.length:Int):=qD
   obtain⟨az,bC,aa,ae⟩:=aaS HR1.out ((aa0 l0 a2).f2) aQ aR
   cases bC
   have aj:az.block≠af:=kn aa ay
   have ak:az.block≠af:=kn aa ay
   have au:az.block≠af:=kn aa ay
   have av:az.block≠af:=kn aa ay
   have ax:az.block≠af:=kn aa ay
   replace aa:=kx HB aa
   replace ae:=kx HB ae
   replace aa:=(cell_far (p:=⟨af,0,none⟩) (kf (aj)) (iV ((aa0 l0 a2).f0))).trans aa
   replace ae:=(cell_far (p:=⟨af,0,none⟩) (kf (aj)) (iV ((aa0 l0 a2).f0))).trans ae
   replace aa:=(cell_far (p:=⟨af,1,none⟩) (kf (ak)) (iV ((aa0 l0 a2).f1))).trans aa
   replace ae:=(cell_far (p:=⟨af,1,none⟩) (kf (ak)) (iV ((aa0 l0 a2).f1))).trans ae
   replace aa:=(cell_far (p:=⟨af,2,none⟩) (kf (au)) (iV ((aa0 l0 a2).f2))).trans aa
   replace ae:=(cell_far (p:=⟨af,2,none⟩) (kf (au)) (iV ((aa0 l0 a2).f2))).trans ae
   replace aa:=(cell_far (p:=⟨af,3,none⟩) (kf (av)) (iV ((aa0 l0 a2).f3))).trans aa
   replace ae:=(cell_far (p:=⟨af,3,none⟩) (kf (av)) (iV ((aa0 l0 a2).f3))).trans ae
   replace aa:=(cell_far (p:=⟨af,4,none⟩) (kf (ax)) (iV ((aa0 l0 a2).f4))).trans aa
   replace ae:=(cell_far (p:=⟨af,4,none⟩) (kf (ax)) (iV ((aa0 l0 a2).f4))).trans ae
   clear aj
   clear ak
   clear au
   clear av
   clear ax
   replace aQ:=eq_true aQ
   replace aR:=eq_true aR
   go_wp2
   go_meet
   exact⟨_,((((aa8 l1 ((aa0 l0 a2).f2)).f0) != 1)),qZ,H',⟨by first|omega|exact Nat.le_refl _⟩,⟨qF ag⟩,⟨qB⟩⟩
  (first|rw [aG]|(simp only [aau,aaD];rw [aG])|skip)
  have H':=aM H
  clear H
  have bP:=jz5 ag
  go_wp2
  go_meet
  exact⟨_,(true),qZ,H',⟨by first|omega|exact Nat.le_refl _⟩,⟨qF ag⟩,⟨qB⟩⟩
 clear bu
 try clear c1;try clear bn;try clear bq;try clear bN;try clear aJ;try clear aK;try clear aL;try clear aN;try clear aO;try clear bz;try clear bA
 obtain⟨kq,aF,rfl,HA,cu,ag,HB⟩:=hcut
 cases kq with
 | zero=>exact absurd HA.out (by simp [af7])
 | succ bQ =>
  have H:=HA.out
  clear HA
  simp only [af7] at H
  replace H:=jB H;rcases H with ⟨rfl,H⟩ | ⟨rfl,H⟩
  ·obtain⟨aP,bR,H⟩:=qE H
   try dsimp only at H
   obtain rfl:=oJ H
   go_wp2_with (first|((with_reducible refine jc 55 26 ?_);refine jM func55 (aeC bQ _ _ l0 a2 aP _ (kb bE HB) bM.out bR.out) ?_;rintro bS w16 ⟨ho0,hb⟩;have aW:=kL ho0;replace ag:=kB ag hb;replace HB:=kH hb;clear hb;(try clear ho0)))
   go_ret
   exact⟨_,qW,qR aW,qB⟩
  replace H:=jI H;obtain⟨bH,H⟩:=H
  replace H:=jI H;obtain⟨bI,H⟩:=H
  replace H:=jE H;rcases H with ⟨aX,aY,H⟩ | ⟨c19,aX,aY,H⟩
  ·obtain⟨bT,aC⟩:=ky ((([((aa0 l0 a2).f4)]:List Int)):List Int)
   replace H:=kv aC H
   obtain rfl:=oJ H
   have bU:=jz5 ag
   have aA:0<=(((aa0 l0 a2).f2):Int):=qD
   have aB:((aa0 l0 a2).f2) < (l1.length:Int):=qD
   obtain⟨aZ,aS,ah,ai⟩:=aaS HR1.out ((aa0 l0 a2).f2) aA aB
   cases aS
   replace ah:=kx HB ah
   replace ai:=kx HB ai
   replace aA:=eq_true aA
   replace aB:=eq_true aB
   go_wp2_with (first|((with_reducible refine jd 36 ?_);refine jV (Kd.int .i64) 3 ([((aa0 l0 a2).f4)]:List Int) [iV ((aa0 l0 a2).f4)] (aat.one (show Kd.M (Kd.int .i64) _ _ _ ((aa0 l0 a2).f4) [iV ((aa0 l0 a2).f4)] from rfl) (aa9 _ _)) ?_;intro bV cz aH hb;replace aH:=kr aC aH;have bg:=kL aH;replace ag:=kB ag hb;replace HB:=kH hb;clear hb aH))
   go_ret
   exact⟨_,qW,qR bg,qB⟩
  obtain⟨bW,aD⟩:=ky ((([wrap64 (a2+1)]:List Int)):List Int)
  replace H:=kv aD H
  obtain rfl:=oJ H
  have bX:=jz5 ag
  have aA:0<=(((aa0 l0 a2).f2):Int):=qD
  have aB:((aa0 l0 a2).f2) < (l1.length:Int):=qD
  obtain⟨aZ,aS,ah,ai⟩:=aaS HR1.out ((aa0 l0 a2).f2) aA aB
  cases aS
  replace ah:=kx HB ah
  replace ai:=kx HB ai
  replace aA:=eq_true aA
  replace aB:=eq_true aB
  go_wp2_with (first|((with_reducible refine jd 39 ?_);refine jV (Kd.int .i64) 3 ([wrap64 (a2+1)]:List Int) [iV (wrap64 (a2+1))] (aat.one (show Kd.M (Kd.int .i64) _ _ _ (wrap64 (a2+1)) [iV (wrap64 (a2+1))] from rfl) (aa9 _ _)) ?_;intro bY cB aI hb;replace aI:=kr aD aI;have bi:=kL aI;replace ag:=kB ag hb;replace HB:=kH hb;clear hb aI))
  go_ret
  exact⟨_,qW,qR bi,qB⟩
def anB (a0:Bool):Option (Int):=if a0=true then (some 1) else (some 0)
theorem aii (a0:Bool) (r:Int) (w:World) (h:anB a0=some r) :
  Calls prog 130 #[.bool a0] w fun e w'=>e = .returned (iV r)/\aaA w w':=by
 have H:(if a0=true then (some 1) else (some 0))=some r:=h
 clear h
 replace H:=jB H;rcases H with ⟨rfl,H⟩ | ⟨rfl,H⟩
 ·obtain rfl:=oJ H
  go_enter func130,ntmps130
  go_wp2
  go_ret
  exact⟨qZ,qU⟩
 obtain rfl:=oJ H
 go_enter func130,ntmps130
 go_wp2
 go_ret
 exact⟨qZ,qU⟩
end Go.Proofs.YtebpplallecogaaGreat.M
