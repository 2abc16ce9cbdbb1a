/- Words that the proof uses: what a tool of the kit printed, pruned by a program of mine. -/
import Derived.Test.YtdkkdiiceaomaaaGreatEAWLast
import Derived.Test.YtdkkdiiceaomaaaGreatEAWWords
namespace Go.Proofs.YtdkkdiiceaomaaaGreatW.PrintLast
open Go.Proofs.YtdkkdiiceaomaaaGreatW.PrintWords (aa1)
def af7 (md:Region.Mode) (o:Oper):List Nat:=(o.after.toList.filter (fun e=>Region.binds md e)).map (fun e=>e.on)
def aji (md:Region.Mode) (ops:Array Oper) (i:Nat) (oi:Oper):List Nat:=(List.range ops.size).filter fun j=>!(j == i) && match ops[j]? with
  | some oj=>!(oj.after.any (fun e=>Region.binds md e && e.on == i) || oi.apart ops oj)
  | none=>false
def ad5 (md:Region.Mode) (ops:Array Oper):Bool × List (List Nat × List Nat):=(Region.noSelect ops,(List.range ops.size).map fun i=>match ops[i]? with
  | some o=>(af7 md o,aji md ops i o)
  | none=>([],[]))
def adv (T:List (List Nat × List Nat)) (l:List Bool) (i:Nat):Bool:=!l.getD i true && match T[i]? with
  | some r=>r.1.all (fun j=>l.getD j false)
  | none=>false
def afR (T:List (List Nat × List Nat)) (l:List Bool):List Nat:=(List.range T.length).filter (adv T l)
def als (T:List (List Nat × List Nat)) (l:List Bool) (i:Nat):Bool:=match T[i]? with
  | some r=>r.2.all (fun j=>l.getD j true)
  | none=>false
def ahL (T:List (List Nat × List Nat)) (l:List Bool):Bool:=(List.range T.length).all fun j=>!l.getD j false || match T[j]? with
  | some r=>r.1.all (fun k=>l.getD k false)
  | none=>true
def agO (T:List (List Nat × List Nat)) (i:Nat):Nat->Nat->Bool
  | 0,_=>false
  | fuel+1,d=>match T[d]? with
    | some r=>r.1.any fun j=>j == i || agO T i fuel j
    | none=>false
def anr (T:List (List Nat × List Nat)) (l:List Bool) (ds:List Nat) (i:Nat):Bool:=ds.all fun d=>l.getD d true || agO T i T.length d
section
variable {md:Region.Mode} {ops:Array Oper} {T:Bool × List (List Nat × List Nat)} {l l' li lj lk:Array Bool} {ds:List Nat} {i j k:Nat}
theorem gd (l:Array Bool) (j:Nat) (b:Bool):l.getD j b=l.toList.getD j b:=by simp [Array.getD_eq_getD_getElem?,List.getD_eq_getElem?_getD]
theorem aia (o:Oper) (p:Nat->Bool):o.after.all (fun e=>!Region.binds md e || p e.on)=(af7 md o).all p:=by
  unfold af7
  rw [<- Array.all_toList]
  induction o.after.toList with
  | nil=>rfl
  | cons e r ih =>
    rw [List.all_cons,ih,List.filter_cons]
    cases h:Region.binds md e <;> simp
theorem ald (o:Oper) (p:Nat->Bool):o.after.any (fun e=>Region.binds md e && p e.on)=(af7 md o).any p:=by
  unfold af7
  rw [<- Array.any_toList]
  induction o.after.toList with
  | nil=>rfl
  | cons e r ih =>
    rw [List.any_cons,ih,List.filter_cons]
    cases h:Region.binds md e <;> simp
theorem ad4:(ad5 md ops).2.length=ops.size:=by simp [ad5]
theorem aeq {o:Oper} (h:ops[i]?=some o):(ad5 md ops).2[i]?=some (af7 md o,aji md ops i o):=by
  have hi:=(Array.getElem?_eq_some_iff.1 h).1
  unfold ad5
  rw [List.getElem?_map,List.getElem?_range hi,Option.map_some,h]
theorem aer (h:ops[i]?=none):(ad5 md ops).2[i]?=none:=by
  have hi:ops.size<=i:=Array.getElem?_eq_none_iff.1 h
  exact List.getElem?_eq_none (by rw [ad4];exact hi)
theorem ak9:adv (ad5 md ops).2 l.toList i=(!l.getD i true && ((ops[i]?).map (·.after.all fun e=>!Region.binds md e || l.getD e.on false)).getD false):=by
  unfold adv
  rw [gd]
  cases h:ops[i]? with
  | none=>rw [aer h];rfl
  | some o =>
    rw [aeq h]
    simp only [Option.map_some,Option.getD_some]
    rw [<- aia]
    simp only [gd]
theorem ready_eq:Region.ready md ops l=afR (ad5 md ops).2 l.toList:=by
  unfold Region.ready afR
  rw [ad4]
  refine List.filter_congr (fun i _=>?_)
  rw [ak9]
theorem free_eq:Region.free md ops l i=als (ad5 md ops).2 l.toList i:=by
  unfold Region.free als
  cases h:ops[i]? with
  | none=>rw [aer h]
  | some oi =>
    rw [aeq h]
    simp only [aji]
    rw [List.all_filter]
    congr 1
    funext j
    rw [gd]
    cases hj:ops[j]? with
    | none=>cases (j == i) <;> cases (l.toList.getD j true) <;> simp
    | some oj =>
      cases (j == i) <;> cases (l.toList.getD j true) <;> cases (oj.after.any (fun e=>Region.binds md e && e.on == i) || oi.apart ops oj) <;> simp_all
theorem alD:abN md ops l=ahL (ad5 md ops).2 l.toList:=by
  unfold abN ahL
  rw [ad4]
  congr 1
  funext j
  rw [gd]
  cases h:ops[j]? with
  | none=>rw [aer h]
  | some o =>
    rw [aeq h]
    simp only
    rw [<- aia]
    simp only [gd]
theorem ajC:∀ (fuel d:Nat),aaS md ops i fuel d=agO (ad5 md ops).2 i fuel d
  | 0,_=>rfl
  | fuel+1,d=>by
    unfold aaS agO
    cases h:ops[d]? with
    | none=>rw [aer h]
    | some o =>
      rw [aeq h]
      simp only
      rw [<- ald]
      congr 1
      funext e
      rw [ajC fuel]
theorem apk:acL md ops l ds i=anr (ad5 md ops).2 l.toList ds i:=by
  unfold acL anr
  rw [ad4]
  congr 1
  funext d
  rw [gd,ajC]
theorem afS (h:adv T.2 l.toList i=true) (hT:ad5 md ops=T):(Region.ready md ops l).contains i=true:=by
  subst hT
  rw [ready_eq]
  unfold afR
  rw [List.contains_iff_mem,List.mem_filter,List.mem_range]
  refine⟨?_,h⟩
  unfold adv at h
  rw [Bool.and_eq_true] at h
  cases hq:(ad5 md ops).2[i]? with
  | none=>rw [hq] at h;simp at h
  | some r=>exact (List.getElem?_eq_some_iff.1 hq).1
theorem aff (h:(l.toList.set i true == l'.toList)=true):(l.setIfInBounds i true == l')=true:=by
  rw [beq_iff_eq] at h ⊢
  apply Array.ext'
  rw [Array.toList_setIfInBounds]
  exact h
def arL (T:Bool × List (List Nat × List Nat)) (l l':List Bool) (i:Nat):Bool:=T.1 && als T.2 l i && adv T.2 l i && (l.set i true == l')
theorem aqf (hT:ad5 md ops=T) (h:arL T l.toList l'.toList i=true):apF md ops l l' i=true:=by
  simp only [arL,Bool.and_eq_true] at h
  obtain⟨⟨⟨h1,h2⟩,h3⟩,h4⟩:=h
  have h5:=afS h3 hT
  have h6:=aff h4
  subst hT
  simp only [apF,Bool.and_eq_true]
  exact⟨⟨⟨h1,by rw [free_eq];exact h2⟩,h5⟩,h6⟩
def aoW (T:Bool × List (List Nat × List Nat)) (ds:List Nat) (l l':List Bool) (i:Nat):Bool:=T.1 && als T.2 l i && adv T.2 l i && ahL T.2 l && anr T.2 l ds i && (l.set i true == l')
theorem aoV (hT:ad5 md ops=T) (h:aoW T ds l.toList l'.toList i=true):takeB md ops ds l l' i=true:=by
  simp only [aoW,Bool.and_eq_true] at h
  obtain⟨⟨⟨⟨⟨h1,h2⟩,h3⟩,h4⟩,h5⟩,h6⟩:=h
  have h7:=afS h3 hT
  have h8:=aff h6
  subst hT
  simp only [takeB,Bool.and_eq_true]
  exact⟨⟨⟨⟨⟨h1,by rw [free_eq];exact h2⟩,h7⟩,by rw [alD];exact h4⟩,by rw [apk];exact h5⟩,h8⟩
theorem aaZ (hT:ad5 md ops=T) (h:(afR T.2 l.toList == [i] && l.toList.set i true == l'.toList)=true):agN md ops l l' i=true:=by
  simp only [Bool.and_eq_true] at h
  obtain⟨h1,h2⟩:=h
  subst hT
  simp only [agN,Bool.and_eq_true]
  exact⟨by rw [ready_eq];exact h1,aff h2⟩
theorem adt (hT:ad5 md ops=T) (h:(afR T.2 l.toList == [i,j] && l.toList.set i true == li.toList && l.toList.set j true == lj.toList)=true):(Region.ready md ops l == [i,j] && l.setIfInBounds i true == li && l.setIfInBounds j true == lj)=true:=by
  simp only [Bool.and_eq_true] at h ⊢
  obtain⟨⟨h1,h2⟩,h3⟩:=h
  subst hT
  exact⟨⟨by rw [ready_eq];exact h1,aff h2⟩,aff h3⟩
theorem afG (hT:ad5 md ops=T) (h:(afR T.2 l.toList == [i,j,k] && l.toList.set i true == li.toList && l.toList.set j true == lj.toList && l.toList.set k true == lk.toList)=true) :
    (Region.ready md ops l == [i,j,k] && l.setIfInBounds i true == li && l.setIfInBounds j true == lj && l.setIfInBounds k true == lk)=true:=by
  simp only [Bool.and_eq_true] at h ⊢
  obtain⟨⟨⟨h1,h2⟩,h3⟩,h4⟩:=h
  subst hT
  exact⟨⟨⟨by rw [ready_eq];exact h1,aff h2⟩,aff h3⟩,aff h4⟩
theorem abB (hT:ad5 md ops=T) (h:(afR T.2 l.toList == [])=true):(Region.ready md ops l == [])=true:=by
  subst hT
  rw [ready_eq]
  exact h
def upM (B:List Nat) (d:Nat):List Nat->Nat
  | []=>0
  | n :: r=>(2 ^ n ||| (if n < d then B.getD n 0 else 0)) ||| upM B d r
def abo (T:List (List Nat × List Nat)) (B:List Nat):Bool:=(List.range T.length).all fun d=>match T[d]? with
  | some r=>(B.getD d 0 ||| upM B d r.1) == upM B d r.1
  | none=>false
theorem akP {B:List Nat} {d i:Nat}:∀ {ns:List Nat},(upM B d ns).testBit i=true->∃ n∈ns,n=i\/(n < d/\(B.getD n 0).testBit i=true)
  | [],h=>by simp [upM] at h
  | n :: r,h=>by
    unfold upM at h
    rw [Nat.testBit_or,Nat.testBit_or,Bool.or_eq_true,Bool.or_eq_true] at h
    rcases h with (h|h)|h
    · rw [Nat.testBit_two_pow] at h
      exact⟨n,List.mem_cons_self,.inl (by simpa using h)⟩
    · by_cases hn:n < d
      · rw [if_pos hn] at h
        exact⟨n,List.mem_cons_self,.inr ⟨hn,h⟩⟩
      · rw [if_neg hn] at h
        simp at h
    · obtain⟨m,hm,h2⟩:=akP h
      exact⟨m,List.mem_cons_of_mem _ hm,h2⟩
theorem ai4 {T:List (List Nat × List Nat)} {B:List Nat} (hB:abo T B=true):∀ (fuel d:Nat),d < fuel->d < T.length->(B.getD d 0).testBit i=true->agO T i fuel d=true
  | 0,d,h,_,_=>by omega
  | fuel+1,d,h,hd,hb=>by
    have h1:=List.all_eq_true.1 hB d (List.mem_range.2 hd)
    cases hr:T[d]? with
    | none=>rw [hr] at h1;simp at h1
    | some r =>
      rw [hr] at h1
      simp only [beq_iff_eq] at h1
      have h2:(upM B d r.1).testBit i=true:=by rw [<- h1,Nat.testBit_or,hb,Bool.true_or]
      obtain⟨n,hn,h3⟩:=akP h2
      unfold agO
      rw [hr]
      simp only
      rw [List.any_eq_true]
      refine⟨n,hn,?_⟩
      rcases h3 with rfl | ⟨h4,h5⟩
      · simp
      · rw [ai4 hB fuel n (by omega) (by omega) h5,Bool.or_true]
def aq1 (T:List (List Nat × List Nat)) (B:List Nat) (l:List Bool) (ds:List Nat) (i:Nat):Bool:=ds.all fun d=>l.getD d true || (decide (d < T.length) && (B.getD d 0).testBit i)
def apO (T:Bool × List (List Nat × List Nat)) (B:List Nat) (ds:List Nat) (l l':List Bool) (i:Nat):Bool:=T.1 && als T.2 l i && adv T.2 l i && ahL T.2 l && aq1 T.2 B l ds i && (l.set i true == l')
theorem ajz {B:List Nat} (hT:ad5 md ops=T) (hB:abo T.2 B=true) (h:apO T B ds l.toList l'.toList i=true):takeB md ops ds l l' i=true:=by
  refine aoV hT ?_
  simp only [apO,aoW,Bool.and_eq_true] at h ⊢
  obtain⟨⟨⟨⟨⟨h1,h2⟩,h3⟩,h4⟩,h5⟩,h6⟩:=h
  refine⟨⟨⟨⟨⟨h1,h2⟩,h3⟩,h4⟩,?_⟩,h6⟩
  unfold aq1 at h5
  unfold anr
  rw [List.all_eq_true] at h5 ⊢
  intro d hd
  have h7:=h5 d hd
  rw [Bool.or_eq_true,Bool.and_eq_true,decide_eq_true_eq] at h7
  rcases h7 with h7 | ⟨h8,h9⟩
  · rw [h7,Bool.true_or]
  · rw [ai4 hB _ d h8 h8 h9,Bool.or_true]
theorem ab8 {P:Program} {Q:Exit->Act->World->Prop} {S:World->Prop} {n:Nat} {a:Act} {w:World} {B:List Nat} (hT:ad5 md ops=T) (hB:abo T.2 B=true) (h:aa1 (ad5 md ops=T)->aa1 (abo T.2 B=true)->aaf P md ops Q S ds n l a w):aaf P md ops Q S ds n l a w:=h ⟨hT⟩ ⟨hB⟩
end
def agz:Code->Nat->Option (Array Oper)
  | .region id ops _,k=>if id == k then some ops else none
  | .seq a b,k=>match agz a k with
    | some o=>some o
    | none=>agz b k
  | .cond _ a b,k=>match agz a k with
    | some o=>some o
    | none=>agz b k
  | .block _ c,k=>agz c k
  | .loop c,k=>agz c k
  | .scope c,k=>agz c k
  | .rangeFunc _ _ a b,k=>match agz a k with
    | some o=>some o
    | none=>agz b k
  | _,_=>none
def opsOf (f:Func) (k:Nat):Array Oper:=((f.body.bind fun c=>agz c k)).getD #[]
end Go.Proofs.YtdkkdiiceaomaaaGreatW.PrintLast
