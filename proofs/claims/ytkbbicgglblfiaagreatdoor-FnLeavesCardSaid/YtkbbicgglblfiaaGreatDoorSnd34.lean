/- What the evaluator tells of regions that draw their order is what the machine does. -/
import Derived.Test.YtkbbicgglblfiaaGreatDoorSnd33
import Derived.Orders
namespace Go.Ev
open Go
set_option maxHeartbeats 1000000
section
variable {C:Ctx} {P:Program} {γ:Type} {AC:Nat->Nat} {call:Nat->List (U C.El)->(List (U C.El)->Option γ)->Option γ} {r:γ} {nt:Nat}
variable {ops:Array Oper} {AzO:Array Nat} {env:Env C} {hp:Hp C} {V:Nat->Val C.El} {H:Nat->Hp C}
def vE (ops:Array Oper) (V:Nat->Val C.El) (env:Env C) (p:Nat->Bool):Nat->Env C
 | 0=>env
 | k+1=>cond (p k) (put C (vE ops V env p k) (Gz ops k) (V k)) (vE ops V env p k)
def Axx (H:Nat->Hp C) (hp:Hp C) (p:Nat->Bool):Nat->Hp C
 | 0=>hp
 | k+1=>cond (p k) (H k++Axx H hp p k) (Axx H hp p k)
def RN (ops:Array Oper) (V:Nat->Val C.El) (H:Nat->Hp C):Nat->List (Done C)->Prop
 | 0,[]=>True
 | k+1,d::done=>d.i=k/\d.hp=H k/\(∀ r t,look (d.env++r) t [.one .junk]=look (put C r (Gz ops k) (V k)) t [.one .junk])/\RN ops V H k done
 | _,_=>False
theorem vN (e:Env C) (d:Option Nat) (v:Val C.El) (t:Nat):look (put C e d v) t [.one .junk]=if d=some t then v else look e t [.one .junk]:=by
 cases d with
 | none=>rfl
 | some d=>
  simp only [put,look];cases hb:Nat.beq t d with
  | true=>simp_all
  | false=>
   have:d≠t:=fun e=>by simp_all
   simp_all
theorem AcZ {α:Type} (i:Nat) (x:α) (l:List (Nat×α)) (t:Nat) (d:α):look ((i,x)::l) t d=if i=t then x else look l t d:=by
 simp only [look];cases hb:Nat.beq t i with
 | true=>simp_all
 | false=>
  have:i≠t:=fun e=>by simp_all
  simp_all
theorem Aca (a b:Hp C) (i:Nat):look (a++b) i .dead=if Bj a i=true then look a i .dead else look b i .dead:=by induction a<;>grind [Bj,look]
theorem AJ8 (m:Nat):∀ (k:Nat) (done:List (Done C)),RN ops V H k done->∀ t,look (Sz C m done env) t [.one .junk]=look (vE ops V env m.testBit k) t [.one .junk]:=by
 intro k;induction k with
 | zero=>intro done h t;cases done with
  | nil=>rfl
  | cons _ _=>exact h.elim
 | succ k ih=>
  intro done h t;cases done with
  | nil=>exact h.elim
  | cons d done=>
   obtain ⟨h1,h2,h3,h4⟩:=h
   have e:Sz C m (d::done) env=cond (m.testBit d.i) (d.env++Sz C m done env) (Sz C m done env):=rfl;grind [vE,vN]
theorem Acb (m:Nat):∀ (k:Nat) (done:List (Done C)),RN ops V H k done->QT C m done hp=Axx H hp m.testBit k:=by
 intro k;induction k with
 | zero=>intro done h;cases done with
  | nil=>rfl
  | cons _ _=>exact h.elim
 | succ k ih=>
  intro done h;cases done with
  | nil=>exact h.elim
  | cons d done=>
   obtain ⟨h1,h2,h3,h4⟩:=h
   have e:QT C m (d::done) hp=cond (m.testBit d.i) (d.hp++QT C m done hp) (QT C m done hp):=rfl;rw [e,h1,h2,ih done h4];rfl
theorem AEN {V':Nat->Val C.El} {p p':Nat->Bool}:∀ (k:Nat),(∀ j,j<k->V j=V' j)->(∀ j,j<k->p j=p' j)->vE ops V env p k=vE ops V' env p' k:=by intro k;induction k<;>grind [vE]
theorem jW {H':Nat->Hp C} {p p':Nat->Bool}:∀ (k:Nat),(∀ j,j<k->H j=H' j)->(∀ j,j<k->p j=p' j)->Axx H hp p k=Axx H' hp p' k:=by intro k;induction k<;>grind [Axx]
theorem RN.congr {V':Nat->Val C.El} {H':Nat->Hp C}:∀ (k:Nat) (done:List (Done C)),(∀ j,j<k->V j=V' j)->(∀ j,j<k->H j=H' j)->RN ops V H k done->RN ops V' H' k done:=by
 intro k;induction k with
 | zero=>intro done _ _ h;cases done with
  | nil=>trivial
  | cons _ _=>exact h.elim
 | succ k ih=>
  intro done h1 h2 h;cases done with
  | nil=>exact h.elim
  | cons d done=>
   obtain ⟨g1,g2,g3,g4⟩:=h
   exact ⟨g1,by simp_all,by simp_all,ih done (fun j hj=>h1 j (by omega)) (fun j hj=>h2 j (by omega)) g4⟩
theorem RN.told {j t:Nat} {b:Bool} (ht:Gz ops j=some t) (hv:V j=[.one (.bool b)]):∀ (k:Nat) (done:List (Done C)),RN ops V H k done->
  RN ops V H k (done.map fun d=>cond (Nat.beq d.i j) ⟨d.i,(t,[.one (.bool b)])::d.env,d.hp⟩ d):=by
 intro k;induction k with
 | zero=>intro done h;cases done with
  | nil=>trivial
  | cons _ _=>exact h.elim
 | succ k ih=>
  intro done h;cases done with
  | nil=>simp_all
  | cons d done=>
   obtain ⟨g1,g2,g3,g4⟩:=h
   simp only [List.map_cons];cases hb:Nat.beq d.i j with
   | false=>exact ⟨g1,g2,g3,ih done g4⟩
   | true=>
    have e:=Ea hb;refine ⟨g1,g2,fun r t'=>?_,ih done g4⟩;simp_all [AcZ,vN]
theorem vP {p:Nat->Bool} {j t:Nat} (ht:Gz ops j=some t) (hp':p j=true):∀ (k:Nat),j<k->(∀ i,i<k->i≠j->Gz ops i≠some t)->look (vE ops V env p k) t [.one .junk]=V j:=by intro k;induction k<;>grind [vE,vN]
theorem Asu {p p':Nat->Bool} {t:Nat}:∀ (n:Nat),(∀ j,j<n->p' j=true->Gz ops j=some t->p j=true)->(∀ j,j<n->p j=true->p' j=true)->look (vE ops V env p' n) t [.one .junk]=look (vE ops V env p n) t [.one .junk]:=by intro n;induction n<;>grind [vE,vN]
theorem AcT {p:Nat->Bool} {i:Nat}:∀ (n:Nat),i<=n->(∀ j,i<=j->p j=false)->vE ops V env p n=vE ops V env p i:=by intro n;induction n<;>grind [vE]
theorem ATx {p:Nat->Bool} {i:Nat}:∀ (n:Nat),i<=n->(∀ j,i<=j->p j=false)->Axx H hp p n=Axx H hp p i:=by intro n;induction n<;>grind [Axx]
theorem AJ6 {p:Nat->Bool} {id:Nat}:∀ (n:Nat),Bj (Axx H hp p n) id=true↔Bj hp id=true\/∃ j,j<n/\p j=true/\Bj (H j) id=true:=by intro n;induction n<;>grind [Axx,AEO]
theorem ATy {p p':Nat->Bool} {id:Nat}:∀ (n:Nat),(∀ j,j<n->p' j=true->Bj (H j) id=true->p j=true)->(∀ j,j<n->p j=true->p' j=true)->look (Axx H hp p' n) id .dead=look (Axx H hp p n) id .dead:=by intro n;induction n<;>grind [Axx,Aca]
def ins (p:Nat->Bool) (i:Nat):Nat->Bool:=fun j=>cond (Nat.beq j i) true (p j)
theorem AJ7 (p:Nat->Bool) (i:Nat):ins p i i=true:=by simp [ins]
theorem WE {p:Nat->Bool} {i j:Nat} (h:j≠i):ins p i j=p j:=by simp_all [ins]
theorem Asw {p:Nat->Bool} {i:Nat} (hi:p i=false) (t:Nat):∀ (n:Nat),i<n->(∀ j,j<n->j≠i->∀ d,Gz ops i=some d->Gz ops j≠some d)->look (vE ops V env (ins p i) n) t [.one .junk]=look (put C (vE ops V env p n) (Gz ops i) (V i)) t [.one .junk]:=by
 intro n;induction n with
 | zero=>omega
 | succ n ih=>
  intro hlt hd;simp only [vE];by_cases e:i=n;·subst e;rw [AJ7,hi];simp only [Ar,Aq];rw [AEN (p:=ins p i) (p':=p) (V':=V) i (fun _ _=>rfl) (fun j hj=>WE (by omega))]
  grind [WE,vN]
theorem Asv {p:Nat->Bool} {i:Nat} (hi:p i=false) (id:Nat):∀ (n:Nat),i<n->(∀ j,j<n->i<j->p j=true->Bj (H i) id=true->Bj (H j) id=false)->look (Axx H hp (ins p i) n) id .dead=look (H i++Axx H hp p n) id .dead/\Bj (Axx H hp (ins p i) n) id=Bj (H i++Axx H hp p n) id:=by
 intro n;induction n with
 | zero=>omega
 | succ n ih=>
  intro hlt hd;simp only [Axx];by_cases e:i=n;·subst e;rw [AJ7,hi];simp only [Ar,Aq];rw [jW (p:=ins p i) (p':=p) (H':=H) i (fun _ _=>rfl) (fun j hj=>WE (by omega))];simp
  grind [WE,Aca,AEO]
structure As2 (AzO:Array Nat) (ops:Array Oper) (i:Nat) (o:Oper):Prop where
 low:Cb AzO i<2 ^ i
 sub:∀ e,e ∈ o.after.toList->Region.binds .any e=true->(Cb AzO i).testBit e.on=true/\∀ k,(Cb AzO e.on).testBit k=true->(Cb AzO i).testBit k=true
 inv:∀ k,k<ops.size->(Cb AzO i).testBit k=true->∃ e,e ∈ o.after.toList/\Region.binds .any e=true/\(e.on=k\/(Cb AzO e.on).testBit k=true)
 grd:∀ j w,o.guard=some (j,w)->(Cb AzO i).testBit j=true
 diff:∀ j,j<ops.size->j≠i->∀ d,Gz ops i=some d->Gz ops j≠some d
 apart:∀ j,j<ops.size->j≠i->comparable AzO i j=true\/∀ d,Gz ops j=some d->d ∉ o.looksAt ops
theorem AwD (h:UE AzO ops=true) {i:Nat} (hi:i<ops.size):∃ o,ops[i]?=some o/\As2 AzO ops i o:=by
 have:=List.all_eq_true.1 h i (List.mem_range.2 hi);split at this
 ·rename_i o ho;rw [Bool.and_eq_true,Bool.and_eq_true,MB,Bool.and_eq_true,Bool.and_eq_true] at this;obtain ⟨⟨⟨⟨h1,h2⟩,h3⟩,h4⟩,h5⟩:=this
  have h6:∀ j,j<ops.size->j≠i->AT1 (Gz ops i) (Gz ops j)=true/\(comparable AzO i j || AT2 (Gz ops j) (o.looksAt ops))=true:=by grind [Ea]
  refine ⟨o,ho,⟨Nat.le_of_ble_eq_true h1,fun e he hb=>?_,fun k hk hb=>?_,fun j w hg=>?_,fun j hj hne d hd hd'=>?_,fun j hj hne=>?_⟩⟩
  ·have:=List.all_eq_true.1 h2 e he;rw [hb] at this;simp only [DN,Bool.false_or,Bool.and_eq_true] at this;refine ⟨this.1,fun k hk=>?_⟩;have h7:=Ea this.2;have h8:(Nat.land (Cb AzO e.on) (Cb AzO i)).testBit k=true:=by simp_all
   have h8:(Cb AzO e.on &&& Cb AzO i).testBit k=true:=h8;grind
  ·grind [Ea]
  ·simp_all
  ·have:=(h6 j hj hne).1;simp_all [AT1]
  grind [AT2,jU]
 simp_all
theorem AyJ {m i k:Nat} (h:m<2 ^ i) (hb:m.testBit k=true):k<i:=by grind [Nat.testBit_lt_two_pow,Nat.lt_of_lt_of_le,Nat.pow_le_pow_right]
theorem Asl (h:UE AzO ops=true):∀ (k:Nat),k<ops.size->∀ j i,(Cb AzO k).testBit j=true->(Cb AzO j).testBit i=true->(Cb AzO k).testBit i=true:=by
 intro k;induction k using Nat.strongRecOn with
 | _ k ih=>
  intro hk j i h1 h2;obtain ⟨o,ho,D⟩:=AwD h hk
  have hj:=AyJ D.low h1;obtain ⟨e,he,hb,h3⟩:=D.inv j (by omega) h1
  obtain ⟨h4,h5⟩:=D.sub e he hb
  rcases h3 with rfl | h3
  ·simp_all
  ·have:=AyJ D.low h4;grind
def As3 (P:Program) (AC:Nat->Nat) (call:Nat->List (U C.El)->(List (U C.El)->Option γ)->Option γ) (AzO:Array Nat) (ops:Array Oper) (env:Env C) (hp:Hp C) (V:Nat->Val C.El) (H:Nat->Hp C) (k:Nat) (o:Oper):Prop:=
 (∀ K':Val C.El->Hp C->Option γ,Ci C P AC call (vE ops V env (Cb AzO k).testBit k) (Axx H hp (Cb AzO k).testBit k) (o.dst.getD 0) o.op K' none=K' (V k) (H k))/\ji C env AzO ops k o hp (Axx H hp (Cb AzO k).testBit k) (H k)=true
def AzF (P:Program) (AC:Nat->Nat) (call:Nat->List (U C.El)->(List (U C.El)->Option γ)->Option γ) (nt:Nat) (AzO:Array Nat) (ops:Array Oper) (env:Env C) (hp:Hp C) (V:Nat->Val C.El) (H:Nat->Hp C) (k:Nat):Prop:=
 ∃ o,ops[k]?=some o/\AEi nt o.dst=true/\
  (((o.guard=none\/∃ j want t,o.guard=some (j,want)/\Gz ops j=some t/\V j=[.one (.bool want)])/\As3 P AC call AzO ops env hp V H k o)\/
   (∃ j want t,o.guard=some (j,want)/\Gz ops j=some t/\(V j=[.one (.bool (!want))]\/V j=[])/\H k=[]/\V k=[]))
theorem AzF.congr (hdr:UE AzO ops=true) {V':Nat->Val C.El} {H':Nat->Hp C} {k:Nat} (hk:k<ops.size) (h1:∀ j,j<=k->V j=V' j) (h2:∀ j,j<=k->H j=H' j) (h:AzF P AC call nt AzO ops env hp V H k):AzF P AC call nt AzO ops env hp V' H' k:=by
 obtain ⟨o,ho,hd,h⟩:=h
 obtain ⟨o',ho',D⟩:=AwD hdr hk
 rw [ho] at ho';cases ho';have hj:∀ j w,o.guard=some (j,w)->V j=V' j:=fun j w hg=>h1 j (Nat.le_of_lt (AyJ D.low (D.grd j w hg)))
 refine ⟨o,ho,hd,?_⟩;rcases h with ⟨h,hx1,hx2⟩ | ⟨j,want,t,g1,g2,g3,g4,g5⟩
 ·left;refine ⟨?_,?_,?_⟩;·grind
  ·rw [<-AEN (V:=V) (V':=V') k (fun j hj=>h1 j (by omega)) (fun _ _=>rfl),<-jW (H:=H) (H':=H') k (fun j hj=>h2 j (by omega)) (fun _ _=>rfl),<-h1 k (Nat.le_refl k),<-h2 k (Nat.le_refl k)];omega
  ·rw [<-jW (H:=H) (H':=H') k (fun j hj=>h2 j (by omega)) (fun _ _=>rfl),<-h2 k (Nat.le_refl k)];omega
 grind
theorem As4 {e e':Env C} (h:∀ t,look e' t [.one .junk]=look e t [.one .junk]) (x:Operand):CB C e' x=CB C e x:=by
 cases x with
 | tmp t=>exact h t
 | _=>rfl
theorem Asy (hcall:AEM call) (hdr:UE AzO ops=true) {K:Env C->Hp C->Option γ}:∀ (os:List Oper) (i:Nat) (done:List (Done C)) (V:Nat->Val C.El) (H:Nat->Hp C),i+os.length=ops.size->(∀ k,os[k]?=ops[i+k]?)->RN ops V H i done->(∀ k,k<i->AzF P AC call nt AzO ops env hp V H k)->
  PZ C P AC call nt AzO ops env hp i os done K none=some r->∃ (V:Nat->Val C.El) (H:Nat->Hp C),(∀ k,k<ops.size->AzF P AC call nt AzO ops env hp V H k)/\∃ E,K E (Axx H hp (fun _=>true) ops.size)=some r/\∀ t,look E t [.one .junk]=look (vE ops V env (fun _=>true) ops.size) t [.one .junk]:=by
 intro os;induction os with
 | nil=>
  intro i done V H hlen _ hd hs h;simp only [List.length_nil,Nat.add_zero] at hlen;subst hlen;simp only [PZ] at h;have hb:∀ j,j<ops.size->(2 ^ ops.size - 1).testBit j=true:=fun j hj=>by simp_all
  have e1:vE ops V env (2 ^ ops.size - 1).testBit ops.size=vE ops V env (fun _=>true) ops.size:=AEN _ (fun _ _=>rfl) hb;have e2:Axx H hp (2 ^ ops.size - 1).testBit ops.size=Axx H hp (fun _=>true) ops.size:=jW _ (fun _ _=>rfl) hb;rw [Acb _ _ _ hd,e2] at h;exact ⟨V,H,hs,Sz C (2 ^ ops.size - 1) done env,h,fun t=>by grind [AJ8]⟩
 | cons o os ih=>
  intro i done V H hlen hos hd hs h;simp only [List.length_cons] at hlen;have hi:i<ops.size:=by omega
  have ho:ops[i]?=some o:=by have:=hos 0;simp_all
  have Ff:∀ k,os[k]?=ops[i+1+k]?:=fun k=>by have:=hos (k+1);grind
  obtain ⟨o',ho',D⟩:=AwD hdr hi
  rw [ho] at ho';cases ho';have hdst:Gz ops i=o.dst:=by simp [Gz,ho]
  simp only [PZ] at h;split at h;·cases h
  ·rename_i hdo
   have next:∀ (v:Val C.El) (h':Hp C) (done':List (Done C)),RN ops V H i done'->(AzF P AC call nt AzO ops env hp (fun k=>if k=i then v else V k) (fun k=>if k=i then h' else H k) i)->
     PZ C P AC call nt AzO ops env hp (i+1) os (⟨i,put C [] o.dst v,h'⟩::done') K none=some r->∃ (V:Nat->Val C.El) (H:Nat->Hp C),(∀ k,k<ops.size->AzF P AC call nt AzO ops env hp V H k)/\∃ E,K E (Axx H hp (fun _=>true) ops.size)=some r/\∀ t,look E t [.one .junk]=look (vE ops V env (fun _=>true) ops.size) t [.one .junk]:=by
    intro v h' done' hd' hst hev;refine ih (i+1) (⟨i,put C [] o.dst v,h'⟩::done') (fun k=>if k=i then v else V k) (fun k=>if k=i then h' else H k) (by omega) Ff ⟨rfl,by simp,fun r t=>?_,hd'.congr i done' (fun j hj=>by grind) (fun j hj=>by grind)⟩ (fun k hk=>?_) hev
    ·simp only [if_true,hdst];cases o.dst with
     | none=>rfl
     | some d=>rfl
    ·by_cases e:k=i;·simp_all
     ·exact (hs k (by omega)).congr hdr (by omega) (fun j hj=>by grind) (fun j hj=>by grind)
   have exec:∀ (done':List (Done C)),RN ops V H i done'->(o.guard=none\/∃ j want t,o.guard=some (j,want)/\Gz ops j=some t/\V j=[.one (.bool want)]/\j<i)->
     Ci C P AC call (Sz C (Cb AzO i) done' env) (QT C (Cb AzO i) done' hp) (o.dst.getD 0) o.op (fun v h=>
      match ji C env AzO ops i o hp (QT C (Cb AzO i) done' hp) h with
      | true=>PZ C P AC call nt AzO ops env hp (i+1) os (⟨i,put C [] o.dst v,h⟩::done') K none
      | false=>none) none=some r->∃ (V:Nat->Val C.El) (H:Nat->Hp C),(∀ k,k<ops.size->AzF P AC call nt AzO ops env hp V H k)/\∃ E,K E (Axx H hp (fun _=>true) ops.size)=some r/\∀ t,look E t [.one .junk]=look (vE ops V env (fun _=>true) ops.size) t [.one .junk]:=by
    intro done' hd' hg h;rw [Acb _ _ _ hd'] at h;obtain ⟨v,h',h1,h2⟩:=AcX (env':=vE ops V env (Cb AzO i).testBit i) (hp':=Axx H hp (Cb AzO i).testBit i) hcall (fun x _=>(As4 (fun t=>AJ8 _ _ _ hd' t) x).symm) (fun _=>⟨fun _ _=>rfl,fun _ _ h=>h⟩) h
    split at h1
    ·rename_i hdel;refine next v h' done' hd' ⟨o,ho,hdo,.inl ⟨?_,fun K'=>?_,?_⟩⟩ h1
     ·grind
     ·rw [AEN (V':=V) (p':=(Cb AzO i).testBit) i (fun j hj=>by grind) (fun _ _=>rfl),jW (H':=H) (p':=(Cb AzO i).testBit) i (fun j hj=>by grind) (fun _ _=>rfl)];grind
     ·rw [jW (H':=H) (p':=(Cb AzO i).testBit) i (fun j hj=>by grind) (fun _ _=>rfl)];simp_all
    simp_all
   have skip:∀ (done':List (Done C)) (j:Nat) (want:Bool) (t:Nat),RN ops V H i done'->o.guard=some (j,want)->Gz ops j=some t->(V j=[.one (.bool (!want))]\/V j=[])->j<i->
     PZ C P AC call nt AzO ops env hp (i+1) os (⟨i,put C [] o.dst [],[]⟩::done') K none=some r->∃ (V:Nat->Val C.El) (H:Nat->Hp C),(∀ k,k<ops.size->AzF P AC call nt AzO ops env hp V H k)/\∃ E,K E (Axx H hp (fun _=>true) ops.size)=some r/\∀ t,look E t [.one .junk]=look (vE ops V env (fun _=>true) ops.size) t [.one .junk]:=by
    intro done' j want t hd' g1 g2 g3 g4 h;exact next _ _ done' hd' ⟨o,ho,hdo,.inr ⟨j,want,t,g1,g2,by grind,by simp,by simp⟩⟩ h
   split at h;·rename_i hg;exact exec done hd (.inl hg) h
   ·rename_i j want hg;have hjm:=D.grd j want hg;have hji:=AyJ D.low hjm;split at h
    ·rename_i t ht;split at h
     ·rename_i p hlk;have Bw:V j=[.one (.bool p)]:=by
       rw [AJ8 _ _ _ hd,vP ht hjm i hji (fun k hk hne=>by
        obtain ⟨oj,hoj,B0⟩:=AwD hdr (show j<ops.size by omega)
        exact B0.diff k (by omega) hne t ht)] at hlk
       omega
      have hd':=hd.told ht Bw i done;cases p <;> cases want;·exact exec _ hd' (.inr ⟨j,false,t,hg,ht,Bw,hji⟩) h
      ·exact skip _ j true t hd' hg ht (.inl Bw) hji h
      ·exact skip _ j false t hd' hg ht (.inl Bw) hji h
      ·exact exec _ hd' (.inr ⟨j,true,t,hg,ht,Bw,hji⟩) h
     ·rename_i hlk;have Bw:V j=[]:=by
       rw [AJ8 _ _ _ hd,vP ht hjm i hji (fun k hk hne=>by
        obtain ⟨oj,hoj,B0⟩:=AwD hdr (show j<ops.size by omega)
        exact B0.diff k (by omega) hne t ht)] at hlk
       omega
      exact skip _ j want t hd hg ht (.inr Bw) hji h
     ·cases h
    ·cases h
end
end Go.Ev
