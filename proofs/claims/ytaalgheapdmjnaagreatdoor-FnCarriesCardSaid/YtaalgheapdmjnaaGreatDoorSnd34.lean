/- What the evaluator tells of regions that draw their order is what the machine does. -/
import Derived.Test.YtaalgheapdmjnaaGreatDoorSnd33
import Derived.Orders
namespace Go.Ev
open Go
set_option maxHeartbeats 1000000
section
variable {C:Ctx} {P:Program} {γ:Type} {AC:Nat->Nat} {call:Nat->List (U C.El)->(List (U C.El)->Option γ)->Option γ} {r:γ} {nt:Nat}
variable {ops:Array Oper} {Ath:Array Nat} {env:Env C} {hp:Hp C} {V:Nat->Val C.El} {H:Nat->Hp C}
def vE (ops:Array Oper) (V:Nat->Val C.El) (env:Env C) (p:Nat->Bool):Nat->Env C
 | 0=>env
 | k+1=>cond (p k) (put C (vE ops V env p k) (GV ops k) (V k)) (vE ops V env p k)
def As6 (H:Nat->Hp C) (hp:Hp C) (p:Nat->Bool):Nat->Hp C
 | 0=>hp
 | k+1=>cond (p k) (H k++As6 H hp p k) (As6 H hp p k)
def QW (ops:Array Oper) (V:Nat->Val C.El) (H:Nat->Hp C):Nat->List (Done C)->Prop
 | 0,[]=>True
 | k+1,d::done=>d.i=k/\d.hp=H k/\(∀ r t,look (d.env++r) t [.one .junk]=look (put C r (GV ops k) (V k)) t [.one .junk])/\QW ops V H k done
 | _,_=>False
theorem qY (e:Env C) (d:Option Nat) (v:Val C.El) (t:Nat):look (put C e d v) t [.one .junk]=if d=some t then v else look e t [.one .junk]:=by
 cases d with
 | none=>rfl
 | some d=>
  simp only [put,look];cases hb:Nat.beq t d with
  | true=>simp_all
  | false=>
   have:d≠t:=fun e=>by simp_all
   simp_all
theorem AZA {α:Type} (i:Nat) (x:α) (l:List (Nat×α)) (t:Nat) (d:α):look ((i,x)::l) t d=if i=t then x else look l t d:=by
 simp only [look];cases hb:Nat.beq t i with
 | true=>simp_all
 | false=>
  have:i≠t:=fun e=>by simp_all
  simp_all
theorem AZB (a b:Hp C) (i:Nat):look (a++b) i .dead=if Ba a i=true then look a i .dead else look b i .dead:=by induction a<;>grind [Ba,look]
theorem AHh (m:Nat):∀ (k:Nat) (done:List (Done C)),QW ops V H k done->∀ t,look (RJ C m done env) t [.one .junk]=look (vE ops V env m.testBit k) t [.one .junk]:=by
 intro k;induction k with
 | zero=>intro done h t;cases done with
  | nil=>rfl
  | cons _ _=>exact h.elim
 | succ k ih=>
  intro done h t;cases done with
  | nil=>exact h.elim
  | cons d done=>
   obtain ⟨h1,h2,h3,h4⟩:=h
   have e:RJ C m (d::done) env=cond (m.testBit d.i) (d.env++RJ C m done env) (RJ C m done env):=rfl;grind [vE,qY]
theorem AZC (m:Nat):∀ (k:Nat) (done:List (Done C)),QW ops V H k done->PK C m done hp=As6 H hp m.testBit k:=by
 intro k;induction k with
 | zero=>intro done h;cases done with
  | nil=>rfl
  | cons _ _=>exact h.elim
 | succ k ih=>
  intro done h;cases done with
  | nil=>exact h.elim
  | cons d done=>
   obtain ⟨h1,h2,h3,h4⟩:=h
   have e:PK C m (d::done) hp=cond (m.testBit d.i) (d.hp++PK C m done hp) (PK C m done hp):=rfl;rw [e,h1,h2,ih done h4];rfl
theorem AB9 {V':Nat->Val C.El} {p p':Nat->Bool}:∀ (k:Nat),(∀ j,j<k->V j=V' j)->(∀ j,j<k->p j=p' j)->vE ops V env p k=vE ops V' env p' k:=by intro k;induction k<;>grind [vE]
theorem fG {H':Nat->Hp C} {p p':Nat->Bool}:∀ (k:Nat),(∀ j,j<k->H j=H' j)->(∀ j,j<k->p j=p' j)->As6 H hp p k=As6 H' hp p' k:=by intro k;induction k<;>grind [As6]
theorem QW.congr {V':Nat->Val C.El} {H':Nat->Hp C}:∀ (k:Nat) (done:List (Done C)),(∀ j,j<k->V j=V' j)->(∀ j,j<k->H j=H' j)->QW ops V H k done->QW ops V' H' k done:=by
 intro k;induction k with
 | zero=>intro done _ _ h;cases done with
  | nil=>trivial
  | cons _ _=>exact h.elim
 | succ k ih=>
  intro done h1 h2 h;cases done with
  | nil=>exact h.elim
  | cons d done=>
   obtain ⟨g1,g2,g3,g4⟩:=h
   exact ⟨g1,by simp_all,by simp_all,ih done (fun j hj=>h1 j (by omega)) (fun j hj=>h2 j (by omega)) g4⟩
theorem QW.told {j t:Nat} {b:Bool} (ht:GV ops j=some t) (hv:V j=[.one (.bool b)]):∀ (k:Nat) (done:List (Done C)),QW ops V H k done->
  QW ops V H k (done.map fun d=>cond (Nat.beq d.i j) ⟨d.i,(t,[.one (.bool b)])::d.env,d.hp⟩ d):=by
 intro k;induction k with
 | zero=>intro done h;cases done with
  | nil=>trivial
  | cons _ _=>exact h.elim
 | succ k ih=>
  intro done h;cases done with
  | nil=>simp_all
  | cons d done=>
   obtain ⟨g1,g2,g3,g4⟩:=h
   simp only [List.map_cons];cases hb:Nat.beq d.i j with
   | false=>exact ⟨g1,g2,g3,ih done g4⟩
   | true=>
    have e:=EL hb;refine ⟨g1,g2,fun r t'=>?_,ih done g4⟩;simp_all [AZA,qY]
theorem qc {p:Nat->Bool} {j t:Nat} (ht:GV ops j=some t) (hp':p j=true):∀ (k:Nat),j<k->(∀ i,i<k->i≠j->GV ops i≠some t)->look (vE ops V env p k) t [.one .junk]=V j:=by intro k;induction k<;>grind [vE,qY]
theorem AoX {p p':Nat->Bool} {t:Nat}:∀ (n:Nat),(∀ j,j<n->p' j=true->GV ops j=some t->p j=true)->(∀ j,j<n->p j=true->p' j=true)->look (vE ops V env p' n) t [.one .junk]=look (vE ops V env p n) t [.one .junk]:=by intro n;induction n<;>grind [vE,qY]
theorem AY4 {p:Nat->Bool} {i:Nat}:∀ (n:Nat),i<=n->(∀ j,i<=j->p j=false)->vE ops V env p n=vE ops V env p i:=by intro n;induction n<;>grind [vE]
theorem AQv {p:Nat->Bool} {i:Nat}:∀ (n:Nat),i<=n->(∀ j,i<=j->p j=false)->As6 H hp p n=As6 H hp p i:=by intro n;induction n<;>grind [As6]
theorem AHf {p:Nat->Bool} {id:Nat}:∀ (n:Nat),Ba (As6 H hp p n) id=true↔Ba hp id=true\/∃ j,j<n/\p j=true/\Ba (H j) id=true:=by intro n;induction n<;>grind [As6,ACA]
theorem AQw {p p':Nat->Bool} {id:Nat}:∀ (n:Nat),(∀ j,j<n->p' j=true->Ba (H j) id=true->p j=true)->(∀ j,j<n->p j=true->p' j=true)->look (As6 H hp p' n) id .dead=look (As6 H hp p n) id .dead:=by intro n;induction n<;>grind [As6,AZB]
def ins (p:Nat->Bool) (i:Nat):Nat->Bool:=fun j=>cond (Nat.beq j i) true (p j)
theorem AHg (p:Nat->Bool) (i:Nat):ins p i i=true:=by simp [ins]
theorem WE {p:Nat->Bool} {i j:Nat} (h:j≠i):ins p i j=p j:=by simp_all [ins]
theorem AoZ {p:Nat->Bool} {i:Nat} (hi:p i=false) (t:Nat):∀ (n:Nat),i<n->(∀ j,j<n->j≠i->∀ d,GV ops i=some d->GV ops j≠some d)->look (vE ops V env (ins p i) n) t [.one .junk]=look (put C (vE ops V env p n) (GV ops i) (V i)) t [.one .junk]:=by
 intro n;induction n with
 | zero=>omega
 | succ n ih=>
  intro hlt hd;simp only [vE];by_cases e:i=n;·subst e;rw [AHg,hi];simp only [A8,Aw];rw [AB9 (p:=ins p i) (p':=p) (V':=V) i (fun _ _=>rfl) (fun j hj=>WE (by omega))]
  grind [WE,qY]
theorem AoY {p:Nat->Bool} {i:Nat} (hi:p i=false) (id:Nat):∀ (n:Nat),i<n->(∀ j,j<n->i<j->p j=true->Ba (H i) id=true->Ba (H j) id=false)->look (As6 H hp (ins p i) n) id .dead=look (H i++As6 H hp p n) id .dead/\Ba (As6 H hp (ins p i) n) id=Ba (H i++As6 H hp p n) id:=by
 intro n;induction n with
 | zero=>omega
 | succ n ih=>
  intro hlt hd;simp only [As6];by_cases e:i=n;·subst e;rw [AHg,hi];simp only [A8,Aw];rw [fG (p:=ins p i) (p':=p) (H':=H) i (fun _ _=>rfl) (fun j hj=>WE (by omega))];simp
  grind [WE,AZB,ACA]
structure Aof (Ath:Array Nat) (ops:Array Oper) (i:Nat) (o:Oper):Prop where
 low:CQ Ath i<2 ^ i
 sub:∀ e,e ∈ o.after.toList->Region.binds .any e=true->(CQ Ath i).testBit e.on=true/\∀ k,(CQ Ath e.on).testBit k=true->(CQ Ath i).testBit k=true
 inv:∀ k,k<ops.size->(CQ Ath i).testBit k=true->∃ e,e ∈ o.after.toList/\Region.binds .any e=true/\(e.on=k\/(CQ Ath e.on).testBit k=true)
 grd:∀ j w,o.guard=some (j,w)->(CQ Ath i).testBit j=true
 diff:∀ j,j<ops.size->j≠i->∀ d,GV ops i=some d->GV ops j≠some d
 apart:∀ j,j<ops.size->j≠i->comparable Ath i j=true\/∀ d,GV ops j=some d->d ∉ o.looksAt ops
theorem ArY (h:SQ Ath ops=true) {i:Nat} (hi:i<ops.size):∃ o,ops[i]?=some o/\Aof Ath ops i o:=by
 have:=List.all_eq_true.1 h i (List.mem_range.2 hi);split at this
 ·rename_i o ho;rw [Bool.and_eq_true,Bool.and_eq_true,LK,Bool.and_eq_true,Bool.and_eq_true] at this;obtain ⟨⟨⟨⟨h1,h2⟩,h3⟩,h4⟩,h5⟩:=this
  have h6:∀ j,j<ops.size->j≠i->AQz (GV ops i) (GV ops j)=true/\(comparable Ath i j || AQ0 (GV ops j) (o.looksAt ops))=true:=by grind [EL]
  refine ⟨o,ho,⟨Nat.le_of_ble_eq_true h1,fun e he hb=>?_,fun k hk hb=>?_,fun j w hg=>?_,fun j hj hne d hd hd'=>?_,fun j hj hne=>?_⟩⟩
  ·have:=List.all_eq_true.1 h2 e he;rw [hb] at this;simp only [DZ,Bool.false_or,Bool.and_eq_true] at this;refine ⟨this.1,fun k hk=>?_⟩;have h7:=EL this.2;have h8:(Nat.land (CQ Ath e.on) (CQ Ath i)).testBit k=true:=by simp_all
   have h8:(CQ Ath e.on &&& CQ Ath i).testBit k=true:=h8;grind
  ·grind [EL]
  ·simp_all
  ·have:=(h6 j hj hne).1;simp_all [AQz]
  grind [AQ0,fE]
 simp_all
theorem Att {m i k:Nat} (h:m<2 ^ i) (hb:m.testBit k=true):k<i:=by grind [Nat.testBit_lt_two_pow,Nat.lt_of_lt_of_le,Nat.pow_le_pow_right]
theorem AoP (h:SQ Ath ops=true):∀ (k:Nat),k<ops.size->∀ j i,(CQ Ath k).testBit j=true->(CQ Ath j).testBit i=true->(CQ Ath k).testBit i=true:=by
 intro k;induction k using Nat.strongRecOn with
 | _ k ih=>
  intro hk j i h1 h2;obtain ⟨o,ho,D⟩:=ArY h hk
  have hj:=Att D.low h1;obtain ⟨e,he,hb,h3⟩:=D.inv j (by omega) h1
  obtain ⟨h4,h5⟩:=D.sub e he hb
  rcases h3 with rfl | h3
  ·simp_all
  ·have:=Att D.low h4;grind
def Aog (P:Program) (AC:Nat->Nat) (call:Nat->List (U C.El)->(List (U C.El)->Option γ)->Option γ) (Ath:Array Nat) (ops:Array Oper) (env:Env C) (hp:Hp C) (V:Nat->Val C.El) (H:Nat->Hp C) (k:Nat) (o:Oper):Prop:=
 (∀ K':Val C.El->Hp C->Option γ,CW C P AC call (vE ops V env (CQ Ath k).testBit k) (As6 H hp (CQ Ath k).testBit k) (o.dst.getD 0) o.op K' none=K' (V k) (H k))/\fZ C env Ath ops k o hp (As6 H hp (CQ Ath k).testBit k) (H k)=true
def Aso (P:Program) (AC:Nat->Nat) (call:Nat->List (U C.El)->(List (U C.El)->Option γ)->Option γ) (nt:Nat) (Ath:Array Nat) (ops:Array Oper) (env:Env C) (hp:Hp C) (V:Nat->Val C.El) (H:Nat->Hp C) (k:Nat):Prop:=
 ∃ o,ops[k]?=some o/\ACV nt o.dst=true/\
  (((o.guard=none\/∃ j want t,o.guard=some (j,want)/\GV ops j=some t/\V j=[.one (.bool want)])/\Aog P AC call Ath ops env hp V H k o)\/
   (∃ j want t,o.guard=some (j,want)/\GV ops j=some t/\(V j=[.one (.bool (!want))]\/V j=[])/\H k=[]/\V k=[]))
theorem Aso.congr (hdr:SQ Ath ops=true) {V':Nat->Val C.El} {H':Nat->Hp C} {k:Nat} (hk:k<ops.size) (h1:∀ j,j<=k->V j=V' j) (h2:∀ j,j<=k->H j=H' j) (h:Aso P AC call nt Ath ops env hp V H k):Aso P AC call nt Ath ops env hp V' H' k:=by
 obtain ⟨o,ho,hd,h⟩:=h
 obtain ⟨o',ho',D⟩:=ArY hdr hk
 rw [ho] at ho';cases ho';have hj:∀ j w,o.guard=some (j,w)->V j=V' j:=fun j w hg=>h1 j (Nat.le_of_lt (Att D.low (D.grd j w hg)))
 refine ⟨o,ho,hd,?_⟩;rcases h with ⟨h,hx1,hx2⟩ | ⟨j,want,t,g1,g2,g3,g4,g5⟩
 ·left;refine ⟨?_,?_,?_⟩;·grind
  ·rw [<-AB9 (V:=V) (V':=V') k (fun j hj=>h1 j (by omega)) (fun _ _=>rfl),<-fG (H:=H) (H':=H') k (fun j hj=>h2 j (by omega)) (fun _ _=>rfl),<-h1 k (Nat.le_refl k),<-h2 k (Nat.le_refl k)];omega
  ·rw [<-fG (H:=H) (H':=H') k (fun j hj=>h2 j (by omega)) (fun _ _=>rfl),<-h2 k (Nat.le_refl k)];omega
 grind
theorem Aoh {e e':Env C} (h:∀ t,look e' t [.one .junk]=look e t [.one .junk]) (x:Operand):Bl C e' x=Bl C e x:=by
 cases x with
 | tmp t=>exact h t
 | _=>rfl
theorem Aob (hcall:AB8 call) (hdr:SQ Ath ops=true) {K:Env C->Hp C->Option γ}:∀ (os:List Oper) (i:Nat) (done:List (Done C)) (V:Nat->Val C.El) (H:Nat->Hp C),i+os.length=ops.size->(∀ k,os[k]?=ops[i+k]?)->QW ops V H i done->(∀ k,k<i->Aso P AC call nt Ath ops env hp V H k)->
  Ob C P AC call nt Ath ops env hp i os done K none=some r->∃ (V:Nat->Val C.El) (H:Nat->Hp C),(∀ k,k<ops.size->Aso P AC call nt Ath ops env hp V H k)/\∃ E,K E (As6 H hp (fun _=>true) ops.size)=some r/\∀ t,look E t [.one .junk]=look (vE ops V env (fun _=>true) ops.size) t [.one .junk]:=by
 intro os;induction os with
 | nil=>
  intro i done V H hlen _ hd hs h;simp only [List.length_nil,Nat.add_zero] at hlen;subst hlen;simp only [Ob] at h;have hb:∀ j,j<ops.size->(2 ^ ops.size - 1).testBit j=true:=fun j hj=>by simp_all
  have e1:vE ops V env (2 ^ ops.size - 1).testBit ops.size=vE ops V env (fun _=>true) ops.size:=AB9 _ (fun _ _=>rfl) hb;have e2:As6 H hp (2 ^ ops.size - 1).testBit ops.size=As6 H hp (fun _=>true) ops.size:=fG _ (fun _ _=>rfl) hb;rw [AZC _ _ _ hd,e2] at h;exact ⟨V,H,hs,RJ C (2 ^ ops.size - 1) done env,h,fun t=>by grind [AHh]⟩
 | cons o os ih=>
  intro i done V H hlen hos hd hs h;simp only [List.length_cons] at hlen;have hi:i<ops.size:=by omega
  have ho:ops[i]?=some o:=by have:=hos 0;simp_all
  have FL:∀ k,os[k]?=ops[i+1+k]?:=fun k=>by have:=hos (k+1);grind
  obtain ⟨o',ho',D⟩:=ArY hdr hi
  rw [ho] at ho';cases ho';have hdst:GV ops i=o.dst:=by simp [GV,ho]
  simp only [Ob] at h;split at h;·cases h
  ·rename_i hdo
   have next:∀ (v:Val C.El) (h':Hp C) (done':List (Done C)),QW ops V H i done'->(Aso P AC call nt Ath ops env hp (fun k=>if k=i then v else V k) (fun k=>if k=i then h' else H k) i)->
     Ob C P AC call nt Ath ops env hp (i+1) os (⟨i,put C [] o.dst v,h'⟩::done') K none=some r->∃ (V:Nat->Val C.El) (H:Nat->Hp C),(∀ k,k<ops.size->Aso P AC call nt Ath ops env hp V H k)/\∃ E,K E (As6 H hp (fun _=>true) ops.size)=some r/\∀ t,look E t [.one .junk]=look (vE ops V env (fun _=>true) ops.size) t [.one .junk]:=by
    intro v h' done' hd' hst hev;refine ih (i+1) (⟨i,put C [] o.dst v,h'⟩::done') (fun k=>if k=i then v else V k) (fun k=>if k=i then h' else H k) (by omega) FL ⟨rfl,by simp,fun r t=>?_,hd'.congr i done' (fun j hj=>by grind) (fun j hj=>by grind)⟩ (fun k hk=>?_) hev
    ·simp only [if_true,hdst];cases o.dst with
     | none=>rfl
     | some d=>rfl
    ·by_cases e:k=i;·simp_all
     ·exact (hs k (by omega)).congr hdr (by omega) (fun j hj=>by grind) (fun j hj=>by grind)
   have exec:∀ (done':List (Done C)),QW ops V H i done'->(o.guard=none\/∃ j want t,o.guard=some (j,want)/\GV ops j=some t/\V j=[.one (.bool want)]/\j<i)->
     CW C P AC call (RJ C (CQ Ath i) done' env) (PK C (CQ Ath i) done' hp) (o.dst.getD 0) o.op (fun v h=>
      match fZ C env Ath ops i o hp (PK C (CQ Ath i) done' hp) h with
      | true=>Ob C P AC call nt Ath ops env hp (i+1) os (⟨i,put C [] o.dst v,h⟩::done') K none
      | false=>none) none=some r->∃ (V:Nat->Val C.El) (H:Nat->Hp C),(∀ k,k<ops.size->Aso P AC call nt Ath ops env hp V H k)/\∃ E,K E (As6 H hp (fun _=>true) ops.size)=some r/\∀ t,look E t [.one .junk]=look (vE ops V env (fun _=>true) ops.size) t [.one .junk]:=by
    intro done' hd' hg h;rw [AZC _ _ _ hd'] at h;obtain ⟨v,h',h1,h2⟩:=AY8 (env':=vE ops V env (CQ Ath i).testBit i) (hp':=As6 H hp (CQ Ath i).testBit i) hcall (fun x _=>(Aoh (fun t=>AHh _ _ _ hd' t) x).symm) (fun _=>⟨fun _ _=>rfl,fun _ _ h=>h⟩) h
    split at h1
    ·rename_i hdel;refine next v h' done' hd' ⟨o,ho,hdo,.inl ⟨?_,fun K'=>?_,?_⟩⟩ h1
     ·grind
     ·rw [AB9 (V':=V) (p':=(CQ Ath i).testBit) i (fun j hj=>by grind) (fun _ _=>rfl),fG (H':=H) (p':=(CQ Ath i).testBit) i (fun j hj=>by grind) (fun _ _=>rfl)];grind
     ·rw [fG (H':=H) (p':=(CQ Ath i).testBit) i (fun j hj=>by grind) (fun _ _=>rfl)];simp_all
    simp_all
   have skip:∀ (done':List (Done C)) (j:Nat) (want:Bool) (t:Nat),QW ops V H i done'->o.guard=some (j,want)->GV ops j=some t->(V j=[.one (.bool (!want))]\/V j=[])->j<i->
     Ob C P AC call nt Ath ops env hp (i+1) os (⟨i,put C [] o.dst [],[]⟩::done') K none=some r->∃ (V:Nat->Val C.El) (H:Nat->Hp C),(∀ k,k<ops.size->Aso P AC call nt Ath ops env hp V H k)/\∃ E,K E (As6 H hp (fun _=>true) ops.size)=some r/\∀ t,look E t [.one .junk]=look (vE ops V env (fun _=>true) ops.size) t [.one .junk]:=by
    intro done' j want t hd' g1 g2 g3 g4 h;exact next _ _ done' hd' ⟨o,ho,hdo,.inr ⟨j,want,t,g1,g2,by grind,by simp,by simp⟩⟩ h
   split at h;·rename_i hg;exact exec done hd (.inl hg) h
   ·rename_i j want hg;have hjm:=D.grd j want hg;have hji:=Att D.low hjm;split at h
    ·rename_i t ht;split at h
     ·rename_i p hlk;have Bw:V j=[.one (.bool p)]:=by
       rw [AHh _ _ _ hd,qc ht hjm i hji (fun k hk hne=>by
        obtain ⟨oj,hoj,B1⟩:=ArY hdr (show j<ops.size by omega)
        exact B1.diff k (by omega) hne t ht)] at hlk
       omega
      have hd':=hd.told ht Bw i done;cases p <;> cases want;·exact exec _ hd' (.inr ⟨j,false,t,hg,ht,Bw,hji⟩) h
      ·exact skip _ j true t hd' hg ht (.inl Bw) hji h
      ·exact skip _ j false t hd' hg ht (.inl Bw) hji h
      ·exact exec _ hd' (.inr ⟨j,true,t,hg,ht,Bw,hji⟩) h
     ·rename_i hlk;have Bw:V j=[]:=by
       rw [AHh _ _ _ hd,qc ht hjm i hji (fun k hk hne=>by
        obtain ⟨oj,hoj,B1⟩:=ArY hdr (show j<ops.size by omega)
        exact B1.diff k (by omega) hne t ht)] at hlk
       omega
      exact skip _ j want t hd hg ht (.inr Bw) hji h
     ·cases h
    ·cases h
end
end Go.Ev
