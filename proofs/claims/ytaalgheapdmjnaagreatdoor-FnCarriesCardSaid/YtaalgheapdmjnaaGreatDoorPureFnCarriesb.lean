/- The plain law of FnCarries: whatever the arguments, it answers true. Conditions: what is read is in reach. Part 2 of 3. -/
import Derived.Test.YtaalgheapdmjnaaGreatDoorPureFnCarriesa
namespace Go.Proofs.YtaalgheapdmjnaaGreatDoor.G
open Go Go.Ev
set_option linter.unusedVariables false
set_option linter.unusedSimpArgs false
set_option linter.unusedSectionVars false
variable [PC]
theorem LBh {last:Int} {x:Ah}:∀ {xs:List Ah} {p:Int},rise last p xs=true->x ∈ xs->AtT xs x.fId=some x:=by
 intro xs;induction xs with
 | nil=>simp
 | cons y ys ih=>
  intro p h hx;obtain ⟨h1,h2,h3,h4⟩:=Ar5.1 h
  rw [AtT,List.find?_cons];rcases List.mem_cons.1 hx with rfl | hx
  ·simp
  ·have:=Vj h4 x hx;rw [show (y.fId == x.fId)=false by grind];exact ih h4 hx
theorem OBH {b:Bf} {r:Aq} (h:(Ara b r).2=true):((Ara b r).1.Ag=b.Ag/\(Ara b r).1.BR=b.BR)\/(∃ o,AtT b.Ag r.BK.fId=some o/\grown o r.BK=true/\(Ara b r).1.Ag=putAt b.Ag r.BK/\(Ara b r).1.BR=b.BR)\/((Ara b r).1.Ag=b.Ag++[r.BK]/\(Ara b r).1.BR=b.BR+1)\/(r.Aa=4/\(Ara b r).1.Ag=without b.Ag r.DY/\(Ara b r).1.BR=b.BR):=by
 have h2:=(Vs h).2.1;rw [Ara] at h ⊢;cases hc:(!(IW b) || (!(As2 r).2 || decide (b.fCount>=10000)))
 all_goals grind [wB,Vu]
def keeps (x y:Ah):Prop:=y.Aa=x.Aa/\y.fValue=x.fValue/\(x.CY=true->y.CY=true)/\(x.CZ=true->y.CZ=true)/\x.fNext<=y.fNext
theorem MBh (x:Ah):keeps x x:=⟨rfl,rfl,id,id,Int.le_refl _⟩
theorem NBh {x y:Ah} (h:grown x y=true):keeps x y:=by
 simp only [grown,Bool.and_eq_true,beq_iff_eq,decide_eq_true_eq] at h;obtain ⟨h1,h2,_,_,h5,h6,h7⟩:=h
 refine ⟨h1,Asj h2,fun e=>?_,fun e=>?_,h5⟩;all_goals simp_all
theorem OBh {b:Bf} {r:Aq} (h:(Ara b r).2=true) {x:Ah} (hx:x ∈ b.Ag):(AtT (Ara b r).1.Ag x.fId=none/\r.Aa=4/\r.DY=x.fId)\/∃ y,AtT (Ara b r).1.Ag x.fId=some y/\keeps x y:=by grind [Vs,Asq,LBh,Ara,AtT,MBh,OBH,NBh,putAt,Rq,X9,without]
theorem PBH {f:Nat->Int} {n:Nat} (h:∀ i,0<i->i<n->f (i - 1)<f i):∀ d i,i+d+1<n->f i<f (i+d+1):=by intro d;induction d<;>grind
abbrev Ox (ls:List Cc):Prop:=ls.Pairwise fun a b=>a.fId<b.fId
abbrev AscS (ls:List EC):Prop:=ls.Pairwise fun a b=>a.fId<b.fId
theorem QBH {b:Aj}:∀ {j i:Nat},Atb b j i=true->∀ k,i<=k->k<i+j->Ar8 b k=true:=by intro j;induction j<;>grind [Atb]
theorem PBh {b:Aj}:∀ {j i:Nat},(∀ k,i<=k->k<i+j->Ar8 b k=true)->Atb b j i=true:=by intro j;induction j<;>grind [Atb]
def YA (ts:List Ah) (v:Cc):Prop:=∃ x,AtT ts v.fId=some x/\x.Aa=2/\0<=v.fNext/\v.fNext<=x.fNext
theorem WA6 {b:Aj} {i:Nat}:Ar8 b i=true↔YA b.AV.Ag (b.BJ.getD i ⟨0,0⟩)/\(i=0\/(b.BJ.getD (i - 1) ⟨0,0⟩).fId<(b.BJ.getD i ⟨0,0⟩).fId):=by grind [Ar8,YA,DU]
theorem XA6 {b:Aj}:Vg b=true↔(∀ v ∈ b.BJ,YA b.AV.Ag v)/\Ox b.BJ:=by
 constructor
 ·intro h;have ha:∀ i,i<b.BJ.length->Ar8 b i=true:=fun i hi=>QBH h i (DF _) (by omega)
  refine ⟨fun v hv=>?_,List.pairwise_iff_getElem.2 fun i j hi hj hij=>?_⟩;·grind [List.mem_iff_getElem,WA6]
  ·have:=PBH (f:=fun i=>(b.BJ.getD i ⟨0,0⟩).fId) (n:=b.BJ.length) (fun i h0 hi=>(WA6.1 (ha i hi)).2.resolve_left (by omega)) (j - i - 1) i (by omega);grind
 ·rintro ⟨h1,h2⟩;refine PBh fun i _ hi=>WA6.2 ?_
  grind [List.pairwise_iff_getElem]
theorem YA6 {b:Aj}:Oy b b.BI.length 0=true↔(∀ s ∈ b.BI,1<=s.fId/\s.fId<=b.CU)/\AscS b.BI:=by
 have mk:∀ {j i:Nat},Oy b j i=true↔∀ k,i<=k->k<i+j->aH b k=true:=by intro j;induction j<;>grind [Oy]
 have at_:∀ {i:Nat},aH b i=true↔(1<=(b.BI.getD i ⟨0,false⟩).fId/\(b.BI.getD i ⟨0,false⟩).fId<=b.CU)/\(i=0\/(b.BI.getD (i - 1) ⟨0,false⟩).fId<(b.BI.getD i ⟨0,false⟩).fId):=by simp [aH,DU]
 rw [mk];constructor
 ·intro h;have ha:∀ i,i<b.BI.length->_:=fun i hi=>at_.1 (h i (DF _) (by omega))
  refine ⟨fun v hv=>?_,List.pairwise_iff_getElem.2 fun i j hi hj hij=>?_⟩;·grind [List.mem_iff_getElem]
  ·have:=PBH (f:=fun i=>(b.BI.getD i ⟨0,false⟩).fId) (n:=b.BI.length) (fun i h0 hi=>(ha i hi).2.resolve_left (by omega)) (j - i - 1) i (by omega);rw [show i+(j - i - 1)+1=j by omega] at this;simp_all
 ·rintro ⟨h1,h2⟩ i _ hi;have hi:i<b.BI.length:=by omega
  refine at_.2 ?_;rw [getD_at hi];refine ⟨h1 _ (List.getElem_mem hi),?_⟩;by_cases h0:i=0;·omega
  ·refine .inr ?_;have hj:i - 1<b.BI.length:=by omega
   rw [getD_at hj];grind [List.pairwise_iff_getElem]
theorem RBH {last:Int}:∀ {ts:List Ah} {p:Int} {vs:List Cc},rise last p ts=true->Ox vs->(∀ v ∈ vs,∃ x ∈ ts,x.fId=v.fId)->vs.length<=ts.length:=by
 intro ts;induction ts with
 | nil=>
  intro p vs _ _ h;cases vs<;>grind [List.mem_cons_self]
 | cons t ts ih=>
  intro p vs hr ha h;obtain ⟨_,_,_,hr2⟩:=Ar5.1 hr
  have hin:=Vj hr2;cases vs<;>grind [List.pairwise_cons,List.mem_cons_self]
def AuH:List Cc->Int->Int->List Cc
 | [],id,n=>[⟨id,n⟩]
 | v::vs,id,n=>if v.fId=id then ⟨id,n⟩::vs else if v.fId<id then v::AuH vs id n else ⟨id,n⟩::v::vs
theorem VAn (id:Int):∀ (ls:List Cc) (i:Nat),IX ls id i=(IX ls id 0).map (· + i)
 | [],i=>rfl
 | v::vs,i=>by
  rw [IX,IX];split;·simp
  ·rw [VAn id vs (i+1),VAn id vs (0+1),Option.map_map];congr 1;funext j;show j+(i+1)=(j+(0+1))+i;omega
theorem SBH {id:Int}:∀ {ls:List Cc} {i:Nat},(∀ v ∈ ls,v.fId≠id)->IX ls id i=none
 | [],_,_=>rfl
 | v::vs,i,h=>by rw [IX,if_neg (by rw [beq_iff_eq];exact h v (List.mem_cons_self ..))];exact SBH fun w hw=>h w (List.mem_cons_of_mem _ hw)
theorem TBH (id n:Int):∀ {ls:List Cc},Ox ls->aU ls id n=AuH ls id n
 | [],_=>rfl
 | v::vs,h=>by
  obtain ⟨hv,hs⟩:=List.pairwise_cons.1 h
  have ih:=TBH id n hs;rw [AuH];by_cases h1:v.fId=id
  ·rw [if_pos h1,aU,IX,if_pos (beq_iff_eq.2 h1)];show ⟨v.fId,n⟩::vs=_
   rw [h1]
  ·rw [if_neg h1];by_cases h2:v.fId<id;·rw [if_pos h2,<-ih,aU,aU,IX,if_neg (by rw [beq_iff_eq];exact h1),VAn,Gq,if_pos h2];cases IX vs id 0 <;> rfl
   ·rw [if_neg h2,aU,SBH fun w hw=>?_,Gq,if_neg h2];·rfl
    ·rcases List.mem_cons.1 hw with rfl | hw
     ·exact h1
     ·have:=hv w hw;omega
theorem UBH (id n:Int):∀ {ls:List Cc},Ox ls->ls.filter (fun v=>decide (v.fId<id))++(⟨id,n⟩::ls.filter fun v=>decide (v.fId > id))=AuH ls id n
 | [],_=>rfl
 | v::vs,h=>by
  obtain ⟨hv,hs⟩:=List.pairwise_cons.1 h
  have ih:=UBH id n hs;rw [AuH,List.filter_cons,List.filter_cons];have big:∀ {p:Cc->Bool},(∀ w ∈ vs,p w=true)->vs.filter p=vs:=List.filter_eq_self.2;by_cases h1:v.fId=id;·rw [if_pos h1,D5 (by omega),D5 (by omega),List.filter_eq_nil_iff.2 fun w hw=>by have:=hv w hw;rw [decide_eq_true_eq];omega,List.filter_eq_self.2 fun w hw=>by have:=hv w hw;rw [decide_eq_true_eq];omega];rfl
  ·rw [if_neg h1];by_cases h2:v.fId<id;·rw [if_pos h2,Bg h2,D5 (by omega),<-ih];rfl
   ·rw [if_neg h2,D5 h2,Bg (by omega),List.filter_eq_nil_iff.2 fun w hw=>by have:=hv w hw;rw [decide_eq_true_eq];omega,List.filter_eq_self.2 fun w hw=>by have:=hv w hw;rw [decide_eq_true_eq];omega];rfl
theorem ZA6 {id n:Int}:∀ {ls:List Cc},Ox ls->∀ v ∈ AuH ls id n,v=⟨id,n⟩\/(v ∈ ls/\v.fId≠id)
 | [],_,v,hv=>.inl (List.mem_singleton.1 hv)
 | w::vs,h,v,hv=>by
  obtain ⟨hw,hs⟩:=List.pairwise_cons.1 h
  rw [AuH] at hv;split at hv
  ·rename_i h1;rcases List.mem_cons.1 hv with e | hm
   ·exact .inl e
   ·have:=hw v hm;exact .inr ⟨List.mem_cons_of_mem _ hm,by omega⟩
  ·rename_i h1;split at hv
   ·rcases List.mem_cons.1 hv with rfl | hm
    ·exact .inr ⟨List.mem_cons_self ..,h1⟩
    ·rcases ZA6 hs v hm with e | ⟨e1,e2⟩
     ·exact .inl e
     ·exact .inr ⟨List.mem_cons_of_mem _ e1,e2⟩
   ·rename_i h2;rcases List.mem_cons.1 hv with e | hm
    ·exact .inl e
    ·rcases List.mem_cons.1 hm with rfl | hm
     ·exact .inr ⟨List.mem_cons_self ..,h1⟩
     ·have:=hw v hm;exact .inr ⟨List.mem_cons_of_mem _ hm,by omega⟩
theorem VBH {id n:Int}:∀ {ls:List Cc},Ox ls->Ox (AuH ls id n)
 | [],_=>List.pairwise_singleton _ _
 | w::vs,h=>by
  obtain ⟨hw,hs⟩:=List.pairwise_cons.1 h
  rw [AuH];split;·rename_i h1;exact List.pairwise_cons.2 ⟨fun v hv=>by have:=hw v hv;show id<v.fId;omega,hs⟩
  ·rename_i h1;split
   ·rename_i h2;refine List.pairwise_cons.2 ⟨fun v hv=>?_,VBH hs⟩;rcases ZA6 hs v hv with rfl | ⟨e1,_⟩
    ·exact h2
    ·exact hw v e1
   ·rename_i h2;refine List.pairwise_cons.2 ⟨fun v hv=>?_,h⟩;rcases List.mem_cons.1 hv with rfl | hv
    ·show id<v.fId;omega
    ·have:=hw v hv;show id<v.fId;omega
theorem kM {d:BO} (h0:d.Ai.length<=140737488351232):aV d=some (AvP d):=by
 rw [aV,BAy,mk,AvP];have key:∀ (j i m:Nat),i+j=d.Ai.length->kN (m+j+1) (.c0 d.Ai (d.Ai.length:Int) (i:Int) d)=some (decide ((d.Ai.length:Int)<=30) && AuE (Vw d.Ai i) (d.Ai.drop i)):=by
  intro j;induction j with
  | zero=>
   grind [kN,PAi,AuE]
  | succ j ih=>
   intro i m h;have hi:i<d.Ai.length:=by omega
   have e:AU ((i:Int)+1)=((i+1:Nat):Int):=by grind [Ar]
   have h2:=ih (i+1) m (by omega);have HW:∀ b:Bool,(b && false)=false:=fun b=>by simp
   rw [show m+(j+1)+1=(m+j+1)+1 by omega,kN];simp only [PAi,mk,e,BU,getD_at hi,JJ,AO];rw [Atd (by simp_all),Atd (by simp_all),UBF hi,Atl,h2];cases hn:AvO (d.Ai[i].fName.size:Int) 1 8;·simp
   cases decide ((d.Ai[i].fText.size:Int) > 20000)
   ·cases AvO d.Ai[i].Jp 0 (d.Ai[i].fText.size:Int);·simp
    ·by_cases hz:i=0;·grind [DU,Vw,NAm]
     ·obtain ⟨i',rfl⟩:∃ q,i=q+1:=⟨i - 1,by omega⟩
      grind [Ar,JA5]
   simp
 obtain ⟨m,hm⟩:=gm (n:=d.Ai.length) (by omega)
 rw [hm];exact key d.Ai.length 0 m (by omega)
theorem ALd:aW=some Ato:=by rw [aW,QAy,mk,PW (by decide),AO,show (32:Int)=((32:Nat):Int) from rfl,TAm (by omega),AO];rfl
theorem QBh {a b:List Ah} (h0:a.length<=140737488351232):ZAi a b=some (Asl a b):=by
 rw [ZAi,SAy];by_cases hl:a.length=b.length
 ·have key:∀ (j i m:Nat),i+j=a.length->kP (m+j+1) (.c0 a b (a.length:Int) (i:Int))=some (Asl (a.drop i) (b.drop i)):=by
   intro j;induction j with
   | zero=>
    intro i m h;obtain rfl:i=a.length:=by omega
    rw [kP];simp only [YAi,mk];rw [PY (by simp),List.drop_length,hl,List.drop_length];rfl
   | succ j ih=>
    intro i m h;have hi:i<a.length:=by omega
    have hi2:i<b.length:=by omega
    have e:AU ((i:Int)+1)=((i+1:Nat):Int):=by grind [Ar]
    rw [show m+(j+1)+1=(m+j+1)+1 by omega,kP];simp only [YAi,mk,e,BU,getD_at hi,getD_at hi2,OA6,ih (i+1) m (by omega)];grind [drop_at,Asl]
  obtain ⟨m,hm⟩:=gm (n:=a.length) (by omega)
  rw [PY (by simp_all),hm];exact key a.length 0 m (by omega)
 grind [QA6]
theorem WBH {a b:Bf} (h0:a.Ag.length<=140737488351232):wC a b=some (Qn a b):=by rw [wC,TAy,mk,QBh h0,Qn];grind
theorem WAn {d:BO} {n:AA} (h0:d.Ai.length<=140737488351232):aX d n=some (AsZ d n):=by
 have key:∀ (j i m:Nat),i+j=d.Ai.length->kQ (m+j+1) (.c0 n d.Ai (d.Ai.length:Int) (i:Int))=some (match Arr (d.Ai.drop i) n i with | some j=>(j:Int) | none=> -1):=by
  intro j;induction j with
  | zero=>
   intro i m h;obtain rfl:i=d.Ai.length:=by omega
   rw [kQ];simp only [AEU,mk];rw [PY (by simp),List.drop_length];rfl
  | succ j ih=>
   intro i m h;have hi:i<d.Ai.length:=by omega
   have e:AU ((i:Int)+1)=((i+1:Nat):Int):=by grind [Ar]
   grind [kQ,AEU,BU,drop_at,Arr]
 obtain ⟨m,hm⟩:=gm (n:=d.Ai.length) (by omega)
 rw [aX,UAy,mk,hm,AsZ];exact key d.Ai.length 0 m (by omega)
theorem RBh {d:BO} {n:AA} (h0:d.Ai.length<=140737488351232):CAj d n=some (Atr d n):=by
 rw [CAj,VAy,mk,WAn h0,AO,AsZ,Atr];cases h:Arr d.Ai n 0 with
 | none=>rfl
 | some j=>
  have:=Z8 h;simp_all [PY]
theorem SBh {s:Int} (h:R32 s):an s 1=s % 2:=by
 obtain ⟨h1,h2⟩:=h
 obtain ⟨n,rfl⟩:∃ n:Nat,s=(n:Int):=⟨s.toNat,by omega⟩
 unfold an;show w32 (((BitVec.ofInt 32 (n:Int) &&& BitVec.ofInt 32 1).toNat:Nat):Int)=_;grind [Sv]
theorem TBh (t:AA) (i:Nat) (hi:i<t.size) (ht:t.size<=140737488351232):∀ (j k m:Nat) (s:Int),k+j=8->R32 s->Ux (m+j+1) (.c1 s t (i:Int) (k:Int))=Ux m (.c0 (aY j s) t ((i+1:Nat):Int)):=by
 intro j;induction j with
 | zero=>
  intro k m s hk hs;have e:AU ((i:Int)+1)=((i+1:Nat):Int):=by grind [Ar]
  rw [Ux];simp only [kR,mk,e];rw [PY (by simp_all)];rfl
 | succ j ih=>
  intro k m s hk hs;have e:AU ((k:Int)+1)=((k+1:Nat):Int):=by grind [Ar]
  have h2:Int.fdiv s (2 ^ (Min.min (1:Int).toNat (IntKind.bits IntKind.u32)))=s / 2:=Int.fdiv_eq_ediv_of_nonneg _ (by decide);rw [show m+(j+1)+1=(m+j+1)+1 by omega,Ux];simp only [kR,mk,e,h2,SA4,SBh hs,TK];rw [Atd (by grind),aY];by_cases h:s % 2=1;·rw [Atd (by simp [h]),ih (k+1) m _ (by omega) (kS _ _),aZ,if_pos h]
  ·rw [PY (by simp [h]),ih (k+1) m _ (by omega) (by grind [R32]),aZ,if_neg h]
theorem UBh {t:AA} {s:Int} (ht:t.size<=140737488351232):FAj s t=some (kT s (bs t)):=by
 have hl:=bs_len t;have key:∀ (j i m:Nat) (s:Int),i+j=t.size->Ux (m+10*j+1) (.c0 s t (i:Int))=some (kT s ((bs t).drop i)):=by
  intro j;induction j with
  | zero=>
   intro i m s h;rw [Ux];simp only [kR,mk];rw [PY (by simp_all),List.drop_of_length_le (by omega)];rfl
  | succ j ih=>
   intro i m s h;have hb:=NK (Si t) i;rw [show m+10*(j+1)+1=(m+10*j+1)+8+1+1 by omega,Ux];simp only [kR,mk,TK];rw [Atd (by grind),Atd (by grind),ArC (by omega),Sv (by omega) (by omega)];have h1:=TBh t i (by omega) ht 8 0 (m+10*j+1) (xr s ((bs t).getD i 0)) (by omega) (kS _ _);rw [show ((0:Nat):Int)=0 from rfl] at h1;rw [h1,ih (i+1) m _ (by omega),drop_at (by omega:i<(bs t).length),getD_at (by omega)];rfl
 obtain ⟨m,hm⟩:∃ m,AX=m+10*t.size+1:=⟨AX - (10*t.size+1),by have:=FP (n:=10*t.size+1) (by omega);omega⟩
 rw [FAj,WAy,hm];have:=key t.size 0 m s (by omega);assumption
theorem XBH {t:AA} (ht:t.size<=140737488351232):kU t=some (Uz (bs t)):=by rw [kU,XAy,UBh ht];rfl
theorem VBh {f:AA} (hf:f.size<=140737488351232):wF f=some (Qu f):=by
 rw [wF,YAy,mk,Qu];by_cases h0:20000<f.size;·grind
 ·rw [PY (by grind),PY (by grind)];have key:∀ (j a m:Nat) (out:List AA),a<=f.size->f.size<a+j->out.length<=a->wG (m+j+1) (.c0 f (a:Int) out)=some (out++(AuP j f a).1,((AuP j f a).2:Int)):=by
   intro j;induction j with
   | zero=>omega
   | succ j ih=>
    intro a m out ha hj ho;rw [show m+(j+1)+1=(m+j+1)+1 by omega,wG];simp only [ZAy,mk,AuP];rw [NBG hf ha,AO];rcases tZ hf ha with h | ⟨v,h,hv0,hv1,hA⟩
    ·rw [show AtG f a=none by rw [AtG,h];rfl,h];rw [List.append_nil];rfl
    ·have hp:=Rk v;have hsz:=hA.size.resolve_left (by grind);obtain ⟨R,hR⟩:∃ R,R=AtG f a:=⟨_,rfl⟩
     have hn0:=hR;rw [AtG,h] at hn0;rw [h];generalize hq:a+(Atn v).length=q at hsz hn0;simp only [DZ,Aw,JJ,AO];cases hr:AvO v 1 9000;·grind
     ·rw [hr] at hn0;simp only [DZ,Aw,Bool.true_and] at hn0 ⊢;rw [Ar (n:=(f.size:Int) - (q:Int)) (by omega) (by omega),Ar (n:=(f.size:Int) - (q:Int) - 4) (by omega) (by omega),Ar (n:=(q:Int)+4) (by omega) (by omega),Ar (n:=(q:Int)+4+v) (by omega) (by omega)];by_cases h3:v > (f.size:Int) - (q:Int) - 4;·grind
      ·have e2:((q:Int)+4).toNat=q+4:=by omega
       have e3:((q:Int)+4+v).toNat=q+4+v.toNat:=by omega
       have hxs:(f.extract (q+4) (q+4+v.toNat)).size=v.toNat:=by grind [ByteArray.size_extract]
       rw [Bg (by omega:v<=(f.size:Int) - (q:Int) - 4),e2,e3,BU,Bool.true_and] at hn0;rw [PY (by simp_all),Atd (by grind),Atd (by simp;omega),e2,e3,BU,XBH (by omega),AO,UAm (YB _),AO,Vk,At6 (Vx (YB _))];grind
  obtain ⟨m,hm⟩:∃ m,AX=m+(f.size+1)+1:=⟨AX - (f.size+2),by have:=FP (n:=f.size+2) (by omega);omega⟩
  rw [hm,show (0:Int)=((0:Nat):Int) from rfl,key (f.size+1) 0 m [] (by omega) (by omega) (Nat.le_refl _)];rfl
theorem WBh {n:Int}:wH n=some (bif AvO n 0 1000000000 then (ofBytes (Atn n),true) else (⟨#[]⟩,false)):=by simp only [wH,ALo,mk,JJ,AO];grind [DU,YC]
theorem YBH {s:AA} {x:Int} (hs:s.size<=140737488351232):kV s x=some (ofBytes (Qp x (bs s))):=by
 have hl:=bs_len s
 have key:=PL (A:=Unit) (n:=(bs s).length) (Hj:=kW) (st:=fun i _=>.c0 x ((bs s).length:Int) (i:Int) (((bs s).take i).map (fun b=>xb b x)++(bs s).drop i)) (Inv:=fun _ _=>True) (out:=fun _ _=>some (ofBytes (Qp x (bs s))))
  (fun m _ _=>by
   rw [kW];simp only [HAj,mk];rw [PY (by simp),List.take_length,List.drop_length,List.append_nil];rfl)
  (fun m i _ hi _=>.inr ⟨(),by
   have e:AU ((i:Int)+1)=((i+1:Nat):Int):=by grind [Ar]
   have hlen:(((bs s).take i).map (fun b=>xb b x)++(bs s).drop i).length=(bs s).length:=by grind
   grind [kW,HAj,BU,VBc,xb],trivial,rfl⟩)
 rw [kV,CAz,mk,Atd (by grind),kX];exact key AX 0 () (DF _) (FP (by omega)) trivial
theorem XBh {k:AA} (h:k.size<=64):bs (k++ofBytes (List.replicate (64 - k.size) 0))=Ky (bs k):=by rw [ArL,At6 (fun x hx=>by grind),Ky,bs_len]
theorem YBh {K:AA} (h:K.size=64) {s:AA}:Auo (ofBytes (Qp 92 (bs K))++Auo (ofBytes (Qp 54 (bs K))++s))=ofBytes (Tv (Qp 92 (bs K)++Tv (Qp 54 (bs K)++bs s))):=by rw [Auo,ArL,IAm,ArL,At6 (LAm _ _),At6 (LAm _ _)]
theorem ZBH {k s:AA} (hk:k.size<=900000000) (hs:s.size<=900000000):kY k s=some (ah k s):=by
 have fin:∀ {K:AA} {m:Int},K.size<=64->m=((64 - K.size:Nat):Int)->∀ (f:Option AA),f=some (ofBytes (Tv (Qp 92 (Ky (bs K))++Tv (Qp 54 (Ky (bs K))++bs s))))->
   ((YD m).bind fun r1=>bif decide (K.size+r1.size<=9223372036854775807) then (kV (K++r1) 92).bind fun r2=>(kV (K++r1) 54).bind fun r3=>bif decide (r3.size+s.size<=9223372036854775807) then (KZ (r3++s)).bind fun r4=>bif decide (r2.size+r4.size<=9223372036854775807) then (KZ (r2++r4)).bind fun r5=>some r5 else none else none else none)=f:=by
  intro K m hK hm f hf;have h64:(K++ofBytes (List.replicate (64 - K.size) 0)).size=64:=by simp_all [DK]
  subst hm;have x1:=KAm 92 (Ky (bs K));have x2:=KAm 54 (Ky (bs K));have x3:(Ky (bs K)).length=64:=by simp_all [Ky,bs_len]
  have hb:=XBh hK;have hf2:=YBh h64 (s:=s);rw [hb] at hf2;rw [TAm (by omega),AO,Atd (by simp_all),YBH (by omega),AO,YBH (by omega),AO,hb];grind [DK,PW,IQ]
 rw [kY,DAz,mk];grind [PW,IQ,ah,Vy,Vz,bs_len,IAm,Ar]
theorem BBI {k:AA} {num n:Int} (hk:k.size<=900000000):wI k num n=some (Xn k num n):=by
 rw [wI,EAz,mk,WBh,AO,Xn,LK];cases h:AvO num 0 1000000000;·rfl
 ·rw [DU] at h;rw [A8,PY (by rfl),JJ,AO];cases h2:AvO n 0 8000;·rfl
  ·rw [DU] at h2;rw [PY (by rfl),Bool.and_self,A8];have hv:=Aq3 (n:=num) (by omega);have hvb:=U0 h.1
   have key:=PL (A:=Unit) (n:=(n.toNat+31) / 32) (Hj:=kZ) (st:=fun i _=>.c0 k n (ofBytes (Atn num)) (ofBytes (YE (bs k) (Atn num) i)) (i:Int)) (Inv:=fun _ _=>True) (out:=fun _ _=>some (ofBytes (Pv (bs k) (Atn num) n.toNat),true))
    (fun m _ _=>by
     rw [kZ];simp only [IAj,mk];rw [PY (by grind [DK,YF]),Atd (by grind [DK,YF])];refine congrArg (fun x=>some (x,true)) (Asj ?_);rw [AvE,At6 (GBF _ _ _),At6 (tX _ _ _),Pv,List.drop_zero])
    (fun m i _ hi _=>.inr ⟨(),by
     have e:AU ((i:Int)+1)=((i+1:Nat):Int):=by grind [Ar]
     have h9:(⟨#[109]⟩:AA).size=1:=rfl;grind [kZ,IAj,DK,YF,As5,ZBH,HBF,ofBytes,YE,bs,Asj,ArL,At6],trivial,rfl⟩)
   exact key AX 0 () (DF _) (FP (by omega)) trivial
theorem CBI {k s:AA} {num:Int} (hk:k.size<=900000000) (hn:0<=num/\num<=1000000000) (hs:s.size<=800000000):wJ k num s=some (ofBytes (Ph (bs k) num (bs s))):=by have hv:=Aq3 (n:=num) (by omega);have h9:(⟨#[116]⟩:AA).size=1:=rfl;have e:bs (⟨#[116]⟩:AA)=[116]:=rfl;have h16:(16:Int).toNat=16:=rfl;rw [wJ,FAz,mk,YC (by omega),AO,Atd (by grind [DK]),Atd (by grind [DK])];rw [ZBH hk (by grind [DK]),AO,Atd (by rfl)];refine congrArg some (Asj ?_);rw [AvE,DBF,h16,At6 (UZ _ _ _),ArL,ArL,e,At6 (U0 hn.1),Ph,List.drop_zero,List.append_assoc];rfl
theorem DBI {a b:AA} (ha:a.size<=140737488351232) (h:a.size<=b.size):wK a b=some (ofBytes (AtA (bs a) (bs b))):=by
 have hl:=bs_len a;have hl2:=bs_len b
 have key:=PL (A:=Unit) (n:=(bs a).length) (Hj:=ku) (st:=fun i _=>.c0 b ((bs a).length:Int) (i:Int) (List.zipWith xb ((bs a).take i) ((bs b).take i)++(bs a).drop i)) (Inv:=fun _ _=>True) (out:=fun _ _=>some (ofBytes (AtA (bs a) (bs b))))
  (fun m _ _=>by
   grind [ku,JAj,AtA,GA5])
  (fun m i _ hi _=>.inr ⟨(),by
   have e:AU ((i:Int)+1)=((i+1:Nat):Int):=by grind [Ar]
   have hlen:(List.zipWith xb ((bs a).take i) ((bs b).take i)++(bs a).drop i).length=(bs a).length:=by grind
   grind [ku,JAj,BU,FA5,ArC,IBF],trivial,rfl⟩)
 rw [wK,GAz,mk,Atd (by grind),kX];exact key AX 0 () (DF _) (FP (by omega)) trivial
theorem EBI (t:AA) {n:Nat} (h:t.size=n+16):bs (t.extract 0 n)=(bs t).take (t.size - 16)/\bs (t.extract n t.size)=(bs t).drop (t.size - 16):=by grind [AvE,bs_len]
theorem FBI {k t:AA} {num:Int} (hk:k.size<=900000000) (ht:t.size<=800000000):lC k num t=some (AtU k num t):=by
 rw [lC,HAz,mk,AtU];have hw:AU ((t.size:Int) - 16)=(t.size:Int) - 16:=Ar (by omega) (by omega);rw [hw];by_cases h:t.size<16;·grind
 ·obtain ⟨n,hn⟩:∃ n,t.size=n+16:=⟨t.size - 16,by omega⟩
  obtain ⟨e1,e2⟩:=EBI t hn
  have hz:(t.size:Int) - 16=(n:Int):=by omega
  have hb:=bs_len t;rw [PY (by simp_all),BBI hk,AO,Xn,hz,show decide ((t.size:Int)<16)=false by grind,Bool.false_or];cases hm:LK num n;·rfl
  ·have h':=iL.1 hm;have hml:=Aq7 (bs k) (Atn num) n;have hes:(t.extract 0 n).size=n:=by simp_all
   rw [DZ,Aw,A8,PY (by rfl),BU,Atd (by grind),CBI hk h'.1 (by omega),AO,Atd (by grind),Vk,At6 (UZ _ _ _),e1,e2];cases hc:(Ph (bs k) num ((bs t).take (t.size - 16)) == (bs t).drop (t.size - 16))
   ·rfl
   ·rw [DZ,Aw,Atd (by grind),DBI (by omega) (by simp_all [DK]),AO,At6 (tX _ _ _),e1,A8,show t.size - 16=n by omega]
theorem GBI {t:AA} (h:t.size<=140737488351232):lD t=some (frameT t):=by
 rw [lD,PAz,mk,JJ,AO,frameT];cases h1:AvO (t.size:Int) 1 9000;·rfl
 ·rw [DU] at h1;have:=Aq3 (n:=(t.size:Int)) (by omega);rw [PY (by rfl),YC (by omega),AO,XBH h,AO,UAm (YB _),AO,Atd (by grind [DK,four])];rw [Atd (by grind [DK,four]),PBF,A8]
theorem ZBh {k file:AA} (hk:k.size<=900000000) (hf:file.size<=140737488351232):RAj k file=some (Nl k file):=by
 obtain ⟨u1,u2,_,_⟩:=KAn (file:=file)
 rw [RAj,QAz,mk,VBh hf,AO,Nl];generalize (Qu file).1=l at u1 u2;have key:∀ (j i m:Nat) (e:Int) (out:List Aq),i+j=l.length->0<=e->e<=30000*i->out.length<=i->lF (m+j+1) (.c0 k e (l.length:Int) (i:Int) out l)=some (out++(Atj k ((i:Int)+1) (l.drop i)).1,e+(Atj k ((i:Int)+1) (l.drop i)).2):=by
  intro j;induction j with
  | zero=>
   grind [lF,QAj,Atj]
  | succ j ih=>
   intro i m e out h he he2 ho;have hi:i<l.length:=by omega
   have hz:=u1 _ (List.getElem_mem hi);have ew:AU ((i:Int)+1)=((i+1:Nat):Int):=by grind [Ar]
   have GS:=tY k l[i] ((i+1:Nat):Int);have hfz:=QBF (t:=l[i]) (by omega);rw [show m+(j+1)+1=(m+j+1)+1 by omega,lF];simp only [QAj,mk,ew,BU,getD_at hi];rw [Atd (by simp_all),Atd (by simp_all),FBI hk (by omega),AO,WBG (by omega),AO,drop_at hi,Atj,show ((i:Int)+1)=((i+1:Nat):Int) from rfl];cases (AtU k ((i+1:Nat):Int) l[i]).2;·simp
   ·rw [PY (by rfl),Bool.true_and];cases (AuG (AtU k ((i+1:Nat):Int) l[i]).1).2;·simp
    ·have h2:=ih (i+1) m (e+((frameT l[i]).1.size:Int)) (out++[(AuG (AtU k ((i+1:Nat):Int) l[i]).1).1]) (by omega) (by omega) (by omega) (by simp_all);grind [GBI,Ar]
 obtain ⟨m,hm⟩:=gm (n:=l.length) (by omega)
 have h0:=key l.length 0 m 0 [] (by omega) (by omega) (by omega) (Nat.le_refl _);simp_all
theorem AeY {b:Bf} {l:List Aq} (hb:b.Ag.length<=2932031007317) (hl:l.length<=140737488351232) (hr:∀ r ∈ l,r.DY<=9223372036854775807):XAj b l=some (EW b l):=by
 have key:∀ (j i m:Nat) (b:Bf),i+j=l.length->b.Ag.length<=2932031007317->lG (m+j+1) (.c0 l (l.length:Int) (i:Int) ⟨#[]⟩ 0 0 ⟨#[]⟩ 0 b.Bv b.DR b.BR b.Dp b.fCount [] b.Ag)=some (EW b (l.drop i)):=by
  intro j;induction j with
  | zero=>
   intro i m b h hb;obtain rfl:i=l.length:=by omega
   rw [lG];simp only [WAj,mk];rw [PY (by simp),List.drop_length];rfl
  | succ j ih=>
   intro i m b h hb;have hi:i<l.length:=by omega
   have e:AU ((i:Int)+1)=((i+1:Nat):Int):=by grind [Ar]
   rw [show m+(j+1)+1=(m+j+1)+1 by omega,lG];simp only [WAj,mk,e,BU,getD_at hi];rw [Atd (by simp_all),Atd (by simp_all),NBH (by grind) (hr _ (List.getElem_mem hi)),AO,drop_at hi,EW];cases h2:(Ara b l[i]).2;·rfl
   ·have h3:=SA5 h2;rw [PY (by rfl),A8];exact ih (i+1) m (Ara b l[i]).1 (by omega) (by omega)
 obtain ⟨m,hm⟩:=gm (n:=l.length) (by omega)
 rw [XAj,YAz,mk,UA6 hb,AO,hm];exact key l.length 0 m b (by omega) hb
theorem HBI {k:AA} {d:BO} (hk:k.size<=900000000) (hd:d.Ai.length<=140737488351232) (hf:∀ f ∈ d.Ai,f.fText.size<=140737488351232):lH k d=some (GH k d):=by
 have hfs:(Atr d Qa).1.size<=140737488351232:=GA6 hf;obtain ⟨r1,r2⟩:=ZBG k (Atr d Qa).1
 have hl:=AUE k (Atr d Qa).1;rw [lH,ZAz,mk,show (⟨#[98,111,111,107]⟩:AA)=Qa from rfl,show (⟨#[98,111,111,107,43]⟩:AA)=nNew from rfl,RBh hd,AO,ZBh hk hfs,AO,ALd,AO,AeY (DF _) (by omega) (PBg _ _),AO,kM hd,AO,WAn hd,GH];cases AvP d;·rfl
 cases (EW Ato (Nl k (Atr d Qa).1).1).2;·rfl
 grind
theorem Xi {b:Bf} {t:Int} (h:b.Ag.length<=140737488351232):TL b t=some (match AtT b.Ag t with | some x=>(x,true) | none=>(YG,false)):=by
 have hp:=WBE t b.Ag 0;simp only [TL,AL2,mk,VA6 h,AO];cases hq:Np b.Ag t 0 with
 | none=>rw [hq] at hp;simp only at hp ⊢;rw [hp];rfl
 | some j=>
  grind
theorem BBi {b:Aj} (hl:b.BJ.length<=140737488351232) (ht:b.AV.Ag.length<=140737488351232):wL b=some (Vg b):=by
 have key:∀ (j i m:Nat),i+j=b.BJ.length->lI (m+j+1) (.c0 b.BJ (b.BJ.length:Int) (i:Int) b)=some (Atb b j i):=by
  intro j;induction j with
  | zero=>
   intro i m hi;rw [lI];simp only [ZAj,mk];rw [PY (by simp_all)];rfl
  | succ j ih=>
   intro i m hi;have hw:AU ((i:Int)+1)=((i+1:Nat):Int):=by grind [Ar]
   have d1:decide ((i:Int)<(b.BJ.length:Int))=true:=Bg (by omega);have d0:decide ((0:Int)<=(i:Int))=true:=Bg (by omega);rw [ArJ m j,lI];simp only [ZAj,mk,Xi ht,JJ,AO,d0,d1,Bool.and_self,A8,BU,hw,ih (i+1) m (by omega),Atb,Ar8];grind [Ar,BU]
 obtain ⟨m,hm⟩:=gm (n:=b.BJ.length) (by omega)
 rw [wL,BA0,mk,hm];exact key b.BJ.length 0 m (Nat.zero_add _)
theorem iE {b:Aj} (hd:b.Bd.Ai.length<=140737488351232) (hf:∀ f ∈ b.Bd.Ai,f.fText.size<=140737488351232) (ht:b.AV.Ag.length<=140737488351232) (hs:b.BI.length<=140737488351232) (hl:b.BJ.length<=140737488351232):Ase b=some (Ark b):=by
 rw [Ase,CA0,mk,kM hd,JJ,Ark];simp only [AO,bne];cases hz:(b.BN.size:Int) == 32;·rfl
 have hk:b.BN.size<=900000000:=by grind
 obtain ⟨l1,l2⟩:=RAn b.BN b.Bd
 have key:b.Bj=true->∀ (j i m:Nat),i+j=b.BI.length->i<=3->lJ (m+j+1) (.c0 b.BI (b.BI.length:Int) (i:Int) b)=some (decide ((b.BI.length:Int)<=3) && (Oy b j i && X4 b)):=by
  intro hup j;induction j with
  | zero=>
   intro i m hi h3;rw [lJ];simp only [wM,mk];rw [PY (by simp_all),X4,hup,Bg (by omega:(b.BI.length:Int)<=3)];simp only [HBI hk hd hf,WBH (show (GH b.BN b.Bd).1.Ag.length<=140737488351232 by omega),MBH ht,BBi hl ht,AO];cases (GH b.BN b.Bd).2.2 <;> cases ((GH b.BN b.Bd).2.1.length:Int) == 0 <;> cases IW b.AV <;> cases Qn (GH b.BN b.Bd).1 b.AV <;> rfl
  | succ j ih=>
   intro i m hi h3;have hw:AU ((i:Int)+1)=((i+1:Nat):Int):=by grind [Ar]
   have d1:decide ((i:Int)<(b.BI.length:Int))=true:=Bg (by omega);have d0:decide ((0:Int)<=(i:Int))=true:=Bg (by omega);rw [ArJ m j,lJ];by_cases h4:i=3;·simp_all [wM,mk,D5]
   have d3:decide ((i:Int)>=3)=false:=D5 (by omega);simp only [wM,mk,JJ,AO,d0,d1,d3,Bool.and_self,A8,Aw,BU,hw,ih (i+1) m (by omega) (by omega),Oy,aH];cases AvO (b.BI.getD i ⟨0,false⟩).fId 1 b.CU;all_goals grind [Ar,decide,BU]
 cases hdk:AvP b.Bd;·rfl
 cases ho:AvO b.CU 0 1000;·simp
 cases hup:b.Bj
 ·rw [X4,hup];simp only [ALd,WBH ht,AO,Bool.not_false,DZ,A8,Aw,Bool.true_and];cases hn:(b.BI.length:Int) == 0;·simp
  ·have hn0:b.BI.length=0:=by simp_all
   rw [hn0];grind [Oy]
 ·obtain ⟨m,hm⟩:=gm (n:=b.BI.length) (by omega)
  have h0:=key hup b.BI.length 0 m (Nat.zero_add _) (by omega);simp_all
def AuR (c:CJ):Bool:=AvO c.Au 1 13 && AvO c.Dz 0 1000 && AvO c.BK 0 1000 && AvO c.Aa 0 3 && decide ((c.fText.size:Int)<=1000)
theorem CBi (c:CJ):NAi c=some (AuR c):=by simp only [NAi,VAx,mk,AuF,AO,AuR];grind
theorem EBi (c:CJ):AEk c=some (AuR c):=by simp only [AEk,EA0,mk,JJ,AO,AuR];grind
def AsY:List EC->Int->Nat->Option Nat
 | [],_,_=>none
 | l::ls,t,i=>if l.fId == t then some i else AsY ls t (i+1)
theorem XAn {t:Int}:∀ {ls:List EC} {i j:Nat},AsY ls t i=some j->i<=j/\j<i+ls.length:=by intro ls;induction ls<;>grind [AsY]
def IU (b:Aj) (t:Int):Int:=match AsY b.BI t 0 with | some j=>(j:Int) | none=> -1
theorem su {b:Aj} {t:Int} (h:b.BI.length<=140737488351232):lK b t=some (IU b t):=by
 have key:∀ (j i m:Nat),i+j=b.BI.length->lM (m+j+1) (.c0 t b.BI (b.BI.length:Int) (i:Int))=some (match AsY (b.BI.drop i) t i with | some j=>(j:Int) | none=> -1):=by
  intro j;induction j with
  | zero=>
   intro i m hi;rw [lM];simp only [BAk,mk];rw [PY (by simp_all),List.drop_of_length_le (by omega)];rfl
  | succ j ih=>
   intro i m hi;have hil:i<b.BI.length:=by omega
   have hw:AU ((i:Int)+1)=((i+1:Nat):Int):=by grind [Ar]
   grind [lM,BAk,BU,drop_at,AsY]
 obtain ⟨m,hm⟩:=gm (n:=b.BI.length) (by omega)
 rw [lK,HA0,mk,hm];exact key b.BI.length 0 m (Nat.zero_add _)
def iC (n:Int):AA:=[(⟨#[]⟩:AA),⟨#[102,117,108,108]⟩,⟨#[115,101,115,115,105,111,110]⟩,⟨#[108,111,99,107,101,100]⟩,⟨#[119,111,114,100]⟩,⟨#[111,117,116]⟩,⟨#[119,114,111,110,103]⟩,⟨#[110,111,110,101]⟩,⟨#[112,111,108,105,99,121]⟩,⟨#[100,111,119,110]⟩].getD n.toNat ⟨#[]⟩
def Aua (n:Int):List Aq×Int×AA:=([],n,iC n)
theorem Atc {n:Int} (h:0<=n/\n<10):YH n=some (Aua n):=by rw [YH,FA0,mk,Atd (by simp_all)];rfl
noncomputable def iI (b:Aj) (c:CJ):List Aq×Int×AA:=
 bif decide (b.AV.DR>=3) then Aua 3
 else bif !((Auo c.fText).toList == b.AV.Bv.toList) then ([⟨2,⟨#[]⟩,b.AV.DR+1,⟨0,0,false,false,false,false,⟨#[]⟩,0⟩⟩],4,iC 4)
 else bif b.AV.DR == 0 then ([],0,⟨#[]⟩) else ([⟨2,⟨#[]⟩,0,⟨0,0,false,false,false,false,⟨#[]⟩,0⟩⟩],0,⟨#[]⟩)
theorem FBi {b:Aj} {c:CJ} (ht:0<=b.AV.DR) (hc:c.fText.size<=1000000000):CAk b c=some (iI b c):=by
 rw [CAk,IA0,mk,iI];simp only [Atc (n:=3) (by decide),Atc (n:=4) (by decide),PW hc,AO];by_cases h:b.AV.DR>=3;·simp_all
 ·rw [D5 h,Ar (by omega) (by omega)];cases !((Auo c.fText).toList == b.AV.Bv.toList) <;> cases b.AV.DR == 0 <;> rfl
theorem Good.pOk {k:AA} {l:List Aq} {b:Aj} (g:Good k l b):Ase b=some true:=by have hs:=g.small;have h1:=hs.1;have h2:=g.aI;have h3:=g.LM.1;have h4:=g.Lp.2;rw [iE (by omega) (fun f hf=>by have:=hs.2 f hf;omega) (by omega) (by omega) (by omega),g.ok]
theorem IBI {c:CJ} (h:AuR c=true):c.fText.size<=1000:=by grind [AuR]
def defaults (kind:Int) (data:AA):Ah×Bool:=
 bif kind == 1 then (⟨0,kind,true,false,false,true,Auo data,0⟩,true)
 else bif kind == 2 then (⟨0,kind,true,false,true,false,Auo data,0⟩,true)
 else bif kind == 3 then (bif decide ((data.size:Int)<=100) then (⟨0,kind,false,false,false,false,data,0⟩,true) else (⟨0,0,false,false,false,false,⟨#[]⟩,0⟩,false))
 else (⟨0,0,false,false,false,false,⟨#[]⟩,0⟩,false)
theorem IBi (kind:Int) {data:AA} (h:data.size<=1000000000):MAg kind data=some (defaults kind data):=by simp only [MAg,TAt,mk,ArI h,AO,defaults];grind
theorem JBi (kind:Int) {data:AA} (h:data.size<=1000000000):DAk kind data=some (defaults kind data):=by simp only [DAk,JA0,mk,PW h,AO,defaults];grind
def b1 (n:Int):AA:=ofBytes [n]
theorem Aub (n:Int):(b1 n).size=1:=by rfl
def Qb (s:AA):AA:=(Auo s).extract 0 4
theorem TB (s:AA):(Qb s).size=4:=by rfl
def JH (leaf chain:Int):Nat->Int->AA->AA
 | 0,_,x=>x
 | n+1,f,x=>JH leaf chain n (f+1) (Qb (b1 leaf++b1 chain++b1 f++x))
theorem KBi {leaf chain:Int}:∀ (n:Nat) (f:Int) (x:AA),x.size=4->(JH leaf chain n f x).size=4:=by
 intro n;induction n with
 | zero=>intro f x h;exact h
 | succ n ih=>intro f x h;exact ih _ _ (TB _)
theorem Zk (leaf chain:Int) (f:Int) (x:AA):∀ n:Nat,JH leaf chain (n+1) f x=Qb (b1 leaf++b1 chain++b1 (f+n)++JH leaf chain n f x):=by intro n;induction n generalizing f x<;>grind [JH]
def Zi:AA:=⟨#[111]⟩
def Zl:AA:=⟨#[110]⟩
def keyAt (seed:AA) (leaf c:Int):AA:=Qb (seed++b1 leaf++b1 c++Zi)
def AsH (seed:AA) (leaf:Int) (n:Nat):List AA:=(List.range n).map fun c:Nat=>keyAt seed leaf (c:Int)
def Ld:List AA->AA
 | []=>⟨#[]⟩
 | x::xs=>x++Ld xs
theorem LBi (s:AA):(⟨#[]⟩:AA)++s=s:=Asj (by rfl)
theorem iU (s:AA):s++(⟨#[]⟩:AA)=s:=Asj (by simp [ArL,VBa])
theorem uZ (a b c:AA):a++b++c=a++(b++c):=Asj (by simp [ArL])
theorem YAn (a b:List AA):Ld (a++b)=Ld a++Ld b:=by induction a<;>simp_all [LBi,Ld,uZ]
theorem Aq8 {l:List AA} {n:Nat} (h:∀ x ∈ l,x.size=n):(Ld l).size=l.length*n:=by
 induction l with
 | nil=>simp [Ld];rfl
 | cons x xs ih=>grind [Ld]
def AsA (level place:Int) (a b:AA):AA:=Qb (b1 level++b1 place++a++b++Zl)
theorem nbq (a b:Nat):Nat.beq a b=decide (a=b):=by grind [EL,Nat.beq_refl]
theorem wO {s:AA} (h:s.size<=1000000000):Px s=some (Qb s):=by rw [Px,VA0,mk,PW h,AO,IQ,Atd (by rfl)];rfl
theorem JBI {s:AA} {leaf:Int} (hl:0<=leaf/\leaf<=255) (hs:s.size<=100000):lN s leaf=some (AsH s leaf 10):=by
 have key:∀ (j i m:Nat),i+j=10->aj (m+j+1) (.c0 s leaf (i:Int) (AsH s leaf i))=some (AsH s leaf 10):=by
  intro j;induction j with
  | zero=>
   grind [aj,JAk]
  | succ j ih=>
   intro i m hi;have hw:AU ((i:Int)+1)=((i+1:Nat):Int):=by grind [Ar]
   have ho:(AsH s leaf i).length=i:=by simp [AsH]
   have hm:AsH s leaf i++[keyAt s leaf (i:Int)]=AsH s leaf (i+1):=by simp [AsH,List.range_succ]
   rw [ArJ m j,aj];simp only [JAk,mk,hw];rw [Atd (by grind),As5 hl.1 hl.2,AO];show (bif decide (s.size+(b1 leaf).size<=_) then _ else _)=_;rw [Atd (by grind [Aub]),As5 (by omega) (by omega),AO];show (bif decide ((s++b1 leaf).size+(b1 (i:Int)).size<=_) then _ else _)=_;rw [Atd (by grind [Aub])];show (bif decide ((s++b1 leaf++b1 (i:Int)).size+Zi.size<=_) then _ else _)=_;have hO:Zi.size=1:=rfl;rw [Atd (by grind [Aub])];show (Px (s++b1 leaf++b1 (i:Int)++Zi)).bind _=_;rw [wO (by grind [Aub]),AO,ho,Atd (by grind)];show aj (m+j+1) (.c0 s leaf ((i+1:Nat):Int) (AsH s leaf i++[keyAt s leaf (i:Int)]))=_;rw [hm];exact ih (i+1) m (by omega)
 obtain ⟨m,hm⟩:∃ m,AX=m+10+1:=⟨AX - 11,by rfl⟩
 rw [lN,WA0,hm];exact key 10 0 m rfl
theorem KBI {x:AA} {leaf chain:Int} {f n:Nat} (hl:0<=leaf/\leaf<=255) (hc:0<=chain/\chain<=255) (hn:n<=15) (hf:f+n<=255) (hx:x.size<=100000):AvM x leaf chain (f:Int) (n:Int)=some (JH leaf chain n f x):=by
 have hs:∀ i,(JH leaf chain i f x).size<=100000:=fun i=>by
  cases i with
  | zero=>exact hx
  | succ i=>simp [Zk,TB]
 have key:∀ (j i m:Nat),i+j=n->lQ (m+j+1) (.c0 (JH leaf chain i f x) leaf chain (f:Int) (n:Int) (i:Int))=some (JH leaf chain n f x):=by
  intro j;induction j with
  | zero=>
   grind [lQ,MAk]
  | succ j ih=>
   intro i m hi;have hw:AU ((i:Int)+1)=((i+1:Nat):Int):=by grind [Ar]
   have hsi:=hs i;have hm:=Zk leaf chain f x i;rw [ArJ m j,lQ];simp only [MAk,mk,hw];rw [Atd (by grind),As5 hl.1 hl.2,AO,As5 hc.1 hc.2,AO,Ar (by omega) (by omega),As5 (by omega) (by omega)];grind [b1,Aub,JH,wO]
 obtain ⟨m,hm⟩:=gm (n:=n) (by omega)
 have hi:(ite ((15:Int)<(n:Int)) 15 (n:Int))=(n:Int):=if_neg (by omega);rw [AvM,ZA0,hi,hm];exact key n 0 m (Nat.zero_add _)
def Atv (keys:List AA) (leaf:Int) (n:Nat):List AA:=(List.range n).map fun c:Nat=>JH leaf (c:Int) 15 0 (keys.getD c ⟨#[]⟩)
theorem ZAn {keys:List AA} {leaf:Int} {n:Nat}:∀ x ∈ Atv keys leaf n,x.size=4:=fun x hx=>by grind [Atv,Zk,TB]
theorem ADG (keys:List AA) (leaf:Int) (n:Nat):(Atv keys leaf n).length=n:=by simp [Atv]
def Vm (keys:List AA) (leaf:Int):AA:=Qb (Ld (Atv keys leaf 10))
theorem NBi {keys:List AA} {leaf:Int} (hk:keys.length=10) (hl:0<=leaf/\leaf<=255) (hs:∀ x ∈ keys,x.size<=100000):wP keys leaf=some (Vm keys leaf):=by
 have key:∀ (j i m:Nat),i+j=10->YI (m+j+1) (.c0 leaf 290 291 (Ld (Atv keys leaf i)) keys ((keys.length:Nat):Int) (i:Int))=some (Vm keys leaf):=by
  intro j;induction j with
  | zero=>
   intro i m hi;obtain rfl:i=10:=by omega
   have hz:=Aq8 (ZAn (keys:=keys) (leaf:=leaf) (n:=10));rw [ADG] at hz;rw [YI];simp only [NAk,mk];rw [hk,PY (by rfl),wO (by omega)];rfl
  | succ j ih=>
   intro i m hi;have hlt:i<keys.length:=by omega
   have hw:=Jh (i:=i) (by omega);have hz:=Aq8 (ZAn (keys:=keys) (leaf:=leaf) (n:=i));rw [ADG] at hz;have hc:=Zk leaf (i:Int) 0 keys[i] 14;have hc2:(JH leaf (i:Int) 15 0 keys[i]).size=4:=by rw [hc];exact TB _
   have hm:Ld (Atv keys leaf i)++JH leaf (i:Int) 15 0 keys[i]=Ld (Atv keys leaf (i+1)):=by rw [Atv,Atv,List.range_succ,List.map_append,YAn,List.map_cons,List.map_nil,Ld,Ld,iU,getD_at hlt]
   rw [ArJ m j,YI];simp only [NAk,mk,hw,BU,getD_at hlt];rw [FT (by omega),Ht (by omega)];simp only [nbq,Nat.reduceEqDiff,decide_true,decide_false,A8,Aw,KAk,XA0,LAk,YA0,AO];have hch:=KBI (x:=keys[i]) (leaf:=leaf) (chain:=(i:Int)) (f:=0) (n:=15) hl (by omega) (Nat.le_refl _) (by omega) (hs _ (List.getElem_mem hlt));rw [show AvM keys[i] leaf (i:Int) 0 15=_ from hch,AO];show (bif decide ((Ld (Atv keys leaf i)).size+(JH leaf (i:Int) 15 0 keys[i]).size<=_) then YI (m+j+1) (.c0 leaf 290 291 (Ld (Atv keys leaf i)++JH leaf (i:Int) 15 0 keys[i]) keys ((keys.length:Nat):Int) ((i+1:Nat):Int)) else none)=_;rw [FT (by rw [hc2];omega),hm];exact ih (i+1) m (by omega)
 obtain ⟨m,hm⟩:=gm (n:=10) (by omega)
 rw [wP,CA1,mk,BA1,AMK,mk,PY (by rw [hk];rfl),hm];show (YI (m+10+1) (.c0 leaf 290 291 (Ld (Atv keys leaf 0)) keys ((keys.length:Nat):Int) ((0:Nat):Int))).bind _=_;rw [key 10 0 m rfl];rfl
theorem OBi (keys:List AA) (leaf:Int):(Vm keys leaf).size=4:=TB _
def AtJ (s:AA) (n:Nat):List AA:=(List.range n).map fun l:Nat=>Vm (AsH s (l:Int) 10) (l:Int)
theorem uI (s:AA) (leaf:Int) (n:Nat):(AsH s leaf n).length=n:=by simp [AsH]
theorem uJ {s:AA} {leaf:Int} {n:Nat}:∀ x ∈ AsH s leaf n,x.size=4:=fun x hx=>by
 rw [AsH,List.mem_map] at hx;obtain ⟨c,_,rfl⟩:=hx
 rfl
theorem LBI {s:AA} (hs:s.size<=100000):wQ s=some (AtJ s 4):=by
 have key:∀ (j i m:Nat),i+j=4->lS (m+j+1) (.c0 s (i:Int) (AtJ s i))=some (AtJ s 4):=by
  intro j;induction j with
  | zero=>
   grind [lS,OAk]
  | succ j ih=>
   intro i m hi;have hw:AU ((i:Int)+1)=((i+1:Nat):Int):=by grind [Ar]
   have ho:(AtJ s i).length=i:=by simp [AtJ]
   have hm:AtJ s i++[Vm (AsH s (i:Int) 10) (i:Int)]=AtJ s (i+1):=by simp [AtJ,List.range_succ]
   rw [ArJ m j,lS];simp only [OAk,mk,hw];rw [Atd (by grind),JBI (by omega) hs,AO,NBi (uI _ _ _) (by omega) (fun x hx=>by grind [uJ]),AO,ho,Atd (by grind),hm];exact ih (i+1) m (by omega)
 obtain ⟨m,hm⟩:∃ m,AX=m+4+1:=⟨AX - 5,by rfl⟩
 rw [wQ,DA1,hm];exact key 4 0 m rfl
theorem BA7 {level place:Int} {a b:AA} (hl:0<=level/\level<=255) (hp:0<=place/\place<=255) (ha:a.size<=100000) (hb:b.size<=100000):YJ level place a b=some (AsA level place a b):=by have hN:Zl.size=1:=rfl;rw [YJ,EA1,mk,As5 hl.1 hl.2,AO,As5 hp.1 hp.2,AO];show (bif decide ((b1 level).size+(b1 place).size<=_) then _ else _)=_;rw [Atd (by rfl)];show (bif decide ((b1 level++b1 place).size+a.size<=_) then _ else _)=_;rw [Atd (by grind [Aub])];show (bif decide ((b1 level++b1 place++a).size+b.size<=_) then _ else _)=_;rw [Atd (by grind [Aub])];show (bif decide ((b1 level++b1 place++a++b).size+Zl.size<=_) then _ else _)=_;rw [Atd (by grind [Aub])];show (Px (b1 level++b1 place++a++b++Zl)).bind _=_;rw [wO (by grind [Aub])];rfl
theorem AuC (level place:Int) (a b:AA):(AsA level place a b).size=4:=TB _
theorem MBI {lv:Int} {a b c d:AA} (hl:0<=lv/\lv<=255) (ha:a.size<=100000) (hb:b.size<=100000) (hc:c.size<=100000) (hd:d.size<=100000):Arv lv [a,b,c,d]=some [AsA lv 0 a b,AsA lv 1 c d]:=by
 obtain ⟨m,hm⟩:∃ m,AX=m+1+1+1:=⟨AX - 3,rfl⟩
 rw [Arv,PAk,hm,YK];simp only [wR,mk];rw [Atd (by rfl),Atd (by rfl),Atd (by rfl)];show (YJ lv 0 a b).bind _=_;rw [BA7 hl (by omega) ha hb,AO,Atd (by rfl),YK];simp only [wR,mk];rw [Atd (by rfl),Atd (by rfl),Atd (by rfl)];show (YJ lv 1 c d).bind _=_;rw [BA7 hl (by omega) hc hd,AO,Atd (by rfl),YK];rfl
theorem NBI {lv:Int} {a b:AA} (hl:0<=lv/\lv<=255) (ha:a.size<=100000) (hb:b.size<=100000):Arv lv [a,b]=some [AsA lv 0 a b]:=by
 obtain ⟨m,hm⟩:∃ m,AX=m+1+1:=⟨AX - 2,rfl⟩
 rw [Arv,PAk,hm,YK];simp only [wR,mk];rw [Atd (by rfl),Atd (by rfl),Atd (by rfl)];show (YJ lv 0 a b).bind _=_;rw [BA7 hl (by omega) ha hb,AO,Atd (by rfl),YK];rfl
def CA7 (a b c d:AA):AA:=AsA 2 0 (AsA 1 0 a b) (AsA 1 1 c d)
theorem PBi {a b c d:AA} (ha:a.size<=100000) (hb:b.size<=100000) (hc:c.size<=100000) (hd:d.size<=100000):RAk [a,b,c,d]=some (CA7 a b c d):=by
 obtain ⟨m,hm⟩:∃ m,AX=m+1+1+1:=⟨AX - 3,rfl⟩
 have n1:=AuC 1 0 a b;have n2:=AuC 1 1 c d;rw [RAk,FA1,mk,PY (by rfl),hm,lU];simp only [QAk,mk];rw [Atd (by rfl),MBI (by omega) ha hb hc hd,AO,show AU (1+1)=2 by rfl,lU];simp only [QAk,mk];rw [Atd (by rfl),NBI (by omega) (by omega) (by omega),AO,lU];rfl
def Qs (s:AA) (l:Int):AA:=Vm (AsH s l 10) l
theorem Sl (s:AA) (l:Int):(Qs s l).size=4:=OBi _ _
theorem BAo (s:AA):AtJ s 4=[Qs s 0,Qs s 1,Qs s 2,Qs s 3]:=rfl
def Aut (s:AA):AA:=CA7 (Qs s 0) (Qs s 1) (Qs s 2) (Qs s 3)
theorem CAo (s:AA):(Aut s).size=4:=AuC _ _ _ _
theorem OBI {s:AA} (hs:s.size<=100000):lV s=some (Aut s):=by rw [lV,GA1,mk,LBI hs,AO,BAo,PBi (by simp [Sl]) (by simp [Sl]) (by simp [Sl]) (by simp [Sl])];rfl
theorem QBi {b:Int} (h:0<=b/\b<=255):AU (Int.fdiv b (2 ^ (Min.min (4:Int).toNat (IntKind.bits IntKind.u8))))=b / 16:=by grind [IntKind.bits,Ar]
theorem RBi {b:Int} (h:0<=b/\b<=255):AU (w8 (((BitVec.toNat ((BitVec.ofInt (IntKind.bits IntKind.u8) b) &&& (BitVec.ofInt (IntKind.bits IntKind.u8) 15))):Nat):Int))=b % 16:=by
 obtain ⟨n,rfl⟩:∃ n:Nat,b=(n:Int):=⟨b.toNat,by omega⟩
 have e:(BitVec.ofInt (IntKind.bits IntKind.u8) (n:Int) &&& BitVec.ofInt (IntKind.bits IntKind.u8) 15).toNat=n % 16:=by show (BitVec.ofInt 8 (n:Int) &&& BitVec.ofInt 8 15).toNat=_;rw [BitVec.toNat_and,BitVec.ofInt_natCast,BitVec.toNat_ofNat,Nat.mod_eq_of_lt (by omega),show (BitVec.ofInt 8 15).toNat=2 ^ 4 - 1 by decide,Nat.and_two_pow_sub_one_eq_mod]
 grind [MX,Ar]
def AuM:List Int->List Int
 | []=>[]
 | b::bs=>b / 16::b % 16::AuM bs
theorem PBI (a b:List Int):AuM (a++b)=AuM a++AuM b:=by induction a<;>simp_all [AuM]
theorem uO (a:List Int):(AuM a).length=2*a.length:=by induction a<;>grind [AuM]
theorem DAo {a:List Int} (h:Gs a):∀ d ∈ AuM a,0<=d/\d<=15:=by
 induction a with
 | nil=>intro d hd;cases hd
 | cons x xs ih=>
  intro d hd;have hx:=h x (List.mem_cons_self ..);rw [AuM,List.mem_cons,List.mem_cons] at hd;rcases hd with rfl | rfl | hd
  ·omega
  ·omega
  ·exact ih (fun y hy=>h y (List.mem_cons_of_mem _ hy)) d hd
def Aus:List Int->Int
 | []=>0
 | d::ds=>15 - d+Aus ds
theorem QBI (a b:List Int):Aus (a++b)=Aus a+Aus b:=by induction a<;>grind [Aus]
theorem uQ {a:List Int} (h:∀ d ∈ a,0<=d/\d<=15):0<=Aus a/\Aus a<=15*(a.length:Int):=by
 induction a with
 | nil=>exact ⟨Int.le_refl _,Int.le_refl _⟩
 | cons x xs ih=>
  have hx:=h x (List.mem_cons_self ..);have:=ih (fun y hy=>h y (List.mem_cons_of_mem _ hy));grind [Aus]
def Qe (m:AA):List Int:=AuM (bs (Qb m))++[Aus (AuM (bs (Qb m))) / 16,Aus (AuM (bs (Qb m))) % 16]
theorem RBI (m:AA):(Qe m).length=10/\∀ d ∈ Qe m,0<=d/\d<=15:=by have h1:=DAo (Si (Qb m));have h2:=uO (bs (Qb m));have h3:=uQ h1;grind [bs_len,TB,Qe]
theorem SBi {s:AA} (hs:s.size<=1000000000):wS s=some (Qe s):=by
 have hz:=TB s;have hin:=DAo (Si (Qb s));have hln:=uO (bs (Qb s));rw [bs_len,hz] at hln;have Cy:∀ (j i m:Nat),i+j=8->V3 (m+j+1) (.c1 (Aus ((AuM (bs (Qb s))).take i)) ((8:Nat):Int) (i:Int) (AuM (bs (Qb s))))=some (Qe s):=by
  intro j;induction j with
  | zero=>
   intro i m hi;obtain rfl:i=8:=by omega
   have h3:=uQ hin;rw [List.take_of_length_le (by omega),V3];simp only [lW,mk];rw [PY (by rfl),Atd (by simp_all),Int.tdiv_eq_ediv_of_nonneg h3.1,Int.tmod_eq_emod_of_nonneg h3.1,Ar (by omega) (by omega)];rfl
  | succ j ih=>
   intro i m hi;have hlt:i<(AuM (bs (Qb s))).length:=by omega
   have hw:AU ((i:Int)+1)=((i+1:Nat):Int):=by grind [Ar]
   have h3:=uQ (a:=(AuM (bs (Qb s))).take i) (fun d hd=>hin d (List.mem_of_mem_take hd));have h4:=hin _ (List.getElem_mem hlt);have hl:((AuM (bs (Qb s))).take i).length<=8:=by grind
   have hm:Aus ((AuM (bs (Qb s))).take i)+(15 - (AuM (bs (Qb s)))[i])=Aus ((AuM (bs (Qb s))).take (i+1)):=by rw [take_at hlt,QBI,Aus,Aus];omega
   rw [ArJ m j,V3];grind [lW,BU,Ar]
 have Cz:∀ (j i m:Nat),i+j=4->V3 (m+9+j+1) (.c0 0 (Qb s) (i:Int) (AuM ((bs (Qb s)).take i)))=some (Qe s):=by
  intro j;induction j with
  | zero=>
   intro i m hi;obtain rfl:i=4:=by omega
   rw [V3];simp only [lW,mk];rw [PY (by rfl),List.take_of_length_le (by grind [bs_len]),hln];exact Cy 8 0 m rfl
  | succ j ih=>
   intro i m hi;have hlt:i<(Qb s).size:=by omega
   have hlt2:i<(bs (Qb s)).length:=by grind [bs_len]
   have hw:AU ((i:Int)+1)=((i+1:Nat):Int):=by grind [Ar]
   have hb:=TD (Qb s) (i:Int);have hl:(AuM ((bs (Qb s)).take i)).length<=8:=by grind [uO]
   have hm:AuM ((bs (Qb s)).take i)++[bt (Qb s) (i:Int) / 16,bt (Qb s) (i:Int) % 16]=AuM ((bs (Qb s)).take (i+1)):=by rw [take_at hlt2,PBI,iZ hlt];rfl
   rw [show m+9+(j+1)+1=(m+9+j+1)+1 from rfl,V3];simp only [lW,mk,hw,QBi hb,RBi hb];rw [Atd (by grind),Atd (by grind),Atd (by grind),Atd (by grind),hm];exact ih (i+1) m (by omega)
 obtain ⟨m,hm⟩:∃ m,AX=m+9+4+1:=⟨AX - 14,by rfl⟩
 rw [wS,IA1,wO hs,AO,hm];exact Cz 4 0 m rfl
def NG (keys:List AA) (leaf:Int) (ds:List Int) (n:Nat):List AA:=(List.range n).map fun c:Nat=>JH leaf (c:Int) (ds.getD c 0).toNat 0 (keys.getD c ⟨#[]⟩)
theorem TBi {x:AA} {leaf d:Int} {i:Nat} (hl:0<=leaf/\leaf<=255) (hi:i<10) (hx:x.size<=100000) (hd:0<=d/\d<=15):AvM x leaf (i:Int) 0 d=some (JH leaf (i:Int) d.toNat 0 x):=by
 obtain ⟨n,rfl⟩:∃ n:Nat,d=(n:Int):=⟨d.toNat,by omega⟩
 rw [BU];exact KBI (f:=0) (n:=n) hl (by omega) (by omega) (by omega) hx
theorem UBi {keys:List AA} {leaf:Int} {s:AA} (hk:keys.length=10) (hl:0<=leaf/\leaf<=255) (hs:∀ x ∈ keys,x.size<=100000) (hm:s.size<=1000000000):TAk keys leaf s=some (NG keys leaf (Qe s) 10):=by
 obtain ⟨d1,d2⟩:=RBI s
 have hdig:=SBi hm;generalize Qe s=D at d1 d2 hdig;have key:∀ (j i m:Nat),i+j=10->lX (m+j+1) (.c0 leaf keys ((keys.length:Nat):Int) (i:Int) D (NG keys leaf D i))=some (NG keys leaf D 10):=by
  intro j;induction j with
  | zero=>
   grind [lX,SAk]
  | succ j ih=>
   intro i m hi;have hlt:i<keys.length:=by omega
   have hlt2:i<D.length:=by omega
   have hw:AU ((i:Int)+1)=((i+1:Nat):Int):=by grind [Ar]
   have hd:=d2 _ (List.getElem_mem hlt2);have ho:(NG keys leaf D i).length=i:=by simp [NG]
   have hstep:NG keys leaf D i++[JH leaf (i:Int) D[i].toNat 0 keys[i]]=NG keys leaf D (i+1):=by grind [NG,List.range_succ]
   have hch:=TBi hl (show i<10 by omega) (hs _ (List.getElem_mem hlt)) hd;grind [lX,SAk,BU]
 obtain ⟨m,hm2⟩:∃ m,AX=m+10+1:=⟨AX - 11,by rfl⟩
 rw [TAk,JA1,mk,PY (by simp_all),hdig,AO,hm2];exact key 10 0 m rfl
def iq (a b c d:AA) (leaf:Int):List AA:=
 if leaf=0 then [b,AsA 1 1 c d] else if leaf=1 then [a,AsA 1 1 c d] else if leaf=2 then [d,AsA 1 0 a b] else [c,AsA 1 0 a b]
theorem EAo {a b c d:AA} {m:Nat} {leaf A1 up:Int} (ha:a.size<=100000) (hb:b.size<=100000) (hc:c.size<=100000) (hd:d.size<=100000) (hs:AU (((BitVec.toNat ((BitVec.ofInt (IntKind.bits IntKind.i64) leaf) ^^^ (BitVec.ofInt (IntKind.bits IntKind.i64) 1))):Nat):Int)=A1) (h0:0<=A1/\A1<4) (hu:AU (leaf.tdiv 2)=up) :
  YL (m+1) (.c0 [a,b,c,d] leaf 1 [])=YL m (.c1 up 2 [AsA 1 0 a b,AsA 1 1 c d] [[a,b,c,d].getD A1.toNat ⟨#[]⟩]):=by
 simp_all [YL,UAk,mk,MBI,Ar]
theorem FAo {a b x:AA} {m:Nat} {leaf A1:Int} (ha:a.size<=100000) (hb:b.size<=100000) (hs:AU (((BitVec.toNat ((BitVec.ofInt (IntKind.bits IntKind.i64) leaf) ^^^ (BitVec.ofInt (IntKind.bits IntKind.i64) 1))):Nat):Int)=A1) (h0:0<=A1/\A1<2) :
  YL (m+1+1) (.c1 leaf 2 [a,b] [x])=some [x,[a,b].getD A1.toNat ⟨#[]⟩]:=by
 simp_all [YL,UAk,mk,NBI]
theorem VBi {a b c d:AA} {leaf:Int} (hl:0<=leaf/\leaf<=3) (ha:a.size<=100000) (hb:b.size<=100000) (hc:c.size<=100000) (hd:d.size<=100000):VAk [a,b,c,d] leaf=some (iq a b c d leaf):=by
 obtain ⟨m,hm⟩:∃ m,AX=m+1+1+1:=⟨AX - 3,rfl⟩
 have n1:=AuC 1 0 a b;have n2:=AuC 1 1 c d;rw [VAk,KA1,mk,PY (by rfl),JJ,AO,DU.2 hl,DZ,Aw,hm];have h4:leaf=0\/leaf=1\/leaf=2\/leaf=3:=by omega
 rcases h4 with rfl | rfl | rfl | rfl
 ·rw [EAo (A1:=1) (up:=0) ha hb hc hd (by decide) (by omega) (by decide),FAo (A1:=1) (by omega) (by omega) (by decide) (by omega)];rfl
 ·rw [EAo (A1:=0) (up:=0) ha hb hc hd (by decide) (by omega) (by decide),FAo (A1:=1) (by omega) (by omega) (by decide) (by omega)];rfl
 ·rw [EAo (A1:=3) (up:=1) ha hb hc hd (by decide) (by omega) (by decide),FAo (A1:=0) (by omega) (by omega) (by decide) (by omega)];rfl
 ·rw [EAo (A1:=2) (up:=1) ha hb hc hd (by decide) (by omega) (by decide),FAo (A1:=0) (by omega) (by omega) (by decide) (by omega)];rfl
theorem WBi {a b c d:AA} {leaf:Int} (ha:a.size=4) (hb:b.size=4) (hc:c.size=4) (hd:d.size=4):(iq a b c d leaf).length=2/\∀ x ∈ iq a b c d leaf,x.size=4:=by grind [iq,AuC]
def iw (s:AA) (leaf:Int) (m:AA):Hu:=⟨leaf,NG (AsH s leaf 10) leaf (Qe m) 10,iq (Qs s 0) (Qs s 1) (Qs s 2) (Qs s 3) leaf⟩
theorem SBI {s m:AA} {leaf:Int} (hl:0<=leaf/\leaf<=3) (hs:s.size<=100000) (hm:m.size<=1000000000):lY s leaf m=some (iw s leaf m,true):=by rw [lY,LA1,mk,JJ,AO,DU.2 hl,DZ,Aw,JBI (by omega) hs,AO,UBi (uI _ _ _) (by omega) (fun x hx=>by grind [uJ]) hm,AO,LBI hs,AO,BAo,VBi hl (by simp [Sl]) (by simp [Sl]) (by simp [Sl]) (by simp [Sl])];rfl
structure Uc (s:Hu):Prop where
 leaf:0<=s.GU/\s.GU<=3
 once:s.FK.length=10/\∀ x ∈ s.FK,x.size=4
 path:s.F8.length=2/\∀ x ∈ s.F8,x.size=4
theorem XBi {keys:List AA} {leaf:Int} {ds:List Int} {n:Nat} (hk:keys.length=n) (h:∀ x ∈ keys,x.size=4):(NG keys leaf ds n).length=n/\∀ x ∈ NG keys leaf ds n,x.size=4:=by grind [NG,KBi]
theorem GAo {s m:AA} {leaf:Int} (hl:0<=leaf/\leaf<=3):Uc (iw s leaf m):=⟨hl,XBi (uI _ _ _) uJ,WBi (Sl _ _) (Sl _ _) (Sl _ _) (Sl _ _)⟩
theorem TBI {l:List AA} {n:Nat} (h:l.length=n) (hs:∀ x ∈ l,x.size=4) (hn:n<=1000):XAk l (n:Int)=some true:=by
 have key:∀ (j i m:Nat),i+j=l.length->wU (m+j+1) (.c0 l (n:Int) l ((l.length:Nat):Int) (i:Int))=some true:=by intro j;induction j<;>grind [wU,OA1,Ar]
 obtain ⟨m,hm⟩:=gm (n:=l.length) (by omega)
 rw [XAk,NA1,mk,hm];exact key l.length 0 m (Nat.zero_add _)
theorem YBi {s:Hu} (h:Uc s):wV s=some true:=by rw [wV,PA1,mk,JJ,AO,DU.2 h.leaf,A8];have h1:=TBI h.once.1 h.once.2 (by omega);have h2:=TBI h.path.1 h.path.2 (by omega);simp_all
def Vo (s:Hu):AA:=b1 s.GU++Ld s.FK++Ld s.F8
theorem HAo {s:Hu} (h:Uc s):(Vo s).size=49:=by rw [Vo,ByteArray.size_append,ByteArray.size_append,Aub,Aq8 h.once.2,Aq8 h.path.2,h.once.1,h.path.1]
theorem UBI {s:Hu} (h:Uc s):YAk s=some (Vo s,true):=by
 obtain ⟨l1,s1⟩:=h.once
 obtain ⟨l2,s2⟩:=h.path
 have pre:∀ {l:List AA} {i:Nat} (hlt:i<l.length),Ld (l.take i)++l[i]=Ld (l.take (i+1)):=fun {l i} hlt=>by grind [take_at,YAn,Ld,iU]
 have CF:∀ {l:List AA} (i:Nat),(∀ x ∈ l,x.size=4)->l.length<=10->(Ld (l.take i)).size<=40:=fun {l} i hs hl=>by rw [Aq8 (fun x hx=>hs x (List.mem_of_mem_take hx)),List.length_take];omega
 have hO:=Aq8 s1;have Cy:∀ (j i m:Nat),i+j=s.F8.length->V4 (m+j+1) (.c1 (b1 s.GU++Ld s.FK++Ld (s.F8.take i)) s.F8 ((s.F8.length:Nat):Int) (i:Int))=some (Vo s,true):=by
  intro j;induction j with
  | zero=>
   intro i m hi;rw [V4];simp only [lZ,mk];rw [PY (by simp_all),List.take_of_length_le (by omega)];rfl
  | succ j ih=>
   intro i m hi;have hlt:i<s.F8.length:=by omega
   have hw:AU ((i:Int)+1)=((i+1:Nat):Int):=by grind [Ar]
   have hz:=CF i s2 (by omega);rw [ArJ m j,V4];simp only [lZ,mk,hw,BU,getD_at hlt];rw [Atd (by grind),Atd (by grind),Atd (by grind [Aub]),uZ (b1 s.GU++Ld s.FK),pre hlt];exact ih (i+1) m (by omega)
 have Cz:∀ (j i m:Nat),i+j=s.FK.length->V4 (m+3+j+1) (.c0 (b1 s.GU++Ld (s.FK.take i)) s.FK ((s.FK.length:Nat):Int) (i:Int) s)=some (Vo s,true):=by
  intro j;induction j with
  | zero=>
   intro i m hi;rw [V4];simp only [lZ,mk];rw [PY (by simp_all),List.take_of_length_le (by omega)];have h0:=Cy s.F8.length 0 m (Nat.zero_add _);simp_all [Ld,iU]
  | succ j ih=>
   intro i m hi;have hlt:i<s.FK.length:=by omega
   have hw:AU ((i:Int)+1)=((i+1:Nat):Int):=by grind [Ar]
   have hz:=CF i s1 (by omega);rw [show m+3+(j+1)+1=(m+3+j+1)+1 from rfl,V4];simp only [lZ,mk,hw,BU,getD_at hlt];rw [Atd (by grind),Atd (by grind),Atd (by grind [Aub]),uZ (b1 s.GU),pre hlt];exact ih (i+1) m (by omega)
 obtain ⟨m,hm⟩:∃ m,AX=m+3+s.FK.length+1:=⟨AX - (3+s.FK.length+1),by have:=FP (n:=3+s.FK.length+1) (by omega);omega⟩
 rw [YAk,QA1,mk,YBi h,AO,DZ,Aw,As5 h.leaf.1 (by have:=h.leaf.2;omega),AO,hm];have h0:=Cz s.FK.length 0 m (Nat.zero_add _);assumption
def iy:AA:=⟨#[108]⟩
def Zn:AA:=⟨#[116]⟩
def Qh (s:AA) (i:Int):AA:=s++b1 (i / 4)++iy
def Qg (s:AA) (i:Int) (m:AA):MS:=⟨iw (s++Zn) (i / 4) (Aut (Qh s i)),Aut (Qh s i),iw (Qh s i) (i % 4) m⟩
theorem ZBi {s m:AA} {i:Int} (hi:0<=i/\i<=15) (hs:s.size<=90000) (hm:m.size<=1000000000):WAk s i m=some (Qg s i m,true):=by
 have hL:iy.size=1:=rfl;have hT:Zn.size=1:=rfl;have hlow:(Qh s i).size=s.size+2:=by simp_all [Qh,Aub]
 have e1:AU (i.tdiv 4)=i / 4:=by grind [Ar]
 have e2:i.tmod 4=i % 4:=Int.tmod_eq_emod_of_nonneg hi.1;rw [WAk,MA1,mk,JJ,AO,DU.2 hi,DZ,Aw,e1,e2,As5 (by omega) (by omega),AO];show (bif decide (s.size+(b1 (i / 4)).size<=_) then _ else _)=_;rw [Atd (by grind [Aub])];show (bif decide ((s++b1 (i / 4)).size+iy.size<=_) then (lV (Qh s i)).bind (fun r2=>(lY (Qh s i) (i % 4) m).bind fun r3=>bif decide (s.size+Zn.size<=9223372036854775807) then (lY (s++Zn) (i / 4) r2).bind fun r4=>some ((⟨r4.1,r2,r3.1⟩:MS),true) else none) else none)=_;rw [Atd (by grind [Aub]),OBI (by omega),AO,SBI (by omega) (by omega) hm,AO,Atd (by grind),SBI (by omega) (by grind) (by simp [CAo])];rfl
def DA7 (h:MS):AA:=Vo h.PN++h.PI++Vo h.PO
theorem Aeu {s m:AA} {i:Int} (hi:0<=i/\i<=15):ZAk (Qg s i m)=some (DA7 (Qg s i m),true):=by have h1:Uc (Qg s i m).PN:=GAo (by omega);have h2:Uc (Qg s i m).PO:=GAo (by omega);have h3:(Qg s i m).PI.size=4:=CAo _;have z1:=HAo h1;have z2:=HAo h2;rw [ZAk,RA1,mk,UBI h1,AO,UBI h2,AO];dsimp only;rw [DZ,Aw,Aw,PY (by simp_all),Atd (by simp_all),Atd (by simp_all)];rfl
theorem EA7 {b:Aj} {t:Int} (h:b.BJ.length<=140737488351232):YM b t=some (atV b t):=by
 have key:∀ (j i m:Nat),i+j=b.BJ.length->lg (m+j+1) (.c0 t b.BJ (b.BJ.length:Int) (i:Int))=some (match IX (b.BJ.drop i) t i with | some j=>(j:Int) | none=> -1):=by
  intro j;induction j with
  | zero=>
   intro i m hi;rw [lg];simp only [IAk,mk];rw [PY (by simp_all),List.drop_of_length_le (by omega)];rfl
  | succ j ih=>
   intro i m hi;have hil:i<b.BJ.length:=by omega
   have hw:AU ((i:Int)+1)=((i+1:Nat):Int):=by grind [Ar]
   grind [lg,IAk,BU,drop_at,IX]
 obtain ⟨m,hm⟩:=gm (n:=b.BJ.length) (by omega)
 rw [YM,SA0,mk,hm];exact key b.BJ.length 0 m (Nat.zero_add _)
theorem VBI {b:Aj} {t:Int} (h:b.BJ.length<=140737488351232) (ht:b.AV.Ag.length<=140737488351232):aP b t=some (Qm b t):=by
 rw [aP,UA0,mk,Xi ht,AO,Qm];cases hx:AtT b.AV.Ag t with
 | none=>rfl
 | some x=>
  have hid:x.fId=t:=by have:=List.find?_some hx;simp_all
  simp only [EA7 h,bne,atV,Ar6,hid,AO];cases x.Aa == 2;·rfl
  ·cases hp:IX b.BJ t 0 with
   | none=>rfl
   | some j=>
    have hj:=(wW hp).2;grind
def Aqf:Ah:=⟨0,0,false,false,false,false,⟨#[]⟩,0⟩
def UR (x:Ah) (h f:Bool):Ah×Bool:=bif AuI x && ((h || !x.CY) && (f || !x.CZ)) then (⟨x.fId,x.Aa,h,f,x.GI,x.Fb,x.fValue,x.fNext⟩,true) else (Aqf,false)
def At9 (x:Ah) (d:Int):Bool:=AuI x && (bif d == 1 then !x.CY else bif d == 2 then !x.CZ && !(x.Aa == 2) else bif d == 3 then x.GI else bif d == 4 then x.Fb else d == 5)
theorem BBj (x:Ah) (d:Int):HAk x d=some (At9 x d):=by rw [HAk,RA0,mk,sW,AO,At9,bne];grind
def V5 (x:Ah):Aq:=⟨3,⟨#[]⟩,0,x⟩
def newX (b:Aj) (c:CJ) (x:Ah):Ah:=⟨b.AV.BR+1,x.Aa,x.CY || c.CY,x.CZ || c.CZ,x.GI,x.Fb,x.fValue,x.fNext⟩
def IAo (x:Ah):Ah:=⟨x.fId,x.Aa,x.CY,x.CZ,x.GI,x.Fb,x.fValue,ite (16<x.fNext+3) 16 (x.fNext+3)⟩
def Qd (l:List Int):List Int:=(Atn (l.length:Int)++l)++List.replicate ((16 - (Atn (l.length:Int)++l).length % 16) % 16) 0
theorem FA7 {l:List Int} (h:Gs l):Gs (Qd l):=by
 intro x hx;simp only [Qd,List.mem_append,List.mem_replicate] at hx;rcases hx with (hx | hx) | hx
 ·exact U0 (by omega) x hx
 ·exact h x hx
 ·omega
theorem GA7 {l:List Int} (h:l.length<=1000000000):(Qd l).length<=l.length+25/\(Qd l).length % 16=0:=by grind [Aq3,Qd]
def iM (k s:AA):AA×Bool:=bif decide ((s.size:Int) > 400) then (⟨#[]⟩,false) else JG k 0 (ofBytes (Qd (bs s)))
noncomputable def Qc (text:AA) (a:Nat):AA×Int×Bool:=
 bif !(Asv text a).2.2 || (decide ((Asv text a).1 > 20000) || decide ((Asv text a).1 > (text.size:Int) - (Asv text a).2.1)) then (⟨#[]⟩,0,false)
 else (text.extract (Asv text a).2.1.toNat ((Asv text a).2.1+(Asv text a).1).toNat,(Asv text a).2.1+(Asv text a).1,true)
noncomputable def Rj (k t:AA):AA×Bool:=
 bif !(AtU k 0 t).2 || (!(Qc (AtU k 0 t).1 0).2.2 || (decide (((Qc (AtU k 0 t).1 0).1.size:Int) > 400) || !(Qd (bs (Qc (AtU k 0 t).1 0).1) == bs (AtU k 0 t).1))) then (⟨#[]⟩,false)
 else ((Qc (AtU k 0 t).1 0).1,true)
def nrt (l h x:Nat):Nat:=Nat.add (Nat.div x l) (Nat.mul (Nat.mod x l) h)
def CBj (x:Nat):Nat:=Nat.xor (Nat.xor (nrt 64 67108864 x) (nrt 2048 2097152 x)) (nrt 33554432 128 x)
def nx (e f g h k w:Nat):Nat:=Nat.mod (Nat.add (Nat.add (Nat.add (Nat.add h (CBj e)) (Nat.xor (Nat.land e f) (Nat.land (Nat.sub 4294967295 e) g))) k) w) 4294967296
def lq:Nat->Nat->List Int
 | 0,_=>[]
 | k+1,n=>if n=0 then [] else lq k (n / 10)++[48+((n % 10:Nat):Int)]
def JAo (n:Nat):List Int:=if n=0 then [48] else lq 20 n
theorem DBj {n:Nat} (h:n<10000):iJ (n:Int)=some (ofBytes (JAo n)):=by
 have ob:∀ a b:List Int,ofBytes a++ofBytes b=ofBytes (a++b):=fun a b=>by apply ByteArray.ext;simp [ofBytes]
 have key:∀ (k:Nat) (n m:Nat) (l:List Int),n<10 ^ k->n<10000->l.length+k<=100->wX (m+k+1) (.c0 (n:Int) false (ofBytes l))=some (ofBytes (lq k n++l)):=by
  intro k;induction k with
  | zero=>
   intro n m l h0 _ _;obtain rfl:n=0:=by omega
   rfl
  | succ k ih=>
   intro n m l h0 h1 hl;rw [ArJ m k,wX];simp only [QAt,mk];by_cases hn:n=0;·subst hn;rfl
   ·have e1:(n:Int).tmod 10=((n % 10:Nat):Int):=by rfl
    have e2:(n:Int).tdiv 10=((n / 10:Nat):Int):=by rfl
    rw [Atd (by simp_all),e1,e2,PY (by rfl),IAg,OAt,mk,Atd (by grind),Ar (by omega) (by omega),MX (by omega) (by omega),AO,Atd (by grind [DK]),Ar (by omega) (by omega),ob];rw [ih (n / 10) m _ (Nat.div_lt_of_lt_mul (by omega)) (by omega) (by grind),lq,if_neg hn,List.append_assoc]
 rw [iJ,PAt,mk,JAo];by_cases hn:n=0;·subst hn;rfl
 ·rw [PY (by simp_all),if_neg hn,show decide ((n:Int)<0)=false from D5 (by omega)];obtain ⟨m,hm⟩:∃ m,AX=m+20+1:=⟨AX - 21,by rfl⟩
  rw [hm];have:=key 20 n m [] (by omega) h (Nat.le_of_ble_eq_true rfl);rw [List.append_nil] at this;exact this
theorem Oj {n:Nat} (h:n<18446744073709551616):wu64 (n:Int)=(n:Int):=by grind [IntKind.wrap,IntKind.signed,IntKind.bits]
theorem WBI (n:Nat):wu64 (n:Int)=((n % 18446744073709551616:Nat):Int):=by rfl
theorem wY {n:Nat} (h:n<18446744073709551616):(BitVec.ofInt (IntKind.bits IntKind.u64) (n:Int)).toNat=n:=by show (BitVec.ofInt 64 (n:Int)).toNat=n;simp_all
theorem Ata {a b:Nat} (ha:a<18446744073709551616) (hb:b<18446744073709551616):wu64 (((BitVec.toNat ((BitVec.ofInt (IntKind.bits IntKind.u64) (a:Int)) ^^^ (BitVec.ofInt (IntKind.bits IntKind.u64) (b:Int)))):Nat):Int)=((a ^^^ b:Nat):Int):=by rw [BitVec.toNat_xor,wY ha,wY hb,Oj (Nat.xor_lt_two_pow (n:=64) ha hb)]
theorem n64 {a b:Nat} (ha:a<18446744073709551616) (hb:b<18446744073709551616):wu64 (((BitVec.toNat ((BitVec.ofInt (IntKind.bits IntKind.u64) (a:Int)) &&& (BitVec.ofInt (IntKind.bits IntKind.u64) (b:Int)))):Nat):Int)=((a &&& b:Nat):Int):=by grind [wY,Oj,Nat.and_le_left]
theorem o64 {a b:Nat} (ha:a<18446744073709551616) (hb:b<18446744073709551616):wu64 (((BitVec.toNat ((BitVec.ofInt (IntKind.bits IntKind.u64) (a:Int)) ||| (BitVec.ofInt (IntKind.bits IntKind.u64) (b:Int)))):Nat):Int)=((a ||| b:Nat):Int):=by rw [BitVec.toNat_or,wY ha,wY hb,Oj (Nat.or_lt_two_pow (n:=64) ha hb)]
theorem m64:(ite ((IntKind.signed IntKind.u64)=true) (-(1:Int)) (IntKind.max IntKind.u64))=((18446744073709551615:Nat):Int):=by decide
theorem EBj {a:Nat} (h:a<18446744073709551616):18446744073709551615 ^^^ a=18446744073709551615 - a:=by
 have h1:(BitVec.allOnes 64 ^^^ BitVec.ofNat 64 a).toNat=(~~~ (BitVec.ofNat 64 a)).toNat:=by rfl
 simp_all [Nat.mod_eq_of_lt]
theorem FBj {a:Nat} (h:a<18446744073709551616):wu64 (18446744073709551615 - (a:Int))=((18446744073709551615 - a:Nat):Int):=by grind [Oj]
theorem xlt {a b:Nat} (ha:a<18446744073709551616) (hb:b<18446744073709551616):a ^^^ b<18446744073709551616:=Nat.xor_lt_two_pow (n:=64) ha hb
theorem nlt {a b:Nat} (ha:a<18446744073709551616):a &&& b<18446744073709551616:=Nat.lt_of_le_of_lt Nat.and_le_left ha
def Aty (n x:Nat):Nat:=(x*2 ^ n) % 18446744073709551616+x / 2 ^ (64 - n)
theorem YBI {n x:Nat} (hn:n<64):(x*2 ^ n) % 18446744073709551616=(x % 2 ^ (64 - n))*2 ^ n:=by
 have e:18446744073709551616=2 ^ (64 - n)*2 ^ n:=by rw [<-Nat.pow_add,show 64 - n+n=64 by omega]
 rw [e,Nat.mul_mod_mul_right]
theorem ZBI {n x:Nat} (hn:n<64) (h:x<18446744073709551616):x / 2 ^ (64 - n)<2 ^ n:=by rw [Nat.div_lt_iff_lt_mul (Nat.two_pow_pos _),<-Nat.pow_add,show n+(64 - n)=64 by omega];exact h
theorem jF {n x:Nat} (hn:n<64) (h:x<18446744073709551616):Aty n x<18446744073709551616:=by
 have h1:=ZBI hn h;have h2:x % 2 ^ (64 - n)<2 ^ (64 - n):=Nat.mod_lt _ (Nat.two_pow_pos _);have e:2 ^ (64 - n)*2 ^ n=18446744073709551616:=by rw [<-Nat.pow_add,show 64 - n+n=64 by omega]
 rw [Aty,YBI hn];have h3:(x % 2 ^ (64 - n)+1)*2 ^ n<=2 ^ (64 - n)*2 ^ n:=Nat.mul_le_mul_right _ h2;grind
theorem GBj {n x:Nat} (hn:n<64) (h:x<18446744073709551616):((x*2 ^ n) % 18446744073709551616) ||| (x / 2 ^ (64 - n))=Aty n x:=by rw [Aty,YBI hn];have:=Nat.shiftLeft_add_eq_or_of_lt (ZBI hn h) (x % 2 ^ (64 - n));simp_all [Nat.shiftLeft_eq]
theorem ATZ {x:Nat} (h:x<18446744073709551616):Aty 0 x=x:=by simp_all [Aty,Nat.div_eq_of_lt]
def ArR {A:Type} (f:Nat->A->A):Nat->Nat->A->A
 | 0,_,a=>a
 | j+1,i,a=>ArR f j (i+1) (f i a)
theorem FC {S A R:Type} {Hj:Nat->S->Option R} {st:Nat->A->S} {f:Nat->A->A} {P:Nat->A->Prop} {n:Nat} (K:Nat) (step:∀ m i a,i<n->P i a->Hj (m+K) (st i a)=Hj m (st (i+1) (f i a))/\P (i+1) (f i a)):∀ j i m a,i+j=n->P i a->Hj (m+j*K) (st i a)=Hj m (st n (ArR f j i a))/\P n (ArR f j i a):=by
 intro j;induction j with
 | zero=>(intro i m a h hp;rw [Nat.zero_mul];have:i=n:=by omega);subst this;exact ⟨rfl,hp⟩
 | succ j ih=>
  intro i m a h hp;obtain ⟨h1,h2⟩:=step (m+j*K) i a (by omega) hp
  obtain ⟨h3,h4⟩:=ih (i+1) m (f i a) (by omega) h2
  exact ⟨by rw [Nat.succ_mul,<-Nat.add_assoc,h1,h3];rfl,h4⟩
def up (l:List Nat):List Int:=l.map fun (n:Nat)=>(n:Int)
theorem Ua (l:List Nat):(up l).length=l.length:=by simp [up]
theorem Ars (l:List Nat) (i:Nat):(up l).getD i 0=((l.getD i 0:Nat):Int):=by grind [up]
theorem JF (l:List Nat) (i n:Nat):(up l).set i (n:Int)=up (l.set i n):=by simp [up]
def L8 (l:List Nat):Prop:=∀ x ∈ l,x<18446744073709551616
theorem L8.get {l:List Nat} (h:L8 l) (i:Nat):l.getD i 0<18446744073709551616:=by
 rw [List.getD_eq_getElem?_getD];cases hx:l[i]? with
 | none=>decide
 | some x=>exact h x (List.mem_of_getElem? hx)
theorem L8.set {l:List Nat} (h:L8 l) (i:Nat) {n:Nat} (hn:n<18446744073709551616):L8 (l.set i n):=fun x hx=>by
 rcases List.mem_or_eq_of_mem_set hx with h1 | rfl
 ·exact h x h1
 omega
theorem Auw {l:List Nat} {i:Nat} (h:i<l.length):(decide (0<=(i:Int)) && decide ((i:Int)<((up l).length:Int)))=true:=by simp_all [Ua]
theorem BBJ (n:Nat):L8 (List.replicate n 0):=fun x hx=>by grind
theorem UO (n:Nat):up (List.replicate n 0)=List.replicate n 0:=by simp [up]
def AuV (a:List Nat) (x:Nat):Nat:=(((a.getD x 0 ^^^ a.getD (x+5) 0) ^^^ a.getD (x+10) 0) ^^^ a.getD (x+15) 0) ^^^ a.getD (x+20) 0
def AH9 (a:List Nat) (x:Nat):Nat:=AuV a ((x+4) % 5) ^^^ Aty 1 (AuV a ((x+1) % 5))
def Rl (a:List Nat) (i:Nat):Nat:=a.getD i 0 ^^^ AH9 a (i % 5)
def Qj:List Nat:=[0,1,62,28,27,36,44,6,55,20,3,10,43,25,39,41,45,15,21,8,18,2,61,56,14]
def lu (v:Nat->Nat->Nat):List Nat:=(List.range 25).map fun p=>v (Qj.getD ((p % 5+3*(p / 5)) % 5+5*(p % 5)) 0) ((p % 5+3*(p / 5)) % 5+5*(p % 5))
def Us (b:List Nat) (i:Nat):Nat:=b.getD i 0 ^^^ ((18446744073709551615 - b.getD ((i % 5+1) % 5+5*(i / 5)) 0) &&& b.getD ((i % 5+2) % 5+5*(i / 5)) 0)
def Ats (a:List Nat):List Nat:=lu fun n q=>Aty n (Rl a q)
def jG (a:List Nat) (c:Nat):List Nat:=let o:=(List.range 25).map (Us (Ats a));o.set 0 (o.getD 0 0 ^^^ c)
def Ue:List Nat:=[1,32898,9223372036854808714,9223372039002292224,32907,2147483649,9223372039002292353,9223372036854808585,138,136,2147516425,2147483658,2147516555,9223372036854775947,9223372036854808713,9223372036854808579,9223372036854808578,9223372036854775936,32778,9223372039002259466,9223372039002292353,9223372036854808704,2147483649,9223372039002292232]
def uo (a:List Nat):List Nat:=ArR (fun i a=>jG a (Ue.getD i 0)) 24 0 a
def Pg (l:List Nat):Prop:=l.length=25/\L8 l
theorem Uf {a:List Nat} (h:L8 a) (x:Nat):AuV a x<18446744073709551616:=xlt (xlt (xlt (xlt (h.get _) (h.get _)) (h.get _)) (h.get _)) (h.get _)
theorem CBJ {a:List Nat} (h:L8 a) (x:Nat):AH9 a x<18446744073709551616:=xlt (Uf h _) (jF (by decide) (Uf h _))
theorem JA7 {a:List Nat} (h:L8 a) (x:Nat):Rl a x<18446744073709551616:=xlt (h.get _) (CBJ h _)
theorem DBJ (q:Nat):Qj.getD q 0<64:=by
 rw [List.getD_eq_getElem?_getD];cases hx:Qj[q]? with
 | none=>decide
 | some x=>
  have h:∀ x ∈ Qj,x<64:=by decide
  exact h x (List.mem_of_getElem? hx)
theorem uw (i:Nat):Ue.getD i 0<18446744073709551616:=by
 rw [List.getD_eq_getElem?_getD];cases hx:Ue[i]? with
 | none=>decide
 | some x=>
  have h:∀ x ∈ Ue,x<18446744073709551616:=by decide
  exact h x (List.mem_of_getElem? hx)
theorem KAo {a:List Nat} (h:L8 a):Pg (Ats a):=by refine ⟨by rfl,fun x hx=>?_⟩;grind [Ats,lu,jF,DBJ,JA7]
theorem HBj {b:List Nat} (h:L8 b) (i:Nat):Us b i<18446744073709551616:=xlt (h.get _) (nlt (by omega))
theorem KA7 {b:List Nat} (h:L8 b):Pg ((List.range 25).map (Us b)):=by refine ⟨by rfl,fun x hx=>?_⟩;grind [HBj]
theorem LA7 {a:List Nat} (h:L8 a) {c:Nat} (hc:c<18446744073709551616):Pg (jG a c):=by have h1:=KA7 (KAo h).2;refine ⟨by rfl,h1.2.set 0 (xlt (h1.2.get _) hc)⟩
theorem MA7 {a:List Nat} (h:Pg a):Pg (uo a):=by
 have:∀ j i a,Pg a->Pg (ArR (fun i a=>jG a (Ue.getD i 0)) j i a):=by
  intro j;induction j with
  | zero=>intro i a h;exact h
  | succ j ih=>intro i a h;exact ih _ _ (LA7 h.2 (uw i))
 exact this 24 0 a h
theorem um {f:Nat->Nat} {n i:Nat} (h:i<n):((List.range n).map f).getD i 0=f i:=by simp_all
theorem IBj (v:Nat->Nat):ArR (fun x o=>o.set x (v x)) 5 0 [0,0,0,0,0]=(List.range 5).map v:=by rfl
theorem JBj (v:Nat->Nat):ArR (fun x o=>ArR (fun y o=>o.set (x+5*y) (v (x+5*y))) 5 0 o) 5 0 (List.replicate 25 0)=(List.range 25).map v:=by kernel_rfl
theorem KBj (v:Nat->Nat):ArR (fun y o=>ArR (fun x o=>o.set (x+5*y) (v (x+5*y))) 5 0 o) 5 0 (List.replicate 25 0)=(List.range 25).map v:=by kernel_rfl
theorem LBj (v:Nat->Nat->Nat):ArR (fun x o=>ArR (fun y o=>o.set (y+5*((2*x+3*y) % 5)) (v (Qj.getD (x+5*y) 0) (x+5*y))) 5 0 o) 5 0 (List.replicate 25 0)=lu v:=by kernel_rfl
theorem MBj (v:Nat->Nat->Nat):(ArR (fun t (s:Nat×Nat×List Nat)=>(s.2.1,(2*s.1+3*s.2.1) % 5,s.2.2.set (s.2.1+5*((2*s.1+3*s.2.1) % 5)) (v ((t+1)*(t+2) / 2 % 64) (s.1+5*s.2.1)))) 24 0 (1,0,[v 0 0,0,0,0,0,0,0,0,0,0,0,0,0,0,0,0,0,0,0,0,0,0,0,0,0])).2.2=lu v:=by kernel_rfl
theorem wn {n:Nat} (h:n<9223372036854775807):AU (n:Int)=(n:Int):=Ar (by omega) (by omega)
theorem NBj {a b:Int} {x y:Nat} (ha:a=(x:Int)) (hb:b=(y:Int)) (hx:x<18446744073709551616) (hy:y<18446744073709551616):wu64 (((BitVec.toNat ((BitVec.ofInt (IntKind.bits IntKind.u64) a) ^^^ (BitVec.ofInt (IntKind.bits IntKind.u64) b))):Nat):Int)=((x ^^^ y:Nat):Int):=by grind [Ata]
theorem EBJ {v:List Nat} {i n:Nat} (h:v.length=5):(v.set i n).length=5:=by simp_all
theorem Zq {v:List Nat} {i n:Nat} (h:v.length=25):(v.set i n).length=25:=by simp_all
theorem FBJ (v:Nat->Nat):∀ (t pre:List Nat),ArR (fun i o=>o.set i (v i)) t.length pre.length (pre++t)=pre++(List.range' pre.length t.length).map v
 | [],pre=>by rfl
 | x::t,pre=>by
  have e:(pre++x::t).set pre.length (v pre.length)=(pre++[v pre.length])++t:=by simp
  have ih:=FBJ v t (pre++[v pre.length]);rw [List.length_append,List.length_singleton] at ih;rw [List.length_cons,ArR,e,ih,List.range'_succ,List.map_cons,List.append_assoc];rfl
theorem sQ {v:Nat->Nat} {l:List Nat} {n:Nat} (h:l.length=n):ArR (fun i o=>o.set i (v i)) n 0 l=(List.range n).map v:=by have:=FBJ v l [];simp_all [List.range_eq_range']
def Lc (s:AA) (i:Nat):Nat:=if h:i<s.size then (s[i]'h).toNat else 0
theorem Qi (s:AA) (i:Nat):bt s (i:Int)=((Lc s i:Nat):Int):=by grind [bt,Lc]
theorem Vp (s:AA) (i:Nat):Lc s i<256:=by grind [Lc,UInt8.toNat_lt]
def Ws (g:Nat->Nat) (k:Nat):Nat:=ArR (fun j x=>x*256+g (8*k+(7 - j))) 8 0 0
theorem LAo (g:Nat->Nat) (k:Nat):Ws g k=g (8*k)+256*g (8*k+1)+65536*g (8*k+2)+16777216*g (8*k+3)+4294967296*g (8*k+4)+1099511627776*g (8*k+5)+281474976710656*g (8*k+6)+72057594037927936*g (8*k+7):=by have h:Ws g k=(((((((0*256+g (8*k+7))*256+g (8*k+6))*256+g (8*k+5))*256+g (8*k+4))*256+g (8*k+3))*256+g (8*k+2))*256+g (8*k+1))*256+g (8*k):=rfl;omega
theorem NA7 {g:Nat->Nat} (hg:∀ i,g i<256) (k:Nat):Ws g k<18446744073709551616:=by grind [LAo]
theorem OBj {x y b c:Nat} (hb:b<256) (hc:c<256):(x*256+b) ^^^ (y*256+c)=(x ^^^ y)*256+(b ^^^ c):=by
 have h1:((x*256+b) ^^^ (y*256+c)) % 2 ^ 8=b ^^^ c:=by rw [Nat.xor_mod_two_pow];grind
 have h2:((x*256+b) ^^^ (y*256+c)) / 2 ^ 8=x ^^^ y:=by rw [Nat.xor_div_two_pow];grind
 omega
theorem PBj {g h:Nat->Nat} (hg:∀ i,g i<256) (hh:∀ i,h i<256) (k:Nat):Ws (fun i=>g i ^^^ h i) k=Ws g k ^^^ Ws h k:=by
 have key:∀ j i x y,ArR (fun j x=>x*256+(g (8*k+(7 - j)) ^^^ h (8*k+(7 - j)))) j i (x ^^^ y)=ArR (fun j x=>x*256+g (8*k+(7 - j))) j i x ^^^ ArR (fun j x=>x*256+h (8*k+(7 - j))) j i y:=by intro j;induction j<;>grind [ArR,OBj]
 exact key 8 0 0 0
theorem OA7 {g h:Nat->Nat} {k:Nat} (e:∀ i,i<8->g (8*k+i)=h (8*k+i)):Ws g k=Ws h k:=by have e0:=e 0 (by omega);simp_all [LAo]
def U1 (a:List Nat) (p:Nat):Nat:=a.getD (p / 8) 0 / 2 ^ (8*(p % 8)) % 256
def Ot (a:List Nat):List Nat:=(List.range 200).map (U1 a)
theorem GBJ (a:List Nat) (p:Nat):U1 a p<256:=Nat.mod_lt _ (by decide)
theorem HBJ {a:List Nat} (ha:L8 a) (k:Nat):Ws (U1 a) k=a.getD k 0:=by
 have hk:=ha.get k;have d:∀ j,j<8->U1 a (8*k+j)=a.getD k 0 / 2 ^ (8*j) % 256:=fun j hj=>by grind [U1]
 have d0:=d 0 (by omega);grind [LAo]
def ArN (g:Nat->Nat) (n:Nat):List Nat:=(List.range n).map (Ws g)
theorem IBJ {g:Nat->Nat} (hg:∀ i,g i<256):Pg (ArN g 25):=by refine ⟨by rfl,fun x hx=>?_⟩;grind [ArN,NA7]
theorem QBj {g:Nat->Nat} (hg:∀ i,g i<256) (n:Nat):L8 (ArN g n):=fun x hx=>by grind [ArN,NA7]
theorem MAo {l:List Nat} (hl:∀ x ∈ l,x<256) {i:Nat} (hi:i<l.length):Lc (ofBytes (up l)) i=l.getD i 0:=by grind [ofBytes,up,DK,Lc,List.getElem_mem,ByteArray.getElem_eq_getElem_data,UInt8.toNat_ofNat']
theorem NAo {a b:List Nat} (ha:a.length=b.length) (h:∀ k,k<b.length->a.getD k 0=b.getD k 0):a=b:=by grind [List.ext_getElem]
theorem jK (v:Nat->Nat):∀ (j i:Nat) (o:List Nat),ArR (fun i o=>o++[v i]) j i o=o++(List.range' i j).map v
 | 0,i,o=>by simp [ArR]
 | j+1,i,o=>by rw [ArR,jK v j (i+1),List.range'_succ,List.map_cons,List.append_assoc];rfl
theorem ug (v:Nat->Nat) (n:Nat):ArR (fun i o=>o++[v i]) n 0 []=(List.range n).map v:=by simp [jK,List.range_eq_range']
def Zv (s:AA):AA:=ofBytes (up (Ot (uo (ArN (Lc s) 25))))
theorem RBj (a:List Nat):(Ot a).length=200:=by rfl
theorem JBJ (a:List Nat):∀ x ∈ Ot a,x<256:=fun x hx=>by grind [Ot,GBJ]
theorem KBJ (s:AA):(Zv s).size=200:=by rfl
def Atx (s:AA):List Nat:=s.data.toList.map fun b=>b.toNat
theorem Zu (s:AA):bytesOf s=up (Atx s):=by simp [bytesOf,up,Atx]
theorem SBj (s:AA):∀ x ∈ Atx s,x<256:=fun x hx=>by grind [Atx,UInt8.toNat_lt]
theorem Zt (s:AA):(Atx s).length=s.size:=by simp [Atx]
theorem TBj {l:List Nat} (h:∀ x ∈ l,x<256):Atx (ofBytes (up l))=l:=by
 simp only [Atx,ofBytes,up,List.map_map,List.toList_toArray];conv=>rhs;rw [<-List.map_id l]
 grind [List.map_congr_left,UInt8.toNat_ofNat']
def Asf (l:List Nat):List Nat:=l++(List.range' 0 ((168 - l.length % 168) % 168)).map fun _=>0
theorem PA7 (l:List Nat):(Asf l).length=l.length+(168 - l.length % 168) % 168:=by simp [Asf]
def Arf (s:AA) (f:Nat):List Nat:=let l:=Asf (Atx s++[f]);l.set (l.length - 1) (l.getD (l.length - 1) 0 ^^^ 128)
theorem QA7 {l:List Nat} (h:∀ x ∈ l,x<256):∀ x ∈ Asf l,x<256:=fun x hx=>by grind [Asf]
def B8 (l:List Nat):Prop:=∀ x ∈ l,x<256
theorem B8.get {l:List Nat} (h:B8 l) (i:Nat):l.getD i 0<256:=by
 rw [List.getD_eq_getElem?_getD];cases hx:l[i]? with
 | none=>decide
 | some x=>exact h x (List.mem_of_getElem? hx)
theorem B8.set {l:List Nat} (h:B8 l) (i:Nat) {n:Nat} (hn:n<256):B8 (l.set i n):=fun x hx=>by
 rcases List.mem_or_eq_of_mem_set hx with h1 | rfl
 ·exact h x h1
 omega
theorem RA7 {a b:Nat} (ha:a<256) (hb:b<256):a ^^^ b<256:=Nat.xor_lt_two_pow (n:=8) ha hb
theorem SA7 (s:AA) {f:Nat} (hf:f<256):B8 (Atx s++[f]):=fun x hx=>by
 rw [List.mem_append,List.mem_singleton] at hx;rcases hx with h1 | rfl
 ·exact SBj s x h1
 omega
theorem LBJ (s:AA) {f:Nat} (hf:f<256):B8 (Arf s f):=by have h:B8 (Asf (Atx s++[f])):=QA7 (SA7 s hf);exact h.set _ (RA7 (h.get _) (by decide))
theorem MBJ (s:AA) (f:Nat):∃ q,(Arf s f).length=168*q/\168*q<=s.size+168:=by have h:(Arf s f).length=(Asf (Atx s++[f])).length:=List.length_set;rw [PA7,List.length_append,List.length_singleton,Zt] at h;exact ⟨(s.size+1+(168 - (s.size+1) % 168) % 168) / 168,by omega,by omega⟩
def Zr (st:List Nat) (g:Nat->Nat):List Nat:=(List.range 25).map fun k=>if k<21 then st.getD k 0 ^^^ Ws g k else st.getD k 0
theorem NBJ {st:List Nat} (h:Pg st) {g:Nat->Nat} (hg:∀ i,g i<256):Pg (Zr st g):=by
 refine ⟨by rfl,fun x hx=>?_⟩;rw [Zr,List.mem_map] at hx;obtain ⟨k,_,rfl⟩:=hx
 split;·exact xlt (h.2.get _) (NA7 hg k)
 ·exact h.2.get _
def jM (b:List Nat) (p:Nat) (st:List Nat):List Nat:=uo (Zr st fun i=>b.getD (168*p+i) 0)
def jO (s:AA) (f:Nat):List Nat:=ArR (jM (Arf s f)) ((Arf s f).length / 168) 0 (List.replicate 25 0)
def jL (s:AA) (f:Nat):AA:=ofBytes (up (Ot (jO s f)))
theorem UBj (s:AA) (f:Nat):(jL s f).size=200:=by rfl
theorem TA7:Pg (List.replicate 25 0):=⟨List.length_replicate,BBJ 25⟩
theorem bv8 {n:Nat} (h:n<256):(BitVec.ofInt (IntKind.bits IntKind.u8) (n:Int)).toNat=n:=by show (BitVec.ofInt 8 (n:Int)).toNat=n;simp_all
theorem x8 {a b:Nat} (ha:a<256) (hb:b<256):w8 (((BitVec.toNat ((BitVec.ofInt (IntKind.bits IntKind.u8) (a:Int)) ^^^ (BitVec.ofInt (IntKind.bits IntKind.u8) (b:Int)))):Nat):Int)=((a ^^^ b:Nat):Int):=by grind [RA7,bv8,MX]
theorem OAo {A:Type} {f:Nat->A->A} {P:A->Prop} (h:∀ i a,P a->P (f i a)):∀ j i a,P a->P (ArR f j i a)
 | 0,_,_,hp=>hp
 | j+1,i,a,hp=>OAo h j (i+1) _ (h i a hp)
theorem UA7 {b:List Nat} (hb:B8 b) {p:Nat} {st:List Nat} (h:Pg st):Pg (jM b p st):=MA7 (NBJ h fun _=>hb.get _)
theorem getD_set_ne {l:List Nat} {i k n:Nat} (h:k≠i):(l.set i n).getD k 0=l.getD k 0:=by grind
theorem NI (l:List Nat) (n:Nat):up l++[(n:Int)]=up (l++[n]):=by simp [up]
def AvF (S:AA):Nat->AA
 | 0=>S
 | n+1=>Zv (AvF S n)
theorem Zx {S:AA} (h:S.size=200):∀ n,(AvF S n).size=200
 | 0=>h
 | _+1=>KBJ _
def strm (S:AA) (k:Nat):Nat:=Lc (AvF S (k / 168)) (k % 168)
theorem Zy (S:AA) (k:Nat):strm S k<256:=Vp _ _
def L9 (S:AA) (p:Nat) (x:FY):Prop:=∃ q a:Nat,x=⟨AvF S q,(a:Int)⟩/\168*q+a=p/\a<=168
def Ea (S:AA) (p n:Nat):List Nat:=(List.range' p n).map (strm S)
theorem VBj (S:AA) (p n:Nat):B8 (Ea S p n):=fun x hx=>by grind [Ea,Zy]
theorem PAo (S:AA) (p n:Nat):(Ea S p n).length=n:=by simp [Ea]
theorem PBJ (S:AA) (p a b:Nat):Ea S p a++Ea S (p+a) b=Ea S p (a+b):=by grind [Ea,List.range'_append_1]
theorem WBj (s:AA) (i:Nat):(Atx s).getD i 0=Lc s i:=by
 unfold Lc;split;·rename_i h;rw [getD_at (by simp_all [Zt])];simp only [Atx,List.getElem_map,Array.getElem_toList];rfl
 simp_all [Zt]
theorem XBj (s:AA):ofBytes (up (Atx s))=s:=by apply ByteArray.ext;grind [ofBytes,up,Atx,UInt8.ofNat_toNat]
theorem YBj (a b:List Nat):ofBytes (up a)++ofBytes (up b)=ofBytes (up (a++b)):=by apply ByteArray.ext;simp [ofBytes,up]
theorem chunk {S:AA} (hS:S.size=200) {q a k:Nat} (h:a+k<=168):Atx ((AvF S q).extract a (a+k))=Ea S (168*q+a) k:=by
 have hz:=Zx hS q;have hlen:(Atx ((AvF S q).extract a (a+k))).length=k:=by grind [Zt,ByteArray.size_extract]
 refine NAo (by grind [PAo]) fun i hi=>?_
 grind [WBj,Ea,List.length_map,strm,Lc,ByteArray.size_extract,ByteArray.getElem_extract]
def sd (s:AA):AA:=jL s 31
theorem QAo (s:AA):(sd s).size=200:=UBj _ _
theorem RAo (s:AA):L9 (sd s) 0 ⟨sd s,0⟩:=⟨0,0,rfl,rfl,by omega⟩
theorem and1 {n:Nat} (h:n<9223372036854775808):AU (((BitVec.toNat ((BitVec.ofInt (IntKind.bits IntKind.i64) (n:Int)) &&& (BitVec.ofInt (IntKind.bits IntKind.i64) 1))):Nat):Int)=((n % 2:Nat):Int):=by grind [IntKind.bits,wn]
def Aru (l:List Nat):Prop:=l.length=256/\∀ x ∈ l,x<3329
theorem Aru.get {l:List Nat} (h:Aru l) (i:Nat):l.getD i 0<3329:=by
 rw [List.getD_eq_getElem?_getD];cases hx:l[i]? with
 | none=>decide
 | some x=>exact h.2 x (List.mem_of_getElem? hx)
theorem Aru.set {l:List Nat} (h:Aru l) (i:Nat) {n:Nat} (hn:n<3329):Aru (l.set i n):=⟨by rw [List.length_set,h.1],fun x hx=>by
 rcases List.mem_or_eq_of_mem_set hx with h1 | rfl
 ·exact h.2 x h1
 omega⟩
theorem VA7 {f:Nat->Nat} (h:∀ i,f i<3329):Aru ((List.range 256).map f):=⟨by rw [List.length_map,List.length_range],fun x hx=>by
 grind⟩
def Xu (b:Nat):Nat:=(b % 2+b / 2 % 2+3329 - b / 4 % 2 - b / 8 % 2) % 3329
def QBJ (s:AA):List Nat:=(List.range 256).map fun i=>Xu (Lc s (i / 2) / 2 ^ (4*(i % 2)))
theorem ZBj (s:AA):Aru (QBJ s):=VA7 fun i=>Nat.mod_lt _ (by decide)
def Asx (n:Nat):AA:=ofBytes [(n:Int)]
def AtQ (seed:AA) (n:Nat):List Nat:=QBJ (ofBytes (up (Ea (sd (seed++Asx n)) 0 128)))
theorem gY (seed:AA) (n:Nat):Aru (AtQ seed n):=ZBj _
def Xv:Nat->Nat->Nat->Nat->Nat
 | 0,_,_,o=>o
 | k+1,b,e,o=>if e=0 then o else Xv k (b*b % 3329) (e / 2) (if e % 2=1 then o*b % 3329 else o)
def Xd (e:Nat):Nat:=Xv 10 17 e 1
theorem RBJ:∀ (k b e o:Nat),o<3329->Xv k b e o<3329
 | 0,_,_,_,h=>h
 | k+1,b,e,o,h=>by
  rw [Xv];split;·exact h
  ·refine RBJ k _ _ _ ?_;split;·exact Nat.mod_lt _ (by decide)
   ·exact h
theorem SAo (e:Nat):Xd e<3329:=RBJ _ _ _ _ (by decide)
theorem ZX {a b:Nat} (ha:a<3329) (hb:b<3329):(AU ((a:Int)*(b:Int))).tmod 3329=((a*b % 3329:Nat):Int):=by have h:a*b<3329*3329:=Nat.mul_lt_mul'' ha hb;rw [show (a:Int)*(b:Int)=((a*b:Nat):Int) from (Int.natCast_mul a b).symm,wn (by omega)];rfl
def t7 (n:Nat):Nat:=ArR (fun i o=>2*o+n / 2 ^ i % 2) 7 0 0
theorem TAo (n:Nat):t7 n<128:=by
 have h:∀ j i o,o<2 ^ i->ArR (fun i o=>2*o+n / 2 ^ i % 2) j i o<2 ^ (i+j):=by intro j;induction j<;>grind [ArR]
 exact h 7 0 0 (by decide)
def jW (z size j:Nat) (o:List Nat):List Nat:=(o.set (j+size) ((o.getD j 0+3329 - z*o.getD (j+size) 0 % 3329) % 3329)).set j ((o.getD j 0+z*o.getD (j+size) 0 % 3329) % 3329)
theorem WA7 {o:List Nat} (h:Aru o) (z size j:Nat):Aru (jW z size j o):=(h.set _ (Nat.mod_lt _ (by decide))).set _ (Nat.mod_lt _ (by decide))
def UAo (k0 size i:Nat) (o:List Nat):List Nat:=ArR (fun j o=>jW (Xd (t7 (k0+i))) size (2*size*i+j) o) size 0 o
def Uj (k0 size c:Nat) (o:List Nat):List Nat:=ArR (UAo k0 size) c 0 o
theorem XA7 {o:List Nat} (h:Aru o) (k0 size i:Nat):Aru (UAo k0 size i o):=OAo (P:=Aru) (fun _ _ h=>WA7 h _ _ _) _ _ _ h
theorem Au7 {o:List Nat} (h:Aru o) (k0 size c:Nat):Aru (Uj k0 size c o):=OAo (P:=Aru) (fun _ _ h=>XA7 h _ _ _) _ _ _ h
def jV (o:List Nat):List Nat:=Uj 64 2 64 (Uj 32 4 32 (Uj 16 8 16 (Uj 8 16 8 (Uj 4 32 4 (Uj 2 64 2 (Uj 1 128 1 o))))))
theorem AfD {o:List Nat} (h:Aru o):Aru (jV o):=Au7 (Au7 (Au7 (Au7 (Au7 (Au7 (Au7 h _ _ _) _ _ _) _ _ _) _ _ _) _ _ _) _ _ _) _ _ _
def N8 (a b:List Nat) (p:Nat):Nat:=if p % 2=0 then (a.getD p 0*b.getD p 0+a.getD (p+1) 0*b.getD (p+1) 0 % 3329*Xd (2*t7 (p / 2)+1)) % 3329 else (a.getD (p - 1) 0*b.getD p 0+a.getD p 0*b.getD (p - 1) 0) % 3329
def mulL (a b:List Nat):List Nat:=(List.range 256).map (N8 a b)
theorem BBk (a b:List Nat) (p:Nat):N8 a b p<3329:=by grind [N8]
theorem VAo (a b:List Nat):Aru (mulL a b):=VA7 fun _=>BBk _ _ _
theorem SBJ (a b:List Nat) (i:Nat):N8 a b (2*i)=(a.getD (2*i) 0*b.getD (2*i) 0+a.getD (2*i+1) 0*b.getD (2*i+1) 0 % 3329*Xd (2*t7 i+1)) % 3329:=by simp [N8]
theorem TBJ (a b:List Nat) (i:Nat):N8 a b (2*i+1)=(a.getD (2*i) 0*b.getD (2*i+1) 0+a.getD (2*i+1) 0*b.getD (2*i) 0) % 3329:=by simp [N8]
theorem UBJ (v:Nat->Nat):∀ (j i:Nat) (o:List Nat),ArR (fun i o=>(o.set (2*i) (v (2*i))).set (2*i+1) (v (2*i+1))) j i o=ArR (fun p o=>o.set p (v p)) (2*j) (2*i) o
 | 0,_,_=>rfl
 | j+1,i,o=>by rw [ArR,UBJ v j (i+1),show 2*(j+1)=2*j+1+1 by omega,ArR,ArR];rfl
theorem VBJ (v:Nat->Nat):∀ (j i:Nat) (o:List Nat),ArR (fun i o=>o++[v (2*i),v (2*i+1)]) j i o=ArR (fun p o=>o++[v p]) (2*j) (2*i) o
 | 0,_,_=>rfl
 | j+1,i,o=>by rw [ArR,VBJ v j (i+1),show 2*(j+1)=2*j+1+1 by omega,ArR,ArR,List.append_assoc];rfl
theorem Xc {a b:Nat} (ha:a<3329) (hb:b<3329):AU ((a:Int)*(b:Int))=((a*b:Nat):Int):=by have h:a*b<3329*3329:=Nat.mul_lt_mul'' ha hb;rw [show (a:Int)*(b:Int)=((a*b:Nat):Int) from (Int.natCast_mul _ _).symm,wn (by omega)]
theorem mul_lt {a b:Nat} (ha:a<3329) (hb:b<3329):a*b<11082241:=Nat.mul_lt_mul'' ha hb
def Za (a b:List Nat):List Nat:=(List.range 256).map fun i=>(a.getD i 0+b.getD i 0) % 3329
theorem WAo (a b:List Nat):Aru (Za a b):=VA7 fun _=>Nat.mod_lt _ (by decide)
def XAo (a0 a1 b0 b1:List Nat):List Nat:=Za (Za (List.replicate 256 0) (mulL a0 b0)) (mulL a1 b1)
theorem WBJ (a0 a1 b0 b1:List Nat):Aru (XAo a0 a1 b0 b1):=WAo _ _
theorem XBJ:Aru (List.replicate 256 0):=⟨List.length_replicate,fun x hx=>by grind⟩
def Asr (S:AA) (k:Nat):Nat:=strm S (3*k)+256*(strm S (3*k+1) % 16)
def AsC (S:AA) (k:Nat):Nat:=strm S (3*k+1) / 16+16*strm S (3*k+2)
def Qw (x:Nat) (o:List Nat):List Nat:=if x<3329/\o.length<256 then o++[x] else o
def Ar4 (S:AA) (k:Nat) (o:List Nat):List Nat:=Qw (AsC S k) (Qw (Asr S k) o)
def Xt (S:AA):Nat->Nat->List Nat->List Nat
 | 0,_,o=>o
 | j+1,k,o=>if o.length<256 then Xt S j (k+1) (Ar4 S k o) else o
def JI (o:List Nat):List Nat:=o++List.replicate (256 - o.length) 0
def UQ (o:List Nat):Prop:=o.length<=256/\∀ x ∈ o,x<3329
theorem YBJ {x:Nat} {o:List Nat} (h:UQ o):UQ (Qw x o):=by
 rw [Qw];split
 ·rename_i hc;refine ⟨by grind,fun y hy=>?_⟩;rw [List.mem_append,List.mem_singleton] at hy;rcases hy with h1 | rfl
  ·exact h.2 y h1
  omega
 omega
theorem Uh {S:AA} {k:Nat} {o:List Nat} (h:UQ o):UQ (Ar4 S k o):=YBJ (YBJ h)
theorem ZBJ (S:AA):∀ (j k:Nat) (o:List Nat),UQ o->UQ (Xt S j k o)
 | 0,_,_,h=>h
 | j+1,k,o,h=>by
  rw [Xt];split;·exact ZBJ S j (k+1) _ (Uh h)
  ·exact h
theorem CBk {o:List Nat} (h:UQ o):Aru (JI o):=⟨by rw [JI,List.length_append,List.length_replicate];have:=h.1;omega,fun x hx=>by
 rw [JI,List.mem_append] at hx;rcases hx with h1 | h1
 ·exact h.2 x h1
 grind⟩
theorem DBk {o:List Nat} {x:Nat} (h:o.length<256):(JI o).set o.length x=JI (o++[x]):=by rw [JI,JI,List.set_append_right _ _ (Nat.le_refl _),Nat.sub_self,show 256 - o.length=(256 - (o++[x]).length)+1 by grind,List.replicate_succ,List.append_assoc];rfl
def Hg (seed:AA) (i j:Nat):List Nat:=JI (Xt (sd ((seed++Asx i)++Asx j)) 4000 0 [])
theorem YAo (seed:AA) (i j:Nat):Aru (Hg seed i j):=CBk (ZBJ _ _ _ _ ⟨DF _,fun _ h=>by cases h⟩)
theorem Vq (S:AA) {p n i:Nat} (h:i<n):Lc (ofBytes (up (Ea S p n))) i=strm S (p+i):=by rw [MAo (VBj S p n) (by simp_all [PAo]),Ea,getD_at (by simp_all),List.getElem_map,List.getElem_range',Nat.one_mul]
def Auq (l:List Nat) (p:Nat):Nat:=if p % 3=0 then l.getD (2*(p / 3)) 0 % 256 else if p % 3=1 then l.getD (2*(p / 3)) 0 / 256+l.getD (2*(p / 3)+1) 0 % 16*16 else l.getD (2*(p / 3)+1) 0 / 16
def Ls (l:List Nat):AA:=ofBytes (up ((List.range 384).map (Auq l)))
theorem Rw (l:List Nat):(Ls l).size=384:=by rw [Ls,DK,Ua,List.length_map,List.length_range]
theorem ASl (l:List Nat) (q:Nat):Auq l (3*q)=l.getD (2*q) 0 % 256:=by simp [Auq]
theorem BBK (l:List Nat) (q:Nat):Auq l (3*q+1)=l.getD (2*q) 0 / 256+l.getD (2*q+1) 0 % 16*16:=by grind [Auq]
theorem CBK (l:List Nat) (q:Nat):Auq l (3*q+2)=l.getD (2*q+1) 0 / 16:=by grind [Auq]
theorem DBK (v:Nat->Nat):∀ (j i:Nat) (o:List Nat),ArR (fun i o=>o++[v (3*i)]++[v (3*i+1)]++[v (3*i+2)]) j i o=ArR (fun p o=>o++[v p]) (3*j) (3*i) o
 | 0,_,_=>rfl
 | j+1,i,o=>by rw [ArR,DBK v j (i+1),show 3*(j+1)=3*j+1+1+1 by omega,ArR,ArR,ArR];rfl
def JU (seed:AA):AA:=Auo (Auo seed++⟨#[114]⟩)
def JV (seed:AA):AA:=Auo (Auo seed++⟨#[115]⟩)
def pS (seed:AA) (i:Nat):List Nat:=jV (AtQ (JV seed) i)
theorem Xg (seed:AA) (i:Nat):Aru (pS seed i):=AfD (gY _ _)
def Ze (seed:AA) (i:Nat):List Nat:=XAo (Hg (JU seed) 0 i) (Hg (JU seed) 1 i) (pS seed 0) (pS seed 1)
def pT (seed:AA) (i:Nat):List Nat:=Za (Ze seed i) (pS seed (2+i))
theorem EBK (seed:AA) (i:Nat):Aru (pT seed i):=WAo _ _
def Uw (seed:AA):AA:=((⟨#[]⟩++Ls (pT seed 0))++Ls (pT seed 1))++JU seed
def Auv (seed:AA):AA:=(((⟨#[]⟩++Ls (pS seed 0))++Ls (pS seed 1))++Uw seed++Auo (Uw seed))++Auo (Auo seed++⟨#[122]⟩)
theorem FBK (seed:AA):(Uw seed).size=800:=by have h:(⟨#[]⟩:AA).size=0:=rfl;simp_all [Uw,Rw,JU,IQ]
noncomputable def sZ (x:Ah):AA:=bif AuI x then (bif x.Aa == 1 then Uw x.fValue else bif x.Aa == 2 then Aut (x.fValue++⟨#[116]⟩) else ⟨#[]⟩) else ⟨#[]⟩
theorem gu {x:Ah} (h:AuI x=true) (hk:x.Aa=1\/x.Aa=2):x.fValue.size=32:=by grind [AuI]
def UW (n:Int):AA:=ofBytes (JAo n.toNat)
theorem GBK:∀ (k n:Nat),(lq k n).length<=k
 | 0,_=>Nat.le_refl _
 | k+1,n=>by
  rw [lq];split;·exact DF _
  ·rw [List.length_append,List.length_singleton];have:=GBK k (n / 10);omega
theorem HBK (n:Int):(UW n).size<=20:=by grind [UW,DK,JAo,GBK]
noncomputable def ak (t:AA):Ah×Bool:=(ArX t).getD (YG,false)
theorem YA7 {t:AA} (h:t.size<=140737488351232):ArX t=some (ak t)/\Wj t=some (ak t)/\FAn t (ak t):=by grind [DBg,ak]
theorem ZA7 (k t:AA):(Rj k t).1.size<=400:=by
 unfold Rj;cases (AtU k 0 t).2;·exact DF _
 cases (Qc (AtU k 0 t).1 0).2.2;·exact DF _
 by_cases h3:((Qc (AtU k 0 t).1 0).1.size:Int) > 400;·rw [Bg h3];exact DF _
 ·rw [D5 h3];cases Qd (bs (Qc (AtU k 0 t).1 0).1) == bs (AtU k 0 t).1;·exact DF _
  grind
def AuA (b:Aj):AA:=Auo (⟨#[111,117,116]⟩++b.BN)
def IBK (x:Ah):Ah:=⟨0,x.Aa,x.CY,x.CZ,false,x.Fb,x.fValue,0⟩
def AMl (n:Int):Aq:=⟨4,⟨#[]⟩,n,⟨0,0,false,false,false,false,⟨#[]⟩,0⟩⟩
abbrev PT:=List Aq×Int×AA
def Xm (b:Aj) (c:CJ) (x:Ah) (ok:Bool):PT:=
 bif !ok then Aua 6 else bif decide ((b.AV.Ag.length:Int)>=8) then Aua 1 else bif decide (b.AV.BR>=1000) then Aua 1 else ([V5 (newX b c x)],0,UW (b.AV.BR+1))
def ZAo (b:Aj) (c:CJ):Ah×Bool:=defaults c.Aa (bif c.Aa == 2 then UW (b.AV.BR+1)++⟨#[32]⟩++c.fText else c.fText)
noncomputable def inX (b:Aj) (c:CJ):Ah×Bool:=ak (Rj (AuA b) c.fText).1
def BAp (b:Aj) (c:CJ):PT:=Xm b c (ZAo b c).1 (ZAo b c).2
noncomputable def tq (b:Aj) (c:CJ):PT:=Xm b c (IBK (inX b c).1) ((Rj (AuA b) c.fText).2 && (inX b c).2)
def jB (b:Aj) (c:CJ) (x:Ah):PT:=
 bif decide (Ar6 b x>=16) then Aua 1 else (bif Ar6 b x != x.fNext then [] else [V5 (IAo x)],0,DA7 (Qg x.fValue (Ar6 b x) c.fText))
noncomputable def Zf (tk:AA->AA×Bool) (b:Aj) (c:CJ) (x:Ah):PT:=
 bif c.Au == 6 then (bif At9 x 1 then ([],0,x.fValue) else Aua 8)
 else bif c.Au == 5 then (bif At9 x 3 then jB b c x else Aua 8)
 else bif c.Au == 10 then (bif At9 x 2 then ([],0,(iM (AuA b) (Hy x).1).1) else Aua 8)
 else bif c.Au == 12 then (bif At9 x 4 then (bif !(tk (Auv x.fValue)).2 then Aua 6 else ([],0,(tk (Auv x.fValue)).1)) else Aua 8)
 else bif c.Au == 8 then (bif (UR x c.CY c.CZ).2 then ([V5 (UR x c.CY c.CZ).1],0,⟨#[]⟩) else Aua 8)
 else bif c.Au == 7 then ([],0,sZ x)
 else bif c.Au == 9 then ([AMl x.fId],0,⟨#[]⟩) else Aua 8
noncomputable def F9 (tk:AA->AA×Bool) (b:Aj) (c:CJ):PT:=
 bif c.Au == 1 then (bif decide ((b.BI.length:Int)>=3) then Aua 1 else bif decide (b.CU>=1000) then Aua 1 else ([],0,UW (b.CU+1)))
 else bif decide (IU b c.Dz<0) then Aua 2
 else bif c.Au == 13 then ([],0,⟨#[]⟩)
 else bif c.Au == 2 then iI b c
 else bif !(b.BI.getD (IU b c.Dz).toNat ⟨0,false⟩).RS then Aua 5
 else bif c.Au == 3 then (bif decide ((c.fText.size:Int) > 20) then Aua 6 else ([Wi c.fText],0,⟨#[]⟩))
 else bif c.Au == 4 then BAp b c
 else bif c.Au == 11 then tq b c
 else match AtT b.AV.Ag c.BK with
  | none=>Aua 7
  | some x=>Zf tk b c x
structure PB (b:Aj):Prop where
 key:b.BN.size=32
 Ol:IW b.AV=true
 LM:b.BI.length<=3
 opn:0<=b.CU/\b.CU<=1000
 Lp:Vg b=true
 lln:b.BJ.length<=140737488351232
theorem PB.things {b:Aj} (h:PB b):b.AV.Ag.length<=8:=(Asq.1 h.Ol).2.2.2.1
theorem PB.last {b:Aj} (h:PB b):0<=b.AV.BR/\b.AV.BR<=1000:=(Asq.1 h.Ol).2.2.2.2.1
theorem Good.pb {k:AA} {l:List Aq} {b:Aj} (g:Good k l b):PB b:=⟨by rw [g.key,g.JC],g.Ol,g.LM.1,g.opn,g.Lp.1,by have:=g.Lp.2;omega⟩
theorem EBk {t:Int}:∀ {ls:List Cc} {i j:Nat},IX ls t i=some j->(ls.getD (j - i) ⟨0,0⟩).fId=t:=by
 intro ls;induction ls with
 | nil=>intro i j h;cases h
 | cons f fs ih=>
  intro i j h;rw [IX] at h;split at h;·simp_all
  ·have h2:=ih h;have h3:=(wW h).1;grind
theorem BA8 {b:Aj} {x:Ah} (h:Vg b=true) (hx:AtT b.AV.Ag x.fId=some x) (hn:0<=x.fNext):0<=Ar6 b x/\Ar6 b x<=x.fNext:=by
 rw [Ar6];cases hp:IX b.BJ x.fId 0 with
 | none=>simp_all
 | some j=>
  have h1:=wW hp;have h2:=EBk hp;have h3:=QBH h j h1.1 h1.2;simp_all [Ar8,DU]
theorem Vh {xs:List Ah} {t:Int} {x:Ah} (h:AtT xs t=some x):x.fId=t/\x ∈ xs:=by grind [AtT]
theorem CA8 {x:Ah} (h:At9 x 3=true):AuI x=true/\x.Aa=2/\x.GI=true:=by grind [At9,AuI]
theorem JBK {x:Ah} (h:At9 x 4=true):AuI x=true/\x.Aa=1:=by grind [At9,AuI]
theorem DA8 {b:Aj} (h:b.BN.size=32):au b=some (AuA b):=by have h3:(⟨#[111,117,116]⟩:AA).size=3:=rfl;rw [au,FAt,mk,Atd (by simp_all),ArI (by simp_all)];rfl
theorem EA8 {k s:AA} (hk:k.size<=900000000):ay k s=some (iM k s):=by
 rw [ay,IAt,mk,iM];by_cases h:400<s.size;·grind
 ·have h2:=GA7 (l:=bs s) (by grind [bs_len]);have hl:=bs_len s;have h1:=Aq3 (n:=(s.size:Int)) (by omega);have hz:(ofBytes (Atn (s.size:Int))++s).size=(Atn (s.size:Int)++bs s).length:=by simp_all [DK]
  have hlen:(Atn (s.size:Int)++bs s).length=(Atn (s.size:Int)).length+s.size:=by simp_all
  rw [PY (by grind),PY (by grind),U3 (by omega),AO,Atd (by grind),Atd (by grind)];rw [kX,ArL,At6 (U0 (by omega))];generalize hb:Atn (s.size:Int)++bs s=B at hz hlen;have key:∀ (j i m:Nat),i+j=(16 - B.length % 16) % 16->l7 (m+j+1) (.c0 k (B++List.replicate i 0))=some (JG k 0 (ofBytes (Qd (bs s)))):=by
   intro j;induction j with
   | zero=>
    grind [Qd,l7,HAg,MBF,DK]
   | succ j ih=>
    intro i m hi;have e:(B++List.replicate i (0:Int))++[0]=B++List.replicate (i+1) 0:=by simp [List.replicate_succ']
    grind [l7,HAg]
  obtain ⟨m,hm⟩:∃ m,AX=m+(16 - B.length % 16) % 16+1:=⟨AX - ((16 - B.length % 16) % 16+1),by have:=FP (n:=(16 - B.length % 16) % 16+1) (by omega);omega⟩
  have h0:=key ((16 - B.length % 16) % 16) 0 m (by omega);simp_all
def CAp (c:CJ):Bool:=(c.Au == 0) && ((c.Dz == 0) && ((c.BK == 0) && ((c.Aa == 0) && (((ByteArray.toList c.fText) == (ByteArray.toList (⟨#[]⟩:AA))) && ((c.CY == false) && ((c.CZ == false) && true))))))
theorem FBk (c:CJ):WAx c=some (CAp c):=rfl
def tC (e:EN):Bool:=decide ((e.QK.length:Int)<=30) && (AuR e.CP || (e.MV && CAp e.CP))
theorem GBk (e:EN):wZ e=some (tC e):=by simp only [wZ,XAx,mk,CBi,FBk,AO,tC];grind
theorem DAp {d:BO} (h:d.Ai.length*40<=140737488355328):YN d=some d:=by rw [YN,GA4,mk,Atd (by rw [decide_eq_true_eq];exact h)]
theorem HBk {b:Aj} (hd:b.Bd.Ai.length*40<=140737488355328) (hb:b.AV.Ag.length<=2932031007317) (hs:b.BI.length<=1000000) (hl:b.BJ.length<=1000000):l9 b=some b:=by rw [l9,HA4,mk,DAp hd,AO,UA6 hb,AO,Atd (by simp;omega),Atd (by simp;omega)]
structure Atg (b:Aj):Prop where
 d:b.Bd.Ai.length*40<=140737488355328
 t:b.AV.Ag.length<=2932031007317
 s:b.BI.length<=3
 l:b.BJ.length<=8
 o:0<=b.CU/\b.CU<=1000
theorem Good.gy {k:AA} {l:List Aq} {b:Aj} (g:Good k l b):Atg b:=⟨by have:=g.small.1;omega,by have:=g.aI;omega,g.LM.1,g.Lp.2,g.opn⟩
theorem Atg.copy {b:Aj} (h:Atg b):l9 b=some b:=HBk h.d h.t (by have:=h.s;omega) (by have:=h.l;omega)
theorem KBK {b:Aj} {c:CJ} {code leaf:Int} (h:Atg b) (hc:(code != 0)=true):LP b c code leaf=some b:=by rw [LP,bC,mk,h.copy,AO,hc];rfl
theorem IBk {b:Aj} {c:CJ} {leaf:Int} (h:Atg b) (ho:c.Au=1):LP b c 0 leaf=some ⟨b.BN,b.Bj,b.Bd,b.AV,b.BI++[⟨b.CU+1,false⟩],b.BJ,b.CU+1⟩:=by have h1:=h.s;have h2:=h.t;have h3:=h.o;rw [LP,bC,mk,h.copy,AO,PY (by rfl),su (by omega),AO,Xi (by omega),AO,Atd (by rw [ho];rfl),FT (by omega),Ar (by omega) (by omega)]
theorem JBk {b:Aj} {c:CJ} {leaf:Int} {j:Nat} (h:Atg b) (ho:c.Au=2) (hj:IU b c.Dz=(j:Int)) (hlt:j<b.BI.length):LP b c 0 leaf=some ⟨b.BN,b.Bj,b.Bd,b.AV,b.BI.set j ⟨(b.BI.getD j ⟨0,false⟩).fId,true⟩,b.BJ,b.CU⟩:=by have h1:=h.s;have h2:=h.t;rw [LP,bC,mk,h.copy,AO,PY (by rfl),su (by omega),AO,Xi (by omega),AO,PY (by rw [ho];rfl),PY (by rw [ho];rfl),Atd (by rw [ho];rfl),hj,FT (by omega),Ht (by omega),BU]
theorem KBk {b:Aj} {id n:Int} (h:b.BJ.length<=1000000):mD b id n=some ⟨b.BN,b.Bj,b.Bd,b.AV,b.BI,aU b.BJ id n,b.CU⟩:=by
 rw [mD,IA4,mk,EA7 (by omega),AO,atV,aU];cases hp:IX b.BJ id 0 with
 | some j=>
  have:=(wW hp).2;dsimp only;rw [FT (by omega),Ht (by omega),BU]
 | none=>
  dsimp only;rw [PY (by rfl)];have hle:=JBH id b.BJ;have key:∀ (j i m:Nat),i+j=Gq b.BJ id->mF (m+j+1) (.c0 id n (i:Int) b.BN b.Bj b.AV.Bv b.AV.DR b.AV.BR b.AV.Dp b.AV.fCount b.CU b.Bd.Ai b.AV.Ag b.BI b.BJ)=some ⟨b.BN,b.Bj,b.Bd,b.AV,b.BI,b.BJ.take (Gq b.BJ id)++[⟨id,n⟩]++b.BJ.drop (Gq b.BJ id),b.CU⟩:=by
   intro j;induction j with
   | zero=>
    intro i m hi;have hi:i=Gq b.BJ id:=by omega
    subst hi;have e1:(b.BJ.drop 0).take (Gq b.BJ id - 0)=b.BJ.take (Gq b.BJ id):=by rw [List.drop_zero,Nat.sub_zero]
    have e2:(b.BJ.drop (Gq b.BJ id)).take (b.BJ.length - Gq b.BJ id)=b.BJ.drop (Gq b.BJ id):=List.take_of_length_le (by rw [List.length_drop];omega);have l1:(b.BJ.take (Gq b.BJ id)).length<=1000000:=by rw [List.length_take];omega
    have l2:(b.BJ.drop (Gq b.BJ id)).length<=1000000:=by rw [List.length_drop];omega
    rw [mF];simp only [XAl,mk,BU,e1,e2];have c1:(decide ((0:Int)<=(Gq b.BJ id:Int)) && decide ((Gq b.BJ id:Int)<=(b.BJ.length:Int)))=true:=by rw [Bool.and_eq_true,decide_eq_true_eq,decide_eq_true_eq];omega
    have c2:decide ((b.BJ.take (Gq b.BJ id)).length*16<=140737488355328)=true:=by rw [decide_eq_true_eq];omega
    have c3:decide (((b.BJ.take (Gq b.BJ id)).length+1)*16<=140737488355328)=true:=by rw [decide_eq_true_eq];omega
    have c4:decide (((b.BJ.take (Gq b.BJ id)++[(⟨id,n⟩:Cc)]).length+(b.BJ.drop (Gq b.BJ id)).length)*16<=140737488355328)=true:=by rw [decide_eq_true_eq,List.length_append,List.length_singleton];omega
    rw [c1,c2,c3,c4];simp only [A8];by_cases hl:Gq b.BJ id<b.BJ.length;·have hn:=LBH hl;rw [FT (by omega),Ht (by omega),PY (D5 hn)]
    ·rw [KF (by omega)]
   | succ j ih=>
    intro i m hi;have hw:=Jh (i:=i) (by omega);have hn:=KBH (ls:=b.BJ) (id:=id) (i:=i) (by omega);rw [ArJ m j,mF];simp only [XAl,mk,BU,hw];rw [FT (by omega),Ht (by omega),Atd (Bg hn)];exact ih (i+1) m (by omega)
  obtain ⟨m,hm⟩:∃ m,AX=m+Gq b.BJ id+1:=⟨AX - (Gq b.BJ id+1),by have:=FP (n:=Gq b.BJ id+1) (by omega);omega⟩
  rw [hm];exact key _ 0 m (Nat.zero_add _)
theorem LBk {b:Aj} {c:CJ} {leaf:Int} {j:Nat} (h:Atg b) (ho:c.Au=13) (hj:IU b c.Dz=(j:Int)) (hlt:j<b.BI.length):LP b c 0 leaf=some ⟨b.BN,b.Bj,b.Bd,b.AV,b.BI.take j++b.BI.drop (j+1),b.BJ,b.CU⟩:=by have h1:=h.s;have h2:=h.t;have hw:=Jh (i:=j) (by omega);have e2:(b.BI.drop (j+1)).take (b.BI.length - (j+1))=b.BI.drop (j+1):=List.take_of_length_le (by rw [List.length_drop];omega);rw [LP,bC,mk,h.copy,AO,PY (by rfl),su (by omega),AO,Xi (by omega),AO,PY (by rw [ho];rfl),Atd (by rw [ho];rfl),hj,FT (by omega),Ht (by omega),hw,Ht (by omega),BU,BU,e2,Ht (by rw [List.length_drop];omega),Nat.sub_zero]
def delS (ls:List EC) (id:Int):List EC:=ls.filter fun s=>s.fId != id
def vV (ls:List EC) (id:Int):List EC:=ls.map fun s=>⟨s.fId,s.RS || s.fId == id⟩
def Ul (ls:List Cc) (id:Int):List Cc:=ls.filter fun v=>v.fId != id
def jr (b:Aj) (S:List EC):Aj:=⟨b.BN,b.Bj,b.Bd,b.AV,S,b.BJ,b.CU⟩
def Rt (b:Aj) (V:List Cc):Aj:=⟨b.BN,b.Bj,b.Bd,b.AV,b.BI,V,b.CU⟩
def Zg (b:Aj) (c:CJ) (leaf:Int):Aj:=match AtT b.AV.Ag c.BK with
 | some x=>bif x.Aa == 2 && (decide (leaf>=0) && decide (leaf<x.fNext)) then Rt b (AuH b.BJ x.fId (leaf+1)) else b
 | none=>b
def Rh (b:Aj) (c:CJ) (code leaf:Int):Aj:=
 bif code != 0 then b
 else bif c.Au == 1 then ⟨b.BN,b.Bj,b.Bd,b.AV,b.BI++[⟨b.CU+1,false⟩],b.BJ,b.CU+1⟩
 else bif c.Au == 13 then jr b (delS b.BI c.Dz)
 else bif c.Au == 2 then jr b (vV b.BI c.Dz)
 else bif c.Au == 5 then Zg b c leaf
 else bif c.Au == 9 then Rt b (Ul b.BJ c.BK)
 else b
theorem EAp (id:Int):∀ (ls:List EC) (i:Nat),AsY ls id i=(AsY ls id 0).map (· + i)
 | [],i=>rfl
 | v::vs,i=>by
  rw [AsY,AsY];split;·simp
  ·rw [EAp id vs (i+1),EAp id vs (0+1),Option.map_map];congr 1;funext j;show j+(i+1)=(j+(0+1))+i;omega
theorem LBK (id:Int):∀ {ls:List EC},AscS ls->(match AsY ls id 0 with | some j=>ls.take j++ls.drop (j+1) | none=>ls)=delS ls id
 | [],_=>rfl
 | s::ss,h=>by
  obtain ⟨hs,h2⟩:=List.pairwise_cons.1 h
  have ih:=LBK id h2;rw [delS] at ih ⊢;rw [AsY,List.filter_cons];by_cases e:s.fId=id;·rw [if_pos (beq_iff_eq.2 e),if_neg (by rw [bne_iff_ne];exact fun q=>q e),List.filter_eq_self.2 fun w hw=>by have:=hs w hw;rw [bne_iff_ne];omega];rfl
  ·rw [if_neg (by rw [beq_iff_eq];exact e),if_pos (bne_iff_ne.2 e),<-ih,EAp];cases AsY ss id 0 <;> rfl
theorem MBK (id:Int):∀ {ls:List EC},AscS ls->(match AsY ls id 0 with | some j=>ls.set j ⟨(ls.getD j ⟨0,false⟩).fId,true⟩ | none=>ls)=vV ls id
 | [],_=>rfl
 | s::ss,h=>by
  obtain ⟨hs,h2⟩:=List.pairwise_cons.1 h
  have ih:=MBK id h2;rw [vV] at ih ⊢;rw [AsY,List.map_cons];by_cases e:s.fId=id
  ·have hr:ss.map (fun s=>(⟨s.fId,s.RS || s.fId == id⟩:EC))=ss:=by
    conv=>rhs;rw [<-List.map_id ss]
    refine List.map_congr_left fun w hw=>?_
    have:=hs w hw;rw [beq_eq_false_iff_ne.2 (by omega),Bool.or_false];rfl
   rw [if_pos (beq_iff_eq.2 e),hr,beq_iff_eq.2 e,Bool.or_true];rfl
  ·rw [if_neg (by rw [beq_iff_eq];exact e),<-ih,EAp,beq_eq_false_iff_ne.2 e,Bool.or_false];cases AsY ss id 0 <;> rfl
theorem NBK (id:Int):∀ {ls:List Cc},Ox ls->(match IX ls id 0 with | some j=>ls.take j++ls.drop (j+1) | none=>ls)=Ul ls id
 | [],_=>rfl
 | s::ss,h=>by
  obtain ⟨hs,h2⟩:=List.pairwise_cons.1 h
  have ih:=NBK id h2;rw [Ul] at ih ⊢;rw [IX,List.filter_cons];by_cases e:s.fId=id;·rw [if_pos (beq_iff_eq.2 e),if_neg (by rw [bne_iff_ne];exact fun q=>q e),List.filter_eq_self.2 fun w hw=>by have:=hs w hw;rw [bne_iff_ne];omega];rfl
  ·rw [if_neg (by rw [beq_iff_eq];exact e),if_pos (bne_iff_ne.2 e),<-ih,VAn];cases IX ss id 0 <;> rfl
noncomputable def OBK (b:Aj) (r:Aq):Bool×Aj:=
 bif !(Wp b.BN b.AV.fCount r).2 || (!(Ara b.AV r).2 || decide ((IY b.Bd (Wp b.BN b.AV.fCount r).1 0).2<((Wp b.BN b.AV.fCount r).1.length:Int))) then (false,b)
 else (true,⟨b.BN,b.Bj,(IY b.Bd (Wp b.BN b.AV.fCount r).1 0).1,(Ara b.AV r).1,b.BI,b.BJ,b.CU⟩)
theorem PBK {x:Ah} (h:AuI x=true):(As2 (V5 x)).2=true:=by grind [As2,V5,Hy,As7]
noncomputable def Arz (k w:AA):Cm:=⟨(Pq k w).1,[],[],[],[Wi w]⟩
def QBK (l:Cm) (c:Int) (s:AA):Cm:=⟨l.Ad,l.Du++[c],l.GR++[s],l.Ey,l.Ez⟩
def AsN (F:AA) (n:Int) (zs:List Int):Int:=ite (n > (match zs with | []=>0 | z::_=>ite ((ite ((F.size:Int)<z) (F.size:Int) z) > 0) (ite ((F.size:Int)<z) (F.size:Int) z) 0)) n (match zs with | []=>0 | z::_=>ite ((ite ((F.size:Int)<z) (F.size:Int) z) > 0) (ite ((F.size:Int)<z) (F.size:Int) z) 0)
theorem MBk {F:AA} {n:Int} (zs:List Int) (h:0<=n/\n<=(F.size:Int)):n<=AsN F n zs/\AsN F n zs<=(F.size:Int):=by unfold AsN;grind
def Z9 (F:AA) (n:Int) (zs:List Int):BO:=dk (F.extract 0 (AsN F n zs).toNat) (AsN F n zs)
theorem RBK {d:BO} {n:AA} (h:d.Ai.length*40<=140737488351232) (hs:Sorted d.Ai):mG d n=some ⟨F5 d.Ai n⟩:=by
 have hp:=IBd (l:=d.Ai) (n:=n) (i:=0);rw [mG,KA4,mk,WAn (by omega),AO,<-HBd hs,AsZ];cases he:Arr d.Ai n 0 with
 | none=>
  rw [he] at hp;rw [hp];rfl
 | some j=>
  rw [he] at hp;have hj:=(Z8 he).2;have hw:=Jh (i:=j) (by omega);have hd:(d.Ai.drop (j+1)).take (d.Ai.length - (j+1))=d.Ai.drop (j+1):=List.take_of_length_le (by rw [List.length_drop];omega);simp only [hw,BU,Nat.sub_zero,List.drop_zero,hd];rw [Atd (by simp),Atd (by simp;omega),Atd (by simp [List.length_take];omega),Atd (by simp;omega),Atd (by simp [List.length_take,List.length_drop];omega)];simp only [Nat.sub_zero] at hp;rw [hp]
theorem SBK {d:BO} {f:BQ} (h:d.Ai.length*40<=140737488351232) (hs:Sorted d.Ai):AFJ d f=some ⟨Gu d.Ai f⟩:=by
 rw [AFJ,LA4,RBK h hs,AO,<-JBd hs];have hol:(F5 d.Ai f.fName).length<=d.Ai.length:=List.length_filter_le _ _;generalize hL:F5 d.Ai f.fName=l at hol ⊢;have key:∀ (j i m:Nat),i+j=l.length->mJ (m+j+1) (.c0 (i:Int) f l)=some ⟨l.take i++V6 (l.drop i) f⟩:=by
  intro j;induction j with
  | zero=>
   intro i m hi;have hd:(l.drop i).take (l.length - i)=l.drop i:=List.take_of_length_le (by rw [List.length_drop];omega);rw [mJ];simp only [ZAl,mk,BU,Nat.sub_zero,List.drop_zero,hd];rw [PY (by simp;omega),Atd (by simp;omega),Atd (by simp [List.length_take];omega),Atd (by simp [List.length_take];omega),Atd (by simp;omega),Atd (by simp [List.length_take,List.length_drop];omega)];rw [show l.drop i=[] from List.drop_of_length_le (by omega)];simp [V6]
  | succ j ih=>
   intro i m hi;have hil:i<l.length:=by omega
   have hw:=Jh (i:=i) (by omega);have hd:(l.drop i).take (l.length - i)=l.drop i:=List.take_of_length_le (by rw [List.length_drop];omega);rw [ArJ m j,mJ];simp only [ZAl,mk,BU,Nat.sub_zero,List.drop_zero,hd,hw,getD_at hil,ih (i+1) m (by omega)];rw [Atd (by simp;omega),Atd (by simp;omega),drop_at hil,V6];cases Op.bytesLess l[i].fName.toList f.fName.toList;·rw [Aw,Aw,<-drop_at hil,Atd (by simp;omega),Atd (by simp [List.length_take];omega),Atd (by simp [List.length_take];omega),Atd (by simp;omega),Atd (by simp [List.length_take,List.length_drop];omega)];simp
   ·rw [A8,A8,show l.take (i+1)=l.take i++[l[i]] by rw [List.take_add_one,List.getElem?_eq_getElem hil];rfl,List.append_assoc];rfl
 obtain ⟨m,hm⟩:=gm (n:=l.length) (by omega)
 rw [hm];have:=key l.length 0 m (Nat.zero_add _);simpa using this
theorem NBk {d:BO} {a:ET} (hd:d.Ai.length*40<=140737488351232) (ha:a.fText.size<=140737488351232):wo d a=some (ArV d a):=by
 have ho:=AVS d.Ai a.fName;rw [wo,MA4,mk,ArV];simp only [kM (d:=d) (by omega),WAn (d:=d) (n:=a.fName) (by omega),DAp (d:=d) (by omega),AO,bne];cases hdk:AvP d;·rfl
 obtain ⟨hl,hok⟩:=mM hdk
 have hs:=GBd hdk;have hpl:∀ (l:List BQ) (f:BQ),l.length<=30->(Gu l f).length<=31:=fun l f h=>by have:=VBF f.fName l;rw [Gu,List.length_append,List.length_append];simp only [List.length_cons,List.length_nil];omega
 simp only [RBK (d:=d) (n:=a.fName) hd hs,fun f=>SBK (d:=d) (f:=f) hd hs,fun f=>SBK (d:=⟨F5 d.Ai a.fName⟩) (f:=f) (show (F5 d.Ai a.fName).length*40<=_ by omega) (MBd hs),AO,
  fun f=>kM (d:=⟨Gu d.Ai f⟩) (show (Gu d.Ai f).length<=_ by have:=hpl d.Ai f hl;omega),fun f=>kM (d:=⟨Gu (F5 d.Ai a.fName) f⟩) (show (Gu (F5 d.Ai a.fName) f).length<=_ by have:=hpl (F5 d.Ai a.fName) f (by omega);omega),kM (d:=⟨F5 d.Ai a.fName⟩) (show (F5 d.Ai a.fName).length<=_ by omega)]
 have fin:∀ l:List BQ,(bif !AvP ⟨l⟩ then some ((⟨[]⟩:BO),false) else some (⟨l⟩,true))=some (doneD l):=fun l=>by rw [doneD];cases AvP ⟨l⟩ <;> rfl
 have ht:∀ f,Atl f=true->f.fText.size+a.fText.size<=9223372036854775807:=fun f hf=>by have:=(RAm.1 hf).2.1;omega
 simp only [fin,Bool.true_and,DZ,Aw];cases hp:Arr d.Ai a.fName 0 with
 | some j=>
  obtain ⟨hj,hfo,_,_⟩:=PA5 hdk hp
  simp only [show AsZ d a.fName=(j:Int) by rw [AsZ,hp],BU,show decide ((j:Int)>=0)=true from Bg (by omega),show decide ((j:Int)<0)=false from D5 (by omega),show decide ((j:Int)<(d.Ai.length:Int))=true from Bg (by omega),Bool.and_self,A8,Aw];generalize hf:d.Ai.getD j mO=f at hfo;have hf':d.Ai.getD j (⟨⟨#[]⟩,⟨#[]⟩,0⟩:BQ)=f:=hf;have hk:(f.Jp == (f.fText.size:Int)) = !decide (f.Jp<(f.fText.size:Int)):=by
   have:=(RAm.1 hfo).2.2;by_cases h:f.Jp=(f.fText.size:Int)
   ·rw [beq_iff_eq.2 h,D5 (by omega)];rfl
   ·rw [beq_eq_false_iff_ne.2 h,Bg (by omega)];rfl
  simp only [hf',Bg (ht f hfo),A8,mP,hk];cases a.Aa == 1 <;> cases a.Aa == 2 <;> cases a.Aa == 3 <;> cases a.Aa == 4 <;> cases a.Ij.toList == (⟨#[]⟩:AA).toList <;> cases a.fText.toList == (⟨#[]⟩:AA).toList <;> cases decide (f.Jp<(f.fText.size:Int)) <;> cases a.Ij.toList == a.fName.toList <;> rfl
 | none=>
  have hs:decide ((⟨#[]⟩:AA).size+a.fText.size<=9223372036854775807)=true:=Bg (by show 0+a.fText.size<=_;omega);simp only [show AsZ d a.fName = -1 by rw [AsZ,hp],show decide ((-1:Int)>=0)=false from rfl,show decide ((-1:Int)<0)=true from rfl,hs,A8,Aw];cases a.Aa == 1 <;> cases a.Aa == 2 <;> cases a.Aa == 3 <;> cases a.Aa == 4 <;> cases a.Ij.toList == (⟨#[]⟩:AA).toList <;> cases a.fText.toList == (⟨#[]⟩:AA).toList <;> rfl
theorem OBk {d:BO} {l:List ET} (hd:d.Ai.length*40<=140737488351232) (hl:l.length<=140737488351232) (ha:∀ a ∈ l,a.fText.size<=140737488351232):CAm d l=some (IY d l 0):=by
 have key:∀ (j i m:Nat) (out:List BQ),i+j=l.length->out.length*40<=140737488351232->mQ (m+j+1) (.c0 l l (l.length:Int) (i:Int) [] out)=some (IY ⟨out⟩ (l.drop i) (i:Int)):=by
  intro j;induction j with
  | zero=>
   intro i m out hi ho;rw [mQ];simp only [BAm,mk];rw [PY (by simp;omega),List.drop_of_length_le (by omega),IY,show (l.length:Int)=(i:Int) by omega]
  | succ j ih=>
   intro i m out hi ho;have hil:i<l.length:=by omega
   have hw:=Jh (i:=i) (by omega);rw [ArJ m j,mQ];simp only [BAm,mk,show decide ((i:Int)<(l.length:Int))=true from Bg (by omega),show decide ((0:Int)<=(i:Int))=true from Bg (by omega),Bool.and_self,A8,BU,hw,getD_at hil,NBk (d:=⟨out⟩) (a:=l[i]) ho (ha _ (List.getElem_mem hil)),AO];rw [drop_at hil,IY];cases hr:(ArV ⟨out⟩ l[i]).2;·rfl
   ·have h30:=(mM (CBG hr)).1;rw [DZ,Aw,A8,ih (i+1) m _ (by omega) (by omega)];rfl
 obtain ⟨m,hm⟩:=gm (n:=l.length) (by omega)
 rw [CAm,NA4,DAp (by omega),AO,hm];exact key l.length 0 m _ (Nat.zero_add _) hd
theorem PBk {b:Aj} (h:b.Bd.Ai.length*40<=140737488355328):kL b=some (Ro b):=by rw [kL,JA4,DAp h,AO,ALd];rfl
theorem TBK {k s:AA} {num:Int} (hk:k.size<=900000000) (hs:s.size<=800000000):wu k num s=some (JG k num s):=by
 rw [wu,TA1,mk,BBI hk,AO,Xn,JG];cases h:LK num s.size;·rfl
 ·have h':=iL.1 h;have hm:=Aq7 (bs k) (Atn num) ((s.size:Int).toNat);have hl:=bs_len s;rw [A8,A8,PY (by rfl),DBI (by omega) (by simp_all [DK]),AO,At6 (tX _ _ _)];have hx:(AtA (bs s) (Pv (bs k) (Atn num) (s.size:Int).toNat)).length=s.size:=by simp_all [bD]
  rw [CBI hk h'.1 (by simp_all [DK]),AO,At6 (Vl _ _),Atd (by grind [DK,mV])];refine congrArg (fun x=>some (x,true)) (Asj ?_)
  rw [ArL,At6 (Vl _ _),At6 (UZ _ _ _),At6 (fun x hx=>by
   rcases List.mem_append.1 hx with hx | hx
   ·exact Vl _ _ x hx
   ·exact UZ _ _ _ x hx),Arn,hl]
  rfl
theorem QBk {k:AA} {count:Int} {r:Aq} (hk:k.size<=900000000) (hr:r.DY<=9223372036854775807):wz k count r=some (Wp k count r):=by
 have hz:=V7 r;rw [wz,FA4,mk,V8 hr,AO,Wp];cases h1:(As2 r).2;·rfl
 rw [PY (by rfl),JJ,AO,Bool.true_and];cases h2:AvO count 0 10000;·rfl
 rw [DU] at h2;obtain ⟨l1,l2,l3⟩:=xA (k:=k) (s:=(As2 r).1) (num:=count+1) (by omega) (by omega)
 obtain ⟨f1,f2⟩:=IA5 (t:=(JG k (count+1) (As2 r).1).1) (by omega)
 rw [PY (by rfl),Ar (by omega) (by omega),TBK hk (by omega),AO,GBI (by omega),AO,l1,f1];rfl
structure Down (k:AA) (l:List Aq) (b:Aj):Prop where
 JC:k.size=32
 len:1<=l.length/\l.length<=50
 book:(EW Ato l).2=true
 box:∃ X:AA,b=⟨k,false,dk X X.size,Ato,[],[],0⟩/\X.size<=16700/\∃ (l2:List Aq) (K:Nat),l2.length<=50/\(EW Ato l2).2=true/\K<=(DV (tx k 1 l2)).length/\bs X=(DV (tx k 1 l2)).take K/\l=l2.take (whole (tx k 1 l2) K)
theorem RBk {k:AA} {l:List Aq} (hl:l.length<=50):(DV (tx k 1 l)).length<=334*l.length:=by have h:=MAn k _ (xB k l 1 (by omega) (by omega));simp_all [Vt]
noncomputable def X5 (b:Aj):Aj×Bool:=
 bif b.Bj || !Ark b then (QA5,false)
 else bif !(GH b.BN b.Bd).2.2 || decide ((IY b.Bd (GH b.BN b.Bd).2.1 0).2<((GH b.BN b.Bd).2.1.length:Int)) then (QA5,false)
 else (⟨b.BN,true,(IY b.Bd (GH b.BN b.Bd).2.1 0).1,(GH b.BN b.Bd).1,[],[],0⟩,true)
theorem UBK {k:AA} {d:BO} (hf:∀ f ∈ d.Ai,f.fText.size<=140737488351232):∀ a ∈ (GH k d).2.1,a.fText.size<=140737488351232:=by
 have h0:=GA6 (n:=Qa) hf;intro a;rw [GH];cases (!(AvP d) || !(EW Ato (Nl k (Atr d Qa).1).1).2)
 ·rw [Aw];show a ∈ _++_->_;rw [List.mem_append];rintro (h | h)
  ·cases hc:decide (AsZ d nNew>=0) <;> rw [hc] at h;·cases h
   ·rw [List.mem_singleton.1 h];exact DF _
  ·cases hc:(Nl k (Atr d Qa).1).2 == ((Atr d Qa).1.size:Int) <;> rw [hc] at h
   ·simp only [Aw,List.mem_cons,List.not_mem_nil,or_false] at h;rcases h with rfl | rfl | rfl
    ·grind [ByteArray.size_extract]
    ·exact DF _
    ·exact DF _
   ·cases h
 simp
theorem VBK {b:Aj} (hd:b.Bd.Ai.length*40<=140737488351232) (hf:∀ f ∈ b.Bd.Ai,f.fText.size<=140737488351232) (ht:b.AV.Ag.length<=140737488351232) (hs:b.BI.length<=140737488351232) (hl:b.BJ.length<=140737488351232) (hk:b.BN.size<=900000000):X7 b=some (X5 b):=by
 obtain ⟨l1,l2⟩:=RAn b.BN b.Bd
 rw [X7,OA4,mk,X5];simp only [iE (b:=b) (by omega) hf ht hs hl,HBI hk (show b.Bd.Ai.length<=_ by omega) hf,OBk (d:=b.Bd) (l:=(GH b.BN b.Bd).2.1) hd (by omega) (UBK hf),AO];cases b.Bj
 ·cases Ark b;·rfl
  ·cases (GH b.BN b.Bd).2.2;·rfl
   ·cases decide ((IY b.Bd (GH b.BN b.Bd).2.1 0).2<((GH b.BN b.Bd).2.1.length:Int)) <;> rfl
 ·rfl
theorem SBk {k:AA} {l:List Aq} {b:Aj} (h:Down k l b):∃ b',X7 b=some (b',true)/\Good k l b'/\b'.BI=[]/\b'.BJ=[]/\b'.CU=0/\b'.AV=(EW Ato l).1:=by
 obtain ⟨X,rfl,CC,l2,K,hl2,he2,hK,hX,hl⟩:=h.box
 have EA:X.size=K:=by rw [<-bs_len,hX,List.length_take];omega
 have hs2:=NAn he2;have hm:=LA6 (k:=k) (F:=X) (n:=X.size) hl2 hs2 he2 hK hX (by omega) (by omega);obtain ⟨w1,w2,w3⟩:=CAn (tx k 1 l2) K
 rw [jo] at w3;have hbk:EW Ato l=((EW Ato l).1,true):=Prod.ext rfl h.book;have hpre:DV (tx k 1 l2)=DV (tx k 1 (l2.take (whole (tx k 1 l2) K)))++DV (tx k (1+((l2.take (whole (tx k 1 l2) K)).length:Int)) (l2.drop (whole (tx k 1 l2) K))):=by rw [<-YA5,<-LAn,List.take_append_drop]
 rw [<-hl] at hm w3 hpre;have hok:Ark ⟨k,false,dk X X.size,Ato,[],[],0⟩=true:=SA6 (b:=⟨k,false,dk X X.size,Ato,[],[],0⟩) h.JC (AsX (by omega) (by omega));have mk:∀ G:AA,bs G=DV (tx k 1 l)->Good k l ⟨k,true,dk G G.size,(EW Ato l).1,[],[],0⟩:=fun G hG=>⟨h.JC,rfl,rfl,⟨G,rfl,hG⟩,h.len,hbk,⟨DF _,rfl⟩,⟨Int.le_refl _,by show (0:Int)<=1000;omega⟩,⟨rfl,DF _⟩⟩
 have hR:=VBK (b:=⟨k,false,dk X X.size,Ato,[],[],0⟩) (Nat.le_of_ble_eq_true rfl) (fun f hf=>by
  have hf:f ∈ [(⟨Qa,X,(X.size:Int)⟩:BQ)]:=hf;rw [List.mem_singleton] at hf;rw [hf];show X.size<=_;omega) (DF _) (DF _) (DF _) (by show k.size<=_;rw [h.JC];omega)
 rw [hR,X5,hok];dsimp only;rw [hm];dsimp only;by_cases hc:((DV (tx k 1 l)).length:Int)=(X.size:Int)
 ·rw [beq_iff_eq.2 hc,A8];refine ⟨_,rfl,mk X ?_,rfl,rfl,rfl,rfl⟩;rw [hX,hpre,<-EA,List.take_append_of_le_length (by omega),List.take_of_length_le (by omega)]
 ·rw [beq_eq_false_iff_ne.2 hc,Aw];have hG:bs (X.extract 0 (DV (tx k 1 l)).length)=DV (tx k 1 l):=by rw [AvE,List.drop_zero,hX,List.take_take,Nat.min_eq_left w3,hpre,List.take_left]
  have DA:(X.extract 0 (DV (tx k 1 l)).length).size=(DV (tx k 1 l)).length:=by rw [<-bs_len,hG]
  generalize X.extract 0 (DV (tx k 1 l)).length=G at hG DA;rw [FBH (by omega) (by omega) (by omega)];exact ⟨_,rfl,mk G hG,rfl,rfl,rfl,rfl⟩
structure LS (k:AA) (l:List Aq) (cs:List Int) (L:Cm):Prop where
 good:Good k l L.Ad
 codes:L.Du=cs
 few:cs.length<=60/\L.GR.length=cs.length/\L.Ey.length<=60/\L.Ez.length<=60
def xC (n:Int):Aq:=⟨2,⟨#[]⟩,n,⟨0,0,false,false,false,false,⟨#[]⟩,0⟩⟩
theorem Good.WBK {k:AA} {l:List Aq} {b:Aj} (g:Good k l b) {S:List EC} {o:Int} (hS:S.length<=3) (hs:Oy ⟨b.BN,b.Bj,b.Bd,b.AV,S,b.BJ,o⟩ S.length 0=true) (ho:0<=o/\o<=1000):Good k l ⟨b.BN,b.Bj,b.Bd,b.AV,S,b.BJ,o⟩:=
 ⟨g.JC,g.key,g.up,g.disk,g.len,g.book,⟨hS,hs⟩,ho,⟨(HBh (b:=b) (c:=⟨b.BN,b.Bj,b.Bd,b.AV,S,b.BJ,o⟩) rfl rfl _ _).trans g.Lp.1,g.Lp.2⟩⟩
theorem TBk {n:Int} (h:0<=n/\n<=3):(As2 (xC n)).2=true:=by grind [As2,xC,DU,Oh,As7]
theorem UBk {b:Bf} (hb:IW b=true) (hc:b.fCount<10000) {n:Int} (h:0<=n/\n<=3):Ara b (xC n)=(⟨b.Bv,n,b.Ag,b.BR,Auo (b.Dp++(As2 (xC n)).1),b.fCount+1⟩,true):=by rw [Ara,hb,TBk h,D5 (by omega:¬ b.fCount>=10000)];rfl
theorem VBk {k w:AA} (hk:k.size=32) (hw:w.size<=20):LS k [Wi w] [] (Arz k w)/\(Arz k w).Ad.BI=[]/\(Arz k w).Ad.CU=0/\(Arz k w).Ad.BJ=[]/\(Arz k w).Ad.AV.DR=0/\(Arz k w).Ad.AV.Bv=Auo w/\(Arz k w).Ad.AV.Ag=[]/\(Arz k w).Ad.AV.BR=0:=by
 obtain ⟨h1,h2,h3,h4,h5,h6⟩:=TA6 hk hw
 have he:Ara Ato (Wi w)=(⟨Auo w,0,[],0,Auo (Ato.Dp++(As2 (Wi w)).1),0+1⟩,true):=by rw [Ara,RA5,show (As2 (Wi w)).2=true by rw [VAm],show decide (Ato.fCount>=10000)=false from rfl];rfl
 rw [he] at h6;refine ⟨⟨h2,rfl,⟨DF _,rfl,DF _,Nat.le_of_ble_eq_true rfl⟩⟩,h3,h5,h4,?_,?_,?_,?_⟩;all_goals grind [Arz]
theorem XBK {b:Bf} {r:Aq} (h:(Ara b r).2=true) {v:Cc} (hv:YA b.Ag v):(r.Aa=4/\r.DY=v.fId)\/YA (Ara b r).1.Ag v:=by
 obtain ⟨x,h1,h2,h3,h4⟩:=hv
 obtain ⟨e1,e2⟩:=Vh h1
 rcases OBh h e2 with ⟨_,k1,k2⟩ | ⟨y,k1,k2,_,_,_,k3⟩
 ·omega
 ·rw [e1] at k1;exact .inr ⟨y,k1,by omega,h3,by omega⟩
noncomputable def Asd (b:Aj) (r:Aq):Aj:=⟨b.BN,b.Bj,(IY b.Bd (Wp b.BN b.AV.fCount r).1 0).1,(Ara b.AV r).1,b.BI,b.BJ,b.CU⟩
theorem FA8 {k:AA} {l:List Aq} {b:Aj} {r:Aq} (g:Good k l b) (hl:l.length<50) (hr:(Ara b.AV r).2=true) :
  OBK b r=(true,Asd b r)/\∀ V,(∀ v ∈ V,YA (Ara b.AV r).1.Ag v)->Ox V->Good k (l++[r]) (Rt (Asd b r) V):=by
 obtain ⟨F,h1,h2⟩:=g.disk
 obtain ⟨T,t1,t2⟩:=NA6 (k:=k) (r:=r) (i:=l.length) (Vs hr).2.1 (by omega)
 have hlen:(l++[r]).length=l.length+1:=by simp
 have hat:(l++[r])[l.length]'(by omega)=r:=by simp
 obtain ⟨E,e1,e2⟩:=CBh (k:=k) (T:=T) (l:=l++[r]) (i:=l.length) (d:=b.Bd) (by omega) (by omega) (.inr ⟨F,h1,by simp_all⟩) (by simp_all)
 rw [List.take_of_length_le (by omega)] at e2;refine ⟨?_,fun V hV ha=>?_⟩;·rw [OBK,Asd,g.key,g.cnt,t1];dsimp only;rw [e1,hr];rfl
 ·have hd:(IY b.Bd (Wp b.BN b.AV.fCount r).1 0).1=dk E E.size:=by rw [g.key,g.cnt,t1];simp_all
  have hb:=Asq.1 (Vs hr).2.2.2.1;have hf:=RBH hb.2.2.2.2.2.2 ha fun v hv=>by
   obtain ⟨x,hx,_⟩:=hV v hv
   exact ⟨x,(Vh hx).2,(Vh hx).1⟩
  refine ⟨g.JC,g.key,g.up,⟨E,hd,e2⟩,⟨by omega,by omega⟩,?_,⟨g.LM.1,?_⟩,g.opn,XA6.2 ⟨hV,ha⟩,?_⟩;·rw [TA5,g.book];dsimp only;rw [A8,EW,hr];rfl
  ·exact (IBH (b:=b) (c:=Rt (Asd b r) V) rfl rfl _ _).trans g.LM.2
  ·show V.length<=8;omega
theorem Good.lives {k:AA} {l:List Aq} {b:Aj} (g:Good k l b):(∀ v ∈ b.BJ,YA b.AV.Ag v)/\Ox b.BJ:=XA6.1 g.Lp.1
theorem Good.FAp {k:AA} {l:List Aq} {b:Aj} (g:Good k l b):(∀ s ∈ b.BI,1<=s.fId/\s.fId<=b.CU)/\AscS b.BI:=YA6.1 g.LM.2
theorem WBk {b:Bf} {y:Ah} (hb:IW b=true) (hc:b.fCount<10000) (hy:AuI y=true) (h8:b.Ag.length<8) (hid:y.fId=b.BR+1):(Ara b (V5 y)).2=true:=by have hn:=(ZBE (x:=y) (Asq.1 hb).2.2.2.2.2.2 (by omega)).2;grind [Vu,Ara,V5,PBK]
theorem YBK {b:Bf} {x y:Ah} (hb:IW b=true) (hc:b.fCount<10000) (hy:AuI y=true) (hx:AtT b.Ag y.fId=some x) (hg:grown x y=true):(Ara b (V5 y)).2=true:=by grind [Vu,Ara,V5,PBK]
theorem XBk {b:Bf} {x:Ah} (hb:IW b=true) (hc:b.fCount<10000) (hx:AtT b.Ag x.fId=some x) (hok:AuI x=true):(Ara b (AMl x.fId)).2=true:=by
 obtain ⟨_,_,i1,i2,_⟩:=Tq hok
 grind [As2,AMl,DU,Oh,As7,Ara]
theorem YBk {b:Bf} (hb:IW b=true) (hc:b.fCount<10000) (w:AA):(Ara b (Wi w)).2=true:=by rw [Ara,hb,VAm,D5 (by omega:¬ b.fCount>=10000)];rfl
def bF (x:Ah):Ah:=⟨1,x.Aa,x.CY,x.CZ,x.GI,x.Fb,x.fValue,x.fNext⟩
theorem ZBk {b:Aj} {c:CJ} {x:Ah} (hl:0<=b.AV.BR/\b.AV.BR<1000) (h:AuI (bF x)=true):AuI (newX b c x)=true:=by have h1:AvO (b.AV.BR+1) 1 1000=true:=DU.2 (by omega);rw [AuI] at h ⊢;rw [show AvO (newX b c x).fId 1 1000=true from h1];exact h
theorem ZBK (x:Int) (h f s w:Bool) (k:Int) (hk:k=1/\s=false\/k=2/\w=false) (d:AA) (hd:d.size=32):AuI (bF ⟨x,k,h,f,s,w,d,0⟩)=true:=by
 rw [AuI,bF];dsimp only;rw [hd];rcases hk with ⟨rfl,rfl⟩ | ⟨rfl,rfl⟩
 all_goals rfl
theorem Afe {kind:Int} {d:AA} (h:(defaults kind d).2=true):AuI (bF (defaults kind d).1)=true:=by
 rw [defaults] at h ⊢;by_cases h1:kind=1;·grind [ZBK,IQ]
 ·rw [beq_eq_false_iff_ne.2 h1,Aw] at h ⊢;by_cases h2:kind=2;·grind [ZBK,IQ]
  ·rw [beq_eq_false_iff_ne.2 h2,Aw] at h ⊢;by_cases h3:kind=3
   ·subst h3;rw [show ((3:Int) == 3)=true from rfl,A8] at h ⊢;by_cases hz:(d.size:Int)<=100;·rw [Bg hz,A8];rw [AuI,bF];dsimp only;rw [Bg hz];rfl
    simp_all
   grind
theorem BBl {x:Ah} (h:AuI x=true):AuI (bF (IBK x))=true:=by
 rw [AuI] at h ⊢;simp only [Bool.and_eq_true] at h;obtain ⟨⟨⟨⟨⟨_,h2⟩,_⟩,_⟩,h5⟩,h6⟩:=h
 show (AvO 1 1 1000 && AvO x.Aa 1 3 && AvO 0 0 16 && ((x.Aa == 2) || (((0:Int) == 0) && !false)) && ((x.Aa == 1) || !x.Fb) && (bif x.Aa == 3 then decide ((x.fValue.size:Int)<=100) else (x.fValue.size:Int) == 32))=true;grind [AvO]
theorem CBl {t:AA} (h:t.size<=140737488351232) (hr:(ak t).2=true):AuI (ak t).1=true:=by
 rcases (YA7 h).2.2 with ⟨_,h2⟩ | h2
 all_goals simp_all [DA6]
theorem AVc {x:Ah} {n:Int} (h:x.fNext<=n) (hi fi:Bool) (h1:(hi || !x.CY)=true) (h2:(fi || !x.CZ)=true):grown x ⟨x.fId,x.Aa,hi,fi,x.GI,x.Fb,x.fValue,n⟩=true:=by simp_all [grown]
structure BBL (b:Aj) (c:CJ) (code:Int) (r:Aq):Prop where
 num:r.DY<=9223372036854775807
 ent:(Ara b.AV r).2=true
 gone:r.Aa=4->c.Au=9/\r.DY=c.BK/\code=0
 code:code≠0->r.Aa=2
def xE (b:Aj) (c:CJ) (p:PT):Prop:=p.1=[]\/∃ r,p.1=[r]/\BBL b c p.2.1 r
theorem NS {b:Aj} {c:CJ} {n:Int}:xE b c (Aua n):=.inl rfl
theorem CBL {k:AA} {l:List Aq} {b:Aj} {c:CJ} {x:Ah} {ok:Bool} (g:Good k l b) (h:ok=true->AuI (bF x)=true):xE b c (Xm b c x ok):=by
 rw [Xm];cases ok;·exact NS
 rw [DZ,Aw];have hl:=g.pb.last;have hn:=g.cnt;have h50:=g.len.2;by_cases h8:(b.AV.Ag.length:Int)>=8;·simp_all [NS]
 by_cases h1:b.AV.BR>=1000;·simp_all [NS]
 ·rw [D5 h8,D5 h1];exact .inr ⟨_,rfl,by show (0:Int)<=_;omega,WBk g.Ol (by omega) (ZBk (by omega) (h rfl)) (by omega) rfl,fun h=>absurd h (by show ¬ (3:Int)=4;decide),fun h=>absurd rfl h⟩
theorem Good.thing {k:AA} {l:List Aq} {b:Aj} (g:Good k l b) {x:Ah} (hx:x ∈ b.AV.Ag):AuI x=true:=(Vj (Asq.1 g.Ol).2.2.2.2.2.2 x hx).2.2
theorem DBl {tk:AA->AA×Bool} {k:AA} {l:List Aq} {b:Aj} {c:CJ} {x:Ah} (g:Good k l b) (hx:AtT b.AV.Ag c.BK=some x):xE b c (Zf tk b c x):=by
 obtain ⟨e1,e2⟩:=Vh hx
 have hok:=g.thing e2;have hx':AtT b.AV.Ag x.fId=some x:=by simp_all
 have hn:=g.cnt;have h50:=g.len.2;obtain ⟨_,_,_,_,n0,n1,_⟩:=Tq hok
 rw [Zf];cases c.Au == 6
 ·cases c.Au == 5
  ·cases c.Au == 10
   ·cases c.Au == 12
    ·cases c.Au == 8
     ·cases c.Au == 7
      ·cases h9:c.Au == 9;·exact NS
       ·obtain ⟨i1,i2⟩:=(Tq hok).2.2
        exact .inr ⟨_,rfl,by show x.fId<=_;omega,XBk g.Ol (by omega) hx' hok,fun _=>⟨beq_iff_eq.1 h9,e1,rfl⟩,fun h=>absurd rfl h⟩
      ·exact .inl rfl
     ·rw [A8];cases hc:(UR x c.CY c.CZ).2;·exact NS
      ·rw [UR] at hc ⊢;cases hq:AuI x && ((c.CY || !x.CY) && (c.CZ || !x.CZ));·grind
       ·simp only [Bool.and_eq_true] at hq;have hy:AuI ⟨x.fId,x.Aa,c.CY,c.CZ,x.GI,x.Fb,x.fValue,x.fNext⟩=true:=hok;exact .inr ⟨_,rfl,by show (0:Int)<=_;omega,YBK g.Ol (by omega) hy hx' (AVc (Int.le_refl _) _ _ hq.2.1 hq.2.2),fun h=>absurd h (by show ¬ (3:Int)=4;decide),fun h=>absurd rfl h⟩
    ·rw [A8];cases At9 x 4;·exact NS
     ·rw [A8];cases (tk (Auv x.fValue)).2;·exact NS
      ·exact .inl rfl
   ·rw [A8];cases At9 x 2;·exact NS
    ·exact .inl rfl
  ·rw [A8];cases hm:At9 x 3;·exact NS
   ·obtain ⟨_,h2,h3⟩:=CA8 hm
    rw [A8,jB];by_cases h16:Ar6 b x>=16;·simp_all [NS]
    ·rw [D5 h16,Aw];cases Ar6 b x != x.fNext
     ·have hnx:x.fNext<=ite (16<x.fNext+3) 16 (x.fNext+3)/\ite (16<x.fNext+3) 16 (x.fNext+3)<=16:=by omega
      have hy:AuI (IAo x)=true:=by grind [IAo,DU,AuI]
      exact .inr ⟨_,rfl,by show (0:Int)<=_;omega,YBK g.Ol (by omega) hy hx' (AVc hnx.1 _ _ (by simp) (by simp)),fun h=>absurd h (by show ¬ (3:Int)=4;decide),fun h=>absurd rfl h⟩
     ·exact .inl rfl
 ·rw [A8];cases At9 x 1;·exact NS
  ·exact .inl rfl
theorem GAp {tk:AA->AA×Bool} {k:AA} {l:List Aq} {b:Aj} {c:CJ} (g:Good k l b):xE b c (F9 tk b c):=by
 have hn:=g.cnt;have h50:=g.len.2;obtain ⟨t1,t2⟩:=(Asq.1 g.Ol).2.2.1
 rw [F9];cases c.Au == 1
 ·rw [Aw];by_cases ha:IU b c.Dz<0;·simp_all [NS]
  rw [D5 ha,Aw];cases c.Au == 13
  ·rw [Aw];cases c.Au == 2
   ·rw [Aw];cases (b.BI.getD (IU b c.Dz).toNat ⟨0,false⟩).RS;·exact NS
    rw [DZ,Aw];cases c.Au == 3
    ·rw [Aw];cases c.Au == 4
     ·rw [Aw];cases c.Au == 11;·grind [NS,DBl]
      ·refine CBL g fun h=>BBl (CBl (by grind [ZA7]) ?_)
       rw [Bool.and_eq_true] at h;exact h.2
     ·exact CBL g Afe
    ·rw [A8];cases decide ((c.fText.size:Int) > 20);·exact .inr ⟨_,rfl,by show (0:Int)<=_;omega,YBk g.Ol (by omega) _,fun h=>absurd h (by show ¬ (1:Int)=4;decide),fun h=>absurd rfl h⟩
     simp [NS]
   ·rw [A8,iI];have go:∀ n:Int,0<=n/\n<=3->∀ code,BBL b c code (xC n):=fun n h code=>⟨by show n<=_;omega,by rw [UBk g.Ol (by omega) h],fun h=>absurd h (by show ¬ (2:Int)=4;decide),fun _=>rfl⟩
    by_cases h3:b.AV.DR>=3;·simp_all [NS]
    rw [D5 h3,Aw];cases (Auo c.fText).toList == b.AV.Bv.toList;·exact .inr ⟨_,rfl,go _ (by omega) _⟩
    ·cases b.AV.DR == 0;·exact .inr ⟨_,rfl,go 0 (by omega) _⟩
     ·exact .inl rfl
  ·exact .inl rfl
 ·rw [A8];cases decide ((b.BI.length:Int)>=3) <;> cases decide (b.CU>=1000) <;> first | exact NS | exact .inl rfl
theorem DBL {b:Aj} {c:CJ} {code leaf:Int} (h:Atg b) (hS:AscS b.BI) (hV:Ox b.BJ) (hlf:leaf<=1000):LP b c code leaf=some (Rh b c code leaf):=by
 have hs:=h.s;have ht:=h.t;have hl:=h.l;have ho:=h.o;cases hc:code != 0
 ·obtain rfl:code=0:=by rw [bne_eq_false_iff_eq] at hc;exact hc
  have tail:∀ m p,TL b.AV c.BK=some p->(c.Au == 1)=false->(c.Au == 13)=false\/IU b c.Dz<0->(c.Au == 2)=false\/IU b c.Dz<0->bG (m+1+1) (.c0 leaf p.2 b c ⟨#[]⟩ false ⟨#[]⟩ 0 0 ⟨#[]⟩ 0 0 b.BN b.Bj b.AV.Bv b.AV.DR b.AV.BR b.AV.Dp b.AV.fCount b.CU p.1 [] [] [] [] b.Bd.Ai b.AV.Ag b.BI b.BJ)=some (bif c.Au == 5 then Zg b c leaf else bif c.Au == 9 then Rt b (Ul b.BJ c.BK) else b):=by
   intro m p hp _ _ _;have hp0:=Xi (b:=b.AV) (t:=c.BK) (by omega);rw [hp] at hp0;injection hp0 with hp0
   subst hp0;have last:bG (m+1) (.c1 b c ⟨#[]⟩ false ⟨#[]⟩ 0 0 ⟨#[]⟩ 0 0 b.BN b.Bj b.AV.Bv b.AV.DR b.AV.BR b.AV.Dp b.AV.fCount b.CU [] [] [] [] b.Bd.Ai b.AV.Ag b.BI b.BJ)=some (bif c.Au == 9 then Rt b (Ul b.BJ c.BK) else b):=by
    rw [bG];simp only [YAl,mk];cases c.Au == 9;·rfl
    ·rw [A8,A8,EA7 (by omega),AO,<-NBK c.BK hV,atV];cases hp:IX b.BJ c.BK 0 with
     | none=>rfl
     | some j=>
      have:=(wW hp).2;have hw:=Jh (i:=j) (by omega);have e2:(b.BJ.drop (j+1)).take (b.BJ.length - (j+1))=b.BJ.drop (j+1):=List.take_of_length_le (by rw [List.length_drop];omega);dsimp only;rw [hw,BU,BU,e2,FT (by omega),Ht (by omega),Ht (by omega),Ht (by rw [List.length_drop];omega),Nat.sub_zero];rfl
   rw [bG];simp only [YAl,mk,last];cases h5:c.Au == 5;·rfl
   ·have h9:(c.Au == 9)=false:=by rw [beq_iff_eq] at h5;rw [h5];rfl
    rw [h9,A8,A8,Zg];cases AtT b.AV.Ag c.BK with
    | none=>rfl
    | some x=>
     dsimp only;rw [A8];by_cases g1:leaf>=0;·rw [Ar (by omega) (by omega),show (mD ⟨b.BN,b.Bj,⟨b.Bd.Ai⟩,⟨b.AV.Bv,b.AV.DR,b.AV.Ag,b.AV.BR,b.AV.Dp,b.AV.fCount⟩,b.BI,b.BJ,b.CU⟩ x.fId (leaf+1))=_ from KBk (b:=b) (by omega),TBH _ _ hV,Bg g1];cases x.Aa == 2 <;> cases decide (leaf<x.fNext) <;> rfl
     ·rw [D5 g1];cases x.Aa == 2 <;> rfl
  obtain ⟨m,hm⟩:∃ m,AX=m+1+1:=⟨AX - 2,rfl⟩
  rw [Rh,PY (by rfl)];cases h1:c.Au == 1
  ·rw [Aw];have ent:(c.Au == 13)=false\/IU b c.Dz<0->(c.Au == 2)=false\/IU b c.Dz<0->LP b c 0 leaf=some (bif c.Au == 5 then Zg b c leaf else bif c.Au == 9 then Rt b (Ul b.BJ c.BK) else b):=by
    intro a1 a2;obtain ⟨p,hp⟩:∃ p,TL b.AV c.BK=some p:=⟨_,Xi (by omega)⟩
    rw [LP,bC,mk,h.copy,AO,PY (by rfl),su (by omega),AO,hp,AO,h1,Aw,hm,tail m p hp h1 a1 a2];rcases a1 with a1 | a1
    ·rw [a1,Aw];rcases a2 with a2 | a2
     ·rw [a2,Aw]
     ·rw [D5 (by omega:¬ IU b c.Dz>=0),Aw];cases c.Au == 2 <;> rfl
    ·rw [D5 (by omega:¬ IU b c.Dz>=0),Aw,Aw];cases c.Au == 13 <;> cases c.Au == 2 <;> rfl
   cases h13:c.Au == 13
   ·rw [Aw];cases h2:c.Au == 2;·rw [Aw];exact ent (.inl h13) (.inl h2)
    ·rw [A8,<-MBK c.Dz hS];cases hp:AsY b.BI c.Dz 0 with
     | none=>
      have hat:IU b c.Dz = -1:=by rw [IU,hp]
      rw [ent (.inl h13) (.inr (by omega)),show (c.Au == 5)=false by rw [beq_iff_eq] at h2;rw [h2];rfl,show (c.Au == 9)=false by rw [beq_iff_eq] at h2;rw [h2];rfl];rfl
     | some j=>
      have hlt:=(XAn hp).2;exact JBk h (beq_iff_eq.1 h2) (by rw [IU,hp]) (by omega)
   ·rw [A8,<-LBK c.Dz hS];cases hp:AsY b.BI c.Dz 0 with
    | none=>
     have hat:IU b c.Dz = -1:=by rw [IU,hp]
     have e:=beq_iff_eq.1 h13;rw [ent (.inr (by omega)) (.inr (by omega)),show (c.Au == 5)=false by rw [e];rfl,show (c.Au == 9)=false by rw [e];rfl];rfl
    | some j=>
     have hlt:=(XAn hp).2;exact LBk h (beq_iff_eq.1 h13) (by rw [IU,hp]) (by omega)
  ·exact IBk h (beq_iff_eq.1 h1)
 ·rw [Rh,hc];exact KBK h hc
theorem Good.EBL {k:AA} {l:List Aq} {b:Aj} (g:Good k l b) {S:List EC} (hS:S.length<=3) (h1:∀ s ∈ S,1<=s.fId/\s.fId<=b.CU) (h2:AscS S):Good k l (jr b S):=
 g.WBK hS ((YA6 (b:=jr b S)).2 ⟨h1,h2⟩) g.opn
theorem Good.EBl {k:AA} {l:List Aq} {b:Aj} (g:Good k l b) {V:List Cc} (hV:V.length<=8) (hs:Vg (Rt b V)=true):Good k l (Rt b V):=⟨g.JC,g.key,g.up,g.disk,g.len,g.book,⟨g.LM.1,(IBH (b:=b) (c:=Rt b V) rfl rfl _ _).trans g.LM.2⟩,g.opn,⟨hs,hV⟩⟩
theorem Good.FBL {k:AA} {l:List Aq} {b:Aj} (g:Good k l b) {V:List Cc} (h1:∀ v ∈ V,YA b.AV.Ag v) (h2:Ox V):Good k l (Rt b V):=by
 have hb:=Asq.1 g.Ol;have hf:=RBH hb.2.2.2.2.2.2 h2 fun v hv=>by
  obtain ⟨x,hx,_⟩:=h1 v hv
  exact ⟨x,(Vh hx).2,(Vh hx).1⟩
 exact g.EBl (by omega) ((XA6 (b:=Rt b V)).2 ⟨h1,h2⟩)
theorem GBL {k:AA} {l:List Aq} {b:Aj} {c:CJ} {code leaf:Int} (g:Good k l b) (ho:code=0->c.Au=1->b.BI.length<3/\b.CU<1000):Good k l (Rh b c code leaf):=by
 obtain ⟨v1,v2⟩:=g.lives
 obtain ⟨s1,s2⟩:=g.FAp
 have hs:=g.LM.1;rw [Rh];cases hc:code != 0
 ·rw [Aw];have hc:code=0:=by simp_all
  cases h1:c.Au == 1
  ·rw [Aw];cases c.Au == 13
   ·rw [Aw];cases c.Au == 2
    ·rw [Aw];cases c.Au == 5
     ·rw [Aw];cases c.Au == 9;·exact g
      ·exact g.FBL (fun v hv=>v1 v (List.mem_filter.1 hv).1) (v2.filter _)
     ·rw [A8,Zg];cases hx:AtT b.AV.Ag c.BK with
      | none=>exact g
      | some x=>
       dsimp only;cases hq:x.Aa == 2 && (decide (leaf>=0) && decide (leaf<x.fNext));·exact g
       ·simp only [Bool.and_eq_true,decide_eq_true_eq,beq_iff_eq] at hq;refine g.FBL (fun v hv=>?_) (VBH v2);rcases ZA6 v2 v hv with rfl | ⟨e,_⟩
        ·exact ⟨x,by rw [(Vh hx).1];exact hx,hq.1,by grind,by grind⟩
        simp_all
    ·refine g.EBL (by simp_all [vV]) (fun s h=>?_) ?_
     ·obtain ⟨t,ht,rfl⟩:=List.mem_map.1 h
      simp_all
     ·exact List.pairwise_map.2 s2
   ·exact g.EBL (Nat.le_trans (List.length_filter_le _ _) hs) (fun s h=>s1 s (List.mem_filter.1 h).1) (s2.filter _)
  ·obtain ⟨o1,o2⟩:=ho hc (beq_iff_eq.1 h1)
   have h3:=g.opn;refine g.WBK (S:=b.BI++[⟨b.CU+1,false⟩]) (o:=b.CU+1) (by grind) ((YA6 (b:=⟨b.BN,b.Bj,b.Bd,b.AV,b.BI++[⟨b.CU+1,false⟩],b.BJ,b.CU+1⟩)).2 ⟨fun s h=>?_,?_⟩) (by omega);all_goals grind
 ·exact g
theorem FBl {tk:AA->AA×Bool} {b:Aj} {c:CJ} (h:(F9 tk b c).2.1=0) (ho:c.Au=1):b.BI.length<3/\b.CU<1000:=by
 rw [F9,ho,show ((1:Int) == 1)=true from rfl,A8] at h;by_cases h1:(b.BI.length:Int)>=3;·rw [Bg h1] at h;exact absurd h (by show ¬ (1:Int)=0;decide)
 by_cases h2:b.CU>=1000;·rw [D5 h1,Bg h2] at h;exact absurd h (by show ¬ (1:Int)=0;decide)
 ·omega
noncomputable def Ri (b:Aj) (c:CJ) (p:PT):Aj:=Rh (match p.1 with | []=>b | r::_=>Asd b r) c p.2.1 (Qm b c.BK)
theorem HBL {tk:AA->AA×Bool} {k:AA} {l:List Aq} {b:Aj} {c:CJ} (g:Good k l b) (hl:l.length<50):Good k (l++(F9 tk b c).1) (Ri b c (F9 tk b c)):=by
 have hop:=FBl (tk:=tk) (b:=b) (c:=c);rw [Ri];generalize hp:F9 tk b c=p at hop;have hk:xE b c p:=by grind [GAp]
 rcases hk with h0 | ⟨r,h1,h2⟩
 ·simp_all [GBL]
 ·rw [h1];dsimp only;obtain ⟨v1,v2⟩:=g.lives
  have e:=(FA8 g hl h2.ent).2;by_cases h4:r.Aa=4
  ·obtain ⟨o1,o2,o3⟩:=h2.gone h4
   rw [Rh,o1,o3];refine e (Ul b.BJ c.BK) (fun v hv=>?_) (v2.filter _);obtain ⟨q1,q2⟩:=List.mem_filter.1 hv
   rcases XBK h2.ent (v1 v q1) with ⟨_,q3⟩ | q3
   all_goals simp_all
  ·refine GBL (e b.BJ (fun v hv=>?_) v2) hop;rcases XBK h2.ent (v1 v hv) with ⟨q3,_⟩ | q3
   all_goals omega
structure Dec (b:Aj):Prop where
 last:Xj (b.AV.BR+1)=some (UW (b.AV.BR+1))
 opn:Xj (b.CU+1)=some (UW (b.CU+1))
theorem IBL {b:Aj} {c:CJ} {x:Ah} {ok:Bool} (h:PB b) (hd:Dec b):xG b c x ok=some (Xm b c x ok):=by have hl:=h.last;rw [xG,KA0,mk,Xm,newX,Ar (by omega) (by omega),hd.last];simp only [Atc (n:=6) (by decide),Atc (n:=1) (by decide),AO];cases ok <;> cases decide ((b.AV.Ag.length:Int)>=8) <;> cases decide (b.AV.BR>=1000) <;> cases x.CY <;> cases x.CZ <;> rfl
theorem GBl {b:Aj} {c:CJ} (h:PB b) (hd:Dec b) (hc:c.fText.size<=1000):EAk b c=some (BAp b c):=by have hl:=h.last;have hz:=HBK (b.AV.BR+1);have h1:(⟨#[32]⟩:AA).size=1:=rfl;rw [EAk,LA0,mk,BAp,ZAo,Ar (by omega) (by omega),hd.last];grind [JBi,IBL]
theorem JBL {b:Aj} (h:b.BN.size=32):xH b=some (AuA b):=by have h3:(⟨#[111,117,116]⟩:AA).size=3:=rfl;rw [xH,MA0,mk,Atd (by simp_all),PW (by simp_all)];rfl
theorem KBL {s:AA} (h:s.size<=1000000000):xI s=some (ofBytes (Qd (bs s))):=by
 have h1:=Aq3 (n:=(s.size:Int)) (by omega);have hl:=bs_len s;have hz:(ofBytes (Atn (s.size:Int))++s).size=(Atn (s.size:Int)++bs s).length:=by simp_all [DK]
 have hlen:(Atn (s.size:Int)++bs s).length=(Atn (s.size:Int)).length+s.size:=by simp_all
 rw [xI,NA0,mk,YC (by omega),AO,Atd (by grind),hz];have e:(AU (16 - (((Atn (s.size:Int)++bs s).length:Int).tmod 16))).tmod 16=(((16 - (Atn (s.size:Int)++bs s).length % 16) % 16:Nat):Int):=by grind [Ar]
 rw [e,TAm (by omega),AO,Atd (by grind [DK])];refine congrArg some (Asj ?_);rw [ArL,ArL,At6 (U0 (by omega)),At6 (fun x hx=>by grind),At6 (FA7 (Si s)),Qd,hl]
theorem HBl {text:AA} {a:Nat} (hs:text.size<=140737488351232) (ha:a<=text.size):AvA text a=some (Qc text a):=by
 have hx:=tZ hs ha;rw [AvA,xJ,mk,NBG hs ha,AO,Qc];rcases hx with hx | ⟨v,hx,h0,h1,hA⟩
 ·rw [hx];rfl
 grind [Ar,Atn]
theorem IBl {k t:AA} (hk:k.size<=900000000) (ht:t.size<=800000000):FAk k t=some (Rj k t):=by
 have hz:=tY k t 0;have hr0:=HBl (text:=(AtU k 0 t).1) (a:=0) (by omega) (DF _);rw [show ((0:Nat):Int)=0 from rfl] at hr0;rw [FAk,OA0,mk,FBI hk ht,AO,hr0,AO,Rj];cases (AtU k 0 t).2;·rfl
 ·rw [PY (by rfl)];cases (Qc (AtU k 0 t).1 0).2.2;·rfl
  ·rw [PY (by rfl)];by_cases h:400<(Qc (AtU k 0 t).1 0).1.size;·grind
   ·have e:decide (((Qc (AtU k 0 t).1 0).1.size:Int) > 400)=false:=D5 (by omega);rw [e,Aw,KBL (by omega),AO,Vk,At6 (FA7 (Si _))];grind
theorem JBl (x:Ah):PA0 x=some ⟨0,x.Aa,x.CY,x.CZ,false,x.Fb,x.fValue,0⟩:=rfl
theorem KBl {b:Aj} {c:CJ} (h:PB b) (hd:Dec b) (hc:c.fText.size<=1000):GAk b c=some (tq b c):=by
 have hz:=ZA7 (AuA b) c.fText;have hr:=(YA7 (t:=(Rj (AuA b) c.fText).1) (by omega)).1;have hk:(AuA b).size<=900000000:=by simp [AuA,IQ]
 rw [GAk,QA0,mk,tq,inX];simp only [JBL h.key,IBl hk (show c.fText.size<=800000000 by omega),hr,JBl,IBL h hd,AO];cases (Rj (AuA b) c.fText).2 <;> rfl
theorem LBl {b:Aj} {c:CJ} {x:Ah} (h:PB b) (hc:c.fText.size<=1000) (hx:AtT b.AV.Ag x.fId=some x) (hm:At9 x 3=true):AFU b c x=some (jB b c x):=by
 obtain ⟨h1,h2,h3⟩:=CA8 hm
 obtain ⟨_,_,_,_,n0,n1,_⟩:=Tq h1
 have hv:=gu h1 (.inr h2);have ht:=h.things;have hl:=BA8 h.Lp hx n0;have FE:Qm b x.fId=Ar6 b x:=by simp_all [Qm]
 rw [AFU,SA1,mk,jB,VBI h.lln (by omega),AO,FE];by_cases h16:Ar6 b x>=16;·simp_all [Atc]
 ·rw [D5 h16,Aw,Aw,ZBi (by omega) (by omega) (by omega),AO,Aeu (by omega),AO,Ar (n:=x.fNext+3) (by omega) (by omega)];cases Ar6 b x != x.fNext <;> rfl
theorem MBl {k s:AA} (hk:k.size<=900000000):BAl k s=some (iM k s):=by rw [BAl,UA1,mk,iM];grind [GA7,bs_len,KBL,TBK,DK]
def Au2 (g:Nat->Nat) (k:Nat):Nat->Nat
 | 0=>0
 | c+1=>Au2 g k c+g (8*k+c)*2 ^ (8*c)
theorem GA8 {g:Nat->Nat} (hg:∀ i,g i<256) (k:Nat):∀ c,Au2 g k c<2 ^ (8*c)
 | 0=>Nat.two_pow_pos _
 | c+1=>by have h1:=GA8 hg k c;have h2:=hg (8*k+c);have h3:(g (8*k+c)+1)*2 ^ (8*c)<=256*2 ^ (8*c):=Nat.mul_le_mul_right _ h2;grind [Au2]
theorem NBl (g:Nat->Nat) (k:Nat):Au2 g k 8=Ws g k:=by rw [LAo];simp only [Au2,Nat.reduceMul,Nat.reducePow,Nat.add_zero,Nat.mul_one];omega
theorem OBl {s:AA} (h:s.size=200):CAl s=some (up (ArN (Lc s) 25)):=by
 have hp:∀ i,i<=64->2 ^ i<=18446744073709551616:=fun i hi=>Nat.pow_le_pow_right (n:=2) (by decide) hi
 have c2:∀ k:Nat,(2:Int) ^ k=((2 ^ k:Nat):Int):=fun k=>by rfl
 have s1:=FC (Hj:=mW) (st:=fun i o=>.c0 s (i:Int) (up (List.replicate 25 0)) (up o)) (f:=fun i o=>o.set (i / 8) (o.getD (i / 8) 0 ||| Lc s i*2 ^ (8*(i % 8)))) (P:=fun i o=>o.length=25/\∀ k,k<25->o.getD k 0=Au2 (Lc s) k (min 8 (i - 8*k))) (n:=200) 1 (fun m i o hi ho=>by
  obtain ⟨hol,hok⟩:=ho
  have hd:i / 8<25:=by omega
  have hv:=hok (i / 8) hd;rw [show min 8 (i - 8*(i / 8))=i % 8 by omega] at hv;have hb:=Vp s i;have hpl:=GA8 (Vp s) (i / 8) (i % 8);have hor:Au2 (Lc s) (i / 8) (i % 8) ||| Lc s i*2 ^ (8*(i % 8))=Au2 (Lc s) (i / 8) (i % 8+1):=by have:=Nat.shiftLeft_add_eq_or_of_lt hpl (Lc s i);grind [Nat.shiftLeft_eq,Au2]
  have hlt:=GA8 (Vp s) (i / 8) (i % 8+1);have h64:=hp (8*(i % 8+1)) (by omega);have hbp:Lc s i*2 ^ (8*(i % 8))<18446744073709551616:=by grind [Au2]
  refine ⟨?_,Zq hol,fun k hk=>?_⟩
  ·have w1:AU ((i:Int)+1)=((i+1:Nat):Int):=wn (n:=i+1) (by omega);have e1:AU ((i:Int).tdiv 8)=((i / 8:Nat):Int):=wn (n:=i / 8) (by omega);have e2:(i:Int).tmod 8=((i % 8:Nat):Int):=rfl;have e3:AU (8*((i % 8:Nat):Int))=((8*(i % 8):Nat):Int):=wn (n:=8*(i % 8)) (by omega);have e4:Min.min (8*(i % 8)) (IntKind.bits IntKind.u64)=8*(i % 8):=Nat.min_eq_left (by show 8*(i % 8)<=64;omega);have e5:wu64 ((Lc s i:Nat):Int)=((Lc s i:Nat):Int):=Oj (by omega);have e6:wu64 (((Lc s i:Nat):Int)*((2 ^ (8*(i % 8)):Nat):Int))=((Lc s i*2 ^ (8*(i % 8)):Nat):Int):=Oj (n:=Lc s i*2 ^ (8*(i % 8))) hbp;have hb2:Nat.beq 25 (up o).length=true:=by simp_all [Ua]
   rw [mW];simp only [WA1,mk,w1,e1,e2,e3,BU,e4,c2,Qi,e5,e6,Ars];rw [hv,o64 (Nat.lt_of_lt_of_le hpl (hp _ (by omega))) hbp,JF,Atd (by grind),hb2,Auw (l:=o) (by omega),Atd (a:=_) (by rfl),Atd (by rfl),Atd (by grind),Atd (by rfl)];rfl
  grind)
 obtain ⟨m,hm⟩:∃ m,AX=m+1+200*1:=⟨AX - 201,by rfl⟩
 rw [CAl,VA1,mk,hm]
 obtain ⟨a1,a2,a3⟩:=s1 200 0 (m+1) (List.replicate 25 0) (by omega) ⟨rfl,fun k hk=>by
  rw [show min 8 (0 - 8*k)=0 by omega,List.getD_eq_getElem?_getD,List.getElem?_replicate];split <;> rfl⟩
 refine a1.trans ?_;have hfin:ArR (fun i o=>o.set (i / 8) (o.getD (i / 8) 0 ||| Lc s i*2 ^ (8*(i % 8)))) 200 0 (List.replicate 25 0)=ArN (Lc s) 25:=by
  refine NAo (by assumption) fun k hk=>?_
  rw [ArN,List.length_map,List.length_range] at hk;rw [a3 k hk,ArN,um hk,<-NBl,show min 8 (200 - 8*k)=8 by omega]
 rw [hfin,mW];rfl
theorem LBL {x n:Nat} (hx:x<18446744073709551616) (hn:n<64):YO (x:Int) (n:Int)=some ((Aty n x:Nat):Int):=by
 have e0:wu64 (((BitVec.toNat ((BitVec.ofInt (IntKind.bits IntKind.u64) (wu64 (n:Int))) &&& (BitVec.ofInt (IntKind.bits IntKind.u64) 63))):Nat):Int)=(n:Int):=by rw [Oj (n:=n) (by omega)];refine (n64 (a:=n) (b:=63) (by omega) (by decide)).trans ?_;rw [show (63:Nat)=2 ^ 6 - 1 from rfl,Nat.and_two_pow_sub_one_eq_mod,Nat.mod_eq_of_lt (by omega)]
 have e1:wu64 (64 - (n:Int))=((64 - n:Nat):Int):=by grind [Oj]
 have e2:Min.min (n:Int).toNat (IntKind.bits IntKind.u64)=n:=by rw [BU];exact Nat.min_eq_left (by show n<=64;omega)
 have e3:Min.min ((64 - n:Nat):Int).toNat (IntKind.bits IntKind.u64)=64 - n:=by rw [BU];exact Nat.min_eq_left (by show 64 - n<=64;omega)
 have c:∀ k:Nat,(2:Int) ^ k=((2 ^ k:Nat):Int):=fun k=>by rfl
 have e4:wu64 ((x:Int)*((2 ^ n:Nat):Int))=(((x*2 ^ n) % 18446744073709551616:Nat):Int):=WBI (x*2 ^ n);have e5:Int.fdiv (x:Int) ((2 ^ (64 - n):Nat):Int)=((x / 2 ^ (64 - n):Nat):Int):=by grind
 rw [YO,XA1,mk,e0,e1,e2,e3,c,c,e4,e5,Atd (by rfl),o64 (Nat.mod_lt _ (by decide)) (Nat.lt_of_le_of_lt (Nat.div_le_self _ _) hx),GBj hn hx]
theorem PBl (a:List Nat):ArR (fun i c=>c.set (i % 5) (c.getD (i % 5) 0 ^^^ a.getD i 0)) 25 0 [0,0,0,0,0]=(List.range 5).map (AuV a):=by
 have h:ArR (fun i c=>c.set (i % 5) (c.getD (i % 5) 0 ^^^ a.getD i 0)) 25 0 [0,0,0,0,0]=(List.range 5).map fun x=>((((0 ^^^ a.getD x 0) ^^^ a.getD (x+5) 0) ^^^ a.getD (x+10) 0) ^^^ a.getD (x+15) 0) ^^^ a.getD (x+20) 0:=by kernel_rfl
 rw [h];refine List.map_congr_left fun x _=>?_
 rw [Nat.zero_xor];rfl
theorem QBl {a:List Nat} (ha:Pg a):xK (up a)=some (up ((List.range 25).map (Rl a))):=by
 obtain ⟨hl,hw⟩:=ha
 have w1:∀ i:Nat,i<30->AU ((i:Int)+1)=((i+1:Nat):Int):=fun i h=>wn (n:=i+1) (by omega)
 have hb:Nat.beq 25 (up a).length=true:=by simp_all [Ua]
 have s1:=FC (Hj:=V9) (st:=fun i c=>.c0 (up a) (i:Int) (up a) (up (List.replicate 25 0)) (up c)) (f:=fun i c=>c.set (i % 5) (c.getD (i % 5) 0 ^^^ a.getD i 0)) (P:=fun _ c=>c.length=5/\L8 c) (n:=25) 1 (fun m i c hi hc=>by
  refine ⟨?_,EBJ hc.1,hc.2.set _ (xlt (hc.2.get _) (hw.get _))⟩;have e:(i:Int).tmod 5=((i % 5:Nat):Int):=rfl;have h5:i % 5<5:=Nat.mod_lt _ (by decide);have hcl:=hc.1;have hb5:Nat.beq 5 (up c).length=true:=by simp_all [Ua]
  rw [V9];simp only [xM,mk,w1 i (by omega),e,BU,Ars];rw [Atd (by grind),hb,A8,Atd (Auw (by omega)),hb5,A8,Atd (Auw (by omega)),A8,Ata (hc.2.get _) (hw.get _),JF];first | rfl | (rw [Atd (Auw (by omega))]))
 have hc:((List.range 5).map (AuV a)).length=5:=by rfl
 have hb5:Nat.beq 5 (up ((List.range 5).map (AuV a))).length=true:=by rfl
 have s2:=FC (Hj:=V9) (st:=fun i b=>.c1 (i:Int) (up b) (up (List.replicate 25 0)) (up ((List.range 5).map (AuV a)))) (f:=fun i b=>b.set i (Rl a i)) (P:=fun i b=>b.length=25/\∀ k,i<=k->b.getD k 0=a.getD k 0) (n:=25) 1 (fun m i b hi hb=>by
  obtain ⟨hbl,hbk⟩:=hb
  refine ⟨?_,Zq hbl,fun k hk=>by grind⟩;have h5:i % 5<5:=Nat.mod_lt _ (by decide);have e:(i:Int).tmod 5=((i % 5:Nat):Int):=rfl;have e4:AU (((i % 5:Nat):Int)+4)=((i % 5+4:Nat):Int):=wn (n:=i % 5+4) (by omega);have e1:AU (((i % 5:Nat):Int)+1)=((i % 5+1:Nat):Int):=wn (n:=i % 5+1) (by omega);have e2:((i % 5+4:Nat):Int).tmod 5=(((i % 5+4) % 5:Nat):Int):=rfl;have e3:((i % 5+1:Nat):Int).tmod 5=(((i % 5+1) % 5:Nat):Int):=rfl;have h4:(i % 5+4) % 5<5:=Nat.mod_lt _ (by decide);have h1:(i % 5+1) % 5<5:=Nat.mod_lt _ (by decide);have Fu:Nat.beq 25 (up b).length=true:=by simp_all [Ua]
  have hr:YO ((AuV a ((i % 5+1) % 5):Nat):Int) 1=some ((Aty 1 (AuV a ((i % 5+1) % 5)):Nat):Int):=LBL (n:=1) (Uf hw _) (by decide);have hv:a.getD i 0 ^^^ (AuV a ((i % 5+4) % 5) ^^^ Aty 1 (AuV a ((i % 5+1) % 5)))=Rl a i:=rfl;rw [V9];simp only [xM,mk,w1 i (by omega),e,e4,e1,e2,e3,BU,Ars];rw [hbk i (Nat.le_refl _),um h1,um h4,hr,AO,Ata (Uf hw _) (jF (by decide) (Uf hw _)),Ata (hw.get _) (xlt (Uf hw _) (jF (by decide) (Uf hw _))),hv,JF,Atd (by grind),Fu,hb5,Auw (l:=b) (by omega),Auw (l:=(List.range 5).map (AuV a)) (by omega),Auw (l:=(List.range 5).map (AuV a)) (by omega)];rfl)
 obtain ⟨m,hm⟩:∃ m,AX=m+1+25*1+1+25*1:=⟨AX - 52,rfl⟩
 rw [xK,YA1,mk,hm,hb,A8];refine (s1 25 0 (m+1+25*1+1) [0,0,0,0,0] rfl ⟨rfl,BBJ 5⟩).1.trans ?_;rw [PBl,V9];simp only [xM,mk];rw [PY (by rfl)];refine (s2 25 0 (m+1) a rfl ⟨hl,fun _ _=>rfl⟩).1.trans ?_;rw [sQ hl,V9];rfl
theorem RBl {a:List Nat} (ha:Pg a):xO (up a)=some (up (lu fun n q=>Aty n (a.getD q 0))):=by
 obtain ⟨hl,hw⟩:=ha
 have ww:∀ n:Nat,n<1000->AU (n:Int)=(n:Int):=fun n h=>wn (by omega)
 have hb:Nat.beq 25 (up a).length=true:=by simp_all [Ua]
 have s:=FC (Hj:=mX) (st:=fun t (s:Nat×Nat×List Nat)=>.c0 (s.1:Int) (s.2.1:Int) (t:Int) (up a) (up (List.replicate 25 0)) (up s.2.2)) (f:=fun t s=>(s.2.1,(2*s.1+3*s.2.1) % 5,s.2.2.set (s.2.1+5*((2*s.1+3*s.2.1) % 5)) (Aty ((t+1)*(t+2) / 2 % 64) (a.getD (s.1+5*s.2.1) 0)))) (P:=fun _ s=>s.1<5/\s.2.1<5/\s.2.2.length=25) (n:=24) 1 (fun m t s ht hs=>by
  obtain ⟨x,y,o⟩:=s
  obtain ⟨hx,hy,ho⟩:=hs
  dsimp only at hx hy ho ⊢;have hz:(2*x+3*y) % 5<5:=Nat.mod_lt _ (by decide);refine ⟨?_,hy,hz,Zq ho⟩;have hb2:Nat.beq 25 (up o).length=true:=by simp_all [Ua]
  have e1:AU (5*(y:Int))=((5*y:Nat):Int):=ww (5*y) (by omega);have e2:AU ((x:Int)+((5*y:Nat):Int))=((x+5*y:Nat):Int):=ww (x+5*y) (by omega);have e3:AU (2*(x:Int))=((2*x:Nat):Int):=ww (2*x) (by omega);have e4:AU (3*(y:Int))=((3*y:Nat):Int):=ww (3*y) (by omega);have e5:AU (((2*x:Nat):Int)+((3*y:Nat):Int))=((2*x+3*y:Nat):Int):=ww (2*x+3*y) (by omega);have e6:((2*x+3*y:Nat):Int).tmod 5=(((2*x+3*y) % 5:Nat):Int):=rfl;have e7:AU (5*(((2*x+3*y) % 5:Nat):Int))=((5*((2*x+3*y) % 5):Nat):Int):=ww (5*((2*x+3*y) % 5)) (by omega);have e8:AU ((y:Int)+((5*((2*x+3*y) % 5):Nat):Int))=((y+5*((2*x+3*y) % 5):Nat):Int):=ww (y+5*((2*x+3*y) % 5)) (by omega);have f1:AU ((t:Int)+1)=((t+1:Nat):Int):=ww (t+1) (by omega);have f2:AU ((t:Int)+2)=((t+2:Nat):Int):=ww (t+2) (by omega);have f3:AU (((t+1:Nat):Int)*((t+2:Nat):Int))=(((t+1)*(t+2):Nat):Int):=ww ((t+1)*(t+2)) (Nat.lt_of_le_of_lt (Nat.mul_le_mul (show t+1<=24 by omega) (show t+2<=25 by omega)) (by decide));have hq:(t+1)*(t+2) / 2<1000:=Nat.lt_of_le_of_lt (Nat.div_le_self _ _) (Nat.lt_of_le_of_lt (Nat.mul_le_mul (show t+1<=24 by omega) (show t+2<=25 by omega)) (by decide));have f4:(((t+1)*(t+2):Nat):Int).tdiv 2=(((t+1)*(t+2) / 2:Nat):Int):=rfl;have f5:AU (((t+1)*(t+2) / 2:Nat):Int)=(((t+1)*(t+2) / 2:Nat):Int):=ww _ hq;have f6:(((t+1)*(t+2) / 2:Nat):Int).tmod 64=(((t+1)*(t+2) / 2 % 64:Nat):Int):=rfl;rw [mX];simp only [ANM,mk,e1,e2,e3,e4,e5,e6,e7,e8,f1,f2,f3,f4,f5,f6,BU,Ars];rw [LBL (hw.get _) (Nat.mod_lt _ (by decide)),AO,JF,Atd (by grind),hb,hb2,Auw (l:=a) (by omega),Auw (l:=o) (by omega)];rfl)
 obtain ⟨m,hm⟩:∃ m,AX=m+1+24*1:=⟨AX - 25,rfl⟩
 rw [xO,ZA1,mk,hm,hb,A8,Atd (by simp_all [Ua]),show (0:Int).toNat=0 from rfl,Ars];have h0:Aty 0 (a.getD 0 0)=a.getD 0 0:=ATZ (hw.get _);have e:=MBj (fun n q=>Aty n (a.getD q 0));rw [h0] at e;refine (s 24 0 (m+1) (1,0,[a.getD 0 0,0,0,0,0,0,0,0,0,0,0,0,0,0,0,0,0,0,0,0,0,0,0,0,0]) rfl ⟨show 1<5 by decide,show 0<5 by decide,rfl⟩).1.trans ?_;rw [e,mX];rfl
theorem SBl {b:List Nat} (hb:Pg b):xP (up b)=some (up ((List.range 25).map (Us b))):=by
 have ww:∀ n:Nat,n<1000->AU (n:Int)=(n:Int):=fun n h=>wn (by omega)
 have hbl:=hb.1;have hb1:Nat.beq 25 (up b).length=true:=by simp_all [Ua]
 have si:∀ y:Nat,y<5->∀ (m:Nat) (o:List Nat),o.length=25->_:=fun y hy=>fun m o ho=>(FC (Hj:=YP) (st:=fun x o=>.c1 (y:Int) (y:Int) (x:Int) (up b) (up (List.replicate 25 0)) (up o)) (f:=fun x o=>o.set (x+5*y) (Us b (x+5*y))) (P:=fun _ o=>o.length=25) (n:=5) 1 (fun m x o hx ho=>by
  refine ⟨?_,Zq ho⟩;have e1:AU (5*(y:Int))=((5*y:Nat):Int):=ww (5*y) (by omega);have e2:AU ((x:Int)+((5*y:Nat):Int))=((x+5*y:Nat):Int):=ww (x+5*y) (by omega);have e3:AU ((x:Int)+1)=((x+1:Nat):Int):=ww (x+1) (by omega);have e4:AU ((x:Int)+2)=((x+2:Nat):Int):=ww (x+2) (by omega);have e5:((x+1:Nat):Int).tmod 5=(((x+1) % 5:Nat):Int):=rfl;have e6:((x+2:Nat):Int).tmod 5=(((x+2) % 5:Nat):Int):=rfl;have h1:(x+1) % 5<5:=Nat.mod_lt _ (by decide);have h2:(x+2) % 5<5:=Nat.mod_lt _ (by decide);have e7:AU ((((x+1) % 5:Nat):Int)+((5*y:Nat):Int))=(((x+1) % 5+5*y:Nat):Int):=ww ((x+1) % 5+5*y) (by omega);have e8:AU ((((x+2) % 5:Nat):Int)+((5*y:Nat):Int))=(((x+2) % 5+5*y:Nat):Int):=ww ((x+2) % 5+5*y) (by omega);have hv:b.getD (x+5*y) 0 ^^^ ((18446744073709551615 - b.getD ((x+1) % 5+5*y) 0) &&& b.getD ((x+2) % 5+5*y) 0)=Us b (x+5*y):=by rw [Us,show (x+5*y) % 5=x by omega,show (x+5*y) / 5=y by omega]
  have hb2:Nat.beq 25 (up o).length=true:=by simp_all [Ua]
  rw [YP];simp only [DAl,mk,e1,e2,e3,e4,e5,e6,e7,e8,BU,Ars,m64];rw [Ata (by decide) (hb.2.get _),EBj (hb.2.get _),n64 (by omega) (hb.2.get _),Ata (hb.2.get _) (nlt (by omega)),hv,JF,Atd (by grind),hb1,hb2,Auw (l:=b) (by omega),Auw (l:=b) (by omega),Auw (l:=b) (by omega),Auw (l:=o) (by omega)];rfl) 5 0 m o rfl ho)
 have s:=FC (Hj:=YP) (st:=fun y o=>.c0 (y:Int) (up b) (up (List.replicate 25 0)) (up o)) (f:=fun y o=>ArR (fun x o=>o.set (x+5*y) (Us b (x+5*y))) 5 0 o) (P:=fun _ o=>o.length=25) (n:=5) 7 (fun m y o hy ho=>by
  obtain ⟨i1,i2⟩:=si y hy (m+1) o ho
  refine ⟨?_,i2⟩;have w1:AU ((y:Int)+1)=((y+1:Nat):Int):=ww (y+1) (by omega);grind [YP,DAl])
 obtain ⟨m,hm⟩:∃ m,AX=m+1+5*7:=⟨AX - 36,rfl⟩
 rw [xP,BA2,mk,hm];refine (s 5 0 (m+1) (List.replicate 25 0) rfl rfl).1.trans ?_;rw [KBj,YP];rfl
theorem TBl:∀ {i:Nat},i<24->EAl (i:Int)=some ((Ue.getD i 0:Nat):Int)
 | 0,_=>by kernel_rfl
 | 1,_=>by kernel_rfl
 | 2,_=>by kernel_rfl
 | 3,_=>by kernel_rfl
 | 4,_=>by kernel_rfl
 | 5,_=>by kernel_rfl
 | 6,_=>by kernel_rfl
 | 7,_=>by kernel_rfl
 | 8,_=>by kernel_rfl
 | 9,_=>by kernel_rfl
 | 10,_=>by kernel_rfl
 | 11,_=>by kernel_rfl
 | 12,_=>by kernel_rfl
 | 13,_=>by kernel_rfl
 | 14,_=>by kernel_rfl
 | 15,_=>by kernel_rfl
 | 16,_=>by kernel_rfl
 | 17,_=>by kernel_rfl
 | 18,_=>by kernel_rfl
 | 19,_=>by kernel_rfl
 | 20,_=>by kernel_rfl
 | 21,_=>by kernel_rfl
 | 22,_=>by kernel_rfl
 | 23,_=>by kernel_rfl
 | i+24,h=>absurd h (by omega)
theorem UBl (a:List Nat):(lu fun n q=>Aty n (((List.range 25).map (Rl a)).getD q 0))=Ats a:=by rfl
theorem VBl {a:List Nat} (ha:Pg a):FAl (up a)=some (up (uo a)):=by
 have s:=FC (Hj:=xQ) (st:=fun i a=>.c0 (i:Int) (up a) (up (List.replicate 25 0))) (f:=fun i a=>jG a (Ue.getD i 0)) (P:=fun _ a=>Pg a) (n:=24) 1 (fun m i a hi ha=>by
  refine ⟨?_,LA7 ha.2 (uw i)⟩;have w1:AU ((i:Int)+1)=((i+1:Nat):Int):=wn (n:=i+1) (by omega);have hb:Nat.beq 25 (up a).length=true:=by rw [Ua,ha.1];rfl
  have hth:Pg ((List.range 25).map (Rl a)):=⟨by rfl,fun x hx=>by
   rw [List.mem_map] at hx;obtain ⟨p,_,rfl⟩:=hx
   exact JA7 ha.2 _⟩
  have hch:=KA7 (KAo ha.2).2;have hb2:Nat.beq 25 (up ((List.range 25).map (Us (Ats a)))).length=true:=by rfl
  have hb3:Nat.beq (up ((List.range 25).map (Us (Ats a)))).length (up a).length=true:=by assumption
  rw [xQ];simp only [GA2,mk,w1];rw [Atd (by grind),hb,A8,QBl ha,AO,RBl hth,AO,UBl,SBl (KAo ha.2),AO,hb3,hb2,TBl (by omega),AO,show (0:Int).toNat=0 from rfl,Ars,NBj rfl rfl (hch.2.get _) (uw i),JF,show (decide ((0:Int)<=(0:Int)) && decide (0<((up ((List.range 25).map (Us (Ats a)))).length:Int)))=true from Auw (i:=0) (by simp)];rfl)
 obtain ⟨m,hm⟩:∃ m,AX=m+1+24*1:=⟨AX - 25,rfl⟩
 rw [FAl,FA2,mk,hm];refine (s 24 0 (m+1) a rfl ha).1.trans ?_;rfl
theorem WBl {a:List Nat} (ha:Pg a):GAl (up a)=some (ofBytes (up (Ot a))):=by
 have c2:∀ k:Nat,(2:Int) ^ k=((2 ^ k:Nat):Int):=fun k=>by rfl
 have hb:Nat.beq 25 (up a).length=true:=by rw [Ua,ha.1];rfl
 have hal:=ha.1
 have s1:=FC (Hj:=mZ) (st:=fun i o=>.c0 ((200:Nat):Int) (i:Int) (up a) (up o)) (f:=fun i o=>o.set i (U1 a i)) (P:=fun _ o=>o.length=200) (n:=200) 1 (fun m i o hi ho=>by
  refine ⟨?_,by simp_all⟩;have w1:AU ((i:Int)+1)=((i+1:Nat):Int):=wn (n:=i+1) (by omega);have e1:AU ((i:Int).tdiv 8)=((i / 8:Nat):Int):=wn (n:=i / 8) (by omega);have e2:(i:Int).tmod 8=((i % 8:Nat):Int):=rfl;have e3:AU (8*((i % 8:Nat):Int))=((8*(i % 8):Nat):Int):=wn (n:=8*(i % 8)) (by omega);have e4:Min.min (8*(i % 8)) (IntKind.bits IntKind.u64)=8*(i % 8):=Nat.min_eq_left (by show 8*(i % 8)<=64;omega);have e5:w8 (Int.fdiv ((a.getD (i / 8) 0:Nat):Int) ((2 ^ (8*(i % 8)):Nat):Int))=((U1 a i:Nat):Int):=by rw [ZP,Int.fdiv_eq_ediv_of_nonneg _ (Int.natCast_nonneg _)];rfl
  rw [mZ];simp only [JA2,mk,w1,e1,e2,e3,BU,e4,c2,Ars];rw [e5,JF,Atd (by grind),hb,Auw (l:=a) (by omega),Atd (a:=_) (by rfl),Atd (by rfl),Atd (by rfl),Atd (Auw (by omega))])
 obtain ⟨m,hm⟩:∃ m,AX=m+1+200*1:=⟨AX - 201,by rfl⟩
 rw [GAl,IA2,mk,hm,show (200:Int).toNat=200 from rfl,List.length_replicate,<-UO];refine (s1 200 0 (m+1) (List.replicate 200 0) (by omega) List.length_replicate).1.trans ?_;rw [sQ (v:=U1 a) List.length_replicate,mZ];rfl
theorem MBL {s:AA} (h:s.size=200):bH s=some (Zv s):=by have hl:=IBJ (Vp s);rw [bH,KA2,mk,PY (by simp_all),OBl h,AO,VBl hl,AO,WBl (MA7 hl)];rfl
theorem XBl {s:AA} {f:Nat} (hs:s.size<=2000) (hf:f<256):xR s 168 (f:Int)=some (jL s f):=by
 obtain ⟨q,hq,hq2⟩:=MBJ s f
 have hbuf:=LBJ s hf
 have sp:=FC (Hj:=AvQ) (st:=fun i l=>.c0 168 (up l)) (f:=fun _ l=>l++[0]) (P:=fun i l=>l.length=s.size+1+i) (n:=(168 - (s.size+1) % 168) % 168) 1 (fun m i l hi hl=>by
  grind [AvQ,YQ,Ua,NI])
 have si:∀ (p:Nat) (st:List Nat),p<q->Pg st->∀ m,∃ v,v.length=200/\B8 v/\ArN (Lc (ofBytes (up v))) 25=Zr st (fun i=>(Arf s f).getD (168*p+i) 0)/\AvQ (m+168*1) (.c2 168 ((168*p:Nat):Int) 168 ((0:Nat):Int) (up (Arf s f)) (up (Ot st)))=AvQ m (.c2 168 ((168*p:Nat):Int) 168 ((168:Nat):Int) (up (Arf s f)) (up v)):=by
  intro p st hp hst m;have hk8:B8 (Ot st):=JBJ st
  obtain ⟨a1,a2,a3,a4⟩:=FC (Hj:=AvQ) (st:=fun i v=>.c2 168 ((168*p:Nat):Int) 168 (i:Int) (up (Arf s f)) (up v)) (f:=fun i v=>v.set i (v.getD i 0 ^^^ (Arf s f).getD (168*p+i) 0)) (P:=fun i v=>v.length=200/\B8 v/\∀ k,k<200->v.getD k 0=if k<i then U1 st k ^^^ (Arf s f).getD (168*p+k) 0 else U1 st k) (n:=168) 1 (fun m i v hi hv=>by
   obtain ⟨v1,v2,v3⟩:=hv
   refine ⟨?_,by simp_all,v2.set _ (RA7 (v2.get _) (hbuf.get _)),fun k hk=>?_⟩;·have w1:AU ((i:Int)+1)=((i+1:Nat):Int):=wn (n:=i+1) (by omega);have e1:AU (((168*p:Nat):Int)+(i:Int))=((168*p+i:Nat):Int):=wn (n:=168*p+i) (by omega);rw [AvQ];simp only [YQ,mk,w1,e1,BU,Ars];rw [x8 (v2.get _) (hbuf.get _),JF,Atd (by grind),Atd (Auw (by omega)),Atd (Auw (by omega)),Atd (Auw (by omega))]
   grind) 168 0 m (Ot st) (by omega) ⟨RBj st,hk8,fun k hk=>by simp_all [Ot]⟩
  refine ⟨_,a2,a3,?_,a1⟩;generalize ArR (fun i v=>v.set i (v.getD i 0 ^^^ (Arf s f).getD (168*p+i) 0)) 168 0 (Ot st)=v at a2 a3 a4;refine List.map_congr_left fun k hk=>?_
  have hk:=List.mem_range.1 hk;by_cases h21:k<21
  ·rw [if_pos h21,<-HBJ hst.2,<-PBj (GBJ st) (fun _=>hbuf.get _)];refine OA7 fun i hi=>?_
   have h8:8*k+i<168:=by omega
   rw [MAo a3 (by omega),a4 _ (by omega),if_pos h8]
  ·rw [if_neg h21,<-HBJ hst.2];refine OA7 fun i hi=>?_
   have h8:¬ 8*k+i<168:=by omega
   rw [MAo a3 (by omega),a4 _ (by omega),if_neg h8]
 have so:=FC (Hj:=AvQ) (st:=fun p st=>.c1 168 ((168*p:Nat):Int) (up (Arf s f)) (up (Ot st))) (f:=jM (Arf s f)) (P:=fun _ st=>Pg st) (n:=q) 170 (fun m p st hp hst=>by
  refine ⟨?_,UA7 hbuf hst⟩;have e1:AU (((168*p:Nat):Int)+168)=((168*(p+1):Nat):Int):=by rw [show ((168*p:Nat):Int)+168=((168*(p+1):Nat):Int) by omega];exact wn (n:=168*(p+1)) (by omega)
  obtain ⟨v,v1,v2,v3,v4⟩:=si p st hp hst (m+1)
  have hvs:(ofBytes (up v)).size=200:=by grind [DK,Ua]
  have hps:=KBJ (ofBytes (up v));rw [show m+170=(m+1)+168*1+1 by omega,AvQ];simp only [YQ,mk];rw [Atd (by simp_all [Ua])];refine v4.trans ?_;rw [AvQ];simp only [YQ,mk,e1];rw [PY (by rfl),MBL hvs,AO,Atd (by rfl),Zv,v3,Zu,TBj (JBJ _)];rfl)
 have Fs:(168 - (s.size+1) % 168) % 168<168:=Nat.mod_lt _ (by decide);have hl1:(Atx s++[f]).length=s.size+1:=by simp [Zt]
 obtain ⟨m,hm⟩:∃ m,AX=(m+1+q*170)+1+((168 - (s.size+1) % 168) % 168)*1:=⟨AX - (1+q*170+1+(168 - (s.size+1) % 168) % 168),by have:=FP (n:=1+q*170+1+(168 - (s.size+1) % 168) % 168) (by omega);omega⟩
 have hzs:(bytesOf s).length=s.size:=by simp_all [Zu,Ua]
 rw [xR,LA2,mk,hm,Atd (by grind),Atd (by grind),Zu,NI];refine (sp ((168 - (s.size+1) % 168) % 168) 0 _ (Atx s++[f]) (by omega) hl1).1.trans ?_;have hpl:ArR (fun _ l=>l++[0]) ((168 - (s.size+1) % 168) % 168) 0 (Atx s++[f])=Asf (Atx s++[f]):=by simp_all [jK,Asf]
 have C8:B8 (Asf (Atx s++[f])):=QA7 (SA7 s hf);have Cx:=PA7 (Atx s++[f]);rw [hl1] at Cx;have e2:((up (Asf (Atx s++[f]))).length:Int).tmod 168=(((up (Asf (Atx s++[f]))).length % 168:Nat):Int):=rfl;have e3:AU (((up (Asf (Atx s++[f]))).length:Int) - 1)=(((Asf (Atx s++[f])).length - 1:Nat):Int):=by grind [Ua,wn]
 have hz0:Ot (List.replicate 25 0)=List.replicate 200 0:=by kernel_rfl
 rw [hpl,AvQ];simp only [YQ,mk,e2,e3,BU,Ars];rw [Atd (by rfl),PY (by grind [Ua]),Atd (Auw (by omega)),Atd (Auw (by omega)),show (128:Int)=((128:Nat):Int) from rfl,x8 (C8.get _) (by decide),JF,show (200:Int).toNat=200 from rfl,<-UO,<-hz0];show AvQ (m+1+q*170) (.c1 168 0 (up (Arf s f)) (up (Ot (List.replicate 25 0))))=_;refine (so q 0 (m+1) (List.replicate 25 0) (by omega) TA7).1.trans ?_;have hfin:ArR (jM (Arf s f)) q 0 (List.replicate 25 0)=jO s f:=by simp_all [jO]
 rw [hfin,AvQ];simp only [YQ,mk];rw [PY (by simp_all [Ua])];rfl
theorem NBL {s:AA} (h:s.size<=2000):mg s=some ⟨sd s,0⟩:=by have e:xR s 168 31=some (jL s 31):=XBl (f:=31) h (by decide);rw [mg,MA2,e];rfl
theorem OBL {S:AA} {p n:Nat} {x:FY} (hS:S.size=200) (h:L9 S p x) (hn:n<=4000):∃ x',bI x (n:Int)=some (x',ofBytes (up (Ea S p n)))/\L9 S (p+n) x':=by
 have key:∀ (r m:Nat) (x:FY) (v:FY) (o:List Nat),n - o.length=r->r<m->o.length<=n->L9 S (p+o.length) x->∃ x',nC m (.c0 (n:Int) (ofBytes (up o)) x v)=some (x',ofBytes (up (o++Ea S (p+o.length) (n - o.length))))/\L9 S (p+n) x':=by
  intro r;induction r using Nat.strongRecOn with
  | ind r ih=>
  intro m x v o hr hm ho hx;obtain ⟨m,rfl⟩:∃ m',m=m'+1:=⟨m - 1,by omega⟩
  have hos:(ofBytes (up o)).size=o.length:=by rw [DK,Ua]
  rw [nC];simp only [OA2,mk];by_cases hlt:o.length<n
  ·have en:AU ((n:Int) - ((ofBytes (up o)).size:Int))=((n - o.length:Nat):Int):=by grind [wn]
   rw [Atd (by simp_all)];have go:∀ (q a k:Nat),168*q+a=p+o.length->a+k<=168->0<k->k<=n - o.length->∃ x',nC m (.c0 (n:Int) (ofBytes (up o)++(AvF S q).extract a (a+k)) ⟨AvF S q,((a+k:Nat):Int)⟩ v)=some (x',ofBytes (up (o++Ea S (p+o.length) (n - o.length))))/\L9 S (p+n) x':=by
    intro q a k h1 h2 h3 h4;rw [<-XBj ((AvF S q).extract a (a+k)),chunk hS h2,YBj,h1];have hl:(o++Ea S (p+o.length) k).length=o.length+k:=by simp [PAo]
    obtain ⟨x',e1,e2⟩:=ih (n - (o.length+k)) (by omega) m ⟨AvF S q,((a+k:Nat):Int)⟩ v (o++Ea S (p+o.length) k) (by rw [hl]) (by omega) (by omega) ⟨q,a+k,rfl,by omega,h2⟩
    refine ⟨x',?_,e2⟩;rw [e1,hl,List.append_assoc,<-Nat.add_assoc,PBJ,show k+(n - (o.length+k))=n - o.length by omega]
   obtain ⟨q,a,rfl,ha,ha2⟩:=hx
   have hz:=Zx hS q;have hz2:=Zx hS (q+1);have big:∀ (T:AA) (i j:Nat),T.size=200->decide ((ofBytes (up o)).size+(T.extract i j).size<=9223372036854775807)=true:=fun T i j hT=>by grind [ByteArray.size_extract]
   dsimp only;by_cases C4:a=168
   ·subst C4;rw [Atd (by rfl),MBL hz,AO,show Zv (AvF S q)=AvF S (q+1) from rfl,en,show AU ((168:Int) - (0:Int))=168 by decide];by_cases hk:168<n - o.length;·have b1:=big (AvF S (q+1)) 0 (0+168) hz2;rw [if_pos (show (168:Int)<((n - o.length:Nat):Int) by omega),show AU (0+168)=((0+168:Nat):Int) by decide,show (0:Int).toNat=0 from rfl,BU,Atd (by rw [Bool.and_eq_true,Bool.and_eq_true,decide_eq_true_eq,decide_eq_true_eq,decide_eq_true_eq];omega),b1,A8];exact go (q+1) 0 168 (by omega) (by omega) (by omega) (by omega)
    ·have e0:AU (0+((n - o.length:Nat):Int))=((0+(n - o.length):Nat):Int):=by grind
     have b1:=big (AvF S (q+1)) 0 (0+(n - o.length)) hz2;rw [if_neg (show ¬ (168:Int)<((n - o.length:Nat):Int) by omega),e0,show (0:Int).toNat=0 from rfl,BU,Atd (by grind),b1,A8];exact go (q+1) 0 (n - o.length) (by omega) (by omega) (by omega) (Nat.le_refl _)
   ·have ea:AU (168 - (a:Int))=((168 - a:Nat):Int):=by grind [wn]
    rw [PY (by grind),en,ea,BU];by_cases hk:168 - a<n - o.length;·have e0:AU ((a:Int)+((168 - a:Nat):Int))=((a+(168 - a):Nat):Int):=wn (n:=a+(168 - a)) (by omega);have b1:=big (AvF S q) a (a+(168 - a)) hz;rw [if_pos (show ((168 - a:Nat):Int)<((n - o.length:Nat):Int) by omega),e0,BU,Atd (by grind),b1,A8];grind
    ·have e0:AU ((a:Int)+((n - o.length:Nat):Int))=((a+(n - o.length):Nat):Int):=wn (n:=a+(n - o.length)) (by omega);have b1:=big (AvF S q) a (a+(n - o.length)) hz;rw [if_neg (show ¬ ((168 - a:Nat):Int)<((n - o.length:Nat):Int) by omega),e0,BU,Atd (by grind),b1,A8];grind
  grind [Ea]
 obtain ⟨q,a,rfl,ha,ha2⟩:=h
 have h1:=Zx hS q;have hi1:AvO ((n:Nat):Int) 0 4000=true:=DU.2 (by omega);have hi2:AvO ((a:Nat):Int) 0 168=true:=DU.2 (by omega);rw [bI,NA2,mk,JJ,AO,hi1,DZ,Aw,PY (by simp_all),JJ,AO,hi2,DZ,Aw];obtain ⟨x',e1,e2⟩:=key n AX ⟨AvF S q,(a:Int)⟩ ⟨⟨#[]⟩,0⟩ [] (by rfl) (FP (by omega)) (DF _) ⟨q,a,rfl,ha,ha2⟩
 exact ⟨x',e1,e2⟩
theorem YBl {s:AA} {n:Nat} (h:s.size<=2000) (hn:n<=4000):nD s (n:Int)=some (ofBytes (up (Ea (sd s) 0 n)),true):=by
 obtain ⟨x',e,_⟩:=OBL (n:=n) (QAo s) (RAo s) hn
 rw [nD,PA2,mk,JJ,AO,DU.2 (by omega),DZ,Aw,NBL h,AO,e];rfl
theorem ZY {n:Int}:AsG n=some (n % 3329):=by
 have h:(AU ((n.tmod 3329)+3329)).tmod 3329=n % 3329:=by grind [Ar]
 rw [AsG,QA2,mk,h]
theorem PBL {seed:AA} {n:Nat} (h:seed.size<=1000) (hn:n<256):xU seed (n:Int)=some (up (AtQ seed n)):=by
 have h1:Ass (n:Int)=some (Asx n):=As5 (by omega) (by omega);have hz:(Asx n).size=1:=by rfl
 have h2:=YBl (s:=seed++Asx n) (n:=128) (by grind) (by omega);have hs:(ofBytes (up (Ea (sd (seed++Asx n)) 0 128))).size=128:=by rfl
 have h2:nD (seed++Asx n) 128=_:=h2;rw [xU,RA2,mk,h1,AO,Atd (by grind),h2,AO];dsimp only;rw [AtQ];generalize ofBytes (up (Ea (sd (seed++Asx n)) 0 128))=s at hs;have c2:∀ k:Nat,(2:Int) ^ k=((2 ^ k:Nat):Int):=fun k=>by rfl
 have sl:=FC (Hj:=nG) (st:=fun i o=>.c0 s ((256:Nat):Int) (i:Int) (up o)) (f:=fun i o=>o.set i (Xu (Lc s (i / 2) / 2 ^ (4*(i % 2))))) (P:=fun _ o=>o.length=256) (n:=256) 1 (fun m i o hi ho=>by
  refine ⟨?_,by simp_all⟩;have hb:=Vp s (i / 2);have w1:AU ((i:Int)+1)=((i+1:Nat):Int):=wn (n:=i+1) (by omega);have e1:AU ((i:Int).tdiv 2)=((i / 2:Nat):Int):=wn (n:=i / 2) (by omega);have e2:(i:Int).tmod 2=((i % 2:Nat):Int):=rfl;have e3:AU (4*((i % 2:Nat):Int))=((4*(i % 2):Nat):Int):=wn (n:=4*(i % 2)) (by omega);have e4:Min.min (4*(i % 2)) (IntKind.bits IntKind.u8)=4*(i % 2):=Nat.min_eq_left (by show 4*(i % 2)<=8;omega);have fd:∀ (a k:Nat),Int.fdiv (a:Int) ((2 ^ k:Nat):Int)=((a / 2 ^ k:Nat):Int):=fun a k=>by grind
  have hb2:Lc s (i / 2) / 2 ^ (4*(i % 2))<256:=Nat.lt_of_le_of_lt (Nat.div_le_self _ _) hb;have m1:Min.min (1:Int).toNat (IntKind.bits IntKind.i64)=1:=by decide
  have m2:Min.min (2:Int).toNat (IntKind.bits IntKind.i64)=2:=by decide
  have m3:Min.min (3:Int).toNat (IntKind.bits IntKind.i64)=3:=by decide
  rw [nG];simp only [SA2,mk,w1,e1,e2,e3,BU,e4,Qi,m1,m2,m3,c2,fd];generalize Lc s (i / 2) / 2 ^ (4*(i % 2))=b at hb2;have hd:∀ k,b / 2 ^ k<=b:=fun k=>Nat.div_le_self _ _
  have d1:=hd 1;have d2:=hd 2;have d3:=hd 3;rw [wn (n:=b) (by omega)];simp only [fd];rw [and1 (n:=b) (by omega),and1 (n:=b / 2 ^ 1) (by omega),and1 (n:=b / 2 ^ 2) (by omega),and1 (n:=b / 2 ^ 3) (by omega),show b / 2 ^ 1=b / 2 from rfl,show b / 2 ^ 2=b / 4 from rfl,show b / 2 ^ 3=b / 8 from rfl,Ar (n:=((b % 2:Nat):Int)+((b / 2 % 2:Nat):Int)) (by omega) (by omega),Ar (n:=((b % 2:Nat):Int)+((b / 2 % 2:Nat):Int) - ((b / 4 % 2:Nat):Int)) (by omega) (by omega),Ar (n:=((b % 2:Nat):Int)+((b / 2 % 2:Nat):Int) - ((b / 4 % 2:Nat):Int) - ((b / 8 % 2:Nat):Int)) (by omega) (by omega),ZY,AO,show (((b % 2:Nat):Int)+((b / 2 % 2:Nat):Int) - ((b / 4 % 2:Nat):Int) - ((b / 8 % 2:Nat):Int)) % 3329=((Xu b:Nat):Int) by rw [Xu];omega,JF,Atd (by grind),Ht (by omega),Atd (by rfl),Atd (Auw (by omega))])
 obtain ⟨m,hm⟩:∃ m,AX=m+1+256*1:=⟨AX - 257,by rfl⟩
 rw [hm,show (256:Int).toNat=256 from rfl,List.length_replicate,<-UO];refine (sl 256 0 (m+1) (List.replicate 256 0) (by omega) List.length_replicate).1.trans ?_;rw [sQ (v:=fun i=>Xu (Lc s (i / 2) / 2 ^ (4*(i % 2)))) List.length_replicate,nG];rfl
theorem QBL {seed:AA} {f:Nat} (h:seed.size<=1000) (hf:f<255):Zc seed (f:Int)=some [up (AtQ seed f),up (AtQ seed (f+1))]:=by
 have e0:AU ((f:Int)+0)=(f:Int):=by grind [wn]
 have e1:AU ((f:Int)+1)=((f+1:Nat):Int):=wn (n:=f+1) (by omega);have w0:AU (0+1)=1:=by decide
 have w1:AU (1+1)=2:=by decide
 obtain ⟨m,hm⟩:∃ m,AX=m+3:=⟨AX - 3,rfl⟩
 rw [Zc,TA2,hm];rw [xW];simp only [HAl,mk];rw [Atd (by rfl),e0,PBL h (by omega),AO,Atd (by rfl),w0];rw [xW];simp only [HAl,mk];rw [Atd (by rfl),e1,PBL h (by omega),AO,Atd (by rfl),w1];rfl
theorem gV {l:List Nat} (h:Aru l):Ar2 (up l)=some true:=by
 have hl:=h.1
 have s:=FC (Hj:=nH) (st:=fun i (_:Unit)=>.c0 (up l) (up l) ((up l).length:Int) (i:Int)) (f:=fun _ a=>a) (P:=fun _ _=>True) (n:=256) 1 (fun m i _ hi _=>by
  refine ⟨?_,trivial⟩;have w1:AU ((i:Int)+1)=((i+1:Nat):Int):=wn (n:=i+1) (by omega);have hq:=h.get i;grind [nH,IAl,BU,Ars,Ua,JJ,DU])
 obtain ⟨m,hm⟩:∃ m,AX=m+1+256*1:=⟨AX - 257,by rfl⟩
 rw [Ar2,UA2,mk,hm];refine (s 256 0 (m+1) () (by omega) trivial).1.trans ?_;simp_all [nH,IAl,mk,Ua]
theorem ZBl {l:List Int} (h:l.length<=1000):xX l=some l:=by rw [xX,VA2,mk,Atd (by grind)]
theorem RBL {n:Nat} (h:n<128):bJ (n:Int)=some ((t7 n:Nat):Int):=by
 have c2:∀ k:Nat,(2:Int) ^ k=((2 ^ k:Nat):Int):=fun k=>by rfl
 have fd:∀ (a k:Nat),Int.fdiv (a:Int) ((2 ^ k:Nat):Int)=((a / 2 ^ k:Nat):Int):=fun a k=>by grind
 have s:=FC (Hj:=xY) (st:=fun i (o:Nat)=>.c0 (n:Int) (o:Int) (i:Int)) (f:=fun i o=>2*o+n / 2 ^ i % 2) (P:=fun i o=>o<2 ^ i) (n:=7) 1 (fun m i o hi ho=>by
  have hp:2 ^ (i+1)<=2 ^ 7:=Nat.pow_le_pow_right (by decide) hi;have hlt:2*o+n / 2 ^ i % 2<2 ^ (i+1):=by omega
  refine ⟨?_,hlt⟩;have hd:n / 2 ^ i<=n:=Nat.div_le_self _ _;have GQ:(2:Nat) ^ 7=128:=rfl;have w1:AU ((i:Int)+1)=((i+1:Nat):Int):=wn (n:=i+1) (by omega);have m1:Min.min i (IntKind.bits IntKind.i64)=i:=Nat.min_eq_left (by show i<=64;omega);have e3:AU (2*(o:Int))=((2*o:Nat):Int):=wn (n:=2*o) (by omega);have e4:AU (((2*o:Nat):Int)+((n / 2 ^ i % 2:Nat):Int))=((2*o+n / 2 ^ i % 2:Nat):Int):=wn (n:=2*o+n / 2 ^ i % 2) (by omega);rw [xY];simp only [XA2,mk,w1,BU,m1,c2,fd,e3];rw [and1 (n:=n / 2 ^ i) (by omega),e4,Atd (by grind),Atd (by rfl)])
 obtain ⟨m,hm⟩:∃ m,AX=m+1+7*1:=⟨AX - 8,rfl⟩
 rw [bJ,WA2,hm];refine (s 7 0 (m+1) 0 (by omega) (by decide)).1.trans ?_;rfl
theorem SBL {e:Nat} (he:e<1024):bK 17 (e:Int)=some ((Xd e:Nat):Int):=by
 have key:∀ (k b e o m:Nat),e<2 ^ k->b<3329->o<3329->e<1024->xZ (m+k+1) (.c0 (b:Int) (e:Int) (o:Int))=some ((Xv k b e o:Nat):Int):=by
  intro k;induction k with
  | zero=>
   intro b e o m h _ _ _;obtain rfl:e=0:=by omega
   rfl
  | succ k ih=>
   intro b e o m h hb ho he;rw [ArJ m k,xZ,Xv];simp only [ZA2,mk];by_cases h0:e=0;·simp_all
   ·have e1:AU ((e:Int).tdiv 2)=((e / 2:Nat):Int):=wn (n:=e / 2) (by omega);have e2:(e:Int).tmod 2=((e % 2:Nat):Int):=rfl;rw [Atd (by grind),e1,e2,ZX hb hb,ZX ho hb,if_neg h0];have hk:e / 2<2 ^ k:=by omega
    by_cases h1:e % 2=1;·rw [if_pos h1,h1,Atd (by rfl)];exact ih _ _ _ _ hk (Nat.mod_lt _ (by decide)) (Nat.mod_lt _ (by decide)) (by omega)
    ·rw [if_neg h1,PY (by simp_all)];exact ih _ _ _ _ hk (Nat.mod_lt _ (by decide)) ho (by omega)
 obtain ⟨m,hm⟩:∃ m,AX=m+10+1:=⟨AX - 11,rfl⟩
 rw [bK,YA2,JJ,AO,DU.2 (by omega),DZ,Aw,ZY,AO,hm];exact key 10 17 e 1 m he (by decide) (by decide) he
theorem Af0 {p:List Nat} (h:Aru p):bM (up p)=some (up (jV p)):=by
 have inner:∀ (k size start z:Nat) (m:Nat) (o:List Nat),0<size->start+2*size<=256->z<3329->Aru o->Py (m+size*1) (.c2 (k:Int) (size:Int) (start:Int) (z:Int) (start:Int) (up o))=Py m (.c2 (k:Int) (size:Int) (start:Int) (z:Int) ((start+size:Nat):Int) (up (ArR (fun j o=>jW z size (start+j) o) size 0 o))):=fun k size start z m o hs hst hz ho=>(FC (Hj:=Py) (st:=fun j o=>.c2 (k:Int) (size:Int) (start:Int) (z:Int) ((start+j:Nat):Int) (up o)) (f:=fun j o=>jW z size (start+j) o) (P:=fun _ o=>Aru o) (n:=size) 1 (fun m j o hj ho=>by
  refine ⟨?_,WA7 ho _ _ _⟩;have hl:=ho.1;have h1:=ho.get (start+j);have h2:=ho.get (start+j+size);have e1:AU (((start+j:Nat):Int)+1)=((start+(j+1):Nat):Int):=wn (n:=start+(j+1)) (by omega);have e2:AU (((start+j:Nat):Int)+(size:Int))=((start+j+size:Nat):Int):=wn (n:=start+j+size) (by omega);have e3:AU ((start:Int)+(size:Int))=((start+size:Nat):Int):=wn (n:=start+size) (by omega);have hzb:z*o.getD (start+j+size) 0<3329*3329:=Nat.mul_lt_mul'' hz h2;have e4:AU ((z:Int)*((o.getD (start+j+size) 0:Nat):Int))=((z*o.getD (start+j+size) 0:Nat):Int):=by rw [show (z:Int)*((o.getD (start+j+size) 0:Nat):Int)=((z*o.getD (start+j+size) 0:Nat):Int) from (Int.natCast_mul _ _).symm];exact wn (by omega)
  rw [Py];simp only [bP,mk,e1,e2,e3,BU,Ars,e4];have e5:AU (((o.getD (start+j) 0:Nat):Int)+((z*o.getD (start+j+size) 0:Nat):Int)) % 3329=(((o.getD (start+j) 0+z*o.getD (start+j+size) 0 % 3329) % 3329:Nat):Int):=by grind [Ar]
  have e6:AU (((o.getD (start+j) 0:Nat):Int) - ((z*o.getD (start+j+size) 0:Nat):Int)) % 3329=(((o.getD (start+j) 0+3329 - z*o.getD (start+j+size) 0 % 3329) % 3329:Nat):Int):=by grind [Ar]
  rw [ZY,AO,ZY,AO,e5,e6,JF,JF,Atd (by simp_all),Atd (Auw (by omega)),Atd (Auw (by omega)),Atd (Auw (by omega)),Atd (Auw (by omega)),Atd (Auw (by grind)),List.set_comm _ _ (show start+j≠start+j+size by omega)];rfl) size 0 m o (by omega) ho).1
 have level:∀ (k0 size c:Nat) (m:Nat) (o:List Nat),1<size->size*c=128->k0=c->Aru o->Py (m+1+c*(size+2)+1) (.c0 (k0:Int) (size:Int) (up o))=Py m (.c0 ((k0+c:Nat):Int) ((size / 2:Nat):Int) (up (Uj k0 size c o))):=by
  intro k0 size c m o hs hc hk ho;have hsc:size<=128/\c<=64:=by refine ⟨Nat.le_of_dvd (by decide) ⟨c,hc.symm⟩,?_⟩;have h2:2*c<=size*c:=Nat.mul_le_mul_right c hs;omega
  have s:=FC (Hj:=Py) (st:=fun i o=>.c1 ((k0+i:Nat):Int) (size:Int) ((2*size*i:Nat):Int) (up o)) (f:=UAo k0 size) (P:=fun _ o=>Aru o) (n:=c) (size+2) (fun m i o hi ho=>by
   refine ⟨?_,XA7 ho _ _ _⟩;have hb:size*(i+1)<=size*c:=Nat.mul_le_mul_left size hi;have hb2:2*size*i=2*(size*i):=Nat.mul_assoc 2 size i;have hb3:2*size*(i+1)=2*size*i+2*size:=Nat.mul_succ _ _;rw [Nat.mul_succ] at hb;have e1:AU (((k0+i:Nat):Int)+1)=((k0+(i+1):Nat):Int):=wn (n:=k0+(i+1)) (by omega);have e2:AU (2*(size:Int))=((2*size:Nat):Int):=wn (n:=2*size) (by omega);have e3:AU (((2*size*i:Nat):Int)+((2*size:Nat):Int))=((2*size*(i+1):Nat):Int):=by grind [wn]
   have e4:AU (((2*size*i:Nat):Int)+(size:Int))=((2*size*i+size:Nat):Int):=wn (n:=2*size*i+size) (by omega);have h7:=TAo (k0+i);rw [show m+(size+2)=m+1+size*1+1 by omega,Py];simp only [bP,mk,e1];rw [Atd (by grind),RBL (n:=k0+i) (by omega),AO,SBL (e:=t7 (k0+i)) (by omega),AO];refine (inner (k0+(i+1)) size (2*size*i) _ (m+1) o (by omega) (by omega) (SAo _) ho).trans ?_;rw [Py];simp only [bP,mk,e2,e3,e4];rw [PY (by simp)];rfl)
  rw [Py];simp only [bP,mk];rw [Atd (by grind)];refine (s c 0 (m+1) o (by omega) ho).1.trans ?_;have hb2:2*size*c=256:=by grind
  have e5:AU ((size:Int).tdiv 2)=((size / 2:Nat):Int):=wn (n:=size / 2) (by omega);rw [Py];simp only [bP,mk,e5];rw [PY (by simp_all)];rfl
 have hl:=h.1;obtain ⟨m,hm⟩:∃ m,AX=m+1+1+64*(2+2)+1+1+32*(4+2)+1+1+16*(8+2)+1+1+8*(16+2)+1+1+4*(32+2)+1+1+2*(64+2)+1+1+1*(128+2)+1:=⟨AX - 1165,by rfl⟩
 rw [bM,ANl,mk,gV h,AO,DZ,Aw,ZBl (by grind [Ua]),AO,hm];have o1:=Au7 h 1 128 1;have o2:=Au7 o1 2 64 2;have o3:=Au7 o2 4 32 4;have o4:=Au7 o3 8 16 8;have o5:=Au7 o4 16 8 16;have o6:=Au7 o5 32 4 32;refine (level 1 128 1 _ p (by omega) rfl rfl h).trans ?_;refine (level 2 64 2 _ _ (by omega) rfl rfl o1).trans ?_;refine (level 4 32 4 _ _ (by omega) rfl rfl o2).trans ?_;refine (level 8 16 8 _ _ (by omega) rfl rfl o3).trans ?_;refine (level 16 8 16 _ _ (by omega) rfl rfl o4).trans ?_;refine (level 32 4 32 _ _ (by omega) rfl rfl o5).trans ?_;refine (level 64 2 64 (m+1) _ (by omega) rfl rfl o6).trans ?_;rfl
theorem TBL {a b:List Nat} (ha:Aru a) (hb:Aru b):Zd [up a,up b]=some [up (jV a),up (jV b)]:=by
 have w0:AU (0+1)=1:=by decide
 have w1:AU (1+1)=2:=by decide
 obtain ⟨m,hm⟩:∃ m,AX=m+3:=⟨AX - 3,rfl⟩
 rw [Zd,BA3,hm];grind [KAl,CA3,Af0]
theorem UBL {seed:AA} {i j:Nat} (h:seed.size<=1000) (hi:i<256) (hj:j<256):ZW seed (i:Int) (j:Int)=some (up (Hg seed i j)):=by
 have h1:Ass (i:Int)=some (Asx i):=As5 (by omega) (by omega);have h2:Ass (j:Int)=some (Asx j):=As5 (by omega) (by omega);have hz:∀ n,(Asx n).size=1:=fun n=>by rfl
 have hz1:=hz i;have hz2:=hz j;have hsz:((seed++Asx i)++Asx j).size=seed.size+2:=by simp_all
 rw [ZW,DA3,mk,h1,AO,Atd (by grind),h2,AO,Atd (by grind),NBL (by omega),AO,Hg];generalize hS:sd ((seed++Asx i)++Asx j)=S;have hSz:S.size=200:=by grind [QAo]
 have inner:∀ (k:Nat) (x:FY) (m:Nat) (o:List Nat),k<4000->o.length<256->At4 (m+3) (.c1 (o.length:Int) (k:Int) 2 0 x (up (JI o)) [((Asr S k:Nat):Int),((AsC S k:Nat):Int)])=At4 m (.c0 (((Ar4 S k o).length:Nat):Int) ((k+1:Nat):Int) x (up (JI (Ar4 S k o)))):=by
  intro k x m o hk ho;have one:∀ (v:Nat) (m:Nat) (o:List Nat) (u:Int) (y:Nat),(u=0/\y=Asr S k\/u=1/\y=AsC S k)->o.length<=256->At4 (m+1) (.c1 (o.length:Int) (k:Int) 2 u x (up (JI o)) [((Asr S k:Nat):Int),((AsC S k:Nat):Int)])=At4 m (.c1 (((Qw y o).length:Nat):Int) (k:Int) 2 (u+1) x (up (JI (Qw y o))) [((Asr S k:Nat):Int),((AsC S k:Nat):Int)]):=by
   intro v m o u y hu ho;have hg:([((Asr S k:Nat):Int),((AsC S k:Nat):Int)]:List Int).getD u.toNat 0=(y:Int):=by grind
   have hc:(decide (0<=u) && decide (u<(([((Asr S k:Nat):Int),((AsC S k:Nat):Int)]:List Int).length:Int)))=true:=by grind
   have hu2:u<2/\AU (u+1)=u+1:=by rcases hu with ⟨rfl,rfl⟩ | ⟨rfl,rfl⟩ <;> decide
   have hw:AU ((o.length:Int)+1)=((o.length+1:Nat):Int):=wn (n:=o.length+1) (by omega);have hpl:(JI o).length=256:=by simp_all [JI]
   rw [At4];simp only [nI,mk];rw [Atd (by simp_all),hc,A8,hg,hu2.2,hw,Qw];by_cases h1:y<3329
   ·rw [Atd (by grind)];by_cases h2:o.length<256;·rw [Atd (by grind),Atd (Auw (by omega)),BU,JF,DBk h2,if_pos ⟨h1,h2⟩,List.length_append,List.length_singleton]
    grind
   grind
  have hl1:(Qw (Asr S k) o).length<=256:=by grind [Qw]
  have hw:AU ((k:Int)+1)=((k+1:Nat):Int):=wn (n:=k+1) (by omega);refine (one 0 (m+2) o 0 _ (.inl ⟨rfl,rfl⟩) (by omega)).trans ?_;refine (one 0 (m+1) _ (0+1) _ (.inr ⟨rfl,rfl⟩) hl1).trans ?_;rw [At4];simp only [nI,mk,hw];rfl
 have key:∀ (r k:Nat) (m:Nat) (x:FY) (o:List Nat),k+r=4000->UQ o->L9 S (3*k) x->At4 (m+r*4+1) (.c0 (o.length:Int) (k:Int) x (up (JI o)))=some (up (JI (Xt S r k o))):=by
  intro r;induction r with
  | zero=>
   intro k m x o hk ho hx;rw [At4];simp only [nI,mk];rw [PY (by simp_all)];rfl
  | succ r ih=>
   intro k m x o hk ho hx;rw [show m+(r+1)*4+1=(m+r*4+1)+3+1 by omega,At4,Xt];simp only [nI,mk];rw [Atd (by grind)];by_cases hlt:o.length<256
   ·obtain ⟨x',e,hx'⟩:=OBL (n:=3) hSz hx (by omega)
    have e:bI x 3=_:=e;have hs3:(ofBytes (up (Ea S (3*k) 3))).size=3:=by rfl
    have t0:bt (ofBytes (up (Ea S (3*k) 3))) 0=((strm S (3*k):Nat):Int):=by grind [Qi,Vq]
    have t1:bt (ofBytes (up (Ea S (3*k) 3))) 1=((strm S (3*k+1):Nat):Int):=by grind [Qi,Vq]
    have t2:bt (ofBytes (up (Ea S (3*k) 3))) 2=((strm S (3*k+2):Nat):Int):=by rw [show (2:Int)=((2:Nat):Int) from rfl,Qi,Vq S (by omega)]
    have l0:=Zy S (3*k);have l1:=Zy S (3*k+1);have l2:=Zy S (3*k+2);have va:AU (((strm S (3*k):Nat):Int)+AU (((strm S (3*k+1):Nat):Int).tmod 16*256))=((Asr S k:Nat):Int):=by grind [Ar,Asr]
    have vb:AU (AU (((strm S (3*k+1):Nat):Int).tdiv 16)+AU (16*((strm S (3*k+2):Nat):Int)))=((AsC S k:Nat):Int):=by grind [Ar,AsC]
    rw [Atd (by grind),e,AO];dsimp only;rw [t0,t1,t2,wn (n:=strm S (3*k)) (by omega),wn (n:=strm S (3*k+1)) (by omega),wn (n:=strm S (3*k+2)) (by omega),va,vb,Atd (by rfl),Atd (by rfl),Atd (by rfl),if_pos hlt];refine (inner k x' (m+r*4+1) o (by omega) hlt).trans ?_;exact ih (k+1) m x' _ (by omega) (Uh ho) (by omega)
   grind
 obtain ⟨m,hm⟩:∃ m,AX=m+4000*4+1:=⟨AX - 16001,by rfl⟩
 rw [hm,show (256:Int).toNat=256 from rfl,<-UO];refine key 4000 0 m ⟨S,0⟩ [] (by omega) ⟨DF _,fun _ h=>by cases h⟩ ?_;grind [RAo]
end Go.Proofs.YtaalgheapdmjnaaGreatDoor.G
