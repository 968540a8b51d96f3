/- The plain law of FnLeaves: whatever the arguments, it answers true. Conditions: what is read is in reach. Part 2 of 4. -/
import Derived.Test.YtkbbicgglblfiaaGreatDoorPureFnLeavesa
namespace Go.Proofs.YtkbbicgglblfiaaGreatDoor.G
open Go Go.Ev
set_option linter.unusedVariables false
set_option linter.unusedSimpArgs false
set_option linter.unusedSectionVars false
variable [PC]
theorem IBA {last:Int} {x:Af}:∀ {xs:List Af} {p:Int},rise last p xs=true->x ∈ xs->Aqg xs x.fId=some x:=by
 intro xs;induction xs with
 | nil=>simp
 | cons y ys ih=>
  intro p h hx;obtain ⟨h1,h2,h3,h4⟩:=ArI.1 h
  rw [Aqg,List.find?_cons];rcases List.mem_cons.1 hx with rfl | hx
  ·simp
  ·have:=AqL h4 x hx;rw [show (y.fId == x.fId)=false by grind];exact ih h4 hx
theorem JBA {b:Bo} {r:Ah} (h:(RZ b r).2=true):((RZ b r).1.AZ=b.AZ/\(RZ b r).1.BM=b.BM)\/(∃ o,Aqg b.AZ r.Ag.fId=some o/\grown o r.Ag=true/\(RZ b r).1.AZ=putAt b.AZ r.Ag/\(RZ b r).1.BM=b.BM)\/((RZ b r).1.AZ=b.AZ++[r.Ag]/\(RZ b r).1.BM=b.BM+1)\/(r.Aj=4/\(RZ b r).1.AZ=without b.AZ r.DR/\(RZ b r).1.BM=b.BM):=by
 have h2:=(Arn h).2.1;rw [RZ] at h ⊢;cases hc:(!(G9 b) || (!(ArP r).2 || decide (b.fCount>=10000)))
 all_goals grind [lM,Ug]
def keeps (x y:Af):Prop:=y.Aj=x.Aj/\y.fValue=x.fValue/\(x.CY=true->y.CY=true)/\(x.CX=true->y.CX=true)/\x.fNext<=y.fNext
theorem YBm (x:Af):keeps x x:=⟨rfl,rfl,id,id,Int.le_refl _⟩
theorem KBA {x y:Af} (h:grown x y=true):keeps x y:=by
 simp only [grown,Bool.and_eq_true,beq_iff_eq,decide_eq_true_eq] at h;obtain ⟨h1,h2,_,_,h5,h6,h7⟩:=h
 refine ⟨h1,Aq3 h2,fun e=>?_,fun e=>?_,h5⟩;all_goals simp_all
theorem ZBm {b:Bo} {r:Ah} (h:(RZ b r).2=true) {x:Af} (hx:x ∈ b.AZ):(Aqg (RZ b r).1.AZ x.fId=none/\r.Aj=4/\r.DR=x.fId)\/∃ y,Aqg (RZ b r).1.AZ x.fId=some y/\keeps x y:=by grind [Arn,G7,IBA,RZ,Aqg,YBm,JBA,KBA,putAt,AwK,TU,without]
theorem UBL {b:Bo} {r:Ah} (h:(RZ b r).2=true):b.BM<=(RZ b r).1.BM:=by rcases JBA h with ⟨_,e⟩ | ⟨_,_,_,_,e⟩ | ⟨_,e⟩ | ⟨_,_,e⟩ <;> rw [e] <;> omega
theorem VBL {f:Nat->Int} {n:Nat} (h:∀ i,0<i->i<n->f (i - 1)<f i):∀ d i,i+d+1<n->f i<f (i+d+1):=by intro d;induction d<;>grind
abbrev JG (ls:List CS):Prop:=ls.Pairwise fun a b=>a.fId<b.fId
abbrev AscS (ls:List EG):Prop:=ls.Pairwise fun a b=>a.fId<b.fId
theorem WBL {b:Ap}:∀ {j i:Nat},Aqx b j i=true->∀ k,i<=k->k<i+j->Ue b k=true:=by intro j;induction j<;>grind [Aqx]
theorem Af0 {b:Ap}:∀ {j i:Nat},(∀ k,i<=k->k<i+j->Ue b k=true)->Aqx b j i=true:=by intro j;induction j<;>grind [Aqx]
def X3 (ts:List Af) (v:CS):Prop:=∃ x,Aqg ts v.fId=some x/\x.Aj=2/\0<=v.fNext/\v.fNext<=x.fNext
theorem LBA {b:Ap} {i:Nat}:Ue b i=true↔X3 b.AU.AZ (b.BD.getD i ⟨0,0⟩)/\(i=0\/(b.BD.getD (i - 1) ⟨0,0⟩).fId<(b.BD.getD i ⟨0,0⟩).fId):=by grind [Ue,X3,Aqo]
theorem MBA {b:Ap}:Va b=true↔(∀ v ∈ b.BD,X3 b.AU.AZ v)/\JG b.BD:=by
 constructor
 ·intro h;have ha:∀ i,i<b.BD.length->Ue b i=true:=fun i hi=>WBL h i (DJ _) (by omega)
  refine ⟨fun v hv=>?_,List.pairwise_iff_getElem.2 fun i j hi hj hij=>?_⟩;·grind [List.mem_iff_getElem,LBA]
  ·have:=VBL (f:=fun i=>(b.BD.getD i ⟨0,0⟩).fId) (n:=b.BD.length) (fun i h0 hi=>(LBA.1 (ha i hi)).2.resolve_left (by omega)) (j - i - 1) i (by omega);grind
 ·rintro ⟨h1,h2⟩;refine Af0 fun i _ hi=>LBA.2 ?_
  grind [List.pairwise_iff_getElem]
theorem NBA {b:Ap}:Oc b b.BP.length 0=true↔(∀ s ∈ b.BP,1<=s.fId/\s.fId<=b.CW)/\AscS b.BP:=by
 have mk:∀ {j i:Nat},Oc b j i=true↔∀ k,i<=k->k<i+j->aH b k=true:=by intro j;induction j<;>grind [Oc]
 have at_:∀ {i:Nat},aH b i=true↔(1<=(b.BP.getD i ⟨0,false⟩).fId/\(b.BP.getD i ⟨0,false⟩).fId<=b.CW)/\(i=0\/(b.BP.getD (i - 1) ⟨0,false⟩).fId<(b.BP.getD i ⟨0,false⟩).fId):=by simp [aH,Aqo]
 rw [mk];constructor
 ·intro h;have ha:∀ i,i<b.BP.length->_:=fun i hi=>at_.1 (h i (DJ _) (by omega))
  refine ⟨fun v hv=>?_,List.pairwise_iff_getElem.2 fun i j hi hj hij=>?_⟩;·grind [List.mem_iff_getElem]
  ·have:=VBL (f:=fun i=>(b.BP.getD i ⟨0,false⟩).fId) (n:=b.BP.length) (fun i h0 hi=>(ha i hi).2.resolve_left (by omega)) (j - i - 1) i (by omega);rw [show i+(j - i - 1)+1=j by omega] at this;simp_all
 ·rintro ⟨h1,h2⟩ i _ hi;have hi:i<b.BP.length:=by omega
  refine at_.2 ?_;rw [getD_at hi];refine ⟨h1 _ (List.getElem_mem hi),?_⟩;by_cases h0:i=0;·omega
  ·refine .inr ?_;have hj:i - 1<b.BP.length:=by omega
   rw [getD_at hj];grind [List.pairwise_iff_getElem]
theorem XBL {last:Int}:∀ {ts:List Af} {p:Int} {vs:List CS},rise last p ts=true->JG vs->(∀ v ∈ vs,∃ x ∈ ts,x.fId=v.fId)->vs.length<=ts.length:=by
 intro ts;induction ts with
 | nil=>
  intro p vs _ _ h;cases vs<;>grind [List.mem_cons_self]
 | cons t ts ih=>
  intro p vs hr ha h;obtain ⟨_,_,_,hr2⟩:=ArI.1 hr
  have hin:=AqL hr2;cases vs<;>grind [List.pairwise_cons,List.mem_cons_self]
def AqR:List CS->Int->Int->List CS
 | [],id,n=>[⟨id,n⟩]
 | v::vs,id,n=>if v.fId=id then ⟨id,n⟩::vs else if v.fId<id then v::AqR vs id n else ⟨id,n⟩::v::vs
theorem AFN (id:Int):∀ (ls:List CS) (i:Nat),Aqi ls id i=(Aqi ls id 0).map (· + i)
 | [],i=>rfl
 | v::vs,i=>by
  rw [Aqi,Aqi];split;·simp
  ·rw [AFN id vs (i+1),AFN id vs (0+1),Option.map_map];congr 1;funext j;show j+(i+1)=(j+(0+1))+i;omega
theorem OBA {id:Int}:∀ {ls:List CS} {i:Nat},(∀ v ∈ ls,v.fId≠id)->Aqi ls id i=none
 | [],_,_=>rfl
 | v::vs,i,h=>by rw [Aqi,if_neg (by rw [beq_iff_eq];exact h v (List.mem_cons_self ..))];exact OBA fun w hw=>h w (List.mem_cons_of_mem _ hw)
theorem YBL (id n:Int):∀ {ls:List CS},JG ls->aU ls id n=AqR ls id n
 | [],_=>rfl
 | v::vs,h=>by
  obtain ⟨hv,hs⟩:=List.pairwise_cons.1 h
  have ih:=YBL id n hs;rw [AqR];by_cases h1:v.fId=id
  ·rw [if_pos h1,aU,Aqi,if_pos (beq_iff_eq.2 h1)];show ⟨v.fId,n⟩::vs=_
   rw [h1]
  ·rw [if_neg h1];by_cases h2:v.fId<id;·rw [if_pos h2,<-ih,aU,aU,Aqi,if_neg (by rw [beq_iff_eq];exact h1),AFN,GV,if_pos h2];cases Aqi vs id 0 <;> rfl
   ·rw [if_neg h2,aU,OBA fun w hw=>?_,GV,if_neg h2];·rfl
    ·rcases List.mem_cons.1 hw with rfl | hw
     ·exact h1
     ·have:=hv w hw;omega
theorem ZBL (id n:Int):∀ {ls:List CS},JG ls->ls.filter (fun v=>decide (v.fId<id))++(⟨id,n⟩::ls.filter fun v=>decide (v.fId > id))=AqR ls id n
 | [],_=>rfl
 | v::vs,h=>by
  obtain ⟨hv,hs⟩:=List.pairwise_cons.1 h
  have ih:=ZBL id n hs;rw [AqR,List.filter_cons,List.filter_cons];have big:∀ {p:CS->Bool},(∀ w ∈ vs,p w=true)->vs.filter p=vs:=List.filter_eq_self.2;by_cases h1:v.fId=id;·rw [if_pos h1,D6 (by omega),D6 (by omega),List.filter_eq_nil_iff.2 fun w hw=>by have:=hv w hw;rw [decide_eq_true_eq];omega,List.filter_eq_self.2 fun w hw=>by have:=hv w hw;rw [decide_eq_true_eq];omega];rfl
  ·rw [if_neg h1];by_cases h2:v.fId<id;·rw [if_pos h2,Ba h2,D6 (by omega),<-ih];rfl
   ·rw [if_neg h2,D6 h2,Ba (by omega),List.filter_eq_nil_iff.2 fun w hw=>by have:=hv w hw;rw [decide_eq_true_eq];omega,List.filter_eq_self.2 fun w hw=>by have:=hv w hw;rw [decide_eq_true_eq];omega];rfl
theorem rP {id n:Int}:∀ {ls:List CS},JG ls->∀ v ∈ AqR ls id n,v=⟨id,n⟩\/(v ∈ ls/\v.fId≠id)
 | [],_,v,hv=>.inl (List.mem_singleton.1 hv)
 | w::vs,h,v,hv=>by
  obtain ⟨hw,hs⟩:=List.pairwise_cons.1 h
  rw [AqR] at hv;split at hv
  ·rename_i h1;rcases List.mem_cons.1 hv with e | hm
   ·exact .inl e
   ·have:=hw v hm;exact .inr ⟨List.mem_cons_of_mem _ hm,by omega⟩
  ·rename_i h1;split at hv
   ·rcases List.mem_cons.1 hv with rfl | hm
    ·exact .inr ⟨List.mem_cons_self ..,h1⟩
    ·rcases rP hs v hm with e | ⟨e1,e2⟩
     ·exact .inl e
     ·exact .inr ⟨List.mem_cons_of_mem _ e1,e2⟩
   ·rename_i h2;rcases List.mem_cons.1 hv with e | hm
    ·exact .inl e
    ·rcases List.mem_cons.1 hm with rfl | hm
     ·exact .inr ⟨List.mem_cons_self ..,h1⟩
     ·have:=hw v hm;exact .inr ⟨List.mem_cons_of_mem _ hm,by omega⟩
theorem fQ {id n:Int}:∀ {ls:List CS},JG ls->JG (AqR ls id n)
 | [],_=>List.pairwise_singleton _ _
 | w::vs,h=>by
  obtain ⟨hw,hs⟩:=List.pairwise_cons.1 h
  rw [AqR];split;·rename_i h1;exact List.pairwise_cons.2 ⟨fun v hv=>by have:=hw v hv;show id<v.fId;omega,hs⟩
  ·rename_i h1;split
   ·rename_i h2;refine List.pairwise_cons.2 ⟨fun v hv=>?_,fQ hs⟩;rcases rP hs v hv with rfl | ⟨e1,_⟩
    ·exact h2
    ·exact hw v e1
   ·rename_i h2;refine List.pairwise_cons.2 ⟨fun v hv=>?_,h⟩;rcases List.mem_cons.1 hv with rfl | hv
    ·show id<v.fId;omega
    ·have:=hw v hv;show id<v.fId;omega
theorem aV {d:BU} (h0:d.Ak.length<=140737488351232):Vu d=some (Ap0 d):=by
 rw [Vu,OA2,mk,Ap0];have key:∀ (j i m:Nat),i+j=d.Ak.length->lN (m+j+1) (.c0 d.Ak (d.Ak.length:Int) (i:Int) d)=some (decide ((d.Ak.length:Int)<=30) && Arc (Vw d.Ak i) (d.Ak.drop i)):=by
  intro j;induction j with
  | zero=>
   grind [lN,JAm,Arc]
  | succ j ih=>
   intro i m h;have hi:i<d.Ak.length:=by omega
   have e:AV ((i:Int)+1)=((i+1:Nat):Int):=by grind [A8]
   have h2:=ih (i+1) m (by omega);have Hi:∀ b:Bool,(b && false)=false:=fun b=>by simp
   rw [show m+(j+1)+1=(m+j+1)+1 by omega,lN];simp only [JAm,mk,e,BR,getD_at hi,Ti,AP];rw [AL (by simp_all),AL (by simp_all),XBJ hi,NH,h2];cases hn:Ark (d.Ak[i].fName.size:Int) 1 8;·simp
   cases decide ((d.Ak[i].fText.size:Int) > 20000)
   ·cases Ark d.Ak[i].J3 0 (d.Ak[i].fText.size:Int);·simp
    ·by_cases hz:i=0;·grind [Aqo,Vw,xU]
     ·obtain ⟨i',rfl⟩:∃ q,i=q+1:=⟨i - 1,by omega⟩
      grind [A8,AMq]
   simp
 obtain ⟨m,hm⟩:=gm (n:=d.Ak.length) (by omega)
 rw [hm];exact key d.Ak.length 0 m (by omega)
theorem BAr:X4=some Nb:=by rw [X4,RA1,mk,Apw (by decide),AP,show (32:Int)=((32:Nat):Int) from rfl,ZAp (by omega),AP];rfl
theorem BBn {a b:List Af} (h0:a.length<=140737488351232):TAm a b=some (QY a b):=by
 rw [TAm,FA3];by_cases hl:a.length=b.length
 ·have key:∀ (j i m:Nat),i+j=a.length->lQ (m+j+1) (.c0 a b (a.length:Int) (i:Int))=some (QY (a.drop i) (b.drop i)):=by
   intro j;induction j with
   | zero=>
    intro i m h;obtain rfl:i=a.length:=by omega
    rw [lQ];simp only [SAm,mk];rw [BF (by simp),List.drop_length,hl,List.drop_length];rfl
   | succ j ih=>
    intro i m h;have hi:i<a.length:=by omega
    have hi2:i<b.length:=by omega
    have e:AV ((i:Int)+1)=((i+1:Nat):Int):=by grind [A8]
    rw [show m+(j+1)+1=(m+j+1)+1 by omega,lQ];simp only [SAm,mk,e,BR,getD_at hi,getD_at hi2,KBL,ih (i+1) m (by omega)];grind [drop_at,QY]
  obtain ⟨m,hm⟩:=gm (n:=a.length) (by omega)
  rw [BF (by simp_all),hm];exact key a.length 0 m (by omega)
 grind [LBL]
theorem AV3 {a b:Bo} (h0:a.AZ.length<=140737488351232):xW a b=some (SE a b):=by rw [xW,GA3,mk,BBn h0,SE];grind
theorem CAr {d:BU} {n:AA} (h0:d.Ak.length<=140737488351232):aW d n=some (AqB d n):=by
 have key:∀ (j i m:Nat),i+j=d.Ak.length->lS (m+j+1) (.c0 n d.Ak (d.Ak.length:Int) (i:Int))=some (match Avc (d.Ak.drop i) n i with | some j=>(j:Int) | none=> -1):=by
  intro j;induction j with
  | zero=>
   intro i m h;obtain rfl:i=d.Ak.length:=by omega
   rw [lS];simp only [HAm,mk];rw [BF (by simp),List.drop_length];rfl
  | succ j ih=>
   intro i m h;have hi:i<d.Ak.length:=by omega
   have e:AV ((i:Int)+1)=((i+1:Nat):Int):=by grind [A8]
   grind [lS,HAm,BR,drop_at,Avc]
 obtain ⟨m,hm⟩:=gm (n:=d.Ak.length) (by omega)
 rw [aW,NA2,mk,hm,AqB];exact key d.Ak.length 0 m (by omega)
theorem PBA {d:BU} {n:AA} (h0:d.Ak.length<=140737488351232):xX d n=some (Hl d n):=by
 rw [xX,HA3,mk,CAr h0,AP,AqB,Hl];cases h:Avc d.Ak n 0 with
 | none=>rfl
 | some j=>
  have:=Z8 h;simp_all [BF]
theorem CBn {s:Int} (h:R32 s):an s 1=s % 2:=by
 obtain ⟨h1,h2⟩:=h
 obtain ⟨n,rfl⟩:∃ n:Nat,s=(n:Int):=⟨s.toNat,by omega⟩
 unfold an;show w32 (((BitVec.ofInt 32 (n:Int) &&& BitVec.ofInt 32 1).toNat:Nat):Int)=_;grind [Ar5]
theorem DBn (t:AA) (i:Nat) (hi:i<t.size) (ht:t.size<=140737488351232):∀ (j k m:Nat) (s:Int),k+j=8->R32 s->Uh (m+j+1) (.c1 s t (i:Int) (k:Int))=Uh m (.c0 (bF j s) t ((i+1:Nat):Int)):=by
 intro j;induction j with
 | zero=>
  intro k m s hk hs;have e:AV ((i:Int)+1)=((i+1:Nat):Int):=by grind [A8]
  rw [Uh];simp only [lU,mk,e];rw [BF (by simp_all)];rfl
 | succ j ih=>
  intro k m s hk hs;have e:AV ((k:Int)+1)=((k+1:Nat):Int):=by grind [A8]
  have h2:Int.fdiv s (2 ^ (Min.min (1:Int).toNat (IntKind.bits IntKind.u32)))=s / 2:=Int.fdiv_eq_ediv_of_nonneg _ (by decide);rw [show m+(j+1)+1=(m+j+1)+1 by omega,Uh];simp only [lU,mk,e,h2,JA8,CBn hs,SG];rw [AL (by grind),bF];by_cases h:s % 2=1;·rw [AL (by simp [h]),ih (k+1) m _ (by omega) (lV _ _),bT,if_pos h]
  ·rw [BF (by simp [h]),ih (k+1) m _ (by omega) (by grind [R32]),bT,if_neg h]
theorem EBn {t:AA} {s:Int} (ht:t.size<=140737488351232):GAm s t=some (lW s (bs t)):=by
 have hl:=bs_len t;have key:∀ (j i m:Nat) (s:Int),i+j=t.size->Uh (m+10*j+1) (.c0 s t (i:Int))=some (lW s ((bs t).drop i)):=by
  intro j;induction j with
  | zero=>
   intro i m s h;rw [Uh];simp only [lU,mk];rw [BF (by simp_all),List.drop_of_length_le (by omega)];rfl
  | succ j ih=>
   intro i m s h;have hb:=NI (Jj t) i;rw [show m+10*(j+1)+1=(m+10*j+1)+8+1+1 by omega,Uh];simp only [lU,mk,SG];rw [AL (by grind),AL (by grind),Ui (by omega),Ar5 (by omega) (by omega)];have h1:=DBn t i (by omega) ht 8 0 (m+10*j+1) (xr s ((bs t).getD i 0)) (by omega) (lV _ _);rw [show ((0:Nat):Int)=0 from rfl] at h1;rw [h1,ih (i+1) m _ (by omega),drop_at (by omega:i<(bs t).length),getD_at (by omega)];rfl
 obtain ⟨m,hm⟩:∃ m,AY=m+10*t.size+1:=⟨AY - (10*t.size+1),by have:=FM (n:=10*t.size+1) (by omega);omega⟩
 rw [GAm,IA2,hm];have:=key t.size 0 m s (by omega);assumption
theorem BBM {t:AA} (ht:t.size<=140737488351232):lX t=some (Uj (bs t)):=by rw [lX,JA2,EBn ht];rfl
theorem FBn {f:AA} (hf:f.size<=140737488351232):xY f=some (PL f):=by
 rw [xY,IA3,mk,PL];by_cases h0:20000<f.size;·grind
 ·rw [BF (by grind),BF (by grind)];have key:∀ (j a m:Nat) (out:List AA),a<=f.size->f.size<a+j->out.length<=a->xZ (m+j+1) (.c0 f (a:Int) out)=some (out++(Jf j f a).1,((Jf j f a).2:Int)):=by
   intro j;induction j with
   | zero=>omega
   | succ j ih=>
    intro a m out ha hj ho;rw [show m+(j+1)+1=(m+j+1)+1 by omega,xZ];simp only [JA3,mk,Jf];rw [QBK hf ha,AP];rcases tJ hf ha with h | ⟨v,h,hv0,hv1,hA⟩
    ·rw [show N9 f a=none by rw [N9,h];rfl,h];rw [List.append_nil];rfl
    ·have hp:=ArT v;have hsz:=hA.size.resolve_left (by grind);obtain ⟨R,hR⟩:∃ R,R=N9 f a:=⟨_,rfl⟩
     have hn0:=hR;rw [N9,h] at hn0;rw [h];generalize hq:a+(SN v).length=q at hsz hn0;simp only [DN,Aq,Ti,AP];cases hr:Ark v 1 9000;·grind
     ·rw [hr] at hn0;simp only [DN,Aq,Bool.true_and] at hn0 ⊢;rw [A8 (n:=(f.size:Int) - (q:Int)) (by omega) (by omega),A8 (n:=(f.size:Int) - (q:Int) - 4) (by omega) (by omega),A8 (n:=(q:Int)+4) (by omega) (by omega),A8 (n:=(q:Int)+4+v) (by omega) (by omega)];by_cases h3:v > (f.size:Int) - (q:Int) - 4;·grind
      ·have e2:((q:Int)+4).toNat=q+4:=by omega
       have e3:((q:Int)+4+v).toNat=q+4+v.toNat:=by omega
       have hxs:(f.extract (q+4) (q+4+v.toNat)).size=v.toNat:=by grind [ByteArray.size_extract]
       rw [Ba (by omega:v<=(f.size:Int) - (q:Int) - 4),e2,e3,BR,Bool.true_and] at hn0;rw [BF (by simp_all),AL (by grind),AL (by simp;omega),e2,e3,BR,BBM (by omega),AP,AFV (X5 _),AP,Vd,Avo (Vx (X5 _))];grind
  obtain ⟨m,hm⟩:∃ m,AY=m+(f.size+1)+1:=⟨AY - (f.size+2),by have:=FM (n:=f.size+2) (by omega);omega⟩
  rw [hm,show (0:Int)=((0:Nat):Int) from rfl,key (f.size+1) 0 m [] (by omega) (by omega) (Nat.le_refl _)];rfl
theorem GBn {n:Int}:xg n=some (bif Ark n 0 1000000000 then (ofBytes (SN n),true) else (⟨#[]⟩,false)):=by simp only [xg,AM1,mk,Ti,AP];grind [Aqo,X6]
theorem CBM {s:AA} {x:Int} (hs:s.size<=140737488351232):lY s x=some (ofBytes (NJ x (bs s))):=by
 have hl:=bs_len s
 have key:=PV (A:=Unit) (n:=(bs s).length) (Lp:=lZ) (st:=fun i _=>.c0 x ((bs s).length:Int) (i:Int) (((bs s).take i).map (fun b=>xb b x)++(bs s).drop i)) (Inv:=fun _ _=>True) (out:=fun _ _=>some (ofBytes (NJ x (bs s))))
  (fun m _ _=>by
   rw [lZ];simp only [DAm,mk];rw [BF (by simp),List.take_length,List.drop_length,List.append_nil];rfl)
  (fun m i _ hi _=>.inr ⟨(),by
   have e:AV ((i:Int)+1)=((i+1:Nat):Int):=by grind [A8]
   have hlen:(((bs s).take i).map (fun b=>xb b x)++(bs s).drop i).length=(bs s).length:=by grind
   grind [lZ,DAm,BR,JBi,xb],trivial,rfl⟩)
 rw [lY,BA2,mk,AL (by grind),lg];exact key AY 0 () (DJ _) (FM (by omega)) trivial
theorem HBn {k:AA} (h:k.size<=64):bs (k++ofBytes (List.replicate (64 - k.size) 0))=AwH (bs k):=by rw [Fa,Avo (fun x hx=>by grind),AwH,bs_len]
theorem IBn {K:AA} (h:K.size=64) {s:AA}:EK (ofBytes (NJ 92 (bs K))++EK (ofBytes (NJ 54 (bs K))++s))=ofBytes (Ap6 (NJ 92 (bs K)++Ap6 (NJ 54 (bs K)++bs s))):=by rw [EK,Fa,RAp,Fa,Avo (VAp _ _),Avo (VAp _ _)]
theorem DBM {k s:AA} (hk:k.size<=900000000) (hs:s.size<=900000000):lq k s=some (bU k s):=by
 have fin:∀ {K:AA} {m:Int},K.size<=64->m=((64 - K.size:Nat):Int)->∀ (f:Option AA),f=some (ofBytes (Ap6 (NJ 92 (AwH (bs K))++Ap6 (NJ 54 (AwH (bs K))++bs s))))->
   ((X7 m).bind fun r1=>bif decide (K.size+r1.size<=9223372036854775807) then (lY (K++r1) 92).bind fun r2=>(lY (K++r1) 54).bind fun r3=>bif decide (r3.size+s.size<=9223372036854775807) then (Ap8 (r3++s)).bind fun r4=>bif decide (r2.size+r4.size<=9223372036854775807) then (Ap8 (r2++r4)).bind fun r5=>some r5 else none else none else none)=f:=by
  intro K m hK hm f hf;have h64:(K++ofBytes (List.replicate (64 - K.size) 0)).size=64:=by simp_all [Dj]
  subst hm;have x1:=UAp 92 (AwH (bs K));have x2:=UAp 54 (AwH (bs K));have x3:(AwH (bs K)).length=64:=by simp_all [AwH,bs_len]
  have hb:=HBn hK;have hf2:=IBn h64 (s:=s);rw [hb] at hf2;rw [ZAp (by omega),AP,AL (by simp_all),CBM (by omega),AP,CBM (by omega),AP,hb];grind [Dj,Apw,Qh]
 rw [lq,CA2,mk];grind [Apw,Qh,bU,Vy,Vz,bs_len,RAp,A8]
theorem EBM {k:AA} {num n:Int} (hk:k.size<=900000000):xk k num n=some (Xh k num n):=by
 rw [xk,DA2,mk,GBn,AP,Xh,MB];cases h:Ark num 0 1000000000;·rfl
 ·rw [Aqo] at h;rw [Ar,BF (by rfl),Ti,AP];cases h2:Ark n 0 8000;·rfl
  ·rw [Aqo] at h2;rw [BF (by rfl),Bool.and_self,Ar];have hv:=Apv (n:=num) (by omega);have hvb:=Uk h.1
   have key:=PV (A:=Unit) (n:=(n.toNat+31) / 32) (Lp:=lu) (st:=fun i _=>.c0 k n (ofBytes (SN num)) (ofBytes (X8 (bs k) (SN num) i)) (i:Int)) (Inv:=fun _ _=>True) (out:=fun _ _=>some (ofBytes (Arw (bs k) (SN num) n.toNat),true))
    (fun m _ _=>by
     rw [lu];simp only [EAm,mk];rw [BF (by grind [Dj,X9]),AL (by grind [Dj,X9])];refine congrArg (fun x=>some (x,true)) (Aq3 ?_);rw [Ap3,Avo (LBJ _ _ _),Avo (tC _ _ _),Arw,List.drop_zero])
    (fun m i _ hi _=>.inr ⟨(),by
     have e:AV ((i:Int)+1)=((i+1:Nat):Int):=by grind [A8]
     have h9:(⟨#[109]⟩:AA).size=1:=rfl;grind [lu,EAm,Dj,X9,AvD,DBM,MBJ,ofBytes,X8,bs,Aq3,Fa,Avo],trivial,rfl⟩)
   exact key AY 0 () (DJ _) (FM (by omega)) trivial
theorem FBM {k s:AA} {num:Int} (hk:k.size<=900000000) (hn:0<=num/\num<=1000000000) (hs:s.size<=800000000):xq k num s=some (ofBytes (PE (bs k) num (bs s))):=by have hv:=Apv (n:=num) (by omega);have h9:(⟨#[116]⟩:AA).size=1:=rfl;have e:bs (⟨#[116]⟩:AA)=[116]:=rfl;have h16:(16:Int).toNat=16:=rfl;rw [xq,FA2,mk,X6 (by omega),AP,AL (by grind [Dj]),AL (by grind [Dj])];rw [DBM hk (by grind [Dj]),AP,AL (by rfl)];refine congrArg some (Aq3 ?_);rw [Ap3,IBJ,h16,Avo (Tv _ _ _),Fa,Fa,e,Avo (Uk hn.1),PE,List.drop_zero,List.append_assoc];rfl
theorem GBM {a b:AA} (ha:a.size<=140737488351232) (h:a.size<=b.size):xu a b=some (ofBytes (J6 (bs a) (bs b))):=by
 have hl:=bs_len a;have hl2:=bs_len b
 have key:=PV (A:=Unit) (n:=(bs a).length) (Lp:=l7) (st:=fun i _=>.c0 b ((bs a).length:Int) (i:Int) (List.zipWith xb ((bs a).take i) ((bs b).take i)++(bs a).drop i)) (Inv:=fun _ _=>True) (out:=fun _ _=>some (ofBytes (J6 (bs a) (bs b))))
  (fun m _ _=>by
   grind [l7,FAm,J6,WA8])
  (fun m i _ hi _=>.inr ⟨(),by
   have e:AV ((i:Int)+1)=((i+1:Nat):Int):=by grind [A8]
   have hlen:(List.zipWith xb ((bs a).take i) ((bs b).take i)++(bs a).drop i).length=(bs a).length:=by grind
   grind [l7,FAm,BR,VA8,Ui,NBJ],trivial,rfl⟩)
 rw [xu,EA2,mk,AL (by grind),lg];exact key AY 0 () (DJ _) (FM (by omega)) trivial
theorem HBM (t:AA) {n:Nat} (h:t.size=n+16):bs (t.extract 0 n)=(bs t).take (t.size - 16)/\bs (t.extract n t.size)=(bs t).drop (t.size - 16):=by grind [Ap3,bs_len]
theorem IBM {k t:AA} {num:Int} (hk:k.size<=900000000) (ht:t.size<=800000000):l9 k num t=some (EM k num t):=by
 rw [l9,KA3,mk,EM];have hw:AV ((t.size:Int) - 16)=(t.size:Int) - 16:=A8 (by omega) (by omega);rw [hw];by_cases h:t.size<16;·grind
 ·obtain ⟨n,hn⟩:∃ n,t.size=n+16:=⟨t.size - 16,by omega⟩
  obtain ⟨e1,e2⟩:=HBM t hn
  have hz:(t.size:Int) - 16=(n:Int):=by omega
  have hb:=bs_len t;rw [BF (by simp_all),EBM hk,AP,Xh,hz,show decide ((t.size:Int)<16)=false by grind,Bool.false_or];cases hm:MB num n;·rfl
  ·have h':=iI.1 hm;have hml:=Ru (bs k) (SN num) n;have hes:(t.extract 0 n).size=n:=by simp_all
   rw [DN,Aq,Ar,BF (by rfl),BR,AL (by grind),FBM hk h'.1 (by omega),AP,AL (by grind),Vd,Avo (Tv _ _ _),e1,e2];cases hc:(PE (bs k) num ((bs t).take (t.size - 16)) == (bs t).drop (t.size - 16))
   ·rfl
   ·rw [DN,Aq,AL (by grind),GBM (by omega) (by simp_all [Dj]),AP,Avo (tC _ _ _),e1,Ar,show t.size - 16=n by omega]
theorem JBM {t:AA} (h:t.size<=140737488351232):mD t=some (frameT t):=by
 rw [mD,KA2,mk,Ti,AP,frameT];cases h1:Ark (t.size:Int) 1 9000;·rfl
 ·rw [Aqo] at h1;have:=Apv (n:=(t.size:Int)) (by omega);rw [BF (by rfl),X6 (by omega),AP,BBM h,AP,AFV (X5 _),AP,AL (by grind [Dj,four])];rw [AL (by grind [Dj,four]),UBJ,Ar]
theorem QBA {k file:AA} (hk:k.size<=900000000) (hf:file.size<=140737488351232):xw k file=some (AsB k file):=by
 obtain ⟨u1,u2,_,_⟩:=OAq (file:=file)
 rw [xw,LA3,mk,FBn hf,AP,AsB];generalize (PL file).1=l at u1 u2;have key:∀ (j i m:Nat) (e:Int) (out:List Ah),i+j=l.length->0<=e->e<=30000*i->out.length<=i->mF (m+j+1) (.c0 k e (l.length:Int) (i:Int) out l)=some (out++(Avq k ((i:Int)+1) (l.drop i)).1,e+(Avq k ((i:Int)+1) (l.drop i)).2):=by
  intro j;induction j with
  | zero=>
   grind [mF,ZAm,Avq]
  | succ j ih=>
   intro i m e out h he he2 ho;have hi:i<l.length:=by omega
   have hz:=u1 _ (List.getElem_mem hi);have ew:AV ((i:Int)+1)=((i+1:Nat):Int):=by grind [A8]
   have GW:=tH k l[i] ((i+1:Nat):Int);have hfz:=VBJ (t:=l[i]) (by omega);rw [show m+(j+1)+1=(m+j+1)+1 by omega,mF];simp only [ZAm,mk,ew,BR,getD_at hi];rw [AL (by simp_all),AL (by simp_all),IBM hk (by omega),AP,AWI (by omega),AP,drop_at hi,Avq,show ((i:Int)+1)=((i+1:Nat):Int) from rfl];cases (EM k ((i+1:Nat):Int) l[i]).2;·simp
   ·rw [BF (by rfl),Bool.true_and];cases (AqN (EM k ((i+1:Nat):Int) l[i]).1).2;·simp
    ·have h2:=ih (i+1) m (e+((frameT l[i]).1.size:Int)) (out++[(AqN (EM k ((i+1:Nat):Int) l[i]).1).1]) (by omega) (by omega) (by omega) (by simp_all);grind [JBM,A8]
 obtain ⟨m,hm⟩:=gm (n:=l.length) (by omega)
 have h0:=key l.length 0 m 0 [] (by omega) (by omega) (by omega) (Nat.le_refl _);simp_all
theorem JBn {b:Bo} {l:List Ah} (hb:b.AZ.length<=2932031007317) (hl:l.length<=140737488351232) (hr:∀ r ∈ l,r.DR<=9223372036854775807):BAn b l=some (Apz b l):=by
 have key:∀ (j i m:Nat) (b:Bo),i+j=l.length->b.AZ.length<=2932031007317->mG (m+j+1) (.c0 l (l.length:Int) (i:Int) ⟨#[]⟩ 0 0 ⟨#[]⟩ 0 b.Bv b.DU b.BM b.Dh b.fCount [] b.AZ)=some (Apz b (l.drop i)):=by
  intro j;induction j with
  | zero=>
   intro i m b h hb;obtain rfl:i=l.length:=by omega
   rw [mG];simp only [AFe,mk];rw [BF (by simp),List.drop_length];rfl
  | succ j ih=>
   intro i m b h hb;have hi:i<l.length:=by omega
   have e:AV ((i:Int)+1)=((i+1:Nat):Int):=by grind [A8]
   rw [show m+(j+1)+1=(m+j+1)+1 by omega,mG];simp only [AFe,mk,e,BR,getD_at hi];rw [AL (by simp_all),AL (by simp_all),TBL (by grind) (hr _ (List.getElem_mem hi)),AP,drop_at hi,Apz];cases h2:(RZ b l[i]).2;·rfl
   ·have h3:=LA9 h2;rw [BF (by rfl),Ar];exact ih (i+1) m (RZ b l[i]).1 (by omega) (by omega)
 obtain ⟨m,hm⟩:=gm (n:=l.length) (by omega)
 rw [BAn,MA3,mk,GBA hb,AP,hm];exact key l.length 0 m b (by omega) hb
theorem KBM {k:AA} {d:BU} (hk:k.size<=900000000) (hd:d.Ak.length<=140737488351232) (hf:∀ f ∈ d.Ak,f.fText.size<=140737488351232):mJ k d=some (ArE k d):=by
 have hfs:(Hl d DF).1.size<=140737488351232:=AMQ hf;obtain ⟨r1,r2⟩:=CBL k (Hl d DF).1
 have hl:=DBL k (Hl d DF).1;rw [mJ,NA3,mk,show (⟨#[98,111,111,107]⟩:AA)=DF from rfl,show (⟨#[98,111,111,107,43]⟩:AA)=nNew from rfl,PBA hd,AP,QBA hk hfs,AP,BAr,AP,JBn (DJ _) (by omega) (CBm _ _),AP,aV hd,AP,CAr hd,ArE];cases Ap0 d;·rfl
 cases (Apz Nb (AsB k (Hl d DF).1).1).2;·rfl
 grind
theorem Xb {b:Bo} {t:Int} (h:b.AZ.length<=140737488351232):SH b t=some (match Aqg b.AZ t with | some x=>(x,true) | none=>(YA,false)):=by
 have hp:=BBJ t b.AZ 0;simp only [SH,OA3,mk,HBA h,AP];cases hq:NK b.AZ t 0 with
 | none=>rw [hq] at hp;simp only at hp ⊢;rw [hp];rfl
 | some j=>
  grind
theorem KBn {b:Ap} (hl:b.BD.length<=140737488351232) (ht:b.AU.AZ.length<=140737488351232):x9 b=some (Va b):=by
 have key:∀ (j i m:Nat),i+j=b.BD.length->mM (m+j+1) (.c0 b.BD (b.BD.length:Int) (i:Int) b)=some (Aqx b j i):=by
  intro j;induction j with
  | zero=>
   intro i m hi;rw [mM];simp only [DAn,mk];rw [BF (by simp_all)];rfl
  | succ j ih=>
   intro i m hi;have hw:AV ((i:Int)+1)=((i+1:Nat):Int):=by grind [A8]
   have d1:decide ((i:Int)<(b.BD.length:Int))=true:=Ba (by omega);have d0:decide ((0:Int)<=(i:Int))=true:=Ba (by omega);rw [AwB m j,mM];simp only [DAn,mk,Xb ht,Ti,AP,d0,d1,Bool.and_self,Ar,BR,hw,ih (i+1) m (by omega),Aqx,Ue];grind [A8,BR]
 obtain ⟨m,hm⟩:=gm (n:=b.BD.length) (by omega)
 rw [x9,PA3,mk,hm];exact key b.BD.length 0 m (Nat.zero_add _)
theorem RBA {b:Ap} (hd:b.Bc.Ak.length<=140737488351232) (hf:∀ f ∈ b.Bc.Ak,f.fText.size<=140737488351232) (ht:b.AU.AZ.length<=140737488351232) (hs:b.BP.length<=140737488351232) (hl:b.BD.length<=140737488351232):Zg b=some (QF b):=by
 rw [Zg,QA3,mk,aV hd,Ti,QF];simp only [AP,bne];cases hz:(b.BO.size:Int) == 32;·rfl
 have hk:b.BO.size<=900000000:=by grind
 obtain ⟨l1,l2⟩:=WAq b.BO b.Bc
 have key:b.CZ=true->∀ (j i m:Nat),i+j=b.BP.length->i<=3->mO (m+j+1) (.c0 b.BP (b.BP.length:Int) (i:Int) b)=some (decide ((b.BP.length:Int)<=3) && (Oc b j i && Xw b)):=by
  intro hup j;induction j with
  | zero=>
   intro i m hi h3;rw [mO];simp only [yA,mk];rw [BF (by simp_all),Xw,hup,Ba (by omega:(b.BP.length:Int)<=3)];simp only [KBM hk hd hf,AV3 (show (ArE b.BO b.Bc).1.AZ.length<=140737488351232 by omega),SBL ht,KBn hl ht,AP];cases (ArE b.BO b.Bc).2.2 <;> cases ((ArE b.BO b.Bc).2.1.length:Int) == 0 <;> cases G9 b.AU <;> cases SE (ArE b.BO b.Bc).1 b.AU <;> rfl
  | succ j ih=>
   intro i m hi h3;have hw:AV ((i:Int)+1)=((i+1:Nat):Int):=by grind [A8]
   have d1:decide ((i:Int)<(b.BP.length:Int))=true:=Ba (by omega);have d0:decide ((0:Int)<=(i:Int))=true:=Ba (by omega);rw [AwB m j,mO];by_cases h4:i=3;·simp_all [yA,mk,D6]
   have d3:decide ((i:Int)>=3)=false:=D6 (by omega);simp only [yA,mk,Ti,AP,d0,d1,d3,Bool.and_self,Ar,Aq,BR,hw,ih (i+1) m (by omega) (by omega),Oc,aH];cases Ark (b.BP.getD i ⟨0,false⟩).fId 1 b.CW;all_goals grind [A8,decide,BR]
 cases hdk:Ap0 b.Bc;·rfl
 cases ho:Ark b.CW 0 1000;·simp
 cases hup:b.CZ
 ·rw [Xw,hup];simp only [BAr,AV3 ht,AP,Bool.not_false,DN,Ar,Aq,Bool.true_and];cases hn:(b.BP.length:Int) == 0;·simp
  ·have hn0:b.BP.length=0:=by simp_all
   rw [hn0];grind [Oc]
 ·obtain ⟨m,hm⟩:=gm (n:=b.BP.length) (by omega)
  have h0:=key hup b.BP.length 0 m (Nat.zero_add _) (by omega);simp_all
def OM (c:CV):Bool:=Ark c.Au 1 13 && Ark c.EJ 0 1000 && Ark c.Ag 0 1000 && Ark c.Aj 0 3 && decide ((c.fText.size:Int)<=1000)
theorem LBn (c:CV):GAp c=some (OM c):=by simp only [GAp,ZA7,mk,Hf,AP,OM];grind
theorem LBM (c:CV):yB c=some (OM c):=by simp only [yB,DA3,mk,Ti,AP,OM];grind
def Jd:List EG->Int->Nat->Option Nat
 | [],_,_=>none
 | l::ls,t,i=>if l.fId == t then some i else Jd ls t (i+1)
theorem DAr {t:Int}:∀ {ls:List EG} {i j:Nat},Jd ls t i=some j->i<=j/\j<i+ls.length:=by intro ls;induction ls<;>grind [Jd]
def Ar8 (b:Ap) (t:Int):Int:=match Jd b.BP t 0 with | some j=>(j:Int) | none=> -1
theorem sN {b:Ap} {t:Int} (h:b.BP.length<=140737488351232):mP b t=some (Ar8 b t):=by
 have key:∀ (j i m:Nat),i+j=b.BP.length->mQ (m+j+1) (.c0 t b.BP (b.BP.length:Int) (i:Int))=some (match Jd (b.BP.drop i) t i with | some j=>(j:Int) | none=> -1):=by
  intro j;induction j with
  | zero=>
   intro i m hi;rw [mQ];simp only [FAn,mk];rw [BF (by simp_all),List.drop_of_length_le (by omega)];rfl
  | succ j ih=>
   intro i m hi;have hil:i<b.BP.length:=by omega
   have hw:AV ((i:Int)+1)=((i+1:Nat):Int):=by grind [A8]
   grind [mQ,FAn,BR,drop_at,Jd]
 obtain ⟨m,hm⟩:=gm (n:=b.BP.length) (by omega)
 rw [mP,XA3,mk,hm];exact key b.BP.length 0 m (Nat.zero_add _)
def sQ (n:Int):AA:=[(⟨#[]⟩:AA),⟨#[102,117,108,108]⟩,⟨#[115,101,115,115,105,111,110]⟩,⟨#[108,111,99,107,101,100]⟩,⟨#[119,111,114,100]⟩,⟨#[111,117,116]⟩,⟨#[119,114,111,110,103]⟩,⟨#[110,111,110,101]⟩,⟨#[112,111,108,105,99,121]⟩,⟨#[100,111,119,110]⟩].getD n.toNat ⟨#[]⟩
def KX (n:Int):List Ah×Int×AA:=([],n,sQ n)
theorem O8 {n:Int} (h:0<=n/\n<10):YB n=some (KX n):=by rw [YB,VA3,mk,AL (by simp_all)];rfl
noncomputable def iE (b:Ap) (c:CV):List Ah×Int×AA:=
 bif decide (b.AU.DU>=3) then KX 3
 else bif !((EK c.fText).toList == b.AU.Bv.toList) then ([⟨2,⟨#[]⟩,b.AU.DU+1,⟨0,0,false,false,false,false,⟨#[]⟩,0⟩⟩],4,sQ 4)
 else bif b.AU.DU == 0 then ([],0,⟨#[]⟩) else ([⟨2,⟨#[]⟩,0,⟨0,0,false,false,false,false,⟨#[]⟩,0⟩⟩],0,⟨#[]⟩)
theorem MBn {b:Ap} {c:CV} (ht:0<=b.AU.DU) (hc:c.fText.size<=1000000000):GAn b c=some (iE b c):=by
 rw [GAn,YA3,mk,iE];simp only [O8 (n:=3) (by decide),O8 (n:=4) (by decide),Apw hc,AP];by_cases h:b.AU.DU>=3;·simp_all
 ·rw [D6 h,A8 (by omega) (by omega)];cases !((EK c.fText).toList == b.AU.Bv.toList) <;> cases b.AU.DU == 0 <;> rfl
theorem Good.pOk {k:AA} {l:List Ah} {b:Ap} (g:Good k l b):Zg b=some true:=by have hs:=g.small;have h1:=hs.1;have h2:=g.Xx;have h3:=g.MX.1;have h4:=g.LH.2;rw [RBA (by omega) (fun f hf=>by have:=hs.2 f hf;omega) (by omega) (by omega) (by omega),g.ok]
theorem MBM {c:CV} (h:OM c=true):c.fText.size<=1000:=by grind [OM]
def defaults (kind:Int) (data:AA):Af×Bool:=
 bif kind == 1 then (⟨0,kind,true,false,false,true,EK data,0⟩,true)
 else bif kind == 2 then (⟨0,kind,true,false,true,false,EK data,0⟩,true)
 else bif kind == 3 then (bif decide ((data.size:Int)<=100) then (⟨0,kind,false,false,false,false,data,0⟩,true) else (⟨0,0,false,false,false,false,⟨#[]⟩,0⟩,false))
 else (⟨0,0,false,false,false,false,⟨#[]⟩,0⟩,false)
theorem OBn (kind:Int) {data:AA} (h:data.size<=1000000000):PAj kind data=some (defaults kind data):=by simp only [PAj,CAx,mk,LV h,AP,defaults];grind
theorem PBn (kind:Int) {data:AA} (h:data.size<=1000000000):HAn kind data=some (defaults kind data):=by simp only [HAn,ZA3,mk,Apw h,AP,defaults];grind
def b1 (n:Int):AA:=ofBytes [n]
theorem Avr (n:Int):(b1 n).size=1:=by rfl
def EF (s:AA):AA:=(EK s).extract 0 4
theorem Rw (s:AA):(EF s).size=4:=by rfl
def ArD (leaf chain:Int):Nat->Int->AA->AA
 | 0,_,x=>x
 | n+1,f,x=>ArD leaf chain n (f+1) (EF (b1 leaf++b1 chain++b1 f++x))
theorem QBn {leaf chain:Int}:∀ (n:Nat) (f:Int) (x:AA),x.size=4->(ArD leaf chain n f x).size=4:=by
 intro n;induction n with
 | zero=>intro f x h;exact h
 | succ n ih=>intro f x h;exact ih _ _ (Rw _)
theorem Zl (leaf chain:Int) (f:Int) (x:AA):∀ n:Nat,ArD leaf chain (n+1) f x=EF (b1 leaf++b1 chain++b1 (f+n)++ArD leaf chain n f x):=by intro n;induction n generalizing f x<;>grind [ArD]
def Zj:AA:=⟨#[111]⟩
def Zm:AA:=⟨#[110]⟩
def keyAt (seed:AA) (leaf c:Int):AA:=EF (seed++b1 leaf++b1 c++Zj)
def H9 (seed:AA) (leaf:Int) (n:Nat):List AA:=(List.range n).map fun c:Nat=>keyAt seed leaf (c:Int)
def Nc:List AA->AA
 | []=>⟨#[]⟩
 | x::xs=>x++Nc xs
theorem RBn (s:AA):(⟨#[]⟩:AA)++s=s:=Aq3 (by rfl)
theorem iP (s:AA):s++(⟨#[]⟩:AA)=s:=Aq3 (by simp [Fa,IBg])
theorem Vj (a b c:AA):a++b++c=a++(b++c):=Aq3 (by simp [Fa])
theorem tZ (a b:List AA):Nc (a++b)=Nc a++Nc b:=by induction a<;>simp_all [RBn,Nc,Vj]
theorem Tz {l:List AA} {n:Nat} (h:∀ x ∈ l,x.size=n):(Nc l).size=l.length*n:=by
 induction l with
 | nil=>simp [Nc];rfl
 | cons x xs ih=>grind [Nc]
def KQ (level place:Int) (a b:AA):AA:=EF (b1 level++b1 place++a++b++Zm)
theorem nbq (a b:Nat):Nat.beq a b=decide (a=b):=by grind [Ea,Nat.beq_refl]
theorem yC {s:AA} (h:s.size<=1000000000):AwR s=some (EF s):=by rw [AwR,LA4,mk,Apw h,AP,Qh,AL (by rfl)];rfl
theorem NBM {s:AA} {leaf:Int} (hl:0<=leaf/\leaf<=255) (hs:s.size<=100000):mV s leaf=some (H9 s leaf 10):=by
 have key:∀ (j i m:Nat),i+j=10->bV (m+j+1) (.c0 s leaf (i:Int) (H9 s leaf i))=some (H9 s leaf 10):=by
  intro j;induction j with
  | zero=>
   grind [bV,NAn]
  | succ j ih=>
   intro i m hi;have hw:AV ((i:Int)+1)=((i+1:Nat):Int):=by grind [A8]
   have ho:(H9 s leaf i).length=i:=by simp [H9]
   have hm:H9 s leaf i++[keyAt s leaf (i:Int)]=H9 s leaf (i+1):=by simp [H9,List.range_succ]
   rw [AwB m j,bV];simp only [NAn,mk,hw];rw [AL (by grind),AvD hl.1 hl.2,AP];show (bif decide (s.size+(b1 leaf).size<=_) then _ else _)=_;rw [AL (by grind [Avr]),AvD (by omega) (by omega),AP];show (bif decide ((s++b1 leaf).size+(b1 (i:Int)).size<=_) then _ else _)=_;rw [AL (by grind [Avr])];show (bif decide ((s++b1 leaf++b1 (i:Int)).size+Zj.size<=_) then _ else _)=_;have hO:Zj.size=1:=rfl;rw [AL (by grind [Avr])];show (AwR (s++b1 leaf++b1 (i:Int)++Zj)).bind _=_;rw [yC (by grind [Avr]),AP,ho,AL (by grind)];show bV (m+j+1) (.c0 s leaf ((i+1:Nat):Int) (H9 s leaf i++[keyAt s leaf (i:Int)]))=_;rw [hm];exact ih (i+1) m (by omega)
 obtain ⟨m,hm⟩:∃ m,AY=m+10+1:=⟨AY - 11,by rfl⟩
 rw [mV,MA4,hm];exact key 10 0 m rfl
theorem OBM {x:AA} {leaf chain:Int} {f n:Nat} (hl:0<=leaf/\leaf<=255) (hc:0<=chain/\chain<=255) (hn:n<=15) (hf:f+n<=255) (hx:x.size<=100000):V3 x leaf chain (f:Int) (n:Int)=some (ArD leaf chain n f x):=by
 have hs:∀ i,(ArD leaf chain i f x).size<=100000:=fun i=>by
  cases i with
  | zero=>exact hx
  | succ i=>simp [Zl,Rw]
 have key:∀ (j i m:Nat),i+j=n->mW (m+j+1) (.c0 (ArD leaf chain i f x) leaf chain (f:Int) (n:Int) (i:Int))=some (ArD leaf chain n f x):=by
  intro j;induction j with
  | zero=>
   grind [mW,QAn]
  | succ j ih=>
   intro i m hi;have hw:AV ((i:Int)+1)=((i+1:Nat):Int):=by grind [A8]
   have hsi:=hs i;have hm:=Zl leaf chain f x i;rw [AwB m j,mW];simp only [QAn,mk,hw];rw [AL (by grind),AvD hl.1 hl.2,AP,AvD hc.1 hc.2,AP,A8 (by omega) (by omega),AvD (by omega) (by omega)];grind [b1,Avr,ArD,yC]
 obtain ⟨m,hm⟩:=gm (n:=n) (by omega)
 have hi:(ite ((15:Int)<(n:Int)) 15 (n:Int))=(n:Int):=if_neg (by omega);rw [V3,PA4,hi,hm];exact key n 0 m (Nat.zero_add _)
def Qr (keys:List AA) (leaf:Int) (n:Nat):List AA:=(List.range n).map fun c:Nat=>ArD leaf (c:Int) 15 0 (keys.getD c ⟨#[]⟩)
theorem EAr {keys:List AA} {leaf:Int} {n:Nat}:∀ x ∈ Qr keys leaf n,x.size=4:=fun x hx=>by grind [Qr,Zl,Rw]
theorem FAr (keys:List AA) (leaf:Int) (n:Nat):(Qr keys leaf n).length=n:=by simp [Qr]
def Vf (keys:List AA) (leaf:Int):AA:=EF (Nc (Qr keys leaf 10))
theorem TBn {keys:List AA} {leaf:Int} (hk:keys.length=10) (hl:0<=leaf/\leaf<=255) (hs:∀ x ∈ keys,x.size<=100000):yD keys leaf=some (Vf keys leaf):=by
 have key:∀ (j i m:Nat),i+j=10->YC (m+j+1) (.c0 leaf 362 363 (Nc (Qr keys leaf i)) keys ((keys.length:Nat):Int) (i:Int))=some (Vf keys leaf):=by
  intro j;induction j with
  | zero=>
   intro i m hi;obtain rfl:i=10:=by omega
   have hz:=Tz (EAr (keys:=keys) (leaf:=leaf) (n:=10));rw [FAr] at hz;rw [YC];simp only [RAn,mk];rw [hk,BF (by rfl),yC (by omega)];rfl
  | succ j ih=>
   intro i m hi;have hlt:i<keys.length:=by omega
   have hw:=Fq (i:=i) (by omega);have hz:=Tz (EAr (keys:=keys) (leaf:=leaf) (n:=i));rw [FAr] at hz;have hc:=Zl leaf (i:Int) 0 keys[i] 14;have hc2:(ArD leaf (i:Int) 15 0 keys[i]).size=4:=by rw [hc];exact Rw _
   have hm:Nc (Qr keys leaf i)++ArD leaf (i:Int) 15 0 keys[i]=Nc (Qr keys leaf (i+1)):=by rw [Qr,Qr,List.range_succ,List.map_append,tZ,List.map_cons,List.map_nil,Nc,Nc,iP,getD_at hlt]
   rw [AwB m j,YC];simp only [RAn,mk,hw,BR,getD_at hlt];rw [Ep (by omega),GX (by omega)];simp only [nbq,Nat.reduceEqDiff,decide_true,decide_false,Ar,Aq,OAn,NA4,PAn,OA4,AP];have hch:=OBM (x:=keys[i]) (leaf:=leaf) (chain:=(i:Int)) (f:=0) (n:=15) hl (by omega) (Nat.le_refl _) (by omega) (hs _ (List.getElem_mem hlt));rw [show V3 keys[i] leaf (i:Int) 0 15=_ from hch,AP];show (bif decide ((Nc (Qr keys leaf i)).size+(ArD leaf (i:Int) 15 0 keys[i]).size<=_) then YC (m+j+1) (.c0 leaf 362 363 (Nc (Qr keys leaf i)++ArD leaf (i:Int) 15 0 keys[i]) keys ((keys.length:Nat):Int) ((i+1:Nat):Int)) else none)=_;rw [Ep (by rw [hc2];omega),hm];exact ih (i+1) m (by omega)
 obtain ⟨m,hm⟩:=gm (n:=10) (by omega)
 rw [yD,SA4,mk,RA4,QA4,mk,BF (by rw [hk];rfl),hm];show (YC (m+10+1) (.c0 leaf 362 363 (Nc (Qr keys leaf 0)) keys ((keys.length:Nat):Int) ((0:Nat):Int))).bind _=_;rw [key 10 0 m rfl];rfl
theorem UBn (keys:List AA) (leaf:Int):(Vf keys leaf).size=4:=Rw _
def Md (s:AA) (n:Nat):List AA:=(List.range n).map fun l:Nat=>Vf (H9 s (l:Int) 10) (l:Int)
theorem tu (s:AA) (leaf:Int) (n:Nat):(H9 s leaf n).length=n:=by simp [H9]
theorem uD {s:AA} {leaf:Int} {n:Nat}:∀ x ∈ H9 s leaf n,x.size=4:=fun x hx=>by
 rw [H9,List.mem_map] at hx;obtain ⟨c,_,rfl⟩:=hx
 rfl
theorem PBM {s:AA} (hs:s.size<=100000):yE s=some (Md s 4):=by
 have key:∀ (j i m:Nat),i+j=4->mX (m+j+1) (.c0 s (i:Int) (Md s i))=some (Md s 4):=by
  intro j;induction j with
  | zero=>
   grind [mX,SAn]
  | succ j ih=>
   intro i m hi;have hw:AV ((i:Int)+1)=((i+1:Nat):Int):=by grind [A8]
   have ho:(Md s i).length=i:=by simp [Md]
   have hm:Md s i++[Vf (H9 s (i:Int) 10) (i:Int)]=Md s (i+1):=by simp [Md,List.range_succ]
   rw [AwB m j,mX];simp only [SAn,mk,hw];rw [AL (by grind),NBM (by omega) hs,AP,TBn (tu _ _ _) (by omega) (fun x hx=>by grind [uD]),AP,ho,AL (by grind),hm];exact ih (i+1) m (by omega)
 obtain ⟨m,hm⟩:∃ m,AY=m+4+1:=⟨AY - 5,by rfl⟩
 rw [yE,TA4,hm];exact key 4 0 m rfl
theorem SBA {level place:Int} {a b:AA} (hl:0<=level/\level<=255) (hp:0<=place/\place<=255) (ha:a.size<=100000) (hb:b.size<=100000):YD level place a b=some (KQ level place a b):=by have hN:Zm.size=1:=rfl;rw [YD,UA4,mk,AvD hl.1 hl.2,AP,AvD hp.1 hp.2,AP];show (bif decide ((b1 level).size+(b1 place).size<=_) then _ else _)=_;rw [AL (by rfl)];show (bif decide ((b1 level++b1 place).size+a.size<=_) then _ else _)=_;rw [AL (by grind [Avr])];show (bif decide ((b1 level++b1 place++a).size+b.size<=_) then _ else _)=_;rw [AL (by grind [Avr])];show (bif decide ((b1 level++b1 place++a++b).size+Zm.size<=_) then _ else _)=_;rw [AL (by grind [Avr])];show (AwR (b1 level++b1 place++a++b++Zm)).bind _=_;rw [yC (by grind [Avr])];rfl
theorem Ara (level place:Int) (a b:AA):(KQ level place a b).size=4:=Rw _
theorem QBM {lv:Int} {a b c d:AA} (hl:0<=lv/\lv<=255) (ha:a.size<=100000) (hb:b.size<=100000) (hc:c.size<=100000) (hd:d.size<=100000):V4 lv [a,b,c,d]=some [KQ lv 0 a b,KQ lv 1 c d]:=by
 obtain ⟨m,hm⟩:∃ m,AY=m+1+1+1:=⟨AY - 3,rfl⟩
 rw [V4,TAn,hm,YE];simp only [yF,mk];rw [AL (by rfl),AL (by rfl),AL (by rfl)];show (YD lv 0 a b).bind _=_;rw [SBA hl (by omega) ha hb,AP,AL (by rfl),YE];simp only [yF,mk];rw [AL (by rfl),AL (by rfl),AL (by rfl)];show (YD lv 1 c d).bind _=_;rw [SBA hl (by omega) hc hd,AP,AL (by rfl),YE];rfl
theorem RBM {lv:Int} {a b:AA} (hl:0<=lv/\lv<=255) (ha:a.size<=100000) (hb:b.size<=100000):V4 lv [a,b]=some [KQ lv 0 a b]:=by
 obtain ⟨m,hm⟩:∃ m,AY=m+1+1:=⟨AY - 2,rfl⟩
 rw [V4,TAn,hm,YE];simp only [yF,mk];rw [AL (by rfl),AL (by rfl),AL (by rfl)];show (YD lv 0 a b).bind _=_;rw [SBA hl (by omega) ha hb,AP,AL (by rfl),YE];rfl
def TBA (a b c d:AA):AA:=KQ 2 0 (KQ 1 0 a b) (KQ 1 1 c d)
theorem VBn {a b c d:AA} (ha:a.size<=100000) (hb:b.size<=100000) (hc:c.size<=100000) (hd:d.size<=100000):VAn [a,b,c,d]=some (TBA a b c d):=by
 obtain ⟨m,hm⟩:∃ m,AY=m+1+1+1:=⟨AY - 3,rfl⟩
 have n1:=Ara 1 0 a b;have n2:=Ara 1 1 c d;rw [VAn,VA4,mk,BF (by rfl),hm,mZ];simp only [UAn,mk];rw [AL (by rfl),QBM (by omega) ha hb hc hd,AP,show AV (1+1)=2 by rfl,mZ];simp only [UAn,mk];rw [AL (by rfl),RBM (by omega) (by omega) (by omega),AP,mZ];rfl
def Qe (s:AA) (l:Int):AA:=Vf (H9 s l 10) l
theorem KR (s:AA) (l:Int):(Qe s l).size=4:=UBn _ _
theorem GAr (s:AA):Md s 4=[Qe s 0,Qe s 1,Qe s 2,Qe s 3]:=rfl
def Aq8 (s:AA):AA:=TBA (Qe s 0) (Qe s 1) (Qe s 2) (Qe s 3)
theorem uO (s:AA):(Aq8 s).size=4:=Ara _ _ _ _
theorem SBM {s:AA} (hs:s.size<=100000):mg s=some (Aq8 s):=by rw [mg,WA4,mk,PBM hs,AP,GAr,VBn (by simp [KR]) (by simp [KR]) (by simp [KR]) (by simp [KR])];rfl
theorem WBn {b:Int} (h:0<=b/\b<=255):AV (Int.fdiv b (2 ^ (Min.min (4:Int).toNat (IntKind.bits IntKind.u8))))=b / 16:=by grind [IntKind.bits,A8]
theorem XBn {b:Int} (h:0<=b/\b<=255):AV (w8 (((BitVec.toNat ((BitVec.ofInt (IntKind.bits IntKind.u8) b) &&& (BitVec.ofInt (IntKind.bits IntKind.u8) 15))):Nat):Int))=b % 16:=by
 obtain ⟨n,rfl⟩:∃ n:Nat,b=(n:Int):=⟨b.toNat,by omega⟩
 have e:(BitVec.ofInt (IntKind.bits IntKind.u8) (n:Int) &&& BitVec.ofInt (IntKind.bits IntKind.u8) 15).toNat=n % 16:=by show (BitVec.ofInt 8 (n:Int) &&& BitVec.ofInt 8 15).toNat=_;rw [BitVec.toNat_and,BitVec.ofInt_natCast,BitVec.toNat_ofNat,Nat.mod_eq_of_lt (by omega),show (BitVec.ofInt 8 15).toNat=2 ^ 4 - 1 by decide,Nat.and_two_pow_sub_one_eq_mod]
 grind [Nq,A8]
def ArA:List Int->List Int
 | []=>[]
 | b::bs=>b / 16::b % 16::ArA bs
theorem TBM (a b:List Int):ArA (a++b)=ArA a++ArA b:=by induction a<;>simp_all [ArA]
theorem uI (a:List Int):(ArA a).length=2*a.length:=by induction a<;>grind [ArA]
theorem HAr {a:List Int} (h:AsE a):∀ d ∈ ArA a,0<=d/\d<=15:=by
 induction a with
 | nil=>intro d hd;cases hd
 | cons x xs ih=>
  intro d hd;have hx:=h x (List.mem_cons_self ..);rw [ArA,List.mem_cons,List.mem_cons] at hd;rcases hd with rfl | rfl | hd
  ·omega
  ·omega
  ·exact ih (fun y hy=>h y (List.mem_cons_of_mem _ hy)) d hd
def Lj:List Int->Int
 | []=>0
 | d::ds=>15 - d+Lj ds
theorem UBM (a b:List Int):Lj (a++b)=Lj a+Lj b:=by induction a<;>grind [Lj]
theorem uJ {a:List Int} (h:∀ d ∈ a,0<=d/\d<=15):0<=Lj a/\Lj a<=15*(a.length:Int):=by
 induction a with
 | nil=>exact ⟨Int.le_refl _,Int.le_refl _⟩
 | cons x xs ih=>
  have hx:=h x (List.mem_cons_self ..);have:=ih (fun y hy=>h y (List.mem_cons_of_mem _ hy));grind [Lj]
def QK (m:AA):List Int:=ArA (bs (EF m))++[Lj (ArA (bs (EF m))) / 16,Lj (ArA (bs (EF m))) % 16]
theorem VBM (m:AA):(QK m).length=10/\∀ d ∈ QK m,0<=d/\d<=15:=by have h1:=HAr (Jj (EF m));have h2:=uI (bs (EF m));have h3:=uJ h1;grind [bs_len,Rw,QK]
theorem YBn {s:AA} (hs:s.size<=1000000000):yG s=some (QK s):=by
 have hz:=Rw s;have hin:=HAr (Jj (EF s));have hln:=uI (bs (EF s));rw [bs_len,hz] at hln;have Cq:∀ (j i m:Nat),i+j=8->V5 (m+j+1) (.c1 (Lj ((ArA (bs (EF s))).take i)) ((8:Nat):Int) (i:Int) (ArA (bs (EF s))))=some (QK s):=by
  intro j;induction j with
  | zero=>
   intro i m hi;obtain rfl:i=8:=by omega
   have h3:=uJ hin;rw [List.take_of_length_le (by omega),V5];simp only [nC,mk];rw [BF (by rfl),AL (by simp_all),Int.tdiv_eq_ediv_of_nonneg h3.1,Int.tmod_eq_emod_of_nonneg h3.1,A8 (by omega) (by omega)];rfl
  | succ j ih=>
   intro i m hi;have hlt:i<(ArA (bs (EF s))).length:=by omega
   have hw:AV ((i:Int)+1)=((i+1:Nat):Int):=by grind [A8]
   have h3:=uJ (a:=(ArA (bs (EF s))).take i) (fun d hd=>hin d (List.mem_of_mem_take hd));have h4:=hin _ (List.getElem_mem hlt);have hl:((ArA (bs (EF s))).take i).length<=8:=by grind
   have hm:Lj ((ArA (bs (EF s))).take i)+(15 - (ArA (bs (EF s)))[i])=Lj ((ArA (bs (EF s))).take (i+1)):=by rw [take_at hlt,UBM,Lj,Lj];omega
   rw [AwB m j,V5];grind [nC,BR,A8]
 have C1:∀ (j i m:Nat),i+j=4->V5 (m+9+j+1) (.c0 0 (EF s) (i:Int) (ArA ((bs (EF s)).take i)))=some (QK s):=by
  intro j;induction j with
  | zero=>
   intro i m hi;obtain rfl:i=4:=by omega
   rw [V5];simp only [nC,mk];rw [BF (by rfl),List.take_of_length_le (by grind [bs_len]),hln];exact Cq 8 0 m rfl
  | succ j ih=>
   intro i m hi;have hlt:i<(EF s).size:=by omega
   have hlt2:i<(bs (EF s)).length:=by grind [bs_len]
   have hw:AV ((i:Int)+1)=((i+1:Nat):Int):=by grind [A8]
   have hb:=Rx (EF s) (i:Int);have hl:(ArA ((bs (EF s)).take i)).length<=8:=by grind [uI]
   have hm:ArA ((bs (EF s)).take i)++[bt (EF s) (i:Int) / 16,bt (EF s) (i:Int) % 16]=ArA ((bs (EF s)).take (i+1)):=by rw [take_at hlt2,TBM,Zo hlt];rfl
   rw [show m+9+(j+1)+1=(m+9+j+1)+1 from rfl,V5];simp only [nC,mk,hw,WBn hb,XBn hb];rw [AL (by grind),AL (by grind),AL (by grind),AL (by grind),hm];exact ih (i+1) m (by omega)
 obtain ⟨m,hm⟩:∃ m,AY=m+9+4+1:=⟨AY - 14,by rfl⟩
 rw [yG,XA4,yC hs,AP,hm];exact C1 4 0 m rfl
def AqK (keys:List AA) (leaf:Int) (ds:List Int) (n:Nat):List AA:=(List.range n).map fun c:Nat=>ArD leaf (c:Int) (ds.getD c 0).toNat 0 (keys.getD c ⟨#[]⟩)
theorem ZBn {x:AA} {leaf d:Int} {i:Nat} (hl:0<=leaf/\leaf<=255) (hi:i<10) (hx:x.size<=100000) (hd:0<=d/\d<=15):V3 x leaf (i:Int) 0 d=some (ArD leaf (i:Int) d.toNat 0 x):=by
 obtain ⟨n,rfl⟩:∃ n:Nat,d=(n:Int):=⟨d.toNat,by omega⟩
 rw [BR];exact OBM (f:=0) (n:=n) hl (by omega) (by omega) (by omega) hx
theorem AgQ {keys:List AA} {leaf:Int} {s:AA} (hk:keys.length=10) (hl:0<=leaf/\leaf<=255) (hs:∀ x ∈ keys,x.size<=100000) (hm:s.size<=1000000000):XAn keys leaf s=some (AqK keys leaf (QK s) 10):=by
 obtain ⟨d1,d2⟩:=VBM s
 have hdig:=YBn hm;generalize QK s=D at d1 d2 hdig;have key:∀ (j i m:Nat),i+j=10->nD (m+j+1) (.c0 leaf keys ((keys.length:Nat):Int) (i:Int) D (AqK keys leaf D i))=some (AqK keys leaf D 10):=by
  intro j;induction j with
  | zero=>
   grind [nD,WAn]
  | succ j ih=>
   intro i m hi;have hlt:i<keys.length:=by omega
   have hlt2:i<D.length:=by omega
   have hw:AV ((i:Int)+1)=((i+1:Nat):Int):=by grind [A8]
   have hd:=d2 _ (List.getElem_mem hlt2);have ho:(AqK keys leaf D i).length=i:=by simp [AqK]
   have hstep:AqK keys leaf D i++[ArD leaf (i:Int) D[i].toNat 0 keys[i]]=AqK keys leaf D (i+1):=by grind [AqK,List.range_succ]
   have hch:=ZBn hl (show i<10 by omega) (hs _ (List.getElem_mem hlt)) hd;grind [nD,WAn,BR]
 obtain ⟨m,hm2⟩:∃ m,AY=m+10+1:=⟨AY - 11,by rfl⟩
 rw [XAn,YA4,mk,BF (by simp_all),hdig,AP,hm2];exact key 10 0 m rfl
def iW (a b c d:AA) (leaf:Int):List AA:=
 if leaf=0 then [b,KQ 1 1 c d] else if leaf=1 then [a,KQ 1 1 c d] else if leaf=2 then [d,KQ 1 0 a b] else [c,KQ 1 0 a b]
theorem IAr {a b c d:AA} {m:Nat} {leaf AD up:Int} (ha:a.size<=100000) (hb:b.size<=100000) (hc:c.size<=100000) (hd:d.size<=100000) (hs:AV (((BitVec.toNat ((BitVec.ofInt (IntKind.bits IntKind.i64) leaf) ^^^ (BitVec.ofInt (IntKind.bits IntKind.i64) 1))):Nat):Int)=AD) (h0:0<=AD/\AD<4) (hu:AV (leaf.tdiv 2)=up) :
  YF (m+1) (.c0 [a,b,c,d] leaf 1 [])=YF m (.c1 up 2 [KQ 1 0 a b,KQ 1 1 c d] [[a,b,c,d].getD AD.toNat ⟨#[]⟩]):=by
 simp_all [YF,YAn,mk,QBM,A8]
theorem JAr {a b x:AA} {m:Nat} {leaf AD:Int} (ha:a.size<=100000) (hb:b.size<=100000) (hs:AV (((BitVec.toNat ((BitVec.ofInt (IntKind.bits IntKind.i64) leaf) ^^^ (BitVec.ofInt (IntKind.bits IntKind.i64) 1))):Nat):Int)=AD) (h0:0<=AD/\AD<2) :
  YF (m+1+1) (.c1 leaf 2 [a,b] [x])=some [x,[a,b].getD AD.toNat ⟨#[]⟩]:=by
 simp_all [YF,YAn,mk,RBM]
theorem BBo {a b c d:AA} {leaf:Int} (hl:0<=leaf/\leaf<=3) (ha:a.size<=100000) (hb:b.size<=100000) (hc:c.size<=100000) (hd:d.size<=100000):ZAn [a,b,c,d] leaf=some (iW a b c d leaf):=by
 obtain ⟨m,hm⟩:∃ m,AY=m+1+1+1:=⟨AY - 3,rfl⟩
 have n1:=Ara 1 0 a b;have n2:=Ara 1 1 c d;rw [ZAn,ZA4,mk,BF (by rfl),Ti,AP,Aqo.2 hl,DN,Aq,hm];have h4:leaf=0\/leaf=1\/leaf=2\/leaf=3:=by omega
 rcases h4 with rfl | rfl | rfl | rfl
 ·rw [IAr (AD:=1) (up:=0) ha hb hc hd (by decide) (by omega) (by decide),JAr (AD:=1) (by omega) (by omega) (by decide) (by omega)];rfl
 ·rw [IAr (AD:=0) (up:=0) ha hb hc hd (by decide) (by omega) (by decide),JAr (AD:=1) (by omega) (by omega) (by decide) (by omega)];rfl
 ·rw [IAr (AD:=3) (up:=1) ha hb hc hd (by decide) (by omega) (by decide),JAr (AD:=0) (by omega) (by omega) (by decide) (by omega)];rfl
 ·rw [IAr (AD:=2) (up:=1) ha hb hc hd (by decide) (by omega) (by decide),JAr (AD:=0) (by omega) (by omega) (by decide) (by omega)];rfl
theorem CBo {a b c d:AA} {leaf:Int} (ha:a.size=4) (hb:b.size=4) (hc:c.size=4) (hd:d.size=4):(iW a b c d leaf).length=2/\∀ x ∈ iW a b c d leaf,x.size=4:=by grind [iW,Ara]
def iY (s:AA) (leaf:Int) (m:AA):IL:=⟨leaf,AqK (H9 s leaf 10) leaf (QK m) 10,iW (Qe s 0) (Qe s 1) (Qe s 2) (Qe s 3) leaf⟩
theorem WBM {s m:AA} {leaf:Int} (hl:0<=leaf/\leaf<=3) (hs:s.size<=100000) (hm:m.size<=1000000000):nG s leaf m=some (iY s leaf m,true):=by rw [nG,ANk,mk,Ti,AP,Aqo.2 hl,DN,Aq,NBM (by omega) hs,AP,AgQ (tu _ _ _) (by omega) (fun x hx=>by grind [uD]) hm,AP,PBM hs,AP,GAr,BBo hl (by simp [KR]) (by simp [KR]) (by simp [KR]) (by simp [KR])];rfl
structure OT (s:IL):Prop where
 leaf:0<=s.Dv/\s.Dv<=3
 once:s.Fg.length=10/\∀ x ∈ s.Fg,x.size=4
 path:s.Gn.length=2/\∀ x ∈ s.Gn,x.size=4
theorem DBo {keys:List AA} {leaf:Int} {ds:List Int} {n:Nat} (hk:keys.length=n) (h:∀ x ∈ keys,x.size=4):(AqK keys leaf ds n).length=n/\∀ x ∈ AqK keys leaf ds n,x.size=4:=by grind [AqK,QBn]
theorem Xk {s m:AA} {leaf:Int} (hl:0<=leaf/\leaf<=3):OT (iY s leaf m):=⟨hl,DBo (tu _ _ _) uD,CBo (KR _ _) (KR _ _) (KR _ _) (KR _ _)⟩
theorem XBM {l:List AA} {n:Nat} (h:l.length=n) (hs:∀ x ∈ l,x.size=4) (hn:n<=1000):BAo l (n:Int)=some true:=by
 have key:∀ (j i m:Nat),i+j=l.length->yH (m+j+1) (.c0 l (n:Int) l ((l.length:Nat):Int) (i:Int))=some true:=by intro j;induction j<;>grind [yH,DA5,A8]
 obtain ⟨m,hm⟩:=gm (n:=l.length) (by omega)
 rw [BAo,CA5,mk,hm];exact key l.length 0 m (Nat.zero_add _)
theorem EBo {s:IL} (h:OT s):yI s=some true:=by rw [yI,EA5,mk,Ti,AP,Aqo.2 h.leaf,Ar];have h1:=XBM h.once.1 h.once.2 (by omega);have h2:=XBM h.path.1 h.path.2 (by omega);simp_all
def Ro (s:IL):AA:=b1 s.Dv++Nc s.Fg++Nc s.Gn
theorem Zt {s:IL} (h:OT s):(Ro s).size=49:=by rw [Ro,ByteArray.size_append,ByteArray.size_append,Avr,Tz h.once.2,Tz h.path.2,h.once.1,h.path.1]
theorem YBM {s:IL} (h:OT s):CAo s=some (Ro s,true):=by
 obtain ⟨l1,s1⟩:=h.once
 obtain ⟨l2,s2⟩:=h.path
 have pre:∀ {l:List AA} {i:Nat} (hlt:i<l.length),Nc (l.take i)++l[i]=Nc (l.take (i+1)):=fun {l i} hlt=>by grind [take_at,tZ,Nc,iP]
 have CC:∀ {l:List AA} (i:Nat),(∀ x ∈ l,x.size=4)->l.length<=10->(Nc (l.take i)).size<=40:=fun {l} i hs hl=>by rw [Tz (fun x hx=>hs x (List.mem_of_mem_take hx)),List.length_take];omega
 have hO:=Tz s1;have Cq:∀ (j i m:Nat),i+j=s.Gn.length->V6 (m+j+1) (.c1 (b1 s.Dv++Nc s.Fg++Nc (s.Gn.take i)) s.Gn ((s.Gn.length:Nat):Int) (i:Int))=some (Ro s,true):=by
  intro j;induction j with
  | zero=>
   intro i m hi;rw [V6];simp only [nH,mk];rw [BF (by simp_all),List.take_of_length_le (by omega)];rfl
  | succ j ih=>
   intro i m hi;have hlt:i<s.Gn.length:=by omega
   have hw:AV ((i:Int)+1)=((i+1:Nat):Int):=by grind [A8]
   have hz:=CC i s2 (by omega);rw [AwB m j,V6];simp only [nH,mk,hw,BR,getD_at hlt];rw [AL (by grind),AL (by grind),AL (by grind [Avr]),Vj (b1 s.Dv++Nc s.Fg),pre hlt];exact ih (i+1) m (by omega)
 have C1:∀ (j i m:Nat),i+j=s.Fg.length->V6 (m+3+j+1) (.c0 (b1 s.Dv++Nc (s.Fg.take i)) s.Fg ((s.Fg.length:Nat):Int) (i:Int) s)=some (Ro s,true):=by
  intro j;induction j with
  | zero=>
   intro i m hi;rw [V6];simp only [nH,mk];rw [BF (by simp_all),List.take_of_length_le (by omega)];have h0:=Cq s.Gn.length 0 m (Nat.zero_add _);simp_all [Nc,iP]
  | succ j ih=>
   intro i m hi;have hlt:i<s.Fg.length:=by omega
   have hw:AV ((i:Int)+1)=((i+1:Nat):Int):=by grind [A8]
   have hz:=CC i s1 (by omega);rw [show m+3+(j+1)+1=(m+3+j+1)+1 from rfl,V6];simp only [nH,mk,hw,BR,getD_at hlt];rw [AL (by grind),AL (by grind),AL (by grind [Avr]),Vj (b1 s.Dv),pre hlt];exact ih (i+1) m (by omega)
 obtain ⟨m,hm⟩:∃ m,AY=m+3+s.Fg.length+1:=⟨AY - (3+s.Fg.length+1),by have:=FM (n:=3+s.Fg.length+1) (by omega);omega⟩
 rw [CAo,FA5,mk,EBo h,AP,DN,Aq,AvD h.leaf.1 (by have:=h.leaf.2;omega),AP,hm];have h0:=C1 s.Fg.length 0 m (Nat.zero_add _);assumption
def iZ:AA:=⟨#[108]⟩
def Zp:AA:=⟨#[116]⟩
def QL (s:AA) (i:Int):AA:=s++b1 (i / 4)++iZ
def H7 (s:AA) (i:Int) (m:AA):Nl:=⟨iY (s++Zp) (i / 4) (Aq8 (QL s i)),Aq8 (QL s i),iY (QL s i) (i % 4) m⟩
theorem FBo {s m:AA} {i:Int} (hi:0<=i/\i<=15) (hs:s.size<=90000) (hm:m.size<=1000000000):AF2 s i m=some (H7 s i m,true):=by
 have hL:iZ.size=1:=rfl;have hT:Zp.size=1:=rfl;have hlow:(QL s i).size=s.size+2:=by simp_all [QL,Avr]
 have e1:AV (i.tdiv 4)=i / 4:=by grind [A8]
 have e2:i.tmod 4=i % 4:=Int.tmod_eq_emod_of_nonneg hi.1;rw [AF2,BA5,mk,Ti,AP,Aqo.2 hi,DN,Aq,e1,e2,AvD (by omega) (by omega),AP];show (bif decide (s.size+(b1 (i / 4)).size<=_) then _ else _)=_;rw [AL (by grind [Avr])];show (bif decide ((s++b1 (i / 4)).size+iZ.size<=_) then (mg (QL s i)).bind (fun r2=>(nG (QL s i) (i % 4) m).bind fun r3=>bif decide (s.size+Zp.size<=9223372036854775807) then (nG (s++Zp) (i / 4) r2).bind fun r4=>some ((⟨r4.1,r2,r3.1⟩:Nl),true) else none) else none)=_;rw [AL (by grind [Avr]),SBM (by omega),AP,WBM (by omega) (by omega) hm,AP,AL (by grind),WBM (by omega) (by grind) (by simp [uO])];rfl
def Arh (h:Nl):AA:=Ro h.QU++h.QS++Ro h.QV
theorem GBo {s m:AA} {i:Int} (hi:0<=i/\i<=15):DAo (H7 s i m)=some (Arh (H7 s i m),true):=by have h1:OT (H7 s i m).QU:=Xk (by omega);have h2:OT (H7 s i m).QV:=Xk (by omega);have h3:(H7 s i m).QS.size=4:=uO _;have z1:=Zt h1;have z2:=Zt h2;rw [DAo,GA5,mk,YBM h1,AP,YBM h2,AP];dsimp only;rw [DN,Aq,Aq,BF (by simp_all),AL (by simp_all),AL (by simp_all)];rfl
theorem UBA {b:Ap} {t:Int} (h:b.BD.length<=140737488351232):YG b t=some (atV b t):=by
 have key:∀ (j i m:Nat),i+j=b.BD.length->nI (m+j+1) (.c0 t b.BD (b.BD.length:Int) (i:Int))=some (match Aqi (b.BD.drop i) t i with | some j=>(j:Int) | none=> -1):=by
  intro j;induction j with
  | zero=>
   intro i m hi;rw [nI];simp only [MAn,mk];rw [BF (by simp_all),List.drop_of_length_le (by omega)];rfl
  | succ j ih=>
   intro i m hi;have hil:i<b.BD.length:=by omega
   have hw:AV ((i:Int)+1)=((i+1:Nat):Int):=by grind [A8]
   grind [nI,MAn,BR,drop_at,Aqi]
 obtain ⟨m,hm⟩:=gm (n:=b.BD.length) (by omega)
 rw [YG,IA4,mk,hm];exact key b.BD.length 0 m (Nat.zero_add _)
theorem VBA {b:Ap} {t:Int} (h:b.BD.length<=140737488351232) (ht:b.AU.AZ.length<=140737488351232):AqU b t=some (AsP b t):=by
 rw [AqU,KA4,mk,Xb ht,AP,AsP];cases hx:Aqg b.AU.AZ t with
 | none=>rfl
 | some x=>
  have hid:x.fId=t:=by have:=List.find?_some hx;simp_all
  simp only [UBA h,bne,atV,Arx,hid,AP];cases x.Aj == 2;·rfl
  ·cases hp:Aqi b.BD t 0 with
   | none=>rfl
   | some j=>
    have hj:=(fP hp).2;grind
def Apt:Af:=⟨0,0,false,false,false,false,⟨#[]⟩,0⟩
def AqT (x:Af) (h f:Bool):Af×Bool:=bif Ar9 x && ((h || !x.CY) && (f || !x.CX)) then (⟨x.fId,x.Aj,h,f,x.Gw,x.GH,x.fValue,x.fNext⟩,true) else (Apt,false)
def JM (x:Af) (d:Int):Bool:=Ar9 x && (bif d == 1 then !x.CY else bif d == 2 then !x.CX && !(x.Aj == 2) else bif d == 3 then x.Gw else bif d == 4 then x.GH else d == 5)
theorem HBo (x:Af) (d:Int):LAn x d=some (JM x d):=by rw [LAn,HA4,mk,sJ,AP,JM,bne];grind
def Nw (x:Af):Ah:=⟨3,⟨#[]⟩,0,x⟩
def newX (b:Ap) (c:CV) (x:Af):Af:=⟨b.AU.BM+1,x.Aj,x.CY || c.CY,x.CX || c.CX,x.Gw,x.GH,x.fValue,x.fNext⟩
def O3 (x:Af):Af:=⟨x.fId,x.Aj,x.CY,x.CX,x.Gw,x.GH,x.fValue,ite (16<x.fNext+3) 16 (x.fNext+3)⟩
def QJ (l:List Int):List Int:=(SN (l.length:Int)++l)++List.replicate ((16 - (SN (l.length:Int)++l).length % 16) % 16) 0
theorem WBA {l:List Int} (h:AsE l):AsE (QJ l):=by
 intro x hx;simp only [QJ,List.mem_append,List.mem_replicate] at hx;rcases hx with (hx | hx) | hx
 ·exact Uk (by omega) x hx
 ·exact h x hx
 ·omega
theorem XBA {l:List Int} (h:l.length<=1000000000):(QJ l).length<=l.length+25/\(QJ l).length % 16=0:=by grind [Apv,QJ]
def iJ (k s:AA):AA×Bool:=bif decide ((s.size:Int) > 400) then (⟨#[]⟩,false) else Si k 0 (ofBytes (QJ (bs s)))
noncomputable def QI (text:AA) (a:Nat):AA×Int×Bool:=
 bif !(Gl text a).2.2 || (decide ((Gl text a).1 > 20000) || decide ((Gl text a).1 > (text.size:Int) - (Gl text a).2.1)) then (⟨#[]⟩,0,false)
 else (text.extract (Gl text a).2.1.toNat ((Gl text a).2.1+(Gl text a).1).toNat,(Gl text a).2.1+(Gl text a).1,true)
noncomputable def Qw (k t:AA):AA×Bool:=
 bif !(EM k 0 t).2 || (!(QI (EM k 0 t).1 0).2.2 || (decide (((QI (EM k 0 t).1 0).1.size:Int) > 400) || !(QJ (bs (QI (EM k 0 t).1 0).1) == bs (EM k 0 t).1))) then (⟨#[]⟩,false)
 else ((QI (EM k 0 t).1 0).1,true)
def nrt (l h x:Nat):Nat:=Nat.add (Nat.div x l) (Nat.mul (Nat.mod x l) h)
def IBo (x:Nat):Nat:=Nat.xor (Nat.xor (nrt 64 67108864 x) (nrt 2048 2097152 x)) (nrt 33554432 128 x)
def nx (e f g h k w:Nat):Nat:=Nat.mod (Nat.add (Nat.add (Nat.add (Nat.add h (IBo e)) (Nat.xor (Nat.land e f) (Nat.land (Nat.sub 4294967295 e) g))) k) w) 4294967296
def nJ:Nat->Nat->List Int
 | 0,_=>[]
 | k+1,n=>if n=0 then [] else nJ k (n / 10)++[48+((n % 10:Nat):Int)]
def KAr (n:Nat):List Int:=if n=0 then [48] else nJ 20 n
theorem JBo {n:Nat} (h:n<10000):iG (n:Int)=some (ofBytes (KAr n)):=by
 have ob:∀ a b:List Int,ofBytes a++ofBytes b=ofBytes (a++b):=fun a b=>by apply ByteArray.ext;simp [ofBytes]
 have key:∀ (k:Nat) (n m:Nat) (l:List Int),n<10 ^ k->n<10000->l.length+k<=100->yJ (m+k+1) (.c0 (n:Int) false (ofBytes l))=some (ofBytes (nJ k n++l)):=by
  intro k;induction k with
  | zero=>
   intro n m l h0 _ _;obtain rfl:n=0:=by omega
   rfl
  | succ k ih=>
   intro n m l h0 h1 hl;rw [AwB m k,yJ];simp only [ZAw,mk];by_cases hn:n=0;·subst hn;rfl
   ·have e1:(n:Int).tmod 10=((n % 10:Nat):Int):=by rfl
    have e2:(n:Int).tdiv 10=((n / 10:Nat):Int):=by rfl
    rw [AL (by simp_all),e1,e2,BF (by rfl),LAj,XAw,mk,AL (by grind),A8 (by omega) (by omega),Nq (by omega) (by omega),AP,AL (by grind [Dj]),A8 (by omega) (by omega),ob];rw [ih (n / 10) m _ (Nat.div_lt_of_lt_mul (by omega)) (by omega) (by grind),nJ,if_neg hn,List.append_assoc]
 rw [iG,YAw,mk,KAr];by_cases hn:n=0;·subst hn;rfl
 ·rw [BF (by simp_all),if_neg hn,show decide ((n:Int)<0)=false from D6 (by omega)];obtain ⟨m,hm⟩:∃ m,AY=m+20+1:=⟨AY - 21,by rfl⟩
  rw [hm];have:=key 20 n m [] (by omega) h (Nat.le_of_ble_eq_true rfl);rw [List.append_nil] at this;exact this
theorem Ou {n:Nat} (h:n<18446744073709551616):wu64 (n:Int)=(n:Int):=by grind [IntKind.wrap,IntKind.signed,IntKind.bits]
theorem ZBM (n:Nat):wu64 (n:Int)=((n % 18446744073709551616:Nat):Int):=by rfl
theorem yK {n:Nat} (h:n<18446744073709551616):(BitVec.ofInt (IntKind.bits IntKind.u64) (n:Int)).toNat=n:=by show (BitVec.ofInt 64 (n:Int)).toNat=n;simp_all
theorem Qu {a b:Nat} (ha:a<18446744073709551616) (hb:b<18446744073709551616):wu64 (((BitVec.toNat ((BitVec.ofInt (IntKind.bits IntKind.u64) (a:Int)) ^^^ (BitVec.ofInt (IntKind.bits IntKind.u64) (b:Int)))):Nat):Int)=((a ^^^ b:Nat):Int):=by rw [BitVec.toNat_xor,yK ha,yK hb,Ou (Nat.xor_lt_two_pow (n:=64) ha hb)]
theorem n64 {a b:Nat} (ha:a<18446744073709551616) (hb:b<18446744073709551616):wu64 (((BitVec.toNat ((BitVec.ofInt (IntKind.bits IntKind.u64) (a:Int)) &&& (BitVec.ofInt (IntKind.bits IntKind.u64) (b:Int)))):Nat):Int)=((a &&& b:Nat):Int):=by grind [yK,Ou,Nat.and_le_left]
theorem o64 {a b:Nat} (ha:a<18446744073709551616) (hb:b<18446744073709551616):wu64 (((BitVec.toNat ((BitVec.ofInt (IntKind.bits IntKind.u64) (a:Int)) ||| (BitVec.ofInt (IntKind.bits IntKind.u64) (b:Int)))):Nat):Int)=((a ||| b:Nat):Int):=by rw [BitVec.toNat_or,yK ha,yK hb,Ou (Nat.or_lt_two_pow (n:=64) ha hb)]
theorem m64:(ite ((IntKind.signed IntKind.u64)=true) (-(1:Int)) (IntKind.max IntKind.u64))=((18446744073709551615:Nat):Int):=by decide
theorem KBo {a:Nat} (h:a<18446744073709551616):18446744073709551615 ^^^ a=18446744073709551615 - a:=by
 have h1:(BitVec.allOnes 64 ^^^ BitVec.ofNat 64 a).toNat=(~~~ (BitVec.ofNat 64 a)).toNat:=by rfl
 simp_all [Nat.mod_eq_of_lt]
theorem LBo {a:Nat} (h:a<18446744073709551616):wu64 (18446744073709551615 - (a:Int))=((18446744073709551615 - a:Nat):Int):=by grind [Ou]
theorem xlt {a b:Nat} (ha:a<18446744073709551616) (hb:b<18446744073709551616):a ^^^ b<18446744073709551616:=Nat.xor_lt_two_pow (n:=64) ha hb
theorem nlt {a b:Nat} (ha:a<18446744073709551616):a &&& b<18446744073709551616:=Nat.lt_of_le_of_lt Nat.and_le_left ha
def Je (n x:Nat):Nat:=(x*2 ^ n) % 18446744073709551616+x / 2 ^ (64 - n)
theorem BBN {n x:Nat} (hn:n<64):(x*2 ^ n) % 18446744073709551616=(x % 2 ^ (64 - n))*2 ^ n:=by
 have e:18446744073709551616=2 ^ (64 - n)*2 ^ n:=by rw [<-Nat.pow_add,show 64 - n+n=64 by omega]
 rw [e,Nat.mul_mod_mul_right]
theorem CBN {n x:Nat} (hn:n<64) (h:x<18446744073709551616):x / 2 ^ (64 - n)<2 ^ n:=by rw [Nat.div_lt_iff_lt_mul (Nat.two_pow_pos _),<-Nat.pow_add,show n+(64 - n)=64 by omega];exact h
theorem jB {n x:Nat} (hn:n<64) (h:x<18446744073709551616):Je n x<18446744073709551616:=by
 have h1:=CBN hn h;have h2:x % 2 ^ (64 - n)<2 ^ (64 - n):=Nat.mod_lt _ (Nat.two_pow_pos _);have e:2 ^ (64 - n)*2 ^ n=18446744073709551616:=by rw [<-Nat.pow_add,show 64 - n+n=64 by omega]
 rw [Je,BBN hn];have h3:(x % 2 ^ (64 - n)+1)*2 ^ n<=2 ^ (64 - n)*2 ^ n:=Nat.mul_le_mul_right _ h2;grind
theorem MBo {n x:Nat} (hn:n<64) (h:x<18446744073709551616):((x*2 ^ n) % 18446744073709551616) ||| (x / 2 ^ (64 - n))=Je n x:=by rw [Je,BBN hn];have:=Nat.shiftLeft_add_eq_or_of_lt (CBN hn h) (x % 2 ^ (64 - n));simp_all [Nat.shiftLeft_eq]
theorem DBN {x:Nat} (h:x<18446744073709551616):Je 0 x=x:=by simp_all [Je,Nat.div_eq_of_lt]
def Ib {A:Type} (f:Nat->A->A):Nat->Nat->A->A
 | 0,_,a=>a
 | j+1,i,a=>Ib f j (i+1) (f i a)
theorem Qd {S A R:Type} {Lp:Nat->S->Option R} {st:Nat->A->S} {f:Nat->A->A} {P:Nat->A->Prop} {n:Nat} (K:Nat) (step:∀ m i a,i<n->P i a->Lp (m+K) (st i a)=Lp m (st (i+1) (f i a))/\P (i+1) (f i a)):∀ j i m a,i+j=n->P i a->Lp (m+j*K) (st i a)=Lp m (st n (Ib f j i a))/\P n (Ib f j i a):=by
 intro j;induction j with
 | zero=>(intro i m a h hp;rw [Nat.zero_mul];have:i=n:=by omega);subst this;exact ⟨rfl,hp⟩
 | succ j ih=>
  intro i m a h hp;obtain ⟨h1,h2⟩:=step (m+j*K) i a (by omega) hp
  obtain ⟨h3,h4⟩:=ih (i+1) m (f i a) (by omega) h2
  exact ⟨by rw [Nat.succ_mul,<-Nat.add_assoc,h1,h3];rfl,h4⟩
def up (l:List Nat):List Int:=l.map fun (n:Nat)=>(n:Int)
theorem Dq (l:List Nat):(up l).length=l.length:=by simp [up]
theorem GN (l:List Nat) (i:Nat):(up l).getD i 0=((l.getD i 0:Nat):Int):=by grind [up]
theorem AsH (l:List Nat) (i n:Nat):(up l).set i (n:Int)=up (l.set i n):=by simp [up]
def MC (l:List Nat):Prop:=∀ x ∈ l,x<18446744073709551616
theorem MC.get {l:List Nat} (h:MC l) (i:Nat):l.getD i 0<18446744073709551616:=by
 rw [List.getD_eq_getElem?_getD];cases hx:l[i]? with
 | none=>decide
 | some x=>exact h x (List.mem_of_getElem? hx)
theorem MC.set {l:List Nat} (h:MC l) (i:Nat) {n:Nat} (hn:n<18446744073709551616):MC (l.set i n):=fun x hx=>by
 rcases List.mem_or_eq_of_mem_set hx with h1 | rfl
 ·exact h x h1
 omega
theorem Awg {l:List Nat} {i:Nat} (h:i<l.length):(decide (0<=(i:Int)) && decide ((i:Int)<((up l).length:Int)))=true:=by simp_all [Dq]
theorem EBN (n:Nat):MC (List.replicate n 0):=fun x hx=>by grind
theorem Aqz (n:Nat):up (List.replicate n 0)=List.replicate n 0:=by simp [up]
def Ave (a:List Nat) (x:Nat):Nat:=(((a.getD x 0 ^^^ a.getD (x+5) 0) ^^^ a.getD (x+10) 0) ^^^ a.getD (x+15) 0) ^^^ a.getD (x+20) 0
def AIV (a:List Nat) (x:Nat):Nat:=Ave a ((x+4) % 5) ^^^ Je 1 (Ave a ((x+1) % 5))
def Art (a:List Nat) (i:Nat):Nat:=a.getD i 0 ^^^ AIV a (i % 5)
def QM:List Nat:=[0,1,62,28,27,36,44,6,55,20,3,10,43,25,39,41,45,15,21,8,18,2,61,56,14]
def nK (v:Nat->Nat->Nat):List Nat:=(List.range 25).map fun p=>v (QM.getD ((p % 5+3*(p / 5)) % 5+5*(p % 5)) 0) ((p % 5+3*(p / 5)) % 5+5*(p % 5))
def AsJ (b:List Nat) (i:Nat):Nat:=b.getD i 0 ^^^ ((18446744073709551615 - b.getD ((i % 5+1) % 5+5*(i / 5)) 0) &&& b.getD ((i % 5+2) % 5+5*(i / 5)) 0)
def AqP (a:List Nat):List Nat:=nK fun n q=>Je n (Art a q)
def jC (a:List Nat) (c:Nat):List Nat:=let o:=(List.range 25).map (AsJ (AqP a));o.set 0 (o.getD 0 0 ^^^ c)
def UM:List Nat:=[1,32898,9223372036854808714,9223372039002292224,32907,2147483649,9223372039002292353,9223372036854808585,138,136,2147516425,2147483658,2147516555,9223372036854775947,9223372036854808713,9223372036854808579,9223372036854808578,9223372036854775936,32778,9223372039002259466,9223372039002292353,9223372036854808704,2147483649,9223372039002292232]
def uZ (a:List Nat):List Nat:=Ib (fun i a=>jC a (UM.getD i 0)) 24 0 a
def Hg (l:List Nat):Prop:=l.length=25/\MC l
theorem UU {a:List Nat} (h:MC a) (x:Nat):Ave a x<18446744073709551616:=xlt (xlt (xlt (xlt (h.get _) (h.get _)) (h.get _)) (h.get _)) (h.get _)
theorem FBN {a:List Nat} (h:MC a) (x:Nat):AIV a x<18446744073709551616:=xlt (UU h _) (jB (by decide) (UU h _))
theorem AK1 {a:List Nat} (h:MC a) (x:Nat):Art a x<18446744073709551616:=xlt (h.get _) (FBN h _)
theorem GBN (q:Nat):QM.getD q 0<64:=by
 rw [List.getD_eq_getElem?_getD];cases hx:QM[q]? with
 | none=>decide
 | some x=>
  have h:∀ x ∈ QM,x<64:=by decide
  exact h x (List.mem_of_getElem? hx)
theorem ug (i:Nat):UM.getD i 0<18446744073709551616:=by
 rw [List.getD_eq_getElem?_getD];cases hx:UM[i]? with
 | none=>decide
 | some x=>
  have h:∀ x ∈ UM,x<18446744073709551616:=by decide
  exact h x (List.mem_of_getElem? hx)
theorem LAr {a:List Nat} (h:MC a):Hg (AqP a):=by refine ⟨by rfl,fun x hx=>?_⟩;grind [AqP,nK,jB,GBN,AK1]
theorem NBo {b:List Nat} (h:MC b) (i:Nat):AsJ b i<18446744073709551616:=xlt (h.get _) (nlt (by omega))
theorem BBB {b:List Nat} (h:MC b):Hg ((List.range 25).map (AsJ b)):=by refine ⟨by rfl,fun x hx=>?_⟩;grind [NBo]
theorem CBB {a:List Nat} (h:MC a) {c:Nat} (hc:c<18446744073709551616):Hg (jC a c):=by have h1:=BBB (LAr h).2;refine ⟨by rfl,h1.2.set 0 (xlt (h1.2.get _) hc)⟩
theorem DBB {a:List Nat} (h:Hg a):Hg (uZ a):=by
 have:∀ j i a,Hg a->Hg (Ib (fun i a=>jC a (UM.getD i 0)) j i a):=by
  intro j;induction j with
  | zero=>intro i a h;exact h
  | succ j ih=>intro i a h;exact ih _ _ (CBB h.2 (ug i))
 exact this 24 0 a h
theorem uY {f:Nat->Nat} {n i:Nat} (h:i<n):((List.range n).map f).getD i 0=f i:=by simp_all
theorem OBo (v:Nat->Nat):Ib (fun x o=>o.set x (v x)) 5 0 [0,0,0,0,0]=(List.range 5).map v:=by rfl
theorem PBo (v:Nat->Nat):Ib (fun x o=>Ib (fun y o=>o.set (x+5*y) (v (x+5*y))) 5 0 o) 5 0 (List.replicate 25 0)=(List.range 25).map v:=by kernel_rfl
theorem QBo (v:Nat->Nat):Ib (fun y o=>Ib (fun x o=>o.set (x+5*y) (v (x+5*y))) 5 0 o) 5 0 (List.replicate 25 0)=(List.range 25).map v:=by kernel_rfl
theorem RBo (v:Nat->Nat->Nat):Ib (fun x o=>Ib (fun y o=>o.set (y+5*((2*x+3*y) % 5)) (v (QM.getD (x+5*y) 0) (x+5*y))) 5 0 o) 5 0 (List.replicate 25 0)=nK v:=by kernel_rfl
theorem SBo (v:Nat->Nat->Nat):(Ib (fun t (s:Nat×Nat×List Nat)=>(s.2.1,(2*s.1+3*s.2.1) % 5,s.2.2.set (s.2.1+5*((2*s.1+3*s.2.1) % 5)) (v ((t+1)*(t+2) / 2 % 64) (s.1+5*s.2.1)))) 24 0 (1,0,[v 0 0,0,0,0,0,0,0,0,0,0,0,0,0,0,0,0,0,0,0,0,0,0,0,0,0])).2.2=nK v:=by kernel_rfl
theorem wn {n:Nat} (h:n<9223372036854775807):AV (n:Int)=(n:Int):=A8 (by omega) (by omega)
theorem TBo {a b:Int} {x y:Nat} (ha:a=(x:Int)) (hb:b=(y:Int)) (hx:x<18446744073709551616) (hy:y<18446744073709551616):wu64 (((BitVec.toNat ((BitVec.ofInt (IntKind.bits IntKind.u64) a) ^^^ (BitVec.ofInt (IntKind.bits IntKind.u64) b))):Nat):Int)=((x ^^^ y:Nat):Int):=by grind [Qu]
theorem HBN {v:List Nat} {i n:Nat} (h:v.length=5):(v.set i n).length=5:=by simp_all
theorem Zu {v:List Nat} {i n:Nat} (h:v.length=25):(v.set i n).length=25:=by simp_all
theorem IBN (v:Nat->Nat):∀ (t pre:List Nat),Ib (fun i o=>o.set i (v i)) t.length pre.length (pre++t)=pre++(List.range' pre.length t.length).map v
 | [],pre=>by rfl
 | x::t,pre=>by
  have e:(pre++x::t).set pre.length (v pre.length)=(pre++[v pre.length])++t:=by simp
  have ih:=IBN v t (pre++[v pre.length]);rw [List.length_append,List.length_singleton] at ih;rw [List.length_cons,Ib,e,ih,List.range'_succ,List.map_cons,List.append_assoc];rfl
theorem rW {v:Nat->Nat} {l:List Nat} {n:Nat} (h:l.length=n):Ib (fun i o=>o.set i (v i)) n 0 l=(List.range n).map v:=by have:=IBN v l [];simp_all [List.range_eq_range']
def Aqj (s:AA) (i:Nat):Nat:=if h:i<s.size then (s[i]'h).toNat else 0
theorem P9 (s:AA) (i:Nat):bt s (i:Int)=((Aqj s i:Nat):Int):=by grind [bt,Aqj]
theorem VY (s:AA) (i:Nat):Aqj s i<256:=by grind [Aqj,UInt8.toNat_lt]
def Ary (g:Nat->Nat) (k:Nat):Nat:=Ib (fun j x=>x*256+g (8*k+(7 - j))) 8 0 0
theorem MAr (g:Nat->Nat) (k:Nat):Ary g k=g (8*k)+256*g (8*k+1)+65536*g (8*k+2)+16777216*g (8*k+3)+4294967296*g (8*k+4)+1099511627776*g (8*k+5)+281474976710656*g (8*k+6)+72057594037927936*g (8*k+7):=by have h:Ary g k=(((((((0*256+g (8*k+7))*256+g (8*k+6))*256+g (8*k+5))*256+g (8*k+4))*256+g (8*k+3))*256+g (8*k+2))*256+g (8*k+1))*256+g (8*k):=rfl;omega
theorem EBB {g:Nat->Nat} (hg:∀ i,g i<256) (k:Nat):Ary g k<18446744073709551616:=by grind [MAr]
theorem UBo {x y b c:Nat} (hb:b<256) (hc:c<256):(x*256+b) ^^^ (y*256+c)=(x ^^^ y)*256+(b ^^^ c):=by
 have h1:((x*256+b) ^^^ (y*256+c)) % 2 ^ 8=b ^^^ c:=by rw [Nat.xor_mod_two_pow];grind
 have h2:((x*256+b) ^^^ (y*256+c)) / 2 ^ 8=x ^^^ y:=by rw [Nat.xor_div_two_pow];grind
 omega
theorem VBo {g h:Nat->Nat} (hg:∀ i,g i<256) (hh:∀ i,h i<256) (k:Nat):Ary (fun i=>g i ^^^ h i) k=Ary g k ^^^ Ary h k:=by
 have key:∀ j i x y,Ib (fun j x=>x*256+(g (8*k+(7 - j)) ^^^ h (8*k+(7 - j)))) j i (x ^^^ y)=Ib (fun j x=>x*256+g (8*k+(7 - j))) j i x ^^^ Ib (fun j x=>x*256+h (8*k+(7 - j))) j i y:=by intro j;induction j<;>grind [Ib,UBo]
 exact key 8 0 0 0
theorem FBB {g h:Nat->Nat} {k:Nat} (e:∀ i,i<8->g (8*k+i)=h (8*k+i)):Ary g k=Ary h k:=by have e0:=e 0 (by omega);simp_all [MAr]
def Ul (a:List Nat) (p:Nat):Nat:=a.getD (p / 8) 0 / 2 ^ (8*(p % 8)) % 256
def OZ (a:List Nat):List Nat:=(List.range 200).map (Ul a)
theorem JBN (a:List Nat) (p:Nat):Ul a p<256:=Nat.mod_lt _ (by decide)
theorem KBN {a:List Nat} (ha:MC a) (k:Nat):Ary (Ul a) k=a.getD k 0:=by
 have hk:=ha.get k;have d:∀ j,j<8->Ul a (8*k+j)=a.getD k 0 / 2 ^ (8*j) % 256:=fun j hj=>by grind [Ul]
 have d0:=d 0 (by omega);grind [MAr]
def Qn (g:Nat->Nat) (n:Nat):List Nat:=(List.range n).map (Ary g)
theorem LBN {g:Nat->Nat} (hg:∀ i,g i<256):Hg (Qn g 25):=by refine ⟨by rfl,fun x hx=>?_⟩;grind [Qn,EBB]
theorem WBo {g:Nat->Nat} (hg:∀ i,g i<256) (n:Nat):MC (Qn g n):=fun x hx=>by grind [Qn,EBB]
theorem NAr {l:List Nat} (hl:∀ x ∈ l,x<256) {i:Nat} (hi:i<l.length):Aqj (ofBytes (up l)) i=l.getD i 0:=by grind [ofBytes,up,Dj,Aqj,List.getElem_mem,ByteArray.getElem_eq_getElem_data,UInt8.toNat_ofNat']
theorem OAr {a b:List Nat} (ha:a.length=b.length) (h:∀ k,k<b.length->a.getD k 0=b.getD k 0):a=b:=by grind [List.ext_getElem]
theorem jG (v:Nat->Nat):∀ (j i:Nat) (o:List Nat),Ib (fun i o=>o++[v i]) j i o=o++(List.range' i j).map v
 | 0,i,o=>by simp [Ib]
 | j+1,i,o=>by rw [Ib,jG v j (i+1),List.range'_succ,List.map_cons,List.append_assoc];rfl
theorem uU (v:Nat->Nat) (n:Nat):Ib (fun i o=>o++[v i]) n 0 []=(List.range n).map v:=by simp [jG,List.range_eq_range']
def ZP (s:AA):AA:=ofBytes (up (OZ (uZ (Qn (Aqj s) 25))))
theorem XBo (a:List Nat):(OZ a).length=200:=by rfl
theorem MBN (a:List Nat):∀ x ∈ OZ a,x<256:=fun x hx=>by grind [OZ,JBN]
theorem NBN (s:AA):(ZP s).size=200:=by rfl
def FD (s:AA):List Nat:=s.data.toList.map fun b=>b.toNat
theorem Zx (s:AA):bytesOf s=up (FD s):=by simp [bytesOf,up,FD]
theorem YBo (s:AA):∀ x ∈ FD s,x<256:=fun x hx=>by grind [FD,UInt8.toNat_lt]
theorem Zw (s:AA):(FD s).length=s.size:=by simp [FD]
theorem ZBo {l:List Nat} (h:∀ x ∈ l,x<256):FD (ofBytes (up l))=l:=by
 simp only [FD,ofBytes,up,List.map_map,List.toList_toArray];conv=>rhs;rw [<-List.map_id l]
 grind [List.map_congr_left,UInt8.toNat_ofNat']
def Am (l:List Nat):List Nat:=l++(List.range' 0 ((168 - l.length % 168) % 168)).map fun _=>0
theorem GBB (l:List Nat):(Am l).length=l.length+(168 - l.length % 168) % 168:=by simp [Am]
def AqF (s:AA) (f:Nat):List Nat:=let l:=Am (FD s++[f]);l.set (l.length - 1) (l.getD (l.length - 1) 0 ^^^ 128)
theorem HBB {l:List Nat} (h:∀ x ∈ l,x<256):∀ x ∈ Am l,x<256:=fun x hx=>by grind [Am]
def B8 (l:List Nat):Prop:=∀ x ∈ l,x<256
theorem B8.get {l:List Nat} (h:B8 l) (i:Nat):l.getD i 0<256:=by
 rw [List.getD_eq_getElem?_getD];cases hx:l[i]? with
 | none=>decide
 | some x=>exact h x (List.mem_of_getElem? hx)
theorem B8.set {l:List Nat} (h:B8 l) (i:Nat) {n:Nat} (hn:n<256):B8 (l.set i n):=fun x hx=>by
 rcases List.mem_or_eq_of_mem_set hx with h1 | rfl
 ·exact h x h1
 omega
theorem IBB {a b:Nat} (ha:a<256) (hb:b<256):a ^^^ b<256:=Nat.xor_lt_two_pow (n:=8) ha hb
theorem JBB (s:AA) {f:Nat} (hf:f<256):B8 (FD s++[f]):=fun x hx=>by
 rw [List.mem_append,List.mem_singleton] at hx;rcases hx with h1 | rfl
 ·exact YBo s x h1
 omega
theorem OBN (s:AA) {f:Nat} (hf:f<256):B8 (AqF s f):=by have h:B8 (Am (FD s++[f])):=HBB (JBB s hf);exact h.set _ (IBB (h.get _) (by decide))
theorem PBN (s:AA) (f:Nat):∃ q,(AqF s f).length=168*q/\168*q<=s.size+168:=by have h:(AqF s f).length=(Am (FD s++[f])).length:=List.length_set;rw [GBB,List.length_append,List.length_singleton,Zw] at h;exact ⟨(s.size+1+(168 - (s.size+1) % 168) % 168) / 168,by omega,by omega⟩
def Zv (st:List Nat) (g:Nat->Nat):List Nat:=(List.range 25).map fun k=>if k<21 then st.getD k 0 ^^^ Ary g k else st.getD k 0
theorem QBN {st:List Nat} (h:Hg st) {g:Nat->Nat} (hg:∀ i,g i<256):Hg (Zv st g):=by
 refine ⟨by rfl,fun x hx=>?_⟩;rw [Zv,List.mem_map] at hx;obtain ⟨k,_,rfl⟩:=hx
 split;·exact xlt (h.2.get _) (EBB hg k)
 ·exact h.2.get _
def jI (b:List Nat) (p:Nat) (st:List Nat):List Nat:=uZ (Zv st fun i=>b.getD (168*p+i) 0)
def jJ (s:AA) (f:Nat):List Nat:=Ib (jI (AqF s f)) ((AqF s f).length / 168) 0 (List.replicate 25 0)
def jH (s:AA) (f:Nat):AA:=ofBytes (up (OZ (jJ s f)))
theorem Agk (s:AA) (f:Nat):(jH s f).size=200:=by rfl
theorem KBB:Hg (List.replicate 25 0):=⟨List.length_replicate,EBN 25⟩
theorem bv8 {n:Nat} (h:n<256):(BitVec.ofInt (IntKind.bits IntKind.u8) (n:Int)).toNat=n:=by show (BitVec.ofInt 8 (n:Int)).toNat=n;simp_all
theorem x8 {a b:Nat} (ha:a<256) (hb:b<256):w8 (((BitVec.toNat ((BitVec.ofInt (IntKind.bits IntKind.u8) (a:Int)) ^^^ (BitVec.ofInt (IntKind.bits IntKind.u8) (b:Int)))):Nat):Int)=((a ^^^ b:Nat):Int):=by grind [IBB,bv8,Nq]
theorem PAr {A:Type} {f:Nat->A->A} {P:A->Prop} (h:∀ i a,P a->P (f i a)):∀ j i a,P a->P (Ib f j i a)
 | 0,_,_,hp=>hp
 | j+1,i,a,hp=>PAr h j (i+1) _ (h i a hp)
theorem LBB {b:List Nat} (hb:B8 b) {p:Nat} {st:List Nat} (h:Hg st):Hg (jI b p st):=DBB (QBN h fun _=>hb.get _)
theorem getD_set_ne {l:List Nat} {i k n:Nat} (h:k≠i):(l.set i n).getD k 0=l.getD k 0:=by grind
theorem AwV (l:List Nat) (n:Nat):up l++[(n:Int)]=up (l++[n]):=by simp [up]
def H8 (S:AA):Nat->AA
 | 0=>S
 | n+1=>ZP (H8 S n)
theorem ZO {S:AA} (h:S.size=200):∀ n,(H8 S n).size=200
 | 0=>h
 | _+1=>NBN _
def strm (S:AA) (k:Nat):Nat:=Aqj (H8 S (k / 168)) (k % 168)
theorem Zb (S:AA) (k:Nat):strm S k<256:=VY _ _
def L6 (S:AA) (p:Nat) (x:F6):Prop:=∃ q a:Nat,x=⟨H8 S q,(a:Int)⟩/\168*q+a=p/\a<=168
def Mc (S:AA) (p n:Nat):List Nat:=(List.range' p n).map (strm S)
theorem BBp (S:AA) (p n:Nat):B8 (Mc S p n):=fun x hx=>by grind [Mc,Zb]
theorem QAr (S:AA) (p n:Nat):(Mc S p n).length=n:=by simp [Mc]
theorem SBN (S:AA) (p a b:Nat):Mc S p a++Mc S (p+a) b=Mc S p (a+b):=by grind [Mc,List.range'_append_1]
theorem CBp (s:AA) (i:Nat):(FD s).getD i 0=Aqj s i:=by
 unfold Aqj;split;·rename_i h;rw [getD_at (by simp_all [Zw])];simp only [FD,List.getElem_map,Array.getElem_toList];rfl
 simp_all [Zw]
theorem DBp (s:AA):ofBytes (up (FD s))=s:=by apply ByteArray.ext;grind [ofBytes,up,FD,UInt8.ofNat_toNat]
theorem EBp (a b:List Nat):ofBytes (up a)++ofBytes (up b)=ofBytes (up (a++b)):=by apply ByteArray.ext;simp [ofBytes,up]
theorem chunk {S:AA} (hS:S.size=200) {q a k:Nat} (h:a+k<=168):FD ((H8 S q).extract a (a+k))=Mc S (168*q+a) k:=by
 have hz:=ZO hS q;have hlen:(FD ((H8 S q).extract a (a+k))).length=k:=by grind [Zw,ByteArray.size_extract]
 refine OAr (by grind [QAr]) fun i hi=>?_
 grind [CBp,Mc,List.length_map,strm,Aqj,ByteArray.size_extract,ByteArray.getElem_extract]
def sd (s:AA):AA:=jH s 31
theorem RAr (s:AA):(sd s).size=200:=Agk _ _
theorem SAr (s:AA):L6 (sd s) 0 ⟨sd s,0⟩:=⟨0,0,rfl,rfl,by omega⟩
theorem and1 {n:Nat} (h:n<9223372036854775808):AV (((BitVec.toNat ((BitVec.ofInt (IntKind.bits IntKind.i64) (n:Int)) &&& (BitVec.ofInt (IntKind.bits IntKind.i64) 1))):Nat):Int)=((n % 2:Nat):Int):=by grind [IntKind.bits,wn]
def Qb (l:List Nat):Prop:=l.length=256/\∀ x ∈ l,x<3329
theorem Qb.get {l:List Nat} (h:Qb l) (i:Nat):l.getD i 0<3329:=by
 rw [List.getD_eq_getElem?_getD];cases hx:l[i]? with
 | none=>decide
 | some x=>exact h.2 x (List.mem_of_getElem? hx)
theorem Qb.set {l:List Nat} (h:Qb l) (i:Nat) {n:Nat} (hn:n<3329):Qb (l.set i n):=⟨by rw [List.length_set,h.1],fun x hx=>by
 rcases List.mem_or_eq_of_mem_set hx with h1 | rfl
 ·exact h.2 x h1
 omega⟩
theorem MBB {f:Nat->Nat} (h:∀ i,f i<3329):Qb ((List.range 256).map f):=⟨by rw [List.length_map,List.length_range],fun x hx=>by
 grind⟩
def XR (b:Nat):Nat:=(b % 2+b / 2 % 2+3329 - b / 4 % 2 - b / 8 % 2) % 3329
def TBN (s:AA):List Nat:=(List.range 256).map fun i=>XR (Aqj s (i / 2) / 2 ^ (4*(i % 2)))
theorem FBp (s:AA):Qb (TBN s):=MBB fun i=>Nat.mod_lt _ (by decide)
def Ih (n:Nat):AA:=ofBytes [(n:Int)]
def Jt (seed:AA) (n:Nat):List Nat:=TBN (ofBytes (up (Mc (sd (seed++Ih n)) 0 128)))
theorem gY (seed:AA) (n:Nat):Qb (Jt seed n):=FBp _
def XU:Nat->Nat->Nat->Nat->Nat
 | 0,_,_,o=>o
 | k+1,b,e,o=>if e=0 then o else XU k (b*b % 3329) (e / 2) (if e % 2=1 then o*b % 3329 else o)
def XT (e:Nat):Nat:=XU 10 17 e 1
theorem UBN:∀ (k b e o:Nat),o<3329->XU k b e o<3329
 | 0,_,_,_,h=>h
 | k+1,b,e,o,h=>by
  rw [XU];split;·exact h
  ·refine UBN k _ _ _ ?_;split;·exact Nat.mod_lt _ (by decide)
   ·exact h
theorem TAr (e:Nat):XT e<3329:=UBN _ _ _ _ (by decide)
theorem ZV {a b:Nat} (ha:a<3329) (hb:b<3329):(AV ((a:Int)*(b:Int))).tmod 3329=((a*b % 3329:Nat):Int):=by have h:a*b<3329*3329:=Nat.mul_lt_mul'' ha hb;rw [show (a:Int)*(b:Int)=((a*b:Nat):Int) from (Int.natCast_mul a b).symm,wn (by omega)];rfl
def t7 (n:Nat):Nat:=Ib (fun i o=>2*o+n / 2 ^ i % 2) 7 0 0
theorem UAr (n:Nat):t7 n<128:=by
 have h:∀ j i o,o<2 ^ i->Ib (fun i o=>2*o+n / 2 ^ i % 2) j i o<2 ^ (i+j):=by intro j;induction j<;>grind [Ib]
 exact h 7 0 0 (by decide)
def gQ (z size j:Nat) (o:List Nat):List Nat:=(o.set (j+size) ((o.getD j 0+3329 - z*o.getD (j+size) 0 % 3329) % 3329)).set j ((o.getD j 0+z*o.getD (j+size) 0 % 3329) % 3329)
theorem NBB {o:List Nat} (h:Qb o) (z size j:Nat):Qb (gQ z size j o):=(h.set _ (Nat.mod_lt _ (by decide))).set _ (Nat.mod_lt _ (by decide))
def VAr (k0 size i:Nat) (o:List Nat):List Nat:=Ib (fun j o=>gQ (XT (t7 (k0+i))) size (2*size*i+j) o) size 0 o
def TY (k0 size c:Nat) (o:List Nat):List Nat:=Ib (VAr k0 size) c 0 o
theorem OBB {o:List Nat} (h:Qb o) (k0 size i:Nat):Qb (VAr k0 size i o):=PAr (P:=Qb) (fun _ _ h=>NBB h _ _ _) _ _ _ h
theorem Aro {o:List Nat} (h:Qb o) (k0 size c:Nat):Qb (TY k0 size c o):=PAr (P:=Qb) (fun _ _ h=>OBB h _ _ _) _ _ _ h
def gK (o:List Nat):List Nat:=TY 64 2 64 (TY 32 4 32 (TY 16 8 16 (TY 8 16 8 (TY 4 32 4 (TY 2 64 2 (TY 1 128 1 o))))))
theorem GBp {o:List Nat} (h:Qb o):Qb (gK o):=Aro (Aro (Aro (Aro (Aro (Aro (Aro h _ _ _) _ _ _) _ _ _) _ _ _) _ _ _) _ _ _) _ _ _
def Nz (a b:List Nat) (p:Nat):Nat:=if p % 2=0 then (a.getD p 0*b.getD p 0+a.getD (p+1) 0*b.getD (p+1) 0 % 3329*XT (2*t7 (p / 2)+1)) % 3329 else (a.getD (p - 1) 0*b.getD p 0+a.getD p 0*b.getD (p - 1) 0) % 3329
def mulL (a b:List Nat):List Nat:=(List.range 256).map (Nz a b)
theorem HBp (a b:List Nat) (p:Nat):Nz a b p<3329:=by grind [Nz]
theorem WAr (a b:List Nat):Qb (mulL a b):=MBB fun _=>HBp _ _ _
theorem VBN (a b:List Nat) (i:Nat):Nz a b (2*i)=(a.getD (2*i) 0*b.getD (2*i) 0+a.getD (2*i+1) 0*b.getD (2*i+1) 0 % 3329*XT (2*t7 i+1)) % 3329:=by simp [Nz]
theorem WBN (a b:List Nat) (i:Nat):Nz a b (2*i+1)=(a.getD (2*i) 0*b.getD (2*i+1) 0+a.getD (2*i+1) 0*b.getD (2*i) 0) % 3329:=by simp [Nz]
theorem XBN (v:Nat->Nat):∀ (j i:Nat) (o:List Nat),Ib (fun i o=>(o.set (2*i) (v (2*i))).set (2*i+1) (v (2*i+1))) j i o=Ib (fun p o=>o.set p (v p)) (2*j) (2*i) o
 | 0,_,_=>rfl
 | j+1,i,o=>by rw [Ib,XBN v j (i+1),show 2*(j+1)=2*j+1+1 by omega,Ib,Ib];rfl
theorem YBN (v:Nat->Nat):∀ (j i:Nat) (o:List Nat),Ib (fun i o=>o++[v (2*i),v (2*i+1)]) j i o=Ib (fun p o=>o++[v p]) (2*j) (2*i) o
 | 0,_,_=>rfl
 | j+1,i,o=>by rw [Ib,YBN v j (i+1),show 2*(j+1)=2*j+1+1 by omega,Ib,Ib,List.append_assoc];rfl
theorem XW {a b:Nat} (ha:a<3329) (hb:b<3329):AV ((a:Int)*(b:Int))=((a*b:Nat):Int):=by have h:a*b<3329*3329:=Nat.mul_lt_mul'' ha hb;rw [show (a:Int)*(b:Int)=((a*b:Nat):Int) from (Int.natCast_mul _ _).symm,wn (by omega)]
theorem mul_lt {a b:Nat} (ha:a<3329) (hb:b<3329):a*b<11082241:=Nat.mul_lt_mul'' ha hb
def Zd (a b:List Nat):List Nat:=(List.range 256).map fun i=>(a.getD i 0+b.getD i 0) % 3329
theorem XAr (a b:List Nat):Qb (Zd a b):=MBB fun _=>Nat.mod_lt _ (by decide)
def YAr (a0 a1 b0 b1:List Nat):List Nat:=Zd (Zd (List.replicate 256 0) (mulL a0 b0)) (mulL a1 b1)
theorem ZBN (a0 a1 b0 b1:List Nat):Qb (YAr a0 a1 b0 b1):=XAr _ _
theorem ASH:Qb (List.replicate 256 0):=⟨List.length_replicate,fun x hx=>by grind⟩
def Aru (S:AA) (k:Nat):Nat:=strm S (3*k)+256*(strm S (3*k+1) % 16)
def Ju (S:AA) (k:Nat):Nat:=strm S (3*k+1) / 16+16*strm S (3*k+2)
def QA (x:Nat) (o:List Nat):List Nat:=if x<3329/\o.length<256 then o++[x] else o
def Nj (S:AA) (k:Nat) (o:List Nat):List Nat:=QA (Ju S k) (QA (Aru S k) o)
def XV (S:AA):Nat->Nat->List Nat->List Nat
 | 0,_,o=>o
 | j+1,k,o=>if o.length<256 then XV S j (k+1) (Nj S k o) else o
def Ik (o:List Nat):List Nat:=o++List.replicate (256 - o.length) 0
def UQ (o:List Nat):Prop:=o.length<=256/\∀ x ∈ o,x<3329
theorem BBO {x:Nat} {o:List Nat} (h:UQ o):UQ (QA x o):=by
 rw [QA];split
 ·rename_i hc;refine ⟨by grind,fun y hy=>?_⟩;rw [List.mem_append,List.mem_singleton] at hy;rcases hy with h1 | rfl
  ·exact h.2 y h1
  omega
 omega
theorem Tc {S:AA} {k:Nat} {o:List Nat} (h:UQ o):UQ (Nj S k o):=BBO (BBO h)
theorem CBO (S:AA):∀ (j k:Nat) (o:List Nat),UQ o->UQ (XV S j k o)
 | 0,_,_,h=>h
 | j+1,k,o,h=>by
  rw [XV];split;·exact CBO S j (k+1) _ (Tc h)
  ·exact h
theorem IBp {o:List Nat} (h:UQ o):Qb (Ik o):=⟨by rw [Ik,List.length_append,List.length_replicate];have:=h.1;omega,fun x hx=>by
 rw [Ik,List.mem_append] at hx;rcases hx with h1 | h1
 ·exact h.2 x h1
 grind⟩
theorem JBp {o:List Nat} {x:Nat} (h:o.length<256):(Ik o).set o.length x=Ik (o++[x]):=by rw [Ik,Ik,List.set_append_right _ _ (Nat.le_refl _),Nat.sub_self,show 256 - o.length=(256 - (o++[x]).length)+1 by grind,List.replicate_succ,List.append_assoc];rfl
def Av5 (seed:AA) (i j:Nat):List Nat:=Ik (XV (sd ((seed++Ih i)++Ih j)) 4000 0 [])
theorem ZAr (seed:AA) (i j:Nat):Qb (Av5 seed i j):=IBp (CBO _ _ _ _ ⟨DJ _,fun _ h=>by cases h⟩)
theorem VZ (S:AA) {p n i:Nat} (h:i<n):Aqj (ofBytes (up (Mc S p n))) i=strm S (p+i):=by rw [NAr (BBp S p n) (by simp_all [QAr]),Mc,getD_at (by simp_all),List.getElem_map,List.getElem_range',Nat.one_mul]
def Iz (l:List Nat) (p:Nat):Nat:=if p % 3=0 then l.getD (2*(p / 3)) 0 % 256 else if p % 3=1 then l.getD (2*(p / 3)) 0 / 256+l.getD (2*(p / 3)+1) 0 % 16*16 else l.getD (2*(p / 3)+1) 0 / 16
def L8 (l:List Nat):AA:=ofBytes (up ((List.range 384).map (Iz l)))
theorem Qy (l:List Nat):(L8 l).size=384:=by rw [L8,Dj,Dq,List.length_map,List.length_range]
theorem DBO (l:List Nat) (q:Nat):Iz l (3*q)=l.getD (2*q) 0 % 256:=by simp [Iz]
theorem EBO (l:List Nat) (q:Nat):Iz l (3*q+1)=l.getD (2*q) 0 / 256+l.getD (2*q+1) 0 % 16*16:=by grind [Iz]
theorem FBO (l:List Nat) (q:Nat):Iz l (3*q+2)=l.getD (2*q+1) 0 / 16:=by grind [Iz]
theorem GBO (v:Nat->Nat):∀ (j i:Nat) (o:List Nat),Ib (fun i o=>o++[v (3*i)]++[v (3*i+1)]++[v (3*i+2)]) j i o=Ib (fun p o=>o++[v p]) (3*j) (3*i) o
 | 0,_,_=>rfl
 | j+1,i,o=>by rw [Ib,GBO v j (i+1),show 3*(j+1)=3*j+1+1+1 by omega,Ib,Ib,Ib];rfl
def I4 (seed:AA):AA:=EK (EK seed++⟨#[114]⟩)
def Apy (seed:AA):AA:=EK (EK seed++⟨#[115]⟩)
def pS (seed:AA) (i:Nat):List Nat:=gK (Jt (Apy seed) i)
theorem Xa (seed:AA) (i:Nat):Qb (pS seed i):=GBp (gY _ _)
def Zf (seed:AA) (i:Nat):List Nat:=YAr (Av5 (I4 seed) 0 i) (Av5 (I4 seed) 1 i) (pS seed 0) (pS seed 1)
def pT (seed:AA) (i:Nat):List Nat:=Zd (Zf seed i) (pS seed (2+i))
theorem HBO (seed:AA) (i:Nat):Qb (pT seed i):=XAr _ _
def ArQ (seed:AA):AA:=((⟨#[]⟩++L8 (pT seed 0))++L8 (pT seed 1))++I4 seed
def O7 (seed:AA):AA:=(((⟨#[]⟩++L8 (pS seed 0))++L8 (pS seed 1))++ArQ seed++EK (ArQ seed))++EK (EK seed++⟨#[122]⟩)
theorem IBO (seed:AA):(ArQ seed).size=800:=by have h:(⟨#[]⟩:AA).size=0:=rfl;simp_all [ArQ,Qy,I4,Qh]
noncomputable def sK (x:Af):AA:=bif Ar9 x then (bif x.Aj == 1 then ArQ x.fValue else bif x.Aj == 2 then Aq8 (x.fValue++⟨#[116]⟩) else ⟨#[]⟩) else ⟨#[]⟩
theorem ZM {x:Af} (h:Ar9 x=true) (hk:x.Aj=1\/x.Aj=2):x.fValue.size=32:=by grind [Ar9]
def Tj (n:Int):AA:=ofBytes (KAr n.toNat)
theorem JBO:∀ (k n:Nat),(nJ k n).length<=k
 | 0,_=>Nat.le_refl _
 | k+1,n=>by
  rw [nJ];split;·exact DJ _
  ·rw [List.length_append,List.length_singleton];have:=JBO k (n / 10);omega
theorem LBO (n:Int):(Tj n).size<=20:=by grind [Tj,Dj,KAr,JBO]
noncomputable def bW (t:AA):Af×Bool:=(AqX t).getD (YA,false)
theorem PBB {t:AA} (h:t.size<=140737488351232):AqX t=some (bW t)/\V7 t=some (bW t)/\JAq t (bW t):=by grind [QBl,bW]
theorem QBB (k t:AA):(Qw k t).1.size<=400:=by
 unfold Qw;cases (EM k 0 t).2;·exact DJ _
 cases (QI (EM k 0 t).1 0).2.2;·exact DJ _
 by_cases h3:((QI (EM k 0 t).1 0).1.size:Int) > 400;·rw [Ba h3];exact DJ _
 ·rw [D6 h3];cases QJ (bs (QI (EM k 0 t).1 0).1) == bs (EM k 0 t).1;·exact DJ _
  grind
def Aqe (b:Ap):AA:=EK (⟨#[111,117,116]⟩++b.BO)
def MBO (x:Af):Af:=⟨0,x.Aj,x.CY,x.CX,false,x.GH,x.fValue,0⟩
def fU (n:Int):Ah:=⟨4,⟨#[]⟩,n,⟨0,0,false,false,false,false,⟨#[]⟩,0⟩⟩
abbrev PT:=List Ah×Int×AA
def Xg (b:Ap) (c:CV) (x:Af) (ok:Bool):PT:=
 bif !ok then KX 6 else bif decide ((b.AU.AZ.length:Int)>=8) then KX 1 else bif decide (b.AU.BM>=1000) then KX 1 else ([Nw (newX b c x)],0,Tj (b.AU.BM+1))
def AEF (b:Ap) (c:CV):Af×Bool:=defaults c.Aj (bif c.Aj == 2 then Tj (b.AU.BM+1)++⟨#[32]⟩++c.fText else c.fText)
noncomputable def inX (b:Ap) (c:CV):Af×Bool:=bW (Qw (Aqe b) c.fText).1
def CAs (b:Ap) (c:CV):PT:=Xg b c (AEF b c).1 (AEF b c).2
noncomputable def tK (b:Ap) (c:CV):PT:=Xg b c (MBO (inX b c).1) ((Qw (Aqe b) c.fText).2 && (inX b c).2)
def XO (b:Ap) (c:CV) (x:Af):PT:=
 bif decide (Arx b x>=16) then KX 1 else (bif Arx b x != x.fNext then [] else [Nw (O3 x)],0,Arh (H7 x.fValue (Arx b x) c.fText))
noncomputable def VW (tk:AA->AA×Bool) (b:Ap) (c:CV) (x:Af):PT:=
 bif c.Au == 6 then (bif JM x 1 then ([],0,x.fValue) else KX 8)
 else bif c.Au == 5 then (bif JM x 3 then XO b c x else KX 8)
 else bif c.Au == 10 then (bif JM x 2 then ([],0,(iJ (Aqe b) (Apu x).1).1) else KX 8)
 else bif c.Au == 12 then (bif JM x 4 then (bif !(tk (O7 x.fValue)).2 then KX 6 else ([],0,(tk (O7 x.fValue)).1)) else KX 8)
 else bif c.Au == 8 then (bif (AqT x c.CY c.CX).2 then ([Nw (AqT x c.CY c.CX).1],0,⟨#[]⟩) else KX 8)
 else bif c.Au == 7 then ([],0,sK x)
 else bif c.Au == 9 then ([fU x.fId],0,⟨#[]⟩) else KX 8
noncomputable def AsA (tk:AA->AA×Bool) (b:Ap) (c:CV):PT:=
 bif c.Au == 1 then (bif decide ((b.BP.length:Int)>=3) then KX 1 else bif decide (b.CW>=1000) then KX 1 else ([],0,Tj (b.CW+1)))
 else bif decide (Ar8 b c.EJ<0) then KX 2
 else bif c.Au == 13 then ([],0,⟨#[]⟩)
 else bif c.Au == 2 then iE b c
 else bif !(b.BP.getD (Ar8 b c.EJ).toNat ⟨0,false⟩).QW then KX 5
 else bif c.Au == 3 then (bif decide ((c.fText.size:Int) > 20) then KX 6 else ([Gf c.fText],0,⟨#[]⟩))
 else bif c.Au == 4 then CAs b c
 else bif c.Au == 11 then tK b c
 else match Aqg b.AU.AZ c.Ag with
  | none=>KX 7
  | some x=>VW tk b c x
structure PB (b:Ap):Prop where
 key:b.BO.size=32
 ArF:G9 b.AU=true
 MX:b.BP.length<=3
 opn:0<=b.CW/\b.CW<=1000
 LH:Va b=true
 lln:b.BD.length<=140737488351232
theorem PB.things {b:Ap} (h:PB b):b.AU.AZ.length<=8:=(G7.1 h.ArF).2.2.2.1
theorem PB.last {b:Ap} (h:PB b):0<=b.AU.BM/\b.AU.BM<=1000:=(G7.1 h.ArF).2.2.2.2.1
theorem Good.pb {k:AA} {l:List Ah} {b:Ap} (g:Good k l b):PB b:=⟨by rw [g.key,g.H6],g.ArF,g.MX.1,g.opn,g.LH.1,by have:=g.LH.2;omega⟩
theorem NBO {t:Int}:∀ {ls:List CS} {i j:Nat},Aqi ls t i=some j->(ls.getD (j - i) ⟨0,0⟩).fId=t:=by
 intro ls;induction ls with
 | nil=>intro i j h;cases h
 | cons f fs ih=>
  intro i j h;rw [Aqi] at h;split at h;·simp_all
  ·have h2:=ih h;have h3:=(fP h).1;grind
theorem DAs {b:Ap} {x:Af} (h:Va b=true) (hx:Aqg b.AU.AZ x.fId=some x) (hn:0<=x.fNext):0<=Arx b x/\Arx b x<=x.fNext:=by
 rw [Arx];cases hp:Aqi b.BD x.fId 0 with
 | none=>simp_all
 | some j=>
  have h1:=fP hp;have h2:=NBO hp;have h3:=WBL h j h1.1 h1.2;simp_all [Ue,Aqo]
theorem Aq0 {xs:List Af} {t:Int} {x:Af} (h:Aqg xs t=some x):x.fId=t/\x ∈ xs:=by grind [Aqg]
theorem EAs {x:Af} (h:JM x 3=true):Ar9 x=true/\x.Aj=2/\x.Gw=true:=by grind [JM,Ar9]
theorem OBO {x:Af} (h:JM x 4=true):Ar9 x=true/\x.Aj=1:=by grind [JM,Ar9]
theorem RBB {b:Ap} (h:b.BO.size=32):bZ b=some (Aqe b):=by have h3:(⟨#[111,117,116]⟩:AA).size=3:=rfl;rw [bZ,PAw,mk,AL (by simp_all),LV (by simp_all)];rfl
theorem SBB {k s:AA} (hk:k.size<=900000000):bf k s=some (iJ k s):=by
 rw [bf,RAw,mk,iJ];by_cases h:400<s.size;·grind
 ·have h2:=XBA (l:=bs s) (by grind [bs_len]);have hl:=bs_len s;have h1:=Apv (n:=(s.size:Int)) (by omega);have hz:(ofBytes (SN (s.size:Int))++s).size=(SN (s.size:Int)++bs s).length:=by simp_all [Dj]
  have hlen:(SN (s.size:Int)++bs s).length=(SN (s.size:Int)).length+s.size:=by simp_all
  rw [BF (by grind),BF (by grind),Un (by omega),AP,AL (by grind),AL (by grind)];rw [lg,Fa,Avo (Uk (by omega))];generalize hb:SN (s.size:Int)++bs s=B at hz hlen;have key:∀ (j i m:Nat),i+j=(16 - B.length % 16) % 16->nM (m+j+1) (.c0 k (B++List.replicate i 0))=some (Si k 0 (ofBytes (QJ (bs s)))):=by
   intro j;induction j with
   | zero=>
    grind [QJ,nM,JAj,RBJ,Dj]
   | succ j ih=>
    intro i m hi;have e:(B++List.replicate i (0:Int))++[0]=B++List.replicate (i+1) 0:=by simp [List.replicate_succ']
    grind [nM,JAj]
  obtain ⟨m,hm⟩:∃ m,AY=m+(16 - B.length % 16) % 16+1:=⟨AY - ((16 - B.length % 16) % 16+1),by have:=FM (n:=(16 - B.length % 16) % 16+1) (by omega);omega⟩
  have h0:=key ((16 - B.length % 16) % 16) 0 m (by omega);simp_all
def gy (c:CV):Bool:=(c.Au == 0) && ((c.EJ == 0) && ((c.Ag == 0) && ((c.Aj == 0) && (((ByteArray.toList c.fText) == (ByteArray.toList (⟨#[]⟩:AA))) && ((c.CY == false) && ((c.CX == false) && true))))))
theorem KBp (c:CV):AN4 c=some (gy c):=rfl
def Rt (e:DW):Bool:=decide ((e.Lc.length:Int)<=30) && (OM e.BA || (e.JY && gy e.BA))
theorem LBp (e:DW):yL e=some (Rt e):=by simp only [yL,BA8,mk,LBn,KBp,AP,Rt];grind
theorem yM {d:BU} (h:d.Ak.length*40<=140737488355328):Uo d=some d:=by rw [Uo,MA2,mk,AL (by rw [decide_eq_true_eq];exact h)]
theorem MBp {b:Ap} (hd:b.Bc.Ak.length*40<=140737488355328) (hb:b.AU.AZ.length<=2932031007317) (hs:b.BP.length<=1000000) (hl:b.BD.length<=1000000):nN b=some b:=by rw [nN,WA7,mk,yM hd,AP,GBA hb,AP,AL (by simp;omega),AL (by simp;omega)]
structure Uy (b:Ap):Prop where
 d:b.Bc.Ak.length*40<=140737488355328
 t:b.AU.AZ.length<=2932031007317
 s:b.BP.length<=3
 l:b.BD.length<=8
 o:0<=b.CW/\b.CW<=1000
theorem Good.gu {k:AA} {l:List Ah} {b:Ap} (g:Good k l b):Uy b:=⟨by have:=g.small.1;omega,by have:=g.Xx;omega,g.MX.1,g.LH.2,g.opn⟩
theorem Uy.copy {b:Ap} (h:Uy b):nN b=some b:=MBp h.d h.t (by have:=h.s;omega) (by have:=h.l;omega)
theorem PBO {b:Ap} {c:CV} {code leaf:Int} (h:Uy b) (hc:(code != 0)=true):LU b c code leaf=some b:=by rw [LU,bg,mk,h.copy,AP,hc];rfl
theorem NBp {b:Ap} {c:CV} {leaf:Int} (h:Uy b) (ho:c.Au=1):LU b c 0 leaf=some ⟨b.BO,b.CZ,b.Bc,b.AU,b.BP++[⟨b.CW+1,false⟩],b.BD,b.CW+1⟩:=by have h1:=h.s;have h2:=h.t;have h3:=h.o;rw [LU,bg,mk,h.copy,AP,BF (by rfl),sN (by omega),AP,Xb (by omega),AP,AL (by rw [ho];rfl),Ep (by omega),A8 (by omega) (by omega)]
theorem OBp {b:Ap} {c:CV} {leaf:Int} {j:Nat} (h:Uy b) (ho:c.Au=2) (hj:Ar8 b c.EJ=(j:Int)) (hlt:j<b.BP.length):LU b c 0 leaf=some ⟨b.BO,b.CZ,b.Bc,b.AU,b.BP.set j ⟨(b.BP.getD j ⟨0,false⟩).fId,true⟩,b.BD,b.CW⟩:=by have h1:=h.s;have h2:=h.t;rw [LU,bg,mk,h.copy,AP,BF (by rfl),sN (by omega),AP,Xb (by omega),AP,BF (by rw [ho];rfl),BF (by rw [ho];rfl),AL (by rw [ho];rfl),hj,Ep (by omega),GX (by omega),BR]
theorem PBp {b:Ap} {id n:Int} (h:b.BD.length<=1000000):nP b id n=some ⟨b.BO,b.CZ,b.Bc,b.AU,b.BP,aU b.BD id n,b.CW⟩:=by
 rw [nP,XA7,mk,UBA (by omega),AP,atV,aU];cases hp:Aqi b.BD id 0 with
 | some j=>
  have:=(fP hp).2;dsimp only;rw [Ep (by omega),GX (by omega),BR]
 | none=>
  dsimp only;rw [BF (by rfl)];have hle:=PBL id b.BD;have key:∀ (j i m:Nat),i+j=GV b.BD id->nR (m+j+1) (.c0 id n (i:Int) b.BO b.CZ b.AU.Bv b.AU.DU b.AU.BM b.AU.Dh b.AU.fCount b.CW b.Bc.Ak b.AU.AZ b.BP b.BD)=some ⟨b.BO,b.CZ,b.Bc,b.AU,b.BP,b.BD.take (GV b.BD id)++[⟨id,n⟩]++b.BD.drop (GV b.BD id),b.CW⟩:=by
   intro j;induction j with
   | zero=>
    intro i m hi;have hi:i=GV b.BD id:=by omega
    subst hi;have e1:(b.BD.drop 0).take (GV b.BD id - 0)=b.BD.take (GV b.BD id):=by rw [List.drop_zero,Nat.sub_zero]
    have e2:(b.BD.drop (GV b.BD id)).take (b.BD.length - GV b.BD id)=b.BD.drop (GV b.BD id):=List.take_of_length_le (by rw [List.length_drop];omega);have l1:(b.BD.take (GV b.BD id)).length<=1000000:=by rw [List.length_take];omega
    have l2:(b.BD.drop (GV b.BD id)).length<=1000000:=by rw [List.length_drop];omega
    rw [nR];simp only [EAp,mk,BR,e1,e2];have c1:(decide ((0:Int)<=(GV b.BD id:Int)) && decide ((GV b.BD id:Int)<=(b.BD.length:Int)))=true:=by rw [Bool.and_eq_true,decide_eq_true_eq,decide_eq_true_eq];omega
    have c2:decide ((b.BD.take (GV b.BD id)).length*16<=140737488355328)=true:=by rw [decide_eq_true_eq];omega
    have c3:decide (((b.BD.take (GV b.BD id)).length+1)*16<=140737488355328)=true:=by rw [decide_eq_true_eq];omega
    have c4:decide (((b.BD.take (GV b.BD id)++[(⟨id,n⟩:CS)]).length+(b.BD.drop (GV b.BD id)).length)*16<=140737488355328)=true:=by rw [decide_eq_true_eq,List.length_append,List.length_singleton];omega
    rw [c1,c2,c3,c4];simp only [Ar];by_cases hl:GV b.BD id<b.BD.length;·have hn:=RBL hl;rw [Ep (by omega),GX (by omega),BF (D6 hn)]
    ·rw [Jh (by omega)]
   | succ j ih=>
    intro i m hi;have hw:=Fq (i:=i) (by omega);have hn:=QBL (ls:=b.BD) (id:=id) (i:=i) (by omega);rw [AwB m j,nR];simp only [EAp,mk,BR,hw];rw [Ep (by omega),GX (by omega),AL (Ba hn)];exact ih (i+1) m (by omega)
  obtain ⟨m,hm⟩:∃ m,AY=m+GV b.BD id+1:=⟨AY - (GV b.BD id+1),by have:=FM (n:=GV b.BD id+1) (by omega);omega⟩
  rw [hm];exact key _ 0 m (Nat.zero_add _)
theorem QBp {b:Ap} {c:CV} {leaf:Int} {j:Nat} (h:Uy b) (ho:c.Au=13) (hj:Ar8 b c.EJ=(j:Int)) (hlt:j<b.BP.length):LU b c 0 leaf=some ⟨b.BO,b.CZ,b.Bc,b.AU,b.BP.take j++b.BP.drop (j+1),b.BD,b.CW⟩:=by have h1:=h.s;have h2:=h.t;have hw:=Fq (i:=j) (by omega);have e2:(b.BP.drop (j+1)).take (b.BP.length - (j+1))=b.BP.drop (j+1):=List.take_of_length_le (by rw [List.length_drop];omega);rw [LU,bg,mk,h.copy,AP,BF (by rfl),sN (by omega),AP,Xb (by omega),AP,BF (by rw [ho];rfl),AL (by rw [ho];rfl),hj,Ep (by omega),GX (by omega),hw,GX (by omega),BR,BR,e2,GX (by rw [List.length_drop];omega),Nat.sub_zero]
def delS (ls:List EG) (id:Int):List EG:=ls.filter fun s=>s.fId != id
def xC (ls:List EG) (id:Int):List EG:=ls.map fun s=>⟨s.fId,s.QW || s.fId == id⟩
def Rn (ls:List CS) (id:Int):List CS:=ls.filter fun v=>v.fId != id
def kS (b:Ap) (S:List EG):Ap:=⟨b.BO,b.CZ,b.Bc,b.AU,S,b.BD,b.CW⟩
def Ar4 (b:Ap) (V:List CS):Ap:=⟨b.BO,b.CZ,b.Bc,b.AU,b.BP,V,b.CW⟩
def VU (b:Ap) (c:CV) (leaf:Int):Ap:=match Aqg b.AU.AZ c.Ag with
 | some x=>bif x.Aj == 2 && (decide (leaf>=0) && decide (leaf<x.fNext)) then Ar4 b (AqR b.BD x.fId (leaf+1)) else b
 | none=>b
def Ii (b:Ap) (c:CV) (code leaf:Int):Ap:=
 bif code != 0 then b
 else bif c.Au == 1 then ⟨b.BO,b.CZ,b.Bc,b.AU,b.BP++[⟨b.CW+1,false⟩],b.BD,b.CW+1⟩
 else bif c.Au == 13 then kS b (delS b.BP c.EJ)
 else bif c.Au == 2 then kS b (xC b.BP c.EJ)
 else bif c.Au == 5 then VU b c leaf
 else bif c.Au == 9 then Ar4 b (Rn b.BD c.Ag)
 else b
theorem FAs (id:Int):∀ (ls:List EG) (i:Nat),Jd ls id i=(Jd ls id 0).map (· + i)
 | [],i=>rfl
 | v::vs,i=>by
  rw [Jd,Jd];split;·simp
  ·rw [FAs id vs (i+1),FAs id vs (0+1),Option.map_map];congr 1;funext j;show j+(i+1)=(j+(0+1))+i;omega
theorem QBO (id:Int):∀ {ls:List EG},AscS ls->(match Jd ls id 0 with | some j=>ls.take j++ls.drop (j+1) | none=>ls)=delS ls id
 | [],_=>rfl
 | s::ss,h=>by
  obtain ⟨hs,h2⟩:=List.pairwise_cons.1 h
  have ih:=QBO id h2;rw [delS] at ih ⊢;rw [Jd,List.filter_cons];by_cases e:s.fId=id;·rw [if_pos (beq_iff_eq.2 e),if_neg (by rw [bne_iff_ne];exact fun q=>q e),List.filter_eq_self.2 fun w hw=>by have:=hs w hw;rw [bne_iff_ne];omega];rfl
  ·rw [if_neg (by rw [beq_iff_eq];exact e),if_pos (bne_iff_ne.2 e),<-ih,FAs];cases Jd ss id 0 <;> rfl
theorem RBO (id:Int):∀ {ls:List EG},AscS ls->(match Jd ls id 0 with | some j=>ls.set j ⟨(ls.getD j ⟨0,false⟩).fId,true⟩ | none=>ls)=xC ls id
 | [],_=>rfl
 | s::ss,h=>by
  obtain ⟨hs,h2⟩:=List.pairwise_cons.1 h
  have ih:=RBO id h2;rw [xC] at ih ⊢;rw [Jd,List.map_cons];by_cases e:s.fId=id
  ·have hr:ss.map (fun s=>(⟨s.fId,s.QW || s.fId == id⟩:EG))=ss:=by
    conv=>rhs;rw [<-List.map_id ss]
    refine List.map_congr_left fun w hw=>?_
    have:=hs w hw;rw [beq_eq_false_iff_ne.2 (by omega),Bool.or_false];rfl
   rw [if_pos (beq_iff_eq.2 e),hr,beq_iff_eq.2 e,Bool.or_true];rfl
  ·rw [if_neg (by rw [beq_iff_eq];exact e),<-ih,FAs,beq_eq_false_iff_ne.2 e,Bool.or_false];cases Jd ss id 0 <;> rfl
theorem SBO (id:Int):∀ {ls:List CS},JG ls->(match Aqi ls id 0 with | some j=>ls.take j++ls.drop (j+1) | none=>ls)=Rn ls id
 | [],_=>rfl
 | s::ss,h=>by
  obtain ⟨hs,h2⟩:=List.pairwise_cons.1 h
  have ih:=SBO id h2;rw [Rn] at ih ⊢;rw [Aqi,List.filter_cons];by_cases e:s.fId=id;·rw [if_pos (beq_iff_eq.2 e),if_neg (by rw [bne_iff_ne];exact fun q=>q e),List.filter_eq_self.2 fun w hw=>by have:=hs w hw;rw [bne_iff_ne];omega];rfl
  ·rw [if_neg (by rw [beq_iff_eq];exact e),if_pos (bne_iff_ne.2 e),<-ih,AFN];cases Aqi ss id 0 <;> rfl
theorem TBO {k s:AA} {num:Int} (hk:k.size<=900000000) (hs:s.size<=800000000):yN k num s=some (Si k num s):=by
 rw [yN,GA2,mk,EBM hk,AP,Xh,Si];cases h:MB num s.size;·rfl
 ·have h':=iI.1 h;have hm:=Ru (bs k) (SN num) ((s.size:Int).toNat);have hl:=bs_len s;rw [Ar,Ar,BF (by rfl),GBM (by omega) (by simp_all [Dj]),AP,Avo (tC _ _ _)];have hx:(J6 (bs s) (Arw (bs k) (SN num) (s.size:Int).toNat)).length=s.size:=by simp_all [bn]
  rw [FBM hk h'.1 (by simp_all [Dj]),AP,Avo (Ve _ _),AL (by grind [Dj,nS])];refine congrArg (fun x=>some (x,true)) (Aq3 ?_)
  rw [Fa,Avo (Ve _ _),Avo (Tv _ _ _),Avo (fun x hx=>by
   rcases List.mem_append.1 hx with hx | hx
   ·exact Ve _ _ x hx
   ·exact Tv _ _ _ x hx),NM,hl]
  rfl
theorem TBB {k:AA} {count:Int} {r:Ah} (hk:k.size<=900000000) (hr:r.DR<=9223372036854775807):yO k count r=some (AwN k count r):=by
 have hz:=V8 r;rw [yO,LA2,mk,V9 hr,AP,AwN];cases h1:(ArP r).2;·rfl
 rw [BF (by rfl),Ti,AP,Bool.true_and];cases h2:Ark count 0 10000;·rfl
 rw [Aqo] at h2;obtain ⟨l1,l2,l3⟩:=yP (k:=k) (s:=(ArP r).1) (num:=count+1) (by omega) (by omega)
 obtain ⟨f1,f2⟩:=YA8 (t:=(Si k (count+1) (ArP r).1).1) (by omega)
 rw [BF (by rfl),A8 (by omega) (by omega),TBO hk (by omega),AP,JBM (by omega),AP,l1,f1];rfl
theorem UBO {d:BU} {n:AA} (h:d.Ak.length*40<=140737488351232) (hs:Sorted d.Ak):nT d n=some ⟨AsK d.Ak n⟩:=by
 have hp:=WBi (l:=d.Ak) (n:=n) (i:=0);rw [nT,PA2,mk,CAr (by omega),AP,<-VBi hs,AqB];cases he:Avc d.Ak n 0 with
 | none=>
  rw [he] at hp;rw [hp];rfl
 | some j=>
  rw [he] at hp;have hj:=(Z8 he).2;have hw:=Fq (i:=j) (by omega);have hd:(d.Ak.drop (j+1)).take (d.Ak.length - (j+1))=d.Ak.drop (j+1):=List.take_of_length_le (by rw [List.length_drop];omega);simp only [hw,BR,Nat.sub_zero,List.drop_zero,hd];rw [AL (by simp),AL (by simp;omega),AL (by simp [List.length_take];omega),AL (by simp;omega),AL (by simp [List.length_take,List.length_drop];omega)];simp only [Nat.sub_zero] at hp;rw [hp]
theorem VBO {d:BU} {f:BQ} (h:d.Ak.length*40<=140737488351232) (hs:Sorted d.Ak):MAm d f=some ⟨AqY d.Ak f⟩:=by
 rw [MAm,QA2,UBO h hs,AP,<-XBi hs];have hol:(AsK d.Ak f.fName).length<=d.Ak.length:=List.length_filter_le _ _;generalize hL:AsK d.Ak f.fName=l at hol ⊢;have key:∀ (j i m:Nat),i+j=l.length->nU (m+j+1) (.c0 (i:Int) f l)=some ⟨l.take i++WA (l.drop i) f⟩:=by
  intro j;induction j with
  | zero=>
   intro i m hi;have hd:(l.drop i).take (l.length - i)=l.drop i:=List.take_of_length_le (by rw [List.length_drop];omega);rw [nU];simp only [LAm,mk,BR,Nat.sub_zero,List.drop_zero,hd];rw [BF (by simp;omega),AL (by simp;omega),AL (by simp [List.length_take];omega),AL (by simp [List.length_take];omega),AL (by simp;omega),AL (by simp [List.length_take,List.length_drop];omega)];rw [show l.drop i=[] from List.drop_of_length_le (by omega)];simp [WA]
  | succ j ih=>
   intro i m hi;have hil:i<l.length:=by omega
   have hw:=Fq (i:=i) (by omega);have hd:(l.drop i).take (l.length - i)=l.drop i:=List.take_of_length_le (by rw [List.length_drop];omega);rw [AwB m j,nU];simp only [LAm,mk,BR,Nat.sub_zero,List.drop_zero,hd,hw,getD_at hil,ih (i+1) m (by omega)];rw [AL (by simp;omega),AL (by simp;omega),drop_at hil,WA];cases Op.bytesLess l[i].fName.toList f.fName.toList;·rw [Aq,Aq,<-drop_at hil,AL (by simp;omega),AL (by simp [List.length_take];omega),AL (by simp [List.length_take];omega),AL (by simp;omega),AL (by simp [List.length_take,List.length_drop];omega)];simp
   ·rw [Ar,Ar,show l.take (i+1)=l.take i++[l[i]] by rw [List.take_add_one,List.getElem?_eq_getElem hil];rfl,List.append_assoc];rfl
 obtain ⟨m,hm⟩:=gm (n:=l.length) (by omega)
 rw [hm];have:=key l.length 0 m (Nat.zero_add _);simpa using this
theorem RBp {d:BU} {a:Ef} (hd:d.Ak.length*40<=140737488351232) (ha:a.fText.size<=140737488351232):yQ d a=some (Gu d a):=by
 have ho:=DBK d.Ak a.fName;rw [yQ,RA2,mk,Gu];simp only [aV (d:=d) (by omega),CAr (d:=d) (n:=a.fName) (by omega),yM (d:=d) (by omega),AP,bne];cases hdk:Ap0 d;·rfl
 obtain ⟨hl,hok⟩:=nV hdk
 have hs:=UBi hdk;have hpl:∀ (l:List BQ) (f:BQ),l.length<=30->(AqY l f).length<=31:=fun l f h=>by have:=YBJ f.fName l;rw [AqY,List.length_append,List.length_append];simp only [List.length_cons,List.length_nil];omega
 simp only [UBO (d:=d) (n:=a.fName) hd hs,fun f=>VBO (d:=d) (f:=f) hd hs,fun f=>VBO (d:=⟨AsK d.Ak a.fName⟩) (f:=f) (show (AsK d.Ak a.fName).length*40<=_ by omega) (Ag3 hs),AP,
  fun f=>aV (d:=⟨AqY d.Ak f⟩) (show (AqY d.Ak f).length<=_ by have:=hpl d.Ak f hl;omega),fun f=>aV (d:=⟨AqY (AsK d.Ak a.fName) f⟩) (show (AqY (AsK d.Ak a.fName) f).length<=_ by have:=hpl (AsK d.Ak a.fName) f (by omega);omega),aV (d:=⟨AsK d.Ak a.fName⟩) (show (AsK d.Ak a.fName).length<=_ by omega)]
 have fin:∀ l:List BQ,(bif !Ap0 ⟨l⟩ then some ((⟨[]⟩:BU),false) else some (⟨l⟩,true))=some (doneD l):=fun l=>by rw [doneD];cases Ap0 ⟨l⟩ <;> rfl
 have ht:∀ f,NH f=true->f.fText.size+a.fText.size<=9223372036854775807:=fun f hf=>by have:=(yR.1 hf).2.1;omega
 simp only [fin,Bool.true_and,DN,Aq];cases hp:Avc d.Ak a.fName 0 with
 | some j=>
  obtain ⟨hj,hfo,_,_⟩:=GA9 hdk hp
  simp only [show AqB d a.fName=(j:Int) by rw [AqB,hp],BR,show decide ((j:Int)>=0)=true from Ba (by omega),show decide ((j:Int)<0)=false from D6 (by omega),show decide ((j:Int)<(d.Ak.length:Int))=true from Ba (by omega),Bool.and_self,Ar,Aq];generalize hf:d.Ak.getD j nX=f at hfo;have hf':d.Ak.getD j (⟨⟨#[]⟩,⟨#[]⟩,0⟩:BQ)=f:=hf;have hk:(f.J3 == (f.fText.size:Int)) = !decide (f.J3<(f.fText.size:Int)):=by
   have:=(yR.1 hfo).2.2;by_cases h:f.J3=(f.fText.size:Int)
   ·rw [beq_iff_eq.2 h,D6 (by omega)];rfl
   ·rw [beq_eq_false_iff_ne.2 h,Ba (by omega)];rfl
  simp only [hf',Ba (ht f hfo),Ar,YH,hk];cases a.Aj == 1 <;> cases a.Aj == 2 <;> cases a.Aj == 3 <;> cases a.Aj == 4 <;> cases a.I8.toList == (⟨#[]⟩:AA).toList <;> cases a.fText.toList == (⟨#[]⟩:AA).toList <;> cases decide (f.J3<(f.fText.size:Int)) <;> cases a.I8.toList == a.fName.toList <;> rfl
 | none=>
  have hs:decide ((⟨#[]⟩:AA).size+a.fText.size<=9223372036854775807)=true:=Ba (by show 0+a.fText.size<=_;omega);simp only [show AqB d a.fName = -1 by rw [AqB,hp],show decide ((-1:Int)>=0)=false from rfl,show decide ((-1:Int)<0)=true from rfl,hs,Ar,Aq];cases a.Aj == 1 <;> cases a.Aj == 2 <;> cases a.Aj == 3 <;> cases a.Aj == 4 <;> cases a.I8.toList == (⟨#[]⟩:AA).toList <;> cases a.fText.toList == (⟨#[]⟩:AA).toList <;> rfl
theorem UBB {d:BU} {l:List Ef} (hd:d.Ak.length*40<=140737488351232) (hl:l.length<=140737488351232) (ha:∀ a ∈ l,a.fText.size<=140737488351232):nY d l=some (Aqu d l 0):=by
 have key:∀ (j i m:Nat) (out:List BQ),i+j=l.length->out.length*40<=140737488351232->nZ (m+j+1) (.c0 l l (l.length:Int) (i:Int) [] out)=some (Aqu ⟨out⟩ (l.drop i) (i:Int)):=by
  intro j;induction j with
  | zero=>
   intro i m out hi ho;rw [nZ];simp only [NAm,mk];rw [BF (by simp;omega),List.drop_of_length_le (by omega),Aqu,show (l.length:Int)=(i:Int) by omega]
  | succ j ih=>
   intro i m out hi ho;have hil:i<l.length:=by omega
   have hw:=Fq (i:=i) (by omega);rw [AwB m j,nZ];simp only [NAm,mk,show decide ((i:Int)<(l.length:Int))=true from Ba (by omega),show decide ((0:Int)<=(i:Int))=true from Ba (by omega),Bool.and_self,Ar,BR,hw,getD_at hil,RBp (d:=⟨out⟩) (a:=l[i]) ho (ha _ (List.getElem_mem hil)),AP];rw [drop_at hil,Aqu];cases hr:(Gu ⟨out⟩ l[i]).2;·rfl
   ·have h30:=(nV (FBK hr)).1;rw [DN,Aq,Ar,ih (i+1) m _ (by omega) (by omega)];rfl
 obtain ⟨m,hm⟩:=gm (n:=l.length) (by omega)
 rw [nY,SA2,mk,yM (by omega),AP,hm];exact key l.length 0 m _ (Nat.zero_add _) hd
noncomputable def xK (b:Ap) (r:Ah):Bool×Ap:=
 bif !(AwN b.BO b.AU.fCount r).2 || (!(RZ b.AU r).2 || decide ((Aqu b.Bc (AwN b.BO b.AU.fCount r).1 0).2<((AwN b.BO b.AU.fCount r).1.length:Int))) then (false,b)
 else (true,⟨b.BO,b.CZ,(Aqu b.Bc (AwN b.BO b.AU.fCount r).1 0).1,(RZ b.AU r).1,b.BP,b.BD,b.CW⟩)
theorem WBO {b:Ap} {r:Ah} (hk:b.BO.size<=900000000) (hd:b.Bc.Ak.length*40<=140737488351232) (hb:b.AU.AZ.length<=140737488351232) (hr:r.DR<=9223372036854775807):Vr b r=some (xK b r):=by
 obtain ⟨h1,h2⟩:=HBK b.BO b.AU.fCount r
 rw [Vr,BA3,mk,TBB hk hr,AP,UBB hd (by omega) h2,AP,TBL hb hr,AP,xK];cases (AwN b.BO b.AU.fCount r).2;·rfl
 cases (RZ b.AU r).2;·rfl
 cases decide ((Aqu b.Bc (AwN b.BO b.AU.fCount r).1 0).2<((AwN b.BO b.AU.fCount r).1.length:Int)) <;> rfl
theorem XBO {x:Af} (h:Ar9 x=true):(ArP (Nw x)).2=true:=by grind [ArP,Nw,Apu,Ar0]
noncomputable def Xz:List DW->Int->Bg->Option Bg
 | [],_,l=>some l
 | e::es,i,l=>(bif e.JY then Xy l else Av6 l e i).bind (Xz es (i+1))
noncomputable def ES (k w:AA):Bg:=⟨(AsM k w).1,[],[],[],[Gf w]⟩
def VBB (l:Bg) (c:Int) (s:AA):Bg:=⟨l.AX,l.Bq++[c],l.EN++[s],l.Cm,l.CO⟩
theorem Xd {l:Bg} {c:Int} {s:AA} (h1:l.Bq.length<=1000000) (h2:l.EN.length<=1000000):WB l c s=some (VBB l c s):=by rw [WB,SA3,mk,AL (by simp;omega),AL (by simp;omega)];rfl
theorem SBp {l:Bg} {e:DW} {w code leaf:Int} {s:AA} {r:Ah} {b1 b2:Ap} (hp:Qx l.AX e.BA=some ([r],code,s)) (hcut:e.Nr=false) (hl:AqU l.AX e.BA.Ag=some leaf) (hb:Vr l.AX r=some (true,b1)) (hc:LU b1 e.BA code leaf=some b2) (z1:l.Bq.length<=1000) (z2:l.EN.length<=1000) (z3:l.CO.length<=1000) (z4:l.Cm.length<=1000) :
  Av6 l e w=some ⟨b2,l.Bq++[code],l.EN++[s],bif e.BA.Au == 5 && code == 0 then l.Cm++[⟨e.BA.Ag,leaf,w⟩] else l.Cm,l.CO++[r]⟩:=by
 obtain ⟨m,hm⟩:∃ m,AY=m+1+1:=⟨AY - 2,rfl⟩
 have hw:AV (0+1)=1:=by rw [A8 (by omega) (by omega)];rfl
 rw [Av6,sS,mk,hp,AP,hl,hm,hcut,Aq,AP,Zh];simp only [sU,mk];rw [AL (by rfl),AL (by rfl)];show (Vr l.AX r).bind _=_;rw [hb,AP];dsimp only;rw [Ar,Ep (by omega),hw,Zh];simp only [sU,mk];rw [BF (by rfl)];show (LU b1 e.BA code leaf).bind _=_;rw [hc,AP,Xd (l:=⟨b2,l.Bq,l.EN,l.Cm,_⟩) (show l.Bq.length<=1000000 by omega) (show l.EN.length<=1000000 by omega),AP];cases e.BA.Au == 5;·rfl
 ·cases code == 0;·rfl
  ·rw [Ar,Ar,AL (by rw [decide_eq_true_eq];show (l.Cm.length+1)*24<=_;omega)];rfl
def Jg (F:AA) (n:Int) (zs:List Int):Int:=ite (n > (match zs with | []=>0 | z::_=>ite ((ite ((F.size:Int)<z) (F.size:Int) z) > 0) (ite ((F.size:Int)<z) (F.size:Int) z) 0)) n (match zs with | []=>0 | z::_=>ite ((ite ((F.size:Int)<z) (F.size:Int) z) > 0) (ite ((F.size:Int)<z) (F.size:Int) z) 0)
theorem GAs {F:AA} {n:Int} (zs:List Int) (h:0<=n/\n<=(F.size:Int)):n<=Jg F n zs/\Jg F n zs<=(F.size:Int):=by unfold Jg;grind
def SA (F:AA) (n:Int) (zs:List Int):BU:=dk (F.extract 0 (Jg F n zs).toNat) (Jg F n zs)
theorem TBp {F:AA} {n:Int} (zs:List Int) (h:0<=n/\n<=(F.size:Int)) (hF:F.size<=20000):AGH (dk F n) zs=some (SA F n zs,true):=by
 obtain ⟨m,hm⟩:∃ m,AY=m+1+1:=⟨AY - 2,rfl⟩
 obtain ⟨k1,k2⟩:=GAs zs h
 have e:AV (0+1)=1:=by rw [A8 (by omega) (by omega)];rfl
 have hg:[(⟨DF,F,n⟩:BQ)].getD (0:Int).toNat (⟨⟨#[]⟩,⟨#[]⟩,0⟩:BQ)=⟨DF,F,n⟩:=rfl;have hl:(([(⟨DF,F,n⟩:BQ)].length:Nat):Int)=1:=rfl;rw [AGH,SA7,mk,aV (Nat.le_of_ble_eq_true rfl),AP,ArZ h hF,yM (d:=dk F n) (Nat.le_of_ble_eq_true rfl),AP];rw [DN,Aq,show (dk F n).Ak=[⟨DF,F,n⟩] from rfl,hm,yS];simp only [TA7,mk,hg,hl,e];rw [AL (by rfl),AL (by rfl)];have hend:∀ (v:Int) (x y:List BQ) (l:List Int),v=1->yS (m+1) (.c0 l v 1 x y)=some (⟨y⟩,true):=by intro v x y l hv;subst hv;rfl
 cases zs with
 | nil=>
  rw [BF (by rfl)];have hk:ite (n > 0) n 0=Jg F n []:=rfl;rw [hk,GX (by omega),hend _ _ _ _ rfl];rfl
 | cons z zs=>
  rw [Ep (by rw [List.length_cons];omega),GX (by rw [List.length_cons];omega)];have hz:(z::zs).getD (0:Int).toNat 0=z:=rfl;simp only [hz];have hk:ite (n > (ite ((ite ((F.size:Int)<z) (F.size:Int) z) > 0) (ite ((F.size:Int)<z) (F.size:Int) z) 0)) n (ite ((ite ((F.size:Int)<z) (F.size:Int) z) > 0) (ite ((F.size:Int)<z) (F.size:Int) z) 0)=Jg F n (z::zs):=rfl;simp only [hk];rw [GX (by omega),hend _ _ _ _ rfl];rfl
theorem YBO {d:BU} {E T:AA} {n:Int} (zs:List Int) (hT:T.size<=20000) (hd:d.Ak.length*40<=140737488351232) (ha:Gu d ⟨1,DF,T,⟨#[]⟩⟩=(dk E n,true)) (h:0<=n/\n<=(E.size:Int)) (hE:E.size<=20000):BAp d (Apx T) 1 zs=some (SA E n zs,true):=by
 have e1:Aqu d [⟨1,DF,T,⟨#[]⟩⟩] 0=(dk E n,1):=by rw [Aqu,ha];rfl
 rw [BAp,UA7,mk,Ti,AP,show Ark 1 0 ((Apx T).length:Int)=true from rfl,DN,Aq,AL (by rfl),show ((Apx T).take (1:Int).toNat).drop 0=[⟨1,DF,T,⟨#[]⟩⟩] from rfl,UBB (l:=[⟨1,DF,T,⟨#[]⟩⟩]) hd (show (1:Nat)<=140737488351232 by omega) (fun a ha=>by rw [List.mem_singleton] at ha;rw [ha];show T.size<=_;omega),AP,e1];rw [BF (by rfl),TBp zs h hE];rfl
theorem ZBO {b:Ap} (h:b.Bc.Ak.length*40<=140737488355328):CAp b=some (kM b):=by rw [CAp,VA7,yM h,AP,BAr];rfl
structure Down (k:AA) (l:List Ah) (b:Ap):Prop where
 H6:k.size=32
 len:1<=l.length/\l.length<=50
 book:(Apz Nb l).2=true
 box:∃ X:AA,b=⟨k,false,dk X X.size,Nb,[],[],0⟩/\X.size<=16700/\∃ (l2:List Ah) (K:Nat),l2.length<=50/\(Apz Nb l2).2=true/\K<=(ArG (tx k 1 l2)).length/\bs X=(ArG (tx k 1 l2)).take K/\l=l2.take (whole (tx k 1 l2) K)
theorem WBB {k:AA} {l:List Ah} (hl:l.length<=50):(ArG (tx k 1 l)).length<=334*l.length:=by have h:=PAq k _ (yT k l 1 (by omega) (by omega));simp_all [Ua]
theorem UBp {k:AA} {l:List Ah} {L:Bg} {r:Ah} (zs:List Int) (g:Good k l L.AX) (hl:l.length<50) (hn:r.DR<=9223372036854775807) (hr:(RZ L.AX.AU r).2=true) (z1:L.Bq.length<=1000) (z2:L.EN.length<=1000) (z3:L.CO.length<=1000) :
  ∃ l' b',Xu L r zs=some ⟨b',L.Bq++[10],L.EN++[⟨#[]⟩],L.Cm,bif decide (l'.length > l.length) then L.CO++[r] else L.CO⟩/\Down k l' b'/\(l'=l\/l'=l++[r])/\(∀ z zs',zs=z::zs'->334*((l.length:Int)+1)<=z->l'=l++[r])/\(zs=[]->l'=l):=by
 obtain ⟨F,h1,h2⟩:=g.disk
 have EB:=Good.wz g.len.2 h2;have hF2:F.size=(ArG (tx k 1 l)).length:=by rw [<-bs_len,h2]
 obtain ⟨T,t1,t2⟩:=xA (k:=k) (r:=r) (i:=l.length) (Arn hr).2.1 (by omega)
 have hlen:(l++[r]).length=l.length+1:=by rw [List.length_append];rfl
 have hat:(l++[r])[l.length]'(by omega)=r:=by simp
 have hall:ArG (tx k 1 (l++[r]))=ArG (tx k 1 l)++bs T:=by have e:=kP (k:=k) (l:=l++[r]) (i:=l.length) (by omega);rw [List.take_of_length_le (by omega),List.take_left,hat,<-t2] at e;exact e
 have hfl:=WBB (k:=k) (l:=l++[r]) (by omega);have hl1:=congrArg List.length hall;rw [List.length_append,bs_len] at hl1;have hz:(F++T).size=F.size+T.size:=ByteArray.size_append;have hE:bs (F++T)=ArG (tx k 1 (l++[r])):=by rw [Fa,h2,hall]
 have hcut:=YBO (d:=dk F F.size) (E:=F++T) (T:=T) (n:=F.size) zs (by omega) (Nat.le_of_ble_eq_true rfl) (TAq (by omega) (by omega)) (by omega) (by omega);obtain ⟨q1,q2⟩:=GAs (F:=F++T) (n:=F.size) zs (by omega)
 have hk1:∀ z zs',zs=z::zs'->334*((l.length:Int)+1)<=z->Jg (F++T) F.size zs=((F++T).size:Int):=by
  intro z zs' e hz';have q3:(z:Int)>=((F++T).size:Int):=by omega
  rw [e] at q2 ⊢;unfold Jg at q2 ⊢;dsimp only at q2 ⊢;repeat' split <;> try omega
 have hk0:zs=[]->Jg (F++T) F.size zs=(F.size:Int):=by intro e;rw [e];unfold Jg;dsimp only;split <;> omega
 unfold SA at hcut;generalize Jg (F++T) F.size zs=kk at hcut q1 q2 hk1 hk0;obtain ⟨K,rfl⟩:∃ K:Nat,kk=(K:Int):=⟨kk.toNat,by omega⟩
 rw [BR] at hcut;have hX:bs ((F++T).extract 0 K)=(ArG (tx k 1 (l++[r]))).take K:=by rw [Ap3,List.drop_zero,hE]
 have Al:((F++T).extract 0 K).size=K:=by rw [ByteArray.size_extract];omega
 generalize (F++T).extract 0 K=X at hcut hX Al;have hEl:(ArG (tx k 1 (l++[r]))).length=F.size+T.size:=by omega
 have he2:(Apz Nb (l++[r])).2=true:=by rw [fV,g.book];dsimp only;rw [Ar,Apz,hr];rfl
 have hrb:=ZA9 (k:=k) (file:=X) (l:=l++[r]) (K:=K) (by omega) (QAq he2) (by omega) hX;obtain ⟨w1,w2,w3⟩:=GAq (tx k 1 (l++[r])) K
 have w4:=IBL (tx k 1 (l++[r])) l.length K (by rw [Ua];omega) (by rw [aA,List.take_left];omega);have w5:=RA9 (tx k 1 (l++[r])) K;rw [Ua] at w2 w5;rw [aA] at w3;have CF:(l++[r]).take (whole (tx k 1 (l++[r])) K)=l\/(l++[r]).take (whole (tx k 1 (l++[r])) K)=l++[r]:=by
  by_cases hw:whole (tx k 1 (l++[r])) K=l.length;·left;rw [hw,List.take_left]
  ·right;rw [List.take_of_length_le (by omega)]
 refine ⟨(l++[r]).take (whole (tx k 1 (l++[r])) K),⟨k,false,dk X X.size,Nb,[],[],0⟩,?_,⟨g.H6,?_,MA9 _ he2,⟨X,rfl,by have:=VAq (k:=k) (l:=l++[r]) (by omega) (l.length+1);rw [List.take_of_length_le (by omega)] at this;omega,l++[r],K,by omega,he2,by omega,hX,rfl⟩⟩,CF,?_,?_⟩
 ·rw [Xu,DAp,mk,g.cnt,TBB (by rw [g.key,g.H6];omega) hn,AP,g.key,t1,h1,hcut,AP,ZBO (by rw [h1];exact Nat.le_of_ble_eq_true rfl),AP];dsimp only;rw [Ar,PBA (by exact Nat.le_of_ble_eq_true rfl),AP,show Hl (dk X (K:Int)) ⟨#[98,111,111,107]⟩=(X,true) from UAq X _];dsimp only;rw [show (kM L.AX).BO=k from g.key,QBA (by rw [g.H6];omega) (by omega),AP,hrb];dsimp only;have hd:decide ((((l++[r]).take (whole (tx k 1 (l++[r])) K)).length:Int) > (l.length:Int))=decide (((l++[r]).take (whole (tx k 1 (l++[r])) K)).length > l.length):=by rw [decide_eq_decide];omega
  rw [hd,Al];cases decide (((l++[r]).take (whole (tx k 1 (l++[r])) K)).length > l.length);·rw [Aq,Aq];show (WB ⟨⟨k,false,dk X (K:Int),Nb,[],[],0⟩,L.Bq,L.EN,L.Cm,L.CO⟩ 10 ⟨#[]⟩).bind _=_;rw [Xd (l:=⟨⟨k,false,dk X (K:Int),Nb,[],[],0⟩,L.Bq,L.EN,L.Cm,L.CO⟩) (show L.Bq.length<=1000000 by omega) (show L.EN.length<=1000000 by omega)];rfl
  ·rw [Ar,Ar,Ep (by omega)];show (WB ⟨⟨k,false,dk X (K:Int),Nb,[],[],0⟩,L.Bq,L.EN,L.Cm,L.CO++[r]⟩ 10 ⟨#[]⟩).bind _=_;rw [Xd (l:=⟨⟨k,false,dk X (K:Int),Nb,[],[],0⟩,L.Bq,L.EN,L.Cm,L.CO++[r]⟩) (show L.Bq.length<=1000000 by omega) (show L.EN.length<=1000000 by omega)];rfl
 ·have h3:=g.len;rw [List.length_take];omega
 ·intro z zs' e hz';have:=hk1 z zs' e hz';rw [List.take_of_length_le];rw [w5 (by omega)];omega
 ·intro e;have h3:=hk0 e;rcases CF with h | h
  ·exact h
  ·have h4:=congrArg List.length h;rw [List.length_take] at h4;have h5:whole (tx k 1 (l++[r])) K=l.length+1:=by omega
   rw [h5,List.take_of_length_le (by omega)] at w3;have hT:T.size=0:=by omega
   have h6:=congrArg List.length t2;rw [bs_len,yU] at h6;omega
noncomputable def aI (b:Ap):Ap×Bool:=
 bif b.CZ || !QF b then (IA9,false)
 else bif !(ArE b.BO b.Bc).2.2 || decide ((Aqu b.Bc (ArE b.BO b.Bc).2.1 0).2<((ArE b.BO b.Bc).2.1.length:Int)) then (IA9,false)
 else (⟨b.BO,true,(Aqu b.Bc (ArE b.BO b.Bc).2.1 0).1,(ArE b.BO b.Bc).1,[],[],0⟩,true)
theorem AVj {k:AA} {d:BU} (hf:∀ f ∈ d.Ak,f.fText.size<=140737488351232):∀ a ∈ (ArE k d).2.1,a.fText.size<=140737488351232:=by
 have h0:=AMQ (n:=DF) hf;intro a;rw [ArE];cases (!(Ap0 d) || !(Apz Nb (AsB k (Hl d DF).1).1).2)
 ·rw [Aq];show a ∈ _++_->_;rw [List.mem_append];rintro (h | h)
  ·cases hc:decide (AqB d nNew>=0) <;> rw [hc] at h;·cases h
   ·rw [List.mem_singleton.1 h];exact DJ _
  ·cases hc:(AsB k (Hl d DF).1).2 == ((Hl d DF).1.size:Int) <;> rw [hc] at h
   ·simp only [Aq,List.mem_cons,List.not_mem_nil,or_false] at h;rcases h with rfl | rfl | rfl
    ·grind [ByteArray.size_extract]
    ·exact DJ _
    ·exact DJ _
   ·cases h
 simp
theorem VBp {b:Ap} (hd:b.Bc.Ak.length*40<=140737488351232) (hf:∀ f ∈ b.Bc.Ak,f.fText.size<=140737488351232) (ht:b.AU.AZ.length<=140737488351232) (hs:b.BP.length<=140737488351232) (hl:b.BD.length<=140737488351232) (hk:b.BO.size<=900000000):EAn b=some (aI b):=by
 obtain ⟨l1,l2⟩:=WAq b.BO b.Bc
 rw [EAn,RA3,mk,aI];simp only [RBA (b:=b) (by omega) hf ht hs hl,KBM hk (show b.Bc.Ak.length<=_ by omega) hf,UBB (d:=b.Bc) (l:=(ArE b.BO b.Bc).2.1) hd (by omega) (AVj hf),AP];cases b.CZ
 ·cases QF b;·rfl
  ·cases (ArE b.BO b.Bc).2.2;·rfl
   ·cases decide ((Aqu b.Bc (ArE b.BO b.Bc).2.1 0).2<((ArE b.BO b.Bc).2.1.length:Int)) <;> rfl
 ·rfl
structure LS (k:AA) (l:List Ah) (cs:List Int) (L:Bg):Prop where
 good:Good k l L.AX
 codes:L.Bq=cs
 few:cs.length<=60/\L.EN.length=cs.length/\L.Cm.length<=60/\L.CO.length<=60
def yV (n:Int):Ah:=⟨2,⟨#[]⟩,n,⟨0,0,false,false,false,false,⟨#[]⟩,0⟩⟩
theorem Good.BBP {k:AA} {l:List Ah} {b:Ap} (g:Good k l b) {S:List EG} {o:Int} (hS:S.length<=3) (hs:Oc ⟨b.BO,b.CZ,b.Bc,b.AU,S,b.BD,o⟩ S.length 0=true) (ho:0<=o/\o<=1000):Good k l ⟨b.BO,b.CZ,b.Bc,b.AU,S,b.BD,o⟩:=
 ⟨g.H6,g.key,g.up,g.disk,g.len,g.book,⟨hS,hs⟩,ho,⟨(UBm (b:=b) (c:=⟨b.BO,b.CZ,b.Bc,b.AU,S,b.BD,o⟩) rfl rfl _ _).trans g.LH.1,g.LH.2⟩⟩
theorem CBP {k:AA} {l:List Ah} {b:Ap} (g:Good k l b) (t:Int):AqU b t=some (AsP b t):=VBA (by have:=g.LH.2;omega) (by have:=g.Xx;omega)
theorem WBp {n:Int} (h:0<=n/\n<=3):(ArP (yV n)).2=true:=by grind [ArP,yV,Aqo,AwP,Ar0]
theorem XBp {b:Bo} (hb:G9 b=true) (hc:b.fCount<10000) {n:Int} (h:0<=n/\n<=3):RZ b (yV n)=(⟨b.Bv,n,b.AZ,b.BM,EK (b.Dh++(ArP (yV n)).1),b.fCount+1⟩,true):=by rw [RZ,hb,WBp h,D6 (by omega:¬ b.fCount>=10000)];rfl
theorem YBp {L L':Bg} {e:DW} {w code:Int} {s:AA} {r:Ah} (hp:Qx L.AX e.BA=some ([r],code,s)) (hcut:e.Nr=true) (hc:Xu L r e.Lc=some L'):Av6 L e w=some L':=by rw [Av6,sS,mk,hp,AP,hcut,Ar,AL (by rfl),AL (by rfl),show ([r],code,s).1.getD (0:Int).toNat (⟨0,⟨#[]⟩,0,⟨0,0,false,false,false,false,⟨#[]⟩,0⟩⟩:Ah)=r from rfl,hc];rfl
theorem DBP {k w:AA} (hk:k.size=32) (hw:w.size<=20):LS k [Gf w] [] (ES k w)/\(ES k w).AX.BP=[]/\(ES k w).AX.CW=0/\(ES k w).AX.BD=[]/\(ES k w).AX.AU.DU=0/\(ES k w).AX.AU.Bv=EK w/\(ES k w).AX.AU.AZ=[]/\(ES k w).AX.AU.BM=0:=by
 obtain ⟨h1,h2,h3,h4,h5,h6⟩:=rU hk hw
 have he:RZ Nb (Gf w)=(⟨EK w,0,[],0,EK (Nb.Dh++(ArP (Gf w)).1),0+1⟩,true):=by rw [RZ,KA9,show (ArP (Gf w)).2=true by rw [xJ],show decide (Nb.fCount>=10000)=false from rfl];rfl
 rw [he] at h6;refine ⟨⟨h2,rfl,⟨DJ _,rfl,DJ _,Nat.le_of_ble_eq_true rfl⟩⟩,h3,h5,h4,?_,?_,?_,?_⟩;all_goals grind [ES]
theorem EBP {b:Bo} {r:Ah} (h:(RZ b r).2=true) {v:CS} (hv:X3 b.AZ v):(r.Aj=4/\r.DR=v.fId)\/X3 (RZ b r).1.AZ v:=by
 obtain ⟨x,h1,h2,h3,h4⟩:=hv
 obtain ⟨e1,e2⟩:=Aq0 h1
 rcases ZBm h e2 with ⟨_,k1,k2⟩ | ⟨y,k1,k2,_,_,_,k3⟩
 ·omega
 ·rw [e1] at k1;exact .inr ⟨y,k1,by omega,h3,by omega⟩
noncomputable def Gt (b:Ap) (r:Ah):Ap:=⟨b.BO,b.CZ,(Aqu b.Bc (AwN b.BO b.AU.fCount r).1 0).1,(RZ b.AU r).1,b.BP,b.BD,b.CW⟩
theorem HAs {k:AA} {l:List Ah} {b:Ap} {r:Ah} (g:Good k l b) (hl:l.length<50) (hr:(RZ b.AU r).2=true) :
  xK b r=(true,Gt b r)/\∀ V,(∀ v ∈ V,X3 (RZ b.AU r).1.AZ v)->JG V->Good k (l++[r]) (Ar4 (Gt b r) V):=by
 obtain ⟨F,h1,h2⟩:=g.disk
 obtain ⟨T,t1,t2⟩:=xA (k:=k) (r:=r) (i:=l.length) (Arn hr).2.1 (by omega)
 have hlen:(l++[r]).length=l.length+1:=by simp
 have hat:(l++[r])[l.length]'(by omega)=r:=by simp
 obtain ⟨E,e1,e2⟩:=PBm (k:=k) (T:=T) (l:=l++[r]) (i:=l.length) (d:=b.Bc) (by omega) (by omega) (.inr ⟨F,h1,by simp_all⟩) (by simp_all)
 rw [List.take_of_length_le (by omega)] at e2;refine ⟨?_,fun V hV ha=>?_⟩;·rw [xK,Gt,g.key,g.cnt,t1];dsimp only;rw [e1,hr];rfl
 ·have hd:(Aqu b.Bc (AwN b.BO b.AU.fCount r).1 0).1=dk E E.size:=by rw [g.key,g.cnt,t1];simp_all
  have hb:=G7.1 (Arn hr).2.2.2.1;have hf:=XBL hb.2.2.2.2.2.2 ha fun v hv=>by
   obtain ⟨x,hx,_⟩:=hV v hv
   exact ⟨x,(Aq0 hx).2,(Aq0 hx).1⟩
  refine ⟨g.H6,g.key,g.up,⟨E,hd,e2⟩,⟨by omega,by omega⟩,?_,⟨g.MX.1,?_⟩,g.opn,MBA.2 ⟨hV,ha⟩,?_⟩;·rw [fV,g.book];dsimp only;rw [Ar,Apz,hr];rfl
  ·exact (OBL (b:=b) (c:=Ar4 (Gt b r) V) rfl rfl _ _).trans g.MX.2
  ·show V.length<=8;omega
theorem Good.lives {k:AA} {l:List Ah} {b:Ap} (g:Good k l b):(∀ v ∈ b.BD,X3 b.AU.AZ v)/\JG b.BD:=MBA.1 g.LH.1
theorem Good.IAs {k:AA} {l:List Ah} {b:Ap} (g:Good k l b):(∀ s ∈ b.BP,1<=s.fId/\s.fId<=b.CW)/\AscS b.BP:=NBA.1 g.MX.2
theorem ZBp {b:Bo} {y:Af} (hb:G9 b=true) (hc:b.fCount<10000) (hy:Ar9 y=true) (h8:b.AZ.length<8) (hid:y.fId=b.BM+1):(RZ b (Nw y)).2=true:=by have hn:=(EBJ (x:=y) (G7.1 hb).2.2.2.2.2.2 (by omega)).2;grind [Ug,RZ,Nw,XBO]
theorem FBP {b:Bo} {x y:Af} (hb:G9 b=true) (hc:b.fCount<10000) (hy:Ar9 y=true) (hx:Aqg b.AZ y.fId=some x) (hg:grown x y=true):(RZ b (Nw y)).2=true:=by grind [Ug,RZ,Nw,XBO]
theorem AhA {b:Bo} {x:Af} (hb:G9 b=true) (hc:b.fCount<10000) (hx:Aqg b.AZ x.fId=some x) (hok:Ar9 x=true):(RZ b (fU x.fId)).2=true:=by
 obtain ⟨_,_,i1,i2,_⟩:=MZ hok
 grind [ArP,fU,Aqo,AwP,Ar0,RZ]
theorem BBq {b:Bo} (hb:G9 b=true) (hc:b.fCount<10000) (w:AA):(RZ b (Gf w)).2=true:=by rw [RZ,hb,xJ,D6 (by omega:¬ b.fCount>=10000)];rfl
def cO (x:Af):Af:=⟨1,x.Aj,x.CY,x.CX,x.Gw,x.GH,x.fValue,x.fNext⟩
theorem CBq {b:Ap} {c:CV} {x:Af} (hl:0<=b.AU.BM/\b.AU.BM<1000) (h:Ar9 (cO x)=true):Ar9 (newX b c x)=true:=by have h1:Ark (b.AU.BM+1) 1 1000=true:=Aqo.2 (by omega);rw [Ar9] at h ⊢;rw [show Ark (newX b c x).fId 1 1000=true from h1];exact h
theorem GBP (x:Int) (h f s w:Bool) (k:Int) (hk:k=1/\s=false\/k=2/\w=false) (d:AA) (hd:d.size=32):Ar9 (cO ⟨x,k,h,f,s,w,d,0⟩)=true:=by
 rw [Ar9,cO];dsimp only;rw [hd];rcases hk with ⟨rfl,rfl⟩ | ⟨rfl,rfl⟩
 all_goals rfl
theorem DBq {kind:Int} {d:AA} (h:(defaults kind d).2=true):Ar9 (cO (defaults kind d).1)=true:=by
 rw [defaults] at h ⊢;by_cases h1:kind=1;·grind [GBP,Qh]
 ·rw [beq_eq_false_iff_ne.2 h1,Aq] at h ⊢;by_cases h2:kind=2;·grind [GBP,Qh]
  ·rw [beq_eq_false_iff_ne.2 h2,Aq] at h ⊢;by_cases h3:kind=3
   ·subst h3;rw [show ((3:Int) == 3)=true from rfl,Ar] at h ⊢;by_cases hz:(d.size:Int)<=100;·rw [Ba hz,Ar];rw [Ar9,cO];dsimp only;rw [Ba hz];rfl
    simp_all
   grind
theorem EBq {x:Af} (h:Ar9 x=true):Ar9 (cO (MBO x))=true:=by
 rw [Ar9] at h ⊢;simp only [Bool.and_eq_true] at h;obtain ⟨⟨⟨⟨⟨_,h2⟩,_⟩,_⟩,h5⟩,h6⟩:=h
 show (Ark 1 1 1000 && Ark x.Aj 1 3 && Ark 0 0 16 && ((x.Aj == 2) || (((0:Int) == 0) && !false)) && ((x.Aj == 1) || !x.GH) && (bif x.Aj == 3 then decide ((x.fValue.size:Int)<=100) else (x.fValue.size:Int) == 32))=true;grind [Ark]
theorem FBq {t:AA} (h:t.size<=140737488351232) (hr:(bW t).2=true):Ar9 (bW t).1=true:=by
 rcases (PBB h).2.2 with ⟨_,h2⟩ | h2
 all_goals simp_all [VA9]
theorem HBP {x:Af} {n:Int} (h:x.fNext<=n) (hi fi:Bool) (h1:(hi || !x.CY)=true) (h2:(fi || !x.CX)=true):grown x ⟨x.fId,x.Aj,hi,fi,x.Gw,x.GH,x.fValue,n⟩=true:=by simp_all [grown]
structure IBP (b:Ap) (c:CV) (code:Int) (r:Ah):Prop where
 num:r.DR<=9223372036854775807
 ent:(RZ b.AU r).2=true
 gone:r.Aj=4->c.Au=9/\r.DR=c.Ag/\code=0
 code:code≠0->r.Aj=2
def yX (b:Ap) (c:CV) (p:PT):Prop:=p.1=[]\/∃ r,p.1=[r]/\IBP b c p.2.1 r
theorem ArJ {b:Ap} {c:CV} {n:Int}:yX b c (KX n):=.inl rfl
theorem JBP {k:AA} {l:List Ah} {b:Ap} {c:CV} {x:Af} {ok:Bool} (g:Good k l b) (h:ok=true->Ar9 (cO x)=true):yX b c (Xg b c x ok):=by
 rw [Xg];cases ok;·exact ArJ
 rw [DN,Aq];have hl:=g.pb.last;have hn:=g.cnt;have h50:=g.len.2;by_cases h8:(b.AU.AZ.length:Int)>=8;·simp_all [ArJ]
 by_cases h1:b.AU.BM>=1000;·simp_all [ArJ]
 ·rw [D6 h8,D6 h1];exact .inr ⟨_,rfl,by show (0:Int)<=_;omega,ZBp g.ArF (by omega) (CBq (by omega) (h rfl)) (by omega) rfl,fun h=>absurd h (by show ¬ (3:Int)=4;decide),fun h=>absurd rfl h⟩
theorem Good.thing {k:AA} {l:List Ah} {b:Ap} (g:Good k l b) {x:Af} (hx:x ∈ b.AU.AZ):Ar9 x=true:=(AqL (G7.1 g.ArF).2.2.2.2.2.2 x hx).2.2
theorem GBq {tk:AA->AA×Bool} {k:AA} {l:List Ah} {b:Ap} {c:CV} {x:Af} (g:Good k l b) (hx:Aqg b.AU.AZ c.Ag=some x):yX b c (VW tk b c x):=by
 obtain ⟨e1,e2⟩:=Aq0 hx
 have hok:=g.thing e2;have hx':Aqg b.AU.AZ x.fId=some x:=by simp_all
 have hn:=g.cnt;have h50:=g.len.2;obtain ⟨_,_,_,_,n0,n1,_⟩:=MZ hok
 rw [VW];cases c.Au == 6
 ·cases c.Au == 5
  ·cases c.Au == 10
   ·cases c.Au == 12
    ·cases c.Au == 8
     ·cases c.Au == 7
      ·cases h9:c.Au == 9;·exact ArJ
       ·obtain ⟨i1,i2⟩:=(MZ hok).2.2
        exact .inr ⟨_,rfl,by show x.fId<=_;omega,AhA g.ArF (by omega) hx' hok,fun _=>⟨beq_iff_eq.1 h9,e1,rfl⟩,fun h=>absurd rfl h⟩
      ·exact .inl rfl
     ·rw [Ar];cases hc:(AqT x c.CY c.CX).2;·exact ArJ
      ·rw [AqT] at hc ⊢;cases hq:Ar9 x && ((c.CY || !x.CY) && (c.CX || !x.CX));·grind
       ·simp only [Bool.and_eq_true] at hq;have hy:Ar9 ⟨x.fId,x.Aj,c.CY,c.CX,x.Gw,x.GH,x.fValue,x.fNext⟩=true:=hok;exact .inr ⟨_,rfl,by show (0:Int)<=_;omega,FBP g.ArF (by omega) hy hx' (HBP (Int.le_refl _) _ _ hq.2.1 hq.2.2),fun h=>absurd h (by show ¬ (3:Int)=4;decide),fun h=>absurd rfl h⟩
    ·rw [Ar];cases JM x 4;·exact ArJ
     ·rw [Ar];cases (tk (O7 x.fValue)).2;·exact ArJ
      ·exact .inl rfl
   ·rw [Ar];cases JM x 2;·exact ArJ
    ·exact .inl rfl
  ·rw [Ar];cases hm:JM x 3;·exact ArJ
   ·obtain ⟨_,h2,h3⟩:=EAs hm
    rw [Ar,XO];by_cases h16:Arx b x>=16;·simp_all [ArJ]
    ·rw [D6 h16,Aq];cases Arx b x != x.fNext
     ·have hnx:x.fNext<=ite (16<x.fNext+3) 16 (x.fNext+3)/\ite (16<x.fNext+3) 16 (x.fNext+3)<=16:=by omega
      have hy:Ar9 (O3 x)=true:=by grind [O3,Aqo,Ar9]
      exact .inr ⟨_,rfl,by show (0:Int)<=_;omega,FBP g.ArF (by omega) hy hx' (HBP hnx.1 _ _ (by simp) (by simp)),fun h=>absurd h (by show ¬ (3:Int)=4;decide),fun h=>absurd rfl h⟩
     ·exact .inl rfl
 ·rw [Ar];cases JM x 1;·exact ArJ
  ·exact .inl rfl
theorem XP {tk:AA->AA×Bool} {k:AA} {l:List Ah} {b:Ap} {c:CV} (g:Good k l b):yX b c (AsA tk b c):=by
 have hn:=g.cnt;have h50:=g.len.2;obtain ⟨t1,t2⟩:=(G7.1 g.ArF).2.2.1
 rw [AsA];cases c.Au == 1
 ·rw [Aq];by_cases ha:Ar8 b c.EJ<0;·simp_all [ArJ]
  rw [D6 ha,Aq];cases c.Au == 13
  ·rw [Aq];cases c.Au == 2
   ·rw [Aq];cases (b.BP.getD (Ar8 b c.EJ).toNat ⟨0,false⟩).QW;·exact ArJ
    rw [DN,Aq];cases c.Au == 3
    ·rw [Aq];cases c.Au == 4
     ·rw [Aq];cases c.Au == 11;·grind [ArJ,GBq]
      ·refine JBP g fun h=>EBq (FBq (by grind [QBB]) ?_)
       rw [Bool.and_eq_true] at h;exact h.2
     ·exact JBP g DBq
    ·rw [Ar];cases decide ((c.fText.size:Int) > 20);·exact .inr ⟨_,rfl,by show (0:Int)<=_;omega,BBq g.ArF (by omega) _,fun h=>absurd h (by show ¬ (1:Int)=4;decide),fun h=>absurd rfl h⟩
     simp [ArJ]
   ·rw [Ar,iE];have go:∀ n:Int,0<=n/\n<=3->∀ code,IBP b c code (yV n):=fun n h code=>⟨by show n<=_;omega,by rw [XBp g.ArF (by omega) h],fun h=>absurd h (by show ¬ (2:Int)=4;decide),fun _=>rfl⟩
    by_cases h3:b.AU.DU>=3;·simp_all [ArJ]
    rw [D6 h3,Aq];cases (EK c.fText).toList == b.AU.Bv.toList;·exact .inr ⟨_,rfl,go _ (by omega) _⟩
    ·cases b.AU.DU == 0;·exact .inr ⟨_,rfl,go 0 (by omega) _⟩
     ·exact .inl rfl
  ·exact .inl rfl
 ·rw [Ar];cases decide ((b.BP.length:Int)>=3) <;> cases decide (b.CW>=1000) <;> first | exact ArJ | exact .inl rfl
theorem KBP {b:Ap} {c:CV} {code leaf:Int} (h:Uy b) (hS:AscS b.BP) (hV:JG b.BD) (hlf:leaf<=1000):LU b c code leaf=some (Ii b c code leaf):=by
 have hs:=h.s;have ht:=h.t;have hl:=h.l;have ho:=h.o;cases hc:code != 0
 ·obtain rfl:code=0:=by rw [bne_eq_false_iff_eq] at hc;exact hc
  have tail:∀ m p,SH b.AU c.Ag=some p->(c.Au == 1)=false->(c.Au == 13)=false\/Ar8 b c.EJ<0->(c.Au == 2)=false\/Ar8 b c.EJ<0->cZ (m+1+1) (.c0 leaf p.2 b c ⟨#[]⟩ false ⟨#[]⟩ 0 0 ⟨#[]⟩ 0 0 b.BO b.CZ b.AU.Bv b.AU.DU b.AU.BM b.AU.Dh b.AU.fCount b.CW p.1 [] [] [] [] b.Bc.Ak b.AU.AZ b.BP b.BD)=some (bif c.Au == 5 then VU b c leaf else bif c.Au == 9 then Ar4 b (Rn b.BD c.Ag) else b):=by
   intro m p hp _ _ _;have hp0:=Xb (b:=b.AU) (t:=c.Ag) (by omega);rw [hp] at hp0;injection hp0 with hp0
   subst hp0;have last:cZ (m+1) (.c1 b c ⟨#[]⟩ false ⟨#[]⟩ 0 0 ⟨#[]⟩ 0 0 b.BO b.CZ b.AU.Bv b.AU.DU b.AU.BM b.AU.Dh b.AU.fCount b.CW [] [] [] [] b.Bc.Ak b.AU.AZ b.BP b.BD)=some (bif c.Au == 9 then Ar4 b (Rn b.BD c.Ag) else b):=by
    rw [cZ];simp only [FAp,mk];cases c.Au == 9;·rfl
    ·rw [Ar,Ar,UBA (by omega),AP,<-SBO c.Ag hV,atV];cases hp:Aqi b.BD c.Ag 0 with
     | none=>rfl
     | some j=>
      have:=(fP hp).2;have hw:=Fq (i:=j) (by omega);have e2:(b.BD.drop (j+1)).take (b.BD.length - (j+1))=b.BD.drop (j+1):=List.take_of_length_le (by rw [List.length_drop];omega);dsimp only;rw [hw,BR,BR,e2,Ep (by omega),GX (by omega),GX (by omega),GX (by rw [List.length_drop];omega),Nat.sub_zero];rfl
   rw [cZ];simp only [FAp,mk,last];cases h5:c.Au == 5;·rfl
   ·have h9:(c.Au == 9)=false:=by rw [beq_iff_eq] at h5;rw [h5];rfl
    rw [h9,Ar,Ar,VU];cases Aqg b.AU.AZ c.Ag with
    | none=>rfl
    | some x=>
     dsimp only;rw [Ar];by_cases g1:leaf>=0;·rw [A8 (by omega) (by omega),show (nP ⟨b.BO,b.CZ,⟨b.Bc.Ak⟩,⟨b.AU.Bv,b.AU.DU,b.AU.AZ,b.AU.BM,b.AU.Dh,b.AU.fCount⟩,b.BP,b.BD,b.CW⟩ x.fId (leaf+1))=_ from PBp (b:=b) (by omega),YBL _ _ hV,Ba g1];cases x.Aj == 2 <;> cases decide (leaf<x.fNext) <;> rfl
     ·rw [D6 g1];cases x.Aj == 2 <;> rfl
  obtain ⟨m,hm⟩:∃ m,AY=m+1+1:=⟨AY - 2,rfl⟩
  rw [Ii,BF (by rfl)];cases h1:c.Au == 1
  ·rw [Aq];have ent:(c.Au == 13)=false\/Ar8 b c.EJ<0->(c.Au == 2)=false\/Ar8 b c.EJ<0->LU b c 0 leaf=some (bif c.Au == 5 then VU b c leaf else bif c.Au == 9 then Ar4 b (Rn b.BD c.Ag) else b):=by
    intro a1 a2;obtain ⟨p,hp⟩:∃ p,SH b.AU c.Ag=some p:=⟨_,Xb (by omega)⟩
    rw [LU,bg,mk,h.copy,AP,BF (by rfl),sN (by omega),AP,hp,AP,h1,Aq,hm,tail m p hp h1 a1 a2];rcases a1 with a1 | a1
    ·rw [a1,Aq];rcases a2 with a2 | a2
     ·rw [a2,Aq]
     ·rw [D6 (by omega:¬ Ar8 b c.EJ>=0),Aq];cases c.Au == 2 <;> rfl
    ·rw [D6 (by omega:¬ Ar8 b c.EJ>=0),Aq,Aq];cases c.Au == 13 <;> cases c.Au == 2 <;> rfl
   cases h13:c.Au == 13
   ·rw [Aq];cases h2:c.Au == 2;·rw [Aq];exact ent (.inl h13) (.inl h2)
    ·rw [Ar,<-RBO c.EJ hS];cases hp:Jd b.BP c.EJ 0 with
     | none=>
      have hat:Ar8 b c.EJ = -1:=by rw [Ar8,hp]
      rw [ent (.inl h13) (.inr (by omega)),show (c.Au == 5)=false by rw [beq_iff_eq] at h2;rw [h2];rfl,show (c.Au == 9)=false by rw [beq_iff_eq] at h2;rw [h2];rfl];rfl
     | some j=>
      have hlt:=(DAr hp).2;exact OBp h (beq_iff_eq.1 h2) (by rw [Ar8,hp]) (by omega)
   ·rw [Ar,<-QBO c.EJ hS];cases hp:Jd b.BP c.EJ 0 with
    | none=>
     have hat:Ar8 b c.EJ = -1:=by rw [Ar8,hp]
     have e:=beq_iff_eq.1 h13;rw [ent (.inr (by omega)) (.inr (by omega)),show (c.Au == 5)=false by rw [e];rfl,show (c.Au == 9)=false by rw [e];rfl];rfl
    | some j=>
     have hlt:=(DAr hp).2;exact QBp h (beq_iff_eq.1 h13) (by rw [Ar8,hp]) (by omega)
  ·exact NBp h (beq_iff_eq.1 h1)
 ·rw [Ii,hc];exact PBO h hc
theorem Good.LBP {k:AA} {l:List Ah} {b:Ap} (g:Good k l b) {S:List EG} (hS:S.length<=3) (h1:∀ s ∈ S,1<=s.fId/\s.fId<=b.CW) (h2:AscS S):Good k l (kS b S):=
 g.BBP hS ((NBA (b:=kS b S)).2 ⟨h1,h2⟩) g.opn
theorem Good.HBq {k:AA} {l:List Ah} {b:Ap} (g:Good k l b) {V:List CS} (hV:V.length<=8) (hs:Va (Ar4 b V)=true):Good k l (Ar4 b V):=⟨g.H6,g.key,g.up,g.disk,g.len,g.book,⟨g.MX.1,(OBL (b:=b) (c:=Ar4 b V) rfl rfl _ _).trans g.MX.2⟩,g.opn,⟨hs,hV⟩⟩
theorem Good.MBP {k:AA} {l:List Ah} {b:Ap} (g:Good k l b) {V:List CS} (h1:∀ v ∈ V,X3 b.AU.AZ v) (h2:JG V):Good k l (Ar4 b V):=by
 have hb:=G7.1 g.ArF;have hf:=XBL hb.2.2.2.2.2.2 h2 fun v hv=>by
  obtain ⟨x,hx,_⟩:=h1 v hv
  exact ⟨x,(Aq0 hx).2,(Aq0 hx).1⟩
 exact g.HBq (by omega) ((MBA (b:=Ar4 b V)).2 ⟨h1,h2⟩)
theorem NBP {k:AA} {l:List Ah} {b:Ap} {c:CV} {code leaf:Int} (g:Good k l b) (ho:code=0->c.Au=1->b.BP.length<3/\b.CW<1000):Good k l (Ii b c code leaf):=by
 obtain ⟨v1,v2⟩:=g.lives
 obtain ⟨s1,s2⟩:=g.IAs
 have hs:=g.MX.1;rw [Ii];cases hc:code != 0
 ·rw [Aq];have hc:code=0:=by simp_all
  cases h1:c.Au == 1
  ·rw [Aq];cases c.Au == 13
   ·rw [Aq];cases c.Au == 2
    ·rw [Aq];cases c.Au == 5
     ·rw [Aq];cases c.Au == 9;·exact g
      ·exact g.MBP (fun v hv=>v1 v (List.mem_filter.1 hv).1) (v2.filter _)
     ·rw [Ar,VU];cases hx:Aqg b.AU.AZ c.Ag with
      | none=>exact g
      | some x=>
       dsimp only;cases hq:x.Aj == 2 && (decide (leaf>=0) && decide (leaf<x.fNext));·exact g
       ·simp only [Bool.and_eq_true,decide_eq_true_eq,beq_iff_eq] at hq;refine g.MBP (fun v hv=>?_) (fQ v2);rcases rP v2 v hv with rfl | ⟨e,_⟩
        ·exact ⟨x,by rw [(Aq0 hx).1];exact hx,hq.1,by grind,by grind⟩
        simp_all
    ·refine g.LBP (by simp_all [xC]) (fun s h=>?_) ?_
     ·obtain ⟨t,ht,rfl⟩:=List.mem_map.1 h
      simp_all
     ·exact List.pairwise_map.2 s2
   ·exact g.LBP (Nat.le_trans (List.length_filter_le _ _) hs) (fun s h=>s1 s (List.mem_filter.1 h).1) (s2.filter _)
  ·obtain ⟨o1,o2⟩:=ho hc (beq_iff_eq.1 h1)
   have h3:=g.opn;refine g.BBP (S:=b.BP++[⟨b.CW+1,false⟩]) (o:=b.CW+1) (by grind) ((NBA (b:=⟨b.BO,b.CZ,b.Bc,b.AU,b.BP++[⟨b.CW+1,false⟩],b.BD,b.CW+1⟩)).2 ⟨fun s h=>?_,?_⟩) (by omega);all_goals grind
 ·exact g
theorem IBq {tk:AA->AA×Bool} {b:Ap} {c:CV} (h:(AsA tk b c).2.1=0) (ho:c.Au=1):b.BP.length<3/\b.CW<1000:=by
 rw [AsA,ho,show ((1:Int) == 1)=true from rfl,Ar] at h;by_cases h1:(b.BP.length:Int)>=3;·rw [Ba h1] at h;exact absurd h (by show ¬ (1:Int)=0;decide)
 by_cases h2:b.CW>=1000;·rw [D6 h1,Ba h2] at h;exact absurd h (by show ¬ (1:Int)=0;decide)
 ·omega
noncomputable def Ny (b:Ap) (c:CV) (p:PT):Ap:=Ii (match p.1 with | []=>b | r::_=>Gt b r) c p.2.1 (AsP b c.Ag)
theorem OBP {tk:AA->AA×Bool} {k:AA} {l:List Ah} {b:Ap} {c:CV} (g:Good k l b) (hl:l.length<50):Good k (l++(AsA tk b c).1) (Ny b c (AsA tk b c)):=by
 have hop:=IBq (tk:=tk) (b:=b) (c:=c);rw [Ny];generalize hp:AsA tk b c=p at hop;have hk:yX b c p:=by grind [XP]
 rcases hk with h0 | ⟨r,h1,h2⟩
 ·simp_all [NBP]
 ·rw [h1];dsimp only;obtain ⟨v1,v2⟩:=g.lives
  have e:=(HAs g hl h2.ent).2;by_cases h4:r.Aj=4
  ·obtain ⟨o1,o2,o3⟩:=h2.gone h4
   rw [Ii,o1,o3];refine e (Rn b.BD c.Ag) (fun v hv=>?_) (v2.filter _);obtain ⟨q1,q2⟩:=List.mem_filter.1 hv
   rcases EBP h2.ent (v1 v q1) with ⟨_,q3⟩ | q3
   all_goals simp_all
  ·refine NBP (e b.BD (fun v hv=>?_) v2) hop;rcases EBP h2.ent (v1 v hv) with ⟨q3,_⟩ | q3
   all_goals omega
structure Dec (b:Ap):Prop where
 last:Xc (b.AU.BM+1)=some (Tj (b.AU.BM+1))
 opn:Xc (b.CW+1)=some (Tj (b.CW+1))
theorem PBP {b:Ap} {c:CV} {x:Af} {ok:Bool} (h:PB b) (hd:Dec b):yY b c x ok=some (Xg b c x ok):=by have hl:=h.last;rw [yY,AOS,mk,Xg,newX,A8 (by omega) (by omega),hd.last];simp only [O8 (n:=6) (by decide),O8 (n:=1) (by decide),AP];cases ok <;> cases decide ((b.AU.AZ.length:Int)>=8) <;> cases decide (b.AU.BM>=1000) <;> cases x.CY <;> cases x.CX <;> rfl
theorem JBq {b:Ap} {c:CV} (h:PB b) (hd:Dec b) (hc:c.fText.size<=1000):IAn b c=some (CAs b c):=by have hl:=h.last;have hz:=LBO (b.AU.BM+1);have h1:(⟨#[32]⟩:AA).size=1:=rfl;rw [IAn,BA4,mk,CAs,AEF,A8 (by omega) (by omega),hd.last];grind [PBn,PBP]
theorem QBP {b:Ap} (h:b.BO.size=32):yZ b=some (Aqe b):=by have h3:(⟨#[111,117,116]⟩:AA).size=3:=rfl;rw [yZ,CA4,mk,AL (by simp_all),Apw (by simp_all)];rfl
theorem RBP {s:AA} (h:s.size<=1000000000):yc s=some (ofBytes (QJ (bs s))):=by
 have h1:=Apv (n:=(s.size:Int)) (by omega);have hl:=bs_len s;have hz:(ofBytes (SN (s.size:Int))++s).size=(SN (s.size:Int)++bs s).length:=by simp_all [Dj]
 have hlen:(SN (s.size:Int)++bs s).length=(SN (s.size:Int)).length+s.size:=by simp_all
 rw [yc,DA4,mk,X6 (by omega),AP,AL (by grind),hz];have e:(AV (16 - (((SN (s.size:Int)++bs s).length:Int).tmod 16))).tmod 16=(((16 - (SN (s.size:Int)++bs s).length % 16) % 16:Nat):Int):=by grind [A8]
 rw [e,ZAp (by omega),AP,AL (by grind [Dj])];refine congrArg some (Aq3 ?_);rw [Fa,Fa,Avo (Uk (by omega)),Avo (fun x hx=>by grind),Avo (WBA (Jj s)),QJ,hl]
theorem KBq {text:AA} {a:Nat} (hs:text.size<=140737488351232) (ha:a<=text.size):WC text a=some (QI text a):=by
 have hx:=tJ hs ha;rw [WC,yg,mk,QBK hs ha,AP,QI];rcases hx with hx | ⟨v,hx,h0,h1,hA⟩
 ·rw [hx];rfl
 grind [A8,SN]
theorem LBq {k t:AA} (hk:k.size<=900000000) (ht:t.size<=800000000):JAn k t=some (Qw k t):=by
 have hz:=tH k t 0;have hr0:=KBq (text:=(EM k 0 t).1) (a:=0) (by omega) (DJ _);rw [show ((0:Nat):Int)=0 from rfl] at hr0;rw [JAn,EA4,mk,IBM hk ht,AP,hr0,AP,Qw];cases (EM k 0 t).2;·rfl
 ·rw [BF (by rfl)];cases (QI (EM k 0 t).1 0).2.2;·rfl
  ·rw [BF (by rfl)];by_cases h:400<(QI (EM k 0 t).1 0).1.size;·grind
   ·have e:decide (((QI (EM k 0 t).1 0).1.size:Int) > 400)=false:=D6 (by omega);rw [e,Aq,RBP (by omega),AP,Vd,Avo (WBA (Jj _))];grind
theorem MBq (x:Af):FA4 x=some ⟨0,x.Aj,x.CY,x.CX,false,x.GH,x.fValue,0⟩:=rfl
theorem NBq {b:Ap} {c:CV} (h:PB b) (hd:Dec b) (hc:c.fText.size<=1000):KAn b c=some (tK b c):=by
 have hz:=QBB (Aqe b) c.fText;have hr:=(PBB (t:=(Qw (Aqe b) c.fText).1) (by omega)).1;have hk:(Aqe b).size<=900000000:=by simp [Aqe,Qh]
 rw [KAn,GA4,mk,tK,inX];simp only [QBP h.key,LBq hk (show c.fText.size<=800000000 by omega),hr,MBq,PBP h hd,AP];cases (Qw (Aqe b) c.fText).2 <;> rfl
theorem OBq {b:Ap} {c:CV} {x:Af} (h:PB b) (hc:c.fText.size<=1000) (hx:Aqg b.AU.AZ x.fId=some x) (hm:JM x 3=true):EAo b c x=some (XO b c x):=by
 obtain ⟨h1,h2,h3⟩:=EAs hm
 obtain ⟨_,_,_,_,n0,n1,_⟩:=MZ h1
 have hv:=ZM h1 (.inr h2);have ht:=h.things;have hl:=DAs h.LH hx n0;have CT:AsP b x.fId=Arx b x:=by simp_all [AsP]
 rw [EAo,HA5,mk,XO,VBA h.lln (by omega),AP,CT];by_cases h16:Arx b x>=16;·simp_all [O8]
 ·rw [D6 h16,Aq,Aq,FBo (by omega) (by omega) (by omega),AP,GBo (by omega),AP,A8 (n:=x.fNext+3) (by omega) (by omega)];cases Arx b x != x.fNext <;> rfl
theorem PBq {k s:AA} (hk:k.size<=900000000):FAo k s=some (iJ k s):=by rw [FAo,IA5,mk,iJ];grind [XBA,bs_len,RBP,TBO,Dj]
def Ur (g:Nat->Nat) (k:Nat):Nat->Nat
 | 0=>0
 | c+1=>Ur g k c+g (8*k+c)*2 ^ (8*c)
theorem XBB {g:Nat->Nat} (hg:∀ i,g i<256) (k:Nat):∀ c,Ur g k c<2 ^ (8*c)
 | 0=>Nat.two_pow_pos _
 | c+1=>by have h1:=XBB hg k c;have h2:=hg (8*k+c);have h3:(g (8*k+c)+1)*2 ^ (8*c)<=256*2 ^ (8*c):=Nat.mul_le_mul_right _ h2;grind [Ur]
theorem QBq (g:Nat->Nat) (k:Nat):Ur g k 8=Ary g k:=by rw [MAr];simp only [Ur,Nat.reduceMul,Nat.reducePow,Nat.add_zero,Nat.mul_one];omega
theorem RBq {s:AA} (h:s.size=200):GAo s=some (up (Qn (Aqj s) 25)):=by
 have hp:∀ i,i<=64->2 ^ i<=18446744073709551616:=fun i hi=>Nat.pow_le_pow_right (n:=2) (by decide) hi
 have c2:∀ k:Nat,(2:Int) ^ k=((2 ^ k:Nat):Int):=fun k=>by rfl
 have s1:=Qd (Lp:=ng) (st:=fun i o=>.c0 s (i:Int) (up (List.replicate 25 0)) (up o)) (f:=fun i o=>o.set (i / 8) (o.getD (i / 8) 0 ||| Aqj s i*2 ^ (8*(i % 8)))) (P:=fun i o=>o.length=25/\∀ k,k<25->o.getD k 0=Ur (Aqj s) k (min 8 (i - 8*k))) (n:=200) 1 (fun m i o hi ho=>by
  obtain ⟨hol,hok⟩:=ho
  have hd:i / 8<25:=by omega
  have hv:=hok (i / 8) hd;rw [show min 8 (i - 8*(i / 8))=i % 8 by omega] at hv;have hb:=VY s i;have hpl:=XBB (VY s) (i / 8) (i % 8);have hor:Ur (Aqj s) (i / 8) (i % 8) ||| Aqj s i*2 ^ (8*(i % 8))=Ur (Aqj s) (i / 8) (i % 8+1):=by have:=Nat.shiftLeft_add_eq_or_of_lt hpl (Aqj s i);grind [Nat.shiftLeft_eq,Ur]
  have hlt:=XBB (VY s) (i / 8) (i % 8+1);have h64:=hp (8*(i % 8+1)) (by omega);have hbp:Aqj s i*2 ^ (8*(i % 8))<18446744073709551616:=by grind [Ur]
  refine ⟨?_,Zu hol,fun k hk=>?_⟩
  ·have w1:AV ((i:Int)+1)=((i+1:Nat):Int):=wn (n:=i+1) (by omega);have e1:AV ((i:Int).tdiv 8)=((i / 8:Nat):Int):=wn (n:=i / 8) (by omega);have e2:(i:Int).tmod 8=((i % 8:Nat):Int):=rfl;have e3:AV (8*((i % 8:Nat):Int))=((8*(i % 8):Nat):Int):=wn (n:=8*(i % 8)) (by omega);have e4:Min.min (8*(i % 8)) (IntKind.bits IntKind.u64)=8*(i % 8):=Nat.min_eq_left (by show 8*(i % 8)<=64;omega);have e5:wu64 ((Aqj s i:Nat):Int)=((Aqj s i:Nat):Int):=Ou (by omega);have e6:wu64 (((Aqj s i:Nat):Int)*((2 ^ (8*(i % 8)):Nat):Int))=((Aqj s i*2 ^ (8*(i % 8)):Nat):Int):=Ou (n:=Aqj s i*2 ^ (8*(i % 8))) hbp;have hb2:Nat.beq 25 (up o).length=true:=by simp_all [Dq]
   rw [ng];simp only [KA5,mk,w1,e1,e2,e3,BR,e4,c2,P9,e5,e6,GN];rw [hv,o64 (Nat.lt_of_lt_of_le hpl (hp _ (by omega))) hbp,AsH,AL (by grind),hb2,Awg (l:=o) (by omega),AL (a:=_) (by rfl),AL (by rfl),AL (by grind),AL (by rfl)];rfl
  grind)
 obtain ⟨m,hm⟩:∃ m,AY=m+1+200*1:=⟨AY - 201,by rfl⟩
 rw [GAo,JA5,mk,hm]
 obtain ⟨a1,a2,a3⟩:=s1 200 0 (m+1) (List.replicate 25 0) (by omega) ⟨rfl,fun k hk=>by
  rw [show min 8 (0 - 8*k)=0 by omega,List.getD_eq_getElem?_getD,List.getElem?_replicate];split <;> rfl⟩
 refine a1.trans ?_;have hfin:Ib (fun i o=>o.set (i / 8) (o.getD (i / 8) 0 ||| Aqj s i*2 ^ (8*(i % 8)))) 200 0 (List.replicate 25 0)=Qn (Aqj s) 25:=by
  refine OAr (by assumption) fun k hk=>?_
  rw [Qn,List.length_map,List.length_range] at hk;rw [a3 k hk,Qn,uY hk,<-QBq,show min 8 (200 - 8*k)=8 by omega]
 rw [hfin,ng];rfl
theorem SBP {x n:Nat} (hx:x<18446744073709551616) (hn:n<64):YI (x:Int) (n:Int)=some ((Je n x:Nat):Int):=by
 have e0:wu64 (((BitVec.toNat ((BitVec.ofInt (IntKind.bits IntKind.u64) (wu64 (n:Int))) &&& (BitVec.ofInt (IntKind.bits IntKind.u64) 63))):Nat):Int)=(n:Int):=by rw [Ou (n:=n) (by omega)];refine (n64 (a:=n) (b:=63) (by omega) (by decide)).trans ?_;rw [show (63:Nat)=2 ^ 6 - 1 from rfl,Nat.and_two_pow_sub_one_eq_mod,Nat.mod_eq_of_lt (by omega)]
 have e1:wu64 (64 - (n:Int))=((64 - n:Nat):Int):=by grind [Ou]
 have e2:Min.min (n:Int).toNat (IntKind.bits IntKind.u64)=n:=by rw [BR];exact Nat.min_eq_left (by show n<=64;omega)
 have e3:Min.min ((64 - n:Nat):Int).toNat (IntKind.bits IntKind.u64)=64 - n:=by rw [BR];exact Nat.min_eq_left (by show 64 - n<=64;omega)
 have c:∀ k:Nat,(2:Int) ^ k=((2 ^ k:Nat):Int):=fun k=>by rfl
 have e4:wu64 ((x:Int)*((2 ^ n:Nat):Int))=(((x*2 ^ n) % 18446744073709551616:Nat):Int):=ZBM (x*2 ^ n);have e5:Int.fdiv (x:Int) ((2 ^ (64 - n):Nat):Int)=((x / 2 ^ (64 - n):Nat):Int):=by grind
 rw [YI,LA5,mk,e0,e1,e2,e3,c,c,e4,e5,AL (by rfl),o64 (Nat.mod_lt _ (by decide)) (Nat.lt_of_le_of_lt (Nat.div_le_self _ _) hx),MBo hn hx]
theorem SBq (a:List Nat):Ib (fun i c=>c.set (i % 5) (c.getD (i % 5) 0 ^^^ a.getD i 0)) 25 0 [0,0,0,0,0]=(List.range 5).map (Ave a):=by
 have h:Ib (fun i c=>c.set (i % 5) (c.getD (i % 5) 0 ^^^ a.getD i 0)) 25 0 [0,0,0,0,0]=(List.range 5).map fun x=>((((0 ^^^ a.getD x 0) ^^^ a.getD (x+5) 0) ^^^ a.getD (x+10) 0) ^^^ a.getD (x+15) 0) ^^^ a.getD (x+20) 0:=by kernel_rfl
 rw [h];refine List.map_congr_left fun x _=>?_
 rw [Nat.zero_xor];rfl
theorem TBq {a:List Nat} (ha:Hg a):yh (up a)=some (up ((List.range 25).map (Art a))):=by
 obtain ⟨hl,hw⟩:=ha
 have w1:∀ i:Nat,i<30->AV ((i:Int)+1)=((i+1:Nat):Int):=fun i h=>wn (n:=i+1) (by omega)
 have hb:Nat.beq 25 (up a).length=true:=by simp_all [Dq]
 have s1:=Qd (Lp:=WG) (st:=fun i c=>.c0 (up a) (i:Int) (up a) (up (List.replicate 25 0)) (up c)) (f:=fun i c=>c.set (i % 5) (c.getD (i % 5) 0 ^^^ a.getD i 0)) (P:=fun _ c=>c.length=5/\MC c) (n:=25) 1 (fun m i c hi hc=>by
  refine ⟨?_,HBN hc.1,hc.2.set _ (xlt (hc.2.get _) (hw.get _))⟩;have e:(i:Int).tmod 5=((i % 5:Nat):Int):=rfl;have h5:i % 5<5:=Nat.mod_lt _ (by decide);have hcl:=hc.1;have hb5:Nat.beq 5 (up c).length=true:=by simp_all [Dq]
  rw [WG];simp only [yj,mk,w1 i (by omega),e,BR,GN];rw [AL (by grind),hb,Ar,AL (Awg (by omega)),hb5,Ar,AL (Awg (by omega)),Ar,Qu (hc.2.get _) (hw.get _),AsH];first | rfl | (rw [AL (Awg (by omega))]))
 have hc:((List.range 5).map (Ave a)).length=5:=by rfl
 have hb5:Nat.beq 5 (up ((List.range 5).map (Ave a))).length=true:=by rfl
 have s2:=Qd (Lp:=WG) (st:=fun i b=>.c1 (i:Int) (up b) (up (List.replicate 25 0)) (up ((List.range 5).map (Ave a)))) (f:=fun i b=>b.set i (Art a i)) (P:=fun i b=>b.length=25/\∀ k,i<=k->b.getD k 0=a.getD k 0) (n:=25) 1 (fun m i b hi hb=>by
  obtain ⟨hbl,hbk⟩:=hb
  refine ⟨?_,Zu hbl,fun k hk=>by grind⟩;have h5:i % 5<5:=Nat.mod_lt _ (by decide);have e:(i:Int).tmod 5=((i % 5:Nat):Int):=rfl;have e4:AV (((i % 5:Nat):Int)+4)=((i % 5+4:Nat):Int):=wn (n:=i % 5+4) (by omega);have e1:AV (((i % 5:Nat):Int)+1)=((i % 5+1:Nat):Int):=wn (n:=i % 5+1) (by omega);have e2:((i % 5+4:Nat):Int).tmod 5=(((i % 5+4) % 5:Nat):Int):=rfl;have e3:((i % 5+1:Nat):Int).tmod 5=(((i % 5+1) % 5:Nat):Int):=rfl;have h4:(i % 5+4) % 5<5:=Nat.mod_lt _ (by decide);have h1:(i % 5+1) % 5<5:=Nat.mod_lt _ (by decide);have FS:Nat.beq 25 (up b).length=true:=by simp_all [Dq]
  have hr:YI ((Ave a ((i % 5+1) % 5):Nat):Int) 1=some ((Je 1 (Ave a ((i % 5+1) % 5)):Nat):Int):=SBP (n:=1) (UU hw _) (by decide);have hv:a.getD i 0 ^^^ (Ave a ((i % 5+4) % 5) ^^^ Je 1 (Ave a ((i % 5+1) % 5)))=Art a i:=rfl;rw [WG];simp only [yj,mk,w1 i (by omega),e,e4,e1,e2,e3,BR,GN];rw [hbk i (Nat.le_refl _),uY h1,uY h4,hr,AP,Qu (UU hw _) (jB (by decide) (UU hw _)),Qu (hw.get _) (xlt (UU hw _) (jB (by decide) (UU hw _))),hv,AsH,AL (by grind),FS,hb5,Awg (l:=b) (by omega),Awg (l:=(List.range 5).map (Ave a)) (by omega),Awg (l:=(List.range 5).map (Ave a)) (by omega)];rfl)
 obtain ⟨m,hm⟩:∃ m,AY=m+1+25*1+1+25*1:=⟨AY - 52,rfl⟩
 rw [yh,MA5,mk,hm,hb,Ar];refine (s1 25 0 (m+1+25*1+1) [0,0,0,0,0] rfl ⟨rfl,EBN 5⟩).1.trans ?_;rw [SBq,WG];simp only [yj,mk];rw [BF (by rfl)];refine (s2 25 0 (m+1) a rfl ⟨hl,fun _ _=>rfl⟩).1.trans ?_;rw [rW hl,WG];rfl
theorem UBq {a:List Nat} (ha:Hg a):yt (up a)=some (up (nK fun n q=>Je n (a.getD q 0))):=by
 obtain ⟨hl,hw⟩:=ha
 have ww:∀ n:Nat,n<1000->AV (n:Int)=(n:Int):=fun n h=>wn (by omega)
 have hb:Nat.beq 25 (up a).length=true:=by simp_all [Dq]
 have s:=Qd (Lp:=ni) (st:=fun t (s:Nat×Nat×List Nat)=>.c0 (s.1:Int) (s.2.1:Int) (t:Int) (up a) (up (List.replicate 25 0)) (up s.2.2)) (f:=fun t s=>(s.2.1,(2*s.1+3*s.2.1) % 5,s.2.2.set (s.2.1+5*((2*s.1+3*s.2.1) % 5)) (Je ((t+1)*(t+2) / 2 % 64) (a.getD (s.1+5*s.2.1) 0)))) (P:=fun _ s=>s.1<5/\s.2.1<5/\s.2.2.length=25) (n:=24) 1 (fun m t s ht hs=>by
  obtain ⟨x,y,o⟩:=s
  obtain ⟨hx,hy,ho⟩:=hs
  dsimp only at hx hy ho ⊢;have hz:(2*x+3*y) % 5<5:=Nat.mod_lt _ (by decide);refine ⟨?_,hy,hz,Zu ho⟩;have hb2:Nat.beq 25 (up o).length=true:=by simp_all [Dq]
  have e1:AV (5*(y:Int))=((5*y:Nat):Int):=ww (5*y) (by omega);have e2:AV ((x:Int)+((5*y:Nat):Int))=((x+5*y:Nat):Int):=ww (x+5*y) (by omega);have e3:AV (2*(x:Int))=((2*x:Nat):Int):=ww (2*x) (by omega);have e4:AV (3*(y:Int))=((3*y:Nat):Int):=ww (3*y) (by omega);have e5:AV (((2*x:Nat):Int)+((3*y:Nat):Int))=((2*x+3*y:Nat):Int):=ww (2*x+3*y) (by omega);have e6:((2*x+3*y:Nat):Int).tmod 5=(((2*x+3*y) % 5:Nat):Int):=rfl;have e7:AV (5*(((2*x+3*y) % 5:Nat):Int))=((5*((2*x+3*y) % 5):Nat):Int):=ww (5*((2*x+3*y) % 5)) (by omega);have e8:AV ((y:Int)+((5*((2*x+3*y) % 5):Nat):Int))=((y+5*((2*x+3*y) % 5):Nat):Int):=ww (y+5*((2*x+3*y) % 5)) (by omega);have f1:AV ((t:Int)+1)=((t+1:Nat):Int):=ww (t+1) (by omega);have f2:AV ((t:Int)+2)=((t+2:Nat):Int):=ww (t+2) (by omega);have f3:AV (((t+1:Nat):Int)*((t+2:Nat):Int))=(((t+1)*(t+2):Nat):Int):=ww ((t+1)*(t+2)) (Nat.lt_of_le_of_lt (Nat.mul_le_mul (show t+1<=24 by omega) (show t+2<=25 by omega)) (by decide));have hq:(t+1)*(t+2) / 2<1000:=Nat.lt_of_le_of_lt (Nat.div_le_self _ _) (Nat.lt_of_le_of_lt (Nat.mul_le_mul (show t+1<=24 by omega) (show t+2<=25 by omega)) (by decide));have f4:(((t+1)*(t+2):Nat):Int).tdiv 2=(((t+1)*(t+2) / 2:Nat):Int):=rfl;have f5:AV (((t+1)*(t+2) / 2:Nat):Int)=(((t+1)*(t+2) / 2:Nat):Int):=ww _ hq;have f6:(((t+1)*(t+2) / 2:Nat):Int).tmod 64=(((t+1)*(t+2) / 2 % 64:Nat):Int):=rfl;rw [ni];simp only [OA5,mk,e1,e2,e3,e4,e5,e6,e7,e8,f1,f2,f3,f4,f5,f6,BR,GN];rw [SBP (hw.get _) (Nat.mod_lt _ (by decide)),AP,AsH,AL (by grind),hb,hb2,Awg (l:=a) (by omega),Awg (l:=o) (by omega)];rfl)
 obtain ⟨m,hm⟩:∃ m,AY=m+1+24*1:=⟨AY - 25,rfl⟩
 rw [yt,NA5,mk,hm,hb,Ar,AL (by simp_all [Dq]),show (0:Int).toNat=0 from rfl,GN];have h0:Je 0 (a.getD 0 0)=a.getD 0 0:=DBN (hw.get _);have e:=SBo (fun n q=>Je n (a.getD q 0));rw [h0] at e;refine (s 24 0 (m+1) (1,0,[a.getD 0 0,0,0,0,0,0,0,0,0,0,0,0,0,0,0,0,0,0,0,0,0,0,0,0,0]) rfl ⟨show 1<5 by decide,show 0<5 by decide,rfl⟩).1.trans ?_;rw [e,ni];rfl
theorem VBq {b:List Nat} (hb:Hg b):yu (up b)=some (up ((List.range 25).map (AsJ b))):=by
 have ww:∀ n:Nat,n<1000->AV (n:Int)=(n:Int):=fun n h=>wn (by omega)
 have hbl:=hb.1;have hb1:Nat.beq 25 (up b).length=true:=by simp_all [Dq]
 have si:∀ y:Nat,y<5->∀ (m:Nat) (o:List Nat),o.length=25->_:=fun y hy=>fun m o ho=>(Qd (Lp:=YJ) (st:=fun x o=>.c1 (y:Int) (y:Int) (x:Int) (up b) (up (List.replicate 25 0)) (up o)) (f:=fun x o=>o.set (x+5*y) (AsJ b (x+5*y))) (P:=fun _ o=>o.length=25) (n:=5) 1 (fun m x o hx ho=>by
  refine ⟨?_,Zu ho⟩;have e1:AV (5*(y:Int))=((5*y:Nat):Int):=ww (5*y) (by omega);have e2:AV ((x:Int)+((5*y:Nat):Int))=((x+5*y:Nat):Int):=ww (x+5*y) (by omega);have e3:AV ((x:Int)+1)=((x+1:Nat):Int):=ww (x+1) (by omega);have e4:AV ((x:Int)+2)=((x+2:Nat):Int):=ww (x+2) (by omega);have e5:((x+1:Nat):Int).tmod 5=(((x+1) % 5:Nat):Int):=rfl;have e6:((x+2:Nat):Int).tmod 5=(((x+2) % 5:Nat):Int):=rfl;have h1:(x+1) % 5<5:=Nat.mod_lt _ (by decide);have h2:(x+2) % 5<5:=Nat.mod_lt _ (by decide);have e7:AV ((((x+1) % 5:Nat):Int)+((5*y:Nat):Int))=(((x+1) % 5+5*y:Nat):Int):=ww ((x+1) % 5+5*y) (by omega);have e8:AV ((((x+2) % 5:Nat):Int)+((5*y:Nat):Int))=(((x+2) % 5+5*y:Nat):Int):=ww ((x+2) % 5+5*y) (by omega);have hv:b.getD (x+5*y) 0 ^^^ ((18446744073709551615 - b.getD ((x+1) % 5+5*y) 0) &&& b.getD ((x+2) % 5+5*y) 0)=AsJ b (x+5*y):=by rw [AsJ,show (x+5*y) % 5=x by omega,show (x+5*y) / 5=y by omega]
  have hb2:Nat.beq 25 (up o).length=true:=by simp_all [Dq]
  rw [YJ];simp only [HAo,mk,e1,e2,e3,e4,e5,e6,e7,e8,BR,GN,m64];rw [Qu (by decide) (hb.2.get _),KBo (hb.2.get _),n64 (by omega) (hb.2.get _),Qu (hb.2.get _) (nlt (by omega)),hv,AsH,AL (by grind),hb1,hb2,Awg (l:=b) (by omega),Awg (l:=b) (by omega),Awg (l:=b) (by omega),Awg (l:=o) (by omega)];rfl) 5 0 m o rfl ho)
 have s:=Qd (Lp:=YJ) (st:=fun y o=>.c0 (y:Int) (up b) (up (List.replicate 25 0)) (up o)) (f:=fun y o=>Ib (fun x o=>o.set (x+5*y) (AsJ b (x+5*y))) 5 0 o) (P:=fun _ o=>o.length=25) (n:=5) 7 (fun m y o hy ho=>by
  obtain ⟨i1,i2⟩:=si y hy (m+1) o ho
  refine ⟨?_,i2⟩;have w1:AV ((y:Int)+1)=((y+1:Nat):Int):=ww (y+1) (by omega);grind [YJ,HAo])
 obtain ⟨m,hm⟩:∃ m,AY=m+1+5*7:=⟨AY - 36,rfl⟩
 rw [yu,PA5,mk,hm];refine (s 5 0 (m+1) (List.replicate 25 0) rfl rfl).1.trans ?_;rw [QBo,YJ];rfl
theorem WBq:∀ {i:Nat},i<24->IAo (i:Int)=some ((UM.getD i 0:Nat):Int)
 | 0,_=>by kernel_rfl
 | 1,_=>by kernel_rfl
 | 2,_=>by kernel_rfl
 | 3,_=>by kernel_rfl
 | 4,_=>by kernel_rfl
 | 5,_=>by kernel_rfl
 | 6,_=>by kernel_rfl
 | 7,_=>by kernel_rfl
 | 8,_=>by kernel_rfl
 | 9,_=>by kernel_rfl
 | 10,_=>by kernel_rfl
 | 11,_=>by kernel_rfl
 | 12,_=>by kernel_rfl
 | 13,_=>by kernel_rfl
 | 14,_=>by kernel_rfl
 | 15,_=>by kernel_rfl
 | 16,_=>by kernel_rfl
 | 17,_=>by kernel_rfl
 | 18,_=>by kernel_rfl
 | 19,_=>by kernel_rfl
 | 20,_=>by kernel_rfl
 | 21,_=>by kernel_rfl
 | 22,_=>by kernel_rfl
 | 23,_=>by kernel_rfl
 | i+24,h=>absurd h (by omega)
theorem XBq (a:List Nat):(nK fun n q=>Je n (((List.range 25).map (Art a)).getD q 0))=AqP a:=by rfl
theorem YBq {a:List Nat} (ha:Hg a):JAo (up a)=some (up (uZ a)):=by
 have s:=Qd (Lp:=yw) (st:=fun i a=>.c0 (i:Int) (up a) (up (List.replicate 25 0))) (f:=fun i a=>jC a (UM.getD i 0)) (P:=fun _ a=>Hg a) (n:=24) 1 (fun m i a hi ha=>by
  refine ⟨?_,CBB ha.2 (ug i)⟩;have w1:AV ((i:Int)+1)=((i+1:Nat):Int):=wn (n:=i+1) (by omega);have hb:Nat.beq 25 (up a).length=true:=by rw [Dq,ha.1];rfl
  have hth:Hg ((List.range 25).map (Art a)):=⟨by rfl,fun x hx=>by
   rw [List.mem_map] at hx;obtain ⟨p,_,rfl⟩:=hx
   exact AK1 ha.2 _⟩
  have hch:=BBB (LAr ha.2).2;have hb2:Nat.beq 25 (up ((List.range 25).map (AsJ (AqP a)))).length=true:=by rfl
  have hb3:Nat.beq (up ((List.range 25).map (AsJ (AqP a)))).length (up a).length=true:=by assumption
  rw [yw];simp only [UA5,mk,w1];rw [AL (by grind),hb,Ar,TBq ha,AP,UBq hth,AP,XBq,VBq (LAr ha.2),AP,hb3,hb2,WBq (by omega),AP,show (0:Int).toNat=0 from rfl,GN,TBo rfl rfl (hch.2.get _) (ug i),AsH,show (decide ((0:Int)<=(0:Int)) && decide (0<((up ((List.range 25).map (AsJ (AqP a)))).length:Int)))=true from Awg (i:=0) (by simp)];rfl)
 obtain ⟨m,hm⟩:∃ m,AY=m+1+24*1:=⟨AY - 25,rfl⟩
 rw [JAo,TA5,mk,hm];refine (s 24 0 (m+1) a rfl ha).1.trans ?_;rfl
theorem ZBq {a:List Nat} (ha:Hg a):KAo (up a)=some (ofBytes (up (OZ a))):=by
 have c2:∀ k:Nat,(2:Int) ^ k=((2 ^ k:Nat):Int):=fun k=>by rfl
 have hb:Nat.beq 25 (up a).length=true:=by rw [Dq,ha.1];rfl
 have hal:=ha.1
 have s1:=Qd (Lp:=ny) (st:=fun i o=>.c0 ((200:Nat):Int) (i:Int) (up a) (up o)) (f:=fun i o=>o.set i (Ul a i)) (P:=fun _ o=>o.length=200) (n:=200) 1 (fun m i o hi ho=>by
  refine ⟨?_,by simp_all⟩;have w1:AV ((i:Int)+1)=((i+1:Nat):Int):=wn (n:=i+1) (by omega);have e1:AV ((i:Int).tdiv 8)=((i / 8:Nat):Int):=wn (n:=i / 8) (by omega);have e2:(i:Int).tmod 8=((i % 8:Nat):Int):=rfl;have e3:AV (8*((i % 8:Nat):Int))=((8*(i % 8):Nat):Int):=wn (n:=8*(i % 8)) (by omega);have e4:Min.min (8*(i % 8)) (IntKind.bits IntKind.u64)=8*(i % 8):=Nat.min_eq_left (by show 8*(i % 8)<=64;omega);have e5:w8 (Int.fdiv ((a.getD (i / 8) 0:Nat):Int) ((2 ^ (8*(i % 8)):Nat):Int))=((Ul a i:Nat):Int):=by rw [bJ,Int.fdiv_eq_ediv_of_nonneg _ (Int.natCast_nonneg _)];rfl
  rw [ny];simp only [WA5,mk,w1,e1,e2,e3,BR,e4,c2,GN];rw [e5,AsH,AL (by grind),hb,Awg (l:=a) (by omega),AL (a:=_) (by rfl),AL (by rfl),AL (by rfl),AL (Awg (by omega))])
 obtain ⟨m,hm⟩:∃ m,AY=m+1+200*1:=⟨AY - 201,by rfl⟩
 rw [KAo,VA5,mk,hm,show (200:Int).toNat=200 from rfl,List.length_replicate,<-Aqz];refine (s1 200 0 (m+1) (List.replicate 200 0) (by omega) List.length_replicate).1.trans ?_;rw [rW (v:=Ul a) List.length_replicate,ny];rfl
theorem TBP {s:AA} (h:s.size=200):cu s=some (ZP s):=by have hl:=LBN (VY s);rw [cu,XA5,mk,BF (by simp_all),RBq h,AP,YBq hl,AP,ZBq (DBB hl)];rfl
theorem AhW {s:AA} {f:Nat} (hs:s.size<=2000) (hf:f<256):yx s 168 (f:Int)=some (jH s f):=by
 obtain ⟨q,hq,hq2⟩:=PBN s f
 have hbuf:=OBN s hf
 have sp:=Qd (Lp:=Oi) (st:=fun i l=>.c0 168 (up l)) (f:=fun _ l=>l++[0]) (P:=fun i l=>l.length=s.size+1+i) (n:=(168 - (s.size+1) % 168) % 168) 1 (fun m i l hi hl=>by
  grind [Oi,YK,Dq,AwV])
 have si:∀ (p:Nat) (st:List Nat),p<q->Hg st->∀ m,∃ v,v.length=200/\B8 v/\Qn (Aqj (ofBytes (up v))) 25=Zv st (fun i=>(AqF s f).getD (168*p+i) 0)/\Oi (m+168*1) (.c2 168 ((168*p:Nat):Int) 168 ((0:Nat):Int) (up (AqF s f)) (up (OZ st)))=Oi m (.c2 168 ((168*p:Nat):Int) 168 ((168:Nat):Int) (up (AqF s f)) (up v)):=by
  intro p st hp hst m;have hk8:B8 (OZ st):=MBN st
  obtain ⟨a1,a2,a3,a4⟩:=Qd (Lp:=Oi) (st:=fun i v=>.c2 168 ((168*p:Nat):Int) 168 (i:Int) (up (AqF s f)) (up v)) (f:=fun i v=>v.set i (v.getD i 0 ^^^ (AqF s f).getD (168*p+i) 0)) (P:=fun i v=>v.length=200/\B8 v/\∀ k,k<200->v.getD k 0=if k<i then Ul st k ^^^ (AqF s f).getD (168*p+k) 0 else Ul st k) (n:=168) 1 (fun m i v hi hv=>by
   obtain ⟨v1,v2,v3⟩:=hv
   refine ⟨?_,by simp_all,v2.set _ (IBB (v2.get _) (hbuf.get _)),fun k hk=>?_⟩;·have w1:AV ((i:Int)+1)=((i+1:Nat):Int):=wn (n:=i+1) (by omega);have e1:AV (((168*p:Nat):Int)+(i:Int))=((168*p+i:Nat):Int):=wn (n:=168*p+i) (by omega);rw [Oi];simp only [YK,mk,w1,e1,BR,GN];rw [x8 (v2.get _) (hbuf.get _),AsH,AL (by grind),AL (Awg (by omega)),AL (Awg (by omega)),AL (Awg (by omega))]
   grind) 168 0 m (OZ st) (by omega) ⟨XBo st,hk8,fun k hk=>by simp_all [OZ]⟩
  refine ⟨_,a2,a3,?_,a1⟩;generalize Ib (fun i v=>v.set i (v.getD i 0 ^^^ (AqF s f).getD (168*p+i) 0)) 168 0 (OZ st)=v at a2 a3 a4;refine List.map_congr_left fun k hk=>?_
  have hk:=List.mem_range.1 hk;by_cases h21:k<21
  ·rw [if_pos h21,<-KBN hst.2,<-VBo (JBN st) (fun _=>hbuf.get _)];refine FBB fun i hi=>?_
   have h8:8*k+i<168:=by omega
   rw [NAr a3 (by omega),a4 _ (by omega),if_pos h8]
  ·rw [if_neg h21,<-KBN hst.2];refine FBB fun i hi=>?_
   have h8:¬ 8*k+i<168:=by omega
   rw [NAr a3 (by omega),a4 _ (by omega),if_neg h8]
 have so:=Qd (Lp:=Oi) (st:=fun p st=>.c1 168 ((168*p:Nat):Int) (up (AqF s f)) (up (OZ st))) (f:=jI (AqF s f)) (P:=fun _ st=>Hg st) (n:=q) 170 (fun m p st hp hst=>by
  refine ⟨?_,LBB hbuf hst⟩;have e1:AV (((168*p:Nat):Int)+168)=((168*(p+1):Nat):Int):=by rw [show ((168*p:Nat):Int)+168=((168*(p+1):Nat):Int) by omega];exact wn (n:=168*(p+1)) (by omega)
  obtain ⟨v,v1,v2,v3,v4⟩:=si p st hp hst (m+1)
  have hvs:(ofBytes (up v)).size=200:=by grind [Dj,Dq]
  have hps:=NBN (ofBytes (up v));rw [show m+170=(m+1)+168*1+1 by omega,Oi];simp only [YK,mk];rw [AL (by simp_all [Dq])];refine v4.trans ?_;rw [Oi];simp only [YK,mk,e1];rw [BF (by rfl),TBP hvs,AP,AL (by rfl),ZP,v3,Zx,ZBo (MBN _)];rfl)
 have FR:(168 - (s.size+1) % 168) % 168<168:=Nat.mod_lt _ (by decide);have hl1:(FD s++[f]).length=s.size+1:=by simp [Zw]
 obtain ⟨m,hm⟩:∃ m,AY=(m+1+q*170)+1+((168 - (s.size+1) % 168) % 168)*1:=⟨AY - (1+q*170+1+(168 - (s.size+1) % 168) % 168),by have:=FM (n:=1+q*170+1+(168 - (s.size+1) % 168) % 168) (by omega);omega⟩
 have hzs:(bytesOf s).length=s.size:=by simp_all [Zx,Dq]
 rw [yx,YA5,mk,hm,AL (by grind),AL (by grind),Zx,AwV];refine (sp ((168 - (s.size+1) % 168) % 168) 0 _ (FD s++[f]) (by omega) hl1).1.trans ?_;have hpl:Ib (fun _ l=>l++[0]) ((168 - (s.size+1) % 168) % 168) 0 (FD s++[f])=Am (FD s++[f]):=by simp_all [jG,Am]
 have C4:B8 (Am (FD s++[f])):=HBB (JBB s hf);have Cf:=GBB (FD s++[f]);rw [hl1] at Cf;have e2:((up (Am (FD s++[f]))).length:Int).tmod 168=(((up (Am (FD s++[f]))).length % 168:Nat):Int):=rfl;have e3:AV (((up (Am (FD s++[f]))).length:Int) - 1)=(((Am (FD s++[f])).length - 1:Nat):Int):=by grind [Dq,wn]
 have hz0:OZ (List.replicate 25 0)=List.replicate 200 0:=by kernel_rfl
 rw [hpl,Oi];simp only [YK,mk,e2,e3,BR,GN];rw [AL (by rfl),BF (by grind [Dq]),AL (Awg (by omega)),AL (Awg (by omega)),show (128:Int)=((128:Nat):Int) from rfl,x8 (C4.get _) (by decide),AsH,show (200:Int).toNat=200 from rfl,<-Aqz,<-hz0];show Oi (m+1+q*170) (.c1 168 0 (up (AqF s f)) (up (OZ (List.replicate 25 0))))=_;refine (so q 0 (m+1) (List.replicate 25 0) (by omega) KBB).1.trans ?_;have hfin:Ib (jI (AqF s f)) q 0 (List.replicate 25 0)=jJ s f:=by simp_all [jJ]
 rw [hfin,Oi];simp only [YK,mk];rw [BF (by simp_all [Dq])];rfl
theorem UBP {s:AA} (h:s.size<=2000):oC s=some ⟨sd s,0⟩:=by have e:yx s 168 31=some (jH s 31):=AhW (f:=31) h (by decide);rw [oC,ZA5,e];rfl
end Go.Proofs.YtkbbicgglblfiaaGreatDoor.G
