/- The plain law of FnKept: whatever the arguments, it answers true. Conditions: what is read is in reach. Part 2 of 4. -/
import Derived.Test.YtkbbicgglblfiaaGreatDoorPureFnKepta
namespace Go.Proofs.YtkbbicgglblfiaaGreatDoor.G
open Go Go.Ev
set_option linter.unusedVariables false
set_option linter.unusedSimpArgs false
set_option linter.unusedSectionVars false
variable [PC]
theorem KBB {last:Int} {x:Af}:∀ {xs:List Af} {p:Int},rise last p xs=true->x ∈ xs->C9 xs x.fId=some x:=by
 intro xs;induction xs with
 | nil=>simp
 | cons y ys ih=>
  intro p h hx;obtain ⟨h1,h2,h3,h4⟩:=Art.1 h
  rw [C9,List.find?_cons];rcases List.mem_cons.1 hx with rfl | hx
  ·simp
  ·have:=ArP h4 x hx;rw [show (y.fId == x.fId)=false by grind];exact ih h4 hx
theorem LBB {b:Bo} {r:Ah} (h:(Awv b r).2=true):((Awv b r).1.AZ=b.AZ/\(Awv b r).1.BM=b.BM)\/(∃ o,C9 b.AZ r.Ag.fId=some o/\grown o r.Ag=true/\(Awv b r).1.AZ=putAt b.AZ r.Ag/\(Awv b r).1.BM=b.BM)\/((Awv b r).1.AZ=b.AZ++[r.Ag]/\(Awv b r).1.BM=b.BM+1)\/(r.Aj=4/\(Awv b r).1.AZ=without b.AZ r.DR/\(Awv b r).1.BM=b.BM):=by
 have h2:=(Tv h).2.1;rw [Awv] at h ⊢;cases hc:(!(G9 b) || (!(AwX r).2 || decide (b.fCount>=10000)))
 all_goals grind [gG,TT]
def keeps (x y:Af):Prop:=y.Aj=x.Aj/\y.fValue=x.fValue/\(x.CY=true->y.CY=true)/\(x.CX=true->y.CX=true)/\x.fNext<=y.fNext
theorem XBn (x:Af):keeps x x:=⟨rfl,rfl,id,id,Int.le_refl _⟩
theorem MBB {x y:Af} (h:grown x y=true):keeps x y:=by
 simp only [grown,Bool.and_eq_true,beq_iff_eq,decide_eq_true_eq] at h;obtain ⟨h1,h2,_,_,h5,h6,h7⟩:=h
 refine ⟨h1,Jm h2,fun e=>?_,fun e=>?_,h5⟩;all_goals simp_all
theorem TBM {b:Bo} {r:Ah} (h:(Awv b r).2=true) {x:Af} (hx:x ∈ b.AZ):(C9 (Awv b r).1.AZ x.fId=none/\r.Aj=4/\r.DR=x.fId)\/∃ y,C9 (Awv b r).1.AZ x.fId=some y/\keeps x y:=by grind [Tv,HY,KBB,Awv,C9,XBn,LBB,MBB,putAt,O0,TU,without]
theorem UBM {b:Bo} {r:Ah} (h:(Awv b r).2=true):b.BM<=(Awv b r).1.BM:=by rcases LBB h with ⟨_,e⟩ | ⟨_,_,_,_,e⟩ | ⟨_,e⟩ | ⟨_,_,e⟩ <;> rw [e] <;> omega
theorem VBM {f:Nat->Int} {n:Nat} (h:∀ i,0<i->i<n->f (i - 1)<f i):∀ d i,i+d+1<n->f i<f (i+d+1):=by intro d;induction d<;>grind
abbrev Arw (ls:List CS):Prop:=ls.Pairwise fun a b=>a.fId<b.fId
abbrev AscS (ls:List EG):Prop:=ls.Pairwise fun a b=>a.fId<b.fId
theorem WBM {b:Ap}:∀ {j i:Nat},QY b j i=true->∀ k,i<=k->k<i+j->Aql b k=true:=by intro j;induction j<;>grind [QY]
theorem YBn {b:Ap}:∀ {j i:Nat},(∀ k,i<=k->k<i+j->Aql b k=true)->QY b j i=true:=by intro j;induction j<;>grind [QY]
def X6 (ts:List Af) (v:CS):Prop:=∃ x,C9 ts v.fId=some x/\x.Aj=2/\0<=v.fNext/\v.fNext<=x.fNext
theorem NBB {b:Ap} {i:Nat}:Aql b i=true↔X6 b.AU.AZ (b.BD.getD i ⟨0,0⟩)/\(i=0\/(b.BD.getD (i - 1) ⟨0,0⟩).fId<(b.BD.getD i ⟨0,0⟩).fId):=by grind [Aql,X6,Na]
theorem OBB {b:Ap}:Vh b=true↔(∀ v ∈ b.BD,X6 b.AU.AZ v)/\Arw b.BD:=by
 constructor
 ·intro h;have ha:∀ i,i<b.BD.length->Aql b i=true:=fun i hi=>WBM h i (DJ _) (by omega)
  refine ⟨fun v hv=>?_,List.pairwise_iff_getElem.2 fun i j hi hj hij=>?_⟩;·grind [List.mem_iff_getElem,NBB]
  ·have:=VBM (f:=fun i=>(b.BD.getD i ⟨0,0⟩).fId) (n:=b.BD.length) (fun i h0 hi=>(NBB.1 (ha i hi)).2.resolve_left (by omega)) (j - i - 1) i (by omega);grind
 ·rintro ⟨h1,h2⟩;refine YBn fun i _ hi=>NBB.2 ?_
  grind [List.pairwise_iff_getElem]
theorem PBB {b:Ap}:Oa b b.BP.length 0=true↔(∀ s ∈ b.BP,1<=s.fId/\s.fId<=b.CW)/\AscS b.BP:=by
 have mk:∀ {j i:Nat},Oa b j i=true↔∀ k,i<=k->k<i+j->aU b k=true:=by intro j;induction j<;>grind [Oa]
 have at_:∀ {i:Nat},aU b i=true↔(1<=(b.BP.getD i ⟨0,false⟩).fId/\(b.BP.getD i ⟨0,false⟩).fId<=b.CW)/\(i=0\/(b.BP.getD (i - 1) ⟨0,false⟩).fId<(b.BP.getD i ⟨0,false⟩).fId):=by simp [aU,Na]
 rw [mk];constructor
 ·intro h;have ha:∀ i,i<b.BP.length->_:=fun i hi=>at_.1 (h i (DJ _) (by omega))
  refine ⟨fun v hv=>?_,List.pairwise_iff_getElem.2 fun i j hi hj hij=>?_⟩;·grind [List.mem_iff_getElem]
  ·have:=VBM (f:=fun i=>(b.BP.getD i ⟨0,false⟩).fId) (n:=b.BP.length) (fun i h0 hi=>(ha i hi).2.resolve_left (by omega)) (j - i - 1) i (by omega);rw [show i+(j - i - 1)+1=j by omega] at this;simp_all
 ·rintro ⟨h1,h2⟩ i _ hi;have hi:i<b.BP.length:=by omega
  refine at_.2 ?_;rw [getD_at hi];refine ⟨h1 _ (List.getElem_mem hi),?_⟩;by_cases h0:i=0;·omega
  ·refine .inr ?_;have hj:i - 1<b.BP.length:=by omega
   rw [getD_at hj];grind [List.pairwise_iff_getElem]
theorem XBM {last:Int}:∀ {ts:List Af} {p:Int} {vs:List CS},rise last p ts=true->Arw vs->(∀ v ∈ vs,∃ x ∈ ts,x.fId=v.fId)->vs.length<=ts.length:=by
 intro ts;induction ts with
 | nil=>
  intro p vs _ _ h;cases vs<;>grind [List.mem_cons_self]
 | cons t ts ih=>
  intro p vs hr ha h;obtain ⟨_,_,_,hr2⟩:=Art.1 hr
  have hin:=ArP hr2;cases vs<;>grind [List.pairwise_cons,List.mem_cons_self]
def Am:List CS->Int->Int->List CS
 | [],id,n=>[⟨id,n⟩]
 | v::vs,id,n=>if v.fId=id then ⟨id,n⟩::vs else if v.fId<id then v::Am vs id n else ⟨id,n⟩::v::vs
theorem OAr (id:Int):∀ (ls:List CS) (i:Nat),AxB ls id i=(AxB ls id 0).map (· + i)
 | [],i=>rfl
 | v::vs,i=>by
  rw [AxB,AxB];split;·simp
  ·rw [OAr id vs (i+1),OAr id vs (0+1),Option.map_map];congr 1;funext j;show j+(i+1)=(j+(0+1))+i;omega
theorem QBB {id:Int}:∀ {ls:List CS} {i:Nat},(∀ v ∈ ls,v.fId≠id)->AxB ls id i=none
 | [],_,_=>rfl
 | v::vs,i,h=>by rw [AxB,if_neg (by rw [beq_iff_eq];exact h v (List.mem_cons_self ..))];exact QBB fun w hw=>h w (List.mem_cons_of_mem _ hw)
theorem YBM (id n:Int):∀ {ls:List CS},Arw ls->bF ls id n=Am ls id n
 | [],_=>rfl
 | v::vs,h=>by
  obtain ⟨hv,hs⟩:=List.pairwise_cons.1 h
  have ih:=YBM id n hs;rw [Am];by_cases h1:v.fId=id
  ·rw [if_pos h1,bF,AxB,if_pos (beq_iff_eq.2 h1)];show ⟨v.fId,n⟩::vs=_
   rw [h1]
  ·rw [if_neg h1];by_cases h2:v.fId<id;·rw [if_pos h2,<-ih,bF,bF,AxB,if_neg (by rw [beq_iff_eq];exact h1),OAr,Gf,if_pos h2];cases AxB vs id 0 <;> rfl
   ·rw [if_neg h2,bF,QBB fun w hw=>?_,Gf,if_neg h2];·rfl
    ·rcases List.mem_cons.1 hw with rfl | hw
     ·exact h1
     ·have:=hv w hw;omega
theorem ZBM (id n:Int):∀ {ls:List CS},Arw ls->ls.filter (fun v=>decide (v.fId<id))++(⟨id,n⟩::ls.filter fun v=>decide (v.fId > id))=Am ls id n
 | [],_=>rfl
 | v::vs,h=>by
  obtain ⟨hv,hs⟩:=List.pairwise_cons.1 h
  have ih:=ZBM id n hs;rw [Am,List.filter_cons,List.filter_cons];have big:∀ {p:CS->Bool},(∀ w ∈ vs,p w=true)->vs.filter p=vs:=List.filter_eq_self.2;by_cases h1:v.fId=id;·rw [if_pos h1,D6 (by omega),D6 (by omega),List.filter_eq_nil_iff.2 fun w hw=>by have:=hv w hw;rw [decide_eq_true_eq];omega,List.filter_eq_self.2 fun w hw=>by have:=hv w hw;rw [decide_eq_true_eq];omega];rfl
  ·rw [if_neg h1];by_cases h2:v.fId<id;·rw [if_pos h2,Ba h2,D6 (by omega),<-ih];rfl
   ·rw [if_neg h2,D6 h2,Ba (by omega),List.filter_eq_nil_iff.2 fun w hw=>by have:=hv w hw;rw [decide_eq_true_eq];omega,List.filter_eq_self.2 fun w hw=>by have:=hv w hw;rw [decide_eq_true_eq];omega];rfl
theorem sF {id n:Int}:∀ {ls:List CS},Arw ls->∀ v ∈ Am ls id n,v=⟨id,n⟩\/(v ∈ ls/\v.fId≠id)
 | [],_,v,hv=>.inl (List.mem_singleton.1 hv)
 | w::vs,h,v,hv=>by
  obtain ⟨hw,hs⟩:=List.pairwise_cons.1 h
  rw [Am] at hv;split at hv
  ·rename_i h1;rcases List.mem_cons.1 hv with e | hm
   ·exact .inl e
   ·have:=hw v hm;exact .inr ⟨List.mem_cons_of_mem _ hm,by omega⟩
  ·rename_i h1;split at hv
   ·rcases List.mem_cons.1 hv with rfl | hm
    ·exact .inr ⟨List.mem_cons_self ..,h1⟩
    ·rcases sF hs v hm with e | ⟨e1,e2⟩
     ·exact .inl e
     ·exact .inr ⟨List.mem_cons_of_mem _ e1,e2⟩
   ·rename_i h2;rcases List.mem_cons.1 hv with e | hm
    ·exact .inl e
    ·rcases List.mem_cons.1 hm with rfl | hm
     ·exact .inr ⟨List.mem_cons_self ..,h1⟩
     ·have:=hw v hm;exact .inr ⟨List.mem_cons_of_mem _ hm,by omega⟩
theorem gJ {id n:Int}:∀ {ls:List CS},Arw ls->Arw (Am ls id n)
 | [],_=>List.pairwise_singleton _ _
 | w::vs,h=>by
  obtain ⟨hw,hs⟩:=List.pairwise_cons.1 h
  rw [Am];split;·rename_i h1;exact List.pairwise_cons.2 ⟨fun v hv=>by have:=hw v hv;show id<v.fId;omega,hs⟩
  ·rename_i h1;split
   ·rename_i h2;refine List.pairwise_cons.2 ⟨fun v hv=>?_,gJ hs⟩;rcases sF hs v hv with rfl | ⟨e1,_⟩
    ·exact h2
    ·exact hw v e1
   ·rename_i h2;refine List.pairwise_cons.2 ⟨fun v hv=>?_,h⟩;rcases List.mem_cons.1 hv with rfl | hv
    ·show id<v.fId;omega
    ·have:=hw v hv;show id<v.fId;omega
theorem bT {d:BU} (h0:d.Ak.length<=140737488351232):V4 d=some (Ave d):=by
 rw [V4,IA3,mk,Ave];have key:∀ (j i m:Nat),i+j=d.Ak.length->l7 (m+j+1) (.c0 d.Ak (d.Ak.length:Int) (i:Int) d)=some (decide ((d.Ak.length:Int)<=30) && LM (V5 d.Ak i) (d.Ak.drop i)):=by
  intro j;induction j with
  | zero=>
   grind [l7,UAm,LM]
  | succ j ih=>
   intro i m h;have hi:i<d.Ak.length:=by omega
   have e:AV ((i:Int)+1)=((i+1:Nat):Int):=by grind [A8]
   have h2:=ih (i+1) m (by omega);have Hh:∀ b:Bool,(b && false)=false:=fun b=>by simp
   rw [show m+(j+1)+1=(m+j+1)+1 by omega,l7];simp only [UAm,mk,e,BR,getD_at hi,AvD,AP];rw [AL (by simp_all),AL (by simp_all),ZBK hi,Awz,h2];cases hn:Bl (d.Ak[i].fName.size:Int) 1 8;·simp
   cases decide ((d.Ak[i].fText.size:Int) > 20000)
   ·cases Bl d.Ak[i].J3 0 (d.Ak[i].fText.size:Int);·simp
    ·by_cases hz:i=0;·grind [Na,V5,xw]
     ·obtain ⟨i',rfl⟩:∃ q,i=q+1:=⟨i - 1,by omega⟩
      grind [A8,ANG]
   simp
 obtain ⟨m,hm⟩:=gm (n:=d.Ak.length) (by omega)
 rw [hm];exact key d.Ak.length 0 m (by omega)
theorem lM:Av2=some DI:=by rw [Av2,MA2,mk,Ar2 (by decide),AP,show (32:Int)=((32:Nat):Int) from rfl,NAq (by omega),AP];rfl
theorem ZBn {a b:List Af} (h0:a.length<=140737488351232):EAn a b=some (QX a b):=by
 rw [EAn,ANI];by_cases hl:a.length=b.length
 ·have key:∀ (j i m:Nat),i+j=a.length->l9 (m+j+1) (.c0 a b (a.length:Int) (i:Int))=some (QX (a.drop i) (b.drop i)):=by
   intro j;induction j with
   | zero=>
    intro i m h;obtain rfl:i=a.length:=by omega
    rw [l9];simp only [DAn,mk];rw [AsB (by simp),List.drop_length,hl,List.drop_length];rfl
   | succ j ih=>
    intro i m h;have hi:i<a.length:=by omega
    have hi2:i<b.length:=by omega
    have e:AV ((i:Int)+1)=((i+1:Nat):Int):=by grind [A8]
    rw [show m+(j+1)+1=(m+j+1)+1 by omega,l9];simp only [DAn,mk,e,BR,getD_at hi,getD_at hi2,LBM,ih (i+1) m (by omega)];grind [drop_at,QX]
  obtain ⟨m,hm⟩:=gm (n:=a.length) (by omega)
  rw [AsB (by simp_all),hm];exact key a.length 0 m (by omega)
 grind [MBM]
theorem RBB {a b:Bo} (h0:a.AZ.length<=140737488351232):mD a b=some (QM a b):=by rw [mD,BA4,mk,ZBn h0,QM];grind
theorem PAr {d:BU} {n:AA} (h0:d.Ak.length<=140737488351232):bU d n=some (AwN d n):=by
 have key:∀ (j i m:Nat),i+j=d.Ak.length->mF (m+j+1) (.c0 n d.Ak (d.Ak.length:Int) (i:Int))=some (match AwR (d.Ak.drop i) n i with | some j=>(j:Int) | none=> -1):=by
  intro j;induction j with
  | zero=>
   intro i m h;obtain rfl:i=d.Ak.length:=by omega
   rw [mF];simp only [SAm,mk];rw [AsB (by simp),List.drop_length];rfl
  | succ j ih=>
   intro i m h;have hi:i<d.Ak.length:=by omega
   have e:AV ((i:Int)+1)=((i+1:Nat):Int):=by grind [A8]
   grind [mF,SAm,BR,drop_at,AwR]
 obtain ⟨m,hm⟩:=gm (n:=d.Ak.length) (by omega)
 rw [bU,HA3,mk,hm,AwN];exact key d.Ak.length 0 m (by omega)
theorem SBB {d:BU} {n:AA} (h0:d.Ak.length<=140737488351232):x9 d n=some (Ih d n):=by
 rw [x9,CA4,mk,PAr h0,AP,AwN,Ih];cases h:AwR d.Ak n 0 with
 | none=>rfl
 | some j=>
  have:=aF h;simp_all [AsB]
theorem Agg {s:Int} (h:R32 s):an s 1=s % 2:=by
 obtain ⟨h1,h2⟩:=h
 obtain ⟨n,rfl⟩:∃ n:Nat,s=(n:Int):=⟨s.toNat,by omega⟩
 unfold an;show w32 (((BitVec.ofInt 32 (n:Int) &&& BitVec.ofInt 32 1).toNat:Nat):Int)=_;grind [Aq4]
theorem BBo (t:AA) (i:Nat) (hi:i<t.size) (ht:t.size<=140737488351232):∀ (j k m:Nat) (s:Int),k+j=8->R32 s->Un (m+j+1) (.c1 s t (i:Int) (k:Int))=Un m (.c0 (bV j s) t ((i+1:Nat):Int)):=by
 intro j;induction j with
 | zero=>
  intro k m s hk hs;have e:AV ((i:Int)+1)=((i+1:Nat):Int):=by grind [A8]
  rw [Un];simp only [mG,mk,e];rw [AsB (by simp_all)];rfl
 | succ j ih=>
  intro k m s hk hs;have e:AV ((k:Int)+1)=((k+1:Nat):Int):=by grind [A8]
  have h2:Int.fdiv s (2 ^ (Min.min (1:Int).toNat (IntKind.bits IntKind.u32)))=s / 2:=Int.fdiv_eq_ediv_of_nonneg _ (by decide);rw [show m+(j+1)+1=(m+j+1)+1 by omega,Un];simp only [mG,mk,e,h2,JA9,Agg hs,SH];rw [AL (by grind),bV];by_cases h:s % 2=1;·rw [AL (by simp [h]),ih (k+1) m _ (by omega) (mJ _ _),bW,if_pos h]
  ·rw [AsB (by simp [h]),ih (k+1) m _ (by omega) (by grind [R32]),bW,if_neg h]
theorem CBo {t:AA} {s:Int} (ht:t.size<=140737488351232):RAm s t=some (mM s (bs t)):=by
 have hl:=bs_len t;have key:∀ (j i m:Nat) (s:Int),i+j=t.size->Un (m+10*j+1) (.c0 s t (i:Int))=some (mM s ((bs t).drop i)):=by
  intro j;induction j with
  | zero=>
   intro i m s h;rw [Un];simp only [mG,mk];rw [AsB (by simp_all),List.drop_of_length_le (by omega)];rfl
  | succ j ih=>
   intro i m s h;have hb:=ArR (Jj t) i;rw [show m+10*(j+1)+1=(m+10*j+1)+8+1+1 by omega,Un];simp only [mG,mk,SH];rw [AL (by grind),AL (by grind),Uo (by omega),Aq4 (by omega) (by omega)];have h1:=BBo t i (by omega) ht 8 0 (m+10*j+1) (xr s ((bs t).getD i 0)) (by omega) (mJ _ _);rw [show ((0:Nat):Int)=0 from rfl] at h1;rw [h1,ih (i+1) m _ (by omega),drop_at (by omega:i<(bs t).length),getD_at (by omega)];rfl
 obtain ⟨m,hm⟩:∃ m,AY=m+10*t.size+1:=⟨AY - (10*t.size+1),by have:=FM (n:=10*t.size+1) (by omega);omega⟩
 rw [RAm,CA3,hm];have:=key t.size 0 m s (by omega);assumption
theorem AWX {t:AA} (ht:t.size<=140737488351232):mO t=some (Ur (bs t)):=by rw [mO,DA3,CBo ht];rfl
theorem DBo {f:AA} (hf:f.size<=140737488351232):yA f=some (AwS f):=by
 rw [yA,DA4,mk,AwS];by_cases h0:20000<f.size;·grind
 ·rw [AsB (by grind),AsB (by grind)];have key:∀ (j a m:Nat) (out:List AA),a<=f.size->f.size<a+j->out.length<=a->yB (m+j+1) (.c0 f (a:Int) out)=some (out++(Ll j f a).1,((Ll j f a).2:Int)):=by
   intro j;induction j with
   | zero=>omega
   | succ j ih=>
    intro a m out ha hj ho;rw [show m+(j+1)+1=(m+j+1)+1 by omega,yB];simp only [EA4,mk,Ll];rw [SBL hf ha,AP];rcases uF hf ha with h | ⟨v,h,hv0,hv1,hA⟩
    ·rw [show Nu f a=none by rw [Nu,h];rfl,h];rw [List.append_nil];rfl
    ·have hp:=Qy v;have hsz:=hA.size.resolve_left (by grind);obtain ⟨R,hR⟩:∃ R,R=Nu f a:=⟨_,rfl⟩
     have hn0:=hR;rw [Nu,h] at hn0;rw [h];generalize hq:a+(SN v).length=q at hsz hn0;simp only [DN,Aq,AvD,AP];cases hr:Bl v 1 9000;·grind
     ·rw [hr] at hn0;simp only [DN,Aq,Bool.true_and] at hn0 ⊢;rw [A8 (n:=(f.size:Int) - (q:Int)) (by omega) (by omega),A8 (n:=(f.size:Int) - (q:Int) - 4) (by omega) (by omega),A8 (n:=(q:Int)+4) (by omega) (by omega),A8 (n:=(q:Int)+4+v) (by omega) (by omega)];by_cases h3:v > (f.size:Int) - (q:Int) - 4;·grind
      ·have e2:((q:Int)+4).toNat=q+4:=by omega
       have e3:((q:Int)+4+v).toNat=q+4+v.toNat:=by omega
       have hxs:(f.extract (q+4) (q+4+v.toNat)).size=v.toNat:=by grind [ByteArray.size_extract]
       rw [Ba (by omega:v<=(f.size:Int) - (q:Int) - 4),e2,e3,BR,Bool.true_and] at hn0;rw [AsB (by simp_all),AL (by grind),AL (by simp;omega),e2,e3,BR,AWX (by omega),AP,OAq (X7 _),AP,Rx,AsM (V6 (X7 _))];grind
  obtain ⟨m,hm⟩:∃ m,AY=m+(f.size+1)+1:=⟨AY - (f.size+2),by have:=FM (n:=f.size+2) (by omega);omega⟩
  rw [hm,show (0:Int)=((0:Nat):Int) from rfl,key (f.size+1) 0 m [] (by omega) (by omega) (Nat.le_refl _)];rfl
theorem EBo {n:Int}:yC n=some (bif Bl n 0 1000000000 then (ofBytes (SN n),true) else (⟨#[]⟩,false)):=by simp only [yC,VA2,mk,AvD,AP];grind [Na,X8]
theorem BBN {s:AA} {x:Int} (hs:s.size<=140737488351232):mP s x=some (ofBytes (AxL x (bs s))):=by
 have hl:=bs_len s
 have key:=PV (A:=Unit) (n:=(bs s).length) (Lp:=mQ) (st:=fun i _=>.c0 x ((bs s).length:Int) (i:Int) (((bs s).take i).map (fun b=>xb b x)++(bs s).drop i)) (Inv:=fun _ _=>True) (out:=fun _ _=>some (ofBytes (AxL x (bs s))))
  (fun m _ _=>by
   rw [mQ];simp only [OAm,mk];rw [AsB (by simp),List.take_length,List.drop_length,List.append_nil];rfl)
  (fun m i _ hi _=>.inr ⟨(),by
   have e:AV ((i:Int)+1)=((i+1:Nat):Int):=by grind [A8]
   have hlen:(((bs s).take i).map (fun b=>xb b x)++(bs s).drop i).length=(bs s).length:=by grind
   grind [mQ,OAm,BR,JBj,xb],trivial,rfl⟩)
 rw [mP,WA2,mk,AL (by grind),mV];exact key AY 0 () (DJ _) (FM (by omega)) trivial
theorem FBo {k:AA} (h:k.size<=64):bs (k++ofBytes (List.replicate (64 - k.size) 0))=Avf (bs k):=by rw [Aq7,AsM (fun x hx=>by grind),Avf,bs_len]
theorem GBo {K:AA} (h:K.size=64) {s:AA}:EM (ofBytes (AxL 92 (bs K))++EM (ofBytes (AxL 54 (bs K))++s))=ofBytes (Av3 (AxL 92 (bs K)++Av3 (AxL 54 (bs K)++bs s))):=by rw [EM,Aq7,GAq,Aq7,AsM (JAq _ _),AsM (JAq _ _)]
theorem CBN {k s:AA} (hk:k.size<=900000000) (hs:s.size<=900000000):mW k s=some (bZ k s):=by
 have fin:∀ {K:AA} {m:Int},K.size<=64->m=((64 - K.size:Nat):Int)->∀ (f:Option AA),f=some (ofBytes (Av3 (AxL 92 (Avf (bs K))++Av3 (AxL 54 (Avf (bs K))++bs s))))->
   ((X9 m).bind fun r1=>bif decide (K.size+r1.size<=9223372036854775807) then (mP (K++r1) 92).bind fun r2=>(mP (K++r1) 54).bind fun r3=>bif decide (r3.size+s.size<=9223372036854775807) then (JQ (r3++s)).bind fun r4=>bif decide (r2.size+r4.size<=9223372036854775807) then (JQ (r2++r4)).bind fun r5=>some r5 else none else none else none)=f:=by
  intro K m hK hm f hf;have h64:(K++ofBytes (List.replicate (64 - K.size) 0)).size=64:=by simp_all [Dj]
  subst hm;have x1:=IAq 92 (Avf (bs K));have x2:=IAq 54 (Avf (bs K));have x3:(Avf (bs K)).length=64:=by simp_all [Avf,bs_len]
  have hb:=FBo hK;have hf2:=GBo h64 (s:=s);rw [hb] at hf2;rw [NAq (by omega),AP,AL (by simp_all),BBN (by omega),AP,BBN (by omega),AP,hb];grind [Dj,Ar2,Aro]
 rw [mW,XA2,mk];grind [Ar2,Aro,bZ,V7,V8,bs_len,GAq,A8]
theorem DBN {k:AA} {num n:Int} (hk:k.size<=900000000):yD k num n=some (Xk k num n):=by
 rw [yD,YA2,mk,EBo,AP,Xk,MB];cases h:Bl num 0 1000000000;·rfl
 ·rw [Na] at h;rw [Ar,AsB (by rfl),AvD,AP];cases h2:Bl n 0 8000;·rfl
  ·rw [Na] at h2;rw [AsB (by rfl),Bool.and_self,Ar];have hv:=Jo (n:=num) (by omega);have hvb:=Ut h.1
   have key:=PV (A:=Unit) (n:=(n.toNat+31) / 32) (Lp:=mX) (st:=fun i _=>.c0 k n (ofBytes (SN num)) (ofBytes (YA (bs k) (SN num) i)) (i:Int)) (Inv:=fun _ _=>True) (out:=fun _ _=>some (ofBytes (PL (bs k) (SN num) n.toNat),true))
    (fun m _ _=>by
     rw [mX];simp only [PAm,mk];rw [AsB (by grind [Dj,YB]),AL (by grind [Dj,YB])];refine congrArg (fun x=>some (x,true)) (Jm ?_);rw [Ls,AsM (NBK _ _ _),AsM (tu _ _ _),PL,List.drop_zero])
    (fun m i _ hi _=>.inr ⟨(),by
     have e:AV ((i:Int)+1)=((i+1:Nat):Int):=by grind [A8]
     have h9:(⟨#[109]⟩:AA).size=1:=rfl;grind [mX,PAm,Dj,YB,LD,CBN,OBK,ofBytes,YA,bs,Jm,Aq7,AsM],trivial,rfl⟩)
   exact key AY 0 () (DJ _) (FM (by omega)) trivial
theorem EBN {k s:AA} {num:Int} (hk:k.size<=900000000) (hn:0<=num/\num<=1000000000) (hs:s.size<=800000000):yE k num s=some (ofBytes (Aqe (bs k) num (bs s))):=by have hv:=Jo (n:=num) (by omega);have h9:(⟨#[116]⟩:AA).size=1:=rfl;have e:bs (⟨#[116]⟩:AA)=[116]:=rfl;have h16:(16:Int).toNat=16:=rfl;rw [yE,ANW,mk,X8 (by omega),AP,AL (by grind [Dj]),AL (by grind [Dj])];rw [CBN hk (by grind [Dj]),AP,AL (by rfl)];refine congrArg some (Jm ?_);rw [Ls,KBK,h16,AsM (UH _ _ _),Aq7,Aq7,e,AsM (Ut hn.1),Aqe,List.drop_zero,List.append_assoc];rfl
theorem FBN {a b:AA} (ha:a.size<=140737488351232) (h:a.size<=b.size):yF a b=some (ofBytes (Arm (bs a) (bs b))):=by
 have hl:=bs_len a;have hl2:=bs_len b
 have key:=PV (A:=Unit) (n:=(bs a).length) (Lp:=mZ) (st:=fun i _=>.c0 b ((bs a).length:Int) (i:Int) (List.zipWith xb ((bs a).take i) ((bs b).take i)++(bs a).drop i)) (Inv:=fun _ _=>True) (out:=fun _ _=>some (ofBytes (Arm (bs a) (bs b))))
  (fun m _ _=>by
   grind [mZ,QAm,Arm,WA9])
  (fun m i _ hi _=>.inr ⟨(),by
   have e:AV ((i:Int)+1)=((i+1:Nat):Int):=by grind [A8]
   have hlen:(List.zipWith xb ((bs a).take i) ((bs b).take i)++(bs a).drop i).length=(bs a).length:=by grind
   grind [mZ,QAm,BR,VA9,Uo,PBK],trivial,rfl⟩)
 rw [yF,ZA2,mk,AL (by grind),mV];exact key AY 0 () (DJ _) (FM (by omega)) trivial
theorem GBN (t:AA) {n:Nat} (h:t.size=n+16):bs (t.extract 0 n)=(bs t).take (t.size - 16)/\bs (t.extract n t.size)=(bs t).drop (t.size - 16):=by grind [Ls,bs_len]
theorem HBN {k t:AA} {num:Int} (hk:k.size<=900000000) (ht:t.size<=800000000):mg k num t=some (EP k num t):=by
 rw [mg,FA4,mk,EP];have hw:AV ((t.size:Int) - 16)=(t.size:Int) - 16:=A8 (by omega) (by omega);rw [hw];by_cases h:t.size<16;·grind
 ·obtain ⟨n,hn⟩:∃ n,t.size=n+16:=⟨t.size - 16,by omega⟩
  obtain ⟨e1,e2⟩:=GBN t hn
  have hz:(t.size:Int) - 16=(n:Int):=by omega
  have hb:=bs_len t;rw [AsB (by simp_all),DBN hk,AP,Xk,hz,show decide ((t.size:Int)<16)=false by grind,Bool.false_or];cases hm:MB num n;·rfl
  ·have h':=iU.1 hm;have hml:=Rw (bs k) (SN num) n;have hes:(t.extract 0 n).size=n:=by simp_all
   rw [DN,Aq,Ar,AsB (by rfl),BR,AL (by grind),EBN hk h'.1 (by omega),AP,AL (by grind),Rx,AsM (UH _ _ _),e1,e2];cases hc:(Aqe (bs k) num ((bs t).take (t.size - 16)) == (bs t).drop (t.size - 16))
   ·rfl
   ·rw [DN,Aq,AL (by grind),FBN (by omega) (by simp_all [Dj]),AP,AsM (tu _ _ _),e1,Ar,show t.size - 16=n by omega]
theorem IBN {t:AA} (h:t.size<=140737488351232):nC t=some (frameT t):=by
 rw [nC,EA3,mk,AvD,AP,frameT];cases h1:Bl (t.size:Int) 1 9000;·rfl
 ·rw [Na] at h1;have:=Jo (n:=(t.size:Int)) (by omega);rw [AsB (by rfl),X8 (by omega),AP,AWX h,AP,OAq (X7 _),AP,AL (by grind [Dj,four])];rw [AL (by grind [Dj,four]),WBK,Ar]
theorem TBB {k file:AA} (hk:k.size<=900000000) (hf:file.size<=140737488351232):yG k file=some (AwM k file):=by
 obtain ⟨u1,u2,_,_⟩:=CAr (file:=file)
 rw [yG,GA4,mk,DBo hf,AP,AwM];generalize (AwS file).1=l at u1 u2;have key:∀ (j i m:Nat) (e:Int) (out:List Ah),i+j=l.length->0<=e->e<=30000*i->out.length<=i->nD (m+j+1) (.c0 k e (l.length:Int) (i:Int) out l)=some (out++(Ara k ((i:Int)+1) (l.drop i)).1,e+(Ara k ((i:Int)+1) (l.drop i)).2):=by
  intro j;induction j with
  | zero=>
   grind [nD,KAn,Ara]
  | succ j ih=>
   intro i m e out h he he2 ho;have hi:i<l.length:=by omega
   have hz:=u1 _ (List.getElem_mem hi);have ew:AV ((i:Int)+1)=((i+1:Nat):Int):=by grind [A8]
   have GW:=uD k l[i] ((i+1:Nat):Int);have hfz:=XBK (t:=l[i]) (by omega);rw [show m+(j+1)+1=(m+j+1)+1 by omega,nD];simp only [KAn,mk,ew,BR,getD_at hi];rw [AL (by simp_all),AL (by simp_all),HBN hk (by omega),AP,BBM (by omega),AP,drop_at hi,Ara,show ((i:Int)+1)=((i+1:Nat):Int) from rfl];cases (EP k ((i+1:Nat):Int) l[i]).2;·simp
   ·rw [AsB (by rfl),Bool.true_and];cases (Aqj (EP k ((i+1:Nat):Int) l[i]).1).2;·simp
    ·have h2:=ih (i+1) m (e+((frameT l[i]).1.size:Int)) (out++[(Aqj (EP k ((i+1:Nat):Int) l[i]).1).1]) (by omega) (by omega) (by omega) (by simp_all);grind [IBN,A8]
 obtain ⟨m,hm⟩:=gm (n:=l.length) (by omega)
 have h0:=key l.length 0 m 0 [] (by omega) (by omega) (by omega) (Nat.le_refl _);simp_all
theorem JBN {b:Bo} {l:List Ah} (hb:b.AZ.length<=2932031007317) (hl:l.length<=140737488351232) (hr:∀ r ∈ l,r.DR<=9223372036854775807):yH b l=some (Dl b l):=by
 have key:∀ (j i m:Nat) (b:Bo),i+j=l.length->b.AZ.length<=2932031007317->nG (m+j+1) (.c0 l (l.length:Int) (i:Int) ⟨#[]⟩ 0 0 ⟨#[]⟩ 0 b.Bv b.DU b.BM b.Dh b.fCount [] b.AZ)=some (Dl b (l.drop i)):=by
  intro j;induction j with
  | zero=>
   intro i m b h hb;obtain rfl:i=l.length:=by omega
   rw [nG];simp only [LAn,mk];rw [AsB (by simp),List.drop_length];rfl
  | succ j ih=>
   intro i m b h hb;have hi:i<l.length:=by omega
   have e:AV ((i:Int)+1)=((i+1:Nat):Int):=by grind [A8]
   rw [show m+(j+1)+1=(m+j+1)+1 by omega,nG];simp only [LAn,mk,e,BR,getD_at hi];rw [AL (by simp_all),AL (by simp_all),JBB (by grind) (hr _ (List.getElem_mem hi)),AP,drop_at hi,Dl];cases h2:(Awv b l[i]).2;·rfl
   ·have h3:=xU h2;rw [AsB (by rfl),Ar];exact ih (i+1) m (Awv b l[i]).1 (by omega) (by omega)
 obtain ⟨m,hm⟩:=gm (n:=l.length) (by omega)
 rw [yH,HA4,mk,HBB hb,AP,hm];exact key l.length 0 m b (by omega) hb
theorem UBB {k:AA} {d:BU} (hk:k.size<=900000000) (hd:d.Ak.length<=140737488351232) (hf:∀ f ∈ d.Ak,f.fText.size<=140737488351232):bf k d=some (Aw5 k d):=by
 have hfs:(Ih d Fa).1.size<=140737488351232:=AMh hf;obtain ⟨r1,r2⟩:=DBM k (Ih d Fa).1
 have hl:=EBM k (Ih d Fa).1;rw [bf,IA4,mk,show (⟨#[98,111,111,107]⟩:AA)=Fa from rfl,show (⟨#[98,111,111,107,43]⟩:AA)=nNew from rfl,SBB hd,AP,TBB hk hfs,AP,lM,AP,JBN (DJ _) (by omega) (CBn _ _),AP,bT hd,AP,PAr hd,Aw5];cases Ave d;·rfl
 cases (Dl DI (AwM k (Ih d Fa).1).1).2;·rfl
 grind
theorem Vg {b:Bo} {t:Int} (h:b.AZ.length<=140737488351232):Qx b t=some (match C9 b.AZ t with | some x=>(x,true) | none=>(YC,false)):=by
 have hp:=DBK t b.AZ 0;simp only [Qx,KA4,mk,IBB h,AP];cases hq:NC b.AZ t 0 with
 | none=>rw [hq] at hp;simp only at hp ⊢;rw [hp];rfl
 | some j=>
  grind
theorem HBo {b:Ap} (hl:b.BD.length<=140737488351232) (ht:b.AU.AZ.length<=140737488351232):yI b=some (Vh b):=by
 have key:∀ (j i m:Nat),i+j=b.BD.length->nH (m+j+1) (.c0 b.BD (b.BD.length:Int) (i:Int) b)=some (QY b j i):=by
  intro j;induction j with
  | zero=>
   intro i m hi;rw [nH];simp only [MAn,mk];rw [AsB (by simp_all)];rfl
  | succ j ih=>
   intro i m hi;have hw:AV ((i:Int)+1)=((i+1:Nat):Int):=by grind [A8]
   have d1:decide ((i:Int)<(b.BD.length:Int))=true:=Ba (by omega);have d0:decide ((0:Int)<=(i:Int))=true:=Ba (by omega);rw [AwB m j,nH];simp only [MAn,mk,Vg ht,AvD,AP,d0,d1,Bool.and_self,Ar,BR,hw,ih (i+1) m (by omega),QY,Aql];grind [A8,BR]
 obtain ⟨m,hm⟩:=gm (n:=b.BD.length) (by omega)
 rw [yI,LA4,mk,hm];exact key b.BD.length 0 m (Nat.zero_add _)
theorem VBB {b:Ap} (hd:b.Bc.Ak.length<=140737488351232) (hf:∀ f ∈ b.Bc.Ak,f.fText.size<=140737488351232) (ht:b.AU.AZ.length<=140737488351232) (hs:b.BP.length<=140737488351232) (hl:b.BD.length<=140737488351232):Zm b=some (O4 b):=by
 rw [Zm,MA4,mk,bT hd,AvD,O4];simp only [AP,bne];cases hz:(b.BO.size:Int) == 32;·rfl
 have hk:b.BO.size<=900000000:=by grind
 obtain ⟨l1,l2⟩:=JAr b.BO b.Bc
 have key:b.CZ=true->∀ (j i m:Nat),i+j=b.BP.length->i<=3->nI (m+j+1) (.c0 b.BP (b.BP.length:Int) (i:Int) b)=some (decide ((b.BP.length:Int)<=3) && (Oa b j i && Xy b)):=by
  intro hup j;induction j with
  | zero=>
   intro i m hi h3;rw [nI];simp only [yJ,mk];rw [AsB (by simp_all),Xy,hup,Ba (by omega:(b.BP.length:Int)<=3)];simp only [UBB hk hd hf,RBB (show (Aw5 b.BO b.Bc).1.AZ.length<=140737488351232 by omega),SBM ht,HBo hl ht,AP];cases (Aw5 b.BO b.Bc).2.2 <;> cases ((Aw5 b.BO b.Bc).2.1.length:Int) == 0 <;> cases G9 b.AU <;> cases QM (Aw5 b.BO b.Bc).1 b.AU <;> rfl
  | succ j ih=>
   intro i m hi h3;have hw:AV ((i:Int)+1)=((i+1:Nat):Int):=by grind [A8]
   have d1:decide ((i:Int)<(b.BP.length:Int))=true:=Ba (by omega);have d0:decide ((0:Int)<=(i:Int))=true:=Ba (by omega);rw [AwB m j,nI];by_cases h4:i=3;·simp_all [yJ,mk,D6]
   have d3:decide ((i:Int)>=3)=false:=D6 (by omega);simp only [yJ,mk,AvD,AP,d0,d1,d3,Bool.and_self,Ar,Aq,BR,hw,ih (i+1) m (by omega) (by omega),Oa,aU];cases Bl (b.BP.getD i ⟨0,false⟩).fId 1 b.CW;all_goals grind [A8,decide,BR]
 cases hdk:Ave b.Bc;·rfl
 cases ho:Bl b.CW 0 1000;·simp
 cases hup:b.CZ
 ·rw [Xy,hup];simp only [lM,RBB ht,AP,Bool.not_false,DN,Ar,Aq,Bool.true_and];cases hn:(b.BP.length:Int) == 0;·simp
  ·have hn0:b.BP.length=0:=by simp_all
   rw [hn0];grind [Oa]
 ·obtain ⟨m,hm⟩:=gm (n:=b.BP.length) (by omega)
  have h0:=key hup b.BP.length 0 m (Nat.zero_add _) (by omega);simp_all
def OL (c:CV):Bool:=Bl c.Au 1 13 && Bl c.EJ 0 1000 && Bl c.Ag 0 1000 && Bl c.Aj 0 3 && decide ((c.fText.size:Int)<=1000)
theorem IBo (c:CV):PAp c=some (OL c):=by simp only [PAp,VA8,mk,Ho,AP,OL];grind
theorem KBN (c:CV):yK c=some (OL c):=by simp only [yK,YA3,mk,AvD,AP,OL];grind
def Jg:List EG->Int->Nat->Option Nat
 | [],_,_=>none
 | l::ls,t,i=>if l.fId == t then some i else Jg ls t (i+1)
theorem QAr {t:Int}:∀ {ls:List EG} {i j:Nat},Jg ls t i=some j->i<=j/\j<i+ls.length:=by intro ls;induction ls<;>grind [Jg]
def Gl (b:Ap) (t:Int):Int:=match Jg b.BP t 0 with | some j=>(j:Int) | none=> -1
theorem tJ {b:Ap} {t:Int} (h:b.BP.length<=140737488351232):nJ b t=some (Gl b t):=by
 have key:∀ (j i m:Nat),i+j=b.BP.length->nK (m+j+1) (.c0 t b.BP (b.BP.length:Int) (i:Int))=some (match Jg (b.BP.drop i) t i with | some j=>(j:Int) | none=> -1):=by
  intro j;induction j with
  | zero=>
   intro i m hi;rw [nK];simp only [OAn,mk];rw [AsB (by simp_all),List.drop_of_length_le (by omega)];rfl
  | succ j ih=>
   intro i m hi;have hil:i<b.BP.length:=by omega
   have hw:AV ((i:Int)+1)=((i+1:Nat):Int):=by grind [A8]
   grind [nK,OAn,BR,drop_at,Jg]
 obtain ⟨m,hm⟩:=gm (n:=b.BP.length) (by omega)
 rw [nJ,TA4,mk,hm];exact key b.BP.length 0 m (Nat.zero_add _)
def tK (n:Int):AA:=[(⟨#[]⟩:AA),⟨#[102,117,108,108]⟩,⟨#[115,101,115,115,105,111,110]⟩,⟨#[108,111,99,107,101,100]⟩,⟨#[119,111,114,100]⟩,⟨#[111,117,116]⟩,⟨#[119,114,111,110,103]⟩,⟨#[110,111,110,101]⟩,⟨#[112,111,108,105,99,121]⟩,⟨#[100,111,119,110]⟩].getD n.toNat ⟨#[]⟩
def Avu (n:Int):List Ah×Int×AA:=([],n,tK n)
theorem O7 {n:Int} (h:0<=n/\n<10):YD n=some (Avu n):=by rw [YD,RA4,mk,AL (by simp_all)];rfl
noncomputable def iP (b:Ap) (c:CV):List Ah×Int×AA:=
 bif decide (b.AU.DU>=3) then Avu 3
 else bif !((EM c.fText).toList == b.AU.Bv.toList) then ([⟨2,⟨#[]⟩,b.AU.DU+1,⟨0,0,false,false,false,false,⟨#[]⟩,0⟩⟩],4,tK 4)
 else bif b.AU.DU == 0 then ([],0,⟨#[]⟩) else ([⟨2,⟨#[]⟩,0,⟨0,0,false,false,false,false,⟨#[]⟩,0⟩⟩],0,⟨#[]⟩)
theorem JBo {b:Ap} {c:CV} (ht:0<=b.AU.DU) (hc:c.fText.size<=1000000000):PAn b c=some (iP b c):=by
 rw [PAn,UA4,mk,iP];simp only [O7 (n:=3) (by decide),O7 (n:=4) (by decide),Ar2 hc,AP];by_cases h:b.AU.DU>=3;·simp_all
 ·rw [D6 h,A8 (by omega) (by omega)];cases !((EM c.fText).toList == b.AU.Bv.toList) <;> cases b.AU.DU == 0 <;> rfl
theorem Good.pOk {k:AA} {l:List Ah} {b:Ap} (g:Good k l b):Zm b=some true:=by have hs:=g.small;have h1:=hs.1;have h2:=g.Xz;have h3:=g.MP.1;have h4:=g.Kt.2;rw [VBB (by omega) (fun f hf=>by have:=hs.2 f hf;omega) (by omega) (by omega) (by omega),g.ok]
theorem LBN {c:CV} (h:OL c=true):c.fText.size<=1000:=by grind [OL]
def defaults (kind:Int) (data:AA):Af×Bool:=
 bif kind == 1 then (⟨0,kind,true,false,false,true,EM data,0⟩,true)
 else bif kind == 2 then (⟨0,kind,true,false,true,false,EM data,0⟩,true)
 else bif kind == 3 then (bif decide ((data.size:Int)<=100) then (⟨0,kind,false,false,false,false,data,0⟩,true) else (⟨0,0,false,false,false,false,⟨#[]⟩,0⟩,false))
 else (⟨0,0,false,false,false,false,⟨#[]⟩,0⟩,false)
theorem LBo (kind:Int) {data:AA} (h:data.size<=1000000000):BAk kind data=some (defaults kind data):=by simp only [BAk,VAx,mk,LJ h,AP,defaults];grind
theorem MBo (kind:Int) {data:AA} (h:data.size<=1000000000):QAn kind data=some (defaults kind data):=by simp only [QAn,VA4,mk,Ar2 h,AP,defaults];grind
def b1 (n:Int):AA:=ofBytes [n]
theorem Hl (n:Int):(b1 n).size=1:=by rfl
def EK (s:AA):AA:=(EM s).extract 0 4
theorem Ry (s:AA):(EK s).size=4:=by rfl
def Arh (leaf chain:Int):Nat->Int->AA->AA
 | 0,_,x=>x
 | n+1,f,x=>Arh leaf chain n (f+1) (EK (b1 leaf++b1 chain++b1 f++x))
theorem NBo {leaf chain:Int}:∀ (n:Nat) (f:Int) (x:AA),x.size=4->(Arh leaf chain n f x).size=4:=by
 intro n;induction n with
 | zero=>intro f x h;exact h
 | succ n ih=>intro f x h;exact ih _ _ (Ry _)
theorem Zr (leaf chain:Int) (f:Int) (x:AA):∀ n:Nat,Arh leaf chain (n+1) f x=EK (b1 leaf++b1 chain++b1 (f+n)++Arh leaf chain n f x):=by intro n;induction n generalizing f x<;>grind [Arh]
def Zp:AA:=⟨#[111]⟩
def Zt:AA:=⟨#[110]⟩
def keyAt (seed:AA) (leaf c:Int):AA:=EK (seed++b1 leaf++b1 c++Zp)
def IC (seed:AA) (leaf:Int) (n:Nat):List AA:=(List.range n).map fun c:Nat=>keyAt seed leaf (c:Int)
def Aqg:List AA->AA
 | []=>⟨#[]⟩
 | x::xs=>x++Aqg xs
theorem OBo (s:AA):(⟨#[]⟩:AA)++s=s:=Jm (by rfl)
theorem iq (s:AA):s++(⟨#[]⟩:AA)=s:=Jm (by simp [Aq7,IBh])
theorem uj (a b c:AA):a++b++c=a++(b++c):=Jm (by simp [Aq7])
theorem RAr (a b:List AA):Aqg (a++b)=Aqg a++Aqg b:=by induction a<;>simp_all [OBo,Aqg,uj]
theorem Av1 {l:List AA} {n:Nat} (h:∀ x ∈ l,x.size=n):(Aqg l).size=l.length*n:=by
 induction l with
 | nil=>simp [Aqg];rfl
 | cons x xs ih=>grind [Aqg]
def Arc (level place:Int) (a b:AA):AA:=EK (b1 level++b1 place++a++b++Zt)
theorem nbq (a b:Nat):Nat.beq a b=decide (a=b):=by grind [Ea,Nat.beq_refl]
theorem yL {s:AA} (h:s.size<=1000000000):PN s=some (EK s):=by rw [PN,HA5,mk,Ar2 h,AP,Aro,AL (by rfl)];rfl
theorem MBN {s:AA} {leaf:Int} (hl:0<=leaf/\leaf<=255) (hs:s.size<=100000):nM s leaf=some (IC s leaf 10):=by
 have key:∀ (j i m:Nat),i+j=10->bg (m+j+1) (.c0 s leaf (i:Int) (IC s leaf i))=some (IC s leaf 10):=by
  intro j;induction j with
  | zero=>
   grind [bg,WAn]
  | succ j ih=>
   intro i m hi;have hw:AV ((i:Int)+1)=((i+1:Nat):Int):=by grind [A8]
   have ho:(IC s leaf i).length=i:=by simp [IC]
   have hm:IC s leaf i++[keyAt s leaf (i:Int)]=IC s leaf (i+1):=by simp [IC,List.range_succ]
   rw [AwB m j,bg];simp only [WAn,mk,hw];rw [AL (by grind),LD hl.1 hl.2,AP];show (bif decide (s.size+(b1 leaf).size<=_) then _ else _)=_;rw [AL (by grind [Hl]),LD (by omega) (by omega),AP];show (bif decide ((s++b1 leaf).size+(b1 (i:Int)).size<=_) then _ else _)=_;rw [AL (by grind [Hl])];show (bif decide ((s++b1 leaf++b1 (i:Int)).size+Zp.size<=_) then _ else _)=_;have hO:Zp.size=1:=rfl;rw [AL (by grind [Hl])];show (PN (s++b1 leaf++b1 (i:Int)++Zp)).bind _=_;rw [yL (by grind [Hl]),AP,ho,AL (by grind)];show bg (m+j+1) (.c0 s leaf ((i+1:Nat):Int) (IC s leaf i++[keyAt s leaf (i:Int)]))=_;rw [hm];exact ih (i+1) m (by omega)
 obtain ⟨m,hm⟩:∃ m,AY=m+10+1:=⟨AY - 11,by rfl⟩
 rw [nM,IA5,hm];exact key 10 0 m rfl
theorem NBN {x:AA} {leaf chain:Int} {f n:Nat} (hl:0<=leaf/\leaf<=255) (hc:0<=chain/\chain<=255) (hn:n<=15) (hf:f+n<=255) (hx:x.size<=100000):V9 x leaf chain (f:Int) (n:Int)=some (Arh leaf chain n f x):=by
 have hs:∀ i,(Arh leaf chain i f x).size<=100000:=fun i=>by
  cases i with
  | zero=>exact hx
  | succ i=>simp [Zr,Ry]
 have key:∀ (j i m:Nat),i+j=n->nN (m+j+1) (.c0 (Arh leaf chain i f x) leaf chain (f:Int) (n:Int) (i:Int))=some (Arh leaf chain n f x):=by
  intro j;induction j with
  | zero=>
   grind [nN,ZAn]
  | succ j ih=>
   intro i m hi;have hw:AV ((i:Int)+1)=((i+1:Nat):Int):=by grind [A8]
   have hsi:=hs i;have hm:=Zr leaf chain f x i;rw [AwB m j,nN];simp only [ZAn,mk,hw];rw [AL (by grind),LD hl.1 hl.2,AP,LD hc.1 hc.2,AP,A8 (by omega) (by omega),LD (by omega) (by omega)];grind [b1,Hl,Arh,yL]
 obtain ⟨m,hm⟩:=gm (n:=n) (by omega)
 have hi:(ite ((15:Int)<(n:Int)) 15 (n:Int))=(n:Int):=if_neg (by omega);rw [V9,LA5,hi,hm];exact key n 0 m (Nat.zero_add _)
def MR (keys:List AA) (leaf:Int) (n:Nat):List AA:=(List.range n).map fun c:Nat=>Arh leaf (c:Int) 15 0 (keys.getD c ⟨#[]⟩)
theorem SAr {keys:List AA} {leaf:Int} {n:Nat}:∀ x ∈ MR keys leaf n,x.size=4:=fun x hx=>by grind [MR,Zr,Ry]
theorem TAr (keys:List AA) (leaf:Int) (n:Nat):(MR keys leaf n).length=n:=by simp [MR]
def Vl (keys:List AA) (leaf:Int):AA:=EK (Aqg (MR keys leaf 10))
theorem QBo {keys:List AA} {leaf:Int} (hk:keys.length=10) (hl:0<=leaf/\leaf<=255) (hs:∀ x ∈ keys,x.size<=100000):yM keys leaf=some (Vl keys leaf):=by
 have key:∀ (j i m:Nat),i+j=10->YE (m+j+1) (.c0 leaf 362 363 (Aqg (MR keys leaf i)) keys ((keys.length:Nat):Int) (i:Int))=some (Vl keys leaf):=by
  intro j;induction j with
  | zero=>
   intro i m hi;obtain rfl:i=10:=by omega
   have hz:=Av1 (SAr (keys:=keys) (leaf:=leaf) (n:=10));rw [TAr] at hz;rw [YE];simp only [AF9,mk];rw [hk,AsB (by rfl),yL (by omega)];rfl
  | succ j ih=>
   intro i m hi;have hlt:i<keys.length:=by omega
   have hw:=Fq (i:=i) (by omega);have hz:=Av1 (SAr (keys:=keys) (leaf:=leaf) (n:=i));rw [TAr] at hz;have hc:=Zr leaf (i:Int) 0 keys[i] 14;have hc2:(Arh leaf (i:Int) 15 0 keys[i]).size=4:=by rw [hc];exact Ry _
   have hm:Aqg (MR keys leaf i)++Arh leaf (i:Int) 15 0 keys[i]=Aqg (MR keys leaf (i+1)):=by rw [MR,MR,List.range_succ,List.map_append,RAr,List.map_cons,List.map_nil,Aqg,Aqg,iq,getD_at hlt]
   rw [AwB m j,YE];simp only [AF9,mk,hw,BR,getD_at hlt];rw [Ep (by omega),GX (by omega)];simp only [nbq,Nat.reduceEqDiff,decide_true,decide_false,Ar,Aq,XAn,JA5,YAn,KA5,AP];have hch:=NBN (x:=keys[i]) (leaf:=leaf) (chain:=(i:Int)) (f:=0) (n:=15) hl (by omega) (Nat.le_refl _) (by omega) (hs _ (List.getElem_mem hlt));rw [show V9 keys[i] leaf (i:Int) 0 15=_ from hch,AP];show (bif decide ((Aqg (MR keys leaf i)).size+(Arh leaf (i:Int) 15 0 keys[i]).size<=_) then YE (m+j+1) (.c0 leaf 362 363 (Aqg (MR keys leaf i)++Arh leaf (i:Int) 15 0 keys[i]) keys ((keys.length:Nat):Int) ((i+1:Nat):Int)) else none)=_;rw [Ep (by rw [hc2];omega),hm];exact ih (i+1) m (by omega)
 obtain ⟨m,hm⟩:=gm (n:=10) (by omega)
 rw [yM,OA5,mk,NA5,MA5,mk,AsB (by rw [hk];rfl),hm];show (YE (m+10+1) (.c0 leaf 362 363 (Aqg (MR keys leaf 0)) keys ((keys.length:Nat):Int) ((0:Nat):Int))).bind _=_;rw [key 10 0 m rfl];rfl
theorem RBo (keys:List AA) (leaf:Int):(Vl keys leaf).size=4:=Ry _
def MS (s:AA) (n:Nat):List AA:=(List.range n).map fun l:Nat=>Vl (IC s (l:Int) 10) (l:Int)
theorem uN (s:AA) (leaf:Int) (n:Nat):(IC s leaf n).length=n:=by simp [IC]
theorem uO {s:AA} {leaf:Int} {n:Nat}:∀ x ∈ IC s leaf n,x.size=4:=fun x hx=>by
 rw [IC,List.mem_map] at hx;obtain ⟨c,_,rfl⟩:=hx
 rfl
theorem OBN {s:AA} (hs:s.size<=100000):yN s=some (MS s 4):=by
 have key:∀ (j i m:Nat),i+j=4->nP (m+j+1) (.c0 s (i:Int) (MS s i))=some (MS s 4):=by
  intro j;induction j with
  | zero=>
   grind [nP,BAo]
  | succ j ih=>
   intro i m hi;have hw:AV ((i:Int)+1)=((i+1:Nat):Int):=by grind [A8]
   have ho:(MS s i).length=i:=by simp [MS]
   have hm:MS s i++[Vl (IC s (i:Int) 10) (i:Int)]=MS s (i+1):=by simp [MS,List.range_succ]
   rw [AwB m j,nP];simp only [BAo,mk,hw];rw [AL (by grind),MBN (by omega) hs,AP,QBo (uN _ _ _) (by omega) (fun x hx=>by grind [uO]),AP,ho,AL (by grind),hm];exact ih (i+1) m (by omega)
 obtain ⟨m,hm⟩:∃ m,AY=m+4+1:=⟨AY - 5,by rfl⟩
 rw [yN,PA5,hm];exact key 4 0 m rfl
theorem WBB {level place:Int} {a b:AA} (hl:0<=level/\level<=255) (hp:0<=place/\place<=255) (ha:a.size<=100000) (hb:b.size<=100000):YF level place a b=some (Arc level place a b):=by have hN:Zt.size=1:=rfl;rw [YF,QA5,mk,LD hl.1 hl.2,AP,LD hp.1 hp.2,AP];show (bif decide ((b1 level).size+(b1 place).size<=_) then _ else _)=_;rw [AL (by rfl)];show (bif decide ((b1 level++b1 place).size+a.size<=_) then _ else _)=_;rw [AL (by grind [Hl])];show (bif decide ((b1 level++b1 place++a).size+b.size<=_) then _ else _)=_;rw [AL (by grind [Hl])];show (bif decide ((b1 level++b1 place++a++b).size+Zt.size<=_) then _ else _)=_;rw [AL (by grind [Hl])];show (PN (b1 level++b1 place++a++b++Zt)).bind _=_;rw [yL (by grind [Hl])];rfl
theorem Aq5 (level place:Int) (a b:AA):(Arc level place a b).size=4:=Ry _
theorem PBN {lv:Int} {a b c d:AA} (hl:0<=lv/\lv<=255) (ha:a.size<=100000) (hb:b.size<=100000) (hc:c.size<=100000) (hd:d.size<=100000):WA lv [a,b,c,d]=some [Arc lv 0 a b,Arc lv 1 c d]:=by
 obtain ⟨m,hm⟩:∃ m,AY=m+1+1+1:=⟨AY - 3,rfl⟩
 rw [WA,CAo,hm,YG];simp only [yO,mk];rw [AL (by rfl),AL (by rfl),AL (by rfl)];show (YF lv 0 a b).bind _=_;rw [WBB hl (by omega) ha hb,AP,AL (by rfl),YG];simp only [yO,mk];rw [AL (by rfl),AL (by rfl),AL (by rfl)];show (YF lv 1 c d).bind _=_;rw [WBB hl (by omega) hc hd,AP,AL (by rfl),YG];rfl
theorem QBN {lv:Int} {a b:AA} (hl:0<=lv/\lv<=255) (ha:a.size<=100000) (hb:b.size<=100000):WA lv [a,b]=some [Arc lv 0 a b]:=by
 obtain ⟨m,hm⟩:∃ m,AY=m+1+1:=⟨AY - 2,rfl⟩
 rw [WA,CAo,hm,YG];simp only [yO,mk];rw [AL (by rfl),AL (by rfl),AL (by rfl)];show (YF lv 0 a b).bind _=_;rw [WBB hl (by omega) ha hb,AP,AL (by rfl),YG];rfl
def XBB (a b c d:AA):AA:=Arc 2 0 (Arc 1 0 a b) (Arc 1 1 c d)
theorem SBo {a b c d:AA} (ha:a.size<=100000) (hb:b.size<=100000) (hc:c.size<=100000) (hd:d.size<=100000):EAo [a,b,c,d]=some (XBB a b c d):=by
 obtain ⟨m,hm⟩:∃ m,AY=m+1+1+1:=⟨AY - 3,rfl⟩
 have n1:=Aq5 1 0 a b;have n2:=Aq5 1 1 c d;rw [EAo,RA5,mk,AsB (by rfl),hm,nR];simp only [DAo,mk];rw [AL (by rfl),PBN (by omega) ha hb hc hd,AP,show AV (1+1)=2 by rfl,nR];simp only [DAo,mk];rw [AL (by rfl),QBN (by omega) (by omega) (by omega),AP,nR];rfl
def Qe (s:AA) (l:Int):AA:=Vl (IC s l 10) l
theorem Ary (s:AA) (l:Int):(Qe s l).size=4:=RBo _ _
theorem UAr (s:AA):MS s 4=[Qe s 0,Qe s 1,Qe s 2,Qe s 3]:=rfl
def Tn (s:AA):AA:=XBB (Qe s 0) (Qe s 1) (Qe s 2) (Qe s 3)
theorem VAr (s:AA):(Tn s).size=4:=Aq5 _ _ _ _
theorem RBN {s:AA} (hs:s.size<=100000):nS s=some (Tn s):=by rw [nS,SA5,mk,OBN hs,AP,UAr,SBo (by simp [Ary]) (by simp [Ary]) (by simp [Ary]) (by simp [Ary])];rfl
theorem TBo {b:Int} (h:0<=b/\b<=255):AV (Int.fdiv b (2 ^ (Min.min (4:Int).toNat (IntKind.bits IntKind.u8))))=b / 16:=by grind [IntKind.bits,A8]
theorem UBo {b:Int} (h:0<=b/\b<=255):AV (w8 (((BitVec.toNat ((BitVec.ofInt (IntKind.bits IntKind.u8) b) &&& (BitVec.ofInt (IntKind.bits IntKind.u8) 15))):Nat):Int))=b % 16:=by
 obtain ⟨n,rfl⟩:∃ n:Nat,b=(n:Int):=⟨b.toNat,by omega⟩
 have e:(BitVec.ofInt (IntKind.bits IntKind.u8) (n:Int) &&& BitVec.ofInt (IntKind.bits IntKind.u8) 15).toNat=n % 16:=by show (BitVec.ofInt 8 (n:Int) &&& BitVec.ofInt 8 15).toNat=_;rw [BitVec.toNat_and,BitVec.ofInt_natCast,BitVec.toNat_ofNat,Nat.mod_eq_of_lt (by omega),show (BitVec.ofInt 8 15).toNat=2 ^ 4 - 1 by decide,Nat.and_two_pow_sub_one_eq_mod]
 grind [Nq,A8]
def Awa:List Int->List Int
 | []=>[]
 | b::bs=>b / 16::b % 16::Awa bs
theorem SBN (a b:List Int):Awa (a++b)=Awa a++Awa b:=by induction a<;>simp_all [Awa]
theorem uV (a:List Int):(Awa a).length=2*a.length:=by induction a<;>grind [Awa]
theorem WAr {a:List Int} (h:Aqy a):∀ d ∈ Awa a,0<=d/\d<=15:=by
 induction a with
 | nil=>intro d hd;cases hd
 | cons x xs ih=>
  intro d hd;have hx:=h x (List.mem_cons_self ..);rw [Awa,List.mem_cons,List.mem_cons] at hd;rcases hd with rfl | rfl | hd
  ·omega
  ·omega
  ·exact ih (fun y hy=>h y (List.mem_cons_of_mem _ hy)) d hd
def Nj:List Int->Int
 | []=>0
 | d::ds=>15 - d+Nj ds
theorem TBN (a b:List Int):Nj (a++b)=Nj a+Nj b:=by induction a<;>grind [Nj]
theorem uX {a:List Int} (h:∀ d ∈ a,0<=d/\d<=15):0<=Nj a/\Nj a<=15*(a.length:Int):=by
 induction a with
 | nil=>exact ⟨Int.le_refl _,Int.le_refl _⟩
 | cons x xs ih=>
  have hx:=h x (List.mem_cons_self ..);have:=ih (fun y hy=>h y (List.mem_cons_of_mem _ hy));grind [Nj]
def QH (m:AA):List Int:=Awa (bs (EK m))++[Nj (Awa (bs (EK m))) / 16,Nj (Awa (bs (EK m))) % 16]
theorem UBN (m:AA):(QH m).length=10/\∀ d ∈ QH m,0<=d/\d<=15:=by have h1:=WAr (Jj (EK m));have h2:=uV (bs (EK m));have h3:=uX h1;grind [bs_len,Ry,QH]
theorem VBo {s:AA} (hs:s.size<=1000000000):yP s=some (QH s):=by
 have hz:=Ry s;have hin:=WAr (Jj (EK s));have hln:=uV (bs (EK s));rw [bs_len,hz] at hln;have Cq:∀ (j i m:Nat),i+j=8->WB (m+j+1) (.c1 (Nj ((Awa (bs (EK s))).take i)) ((8:Nat):Int) (i:Int) (Awa (bs (EK s))))=some (QH s):=by
  intro j;induction j with
  | zero=>
   intro i m hi;obtain rfl:i=8:=by omega
   have h3:=uX hin;rw [List.take_of_length_le (by omega),WB];simp only [nT,mk];rw [AsB (by rfl),AL (by simp_all),Int.tdiv_eq_ediv_of_nonneg h3.1,Int.tmod_eq_emod_of_nonneg h3.1,A8 (by omega) (by omega)];rfl
  | succ j ih=>
   intro i m hi;have hlt:i<(Awa (bs (EK s))).length:=by omega
   have hw:AV ((i:Int)+1)=((i+1:Nat):Int):=by grind [A8]
   have h3:=uX (a:=(Awa (bs (EK s))).take i) (fun d hd=>hin d (List.mem_of_mem_take hd));have h4:=hin _ (List.getElem_mem hlt);have hl:((Awa (bs (EK s))).take i).length<=8:=by grind
   have hm:Nj ((Awa (bs (EK s))).take i)+(15 - (Awa (bs (EK s)))[i])=Nj ((Awa (bs (EK s))).take (i+1)):=by rw [take_at hlt,TBN,Nj,Nj];omega
   rw [AwB m j,WB];grind [nT,BR,A8]
 have C1:∀ (j i m:Nat),i+j=4->WB (m+9+j+1) (.c0 0 (EK s) (i:Int) (Awa ((bs (EK s)).take i)))=some (QH s):=by
  intro j;induction j with
  | zero=>
   intro i m hi;obtain rfl:i=4:=by omega
   rw [WB];simp only [nT,mk];rw [AsB (by rfl),List.take_of_length_le (by grind [bs_len]),hln];exact Cq 8 0 m rfl
  | succ j ih=>
   intro i m hi;have hlt:i<(EK s).size:=by omega
   have hlt2:i<(bs (EK s)).length:=by grind [bs_len]
   have hw:AV ((i:Int)+1)=((i+1:Nat):Int):=by grind [A8]
   have hb:=Rz (EK s) (i:Int);have hl:(Awa ((bs (EK s)).take i)).length<=8:=by grind [uV]
   have hm:Awa ((bs (EK s)).take i)++[bt (EK s) (i:Int) / 16,bt (EK s) (i:Int) % 16]=Awa ((bs (EK s)).take (i+1)):=by rw [take_at hlt2,SBN,jB hlt];rfl
   rw [show m+9+(j+1)+1=(m+9+j+1)+1 from rfl,WB];simp only [nT,mk,hw,TBo hb,UBo hb];rw [AL (by grind),AL (by grind),AL (by grind),AL (by grind),hm];exact ih (i+1) m (by omega)
 obtain ⟨m,hm⟩:∃ m,AY=m+9+4+1:=⟨AY - 14,by rfl⟩
 rw [yP,TA5,yL hs,AP,hm];exact C1 4 0 m rfl
def MV (keys:List AA) (leaf:Int) (ds:List Int) (n:Nat):List AA:=(List.range n).map fun c:Nat=>Arh leaf (c:Int) (ds.getD c 0).toNat 0 (keys.getD c ⟨#[]⟩)
theorem WBo {x:AA} {leaf d:Int} {i:Nat} (hl:0<=leaf/\leaf<=255) (hi:i<10) (hx:x.size<=100000) (hd:0<=d/\d<=15):V9 x leaf (i:Int) 0 d=some (Arh leaf (i:Int) d.toNat 0 x):=by
 obtain ⟨n,rfl⟩:∃ n:Nat,d=(n:Int):=⟨d.toNat,by omega⟩
 rw [BR];exact NBN (f:=0) (n:=n) hl (by omega) (by omega) (by omega) hx
theorem XBo {keys:List AA} {leaf:Int} {s:AA} (hk:keys.length=10) (hl:0<=leaf/\leaf<=255) (hs:∀ x ∈ keys,x.size<=100000) (hm:s.size<=1000000000):GAo keys leaf s=some (MV keys leaf (QH s) 10):=by
 obtain ⟨d1,d2⟩:=UBN s
 have hdig:=VBo hm;generalize QH s=D at d1 d2 hdig;have key:∀ (j i m:Nat),i+j=10->nU (m+j+1) (.c0 leaf keys ((keys.length:Nat):Int) (i:Int) D (MV keys leaf D i))=some (MV keys leaf D 10):=by
  intro j;induction j with
  | zero=>
   grind [nU,FAo]
  | succ j ih=>
   intro i m hi;have hlt:i<keys.length:=by omega
   have hlt2:i<D.length:=by omega
   have hw:AV ((i:Int)+1)=((i+1:Nat):Int):=by grind [A8]
   have hd:=d2 _ (List.getElem_mem hlt2);have ho:(MV keys leaf D i).length=i:=by simp [MV]
   have hstep:MV keys leaf D i++[Arh leaf (i:Int) D[i].toNat 0 keys[i]]=MV keys leaf D (i+1):=by grind [MV,List.range_succ]
   have hch:=WBo hl (show i<10 by omega) (hs _ (List.getElem_mem hlt)) hd;grind [nU,FAo,BR]
 obtain ⟨m,hm2⟩:∃ m,AY=m+10+1:=⟨AY - 11,by rfl⟩
 rw [GAo,UA5,mk,AsB (by simp_all),hdig,AP,hm2];exact key 10 0 m rfl
def jD (a b c d:AA) (leaf:Int):List AA:=
 if leaf=0 then [b,Arc 1 1 c d] else if leaf=1 then [a,Arc 1 1 c d] else if leaf=2 then [d,Arc 1 0 a b] else [c,Arc 1 0 a b]
theorem XAr {a b c d:AA} {m:Nat} {leaf AD up:Int} (ha:a.size<=100000) (hb:b.size<=100000) (hc:c.size<=100000) (hd:d.size<=100000) (hs:AV (((BitVec.toNat ((BitVec.ofInt (IntKind.bits IntKind.i64) leaf) ^^^ (BitVec.ofInt (IntKind.bits IntKind.i64) 1))):Nat):Int)=AD) (h0:0<=AD/\AD<4) (hu:AV (leaf.tdiv 2)=up) :
  YH (m+1) (.c0 [a,b,c,d] leaf 1 [])=YH m (.c1 up 2 [Arc 1 0 a b,Arc 1 1 c d] [[a,b,c,d].getD AD.toNat ⟨#[]⟩]):=by
 simp_all [YH,HAo,mk,PBN,A8]
theorem YAr {a b x:AA} {m:Nat} {leaf AD:Int} (ha:a.size<=100000) (hb:b.size<=100000) (hs:AV (((BitVec.toNat ((BitVec.ofInt (IntKind.bits IntKind.i64) leaf) ^^^ (BitVec.ofInt (IntKind.bits IntKind.i64) 1))):Nat):Int)=AD) (h0:0<=AD/\AD<2) :
  YH (m+1+1) (.c1 leaf 2 [a,b] [x])=some [x,[a,b].getD AD.toNat ⟨#[]⟩]:=by
 simp_all [YH,HAo,mk,QBN]
theorem YBo {a b c d:AA} {leaf:Int} (hl:0<=leaf/\leaf<=3) (ha:a.size<=100000) (hb:b.size<=100000) (hc:c.size<=100000) (hd:d.size<=100000):IAo [a,b,c,d] leaf=some (jD a b c d leaf):=by
 obtain ⟨m,hm⟩:∃ m,AY=m+1+1+1:=⟨AY - 3,rfl⟩
 have n1:=Aq5 1 0 a b;have n2:=Aq5 1 1 c d;rw [IAo,VA5,mk,AsB (by rfl),AvD,AP,Na.2 hl,DN,Aq,hm];have h4:leaf=0\/leaf=1\/leaf=2\/leaf=3:=by omega
 rcases h4 with rfl | rfl | rfl | rfl
 ·rw [XAr (AD:=1) (up:=0) ha hb hc hd (by decide) (by omega) (by decide),YAr (AD:=1) (by omega) (by omega) (by decide) (by omega)];rfl
 ·rw [XAr (AD:=0) (up:=0) ha hb hc hd (by decide) (by omega) (by decide),YAr (AD:=1) (by omega) (by omega) (by decide) (by omega)];rfl
 ·rw [XAr (AD:=3) (up:=1) ha hb hc hd (by decide) (by omega) (by decide),YAr (AD:=0) (by omega) (by omega) (by decide) (by omega)];rfl
 ·rw [XAr (AD:=2) (up:=1) ha hb hc hd (by decide) (by omega) (by decide),YAr (AD:=0) (by omega) (by omega) (by decide) (by omega)];rfl
theorem ZBo {a b c d:AA} {leaf:Int} (ha:a.size=4) (hb:b.size=4) (hc:c.size=4) (hd:d.size=4):(jD a b c d leaf).length=2/\∀ x ∈ jD a b c d leaf,x.size=4:=by grind [jD,Aq5]
def jE (s:AA) (leaf:Int) (m:AA):IL:=⟨leaf,MV (IC s leaf 10) leaf (QH m) 10,jD (Qe s 0) (Qe s 1) (Qe s 2) (Qe s 3) leaf⟩
theorem VBN {s m:AA} {leaf:Int} (hl:0<=leaf/\leaf<=3) (hs:s.size<=100000) (hm:m.size<=1000000000):nV s leaf m=some (jE s leaf m,true):=by rw [nV,WA5,mk,AvD,AP,Na.2 hl,DN,Aq,MBN (by omega) hs,AP,XBo (uN _ _ _) (by omega) (fun x hx=>by grind [uO]) hm,AP,OBN hs,AP,UAr,YBo hl (by simp [Ary]) (by simp [Ary]) (by simp [Ary]) (by simp [Ary])];rfl
structure UU (s:IL):Prop where
 leaf:0<=s.Dv/\s.Dv<=3
 once:s.Fg.length=10/\∀ x ∈ s.Fg,x.size=4
 path:s.Gn.length=2/\∀ x ∈ s.Gn,x.size=4
theorem Ag6 {keys:List AA} {leaf:Int} {ds:List Int} {n:Nat} (hk:keys.length=n) (h:∀ x ∈ keys,x.size=4):(MV keys leaf ds n).length=n/\∀ x ∈ MV keys leaf ds n,x.size=4:=by grind [MV,NBo]
theorem ZAr {s m:AA} {leaf:Int} (hl:0<=leaf/\leaf<=3):UU (jE s leaf m):=⟨hl,Ag6 (uN _ _ _) uO,ZBo (Ary _ _) (Ary _ _) (Ary _ _) (Ary _ _)⟩
theorem WBN {l:List AA} {n:Nat} (h:l.length=n) (hs:∀ x ∈ l,x.size=4) (hn:n<=1000):KAo l (n:Int)=some true:=by
 have key:∀ (j i m:Nat),i+j=l.length->yQ (m+j+1) (.c0 l (n:Int) l ((l.length:Nat):Int) (i:Int))=some true:=by intro j;induction j<;>grind [yQ,ZA5,A8]
 obtain ⟨m,hm⟩:=gm (n:=l.length) (by omega)
 rw [KAo,YA5,mk,hm];exact key l.length 0 m (Nat.zero_add _)
theorem BBp {s:IL} (h:UU s):yR s=some true:=by rw [yR,AOB,mk,AvD,AP,Na.2 h.leaf,Ar];have h1:=WBN h.once.1 h.once.2 (by omega);have h2:=WBN h.path.1 h.path.2 (by omega);simp_all
def Vp (s:IL):AA:=b1 s.Dv++Aqg s.Fg++Aqg s.Gn
theorem AEH {s:IL} (h:UU s):(Vp s).size=49:=by rw [Vp,ByteArray.size_append,ByteArray.size_append,Hl,Av1 h.once.2,Av1 h.path.2,h.once.1,h.path.1]
theorem XBN {s:IL} (h:UU s):LAo s=some (Vp s,true):=by
 obtain ⟨l1,s1⟩:=h.once
 obtain ⟨l2,s2⟩:=h.path
 have pre:∀ {l:List AA} {i:Nat} (hlt:i<l.length),Aqg (l.take i)++l[i]=Aqg (l.take (i+1)):=fun {l i} hlt=>by grind [take_at,RAr,Aqg,iq]
 have CC:∀ {l:List AA} (i:Nat),(∀ x ∈ l,x.size=4)->l.length<=10->(Aqg (l.take i)).size<=40:=fun {l} i hs hl=>by rw [Av1 (fun x hx=>hs x (List.mem_of_mem_take hx)),List.length_take];omega
 have hO:=Av1 s1;have Cq:∀ (j i m:Nat),i+j=s.Gn.length->WC (m+j+1) (.c1 (b1 s.Dv++Aqg s.Fg++Aqg (s.Gn.take i)) s.Gn ((s.Gn.length:Nat):Int) (i:Int))=some (Vp s,true):=by
  intro j;induction j with
  | zero=>
   intro i m hi;rw [WC];simp only [nX,mk];rw [AsB (by simp_all),List.take_of_length_le (by omega)];rfl
  | succ j ih=>
   intro i m hi;have hlt:i<s.Gn.length:=by omega
   have hw:AV ((i:Int)+1)=((i+1:Nat):Int):=by grind [A8]
   have hz:=CC i s2 (by omega);rw [AwB m j,WC];simp only [nX,mk,hw,BR,getD_at hlt];rw [AL (by grind),AL (by grind),AL (by grind [Hl]),uj (b1 s.Dv++Aqg s.Fg),pre hlt];exact ih (i+1) m (by omega)
 have C1:∀ (j i m:Nat),i+j=s.Fg.length->WC (m+3+j+1) (.c0 (b1 s.Dv++Aqg (s.Fg.take i)) s.Fg ((s.Fg.length:Nat):Int) (i:Int) s)=some (Vp s,true):=by
  intro j;induction j with
  | zero=>
   intro i m hi;rw [WC];simp only [nX,mk];rw [AsB (by simp_all),List.take_of_length_le (by omega)];have h0:=Cq s.Gn.length 0 m (Nat.zero_add _);simp_all [Aqg,iq]
  | succ j ih=>
   intro i m hi;have hlt:i<s.Fg.length:=by omega
   have hw:AV ((i:Int)+1)=((i+1:Nat):Int):=by grind [A8]
   have hz:=CC i s1 (by omega);rw [show m+3+(j+1)+1=(m+3+j+1)+1 from rfl,WC];simp only [nX,mk,hw,BR,getD_at hlt];rw [AL (by grind),AL (by grind),AL (by grind [Hl]),uj (b1 s.Dv),pre hlt];exact ih (i+1) m (by omega)
 obtain ⟨m,hm⟩:∃ m,AY=m+3+s.Fg.length+1:=⟨AY - (3+s.Fg.length+1),by have:=FM (n:=3+s.Fg.length+1) (by omega);omega⟩
 rw [LAo,BA6,mk,BBp h,AP,DN,Aq,LD h.leaf.1 (by have:=h.leaf.2;omega),AP,hm];have h0:=C1 s.Fg.length 0 m (Nat.zero_add _);assumption
def jF:AA:=⟨#[108]⟩
def Zv:AA:=⟨#[116]⟩
def QI (s:AA) (i:Int):AA:=s++b1 (i / 4)++jF
def O3 (s:AA) (i:Int) (m:AA):Nl:=⟨jE (s++Zv) (i / 4) (Tn (QI s i)),Tn (QI s i),jE (QI s i) (i % 4) m⟩
theorem CBp {s m:AA} {i:Int} (hi:0<=i/\i<=15) (hs:s.size<=90000) (hm:m.size<=1000000000):JAo s i m=some (O3 s i m,true):=by
 have hL:jF.size=1:=rfl;have hT:Zv.size=1:=rfl;have hlow:(QI s i).size=s.size+2:=by simp_all [QI,Hl]
 have e1:AV (i.tdiv 4)=i / 4:=by grind [A8]
 have e2:i.tmod 4=i % 4:=Int.tmod_eq_emod_of_nonneg hi.1;rw [JAo,XA5,mk,AvD,AP,Na.2 hi,DN,Aq,e1,e2,LD (by omega) (by omega),AP];show (bif decide (s.size+(b1 (i / 4)).size<=_) then _ else _)=_;rw [AL (by grind [Hl])];show (bif decide ((s++b1 (i / 4)).size+jF.size<=_) then (nS (QI s i)).bind (fun r2=>(nV (QI s i) (i % 4) m).bind fun r3=>bif decide (s.size+Zv.size<=9223372036854775807) then (nV (s++Zv) (i / 4) r2).bind fun r4=>some ((⟨r4.1,r2,r3.1⟩:Nl),true) else none) else none)=_;rw [AL (by grind [Hl]),RBN (by omega),AP,VBN (by omega) (by omega) hm,AP,AL (by grind),VBN (by omega) (by grind) (by simp [VAr])];rfl
def BAs (h:Nl):AA:=Vp h.QU++h.QS++Vp h.QV
theorem DBp {s m:AA} {i:Int} (hi:0<=i/\i<=15):MAo (O3 s i m)=some (BAs (O3 s i m),true):=by have h1:UU (O3 s i m).QU:=ZAr (by omega);have h2:UU (O3 s i m).QV:=ZAr (by omega);have h3:(O3 s i m).QS.size=4:=VAr _;have z1:=AEH h1;have z2:=AEH h2;rw [MAo,CA6,mk,XBN h1,AP,XBN h2,AP];dsimp only;rw [DN,Aq,Aq,AsB (by simp_all),AL (by simp_all),AL (by simp_all)];rfl
theorem YBB {b:Ap} {t:Int} (h:b.BD.length<=140737488351232):YI b t=some (atV b t):=by
 have key:∀ (j i m:Nat),i+j=b.BD.length->nY (m+j+1) (.c0 t b.BD (b.BD.length:Int) (i:Int))=some (match AxB (b.BD.drop i) t i with | some j=>(j:Int) | none=> -1):=by
  intro j;induction j with
  | zero=>
   intro i m hi;rw [nY];simp only [VAn,mk];rw [AsB (by simp_all),List.drop_of_length_le (by omega)];rfl
  | succ j ih=>
   intro i m hi;have hil:i<b.BD.length:=by omega
   have hw:AV ((i:Int)+1)=((i+1:Nat):Int):=by grind [A8]
   grind [nY,VAn,BR,drop_at,AxB]
 obtain ⟨m,hm⟩:=gm (n:=b.BD.length) (by omega)
 rw [YI,EA5,mk,hm];exact key b.BD.length 0 m (Nat.zero_add _)
theorem ZBB {b:Ap} {t:Int} (h:b.BD.length<=140737488351232) (ht:b.AU.AZ.length<=140737488351232):ArG b t=some (Lj b t):=by
 rw [ArG,GA5,mk,Vg ht,AP,Lj];cases hx:C9 b.AU.AZ t with
 | none=>rfl
 | some x=>
  have hid:x.fId=t:=by have:=List.find?_some hx;simp_all
  simp only [YBB h,bne,atV,DF,hid,AP];cases x.Aj == 2;·rfl
  ·cases hp:AxB b.BD t 0 with
   | none=>rfl
   | some j=>
    have hj:=(gI hp).2;grind
def AqW:Af:=⟨0,0,false,false,false,false,⟨#[]⟩,0⟩
def Tj (x:Af) (h f:Bool):Af×Bool:=bif Awj x && ((h || !x.CY) && (f || !x.CX)) then (⟨x.fId,x.Aj,h,f,x.Gw,x.GH,x.fValue,x.fNext⟩,true) else (AqW,false)
def Qk (x:Af) (d:Int):Bool:=Awj x && (bif d == 1 then !x.CY else bif d == 2 then !x.CX && !(x.Aj == 2) else bif d == 3 then x.Gw else bif d == 4 then x.GH else d == 5)
theorem EBp (x:Af) (d:Int):UAn x d=some (Qk x d):=by rw [UAn,DA5,mk,tC,AP,Qk,bne];grind
def Nb (x:Af):Ah:=⟨3,⟨#[]⟩,0,x⟩
def newX (b:Ap) (c:CV) (x:Af):Af:=⟨b.AU.BM+1,x.Aj,x.CY || c.CY,x.CX || c.CX,x.Gw,x.GH,x.fValue,x.fNext⟩
def O1 (x:Af):Af:=⟨x.fId,x.Aj,x.CY,x.CX,x.Gw,x.GH,x.fValue,ite (16<x.fNext+3) 16 (x.fNext+3)⟩
def QG (l:List Int):List Int:=(SN (l.length:Int)++l)++List.replicate ((16 - (SN (l.length:Int)++l).length % 16) % 16) 0
theorem BBC {l:List Int} (h:Aqy l):Aqy (QG l):=by
 intro x hx;simp only [QG,List.mem_append,List.mem_replicate] at hx;rcases hx with (hx | hx) | hx
 ·exact Ut (by omega) x hx
 ·exact h x hx
 ·omega
theorem CBC {l:List Int} (h:l.length<=1000000000):(QG l).length<=l.length+25/\(QG l).length % 16=0:=by grind [Jo,QG]
def iV (k s:AA):AA×Bool:=bif decide ((s.size:Int) > 400) then (⟨#[]⟩,false) else Ti k 0 (ofBytes (QG (bs s)))
noncomputable def QF (text:AA) (a:Nat):AA×Int×Bool:=
 bif !(ArZ text a).2.2 || (decide ((ArZ text a).1 > 20000) || decide ((ArZ text a).1 > (text.size:Int) - (ArZ text a).2.1)) then (⟨#[]⟩,0,false)
 else (text.extract (ArZ text a).2.1.toNat ((ArZ text a).2.1+(ArZ text a).1).toNat,(ArZ text a).2.1+(ArZ text a).1,true)
noncomputable def Awy (k t:AA):AA×Bool:=
 bif !(EP k 0 t).2 || (!(QF (EP k 0 t).1 0).2.2 || (decide (((QF (EP k 0 t).1 0).1.size:Int) > 400) || !(QG (bs (QF (EP k 0 t).1 0).1) == bs (EP k 0 t).1))) then (⟨#[]⟩,false)
 else ((QF (EP k 0 t).1 0).1,true)
def nrt (l h x:Nat):Nat:=Nat.add (Nat.div x l) (Nat.mul (Nat.mod x l) h)
def FBp (x:Nat):Nat:=Nat.xor (Nat.xor (nrt 64 67108864 x) (nrt 2048 2097152 x)) (nrt 33554432 128 x)
def nx (e f g h k w:Nat):Nat:=Nat.mod (Nat.add (Nat.add (Nat.add (Nat.add h (FBp e)) (Nat.xor (Nat.land e f) (Nat.land (Nat.sub 4294967295 e) g))) k) w) 4294967296
def nZ:Nat->Nat->List Int
 | 0,_=>[]
 | k+1,n=>if n=0 then [] else nZ k (n / 10)++[48+((n % 10:Nat):Int)]
def CAs (n:Nat):List Int:=if n=0 then [48] else nZ 20 n
theorem GBp {n:Nat} (h:n<10000):iQ (n:Int)=some (ofBytes (CAs n)):=by
 have ob:∀ a b:List Int,ofBytes a++ofBytes b=ofBytes (a++b):=fun a b=>by apply ByteArray.ext;simp [ofBytes]
 have key:∀ (k:Nat) (n m:Nat) (l:List Int),n<10 ^ k->n<10000->l.length+k<=100->yS (m+k+1) (.c0 (n:Int) false (ofBytes l))=some (ofBytes (nZ k n++l)):=by
  intro k;induction k with
  | zero=>
   intro n m l h0 _ _;obtain rfl:n=0:=by omega
   rfl
  | succ k ih=>
   intro n m l h0 h1 hl;rw [AwB m k,yS];simp only [SAx,mk];by_cases hn:n=0;·subst hn;rfl
   ·have e1:(n:Int).tmod 10=((n % 10:Nat):Int):=by rfl
    have e2:(n:Int).tdiv 10=((n / 10:Nat):Int):=by rfl
    rw [AL (by simp_all),e1,e2,AsB (by rfl),XAj,QAx,mk,AL (by grind),A8 (by omega) (by omega),Nq (by omega) (by omega),AP,AL (by grind [Dj]),A8 (by omega) (by omega),ob];rw [ih (n / 10) m _ (Nat.div_lt_of_lt_mul (by omega)) (by omega) (by grind),nZ,if_neg hn,List.append_assoc]
 rw [iQ,RAx,mk,CAs];by_cases hn:n=0;·subst hn;rfl
 ·rw [AsB (by simp_all),if_neg hn,show decide ((n:Int)<0)=false from D6 (by omega)];obtain ⟨m,hm⟩:∃ m,AY=m+20+1:=⟨AY - 21,by rfl⟩
  rw [hm];have:=key 20 n m [] (by omega) h (Nat.le_of_ble_eq_true rfl);rw [List.append_nil] at this;exact this
theorem OQ {n:Nat} (h:n<18446744073709551616):wu64 (n:Int)=(n:Int):=by grind [IntKind.wrap,IntKind.signed,IntKind.bits]
theorem YBN (n:Nat):wu64 (n:Int)=((n % 18446744073709551616:Nat):Int):=by rfl
theorem yT {n:Nat} (h:n<18446744073709551616):(BitVec.ofInt (IntKind.bits IntKind.u64) (n:Int)).toNat=n:=by show (BitVec.ofInt 64 (n:Int)).toNat=n;simp_all
theorem Ou {a b:Nat} (ha:a<18446744073709551616) (hb:b<18446744073709551616):wu64 (((BitVec.toNat ((BitVec.ofInt (IntKind.bits IntKind.u64) (a:Int)) ^^^ (BitVec.ofInt (IntKind.bits IntKind.u64) (b:Int)))):Nat):Int)=((a ^^^ b:Nat):Int):=by rw [BitVec.toNat_xor,yT ha,yT hb,OQ (Nat.xor_lt_two_pow (n:=64) ha hb)]
theorem n64 {a b:Nat} (ha:a<18446744073709551616) (hb:b<18446744073709551616):wu64 (((BitVec.toNat ((BitVec.ofInt (IntKind.bits IntKind.u64) (a:Int)) &&& (BitVec.ofInt (IntKind.bits IntKind.u64) (b:Int)))):Nat):Int)=((a &&& b:Nat):Int):=by grind [yT,OQ,Nat.and_le_left]
theorem o64 {a b:Nat} (ha:a<18446744073709551616) (hb:b<18446744073709551616):wu64 (((BitVec.toNat ((BitVec.ofInt (IntKind.bits IntKind.u64) (a:Int)) ||| (BitVec.ofInt (IntKind.bits IntKind.u64) (b:Int)))):Nat):Int)=((a ||| b:Nat):Int):=by rw [BitVec.toNat_or,yT ha,yT hb,OQ (Nat.or_lt_two_pow (n:=64) ha hb)]
theorem m64:(ite ((IntKind.signed IntKind.u64)=true) (-(1:Int)) (IntKind.max IntKind.u64))=((18446744073709551615:Nat):Int):=by decide
theorem HBp {a:Nat} (h:a<18446744073709551616):18446744073709551615 ^^^ a=18446744073709551615 - a:=by
 have h1:(BitVec.allOnes 64 ^^^ BitVec.ofNat 64 a).toNat=(~~~ (BitVec.ofNat 64 a)).toNat:=by rfl
 simp_all [Nat.mod_eq_of_lt]
theorem IBp {a:Nat} (h:a<18446744073709551616):wu64 (18446744073709551615 - (a:Int))=((18446744073709551615 - a:Nat):Int):=by grind [OQ]
theorem xlt {a b:Nat} (ha:a<18446744073709551616) (hb:b<18446744073709551616):a ^^^ b<18446744073709551616:=Nat.xor_lt_two_pow (n:=64) ha hb
theorem nlt {a b:Nat} (ha:a<18446744073709551616):a &&& b<18446744073709551616:=Nat.lt_of_le_of_lt Nat.and_le_left ha
def Arp (n x:Nat):Nat:=(x*2 ^ n) % 18446744073709551616+x / 2 ^ (64 - n)
theorem AWx {n x:Nat} (hn:n<64):(x*2 ^ n) % 18446744073709551616=(x % 2 ^ (64 - n))*2 ^ n:=by
 have e:18446744073709551616=2 ^ (64 - n)*2 ^ n:=by rw [<-Nat.pow_add,show 64 - n+n=64 by omega]
 rw [e,Nat.mul_mod_mul_right]
theorem BBO {n x:Nat} (hn:n<64) (h:x<18446744073709551616):x / 2 ^ (64 - n)<2 ^ n:=by rw [Nat.div_lt_iff_lt_mul (Nat.two_pow_pos _),<-Nat.pow_add,show n+(64 - n)=64 by omega];exact h
theorem jK {n x:Nat} (hn:n<64) (h:x<18446744073709551616):Arp n x<18446744073709551616:=by
 have h1:=BBO hn h;have h2:x % 2 ^ (64 - n)<2 ^ (64 - n):=Nat.mod_lt _ (Nat.two_pow_pos _);have e:2 ^ (64 - n)*2 ^ n=18446744073709551616:=by rw [<-Nat.pow_add,show 64 - n+n=64 by omega]
 rw [Arp,AWx hn];have h3:(x % 2 ^ (64 - n)+1)*2 ^ n<=2 ^ (64 - n)*2 ^ n:=Nat.mul_le_mul_right _ h2;grind
theorem JBp {n x:Nat} (hn:n<64) (h:x<18446744073709551616):((x*2 ^ n) % 18446744073709551616) ||| (x / 2 ^ (64 - n))=Arp n x:=by rw [Arp,AWx hn];have:=Nat.shiftLeft_add_eq_or_of_lt (BBO hn h) (x % 2 ^ (64 - n));simp_all [Nat.shiftLeft_eq]
theorem CBO {x:Nat} (h:x<18446744073709551616):Arp 0 x=x:=by simp_all [Arp,Nat.div_eq_of_lt]
def AwK {A:Type} (f:Nat->A->A):Nat->Nat->A->A
 | 0,_,a=>a
 | j+1,i,a=>AwK f j (i+1) (f i a)
theorem AwV {S A R:Type} {Lp:Nat->S->Option R} {st:Nat->A->S} {f:Nat->A->A} {P:Nat->A->Prop} {n:Nat} (K:Nat) (step:∀ m i a,i<n->P i a->Lp (m+K) (st i a)=Lp m (st (i+1) (f i a))/\P (i+1) (f i a)):∀ j i m a,i+j=n->P i a->Lp (m+j*K) (st i a)=Lp m (st n (AwK f j i a))/\P n (AwK f j i a):=by
 intro j;induction j with
 | zero=>(intro i m a h hp;rw [Nat.zero_mul];have:i=n:=by omega);subst this;exact ⟨rfl,hp⟩
 | succ j ih=>
  intro i m a h hp;obtain ⟨h1,h2⟩:=step (m+j*K) i a (by omega) hp
  obtain ⟨h3,h4⟩:=ih (i+1) m (f i a) (by omega) h2
  exact ⟨by rw [Nat.succ_mul,<-Nat.add_assoc,h1,h3];rfl,h4⟩
def up (l:List Nat):List Int:=l.map fun (n:Nat)=>(n:Int)
theorem Dt (l:List Nat):(up l).length=l.length:=by simp [up]
theorem Gg (l:List Nat) (i:Nat):(up l).getD i 0=((l.getD i 0:Nat):Int):=by grind [up]
theorem AsA (l:List Nat) (i n:Nat):(up l).set i (n:Int)=up (l.set i n):=by simp [up]
def Lm (l:List Nat):Prop:=∀ x ∈ l,x<18446744073709551616
theorem Lm.get {l:List Nat} (h:Lm l) (i:Nat):l.getD i 0<18446744073709551616:=by
 rw [List.getD_eq_getElem?_getD];cases hx:l[i]? with
 | none=>decide
 | some x=>exact h x (List.mem_of_getElem? hx)
theorem Lm.set {l:List Nat} (h:Lm l) (i:Nat) {n:Nat} (hn:n<18446744073709551616):Lm (l.set i n):=fun x hx=>by
 rcases List.mem_or_eq_of_mem_set hx with h1 | rfl
 ·exact h x h1
 omega
theorem AwI {l:List Nat} {i:Nat} (h:i<l.length):(decide (0<=(i:Int)) && decide ((i:Int)<((up l).length:Int)))=true:=by simp_all [Dt]
theorem DBO (n:Nat):Lm (List.replicate n 0):=fun x hx=>by grind
theorem TY (n:Nat):up (List.replicate n 0)=List.replicate n 0:=by simp [up]
def LK (a:List Nat) (x:Nat):Nat:=(((a.getD x 0 ^^^ a.getD (x+5) 0) ^^^ a.getD (x+10) 0) ^^^ a.getD (x+15) 0) ^^^ a.getD (x+20) 0
def AIm (a:List Nat) (x:Nat):Nat:=LK a ((x+4) % 5) ^^^ Arp 1 (LK a ((x+1) % 5))
def AxG (a:List Nat) (i:Nat):Nat:=a.getD i 0 ^^^ AIm a (i % 5)
def QJ:List Nat:=[0,1,62,28,27,36,44,6,55,20,3,10,43,25,39,41,45,15,21,8,18,2,61,56,14]
def ng (v:Nat->Nat->Nat):List Nat:=(List.range 25).map fun p=>v (QJ.getD ((p % 5+3*(p / 5)) % 5+5*(p % 5)) 0) ((p % 5+3*(p / 5)) % 5+5*(p % 5))
def Qu (b:List Nat) (i:Nat):Nat:=b.getD i 0 ^^^ ((18446744073709551615 - b.getD ((i % 5+1) % 5+5*(i / 5)) 0) &&& b.getD ((i % 5+2) % 5+5*(i / 5)) 0)
def Aw8 (a:List Nat):List Nat:=ng fun n q=>Arp n (AxG a q)
def jL (a:List Nat) (c:Nat):List Nat:=let o:=(List.range 25).map (Qu (Aw8 a));o.set 0 (o.getD 0 0 ^^^ c)
def UY:List Nat:=[1,32898,9223372036854808714,9223372039002292224,32907,2147483649,9223372039002292353,9223372036854808585,138,136,2147516425,2147483658,2147516555,9223372036854775947,9223372036854808713,9223372036854808579,9223372036854808578,9223372036854775936,32778,9223372039002259466,9223372039002292353,9223372036854808704,2147483649,9223372039002292232]
def uz (a:List Nat):List Nat:=AwK (fun i a=>jL a (UY.getD i 0)) 24 0 a
def Lh (l:List Nat):Prop:=l.length=25/\Lm l
theorem UZ {a:List Nat} (h:Lm a) (x:Nat):LK a x<18446744073709551616:=xlt (xlt (xlt (xlt (h.get _) (h.get _)) (h.get _)) (h.get _)) (h.get _)
theorem EBO {a:List Nat} (h:Lm a) (x:Nat):AIm a x<18446744073709551616:=xlt (UZ h _) (jK (by decide) (UZ h _))
theorem FBC {a:List Nat} (h:Lm a) (x:Nat):AxG a x<18446744073709551616:=xlt (h.get _) (EBO h _)
theorem FBO (q:Nat):QJ.getD q 0<64:=by
 rw [List.getD_eq_getElem?_getD];cases hx:QJ[q]? with
 | none=>decide
 | some x=>
  have h:∀ x ∈ QJ,x<64:=by decide
  exact h x (List.mem_of_getElem? hx)
theorem vF (i:Nat):UY.getD i 0<18446744073709551616:=by
 rw [List.getD_eq_getElem?_getD];cases hx:UY[i]? with
 | none=>decide
 | some x=>
  have h:∀ x ∈ UY,x<18446744073709551616:=by decide
  exact h x (List.mem_of_getElem? hx)
theorem DAs {a:List Nat} (h:Lm a):Lh (Aw8 a):=by refine ⟨by rfl,fun x hx=>?_⟩;grind [Aw8,ng,jK,FBO,FBC]
theorem KBp {b:List Nat} (h:Lm b) (i:Nat):Qu b i<18446744073709551616:=xlt (h.get _) (nlt (by omega))
theorem GBC {b:List Nat} (h:Lm b):Lh ((List.range 25).map (Qu b)):=by refine ⟨by rfl,fun x hx=>?_⟩;grind [KBp]
theorem HBC {a:List Nat} (h:Lm a) {c:Nat} (hc:c<18446744073709551616):Lh (jL a c):=by have h1:=GBC (DAs h).2;refine ⟨by rfl,h1.2.set 0 (xlt (h1.2.get _) hc)⟩
theorem IBC {a:List Nat} (h:Lh a):Lh (uz a):=by
 have:∀ j i a,Lh a->Lh (AwK (fun i a=>jL a (UY.getD i 0)) j i a):=by
  intro j;induction j with
  | zero=>intro i a h;exact h
  | succ j ih=>intro i a h;exact ih _ _ (HBC h.2 (vF i))
 exact this 24 0 a h
theorem uy {f:Nat->Nat} {n i:Nat} (h:i<n):((List.range n).map f).getD i 0=f i:=by simp_all
theorem LBp (v:Nat->Nat):AwK (fun x o=>o.set x (v x)) 5 0 [0,0,0,0,0]=(List.range 5).map v:=by rfl
theorem MBp (v:Nat->Nat):AwK (fun x o=>AwK (fun y o=>o.set (x+5*y) (v (x+5*y))) 5 0 o) 5 0 (List.replicate 25 0)=(List.range 25).map v:=by kernel_rfl
theorem NBp (v:Nat->Nat):AwK (fun y o=>AwK (fun x o=>o.set (x+5*y) (v (x+5*y))) 5 0 o) 5 0 (List.replicate 25 0)=(List.range 25).map v:=by kernel_rfl
theorem OBp (v:Nat->Nat->Nat):AwK (fun x o=>AwK (fun y o=>o.set (y+5*((2*x+3*y) % 5)) (v (QJ.getD (x+5*y) 0) (x+5*y))) 5 0 o) 5 0 (List.replicate 25 0)=ng v:=by kernel_rfl
theorem PBp (v:Nat->Nat->Nat):(AwK (fun t (s:Nat×Nat×List Nat)=>(s.2.1,(2*s.1+3*s.2.1) % 5,s.2.2.set (s.2.1+5*((2*s.1+3*s.2.1) % 5)) (v ((t+1)*(t+2) / 2 % 64) (s.1+5*s.2.1)))) 24 0 (1,0,[v 0 0,0,0,0,0,0,0,0,0,0,0,0,0,0,0,0,0,0,0,0,0,0,0,0,0])).2.2=ng v:=by kernel_rfl
theorem wn {n:Nat} (h:n<9223372036854775807):AV (n:Int)=(n:Int):=A8 (by omega) (by omega)
theorem QBp {a b:Int} {x y:Nat} (ha:a=(x:Int)) (hb:b=(y:Int)) (hx:x<18446744073709551616) (hy:y<18446744073709551616):wu64 (((BitVec.toNat ((BitVec.ofInt (IntKind.bits IntKind.u64) a) ^^^ (BitVec.ofInt (IntKind.bits IntKind.u64) b))):Nat):Int)=((x ^^^ y:Nat):Int):=by grind [Ou]
theorem GBO {v:List Nat} {i n:Nat} (h:v.length=5):(v.set i n).length=5:=by simp_all
theorem Zy {v:List Nat} {i n:Nat} (h:v.length=25):(v.set i n).length=25:=by simp_all
theorem HBO (v:Nat->Nat):∀ (t pre:List Nat),AwK (fun i o=>o.set i (v i)) t.length pre.length (pre++t)=pre++(List.range' pre.length t.length).map v
 | [],pre=>by rfl
 | x::t,pre=>by
  have e:(pre++x::t).set pre.length (v pre.length)=(pre++[v pre.length])++t:=by simp
  have ih:=HBO v t (pre++[v pre.length]);rw [List.length_append,List.length_singleton] at ih;rw [List.length_cons,AwK,e,ih,List.range'_succ,List.map_cons,List.append_assoc];rfl
theorem sK {v:Nat->Nat} {l:List Nat} {n:Nat} (h:l.length=n):AwK (fun i o=>o.set i (v i)) n 0 l=(List.range n).map v:=by have:=HBO v l [];simp_all [List.range_eq_range']
def AwY (s:AA) (i:Nat):Nat:=if h:i<s.size then (s[i]'h).toNat else 0
theorem Awn (s:AA) (i:Nat):bt s (i:Int)=((AwY s i:Nat):Int):=by grind [bt,AwY]
theorem Ve (s:AA) (i:Nat):AwY s i<256:=by grind [AwY,UInt8.toNat_lt]
def ArV (g:Nat->Nat) (k:Nat):Nat:=AwK (fun j x=>x*256+g (8*k+(7 - j))) 8 0 0
theorem EAs (g:Nat->Nat) (k:Nat):ArV g k=g (8*k)+256*g (8*k+1)+65536*g (8*k+2)+16777216*g (8*k+3)+4294967296*g (8*k+4)+1099511627776*g (8*k+5)+281474976710656*g (8*k+6)+72057594037927936*g (8*k+7):=by have h:ArV g k=(((((((0*256+g (8*k+7))*256+g (8*k+6))*256+g (8*k+5))*256+g (8*k+4))*256+g (8*k+3))*256+g (8*k+2))*256+g (8*k+1))*256+g (8*k):=rfl;omega
theorem JBC {g:Nat->Nat} (hg:∀ i,g i<256) (k:Nat):ArV g k<18446744073709551616:=by grind [EAs]
theorem RBp {x y b c:Nat} (hb:b<256) (hc:c<256):(x*256+b) ^^^ (y*256+c)=(x ^^^ y)*256+(b ^^^ c):=by
 have h1:((x*256+b) ^^^ (y*256+c)) % 2 ^ 8=b ^^^ c:=by rw [Nat.xor_mod_two_pow];grind
 have h2:((x*256+b) ^^^ (y*256+c)) / 2 ^ 8=x ^^^ y:=by rw [Nat.xor_div_two_pow];grind
 omega
theorem SBp {g h:Nat->Nat} (hg:∀ i,g i<256) (hh:∀ i,h i<256) (k:Nat):ArV (fun i=>g i ^^^ h i) k=ArV g k ^^^ ArV h k:=by
 have key:∀ j i x y,AwK (fun j x=>x*256+(g (8*k+(7 - j)) ^^^ h (8*k+(7 - j)))) j i (x ^^^ y)=AwK (fun j x=>x*256+g (8*k+(7 - j))) j i x ^^^ AwK (fun j x=>x*256+h (8*k+(7 - j))) j i y:=by intro j;induction j<;>grind [AwK,RBp]
 exact key 8 0 0 0
theorem KBC {g h:Nat->Nat} {k:Nat} (e:∀ i,i<8->g (8*k+i)=h (8*k+i)):ArV g k=ArV h k:=by have e0:=e 0 (by omega);simp_all [EAs]
def Uu (a:List Nat) (p:Nat):Nat:=a.getD (p / 8) 0 / 2 ^ (8*(p % 8)) % 256
def AxE (a:List Nat):List Nat:=(List.range 200).map (Uu a)
theorem IBO (a:List Nat) (p:Nat):Uu a p<256:=Nat.mod_lt _ (by decide)
theorem JBO {a:List Nat} (ha:Lm a) (k:Nat):ArV (Uu a) k=a.getD k 0:=by
 have hk:=ha.get k;have d:∀ j,j<8->Uu a (8*k+j)=a.getD k 0 / 2 ^ (8*j) % 256:=fun j hj=>by grind [Uu]
 have d0:=d 0 (by omega);grind [EAs]
def ArB (g:Nat->Nat) (n:Nat):List Nat:=(List.range n).map (ArV g)
theorem LBO {g:Nat->Nat} (hg:∀ i,g i<256):Lh (ArB g 25):=by refine ⟨by rfl,fun x hx=>?_⟩;grind [ArB,JBC]
theorem TBp {g:Nat->Nat} (hg:∀ i,g i<256) (n:Nat):Lm (ArB g n):=fun x hx=>by grind [ArB,JBC]
theorem FAs {l:List Nat} (hl:∀ x ∈ l,x<256) {i:Nat} (hi:i<l.length):AwY (ofBytes (up l)) i=l.getD i 0:=by grind [ofBytes,up,Dj,AwY,List.getElem_mem,ByteArray.getElem_eq_getElem_data,UInt8.toNat_ofNat']
theorem GAs {a b:List Nat} (ha:a.length=b.length) (h:∀ k,k<b.length->a.getD k 0=b.getD k 0):a=b:=by grind [List.ext_getElem]
theorem jX (v:Nat->Nat):∀ (j i:Nat) (o:List Nat),AwK (fun i o=>o++[v i]) j i o=o++(List.range' i j).map v
 | 0,i,o=>by simp [AwK]
 | j+1,i,o=>by rw [AwK,jX v j (i+1),List.range'_succ,List.map_cons,List.append_assoc];rfl
theorem uo (v:Nat->Nat) (n:Nat):AwK (fun i o=>o++[v i]) n 0 []=(List.range n).map v:=by simp [jX,List.range_eq_range']
def ZW (s:AA):AA:=ofBytes (up (AxE (uz (ArB (AwY s) 25))))
theorem UBp (a:List Nat):(AxE a).length=200:=by rfl
theorem MBO (a:List Nat):∀ x ∈ AxE a,x<256:=fun x hx=>by grind [AxE,IBO]
theorem NBO (s:AA):(ZW s).size=200:=by rfl
def FI (s:AA):List Nat:=s.data.toList.map fun b=>b.toNat
theorem Z5 (s:AA):bytesOf s=up (FI s):=by simp [bytesOf,up,FI]
theorem VBp (s:AA):∀ x ∈ FI s,x<256:=fun x hx=>by grind [FI,UInt8.toNat_lt]
theorem Z4 (s:AA):(FI s).length=s.size:=by simp [FI]
theorem WBp {l:List Nat} (h:∀ x ∈ l,x<256):FI (ofBytes (up l))=l:=by
 simp only [FI,ofBytes,up,List.map_map,List.toList_toArray];conv=>rhs;rw [<-List.map_id l]
 grind [List.map_congr_left,UInt8.toNat_ofNat']
def J8 (l:List Nat):List Nat:=l++(List.range' 0 ((168 - l.length % 168) % 168)).map fun _=>0
theorem LBC (l:List Nat):(J8 l).length=l.length+(168 - l.length % 168) % 168:=by simp [J8]
def Awf (s:AA) (f:Nat):List Nat:=let l:=J8 (FI s++[f]);l.set (l.length - 1) (l.getD (l.length - 1) 0 ^^^ 128)
theorem MBC {l:List Nat} (h:∀ x ∈ l,x<256):∀ x ∈ J8 l,x<256:=fun x hx=>by grind [J8]
def B8 (l:List Nat):Prop:=∀ x ∈ l,x<256
theorem B8.get {l:List Nat} (h:B8 l) (i:Nat):l.getD i 0<256:=by
 rw [List.getD_eq_getElem?_getD];cases hx:l[i]? with
 | none=>decide
 | some x=>exact h x (List.mem_of_getElem? hx)
theorem B8.set {l:List Nat} (h:B8 l) (i:Nat) {n:Nat} (hn:n<256):B8 (l.set i n):=fun x hx=>by
 rcases List.mem_or_eq_of_mem_set hx with h1 | rfl
 ·exact h x h1
 omega
theorem NBC {a b:Nat} (ha:a<256) (hb:b<256):a ^^^ b<256:=Nat.xor_lt_two_pow (n:=8) ha hb
theorem OBC (s:AA) {f:Nat} (hf:f<256):B8 (FI s++[f]):=fun x hx=>by
 rw [List.mem_append,List.mem_singleton] at hx;rcases hx with h1 | rfl
 ·exact VBp s x h1
 omega
theorem OBO (s:AA) {f:Nat} (hf:f<256):B8 (Awf s f):=by have h:B8 (J8 (FI s++[f])):=MBC (OBC s hf);exact h.set _ (NBC (h.get _) (by decide))
theorem PBO (s:AA) (f:Nat):∃ q,(Awf s f).length=168*q/\168*q<=s.size+168:=by have h:(Awf s f).length=(J8 (FI s++[f])).length:=List.length_set;rw [LBC,List.length_append,List.length_singleton,Z4] at h;exact ⟨(s.size+1+(168 - (s.size+1) % 168) % 168) / 168,by omega,by omega⟩
def Zz (st:List Nat) (g:Nat->Nat):List Nat:=(List.range 25).map fun k=>if k<21 then st.getD k 0 ^^^ ArV g k else st.getD k 0
theorem QBO {st:List Nat} (h:Lh st) {g:Nat->Nat} (hg:∀ i,g i<256):Lh (Zz st g):=by
 refine ⟨by rfl,fun x hx=>?_⟩;rw [Zz,List.mem_map] at hx;obtain ⟨k,_,rfl⟩:=hx
 split;·exact xlt (h.2.get _) (JBC hg k)
 ·exact h.2.get _
def jy (b:List Nat) (p:Nat) (st:List Nat):List Nat:=uz (Zz st fun i=>b.getD (168*p+i) 0)
def kC (s:AA) (f:Nat):List Nat:=AwK (jy (Awf s f)) ((Awf s f).length / 168) 0 (List.replicate 25 0)
def jw (s:AA) (f:Nat):AA:=ofBytes (up (AxE (kC s f)))
theorem XBp (s:AA) (f:Nat):(jw s f).size=200:=by rfl
theorem PBC:Lh (List.replicate 25 0):=⟨List.length_replicate,DBO 25⟩
theorem bv8 {n:Nat} (h:n<256):(BitVec.ofInt (IntKind.bits IntKind.u8) (n:Int)).toNat=n:=by show (BitVec.ofInt 8 (n:Int)).toNat=n;simp_all
theorem x8 {a b:Nat} (ha:a<256) (hb:b<256):w8 (((BitVec.toNat ((BitVec.ofInt (IntKind.bits IntKind.u8) (a:Int)) ^^^ (BitVec.ofInt (IntKind.bits IntKind.u8) (b:Int)))):Nat):Int)=((a ^^^ b:Nat):Int):=by grind [NBC,bv8,Nq]
theorem HAs {A:Type} {f:Nat->A->A} {P:A->Prop} (h:∀ i a,P a->P (f i a)):∀ j i a,P a->P (AwK f j i a)
 | 0,_,_,hp=>hp
 | j+1,i,a,hp=>HAs h j (i+1) _ (h i a hp)
theorem QBC {b:List Nat} (hb:B8 b) {p:Nat} {st:List Nat} (h:Lh st):Lh (jy b p st):=IBC (QBO h fun _=>hb.get _)
theorem getD_set_ne {l:List Nat} {i k n:Nat} (h:k≠i):(l.set i n).getD k 0=l.getD k 0:=by grind
theorem MX (l:List Nat) (n:Nat):up l++[(n:Int)]=up (l++[n]):=by simp [up]
def H9 (S:AA):Nat->AA
 | 0=>S
 | n+1=>ZW (H9 S n)
theorem ZV {S:AA} (h:S.size=200):∀ n,(H9 S n).size=200
 | 0=>h
 | _+1=>NBO _
def strm (S:AA) (k:Nat):Nat:=AwY (H9 S (k / 168)) (k % 168)
theorem Zh (S:AA) (k:Nat):strm S k<256:=Ve _ _
def Aqf (S:AA) (p:Nat) (x:F6):Prop:=∃ q a:Nat,x=⟨H9 S q,(a:Int)⟩/\168*q+a=p/\a<=168
def Qc (S:AA) (p n:Nat):List Nat:=(List.range' p n).map (strm S)
theorem YBp (S:AA) (p n:Nat):B8 (Qc S p n):=fun x hx=>by grind [Qc,Zh]
theorem IAs (S:AA) (p n:Nat):(Qc S p n).length=n:=by simp [Qc]
theorem SBO (S:AA) (p a b:Nat):Qc S p a++Qc S (p+a) b=Qc S p (a+b):=by grind [Qc,List.range'_append_1]
theorem ZBp (s:AA) (i:Nat):(FI s).getD i 0=AwY s i:=by
 unfold AwY;split;·rename_i h;rw [getD_at (by simp_all [Z4])];simp only [FI,List.getElem_map,Array.getElem_toList];rfl
 simp_all [Z4]
theorem AbK (s:AA):ofBytes (up (FI s))=s:=by apply ByteArray.ext;grind [ofBytes,up,FI,UInt8.ofNat_toNat]
theorem BBq (a b:List Nat):ofBytes (up a)++ofBytes (up b)=ofBytes (up (a++b)):=by apply ByteArray.ext;simp [ofBytes,up]
theorem chunk {S:AA} (hS:S.size=200) {q a k:Nat} (h:a+k<=168):FI ((H9 S q).extract a (a+k))=Qc S (168*q+a) k:=by
 have hz:=ZV hS q;have hlen:(FI ((H9 S q).extract a (a+k))).length=k:=by grind [Z4,ByteArray.size_extract]
 refine GAs (by grind [IAs]) fun i hi=>?_
 grind [ZBp,Qc,List.length_map,strm,AwY,ByteArray.size_extract,ByteArray.getElem_extract]
def sd (s:AA):AA:=jw s 31
theorem JAs (s:AA):(sd s).size=200:=XBp _ _
theorem KAs (s:AA):Aqf (sd s) 0 ⟨sd s,0⟩:=⟨0,0,rfl,rfl,by omega⟩
theorem and1 {n:Nat} (h:n<9223372036854775808):AV (((BitVec.toNat ((BitVec.ofInt (IntKind.bits IntKind.i64) (n:Int)) &&& (BitVec.ofInt (IntKind.bits IntKind.i64) 1))):Nat):Int)=((n % 2:Nat):Int):=by grind [IntKind.bits,wn]
def ArE (l:List Nat):Prop:=l.length=256/\∀ x ∈ l,x<3329
theorem ArE.get {l:List Nat} (h:ArE l) (i:Nat):l.getD i 0<3329:=by
 rw [List.getD_eq_getElem?_getD];cases hx:l[i]? with
 | none=>decide
 | some x=>exact h.2 x (List.mem_of_getElem? hx)
theorem ArE.set {l:List Nat} (h:ArE l) (i:Nat) {n:Nat} (hn:n<3329):ArE (l.set i n):=⟨by rw [List.length_set,h.1],fun x hx=>by
 rcases List.mem_or_eq_of_mem_set hx with h1 | rfl
 ·exact h.2 x h1
 omega⟩
theorem RBC {f:Nat->Nat} (h:∀ i,f i<3329):ArE ((List.range 256).map f):=⟨by rw [List.length_map,List.length_range],fun x hx=>by
 grind⟩
def XW (b:Nat):Nat:=(b % 2+b / 2 % 2+3329 - b / 4 % 2 - b / 8 % 2) % 3329
def TBO (s:AA):List Nat:=(List.range 256).map fun i=>XW (AwY s (i / 2) / 2 ^ (4*(i % 2)))
theorem CBq (s:AA):ArE (TBO s):=RBC fun i=>Nat.mod_lt _ (by decide)
def ArF (n:Nat):AA:=ofBytes [(n:Int)]
def J6 (seed:AA) (n:Nat):List Nat:=TBO (ofBytes (up (Qc (sd (seed++ArF n)) 0 128)))
theorem iI (seed:AA) (n:Nat):ArE (J6 seed n):=CBq _
def XZ:Nat->Nat->Nat->Nat->Nat
 | 0,_,_,o=>o
 | k+1,b,e,o=>if e=0 then o else XZ k (b*b % 3329) (e / 2) (if e % 2=1 then o*b % 3329 else o)
def XY (e:Nat):Nat:=XZ 10 17 e 1
theorem UBO:∀ (k b e o:Nat),o<3329->XZ k b e o<3329
 | 0,_,_,_,h=>h
 | k+1,b,e,o,h=>by
  rw [XZ];split;·exact h
  ·refine UBO k _ _ _ ?_;split;·exact Nat.mod_lt _ (by decide)
   ·exact h
theorem LAs (e:Nat):XY e<3329:=UBO _ _ _ _ (by decide)
theorem Zc {a b:Nat} (ha:a<3329) (hb:b<3329):(AV ((a:Int)*(b:Int))).tmod 3329=((a*b % 3329:Nat):Int):=by have h:a*b<3329*3329:=Nat.mul_lt_mul'' ha hb;rw [show (a:Int)*(b:Int)=((a*b:Nat):Int) from (Int.natCast_mul a b).symm,wn (by omega)];rfl
def t7 (n:Nat):Nat:=AwK (fun i o=>2*o+n / 2 ^ i % 2) 7 0 0
theorem MAs (n:Nat):t7 n<128:=by
 have h:∀ j i o,o<2 ^ i->AwK (fun i o=>2*o+n / 2 ^ i % 2) j i o<2 ^ (i+j):=by intro j;induction j<;>grind [AwK]
 exact h 7 0 0 (by decide)
def gy (z size j:Nat) (o:List Nat):List Nat:=(o.set (j+size) ((o.getD j 0+3329 - z*o.getD (j+size) 0 % 3329) % 3329)).set j ((o.getD j 0+z*o.getD (j+size) 0 % 3329) % 3329)
theorem SBC {o:List Nat} (h:ArE o) (z size j:Nat):ArE (gy z size j o):=(h.set _ (Nat.mod_lt _ (by decide))).set _ (Nat.mod_lt _ (by decide))
def NAs (k0 size i:Nat) (o:List Nat):List Nat:=AwK (fun j o=>gy (XY (t7 (k0+i))) size (2*size*i+j) o) size 0 o
def Td (k0 size c:Nat) (o:List Nat):List Nat:=AwK (NAs k0 size) c 0 o
theorem TBC {o:List Nat} (h:ArE o) (k0 size i:Nat):ArE (NAs k0 size i o):=HAs (P:=ArE) (fun _ _ h=>SBC h _ _ _) _ _ _ h
theorem LG {o:List Nat} (h:ArE o) (k0 size c:Nat):ArE (Td k0 size c o):=HAs (P:=ArE) (fun _ _ h=>TBC h _ _ _) _ _ _ h
def gu (o:List Nat):List Nat:=Td 64 2 64 (Td 32 4 32 (Td 16 8 16 (Td 8 16 8 (Td 4 32 4 (Td 2 64 2 (Td 1 128 1 o))))))
theorem DBq {o:List Nat} (h:ArE o):ArE (gu o):=LG (LG (LG (LG (LG (LG (LG h _ _ _) _ _ _) _ _ _) _ _ _) _ _ _) _ _ _) _ _ _
def Nh (a b:List Nat) (p:Nat):Nat:=if p % 2=0 then (a.getD p 0*b.getD p 0+a.getD (p+1) 0*b.getD (p+1) 0 % 3329*XY (2*t7 (p / 2)+1)) % 3329 else (a.getD (p - 1) 0*b.getD p 0+a.getD p 0*b.getD (p - 1) 0) % 3329
def mulL (a b:List Nat):List Nat:=(List.range 256).map (Nh a b)
theorem EBq (a b:List Nat) (p:Nat):Nh a b p<3329:=by grind [Nh]
theorem OAs (a b:List Nat):ArE (mulL a b):=RBC fun _=>EBq _ _ _
theorem VBO (a b:List Nat) (i:Nat):Nh a b (2*i)=(a.getD (2*i) 0*b.getD (2*i) 0+a.getD (2*i+1) 0*b.getD (2*i+1) 0 % 3329*XY (2*t7 i+1)) % 3329:=by simp [Nh]
theorem WBO (a b:List Nat) (i:Nat):Nh a b (2*i+1)=(a.getD (2*i) 0*b.getD (2*i+1) 0+a.getD (2*i+1) 0*b.getD (2*i) 0) % 3329:=by simp [Nh]
theorem XBO (v:Nat->Nat):∀ (j i:Nat) (o:List Nat),AwK (fun i o=>(o.set (2*i) (v (2*i))).set (2*i+1) (v (2*i+1))) j i o=AwK (fun p o=>o.set p (v p)) (2*j) (2*i) o
 | 0,_,_=>rfl
 | j+1,i,o=>by rw [AwK,XBO v j (i+1),show 2*(j+1)=2*j+1+1 by omega,AwK,AwK];rfl
theorem YBO (v:Nat->Nat):∀ (j i:Nat) (o:List Nat),AwK (fun i o=>o++[v (2*i),v (2*i+1)]) j i o=AwK (fun p o=>o++[v p]) (2*j) (2*i) o
 | 0,_,_=>rfl
 | j+1,i,o=>by rw [AwK,YBO v j (i+1),show 2*(j+1)=2*j+1+1 by omega,AwK,AwK,List.append_assoc];rfl
theorem Xb {a b:Nat} (ha:a<3329) (hb:b<3329):AV ((a:Int)*(b:Int))=((a*b:Nat):Int):=by have h:a*b<3329*3329:=Nat.mul_lt_mul'' ha hb;rw [show (a:Int)*(b:Int)=((a*b:Nat):Int) from (Int.natCast_mul _ _).symm,wn (by omega)]
theorem mul_lt {a b:Nat} (ha:a<3329) (hb:b<3329):a*b<11082241:=Nat.mul_lt_mul'' ha hb
def Zj (a b:List Nat):List Nat:=(List.range 256).map fun i=>(a.getD i 0+b.getD i 0) % 3329
theorem PAs (a b:List Nat):ArE (Zj a b):=RBC fun _=>Nat.mod_lt _ (by decide)
def QAs (a0 a1 b0 b1:List Nat):List Nat:=Zj (Zj (List.replicate 256 0) (mulL a0 b0)) (mulL a1 b1)
theorem ZBO (a0 a1 b0 b1:List Nat):ArE (QAs a0 a1 b0 b1):=PAs _ _
theorem ASo:ArE (List.replicate 256 0):=⟨List.length_replicate,fun x hx=>by grind⟩
def Gm (S:AA) (k:Nat):Nat:=strm S (3*k)+256*(strm S (3*k+1) % 16)
def J7 (S:AA) (k:Nat):Nat:=strm S (3*k+1) / 16+16*strm S (3*k+2)
def Aw4 (x:Nat) (o:List Nat):List Nat:=if x<3329/\o.length<256 then o++[x] else o
def Iy (S:AA) (k:Nat) (o:List Nat):List Nat:=Aw4 (J7 S k) (Aw4 (Gm S k) o)
def Xa (S:AA):Nat->Nat->List Nat->List Nat
 | 0,_,o=>o
 | j+1,k,o=>if o.length<256 then Xa S j (k+1) (Iy S k o) else o
def Io (o:List Nat):List Nat:=o++List.replicate (256 - o.length) 0
def UQ (o:List Nat):Prop:=o.length<=256/\∀ x ∈ o,x<3329
theorem BBP {x:Nat} {o:List Nat} (h:UQ o):UQ (Aw4 x o):=by
 rw [Aw4];split
 ·rename_i hc;refine ⟨by grind,fun y hy=>?_⟩;rw [List.mem_append,List.mem_singleton] at hy;rcases hy with h1 | rfl
  ·exact h.2 y h1
  omega
 omega
theorem Tf {S:AA} {k:Nat} {o:List Nat} (h:UQ o):UQ (Iy S k o):=BBP (BBP h)
theorem CBP (S:AA):∀ (j k:Nat) (o:List Nat),UQ o->UQ (Xa S j k o)
 | 0,_,_,h=>h
 | j+1,k,o,h=>by
  rw [Xa];split;·exact CBP S j (k+1) _ (Tf h)
  ·exact h
theorem FBq {o:List Nat} (h:UQ o):ArE (Io o):=⟨by rw [Io,List.length_append,List.length_replicate];have:=h.1;omega,fun x hx=>by
 rw [Io,List.mem_append] at hx;rcases hx with h1 | h1
 ·exact h.2 x h1
 grind⟩
theorem GBq {o:List Nat} {x:Nat} (h:o.length<256):(Io o).set o.length x=Io (o++[x]):=by rw [Io,Io,List.set_append_right _ _ (Nat.le_refl _),Nat.sub_self,show 256 - o.length=(256 - (o++[x]).length)+1 by grind,List.replicate_succ,List.append_assoc];rfl
def Aqo (seed:AA) (i j:Nat):List Nat:=Io (Xa (sd ((seed++ArF i)++ArF j)) 4000 0 [])
theorem RAs (seed:AA) (i j:Nat):ArE (Aqo seed i j):=FBq (CBP _ _ _ _ ⟨DJ _,fun _ h=>by cases h⟩)
theorem Vf (S:AA) {p n i:Nat} (h:i<n):AwY (ofBytes (up (Qc S p n))) i=strm S (p+i):=by rw [FAs (YBp S p n) (by simp_all [IAs]),Qc,getD_at (by simp_all),List.getElem_map,List.getElem_range',Nat.one_mul]
def I4 (l:List Nat) (p:Nat):Nat:=if p % 3=0 then l.getD (2*(p / 3)) 0 % 256 else if p % 3=1 then l.getD (2*(p / 3)) 0 / 256+l.getD (2*(p / 3)+1) 0 % 16*16 else l.getD (2*(p / 3)+1) 0 / 16
def Ar4 (l:List Nat):AA:=ofBytes (up ((List.range 384).map (I4 l)))
theorem Avp (l:List Nat):(Ar4 l).size=384:=by rw [Ar4,Dj,Dt,List.length_map,List.length_range]
theorem DBP (l:List Nat) (q:Nat):I4 l (3*q)=l.getD (2*q) 0 % 256:=by simp [I4]
theorem EBP (l:List Nat) (q:Nat):I4 l (3*q+1)=l.getD (2*q) 0 / 256+l.getD (2*q+1) 0 % 16*16:=by grind [I4]
theorem FBP (l:List Nat) (q:Nat):I4 l (3*q+2)=l.getD (2*q+1) 0 / 16:=by grind [I4]
theorem GBP (v:Nat->Nat):∀ (j i:Nat) (o:List Nat),AwK (fun i o=>o++[v (3*i)]++[v (3*i+1)]++[v (3*i+2)]) j i o=AwK (fun p o=>o++[v p]) (3*j) (3*i) o
 | 0,_,_=>rfl
 | j+1,i,o=>by rw [AwK,GBP v j (i+1),show 3*(j+1)=3*j+1+1+1 by omega,AwK,AwK,AwK];rfl
def AvC (seed:AA):AA:=EM (EM seed++⟨#[114]⟩)
def ArU (seed:AA):AA:=EM (EM seed++⟨#[115]⟩)
def pS (seed:AA) (i:Nat):List Nat:=gu (J6 (ArU seed) i)
theorem Xe (seed:AA) (i:Nat):ArE (pS seed i):=DBq (iI _ _)
def Zl (seed:AA) (i:Nat):List Nat:=QAs (Aqo (AvC seed) 0 i) (Aqo (AvC seed) 1 i) (pS seed 0) (pS seed 1)
def pT (seed:AA) (i:Nat):List Nat:=Zj (Zl seed i) (pS seed (2+i))
theorem HBP (seed:AA) (i:Nat):ArE (pT seed i):=PAs _ _
def ArJ (seed:AA):AA:=((⟨#[]⟩++Ar4 (pT seed 0))++Ar4 (pT seed 1))++AvC seed
def O6 (seed:AA):AA:=(((⟨#[]⟩++Ar4 (pS seed 0))++Ar4 (pS seed 1))++ArJ seed++EM (ArJ seed))++EM (EM seed++⟨#[122]⟩)
theorem IBP (seed:AA):(ArJ seed).size=800:=by have h:(⟨#[]⟩:AA).size=0:=rfl;simp_all [ArJ,Avp,AvC,Aro]
noncomputable def tH (x:Af):AA:=bif Awj x then (bif x.Aj == 1 then ArJ x.fValue else bif x.Aj == 2 then Tn (x.fValue++⟨#[116]⟩) else ⟨#[]⟩) else ⟨#[]⟩
theorem ZQ {x:Af} (h:Awj x=true) (hk:x.Aj=1\/x.Aj=2):x.fValue.size=32:=by grind [Awj]
def Tq (n:Int):AA:=ofBytes (CAs n.toNat)
theorem JBP:∀ (k n:Nat),(nZ k n).length<=k
 | 0,_=>Nat.le_refl _
 | k+1,n=>by
  rw [nZ];split;·exact DJ _
  ·rw [List.length_append,List.length_singleton];have:=JBP k (n / 10);omega
theorem KBP (n:Int):(Tq n).size<=20:=by grind [Tq,Dj,CAs,JBP]
noncomputable def bn (t:AA):Af×Bool:=(Uw t).getD (YC,false)
theorem UBC {t:AA} (h:t.size<=140737488351232):Uw t=some (bn t)/\WG t=some (bn t)/\XAq t (bn t):=by grind [QBm,bn]
theorem VBC (k t:AA):(Awy k t).1.size<=400:=by
 unfold Awy;cases (EP k 0 t).2;·exact DJ _
 cases (QF (EP k 0 t).1 0).2.2;·exact DJ _
 by_cases h3:((QF (EP k 0 t).1 0).1.size:Int) > 400;·rw [Ba h3];exact DJ _
 ·rw [D6 h3];cases QG (bs (QF (EP k 0 t).1 0).1) == bs (EP k 0 t).1;·exact DJ _
  grind
def KP (b:Ap):AA:=EM (⟨#[111,117,116]⟩++b.BO)
def LBP (x:Af):Af:=⟨0,x.Aj,x.CY,x.CX,false,x.GH,x.fValue,0⟩
def gK (n:Int):Ah:=⟨4,⟨#[]⟩,n,⟨0,0,false,false,false,false,⟨#[]⟩,0⟩⟩
abbrev PT:=List Ah×Int×AA
def Xj (b:Ap) (c:CV) (x:Af) (ok:Bool):PT:=
 bif !ok then Avu 6 else bif decide ((b.AU.AZ.length:Int)>=8) then Avu 1 else bif decide (b.AU.BM>=1000) then Avu 1 else ([Nb (newX b c x)],0,Tq (b.AU.BM+1))
def SAs (b:Ap) (c:CV):Af×Bool:=defaults c.Aj (bif c.Aj == 2 then Tq (b.AU.BM+1)++⟨#[32]⟩++c.fText else c.fText)
noncomputable def inX (b:Ap) (c:CV):Af×Bool:=bn (Awy (KP b) c.fText).1
def UAs (b:Ap) (c:CV):PT:=Xj b c (SAs b c).1 (SAs b c).2
noncomputable def uG (b:Ap) (c:CV):PT:=Xj b c (LBP (inX b c).1) ((Awy (KP b) c.fText).2 && (inX b c).2)
def XT (b:Ap) (c:CV) (x:Af):PT:=
 bif decide (DF b x>=16) then Avu 1 else (bif DF b x != x.fNext then [] else [Nb (O1 x)],0,BAs (O3 x.fValue (DF b x) c.fText))
noncomputable def Vb (tk:AA->AA×Bool) (b:Ap) (c:CV) (x:Af):PT:=
 bif c.Au == 6 then (bif Qk x 1 then ([],0,x.fValue) else Avu 8)
 else bif c.Au == 5 then (bif Qk x 3 then XT b c x else Avu 8)
 else bif c.Au == 10 then (bif Qk x 2 then ([],0,(iV (KP b) (G7 x).1).1) else Avu 8)
 else bif c.Au == 12 then (bif Qk x 4 then (bif !(tk (O6 x.fValue)).2 then Avu 6 else ([],0,(tk (O6 x.fValue)).1)) else Avu 8)
 else bif c.Au == 8 then (bif (Tj x c.CY c.CX).2 then ([Nb (Tj x c.CY c.CX).1],0,⟨#[]⟩) else Avu 8)
 else bif c.Au == 7 then ([],0,tH x)
 else bif c.Au == 9 then ([gK x.fId],0,⟨#[]⟩) else Avu 8
noncomputable def Fb (tk:AA->AA×Bool) (b:Ap) (c:CV):PT:=
 bif c.Au == 1 then (bif decide ((b.BP.length:Int)>=3) then Avu 1 else bif decide (b.CW>=1000) then Avu 1 else ([],0,Tq (b.CW+1)))
 else bif decide (Gl b c.EJ<0) then Avu 2
 else bif c.Au == 13 then ([],0,⟨#[]⟩)
 else bif c.Au == 2 then iP b c
 else bif !(b.BP.getD (Gl b c.EJ).toNat ⟨0,false⟩).QW then Avu 5
 else bif c.Au == 3 then (bif decide ((c.fText.size:Int) > 20) then Avu 6 else ([AsD c.fText],0,⟨#[]⟩))
 else bif c.Au == 4 then UAs b c
 else bif c.Au == 11 then uG b c
 else match C9 b.AU.AZ c.Ag with
  | none=>Avu 7
  | some x=>Vb tk b c x
structure PB (b:Ap):Prop where
 key:b.BO.size=32
 Jk:G9 b.AU=true
 MP:b.BP.length<=3
 opn:0<=b.CW/\b.CW<=1000
 Kt:Vh b=true
 lln:b.BD.length<=140737488351232
theorem PB.things {b:Ap} (h:PB b):b.AU.AZ.length<=8:=(HY.1 h.Jk).2.2.2.1
theorem PB.last {b:Ap} (h:PB b):0<=b.AU.BM/\b.AU.BM<=1000:=(HY.1 h.Jk).2.2.2.2.1
theorem Good.pb {k:AA} {l:List Ah} {b:Ap} (g:Good k l b):PB b:=⟨by rw [g.key,g.Hu],g.Jk,g.MP.1,g.opn,g.Kt.1,by have:=g.Kt.2;omega⟩
theorem MBP {t:Int}:∀ {ls:List CS} {i j:Nat},AxB ls t i=some j->(ls.getD (j - i) ⟨0,0⟩).fId=t:=by
 intro ls;induction ls with
 | nil=>intro i j h;cases h
 | cons f fs ih=>
  intro i j h;rw [AxB] at h;split at h;·simp_all
  ·have h2:=ih h;have h3:=(gI h).1;grind
theorem VAs {b:Ap} {x:Af} (h:Vh b=true) (hx:C9 b.AU.AZ x.fId=some x) (hn:0<=x.fNext):0<=DF b x/\DF b x<=x.fNext:=by
 rw [DF];cases hp:AxB b.BD x.fId 0 with
 | none=>simp_all
 | some j=>
  have h1:=gI hp;have h2:=MBP hp;have h3:=WBM h j h1.1 h1.2;simp_all [Aql,Na]
theorem Oo {xs:List Af} {t:Int} {x:Af} (h:C9 xs t=some x):x.fId=t/\x ∈ xs:=by grind [C9]
theorem WAs {x:Af} (h:Qk x 3=true):Awj x=true/\x.Aj=2/\x.Gw=true:=by grind [Qk,Awj]
theorem NBP {x:Af} (h:Qk x 4=true):Awj x=true/\x.Aj=1:=by grind [Qk,Awj]
theorem WBC {b:Ap} (h:b.BO.size=32):cO b=some (KP b):=by have h3:(⟨#[111,117,116]⟩:AA).size=3:=rfl;rw [cO,IAx,mk,AL (by simp_all),LJ (by simp_all)];rfl
theorem XBC {k s:AA} (hk:k.size<=900000000):cZ k s=some (iV k s):=by
 rw [cZ,KAx,mk,iV];by_cases h:400<s.size;·grind
 ·have h2:=CBC (l:=bs s) (by grind [bs_len]);have hl:=bs_len s;have h1:=Jo (n:=(s.size:Int)) (by omega);have hz:(ofBytes (SN (s.size:Int))++s).size=(SN (s.size:Int)++bs s).length:=by simp_all [Dj]
  have hlen:(SN (s.size:Int)++bs s).length=(SN (s.size:Int)).length+s.size:=by simp_all
  rw [AsB (by grind),AsB (by grind),Ux (by omega),AP,AL (by grind),AL (by grind)];rw [mV,Aq7,AsM (Ut (by omega))];generalize hb:SN (s.size:Int)++bs s=B at hz hlen;have key:∀ (j i m:Nat),i+j=(16 - B.length % 16) % 16->ni (m+j+1) (.c0 k (B++List.replicate i 0))=some (Ti k 0 (ofBytes (QG (bs s)))):=by
   intro j;induction j with
   | zero=>
    grind [QG,ni,VAj,TBK,Dj]
   | succ j ih=>
    intro i m hi;have e:(B++List.replicate i (0:Int))++[0]=B++List.replicate (i+1) 0:=by simp [List.replicate_succ']
    grind [ni,VAj]
  obtain ⟨m,hm⟩:∃ m,AY=m+(16 - B.length % 16) % 16+1:=⟨AY - ((16 - B.length % 16) % 16+1),by have:=FM (n:=(16 - B.length % 16) % 16+1) (by omega);omega⟩
  have h0:=key ((16 - B.length % 16) % 16) 0 m (by omega);simp_all
def iM (c:CV):Bool:=(c.Au == 0) && ((c.EJ == 0) && ((c.Ag == 0) && ((c.Aj == 0) && (((ByteArray.toList c.fText) == (ByteArray.toList (⟨#[]⟩:AA))) && ((c.CY == false) && ((c.CX == false) && true))))))
theorem HBq (c:CV):WA8 c=some (iM c):=rfl
def Ru (e:DW):Bool:=decide ((e.Lc.length:Int)<=30) && (OL e.BA || (e.JY && iM e.BA))
theorem IBq (e:DW):yU e=some (Ru e):=by simp only [yU,XA8,mk,IBo,HBq,AP,Ru];grind
theorem yV {d:BU} (h:d.Ak.length*40<=140737488355328):Uy d=some d:=by rw [Uy,GA3,mk,AL (by rw [decide_eq_true_eq];exact h)]
theorem JBq {b:Ap} (hd:b.Bc.Ak.length*40<=140737488355328) (hb:b.AU.AZ.length<=2932031007317) (hs:b.BP.length<=1000000) (hl:b.BD.length<=1000000):ny b=some b:=by rw [ny,SA8,mk,yV hd,AP,HBB hb,AP,AL (by simp;omega),AL (by simp;omega)]
structure AsC (b:Ap):Prop where
 d:b.Bc.Ak.length*40<=140737488355328
 t:b.AU.AZ.length<=2932031007317
 s:b.BP.length<=3
 l:b.BD.length<=8
 o:0<=b.CW/\b.CW<=1000
theorem Good.iL {k:AA} {l:List Ah} {b:Ap} (g:Good k l b):AsC b:=⟨by have:=g.small.1;omega,by have:=g.Xz;omega,g.MP.1,g.Kt.2,g.opn⟩
theorem AsC.copy {b:Ap} (h:AsC b):ny b=some b:=JBq h.d h.t (by have:=h.s;omega) (by have:=h.l;omega)
theorem OBP {b:Ap} {c:CV} {code leaf:Int} (h:AsC b) (hc:(code != 0)=true):Aq2 b c code leaf=some b:=by rw [Aq2,cu,mk,h.copy,AP,hc];rfl
theorem KBq {b:Ap} {c:CV} {leaf:Int} (h:AsC b) (ho:c.Au=1):Aq2 b c 0 leaf=some ⟨b.BO,b.CZ,b.Bc,b.AU,b.BP++[⟨b.CW+1,false⟩],b.BD,b.CW+1⟩:=by have h1:=h.s;have h2:=h.t;have h3:=h.o;rw [Aq2,cu,mk,h.copy,AP,AsB (by rfl),tJ (by omega),AP,Vg (by omega),AP,AL (by rw [ho];rfl),Ep (by omega),A8 (by omega) (by omega)]
theorem LBq {b:Ap} {c:CV} {leaf:Int} {j:Nat} (h:AsC b) (ho:c.Au=2) (hj:Gl b c.EJ=(j:Int)) (hlt:j<b.BP.length):Aq2 b c 0 leaf=some ⟨b.BO,b.CZ,b.Bc,b.AU,b.BP.set j ⟨(b.BP.getD j ⟨0,false⟩).fId,true⟩,b.BD,b.CW⟩:=by have h1:=h.s;have h2:=h.t;rw [Aq2,cu,mk,h.copy,AP,AsB (by rfl),tJ (by omega),AP,Vg (by omega),AP,AsB (by rw [ho];rfl),AsB (by rw [ho];rfl),AL (by rw [ho];rfl),hj,Ep (by omega),GX (by omega),BR]
theorem MBq {b:Ap} {id n:Int} (h:b.BD.length<=1000000):oC b id n=some ⟨b.BO,b.CZ,b.Bc,b.AU,b.BP,bF b.BD id n,b.CW⟩:=by
 rw [oC,TA8,mk,YBB (by omega),AP,atV,bF];cases hp:AxB b.BD id 0 with
 | some j=>
  have:=(gI hp).2;dsimp only;rw [Ep (by omega),GX (by omega),BR]
 | none=>
  dsimp only;rw [AsB (by rfl)];have hle:=PBM id b.BD;have key:∀ (j i m:Nat),i+j=Gf b.BD id->oD (m+j+1) (.c0 id n (i:Int) b.BO b.CZ b.AU.Bv b.AU.DU b.AU.BM b.AU.Dh b.AU.fCount b.CW b.Bc.Ak b.AU.AZ b.BP b.BD)=some ⟨b.BO,b.CZ,b.Bc,b.AU,b.BP,b.BD.take (Gf b.BD id)++[⟨id,n⟩]++b.BD.drop (Gf b.BD id),b.CW⟩:=by
   intro j;induction j with
   | zero=>
    intro i m hi;have hi:i=Gf b.BD id:=by omega
    subst hi;have e1:(b.BD.drop 0).take (Gf b.BD id - 0)=b.BD.take (Gf b.BD id):=by rw [List.drop_zero,Nat.sub_zero]
    have e2:(b.BD.drop (Gf b.BD id)).take (b.BD.length - Gf b.BD id)=b.BD.drop (Gf b.BD id):=List.take_of_length_le (by rw [List.length_drop];omega);have l1:(b.BD.take (Gf b.BD id)).length<=1000000:=by rw [List.length_take];omega
    have l2:(b.BD.drop (Gf b.BD id)).length<=1000000:=by rw [List.length_drop];omega
    rw [oD];simp only [NAp,mk,BR,e1,e2];have c1:(decide ((0:Int)<=(Gf b.BD id:Int)) && decide ((Gf b.BD id:Int)<=(b.BD.length:Int)))=true:=by rw [Bool.and_eq_true,decide_eq_true_eq,decide_eq_true_eq];omega
    have c2:decide ((b.BD.take (Gf b.BD id)).length*16<=140737488355328)=true:=by rw [decide_eq_true_eq];omega
    have c3:decide (((b.BD.take (Gf b.BD id)).length+1)*16<=140737488355328)=true:=by rw [decide_eq_true_eq];omega
    have c4:decide (((b.BD.take (Gf b.BD id)++[(⟨id,n⟩:CS)]).length+(b.BD.drop (Gf b.BD id)).length)*16<=140737488355328)=true:=by rw [decide_eq_true_eq,List.length_append,List.length_singleton];omega
    rw [c1,c2,c3,c4];simp only [Ar];by_cases hl:Gf b.BD id<b.BD.length;·have hn:=RBM hl;rw [Ep (by omega),GX (by omega),AsB (D6 hn)]
    ·rw [Jh (by omega)]
   | succ j ih=>
    intro i m hi;have hw:=Fq (i:=i) (by omega);have hn:=QBM (ls:=b.BD) (id:=id) (i:=i) (by omega);rw [AwB m j,oD];simp only [NAp,mk,BR,hw];rw [Ep (by omega),GX (by omega),AL (Ba hn)];exact ih (i+1) m (by omega)
  obtain ⟨m,hm⟩:∃ m,AY=m+Gf b.BD id+1:=⟨AY - (Gf b.BD id+1),by have:=FM (n:=Gf b.BD id+1) (by omega);omega⟩
  rw [hm];exact key _ 0 m (Nat.zero_add _)
theorem NBq {b:Ap} {c:CV} {leaf:Int} {j:Nat} (h:AsC b) (ho:c.Au=13) (hj:Gl b c.EJ=(j:Int)) (hlt:j<b.BP.length):Aq2 b c 0 leaf=some ⟨b.BO,b.CZ,b.Bc,b.AU,b.BP.take j++b.BP.drop (j+1),b.BD,b.CW⟩:=by have h1:=h.s;have h2:=h.t;have hw:=Fq (i:=j) (by omega);have e2:(b.BP.drop (j+1)).take (b.BP.length - (j+1))=b.BP.drop (j+1):=List.take_of_length_le (by rw [List.length_drop];omega);rw [Aq2,cu,mk,h.copy,AP,AsB (by rfl),tJ (by omega),AP,Vg (by omega),AP,AsB (by rw [ho];rfl),AL (by rw [ho];rfl),hj,Ep (by omega),GX (by omega),hw,GX (by omega),BR,BR,e2,GX (by rw [List.length_drop];omega),Nat.sub_zero]
def delS (ls:List EG) (id:Int):List EG:=ls.filter fun s=>s.fId != id
def xP (ls:List EG) (id:Int):List EG:=ls.map fun s=>⟨s.fId,s.QW || s.fId == id⟩
def Rq (ls:List CS) (id:Int):List CS:=ls.filter fun v=>v.fId != id
def ku (b:Ap) (S:List EG):Ap:=⟨b.BO,b.CZ,b.Bc,b.AU,S,b.BD,b.CW⟩
def Aq0 (b:Ap) (V:List CS):Ap:=⟨b.BO,b.CZ,b.Bc,b.AU,b.BP,V,b.CW⟩
def Va (b:Ap) (c:CV) (leaf:Int):Ap:=match C9 b.AU.AZ c.Ag with
 | some x=>bif x.Aj == 2 && (decide (leaf>=0) && decide (leaf<x.fNext)) then Aq0 b (Am b.BD x.fId (leaf+1)) else b
 | none=>b
def Ij (b:Ap) (c:CV) (code leaf:Int):Ap:=
 bif code != 0 then b
 else bif c.Au == 1 then ⟨b.BO,b.CZ,b.Bc,b.AU,b.BP++[⟨b.CW+1,false⟩],b.BD,b.CW+1⟩
 else bif c.Au == 13 then ku b (delS b.BP c.EJ)
 else bif c.Au == 2 then ku b (xP b.BP c.EJ)
 else bif c.Au == 5 then Va b c leaf
 else bif c.Au == 9 then Aq0 b (Rq b.BD c.Ag)
 else b
theorem XAs (id:Int):∀ (ls:List EG) (i:Nat),Jg ls id i=(Jg ls id 0).map (· + i)
 | [],i=>rfl
 | v::vs,i=>by
  rw [Jg,Jg];split;·simp
  ·rw [XAs id vs (i+1),XAs id vs (0+1),Option.map_map];congr 1;funext j;show j+(i+1)=(j+(0+1))+i;omega
theorem PBP (id:Int):∀ {ls:List EG},AscS ls->(match Jg ls id 0 with | some j=>ls.take j++ls.drop (j+1) | none=>ls)=delS ls id
 | [],_=>rfl
 | s::ss,h=>by
  obtain ⟨hs,h2⟩:=List.pairwise_cons.1 h
  have ih:=PBP id h2;rw [delS] at ih ⊢;rw [Jg,List.filter_cons];by_cases e:s.fId=id;·rw [if_pos (beq_iff_eq.2 e),if_neg (by rw [bne_iff_ne];exact fun q=>q e),List.filter_eq_self.2 fun w hw=>by have:=hs w hw;rw [bne_iff_ne];omega];rfl
  ·rw [if_neg (by rw [beq_iff_eq];exact e),if_pos (bne_iff_ne.2 e),<-ih,XAs];cases Jg ss id 0 <;> rfl
theorem QBP (id:Int):∀ {ls:List EG},AscS ls->(match Jg ls id 0 with | some j=>ls.set j ⟨(ls.getD j ⟨0,false⟩).fId,true⟩ | none=>ls)=xP ls id
 | [],_=>rfl
 | s::ss,h=>by
  obtain ⟨hs,h2⟩:=List.pairwise_cons.1 h
  have ih:=QBP id h2;rw [xP] at ih ⊢;rw [Jg,List.map_cons];by_cases e:s.fId=id
  ·have hr:ss.map (fun s=>(⟨s.fId,s.QW || s.fId == id⟩:EG))=ss:=by
    conv=>rhs;rw [<-List.map_id ss]
    refine List.map_congr_left fun w hw=>?_
    have:=hs w hw;rw [beq_eq_false_iff_ne.2 (by omega),Bool.or_false];rfl
   rw [if_pos (beq_iff_eq.2 e),hr,beq_iff_eq.2 e,Bool.or_true];rfl
  ·rw [if_neg (by rw [beq_iff_eq];exact e),<-ih,XAs,beq_eq_false_iff_ne.2 e,Bool.or_false];cases Jg ss id 0 <;> rfl
theorem RBP (id:Int):∀ {ls:List CS},Arw ls->(match AxB ls id 0 with | some j=>ls.take j++ls.drop (j+1) | none=>ls)=Rq ls id
 | [],_=>rfl
 | s::ss,h=>by
  obtain ⟨hs,h2⟩:=List.pairwise_cons.1 h
  have ih:=RBP id h2;rw [Rq] at ih ⊢;rw [AxB,List.filter_cons];by_cases e:s.fId=id;·rw [if_pos (beq_iff_eq.2 e),if_neg (by rw [bne_iff_ne];exact fun q=>q e),List.filter_eq_self.2 fun w hw=>by have:=hs w hw;rw [bne_iff_ne];omega];rfl
  ·rw [if_neg (by rw [beq_iff_eq];exact e),if_pos (bne_iff_ne.2 e),<-ih,OAr];cases AxB ss id 0 <;> rfl
theorem SBP {k s:AA} {num:Int} (hk:k.size<=900000000) (hs:s.size<=800000000):yX k num s=some (Ti k num s):=by
 rw [yX,BA3,mk,DBN hk,AP,Xk,Ti];cases h:MB num s.size;·rfl
 ·have h':=iU.1 h;have hm:=Rw (bs k) (SN num) ((s.size:Int).toNat);have hl:=bs_len s;rw [Ar,Ar,AsB (by rfl),FBN (by omega) (by simp_all [Dj]),AP,AsM (tu _ _ _)];have hx:(Arm (bs s) (PL (bs k) (SN num) (s.size:Int).toNat)).length=s.size:=by simp_all [dA]
  rw [EBN hk h'.1 (by simp_all [Dj]),AP,AsM (Vk _ _),AL (by grind [Dj,oG])];refine congrArg (fun x=>some (x,true)) (Jm ?_)
  rw [Aq7,AsM (Vk _ _),AsM (UH _ _ _),AsM (fun x hx=>by
   rcases List.mem_append.1 hx with hx | hx
   ·exact Vk _ _ x hx
   ·exact UH _ _ _ x hx),Aru,hl]
  rfl
theorem YBC {k:AA} {count:Int} {r:Ah} (hk:k.size<=900000000) (hr:r.DR<=9223372036854775807):yY k count r=some (Av6 k count r):=by
 have hz:=WH r;rw [yY,FA3,mk,WI hr,AP,Av6];cases h1:(AwX r).2;·rfl
 rw [AsB (by rfl),AvD,AP,Bool.true_and];cases h2:Bl count 0 10000;·rfl
 rw [Na] at h2;obtain ⟨l1,l2,l3⟩:=yZ (k:=k) (s:=(AwX r).1) (num:=count+1) (by omega) (by omega)
 obtain ⟨f1,f2⟩:=YA9 (t:=(Ti k (count+1) (AwX r).1).1) (by omega)
 rw [AsB (by rfl),A8 (by omega) (by omega),SBP hk (by omega),AP,IBN (by omega),AP,l1,f1];rfl
theorem TBP {d:BU} {n:AA} (h:d.Ak.length*40<=140737488351232) (hs:Sorted d.Ak):oH d n=some ⟨Me d.Ak n⟩:=by
 have hp:=WBj (l:=d.Ak) (n:=n) (i:=0);rw [oH,JA3,mk,PAr (by omega),AP,<-VBj hs,AwN];cases he:AwR d.Ak n 0 with
 | none=>
  rw [he] at hp;rw [hp];rfl
 | some j=>
  rw [he] at hp;have hj:=(aF he).2;have hw:=Fq (i:=j) (by omega);have hd:(d.Ak.drop (j+1)).take (d.Ak.length - (j+1))=d.Ak.drop (j+1):=List.take_of_length_le (by rw [List.length_drop];omega);simp only [hw,BR,Nat.sub_zero,List.drop_zero,hd];rw [AL (by simp),AL (by simp;omega),AL (by simp [List.length_take];omega),AL (by simp;omega),AL (by simp [List.length_take,List.length_drop];omega)];simp only [Nat.sub_zero] at hp;rw [hp]
theorem UBP {d:BU} {f:BQ} (h:d.Ak.length*40<=140737488351232) (hs:Sorted d.Ak):XAm d f=some ⟨Awh d.Ak f⟩:=by
 rw [XAm,KA3,TBP h hs,AP,<-XBj hs];have hol:(Me d.Ak f.fName).length<=d.Ak.length:=List.length_filter_le _ _;generalize hL:Me d.Ak f.fName=l at hol ⊢;have key:∀ (j i m:Nat),i+j=l.length->oI (m+j+1) (.c0 (i:Int) f l)=some ⟨l.take i++WJ (l.drop i) f⟩:=by
  intro j;induction j with
  | zero=>
   intro i m hi;have hd:(l.drop i).take (l.length - i)=l.drop i:=List.take_of_length_le (by rw [List.length_drop];omega);rw [oI];simp only [WAm,mk,BR,Nat.sub_zero,List.drop_zero,hd];rw [AsB (by simp;omega),AL (by simp;omega),AL (by simp [List.length_take];omega),AL (by simp [List.length_take];omega),AL (by simp;omega),AL (by simp [List.length_take,List.length_drop];omega)];rw [show l.drop i=[] from List.drop_of_length_le (by omega)];simp [WJ]
  | succ j ih=>
   intro i m hi;have hil:i<l.length:=by omega
   have hw:=Fq (i:=i) (by omega);have hd:(l.drop i).take (l.length - i)=l.drop i:=List.take_of_length_le (by rw [List.length_drop];omega);rw [AwB m j,oI];simp only [WAm,mk,BR,Nat.sub_zero,List.drop_zero,hd,hw,getD_at hil,ih (i+1) m (by omega)];rw [AL (by simp;omega),AL (by simp;omega),drop_at hil,WJ];cases Op.bytesLess l[i].fName.toList f.fName.toList;·rw [Aq,Aq,<-drop_at hil,AL (by simp;omega),AL (by simp [List.length_take];omega),AL (by simp [List.length_take];omega),AL (by simp;omega),AL (by simp [List.length_take,List.length_drop];omega)];simp
   ·rw [Ar,Ar,show l.take (i+1)=l.take i++[l[i]] by rw [List.take_add_one,List.getElem?_eq_getElem hil];rfl,List.append_assoc];rfl
 obtain ⟨m,hm⟩:=gm (n:=l.length) (by omega)
 rw [hm];have:=key l.length 0 m (Nat.zero_add _);simpa using this
theorem OBq {d:BU} {a:Ef} (hd:d.Ak.length*40<=140737488351232) (ha:a.fText.size<=140737488351232):yc d a=some (Aqd d a):=by
 have ho:=FBL d.Ak a.fName;rw [yc,LA3,mk,Aqd];simp only [bT (d:=d) (by omega),PAr (d:=d) (n:=a.fName) (by omega),yV (d:=d) (by omega),AP,bne];cases hdk:Ave d;·rfl
 obtain ⟨hl,hok⟩:=oJ hdk
 have hs:=UBj hdk;have hpl:∀ (l:List BQ) (f:BQ),l.length<=30->(Awh l f).length<=31:=fun l f h=>by have:=AXQ f.fName l;rw [Awh,List.length_append,List.length_append];simp only [List.length_cons,List.length_nil];omega
 simp only [TBP (d:=d) (n:=a.fName) hd hs,fun f=>UBP (d:=d) (f:=f) hd hs,fun f=>UBP (d:=⟨Me d.Ak a.fName⟩) (f:=f) (show (Me d.Ak a.fName).length*40<=_ by omega) (Ahf hs),AP,
  fun f=>bT (d:=⟨Awh d.Ak f⟩) (show (Awh d.Ak f).length<=_ by have:=hpl d.Ak f hl;omega),fun f=>bT (d:=⟨Awh (Me d.Ak a.fName) f⟩) (show (Awh (Me d.Ak a.fName) f).length<=_ by have:=hpl (Me d.Ak a.fName) f (by omega);omega),bT (d:=⟨Me d.Ak a.fName⟩) (show (Me d.Ak a.fName).length<=_ by omega)]
 have fin:∀ l:List BQ,(bif !Ave ⟨l⟩ then some ((⟨[]⟩:BU),false) else some (⟨l⟩,true))=some (doneD l):=fun l=>by rw [doneD];cases Ave ⟨l⟩ <;> rfl
 have ht:∀ f,Awz f=true->f.fText.size+a.fText.size<=9223372036854775807:=fun f hf=>by have:=(yg.1 hf).2.1;omega
 simp only [fin,Bool.true_and,DN,Aq];cases hp:AwR d.Ak a.fName 0 with
 | some j=>
  obtain ⟨hj,hfo,_,_⟩:=GBA hdk hp
  simp only [show AwN d a.fName=(j:Int) by rw [AwN,hp],BR,show decide ((j:Int)>=0)=true from Ba (by omega),show decide ((j:Int)<0)=false from D6 (by omega),show decide ((j:Int)<(d.Ak.length:Int))=true from Ba (by omega),Bool.and_self,Ar,Aq];generalize hf:d.Ak.getD j oK=f at hfo;have hf':d.Ak.getD j (⟨⟨#[]⟩,⟨#[]⟩,0⟩:BQ)=f:=hf;have hk:(f.J3 == (f.fText.size:Int)) = !decide (f.J3<(f.fText.size:Int)):=by
   have:=(yg.1 hfo).2.2;by_cases h:f.J3=(f.fText.size:Int)
   ·rw [beq_iff_eq.2 h,D6 (by omega)];rfl
   ·rw [beq_eq_false_iff_ne.2 h,Ba (by omega)];rfl
  simp only [hf',Ba (ht f hfo),Ar,YJ,hk];cases a.Aj == 1 <;> cases a.Aj == 2 <;> cases a.Aj == 3 <;> cases a.Aj == 4 <;> cases a.I8.toList == (⟨#[]⟩:AA).toList <;> cases a.fText.toList == (⟨#[]⟩:AA).toList <;> cases decide (f.J3<(f.fText.size:Int)) <;> cases a.I8.toList == a.fName.toList <;> rfl
 | none=>
  have hs:decide ((⟨#[]⟩:AA).size+a.fText.size<=9223372036854775807)=true:=Ba (by show 0+a.fText.size<=_;omega);simp only [show AwN d a.fName = -1 by rw [AwN,hp],show decide ((-1:Int)>=0)=false from rfl,show decide ((-1:Int)<0)=true from rfl,hs,Ar,Aq];cases a.Aj == 1 <;> cases a.Aj == 2 <;> cases a.Aj == 3 <;> cases a.Aj == 4 <;> cases a.I8.toList == (⟨#[]⟩:AA).toList <;> cases a.fText.toList == (⟨#[]⟩:AA).toList <;> rfl
theorem ZBC {d:BU} {l:List Ef} (hd:d.Ak.length*40<=140737488351232) (hl:l.length<=140737488351232) (ha:∀ a ∈ l,a.fText.size<=140737488351232):oL d l=some (FT d l 0):=by
 have key:∀ (j i m:Nat) (out:List BQ),i+j=l.length->out.length*40<=140737488351232->oM (m+j+1) (.c0 l l (l.length:Int) (i:Int) [] out)=some (FT ⟨out⟩ (l.drop i) (i:Int)):=by
  intro j;induction j with
  | zero=>
   intro i m out hi ho;rw [oM];simp only [YAm,mk];rw [AsB (by simp;omega),List.drop_of_length_le (by omega),FT,show (l.length:Int)=(i:Int) by omega]
  | succ j ih=>
   intro i m out hi ho;have hil:i<l.length:=by omega
   have hw:=Fq (i:=i) (by omega);rw [AwB m j,oM];simp only [YAm,mk,show decide ((i:Int)<(l.length:Int))=true from Ba (by omega),show decide ((0:Int)<=(i:Int))=true from Ba (by omega),Bool.and_self,Ar,BR,hw,getD_at hil,OBq (d:=⟨out⟩) (a:=l[i]) ho (ha _ (List.getElem_mem hil)),AP];rw [drop_at hil,FT];cases hr:(Aqd ⟨out⟩ l[i]).2;·rfl
   ·have h30:=(oJ (HBL hr)).1;rw [DN,Aq,Ar,ih (i+1) m _ (by omega) (by omega)];rfl
 obtain ⟨m,hm⟩:=gm (n:=l.length) (by omega)
 rw [oL,MA3,mk,yV (by omega),AP,hm];exact key l.length 0 m _ (Nat.zero_add _) hd
noncomputable def xg (b:Ap) (r:Ah):Bool×Ap:=
 bif !(Av6 b.BO b.AU.fCount r).2 || (!(Awv b.AU r).2 || decide ((FT b.Bc (Av6 b.BO b.AU.fCount r).1 0).2<((Av6 b.BO b.AU.fCount r).1.length:Int))) then (false,b)
 else (true,⟨b.BO,b.CZ,(FT b.Bc (Av6 b.BO b.AU.fCount r).1 0).1,(Awv b.AU r).1,b.BP,b.BD,b.CW⟩)
theorem VBP {b:Ap} {r:Ah} (hk:b.BO.size<=900000000) (hd:b.Bc.Ak.length*40<=140737488351232) (hb:b.AU.AZ.length<=140737488351232) (hr:r.DR<=9223372036854775807):Vx b r=some (xg b r):=by
 obtain ⟨h1,h2⟩:=JBL b.BO b.AU.fCount r
 rw [Vx,WA3,mk,YBC hk hr,AP,ZBC hd (by omega) h2,AP,JBB hb hr,AP,xg];cases (Av6 b.BO b.AU.fCount r).2;·rfl
 cases (Awv b.AU r).2;·rfl
 cases decide ((FT b.Bc (Av6 b.BO b.AU.fCount r).1 0).2<((Av6 b.BO b.AU.fCount r).1.length:Int)) <;> rfl
theorem WBP {x:Af} (h:Awj x=true):(AwX (Nb x)).2=true:=by grind [AwX,Nb,G7,IE]
noncomputable def X3:List DW->Int->Bg->Option Bg
 | [],_,l=>some l
 | e::es,i,l=>(bif e.JY then X0 l else Ar0 l e i).bind (X3 es (i+1))
noncomputable def EY (k w:AA):Bg:=⟨(LC k w).1,[],[],[],[AsD w]⟩
def AJl (l:Bg) (c:Int) (s:AA):Bg:=⟨l.AX,l.Bq++[c],l.EN++[s],l.Cm,l.CO⟩
theorem Xg {l:Bg} {c:Int} {s:AA} (h1:l.Bq.length<=1000000) (h2:l.EN.length<=1000000):WL l c s=some (AJl l c s):=by rw [WL,OA4,mk,AL (by simp;omega),AL (by simp;omega)];rfl
theorem PBq {l:Bg} {e:DW} {w code leaf:Int} {s:AA} {r:Ah} {b1 b2:Ap} (hp:Avi l.AX e.BA=some ([r],code,s)) (hcut:e.Nr=false) (hl:ArG l.AX e.BA.Ag=some leaf) (hb:Vx l.AX r=some (true,b1)) (hc:Aq2 b1 e.BA code leaf=some b2) (z1:l.Bq.length<=1000) (z2:l.EN.length<=1000) (z3:l.CO.length<=1000) (z4:l.Cm.length<=1000) :
  Ar0 l e w=some ⟨b2,l.Bq++[code],l.EN++[s],bif e.BA.Au == 5 && code == 0 then l.Cm++[⟨e.BA.Ag,leaf,w⟩] else l.Cm,l.CO++[r]⟩:=by
 obtain ⟨m,hm⟩:∃ m,AY=m+1+1:=⟨AY - 2,rfl⟩
 have hw:AV (0+1)=1:=by rw [A8 (by omega) (by omega)];rfl
 rw [Ar0,tN,mk,hp,AP,hl,hm,hcut,Aq,AP,Zn];simp only [tV,mk];rw [AL (by rfl),AL (by rfl)];show (Vx l.AX r).bind _=_;rw [hb,AP];dsimp only;rw [Ar,Ep (by omega),hw,Zn];simp only [tV,mk];rw [AsB (by rfl)];show (Aq2 b1 e.BA code leaf).bind _=_;rw [hc,AP,Xg (l:=⟨b2,l.Bq,l.EN,l.Cm,_⟩) (show l.Bq.length<=1000000 by omega) (show l.EN.length<=1000000 by omega),AP];cases e.BA.Au == 5;·rfl
 ·cases code == 0;·rfl
  ·rw [Ar,Ar,AL (by rw [decide_eq_true_eq];show (l.Cm.length+1)*24<=_;omega)];rfl
def AwO (F:AA) (n:Int) (zs:List Int):Int:=ite (n > (match zs with | []=>0 | z::_=>ite ((ite ((F.size:Int)<z) (F.size:Int) z) > 0) (ite ((F.size:Int)<z) (F.size:Int) z) 0)) n (match zs with | []=>0 | z::_=>ite ((ite ((F.size:Int)<z) (F.size:Int) z) > 0) (ite ((F.size:Int)<z) (F.size:Int) z) 0)
theorem YAs {F:AA} {n:Int} (zs:List Int) (h:0<=n/\n<=(F.size:Int)):n<=AwO F n zs/\AwO F n zs<=(F.size:Int):=by unfold AwO;grind
def SE (F:AA) (n:Int) (zs:List Int):BU:=dk (F.extract 0 (AwO F n zs).toNat) (AwO F n zs)
theorem QBq {F:AA} {n:Int} (zs:List Int) (h:0<=n/\n<=(F.size:Int)) (hF:F.size<=20000):JAp (dk F n) zs=some (SE F n zs,true):=by
 obtain ⟨m,hm⟩:∃ m,AY=m+1+1:=⟨AY - 2,rfl⟩
 obtain ⟨k1,k2⟩:=YAs zs h
 have e:AV (0+1)=1:=by rw [A8 (by omega) (by omega)];rfl
 have hg:[(⟨Fa,F,n⟩:BQ)].getD (0:Int).toNat (⟨⟨#[]⟩,⟨#[]⟩,0⟩:BQ)=⟨Fa,F,n⟩:=rfl;have hl:(([(⟨Fa,F,n⟩:BQ)].length:Nat):Int)=1:=rfl;rw [JAp,OA8,mk,bT (Nat.le_of_ble_eq_true rfl),AP,QD h hF,yV (d:=dk F n) (Nat.le_of_ble_eq_true rfl),AP];rw [DN,Aq,show (dk F n).Ak=[⟨Fa,F,n⟩] from rfl,hm,yh];simp only [PA8,mk,hg,hl,e];rw [AL (by rfl),AL (by rfl)];have hend:∀ (v:Int) (x y:List BQ) (l:List Int),v=1->yh (m+1) (.c0 l v 1 x y)=some (⟨y⟩,true):=by intro v x y l hv;subst hv;rfl
 cases zs with
 | nil=>
  rw [AsB (by rfl)];have hk:ite (n > 0) n 0=AwO F n []:=rfl;rw [hk,GX (by omega),hend _ _ _ _ rfl];rfl
 | cons z zs=>
  rw [Ep (by rw [List.length_cons];omega),GX (by rw [List.length_cons];omega)];have hz:(z::zs).getD (0:Int).toNat 0=z:=rfl;simp only [hz];have hk:ite (n > (ite ((ite ((F.size:Int)<z) (F.size:Int) z) > 0) (ite ((F.size:Int)<z) (F.size:Int) z) 0)) n (ite ((ite ((F.size:Int)<z) (F.size:Int) z) > 0) (ite ((F.size:Int)<z) (F.size:Int) z) 0)=AwO F n (z::zs):=rfl;simp only [hk];rw [GX (by omega),hend _ _ _ _ rfl];rfl
theorem XBP {d:BU} {E T:AA} {n:Int} (zs:List Int) (hT:T.size<=20000) (hd:d.Ak.length*40<=140737488351232) (ha:Aqd d ⟨1,Fa,T,⟨#[]⟩⟩=(dk E n,true)) (h:0<=n/\n<=(E.size:Int)) (hE:E.size<=20000):KAp d (AwG T) 1 zs=some (SE E n zs,true):=by
 have e1:FT d [⟨1,Fa,T,⟨#[]⟩⟩] 0=(dk E n,1):=by rw [FT,ha];rfl
 rw [KAp,QA8,mk,AvD,AP,show Bl 1 0 ((AwG T).length:Int)=true from rfl,DN,Aq,AL (by rfl),show ((AwG T).take (1:Int).toNat).drop 0=[⟨1,Fa,T,⟨#[]⟩⟩] from rfl,ZBC (l:=[⟨1,Fa,T,⟨#[]⟩⟩]) hd (show (1:Nat)<=140737488351232 by omega) (fun a ha=>by rw [List.mem_singleton] at ha;rw [ha];show T.size<=_;omega),AP,e1];rw [AsB (by rfl),QBq zs h hE];rfl
theorem YBP {b:Ap} (h:b.Bc.Ak.length*40<=140737488355328):LAp b=some (kV b):=by rw [LAp,RA8,yV h,AP,lM];rfl
structure Down (k:AA) (l:List Ah) (b:Ap):Prop where
 Hu:k.size=32
 len:1<=l.length/\l.length<=50
 book:(Dl DI l).2=true
 box:∃ X:AA,b=⟨k,false,dk X X.size,DI,[],[],0⟩/\X.size<=16700/\∃ (l2:List Ah) (K:Nat),l2.length<=50/\(Dl DI l2).2=true/\K<=(Av7 (tx k 1 l2)).length/\bs X=(Av7 (tx k 1 l2)).take K/\l=l2.take (whole (tx k 1 l2) K)
theorem BBD {k:AA} {l:List Ah} (hl:l.length<=50):(Av7 (tx k 1 l)).length<=334*l.length:=by have h:=DAr k _ (yj k l 1 (by omega) (by omega));simp_all [Avj]
theorem RBq {k:AA} {l:List Ah} {L:Bg} {r:Ah} (zs:List Int) (g:Good k l L.AX) (hl:l.length<50) (hn:r.DR<=9223372036854775807) (hr:(Awv L.AX.AU r).2=true) (z1:L.Bq.length<=1000) (z2:L.EN.length<=1000) (z3:L.CO.length<=1000) :
  ∃ l' b',Xw L r zs=some ⟨b',L.Bq++[10],L.EN++[⟨#[]⟩],L.Cm,bif decide (l'.length > l.length) then L.CO++[r] else L.CO⟩/\Down k l' b'/\(l'=l\/l'=l++[r])/\(∀ z zs',zs=z::zs'->334*((l.length:Int)+1)<=z->l'=l++[r])/\(zs=[]->l'=l):=by
 obtain ⟨F,h1,h2⟩:=g.disk
 have EB:=Good.xK g.len.2 h2;have hF2:F.size=(Av7 (tx k 1 l)).length:=by rw [<-bs_len,h2]
 obtain ⟨T,t1,t2⟩:=xM (k:=k) (r:=r) (i:=l.length) (Tv hr).2.1 (by omega)
 have hlen:(l++[r]).length=l.length+1:=by rw [List.length_append];rfl
 have hat:(l++[r])[l.length]'(by omega)=r:=by simp
 have hall:Av7 (tx k 1 (l++[r]))=Av7 (tx k 1 l)++bs T:=by have e:=kX (k:=k) (l:=l++[r]) (i:=l.length) (by omega);rw [List.take_of_length_le (by omega),List.take_left,hat,<-t2] at e;exact e
 have hfl:=BBD (k:=k) (l:=l++[r]) (by omega);have hl1:=congrArg List.length hall;rw [List.length_append,bs_len] at hl1;have hz:(F++T).size=F.size+T.size:=ByteArray.size_append;have hE:bs (F++T)=Av7 (tx k 1 (l++[r])):=by rw [Aq7,h2,hall]
 have hcut:=XBP (d:=dk F F.size) (E:=F++T) (T:=T) (n:=F.size) zs (by omega) (Nat.le_of_ble_eq_true rfl) (GAr (by omega) (by omega)) (by omega) (by omega);obtain ⟨q1,q2⟩:=YAs (F:=F++T) (n:=F.size) zs (by omega)
 have hk1:∀ z zs',zs=z::zs'->334*((l.length:Int)+1)<=z->AwO (F++T) F.size zs=((F++T).size:Int):=by
  intro z zs' e hz';have q3:(z:Int)>=((F++T).size:Int):=by omega
  rw [e] at q2 ⊢;unfold AwO at q2 ⊢;dsimp only at q2 ⊢;repeat' split <;> try omega
 have hk0:zs=[]->AwO (F++T) F.size zs=(F.size:Int):=by intro e;rw [e];unfold AwO;dsimp only;split <;> omega
 unfold SE at hcut;generalize AwO (F++T) F.size zs=kk at hcut q1 q2 hk1 hk0;obtain ⟨K,rfl⟩:∃ K:Nat,kk=(K:Int):=⟨kk.toNat,by omega⟩
 rw [BR] at hcut;have hX:bs ((F++T).extract 0 K)=(Av7 (tx k 1 (l++[r]))).take K:=by rw [Ls,List.drop_zero,hE]
 have Al:((F++T).extract 0 K).size=K:=by rw [ByteArray.size_extract];omega
 generalize (F++T).extract 0 K=X at hcut hX Al;have hEl:(Av7 (tx k 1 (l++[r]))).length=F.size+T.size:=by omega
 have he2:(Dl DI (l++[r])).2=true:=by rw [gQ,g.book];dsimp only;rw [Ar,Dl,hr];rfl
 have hrb:=ZBA (k:=k) (file:=X) (l:=l++[r]) (K:=K) (by omega) (sH he2) (by omega) hX;obtain ⟨w1,w2,w3⟩:=UAq (tx k 1 (l++[r])) K
 have w4:=JBM (tx k 1 (l++[r])) l.length K (by rw [Avj];omega) (by rw [aI,List.take_left];omega);have w5:=QBA (tx k 1 (l++[r])) K;rw [Avj] at w2 w5;rw [aI] at w3;have CF:(l++[r]).take (whole (tx k 1 (l++[r])) K)=l\/(l++[r]).take (whole (tx k 1 (l++[r])) K)=l++[r]:=by
  by_cases hw:whole (tx k 1 (l++[r])) K=l.length;·left;rw [hw,List.take_left]
  ·right;rw [List.take_of_length_le (by omega)]
 refine ⟨(l++[r]).take (whole (tx k 1 (l++[r])) K),⟨k,false,dk X X.size,DI,[],[],0⟩,?_,⟨g.Hu,?_,LBA _ he2,⟨X,rfl,by have:=IAr (k:=k) (l:=l++[r]) (by omega) (l.length+1);rw [List.take_of_length_le (by omega)] at this;omega,l++[r],K,by omega,he2,by omega,hX,rfl⟩⟩,CF,?_,?_⟩
 ·rw [Xw,MAp,mk,g.cnt,YBC (by rw [g.key,g.Hu];omega) hn,AP,g.key,t1,h1,hcut,AP,YBP (by rw [h1];exact Nat.le_of_ble_eq_true rfl),AP];dsimp only;rw [Ar,SBB (by exact Nat.le_of_ble_eq_true rfl),AP,show Ih (dk X (K:Int)) ⟨#[98,111,111,107]⟩=(X,true) from HAr X _];dsimp only;rw [show (kV L.AX).BO=k from g.key,TBB (by rw [g.Hu];omega) (by omega),AP,hrb];dsimp only;have hd:decide ((((l++[r]).take (whole (tx k 1 (l++[r])) K)).length:Int) > (l.length:Int))=decide (((l++[r]).take (whole (tx k 1 (l++[r])) K)).length > l.length):=by rw [decide_eq_decide];omega
  rw [hd,Al];cases decide (((l++[r]).take (whole (tx k 1 (l++[r])) K)).length > l.length);·rw [Aq,Aq];show (WL ⟨⟨k,false,dk X (K:Int),DI,[],[],0⟩,L.Bq,L.EN,L.Cm,L.CO⟩ 10 ⟨#[]⟩).bind _=_;rw [Xg (l:=⟨⟨k,false,dk X (K:Int),DI,[],[],0⟩,L.Bq,L.EN,L.Cm,L.CO⟩) (show L.Bq.length<=1000000 by omega) (show L.EN.length<=1000000 by omega)];rfl
  ·rw [Ar,Ar,Ep (by omega)];show (WL ⟨⟨k,false,dk X (K:Int),DI,[],[],0⟩,L.Bq,L.EN,L.Cm,L.CO++[r]⟩ 10 ⟨#[]⟩).bind _=_;rw [Xg (l:=⟨⟨k,false,dk X (K:Int),DI,[],[],0⟩,L.Bq,L.EN,L.Cm,L.CO++[r]⟩) (show L.Bq.length<=1000000 by omega) (show L.EN.length<=1000000 by omega)];rfl
 ·have h3:=g.len;rw [List.length_take];omega
 ·intro z zs' e hz';have:=hk1 z zs' e hz';rw [List.take_of_length_le];rw [w5 (by omega)];omega
 ·intro e;have h3:=hk0 e;rcases CF with h | h
  ·exact h
  ·have h4:=congrArg List.length h;rw [List.length_take] at h4;have h5:whole (tx k 1 (l++[r])) K=l.length+1:=by omega
   rw [h5,List.take_of_length_le (by omega)] at w3;have hT:T.size=0:=by omega
   have h6:=congrArg List.length t2;rw [bs_len,yt] at h6;omega
noncomputable def XV (b:Ap):Ap×Bool:=
 bif b.CZ || !O4 b then (IBA,false)
 else bif !(Aw5 b.BO b.Bc).2.2 || decide ((FT b.Bc (Aw5 b.BO b.Bc).2.1 0).2<((Aw5 b.BO b.Bc).2.1.length:Int)) then (IBA,false)
 else (⟨b.BO,true,(FT b.Bc (Aw5 b.BO b.Bc).2.1 0).1,(Aw5 b.BO b.Bc).1,[],[],0⟩,true)
theorem ZBP {k:AA} {d:BU} (hf:∀ f ∈ d.Ak,f.fText.size<=140737488351232):∀ a ∈ (Aw5 k d).2.1,a.fText.size<=140737488351232:=by
 have h0:=AMh (n:=Fa) hf;intro a;rw [Aw5];cases (!(Ave d) || !(Dl DI (AwM k (Ih d Fa).1).1).2)
 ·rw [Aq];show a ∈ _++_->_;rw [List.mem_append];rintro (h | h)
  ·cases hc:decide (AwN d nNew>=0) <;> rw [hc] at h;·cases h
   ·rw [List.mem_singleton.1 h];exact DJ _
  ·cases hc:(AwM k (Ih d Fa).1).2 == ((Ih d Fa).1.size:Int) <;> rw [hc] at h
   ·simp only [Aq,List.mem_cons,List.not_mem_nil,or_false] at h;rcases h with rfl | rfl | rfl
    ·grind [ByteArray.size_extract]
    ·exact DJ _
    ·exact DJ _
   ·cases h
 simp
theorem SBq {b:Ap} (hd:b.Bc.Ak.length*40<=140737488351232) (hf:∀ f ∈ b.Bc.Ak,f.fText.size<=140737488351232) (ht:b.AU.AZ.length<=140737488351232) (hs:b.BP.length<=140737488351232) (hl:b.BD.length<=140737488351232) (hk:b.BO.size<=900000000):NAn b=some (XV b):=by
 obtain ⟨l1,l2⟩:=JAr b.BO b.Bc
 rw [NAn,NA4,mk,XV];simp only [VBB (b:=b) (by omega) hf ht hs hl,UBB hk (show b.Bc.Ak.length<=_ by omega) hf,ZBC (d:=b.Bc) (l:=(Aw5 b.BO b.Bc).2.1) hd (by omega) (ZBP hf),AP];cases b.CZ
 ·cases O4 b;·rfl
  ·cases (Aw5 b.BO b.Bc).2.2;·rfl
   ·cases decide ((FT b.Bc (Aw5 b.BO b.Bc).2.1 0).2<((Aw5 b.BO b.Bc).2.1.length:Int)) <;> rfl
 ·rfl
structure LS (k:AA) (l:List Ah) (cs:List Int) (L:Bg):Prop where
 good:Good k l L.AX
 codes:L.Bq=cs
 few:cs.length<=60/\L.EN.length=cs.length/\L.Cm.length<=60/\L.CO.length<=60
def yu (n:Int):Ah:=⟨2,⟨#[]⟩,n,⟨0,0,false,false,false,false,⟨#[]⟩,0⟩⟩
theorem Good.AXU {k:AA} {l:List Ah} {b:Ap} (g:Good k l b) {S:List EG} {o:Int} (hS:S.length<=3) (hs:Oa ⟨b.BO,b.CZ,b.Bc,b.AU,S,b.BD,o⟩ S.length 0=true) (ho:0<=o/\o<=1000):Good k l ⟨b.BO,b.CZ,b.Bc,b.AU,S,b.BD,o⟩:=
 ⟨g.Hu,g.key,g.up,g.disk,g.len,g.book,⟨hS,hs⟩,ho,⟨(TBn (b:=b) (c:=⟨b.BO,b.CZ,b.Bc,b.AU,S,b.BD,o⟩) rfl rfl _ _).trans g.Kt.1,g.Kt.2⟩⟩
theorem BBQ {k:AA} {l:List Ah} {b:Ap} (g:Good k l b) (t:Int):ArG b t=some (Lj b t):=ZBB (by have:=g.Kt.2;omega) (by have:=g.Xz;omega)
theorem TBq {n:Int} (h:0<=n/\n<=3):(AwX (yu n)).2=true:=by grind [AwX,yu,Na,IG,IE]
theorem UBq {b:Bo} (hb:G9 b=true) (hc:b.fCount<10000) {n:Int} (h:0<=n/\n<=3):Awv b (yu n)=(⟨b.Bv,n,b.AZ,b.BM,EM (b.Dh++(AwX (yu n)).1),b.fCount+1⟩,true):=by rw [Awv,hb,TBq h,D6 (by omega:¬ b.fCount>=10000)];rfl
theorem VBq {L L':Bg} {e:DW} {w code:Int} {s:AA} {r:Ah} (hp:Avi L.AX e.BA=some ([r],code,s)) (hcut:e.Nr=true) (hc:Xw L r e.Lc=some L'):Ar0 L e w=some L':=by rw [Ar0,tN,mk,hp,AP,hcut,Ar,AL (by rfl),AL (by rfl),show ([r],code,s).1.getD (0:Int).toNat (⟨0,⟨#[]⟩,0,⟨0,0,false,false,false,false,⟨#[]⟩,0⟩⟩:Ah)=r from rfl,hc];rfl
theorem CBQ {k w:AA} (hk:k.size=32) (hw:w.size<=20):LS k [AsD w] [] (EY k w)/\(EY k w).AX.BP=[]/\(EY k w).AX.CW=0/\(EY k w).AX.BD=[]/\(EY k w).AX.AU.DU=0/\(EY k w).AX.AU.Bv=EM w/\(EY k w).AX.AU.AZ=[]/\(EY k w).AX.AU.BM=0:=by
 obtain ⟨h1,h2,h3,h4,h5,h6⟩:=sG hk hw
 have he:Awv DI (AsD w)=(⟨EM w,0,[],0,EM (DI.Dh++(AwX (AsD w)).1),0+1⟩,true):=by rw [Awv,KBA,show (AwX (AsD w)).2=true by rw [xZ],show decide (DI.fCount>=10000)=false from rfl];rfl
 rw [he] at h6;refine ⟨⟨h2,rfl,⟨DJ _,rfl,DJ _,Nat.le_of_ble_eq_true rfl⟩⟩,h3,h5,h4,?_,?_,?_,?_⟩;all_goals grind [EY]
theorem DBQ {b:Bo} {r:Ah} (h:(Awv b r).2=true) {v:CS} (hv:X6 b.AZ v):(r.Aj=4/\r.DR=v.fId)\/X6 (Awv b r).1.AZ v:=by
 obtain ⟨x,h1,h2,h3,h4⟩:=hv
 obtain ⟨e1,e2⟩:=Oo h1
 rcases TBM h e2 with ⟨_,k1,k2⟩ | ⟨y,k1,k2,_,_,_,k3⟩
 ·omega
 ·rw [e1] at k1;exact .inr ⟨y,k1,by omega,h3,by omega⟩
noncomputable def Gt (b:Ap) (r:Ah):Ap:=⟨b.BO,b.CZ,(FT b.Bc (Av6 b.BO b.AU.fCount r).1 0).1,(Awv b.AU r).1,b.BP,b.BD,b.CW⟩
theorem ZAs {k:AA} {l:List Ah} {b:Ap} {r:Ah} (g:Good k l b) (hl:l.length<50) (hr:(Awv b.AU r).2=true) :
  xg b r=(true,Gt b r)/\∀ V,(∀ v ∈ V,X6 (Awv b.AU r).1.AZ v)->Arw V->Good k (l++[r]) (Aq0 (Gt b r) V):=by
 obtain ⟨F,h1,h2⟩:=g.disk
 obtain ⟨T,t1,t2⟩:=xM (k:=k) (r:=r) (i:=l.length) (Tv hr).2.1 (by omega)
 have hlen:(l++[r]).length=l.length+1:=by simp
 have hat:(l++[r])[l.length]'(by omega)=r:=by simp
 obtain ⟨E,e1,e2⟩:=PBn (k:=k) (T:=T) (l:=l++[r]) (i:=l.length) (d:=b.Bc) (by omega) (by omega) (.inr ⟨F,h1,by simp_all⟩) (by simp_all)
 rw [List.take_of_length_le (by omega)] at e2;refine ⟨?_,fun V hV ha=>?_⟩;·rw [xg,Gt,g.key,g.cnt,t1];dsimp only;rw [e1,hr];rfl
 ·have hd:(FT b.Bc (Av6 b.BO b.AU.fCount r).1 0).1=dk E E.size:=by rw [g.key,g.cnt,t1];simp_all
  have hb:=HY.1 (Tv hr).2.2.2.1;have hf:=XBM hb.2.2.2.2.2.2 ha fun v hv=>by
   obtain ⟨x,hx,_⟩:=hV v hv
   exact ⟨x,(Oo hx).2,(Oo hx).1⟩
  refine ⟨g.Hu,g.key,g.up,⟨E,hd,e2⟩,⟨by omega,by omega⟩,?_,⟨g.MP.1,?_⟩,g.opn,OBB.2 ⟨hV,ha⟩,?_⟩;·rw [gQ,g.book];dsimp only;rw [Ar,Dl,hr];rfl
  ·exact (OBM (b:=b) (c:=Aq0 (Gt b r) V) rfl rfl _ _).trans g.MP.2
  ·show V.length<=8;omega
theorem Good.lives {k:AA} {l:List Ah} {b:Ap} (g:Good k l b):(∀ v ∈ b.BD,X6 b.AU.AZ v)/\Arw b.BD:=OBB.1 g.Kt.1
theorem Good.ADh {k:AA} {l:List Ah} {b:Ap} (g:Good k l b):(∀ s ∈ b.BP,1<=s.fId/\s.fId<=b.CW)/\AscS b.BP:=PBB.1 g.MP.2
theorem WBq {b:Bo} {y:Af} (hb:G9 b=true) (hc:b.fCount<10000) (hy:Awj y=true) (h8:b.AZ.length<8) (hid:y.fId=b.BM+1):(Awv b (Nb y)).2=true:=by have hn:=(GBK (x:=y) (HY.1 hb).2.2.2.2.2.2 (by omega)).2;grind [TT,Awv,Nb,WBP]
theorem EBQ {b:Bo} {x y:Af} (hb:G9 b=true) (hc:b.fCount<10000) (hy:Awj y=true) (hx:C9 b.AZ y.fId=some x) (hg:grown x y=true):(Awv b (Nb y)).2=true:=by grind [TT,Awv,Nb,WBP]
theorem XBq {b:Bo} {x:Af} (hb:G9 b=true) (hc:b.fCount<10000) (hx:C9 b.AZ x.fId=some x) (hok:Awj x=true):(Awv b (gK x.fId)).2=true:=by
 obtain ⟨_,_,i1,i2,_⟩:=Arq hok
 grind [AwX,gK,Na,IG,IE,Awv]
theorem YBq {b:Bo} (hb:G9 b=true) (hc:b.fCount<10000) (w:AA):(Awv b (AsD w)).2=true:=by rw [Awv,hb,xZ,D6 (by omega:¬ b.fCount>=10000)];rfl
def dB (x:Af):Af:=⟨1,x.Aj,x.CY,x.CX,x.Gw,x.GH,x.fValue,x.fNext⟩
theorem ZBq {b:Ap} {c:CV} {x:Af} (hl:0<=b.AU.BM/\b.AU.BM<1000) (h:Awj (dB x)=true):Awj (newX b c x)=true:=by have h1:Bl (b.AU.BM+1) 1 1000=true:=Na.2 (by omega);rw [Awj] at h ⊢;rw [show Bl (newX b c x).fId 1 1000=true from h1];exact h
theorem FBQ (x:Int) (h f s w:Bool) (k:Int) (hk:k=1/\s=false\/k=2/\w=false) (d:AA) (hd:d.size=32):Awj (dB ⟨x,k,h,f,s,w,d,0⟩)=true:=by
 rw [Awj,dB];dsimp only;rw [hd];rcases hk with ⟨rfl,rfl⟩ | ⟨rfl,rfl⟩
 all_goals rfl
theorem Ahp {kind:Int} {d:AA} (h:(defaults kind d).2=true):Awj (dB (defaults kind d).1)=true:=by
 rw [defaults] at h ⊢;by_cases h1:kind=1;·grind [FBQ,Aro]
 ·rw [beq_eq_false_iff_ne.2 h1,Aq] at h ⊢;by_cases h2:kind=2;·grind [FBQ,Aro]
  ·rw [beq_eq_false_iff_ne.2 h2,Aq] at h ⊢;by_cases h3:kind=3
   ·subst h3;rw [show ((3:Int) == 3)=true from rfl,Ar] at h ⊢;by_cases hz:(d.size:Int)<=100;·rw [Ba hz,Ar];rw [Awj,dB];dsimp only;rw [Ba hz];rfl
    simp_all
   grind
theorem BBr {x:Af} (h:Awj x=true):Awj (dB (LBP x))=true:=by
 rw [Awj] at h ⊢;simp only [Bool.and_eq_true] at h;obtain ⟨⟨⟨⟨⟨_,h2⟩,_⟩,_⟩,h5⟩,h6⟩:=h
 show (Bl 1 1 1000 && Bl x.Aj 1 3 && Bl 0 0 16 && ((x.Aj == 2) || (((0:Int) == 0) && !false)) && ((x.Aj == 1) || !x.GH) && (bif x.Aj == 3 then decide ((x.fValue.size:Int)<=100) else (x.fValue.size:Int) == 32))=true;grind [Bl]
theorem CBr {t:AA} (h:t.size<=140737488351232) (hr:(bn t).2=true):Awj (bn t).1=true:=by
 rcases (UBC h).2.2 with ⟨_,h2⟩ | h2
 all_goals simp_all [UBA]
theorem GBQ {x:Af} {n:Int} (h:x.fNext<=n) (hi fi:Bool) (h1:(hi || !x.CY)=true) (h2:(fi || !x.CX)=true):grown x ⟨x.fId,x.Aj,hi,fi,x.Gw,x.GH,x.fValue,n⟩=true:=by simp_all [grown]
structure HBQ (b:Ap) (c:CV) (code:Int) (r:Ah):Prop where
 num:r.DR<=9223372036854775807
 ent:(Awv b.AU r).2=true
 gone:r.Aj=4->c.Au=9/\r.DR=c.Ag/\code=0
 code:code≠0->r.Aj=2
def yw (b:Ap) (c:CV) (p:PT):Prop:=p.1=[]\/∃ r,p.1=[r]/\HBQ b c p.2.1 r
theorem NG {b:Ap} {c:CV} {n:Int}:yw b c (Avu n):=.inl rfl
theorem IBQ {k:AA} {l:List Ah} {b:Ap} {c:CV} {x:Af} {ok:Bool} (g:Good k l b) (h:ok=true->Awj (dB x)=true):yw b c (Xj b c x ok):=by
 rw [Xj];cases ok;·exact NG
 rw [DN,Aq];have hl:=g.pb.last;have hn:=g.cnt;have h50:=g.len.2;by_cases h8:(b.AU.AZ.length:Int)>=8;·simp_all [NG]
 by_cases h1:b.AU.BM>=1000;·simp_all [NG]
 ·rw [D6 h8,D6 h1];exact .inr ⟨_,rfl,by show (0:Int)<=_;omega,WBq g.Jk (by omega) (ZBq (by omega) (h rfl)) (by omega) rfl,fun h=>absurd h (by show ¬ (3:Int)=4;decide),fun h=>absurd rfl h⟩
theorem Good.thing {k:AA} {l:List Ah} {b:Ap} (g:Good k l b) {x:Af} (hx:x ∈ b.AU.AZ):Awj x=true:=(ArP (HY.1 g.Jk).2.2.2.2.2.2 x hx).2.2
theorem DBr {tk:AA->AA×Bool} {k:AA} {l:List Ah} {b:Ap} {c:CV} {x:Af} (g:Good k l b) (hx:C9 b.AU.AZ c.Ag=some x):yw b c (Vb tk b c x):=by
 obtain ⟨e1,e2⟩:=Oo hx
 have hok:=g.thing e2;have hx':C9 b.AU.AZ x.fId=some x:=by simp_all
 have hn:=g.cnt;have h50:=g.len.2;obtain ⟨_,_,_,_,n0,n1,_⟩:=Arq hok
 rw [Vb];cases c.Au == 6
 ·cases c.Au == 5
  ·cases c.Au == 10
   ·cases c.Au == 12
    ·cases c.Au == 8
     ·cases c.Au == 7
      ·cases h9:c.Au == 9;·exact NG
       ·obtain ⟨i1,i2⟩:=(Arq hok).2.2
        exact .inr ⟨_,rfl,by show x.fId<=_;omega,XBq g.Jk (by omega) hx' hok,fun _=>⟨beq_iff_eq.1 h9,e1,rfl⟩,fun h=>absurd rfl h⟩
      ·exact .inl rfl
     ·rw [Ar];cases hc:(Tj x c.CY c.CX).2;·exact NG
      ·rw [Tj] at hc ⊢;cases hq:Awj x && ((c.CY || !x.CY) && (c.CX || !x.CX));·grind
       ·simp only [Bool.and_eq_true] at hq;have hy:Awj ⟨x.fId,x.Aj,c.CY,c.CX,x.Gw,x.GH,x.fValue,x.fNext⟩=true:=hok;exact .inr ⟨_,rfl,by show (0:Int)<=_;omega,EBQ g.Jk (by omega) hy hx' (GBQ (Int.le_refl _) _ _ hq.2.1 hq.2.2),fun h=>absurd h (by show ¬ (3:Int)=4;decide),fun h=>absurd rfl h⟩
    ·rw [Ar];cases Qk x 4;·exact NG
     ·rw [Ar];cases (tk (O6 x.fValue)).2;·exact NG
      ·exact .inl rfl
   ·rw [Ar];cases Qk x 2;·exact NG
    ·exact .inl rfl
  ·rw [Ar];cases hm:Qk x 3;·exact NG
   ·obtain ⟨_,h2,h3⟩:=WAs hm
    rw [Ar,XT];by_cases h16:DF b x>=16;·simp_all [NG]
    ·rw [D6 h16,Aq];cases DF b x != x.fNext
     ·have hnx:x.fNext<=ite (16<x.fNext+3) 16 (x.fNext+3)/\ite (16<x.fNext+3) 16 (x.fNext+3)<=16:=by omega
      have hy:Awj (O1 x)=true:=by grind [O1,Na,Awj]
      exact .inr ⟨_,rfl,by show (0:Int)<=_;omega,EBQ g.Jk (by omega) hy hx' (GBQ hnx.1 _ _ (by simp) (by simp)),fun h=>absurd h (by show ¬ (3:Int)=4;decide),fun h=>absurd rfl h⟩
     ·exact .inl rfl
 ·rw [Ar];cases Qk x 1;·exact NG
  ·exact .inl rfl
theorem XU {tk:AA->AA×Bool} {k:AA} {l:List Ah} {b:Ap} {c:CV} (g:Good k l b):yw b c (Fb tk b c):=by
 have hn:=g.cnt;have h50:=g.len.2;obtain ⟨t1,t2⟩:=(HY.1 g.Jk).2.2.1
 rw [Fb];cases c.Au == 1
 ·rw [Aq];by_cases ha:Gl b c.EJ<0;·simp_all [NG]
  rw [D6 ha,Aq];cases c.Au == 13
  ·rw [Aq];cases c.Au == 2
   ·rw [Aq];cases (b.BP.getD (Gl b c.EJ).toNat ⟨0,false⟩).QW;·exact NG
    rw [DN,Aq];cases c.Au == 3
    ·rw [Aq];cases c.Au == 4
     ·rw [Aq];cases c.Au == 11;·grind [NG,DBr]
      ·refine IBQ g fun h=>BBr (CBr (by grind [VBC]) ?_)
       rw [Bool.and_eq_true] at h;exact h.2
     ·exact IBQ g Ahp
    ·rw [Ar];cases decide ((c.fText.size:Int) > 20);·exact .inr ⟨_,rfl,by show (0:Int)<=_;omega,YBq g.Jk (by omega) _,fun h=>absurd h (by show ¬ (1:Int)=4;decide),fun h=>absurd rfl h⟩
     simp [NG]
   ·rw [Ar,iP];have go:∀ n:Int,0<=n/\n<=3->∀ code,HBQ b c code (yu n):=fun n h code=>⟨by show n<=_;omega,by rw [UBq g.Jk (by omega) h],fun h=>absurd h (by show ¬ (2:Int)=4;decide),fun _=>rfl⟩
    by_cases h3:b.AU.DU>=3;·simp_all [NG]
    rw [D6 h3,Aq];cases (EM c.fText).toList == b.AU.Bv.toList;·exact .inr ⟨_,rfl,go _ (by omega) _⟩
    ·cases b.AU.DU == 0;·exact .inr ⟨_,rfl,go 0 (by omega) _⟩
     ·exact .inl rfl
  ·exact .inl rfl
 ·rw [Ar];cases decide ((b.BP.length:Int)>=3) <;> cases decide (b.CW>=1000) <;> first | exact NG | exact .inl rfl
theorem JBQ {b:Ap} {c:CV} {code leaf:Int} (h:AsC b) (hS:AscS b.BP) (hV:Arw b.BD) (hlf:leaf<=1000):Aq2 b c code leaf=some (Ij b c code leaf):=by
 have hs:=h.s;have ht:=h.t;have hl:=h.l;have ho:=h.o;cases hc:code != 0
 ·obtain rfl:code=0:=by rw [bne_eq_false_iff_eq] at hc;exact hc
  have tail:∀ m p,Qx b.AU c.Ag=some p->(c.Au == 1)=false->(c.Au == 13)=false\/Gl b c.EJ<0->(c.Au == 2)=false\/Gl b c.EJ<0->dD (m+1+1) (.c0 leaf p.2 b c ⟨#[]⟩ false ⟨#[]⟩ 0 0 ⟨#[]⟩ 0 0 b.BO b.CZ b.AU.Bv b.AU.DU b.AU.BM b.AU.Dh b.AU.fCount b.CW p.1 [] [] [] [] b.Bc.Ak b.AU.AZ b.BP b.BD)=some (bif c.Au == 5 then Va b c leaf else bif c.Au == 9 then Aq0 b (Rq b.BD c.Ag) else b):=by
   intro m p hp _ _ _;have hp0:=Vg (b:=b.AU) (t:=c.Ag) (by omega);rw [hp] at hp0;injection hp0 with hp0
   subst hp0;have last:dD (m+1) (.c1 b c ⟨#[]⟩ false ⟨#[]⟩ 0 0 ⟨#[]⟩ 0 0 b.BO b.CZ b.AU.Bv b.AU.DU b.AU.BM b.AU.Dh b.AU.fCount b.CW [] [] [] [] b.Bc.Ak b.AU.AZ b.BP b.BD)=some (bif c.Au == 9 then Aq0 b (Rq b.BD c.Ag) else b):=by
    rw [dD];simp only [OAp,mk];cases c.Au == 9;·rfl
    ·rw [Ar,Ar,YBB (by omega),AP,<-RBP c.Ag hV,atV];cases hp:AxB b.BD c.Ag 0 with
     | none=>rfl
     | some j=>
      have:=(gI hp).2;have hw:=Fq (i:=j) (by omega);have e2:(b.BD.drop (j+1)).take (b.BD.length - (j+1))=b.BD.drop (j+1):=List.take_of_length_le (by rw [List.length_drop];omega);dsimp only;rw [hw,BR,BR,e2,Ep (by omega),GX (by omega),GX (by omega),GX (by rw [List.length_drop];omega),Nat.sub_zero];rfl
   rw [dD];simp only [OAp,mk,last];cases h5:c.Au == 5;·rfl
   ·have h9:(c.Au == 9)=false:=by rw [beq_iff_eq] at h5;rw [h5];rfl
    rw [h9,Ar,Ar,Va];cases C9 b.AU.AZ c.Ag with
    | none=>rfl
    | some x=>
     dsimp only;rw [Ar];by_cases g1:leaf>=0;·rw [A8 (by omega) (by omega),show (oC ⟨b.BO,b.CZ,⟨b.Bc.Ak⟩,⟨b.AU.Bv,b.AU.DU,b.AU.AZ,b.AU.BM,b.AU.Dh,b.AU.fCount⟩,b.BP,b.BD,b.CW⟩ x.fId (leaf+1))=_ from MBq (b:=b) (by omega),YBM _ _ hV,Ba g1];cases x.Aj == 2 <;> cases decide (leaf<x.fNext) <;> rfl
     ·rw [D6 g1];cases x.Aj == 2 <;> rfl
  obtain ⟨m,hm⟩:∃ m,AY=m+1+1:=⟨AY - 2,rfl⟩
  rw [Ij,AsB (by rfl)];cases h1:c.Au == 1
  ·rw [Aq];have ent:(c.Au == 13)=false\/Gl b c.EJ<0->(c.Au == 2)=false\/Gl b c.EJ<0->Aq2 b c 0 leaf=some (bif c.Au == 5 then Va b c leaf else bif c.Au == 9 then Aq0 b (Rq b.BD c.Ag) else b):=by
    intro a1 a2;obtain ⟨p,hp⟩:∃ p,Qx b.AU c.Ag=some p:=⟨_,Vg (by omega)⟩
    rw [Aq2,cu,mk,h.copy,AP,AsB (by rfl),tJ (by omega),AP,hp,AP,h1,Aq,hm,tail m p hp h1 a1 a2];rcases a1 with a1 | a1
    ·rw [a1,Aq];rcases a2 with a2 | a2
     ·rw [a2,Aq]
     ·rw [D6 (by omega:¬ Gl b c.EJ>=0),Aq];cases c.Au == 2 <;> rfl
    ·rw [D6 (by omega:¬ Gl b c.EJ>=0),Aq,Aq];cases c.Au == 13 <;> cases c.Au == 2 <;> rfl
   cases h13:c.Au == 13
   ·rw [Aq];cases h2:c.Au == 2;·rw [Aq];exact ent (.inl h13) (.inl h2)
    ·rw [Ar,<-QBP c.EJ hS];cases hp:Jg b.BP c.EJ 0 with
     | none=>
      have hat:Gl b c.EJ = -1:=by rw [Gl,hp]
      rw [ent (.inl h13) (.inr (by omega)),show (c.Au == 5)=false by rw [beq_iff_eq] at h2;rw [h2];rfl,show (c.Au == 9)=false by rw [beq_iff_eq] at h2;rw [h2];rfl];rfl
     | some j=>
      have hlt:=(QAr hp).2;exact LBq h (beq_iff_eq.1 h2) (by rw [Gl,hp]) (by omega)
   ·rw [Ar,<-PBP c.EJ hS];cases hp:Jg b.BP c.EJ 0 with
    | none=>
     have hat:Gl b c.EJ = -1:=by rw [Gl,hp]
     have e:=beq_iff_eq.1 h13;rw [ent (.inr (by omega)) (.inr (by omega)),show (c.Au == 5)=false by rw [e];rfl,show (c.Au == 9)=false by rw [e];rfl];rfl
    | some j=>
     have hlt:=(QAr hp).2;exact NBq h (beq_iff_eq.1 h13) (by rw [Gl,hp]) (by omega)
  ·exact KBq h (beq_iff_eq.1 h1)
 ·rw [Ij,hc];exact OBP h hc
theorem Good.KBQ {k:AA} {l:List Ah} {b:Ap} (g:Good k l b) {S:List EG} (hS:S.length<=3) (h1:∀ s ∈ S,1<=s.fId/\s.fId<=b.CW) (h2:AscS S):Good k l (ku b S):=
 g.AXU hS ((PBB (b:=ku b S)).2 ⟨h1,h2⟩) g.opn
theorem Good.EBr {k:AA} {l:List Ah} {b:Ap} (g:Good k l b) {V:List CS} (hV:V.length<=8) (hs:Vh (Aq0 b V)=true):Good k l (Aq0 b V):=⟨g.Hu,g.key,g.up,g.disk,g.len,g.book,⟨g.MP.1,(OBM (b:=b) (c:=Aq0 b V) rfl rfl _ _).trans g.MP.2⟩,g.opn,⟨hs,hV⟩⟩
theorem Good.LBQ {k:AA} {l:List Ah} {b:Ap} (g:Good k l b) {V:List CS} (h1:∀ v ∈ V,X6 b.AU.AZ v) (h2:Arw V):Good k l (Aq0 b V):=by
 have hb:=HY.1 g.Jk;have hf:=XBM hb.2.2.2.2.2.2 h2 fun v hv=>by
  obtain ⟨x,hx,_⟩:=h1 v hv
  exact ⟨x,(Oo hx).2,(Oo hx).1⟩
 exact g.EBr (by omega) ((OBB (b:=Aq0 b V)).2 ⟨h1,h2⟩)
theorem MBQ {k:AA} {l:List Ah} {b:Ap} {c:CV} {code leaf:Int} (g:Good k l b) (ho:code=0->c.Au=1->b.BP.length<3/\b.CW<1000):Good k l (Ij b c code leaf):=by
 obtain ⟨v1,v2⟩:=g.lives
 obtain ⟨s1,s2⟩:=g.ADh
 have hs:=g.MP.1;rw [Ij];cases hc:code != 0
 ·rw [Aq];have hc:code=0:=by simp_all
  cases h1:c.Au == 1
  ·rw [Aq];cases c.Au == 13
   ·rw [Aq];cases c.Au == 2
    ·rw [Aq];cases c.Au == 5
     ·rw [Aq];cases c.Au == 9;·exact g
      ·exact g.LBQ (fun v hv=>v1 v (List.mem_filter.1 hv).1) (v2.filter _)
     ·rw [Ar,Va];cases hx:C9 b.AU.AZ c.Ag with
      | none=>exact g
      | some x=>
       dsimp only;cases hq:x.Aj == 2 && (decide (leaf>=0) && decide (leaf<x.fNext));·exact g
       ·simp only [Bool.and_eq_true,decide_eq_true_eq,beq_iff_eq] at hq;refine g.LBQ (fun v hv=>?_) (gJ v2);rcases sF v2 v hv with rfl | ⟨e,_⟩
        ·exact ⟨x,by rw [(Oo hx).1];exact hx,hq.1,by grind,by grind⟩
        simp_all
    ·refine g.KBQ (by simp_all [xP]) (fun s h=>?_) ?_
     ·obtain ⟨t,ht,rfl⟩:=List.mem_map.1 h
      simp_all
     ·exact List.pairwise_map.2 s2
   ·exact g.KBQ (Nat.le_trans (List.length_filter_le _ _) hs) (fun s h=>s1 s (List.mem_filter.1 h).1) (s2.filter _)
  ·obtain ⟨o1,o2⟩:=ho hc (beq_iff_eq.1 h1)
   have h3:=g.opn;refine g.AXU (S:=b.BP++[⟨b.CW+1,false⟩]) (o:=b.CW+1) (by grind) ((PBB (b:=⟨b.BO,b.CZ,b.Bc,b.AU,b.BP++[⟨b.CW+1,false⟩],b.BD,b.CW+1⟩)).2 ⟨fun s h=>?_,?_⟩) (by omega);all_goals grind
 ·exact g
theorem FBr {tk:AA->AA×Bool} {b:Ap} {c:CV} (h:(Fb tk b c).2.1=0) (ho:c.Au=1):b.BP.length<3/\b.CW<1000:=by
 rw [Fb,ho,show ((1:Int) == 1)=true from rfl,Ar] at h;by_cases h1:(b.BP.length:Int)>=3;·rw [Ba h1] at h;exact absurd h (by show ¬ (1:Int)=0;decide)
 by_cases h2:b.CW>=1000;·rw [D6 h1,Ba h2] at h;exact absurd h (by show ¬ (1:Int)=0;decide)
 ·omega
noncomputable def Nc (b:Ap) (c:CV) (p:PT):Ap:=Ij (match p.1 with | []=>b | r::_=>Gt b r) c p.2.1 (Lj b c.Ag)
theorem NBQ {tk:AA->AA×Bool} {k:AA} {l:List Ah} {b:Ap} {c:CV} (g:Good k l b) (hl:l.length<50):Good k (l++(Fb tk b c).1) (Nc b c (Fb tk b c)):=by
 have hop:=FBr (tk:=tk) (b:=b) (c:=c);rw [Nc];generalize hp:Fb tk b c=p at hop;have hk:yw b c p:=by grind [XU]
 rcases hk with h0 | ⟨r,h1,h2⟩
 ·simp_all [MBQ]
 ·rw [h1];dsimp only;obtain ⟨v1,v2⟩:=g.lives
  have e:=(ZAs g hl h2.ent).2;by_cases h4:r.Aj=4
  ·obtain ⟨o1,o2,o3⟩:=h2.gone h4
   rw [Ij,o1,o3];refine e (Rq b.BD c.Ag) (fun v hv=>?_) (v2.filter _);obtain ⟨q1,q2⟩:=List.mem_filter.1 hv
   rcases DBQ h2.ent (v1 v q1) with ⟨_,q3⟩ | q3
   all_goals simp_all
  ·refine MBQ (e b.BD (fun v hv=>?_) v2) hop;rcases DBQ h2.ent (v1 v hv) with ⟨q3,_⟩ | q3
   all_goals omega
structure Dec (b:Ap):Prop where
 last:Xf (b.AU.BM+1)=some (Tq (b.AU.BM+1))
 opn:Xf (b.CW+1)=some (Tq (b.CW+1))
theorem OBQ {b:Ap} {c:CV} {x:Af} {ok:Bool} (h:PB b) (hd:Dec b):yx b c x ok=some (Xj b c x ok):=by have hl:=h.last;rw [yx,WA4,mk,Xj,newX,A8 (by omega) (by omega),hd.last];simp only [O7 (n:=6) (by decide),O7 (n:=1) (by decide),AP];cases ok <;> cases decide ((b.AU.AZ.length:Int)>=8) <;> cases decide (b.AU.BM>=1000) <;> cases x.CY <;> cases x.CX <;> rfl
theorem GBr {b:Ap} {c:CV} (h:PB b) (hd:Dec b) (hc:c.fText.size<=1000):RAn b c=some (UAs b c):=by have hl:=h.last;have hz:=KBP (b.AU.BM+1);have h1:(⟨#[32]⟩:AA).size=1:=rfl;rw [RAn,XA4,mk,UAs,SAs,A8 (by omega) (by omega),hd.last];grind [MBo,OBQ]
theorem PBQ {b:Ap} (h:b.BO.size=32):y5 b=some (KP b):=by have h3:(⟨#[111,117,116]⟩:AA).size=3:=rfl;rw [y5,YA4,mk,AL (by simp_all),Ar2 (by simp_all)];rfl
theorem QBQ {s:AA} (h:s.size<=1000000000):y7 s=some (ofBytes (QG (bs s))):=by
 have h1:=Jo (n:=(s.size:Int)) (by omega);have hl:=bs_len s;have hz:(ofBytes (SN (s.size:Int))++s).size=(SN (s.size:Int)++bs s).length:=by simp_all [Dj]
 have hlen:(SN (s.size:Int)++bs s).length=(SN (s.size:Int)).length+s.size:=by simp_all
 rw [y7,ZA4,mk,X8 (by omega),AP,AL (by grind),hz];have e:(AV (16 - (((SN (s.size:Int)++bs s).length:Int).tmod 16))).tmod 16=(((16 - (SN (s.size:Int)++bs s).length % 16) % 16:Nat):Int):=by grind [A8]
 rw [e,NAq (by omega),AP,AL (by grind [Dj])];refine congrArg some (Jm ?_);rw [Aq7,Aq7,AsM (Ut (by omega)),AsM (fun x hx=>by grind),AsM (BBC (Jj s)),QG,hl]
theorem HBr {text:AA} {a:Nat} (hs:text.size<=140737488351232) (ha:a<=text.size):WM text a=some (QF text a):=by
 have hx:=uF hs ha;rw [WM,y8,mk,SBL hs ha,AP,QF];rcases hx with hx | ⟨v,hx,h0,h1,hA⟩
 ·rw [hx];rfl
 grind [A8,SN]
theorem IBr {k t:AA} (hk:k.size<=900000000) (ht:t.size<=800000000):SAn k t=some (Awy k t):=by
 have hz:=uD k t 0;have hr0:=HBr (text:=(EP k 0 t).1) (a:=0) (by omega) (DJ _);rw [show ((0:Nat):Int)=0 from rfl] at hr0;rw [SAn,AOu,mk,HBN hk ht,AP,hr0,AP,Awy];cases (EP k 0 t).2;·rfl
 ·rw [AsB (by rfl)];cases (QF (EP k 0 t).1 0).2.2;·rfl
  ·rw [AsB (by rfl)];by_cases h:400<(QF (EP k 0 t).1 0).1.size;·grind
   ·have e:decide (((QF (EP k 0 t).1 0).1.size:Int) > 400)=false:=D6 (by omega);rw [e,Aq,QBQ (by omega),AP,Rx,AsM (BBC (Jj _))];grind
theorem JBr (x:Af):BA5 x=some ⟨0,x.Aj,x.CY,x.CX,false,x.GH,x.fValue,0⟩:=rfl
theorem KBr {b:Ap} {c:CV} (h:PB b) (hd:Dec b) (hc:c.fText.size<=1000):TAn b c=some (uG b c):=by
 have hz:=VBC (KP b) c.fText;have hr:=(UBC (t:=(Awy (KP b) c.fText).1) (by omega)).1;have hk:(KP b).size<=900000000:=by simp [KP,Aro]
 rw [TAn,CA5,mk,uG,inX];simp only [PBQ h.key,IBr hk (show c.fText.size<=800000000 by omega),hr,JBr,OBQ h hd,AP];cases (Awy (KP b) c.fText).2 <;> rfl
theorem LBr {b:Ap} {c:CV} {x:Af} (h:PB b) (hc:c.fText.size<=1000) (hx:C9 b.AU.AZ x.fId=some x) (hm:Qk x 3=true):NAo b c x=some (XT b c x):=by
 obtain ⟨h1,h2,h3⟩:=WAs hm
 obtain ⟨_,_,_,_,n0,n1,_⟩:=Arq h1
 have hv:=ZQ h1 (.inr h2);have ht:=h.things;have hl:=VAs h.Kt hx n0;have CT:Lj b x.fId=DF b x:=by simp_all [Lj]
 rw [NAo,DA6,mk,XT,ZBB h.lln (by omega),AP,CT];by_cases h16:DF b x>=16;·simp_all [O7]
 ·rw [D6 h16,Aq,Aq,CBp (by omega) (by omega) (by omega),AP,DBp (by omega),AP,A8 (n:=x.fNext+3) (by omega) (by omega)];cases DF b x != x.fNext <;> rfl
theorem MBr {k s:AA} (hk:k.size<=900000000):OAo k s=some (iV k s):=by rw [OAo,EA6,mk,iV];grind [CBC,bs_len,QBQ,SBP,Dj]
def Uz (g:Nat->Nat) (k:Nat):Nat->Nat
 | 0=>0
 | c+1=>Uz g k c+g (8*k+c)*2 ^ (8*c)
theorem CBD {g:Nat->Nat} (hg:∀ i,g i<256) (k:Nat):∀ c,Uz g k c<2 ^ (8*c)
 | 0=>Nat.two_pow_pos _
 | c+1=>by have h1:=CBD hg k c;have h2:=hg (8*k+c);have h3:(g (8*k+c)+1)*2 ^ (8*c)<=256*2 ^ (8*c):=Nat.mul_le_mul_right _ h2;grind [Uz]
theorem NBr (g:Nat->Nat) (k:Nat):Uz g k 8=ArV g k:=by rw [EAs];simp only [Uz,Nat.reduceMul,Nat.reducePow,Nat.add_zero,Nat.mul_one];omega
theorem OBr {s:AA} (h:s.size=200):PAo s=some (up (ArB (AwY s) 25)):=by
 have hp:∀ i,i<=64->2 ^ i<=18446744073709551616:=fun i hi=>Nat.pow_le_pow_right (n:=2) (by decide) hi
 have c2:∀ k:Nat,(2:Int) ^ k=((2 ^ k:Nat):Int):=fun k=>by rfl
 have s1:=AwV (Lp:=oO) (st:=fun i o=>.c0 s (i:Int) (up (List.replicate 25 0)) (up o)) (f:=fun i o=>o.set (i / 8) (o.getD (i / 8) 0 ||| AwY s i*2 ^ (8*(i % 8)))) (P:=fun i o=>o.length=25/\∀ k,k<25->o.getD k 0=Uz (AwY s) k (min 8 (i - 8*k))) (n:=200) 1 (fun m i o hi ho=>by
  obtain ⟨hol,hok⟩:=ho
  have hd:i / 8<25:=by omega
  have hv:=hok (i / 8) hd;rw [show min 8 (i - 8*(i / 8))=i % 8 by omega] at hv;have hb:=Ve s i;have hpl:=CBD (Ve s) (i / 8) (i % 8);have hor:Uz (AwY s) (i / 8) (i % 8) ||| AwY s i*2 ^ (8*(i % 8))=Uz (AwY s) (i / 8) (i % 8+1):=by have:=Nat.shiftLeft_add_eq_or_of_lt hpl (AwY s i);grind [Nat.shiftLeft_eq,Uz]
  have hlt:=CBD (Ve s) (i / 8) (i % 8+1);have h64:=hp (8*(i % 8+1)) (by omega);have hbp:AwY s i*2 ^ (8*(i % 8))<18446744073709551616:=by grind [Uz]
  refine ⟨?_,Zy hol,fun k hk=>?_⟩
  ·have w1:AV ((i:Int)+1)=((i+1:Nat):Int):=wn (n:=i+1) (by omega);have e1:AV ((i:Int).tdiv 8)=((i / 8:Nat):Int):=wn (n:=i / 8) (by omega);have e2:(i:Int).tmod 8=((i % 8:Nat):Int):=rfl;have e3:AV (8*((i % 8:Nat):Int))=((8*(i % 8):Nat):Int):=wn (n:=8*(i % 8)) (by omega);have e4:Min.min (8*(i % 8)) (IntKind.bits IntKind.u64)=8*(i % 8):=Nat.min_eq_left (by show 8*(i % 8)<=64;omega);have e5:wu64 ((AwY s i:Nat):Int)=((AwY s i:Nat):Int):=OQ (by omega);have e6:wu64 (((AwY s i:Nat):Int)*((2 ^ (8*(i % 8)):Nat):Int))=((AwY s i*2 ^ (8*(i % 8)):Nat):Int):=OQ (n:=AwY s i*2 ^ (8*(i % 8))) hbp;have hb2:Nat.beq 25 (up o).length=true:=by simp_all [Dt]
   rw [oO];simp only [GA6,mk,w1,e1,e2,e3,BR,e4,c2,Awn,e5,e6,Gg];rw [hv,o64 (Nat.lt_of_lt_of_le hpl (hp _ (by omega))) hbp,AsA,AL (by grind),hb2,AwI (l:=o) (by omega),AL (a:=_) (by rfl),AL (by rfl),AL (by grind),AL (by rfl)];rfl
  grind)
 obtain ⟨m,hm⟩:∃ m,AY=m+1+200*1:=⟨AY - 201,by rfl⟩
 rw [PAo,FA6,mk,hm]
 obtain ⟨a1,a2,a3⟩:=s1 200 0 (m+1) (List.replicate 25 0) (by omega) ⟨rfl,fun k hk=>by
  rw [show min 8 (0 - 8*k)=0 by omega,List.getD_eq_getElem?_getD,List.getElem?_replicate];split <;> rfl⟩
 refine a1.trans ?_;have hfin:AwK (fun i o=>o.set (i / 8) (o.getD (i / 8) 0 ||| AwY s i*2 ^ (8*(i % 8)))) 200 0 (List.replicate 25 0)=ArB (AwY s) 25:=by
  refine GAs (by assumption) fun k hk=>?_
  rw [ArB,List.length_map,List.length_range] at hk;rw [a3 k hk,ArB,uy hk,<-NBr,show min 8 (200 - 8*k)=8 by omega]
 rw [hfin,oO];rfl
theorem RBQ {x n:Nat} (hx:x<18446744073709551616) (hn:n<64):YK (x:Int) (n:Int)=some ((Arp n x:Nat):Int):=by
 have e0:wu64 (((BitVec.toNat ((BitVec.ofInt (IntKind.bits IntKind.u64) (wu64 (n:Int))) &&& (BitVec.ofInt (IntKind.bits IntKind.u64) 63))):Nat):Int)=(n:Int):=by rw [OQ (n:=n) (by omega)];refine (n64 (a:=n) (b:=63) (by omega) (by decide)).trans ?_;rw [show (63:Nat)=2 ^ 6 - 1 from rfl,Nat.and_two_pow_sub_one_eq_mod,Nat.mod_eq_of_lt (by omega)]
 have e1:wu64 (64 - (n:Int))=((64 - n:Nat):Int):=by grind [OQ]
 have e2:Min.min (n:Int).toNat (IntKind.bits IntKind.u64)=n:=by rw [BR];exact Nat.min_eq_left (by show n<=64;omega)
 have e3:Min.min ((64 - n:Nat):Int).toNat (IntKind.bits IntKind.u64)=64 - n:=by rw [BR];exact Nat.min_eq_left (by show 64 - n<=64;omega)
 have c:∀ k:Nat,(2:Int) ^ k=((2 ^ k:Nat):Int):=fun k=>by rfl
 have e4:wu64 ((x:Int)*((2 ^ n:Nat):Int))=(((x*2 ^ n) % 18446744073709551616:Nat):Int):=YBN (x*2 ^ n);have e5:Int.fdiv (x:Int) ((2 ^ (64 - n):Nat):Int)=((x / 2 ^ (64 - n):Nat):Int):=by grind
 rw [YK,HA6,mk,e0,e1,e2,e3,c,c,e4,e5,AL (by rfl),o64 (Nat.mod_lt _ (by decide)) (Nat.lt_of_le_of_lt (Nat.div_le_self _ _) hx),JBp hn hx]
theorem PBr (a:List Nat):AwK (fun i c=>c.set (i % 5) (c.getD (i % 5) 0 ^^^ a.getD i 0)) 25 0 [0,0,0,0,0]=(List.range 5).map (LK a):=by
 have h:AwK (fun i c=>c.set (i % 5) (c.getD (i % 5) 0 ^^^ a.getD i 0)) 25 0 [0,0,0,0,0]=(List.range 5).map fun x=>((((0 ^^^ a.getD x 0) ^^^ a.getD (x+5) 0) ^^^ a.getD (x+10) 0) ^^^ a.getD (x+15) 0) ^^^ a.getD (x+20) 0:=by kernel_rfl
 rw [h];refine List.map_congr_left fun x _=>?_
 rw [Nat.zero_xor];rfl
theorem QBr {a:List Nat} (ha:Lh a):y9 (up a)=some (up ((List.range 25).map (AxG a))):=by
 obtain ⟨hl,hw⟩:=ha
 have w1:∀ i:Nat,i<30->AV ((i:Int)+1)=((i+1:Nat):Int):=fun i h=>wn (n:=i+1) (by omega)
 have hb:Nat.beq 25 (up a).length=true:=by simp_all [Dt]
 have s1:=AwV (Lp:=WO) (st:=fun i c=>.c0 (up a) (i:Int) (up a) (up (List.replicate 25 0)) (up c)) (f:=fun i c=>c.set (i % 5) (c.getD (i % 5) 0 ^^^ a.getD i 0)) (P:=fun _ c=>c.length=5/\Lm c) (n:=25) 1 (fun m i c hi hc=>by
  refine ⟨?_,GBO hc.1,hc.2.set _ (xlt (hc.2.get _) (hw.get _))⟩;have e:(i:Int).tmod 5=((i % 5:Nat):Int):=rfl;have h5:i % 5<5:=Nat.mod_lt _ (by decide);have hcl:=hc.1;have hb5:Nat.beq 5 (up c).length=true:=by simp_all [Dt]
  rw [WO];simp only [zA,mk,w1 i (by omega),e,BR,Gg];rw [AL (by grind),hb,Ar,AL (AwI (by omega)),hb5,Ar,AL (AwI (by omega)),Ar,Ou (hc.2.get _) (hw.get _),AsA];first | rfl | (rw [AL (AwI (by omega))]))
 have hc:((List.range 5).map (LK a)).length=5:=by rfl
 have hb5:Nat.beq 5 (up ((List.range 5).map (LK a))).length=true:=by rfl
 have s2:=AwV (Lp:=WO) (st:=fun i b=>.c1 (i:Int) (up b) (up (List.replicate 25 0)) (up ((List.range 5).map (LK a)))) (f:=fun i b=>b.set i (AxG a i)) (P:=fun i b=>b.length=25/\∀ k,i<=k->b.getD k 0=a.getD k 0) (n:=25) 1 (fun m i b hi hb=>by
  obtain ⟨hbl,hbk⟩:=hb
  refine ⟨?_,Zy hbl,fun k hk=>by grind⟩;have h5:i % 5<5:=Nat.mod_lt _ (by decide);have e:(i:Int).tmod 5=((i % 5:Nat):Int):=rfl;have e4:AV (((i % 5:Nat):Int)+4)=((i % 5+4:Nat):Int):=wn (n:=i % 5+4) (by omega);have e1:AV (((i % 5:Nat):Int)+1)=((i % 5+1:Nat):Int):=wn (n:=i % 5+1) (by omega);have e2:((i % 5+4:Nat):Int).tmod 5=(((i % 5+4) % 5:Nat):Int):=rfl;have e3:((i % 5+1:Nat):Int).tmod 5=(((i % 5+1) % 5:Nat):Int):=rfl;have h4:(i % 5+4) % 5<5:=Nat.mod_lt _ (by decide);have h1:(i % 5+1) % 5<5:=Nat.mod_lt _ (by decide);have FS:Nat.beq 25 (up b).length=true:=by simp_all [Dt]
  have hr:YK ((LK a ((i % 5+1) % 5):Nat):Int) 1=some ((Arp 1 (LK a ((i % 5+1) % 5)):Nat):Int):=RBQ (n:=1) (UZ hw _) (by decide);have hv:a.getD i 0 ^^^ (LK a ((i % 5+4) % 5) ^^^ Arp 1 (LK a ((i % 5+1) % 5)))=AxG a i:=rfl;rw [WO];simp only [zA,mk,w1 i (by omega),e,e4,e1,e2,e3,BR,Gg];rw [hbk i (Nat.le_refl _),uy h1,uy h4,hr,AP,Ou (UZ hw _) (jK (by decide) (UZ hw _)),Ou (hw.get _) (xlt (UZ hw _) (jK (by decide) (UZ hw _))),hv,AsA,AL (by grind),FS,hb5,AwI (l:=b) (by omega),AwI (l:=(List.range 5).map (LK a)) (by omega),AwI (l:=(List.range 5).map (LK a)) (by omega)];rfl)
 obtain ⟨m,hm⟩:∃ m,AY=m+1+25*1+1+25*1:=⟨AY - 52,rfl⟩
 rw [y9,IA6,mk,hm,hb,Ar];refine (s1 25 0 (m+1+25*1+1) [0,0,0,0,0] rfl ⟨rfl,DBO 5⟩).1.trans ?_;rw [PBr,WO];simp only [zA,mk];rw [AsB (by rfl)];refine (s2 25 0 (m+1) a rfl ⟨hl,fun _ _=>rfl⟩).1.trans ?_;rw [sK hl,WO];rfl
theorem RBr {a:List Nat} (ha:Lh a):zB (up a)=some (up (ng fun n q=>Arp n (a.getD q 0))):=by
 obtain ⟨hl,hw⟩:=ha
 have ww:∀ n:Nat,n<1000->AV (n:Int)=(n:Int):=fun n h=>wn (by omega)
 have hb:Nat.beq 25 (up a).length=true:=by simp_all [Dt]
 have s:=AwV (Lp:=oP) (st:=fun t (s:Nat×Nat×List Nat)=>.c0 (s.1:Int) (s.2.1:Int) (t:Int) (up a) (up (List.replicate 25 0)) (up s.2.2)) (f:=fun t s=>(s.2.1,(2*s.1+3*s.2.1) % 5,s.2.2.set (s.2.1+5*((2*s.1+3*s.2.1) % 5)) (Arp ((t+1)*(t+2) / 2 % 64) (a.getD (s.1+5*s.2.1) 0)))) (P:=fun _ s=>s.1<5/\s.2.1<5/\s.2.2.length=25) (n:=24) 1 (fun m t s ht hs=>by
  obtain ⟨x,y,o⟩:=s
  obtain ⟨hx,hy,ho⟩:=hs
  dsimp only at hx hy ho ⊢;have hz:(2*x+3*y) % 5<5:=Nat.mod_lt _ (by decide);refine ⟨?_,hy,hz,Zy ho⟩;have hb2:Nat.beq 25 (up o).length=true:=by simp_all [Dt]
  have e1:AV (5*(y:Int))=((5*y:Nat):Int):=ww (5*y) (by omega);have e2:AV ((x:Int)+((5*y:Nat):Int))=((x+5*y:Nat):Int):=ww (x+5*y) (by omega);have e3:AV (2*(x:Int))=((2*x:Nat):Int):=ww (2*x) (by omega);have e4:AV (3*(y:Int))=((3*y:Nat):Int):=ww (3*y) (by omega);have e5:AV (((2*x:Nat):Int)+((3*y:Nat):Int))=((2*x+3*y:Nat):Int):=ww (2*x+3*y) (by omega);have e6:((2*x+3*y:Nat):Int).tmod 5=(((2*x+3*y) % 5:Nat):Int):=rfl;have e7:AV (5*(((2*x+3*y) % 5:Nat):Int))=((5*((2*x+3*y) % 5):Nat):Int):=ww (5*((2*x+3*y) % 5)) (by omega);have e8:AV ((y:Int)+((5*((2*x+3*y) % 5):Nat):Int))=((y+5*((2*x+3*y) % 5):Nat):Int):=ww (y+5*((2*x+3*y) % 5)) (by omega);have f1:AV ((t:Int)+1)=((t+1:Nat):Int):=ww (t+1) (by omega);have f2:AV ((t:Int)+2)=((t+2:Nat):Int):=ww (t+2) (by omega);have f3:AV (((t+1:Nat):Int)*((t+2:Nat):Int))=(((t+1)*(t+2):Nat):Int):=ww ((t+1)*(t+2)) (Nat.lt_of_le_of_lt (Nat.mul_le_mul (show t+1<=24 by omega) (show t+2<=25 by omega)) (by decide));have hq:(t+1)*(t+2) / 2<1000:=Nat.lt_of_le_of_lt (Nat.div_le_self _ _) (Nat.lt_of_le_of_lt (Nat.mul_le_mul (show t+1<=24 by omega) (show t+2<=25 by omega)) (by decide));have f4:(((t+1)*(t+2):Nat):Int).tdiv 2=(((t+1)*(t+2) / 2:Nat):Int):=rfl;have f5:AV (((t+1)*(t+2) / 2:Nat):Int)=(((t+1)*(t+2) / 2:Nat):Int):=ww _ hq;have f6:(((t+1)*(t+2) / 2:Nat):Int).tmod 64=(((t+1)*(t+2) / 2 % 64:Nat):Int):=rfl;rw [oP];simp only [KA6,mk,e1,e2,e3,e4,e5,e6,e7,e8,f1,f2,f3,f4,f5,f6,BR,Gg];rw [RBQ (hw.get _) (Nat.mod_lt _ (by decide)),AP,AsA,AL (by grind),hb,hb2,AwI (l:=a) (by omega),AwI (l:=o) (by omega)];rfl)
 obtain ⟨m,hm⟩:∃ m,AY=m+1+24*1:=⟨AY - 25,rfl⟩
 rw [zB,JA6,mk,hm,hb,Ar,AL (by simp_all [Dt]),show (0:Int).toNat=0 from rfl,Gg];have h0:Arp 0 (a.getD 0 0)=a.getD 0 0:=CBO (hw.get _);have e:=PBp (fun n q=>Arp n (a.getD q 0));rw [h0] at e;refine (s 24 0 (m+1) (1,0,[a.getD 0 0,0,0,0,0,0,0,0,0,0,0,0,0,0,0,0,0,0,0,0,0,0,0,0,0]) rfl ⟨show 1<5 by decide,show 0<5 by decide,rfl⟩).1.trans ?_;rw [e,oP];rfl
theorem SBr {b:List Nat} (hb:Lh b):zC (up b)=some (up ((List.range 25).map (Qu b))):=by
 have ww:∀ n:Nat,n<1000->AV (n:Int)=(n:Int):=fun n h=>wn (by omega)
 have hbl:=hb.1;have hb1:Nat.beq 25 (up b).length=true:=by simp_all [Dt]
 have si:∀ y:Nat,y<5->∀ (m:Nat) (o:List Nat),o.length=25->_:=fun y hy=>fun m o ho=>(AwV (Lp:=YL) (st:=fun x o=>.c1 (y:Int) (y:Int) (x:Int) (up b) (up (List.replicate 25 0)) (up o)) (f:=fun x o=>o.set (x+5*y) (Qu b (x+5*y))) (P:=fun _ o=>o.length=25) (n:=5) 1 (fun m x o hx ho=>by
  refine ⟨?_,Zy ho⟩;have e1:AV (5*(y:Int))=((5*y:Nat):Int):=ww (5*y) (by omega);have e2:AV ((x:Int)+((5*y:Nat):Int))=((x+5*y:Nat):Int):=ww (x+5*y) (by omega);have e3:AV ((x:Int)+1)=((x+1:Nat):Int):=ww (x+1) (by omega);have e4:AV ((x:Int)+2)=((x+2:Nat):Int):=ww (x+2) (by omega);have e5:((x+1:Nat):Int).tmod 5=(((x+1) % 5:Nat):Int):=rfl;have e6:((x+2:Nat):Int).tmod 5=(((x+2) % 5:Nat):Int):=rfl;have h1:(x+1) % 5<5:=Nat.mod_lt _ (by decide);have h2:(x+2) % 5<5:=Nat.mod_lt _ (by decide);have e7:AV ((((x+1) % 5:Nat):Int)+((5*y:Nat):Int))=(((x+1) % 5+5*y:Nat):Int):=ww ((x+1) % 5+5*y) (by omega);have e8:AV ((((x+2) % 5:Nat):Int)+((5*y:Nat):Int))=(((x+2) % 5+5*y:Nat):Int):=ww ((x+2) % 5+5*y) (by omega);have hv:b.getD (x+5*y) 0 ^^^ ((18446744073709551615 - b.getD ((x+1) % 5+5*y) 0) &&& b.getD ((x+2) % 5+5*y) 0)=Qu b (x+5*y):=by rw [Qu,show (x+5*y) % 5=x by omega,show (x+5*y) / 5=y by omega]
  have hb2:Nat.beq 25 (up o).length=true:=by simp_all [Dt]
  rw [YL];simp only [QAo,mk,e1,e2,e3,e4,e5,e6,e7,e8,BR,Gg,m64];rw [Ou (by decide) (hb.2.get _),HBp (hb.2.get _),n64 (by omega) (hb.2.get _),Ou (hb.2.get _) (nlt (by omega)),hv,AsA,AL (by grind),hb1,hb2,AwI (l:=b) (by omega),AwI (l:=b) (by omega),AwI (l:=b) (by omega),AwI (l:=o) (by omega)];rfl) 5 0 m o rfl ho)
 have s:=AwV (Lp:=YL) (st:=fun y o=>.c0 (y:Int) (up b) (up (List.replicate 25 0)) (up o)) (f:=fun y o=>AwK (fun x o=>o.set (x+5*y) (Qu b (x+5*y))) 5 0 o) (P:=fun _ o=>o.length=25) (n:=5) 7 (fun m y o hy ho=>by
  obtain ⟨i1,i2⟩:=si y hy (m+1) o ho
  refine ⟨?_,i2⟩;have w1:AV ((y:Int)+1)=((y+1:Nat):Int):=ww (y+1) (by omega);grind [YL,QAo])
 obtain ⟨m,hm⟩:∃ m,AY=m+1+5*7:=⟨AY - 36,rfl⟩
 rw [zC,LA6,mk,hm];refine (s 5 0 (m+1) (List.replicate 25 0) rfl rfl).1.trans ?_;rw [NBp,YL];rfl
theorem TBr:∀ {i:Nat},i<24->RAo (i:Int)=some ((UY.getD i 0:Nat):Int)
 | 0,_=>by kernel_rfl
 | 1,_=>by kernel_rfl
 | 2,_=>by kernel_rfl
 | 3,_=>by kernel_rfl
 | 4,_=>by kernel_rfl
 | 5,_=>by kernel_rfl
 | 6,_=>by kernel_rfl
 | 7,_=>by kernel_rfl
 | 8,_=>by kernel_rfl
 | 9,_=>by kernel_rfl
 | 10,_=>by kernel_rfl
 | 11,_=>by kernel_rfl
 | 12,_=>by kernel_rfl
 | 13,_=>by kernel_rfl
 | 14,_=>by kernel_rfl
 | 15,_=>by kernel_rfl
 | 16,_=>by kernel_rfl
 | 17,_=>by kernel_rfl
 | 18,_=>by kernel_rfl
 | 19,_=>by kernel_rfl
 | 20,_=>by kernel_rfl
 | 21,_=>by kernel_rfl
 | 22,_=>by kernel_rfl
 | 23,_=>by kernel_rfl
 | i+24,h=>absurd h (by omega)
theorem UBr (a:List Nat):(ng fun n q=>Arp n (((List.range 25).map (AxG a)).getD q 0))=Aw8 a:=by rfl
theorem VBr {a:List Nat} (ha:Lh a):SAo (up a)=some (up (uz a)):=by
 have s:=AwV (Lp:=zD) (st:=fun i a=>.c0 (i:Int) (up a) (up (List.replicate 25 0))) (f:=fun i a=>jL a (UY.getD i 0)) (P:=fun _ a=>Lh a) (n:=24) 1 (fun m i a hi ha=>by
  refine ⟨?_,HBC ha.2 (vF i)⟩;have w1:AV ((i:Int)+1)=((i+1:Nat):Int):=wn (n:=i+1) (by omega);have hb:Nat.beq 25 (up a).length=true:=by rw [Dt,ha.1];rfl
  have hth:Lh ((List.range 25).map (AxG a)):=⟨by rfl,fun x hx=>by
   rw [List.mem_map] at hx;obtain ⟨p,_,rfl⟩:=hx
   exact FBC ha.2 _⟩
  have hch:=GBC (DAs ha.2).2;have hb2:Nat.beq 25 (up ((List.range 25).map (Qu (Aw8 a)))).length=true:=by rfl
  have hb3:Nat.beq (up ((List.range 25).map (Qu (Aw8 a)))).length (up a).length=true:=by assumption
  rw [zD];simp only [QA6,mk,w1];rw [AL (by grind),hb,Ar,QBr ha,AP,RBr hth,AP,UBr,SBr (DAs ha.2),AP,hb3,hb2,TBr (by omega),AP,show (0:Int).toNat=0 from rfl,Gg,QBp rfl rfl (hch.2.get _) (vF i),AsA,show (decide ((0:Int)<=(0:Int)) && decide (0<((up ((List.range 25).map (Qu (Aw8 a)))).length:Int)))=true from AwI (i:=0) (by simp)];rfl)
 obtain ⟨m,hm⟩:∃ m,AY=m+1+24*1:=⟨AY - 25,rfl⟩
 rw [SAo,PA6,mk,hm];refine (s 24 0 (m+1) a rfl ha).1.trans ?_;rfl
theorem WBr {a:List Nat} (ha:Lh a):TAo (up a)=some (ofBytes (up (AxE a))):=by
 have c2:∀ k:Nat,(2:Int) ^ k=((2 ^ k:Nat):Int):=fun k=>by rfl
 have hb:Nat.beq 25 (up a).length=true:=by rw [Dt,ha.1];rfl
 have hal:=ha.1
 have s1:=AwV (Lp:=oQ) (st:=fun i o=>.c0 ((200:Nat):Int) (i:Int) (up a) (up o)) (f:=fun i o=>o.set i (Uu a i)) (P:=fun _ o=>o.length=200) (n:=200) 1 (fun m i o hi ho=>by
  refine ⟨?_,by simp_all⟩;have w1:AV ((i:Int)+1)=((i+1:Nat):Int):=wn (n:=i+1) (by omega);have e1:AV ((i:Int).tdiv 8)=((i / 8:Nat):Int):=wn (n:=i / 8) (by omega);have e2:(i:Int).tmod 8=((i % 8:Nat):Int):=rfl;have e3:AV (8*((i % 8:Nat):Int))=((8*(i % 8):Nat):Int):=wn (n:=8*(i % 8)) (by omega);have e4:Min.min (8*(i % 8)) (IntKind.bits IntKind.u64)=8*(i % 8):=Nat.min_eq_left (by show 8*(i % 8)<=64;omega);have e5:w8 (Int.fdiv ((a.getD (i / 8) 0:Nat):Int) ((2 ^ (8*(i % 8)):Nat):Int))=((Uu a i:Nat):Int):=by rw [bJ,Int.fdiv_eq_ediv_of_nonneg _ (Int.natCast_nonneg _)];rfl
  rw [oQ];simp only [SA6,mk,w1,e1,e2,e3,BR,e4,c2,Gg];rw [e5,AsA,AL (by grind),hb,AwI (l:=a) (by omega),AL (a:=_) (by rfl),AL (by rfl),AL (by rfl),AL (AwI (by omega))])
 obtain ⟨m,hm⟩:∃ m,AY=m+1+200*1:=⟨AY - 201,by rfl⟩
 rw [TAo,RA6,mk,hm,show (200:Int).toNat=200 from rfl,List.length_replicate,<-TY];refine (s1 200 0 (m+1) (List.replicate 200 0) (by omega) List.length_replicate).1.trans ?_;rw [sK (v:=Uu a) List.length_replicate,oQ];rfl
theorem SBQ {s:AA} (h:s.size=200):dF s=some (ZW s):=by have hl:=LBO (Ve s);rw [dF,TA6,mk,AsB (by simp_all),OBr h,AP,VBr hl,AP,WBr (IBC hl)];rfl
theorem XBr {s:AA} {f:Nat} (hs:s.size<=2000) (hf:f<256):zF s 168 (f:Int)=some (jw s f):=by
 obtain ⟨q,hq,hq2⟩:=PBO s f
 have hbuf:=OBO s hf
 have sp:=AwV (Lp:=Ob) (st:=fun i l=>.c0 168 (up l)) (f:=fun _ l=>l++[0]) (P:=fun i l=>l.length=s.size+1+i) (n:=(168 - (s.size+1) % 168) % 168) 1 (fun m i l hi hl=>by
  grind [Ob,Yd,Dt,MX])
 have si:∀ (p:Nat) (st:List Nat),p<q->Lh st->∀ m,∃ v,v.length=200/\B8 v/\ArB (AwY (ofBytes (up v))) 25=Zz st (fun i=>(Awf s f).getD (168*p+i) 0)/\Ob (m+168*1) (.c2 168 ((168*p:Nat):Int) 168 ((0:Nat):Int) (up (Awf s f)) (up (AxE st)))=Ob m (.c2 168 ((168*p:Nat):Int) 168 ((168:Nat):Int) (up (Awf s f)) (up v)):=by
  intro p st hp hst m;have hk8:B8 (AxE st):=MBO st
  obtain ⟨a1,a2,a3,a4⟩:=AwV (Lp:=Ob) (st:=fun i v=>.c2 168 ((168*p:Nat):Int) 168 (i:Int) (up (Awf s f)) (up v)) (f:=fun i v=>v.set i (v.getD i 0 ^^^ (Awf s f).getD (168*p+i) 0)) (P:=fun i v=>v.length=200/\B8 v/\∀ k,k<200->v.getD k 0=if k<i then Uu st k ^^^ (Awf s f).getD (168*p+k) 0 else Uu st k) (n:=168) 1 (fun m i v hi hv=>by
   obtain ⟨v1,v2,v3⟩:=hv
   refine ⟨?_,by simp_all,v2.set _ (NBC (v2.get _) (hbuf.get _)),fun k hk=>?_⟩;·have w1:AV ((i:Int)+1)=((i+1:Nat):Int):=wn (n:=i+1) (by omega);have e1:AV (((168*p:Nat):Int)+(i:Int))=((168*p+i:Nat):Int):=wn (n:=168*p+i) (by omega);rw [Ob];simp only [Yd,mk,w1,e1,BR,Gg];rw [x8 (v2.get _) (hbuf.get _),AsA,AL (by grind),AL (AwI (by omega)),AL (AwI (by omega)),AL (AwI (by omega))]
   grind) 168 0 m (AxE st) (by omega) ⟨UBp st,hk8,fun k hk=>by simp_all [AxE]⟩
  refine ⟨_,a2,a3,?_,a1⟩;generalize AwK (fun i v=>v.set i (v.getD i 0 ^^^ (Awf s f).getD (168*p+i) 0)) 168 0 (AxE st)=v at a2 a3 a4;refine List.map_congr_left fun k hk=>?_
  have hk:=List.mem_range.1 hk;by_cases h21:k<21
  ·rw [if_pos h21,<-JBO hst.2,<-SBp (IBO st) (fun _=>hbuf.get _)];refine KBC fun i hi=>?_
   have h8:8*k+i<168:=by omega
   rw [FAs a3 (by omega),a4 _ (by omega),if_pos h8]
  ·rw [if_neg h21,<-JBO hst.2];refine KBC fun i hi=>?_
   have h8:¬ 8*k+i<168:=by omega
   rw [FAs a3 (by omega),a4 _ (by omega),if_neg h8]
 have so:=AwV (Lp:=Ob) (st:=fun p st=>.c1 168 ((168*p:Nat):Int) (up (Awf s f)) (up (AxE st))) (f:=jy (Awf s f)) (P:=fun _ st=>Lh st) (n:=q) 170 (fun m p st hp hst=>by
  refine ⟨?_,QBC hbuf hst⟩;have e1:AV (((168*p:Nat):Int)+168)=((168*(p+1):Nat):Int):=by rw [show ((168*p:Nat):Int)+168=((168*(p+1):Nat):Int) by omega];exact wn (n:=168*(p+1)) (by omega)
  obtain ⟨v,v1,v2,v3,v4⟩:=si p st hp hst (m+1)
  have hvs:(ofBytes (up v)).size=200:=by grind [Dj,Dt]
  have hps:=NBO (ofBytes (up v));rw [show m+170=(m+1)+168*1+1 by omega,Ob];simp only [Yd,mk];rw [AL (by simp_all [Dt])];refine v4.trans ?_;rw [Ob];simp only [Yd,mk,e1];rw [AsB (by rfl),SBQ hvs,AP,AL (by rfl),ZW,v3,Z5,WBp (MBO _)];rfl)
 have FR:(168 - (s.size+1) % 168) % 168<168:=Nat.mod_lt _ (by decide);have hl1:(FI s++[f]).length=s.size+1:=by simp [Z4]
 obtain ⟨m,hm⟩:∃ m,AY=(m+1+q*170)+1+((168 - (s.size+1) % 168) % 168)*1:=⟨AY - (1+q*170+1+(168 - (s.size+1) % 168) % 168),by have:=FM (n:=1+q*170+1+(168 - (s.size+1) % 168) % 168) (by omega);omega⟩
 have hzs:(bytesOf s).length=s.size:=by simp_all [Z5,Dt]
 rw [zF,UA6,mk,hm,AL (by grind),AL (by grind),Z5,MX];refine (sp ((168 - (s.size+1) % 168) % 168) 0 _ (FI s++[f]) (by omega) hl1).1.trans ?_;have hpl:AwK (fun _ l=>l++[0]) ((168 - (s.size+1) % 168) % 168) 0 (FI s++[f])=J8 (FI s++[f]):=by simp_all [jX,J8]
 have C4:B8 (J8 (FI s++[f])):=MBC (OBC s hf);have Cf:=LBC (FI s++[f]);rw [hl1] at Cf;have e2:((up (J8 (FI s++[f]))).length:Int).tmod 168=(((up (J8 (FI s++[f]))).length % 168:Nat):Int):=rfl;have e3:AV (((up (J8 (FI s++[f]))).length:Int) - 1)=(((J8 (FI s++[f])).length - 1:Nat):Int):=by grind [Dt,wn]
 have hz0:AxE (List.replicate 25 0)=List.replicate 200 0:=by kernel_rfl
 rw [hpl,Ob];simp only [Yd,mk,e2,e3,BR,Gg];rw [AL (by rfl),AsB (by grind [Dt]),AL (AwI (by omega)),AL (AwI (by omega)),show (128:Int)=((128:Nat):Int) from rfl,x8 (C4.get _) (by decide),AsA,show (200:Int).toNat=200 from rfl,<-TY,<-hz0];show Ob (m+1+q*170) (.c1 168 0 (up (Awf s f)) (up (AxE (List.replicate 25 0))))=_;refine (so q 0 (m+1) (List.replicate 25 0) (by omega) PBC).1.trans ?_;have hfin:AwK (jy (Awf s f)) q 0 (List.replicate 25 0)=kC s f:=by simp_all [kC]
 rw [hfin,Ob];simp only [Yd,mk];rw [AsB (by simp_all [Dt])];rfl
theorem TBQ {s:AA} (h:s.size<=2000):oU s=some ⟨sd s,0⟩:=by have e:zF s 168 31=some (jw s 31):=XBr (f:=31) h (by decide);rw [oU,VA6,e];rfl
end Go.Proofs.YtkbbicgglblfiaaGreatDoor.G
