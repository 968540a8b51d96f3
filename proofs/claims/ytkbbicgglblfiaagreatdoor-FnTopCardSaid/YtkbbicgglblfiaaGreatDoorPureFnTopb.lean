/- The plain law of FnTop: whatever the arguments, it answers true. Conditions: what is read is in reach. Part 2 of 4. -/
import Derived.Test.YtkbbicgglblfiaaGreatDoorPureFnTopa
namespace Go.Proofs.YtkbbicgglblfiaaGreatDoor.G
open Go Go.Ev
set_option linter.unusedVariables false
set_option linter.unusedSimpArgs false
set_option linter.unusedSectionVars false
variable [PC]
theorem GBD {last:Int} {x:Af}:∀ {xs:List Af} {p:Int},rise last p xs=true->x ∈ xs->AwV xs x.fId=some x:=by
 intro xs;induction xs with
 | nil=>simp
 | cons y ys ih=>
  intro p h hx;obtain ⟨h1,h2,h3,h4⟩:=Rx.1 h
  rw [AwV,List.find?_cons];rcases List.mem_cons.1 hx with rfl | hx
  ·simp
  ·have:=Axr h4 x hx;rw [show (y.fId == x.fId)=false by grind];exact ih h4 hx
theorem HBD {b:Bo} {r:Ah} (h:(OZ b r).2=true):((OZ b r).1.AZ=b.AZ/\(OZ b r).1.BM=b.BM)\/(∃ o,AwV b.AZ r.Ag.fId=some o/\grown o r.Ag=true/\(OZ b r).1.AZ=putAt b.AZ r.Ag/\(OZ b r).1.BM=b.BM)\/((OZ b r).1.AZ=b.AZ++[r.Ag]/\(OZ b r).1.BM=b.BM+1)\/(r.Aj=4/\(OZ b r).1.AZ=without b.AZ r.DR/\(OZ b r).1.BM=b.BM):=by
 have h2:=(Qb h).2.1;rw [OZ] at h ⊢;cases hc:(!(Ia b) || (!(Ax8 r).2 || decide (b.fCount>=10000)))
 all_goals grind [kE,VU]
def keeps (x y:Af):Prop:=y.Aj=x.Aj/\y.fValue=x.fValue/\(x.CY=true->y.CY=true)/\(x.CX=true->y.CX=true)/\x.fNext<=y.fNext
theorem EBq (x:Af):keeps x x:=⟨rfl,rfl,id,id,Int.le_refl _⟩
theorem IBD {x y:Af} (h:grown x y=true):keeps x y:=by
 simp only [grown,Bool.and_eq_true,beq_iff_eq,decide_eq_true_eq] at h;obtain ⟨h1,h2,_,_,h5,h6,h7⟩:=h
 refine ⟨h1,KW h2,fun e=>?_,fun e=>?_,h5⟩;all_goals simp_all
theorem OBO {b:Bo} {r:Ah} (h:(OZ b r).2=true) {x:Af} (hx:x ∈ b.AZ):(AwV (OZ b r).1.AZ x.fId=none/\r.Aj=4/\r.DR=x.fId)\/∃ y,AwV (OZ b r).1.AZ x.fId=some y/\keeps x y:=by grind [Qb,Ax0,GBD,OZ,AwV,EBq,HBD,IBD,putAt,Qc,VW,without]
theorem PBO {b:Bo} {r:Ah} (h:(OZ b r).2=true):b.BM<=(OZ b r).1.BM:=by rcases HBD h with ⟨_,e⟩ | ⟨_,_,_,_,e⟩ | ⟨_,e⟩ | ⟨_,_,e⟩ <;> rw [e] <;> omega
theorem QBO {f:Nat->Int} {n:Nat} (h:∀ i,0<i->i<n->f (i - 1)<f i):∀ d i,i+d+1<n->f i<f (i+d+1):=by intro d;induction d<;>grind
abbrev J6 (ls:List CS):Prop:=ls.Pairwise fun a b=>a.fId<b.fId
abbrev AscS (ls:List EG):Prop:=ls.Pairwise fun a b=>a.fId<b.fId
theorem RBO {b:Ap}:∀ {j i:Nat},Vy b j i=true->∀ k,i<=k->k<i+j->Vt b k=true:=by intro j;induction j<;>grind [Vy]
theorem FBq {b:Ap}:∀ {j i:Nat},(∀ k,i<=k->k<i+j->Vt b k=true)->Vy b j i=true:=by intro j;induction j<;>grind [Vy]
def ZG (ts:List Af) (v:CS):Prop:=∃ x,AwV ts v.fId=some x/\x.Aj=2/\0<=v.fNext/\v.fNext<=x.fNext
theorem JBD {b:Ap} {i:Nat}:Vt b i=true↔ZG b.AU.AZ (b.BD.getD i ⟨0,0⟩)/\(i=0\/(b.BD.getD (i - 1) ⟨0,0⟩).fId<(b.BD.getD i ⟨0,0⟩).fId):=by grind [Vt,ZG,Na]
theorem KBD {b:Ap}:XF b=true↔(∀ v ∈ b.BD,ZG b.AU.AZ v)/\J6 b.BD:=by
 constructor
 ·intro h;have ha:∀ i,i<b.BD.length->Vt b i=true:=fun i hi=>RBO h i (DJ _) (by omega)
  refine ⟨fun v hv=>?_,List.pairwise_iff_getElem.2 fun i j hi hj hij=>?_⟩;·grind [List.mem_iff_getElem,JBD]
  ·have:=QBO (f:=fun i=>(b.BD.getD i ⟨0,0⟩).fId) (n:=b.BD.length) (fun i h0 hi=>(JBD.1 (ha i hi)).2.resolve_left (by omega)) (j - i - 1) i (by omega);grind
 ·rintro ⟨h1,h2⟩;refine FBq fun i _ hi=>JBD.2 ?_
  grind [List.pairwise_iff_getElem]
theorem LBD {b:Ap}:AxI b b.BP.length 0=true↔(∀ s ∈ b.BP,1<=s.fId/\s.fId<=b.CW)/\AscS b.BP:=by
 have mk:∀ {j i:Nat},AxI b j i=true↔∀ k,i<=k->k<i+j->fE b k=true:=by intro j;induction j<;>grind [AxI]
 have at_:∀ {i:Nat},fE b i=true↔(1<=(b.BP.getD i ⟨0,false⟩).fId/\(b.BP.getD i ⟨0,false⟩).fId<=b.CW)/\(i=0\/(b.BP.getD (i - 1) ⟨0,false⟩).fId<(b.BP.getD i ⟨0,false⟩).fId):=by simp [fE,Na]
 rw [mk];constructor
 ·intro h;have ha:∀ i,i<b.BP.length->_:=fun i hi=>at_.1 (h i (DJ _) (by omega))
  refine ⟨fun v hv=>?_,List.pairwise_iff_getElem.2 fun i j hi hj hij=>?_⟩;·grind [List.mem_iff_getElem]
  ·have:=QBO (f:=fun i=>(b.BP.getD i ⟨0,false⟩).fId) (n:=b.BP.length) (fun i h0 hi=>(ha i hi).2.resolve_left (by omega)) (j - i - 1) i (by omega);rw [show i+(j - i - 1)+1=j by omega] at this;simp_all
 ·rintro ⟨h1,h2⟩ i _ hi;have hi:i<b.BP.length:=by omega
  refine at_.2 ?_;rw [getD_at hi];refine ⟨h1 _ (List.getElem_mem hi),?_⟩;by_cases h0:i=0;·omega
  ·refine .inr ?_;have hj:i - 1<b.BP.length:=by omega
   rw [getD_at hj];grind [List.pairwise_iff_getElem]
theorem SBO {last:Int}:∀ {ts:List Af} {p:Int} {vs:List CS},rise last p ts=true->J6 vs->(∀ v ∈ vs,∃ x ∈ ts,x.fId=v.fId)->vs.length<=ts.length:=by
 intro ts;induction ts with
 | nil=>
  intro p vs _ _ h;cases vs<;>grind [List.mem_cons_self]
 | cons t ts ih=>
  intro p vs hr ha h;obtain ⟨_,_,_,hr2⟩:=Rx.1 hr
  have hin:=Axr hr2;cases vs<;>grind [List.pairwise_cons,List.mem_cons_self]
def LD:List CS->Int->Int->List CS
 | [],id,n=>[⟨id,n⟩]
 | v::vs,id,n=>if v.fId=id then ⟨id,n⟩::vs else if v.fId<id then v::LD vs id n else ⟨id,n⟩::v::vs
theorem XAs (id:Int):∀ (ls:List CS) (i:Nat),Ax4 ls id i=(Ax4 ls id 0).map (· + i)
 | [],i=>rfl
 | v::vs,i=>by
  rw [Ax4,Ax4];split;·simp
  ·rw [XAs id vs (i+1),XAs id vs (0+1),Option.map_map];congr 1;funext j;show j+(i+1)=(j+(0+1))+i;omega
theorem MBD {id:Int}:∀ {ls:List CS} {i:Nat},(∀ v ∈ ls,v.fId≠id)->Ax4 ls id i=none
 | [],_,_=>rfl
 | v::vs,i,h=>by rw [Ax4,if_neg (by rw [beq_iff_eq];exact h v (List.mem_cons_self ..))];exact MBD fun w hw=>h w (List.mem_cons_of_mem _ hw)
theorem TBO (id n:Int):∀ {ls:List CS},J6 ls->fH ls id n=LD ls id n
 | [],_=>rfl
 | v::vs,h=>by
  obtain ⟨hv,hs⟩:=List.pairwise_cons.1 h
  have ih:=TBO id n hs;rw [LD];by_cases h1:v.fId=id
  ·rw [if_pos h1,fH,Ax4,if_pos (beq_iff_eq.2 h1)];show ⟨v.fId,n⟩::vs=_
   rw [h1]
  ·rw [if_neg h1];by_cases h2:v.fId<id;·rw [if_pos h2,<-ih,fH,fH,Ax4,if_neg (by rw [beq_iff_eq];exact h1),XAs,Ig,if_pos h2];cases Ax4 vs id 0 <;> rfl
   ·rw [if_neg h2,fH,MBD fun w hw=>?_,Ig,if_neg h2];·rfl
    ·rcases List.mem_cons.1 hw with rfl | hw
     ·exact h1
     ·have:=hv w hw;omega
theorem UBO (id n:Int):∀ {ls:List CS},J6 ls->ls.filter (fun v=>decide (v.fId<id))++(⟨id,n⟩::ls.filter fun v=>decide (v.fId > id))=LD ls id n
 | [],_=>rfl
 | v::vs,h=>by
  obtain ⟨hv,hs⟩:=List.pairwise_cons.1 h
  have ih:=UBO id n hs;rw [LD,List.filter_cons,List.filter_cons];have big:∀ {p:CS->Bool},(∀ w ∈ vs,p w=true)->vs.filter p=vs:=List.filter_eq_self.2;by_cases h1:v.fId=id;·rw [if_pos h1,D6 (by omega),D6 (by omega),List.filter_eq_nil_iff.2 fun w hw=>by have:=hv w hw;rw [decide_eq_true_eq];omega,List.filter_eq_self.2 fun w hw=>by have:=hv w hw;rw [decide_eq_true_eq];omega];rfl
  ·rw [if_neg h1];by_cases h2:v.fId<id;·rw [if_pos h2,Ba h2,D6 (by omega),<-ih];rfl
   ·rw [if_neg h2,D6 h2,Ba (by omega),List.filter_eq_nil_iff.2 fun w hw=>by have:=hv w hw;rw [decide_eq_true_eq];omega,List.filter_eq_self.2 fun w hw=>by have:=hv w hw;rw [decide_eq_true_eq];omega];rfl
theorem xI {id n:Int}:∀ {ls:List CS},J6 ls->∀ v ∈ LD ls id n,v=⟨id,n⟩\/(v ∈ ls/\v.fId≠id)
 | [],_,v,hv=>.inl (List.mem_singleton.1 hv)
 | w::vs,h,v,hv=>by
  obtain ⟨hw,hs⟩:=List.pairwise_cons.1 h
  rw [LD] at hv;split at hv
  ·rename_i h1;rcases List.mem_cons.1 hv with e | hm
   ·exact .inl e
   ·have:=hw v hm;exact .inr ⟨List.mem_cons_of_mem _ hm,by omega⟩
  ·rename_i h1;split at hv
   ·rcases List.mem_cons.1 hv with rfl | hm
    ·exact .inr ⟨List.mem_cons_self ..,h1⟩
    ·rcases xI hs v hm with e | ⟨e1,e2⟩
     ·exact .inl e
     ·exact .inr ⟨List.mem_cons_of_mem _ e1,e2⟩
   ·rename_i h2;rcases List.mem_cons.1 hv with e | hm
    ·exact .inl e
    ·rcases List.mem_cons.1 hm with rfl | hm
     ·exact .inr ⟨List.mem_cons_self ..,h1⟩
     ·have:=hw v hm;exact .inr ⟨List.mem_cons_of_mem _ hm,by omega⟩
theorem kG {id n:Int}:∀ {ls:List CS},J6 ls->J6 (LD ls id n)
 | [],_=>List.pairwise_singleton _ _
 | w::vs,h=>by
  obtain ⟨hw,hs⟩:=List.pairwise_cons.1 h
  rw [LD];split;·rename_i h1;exact List.pairwise_cons.2 ⟨fun v hv=>by have:=hw v hv;show id<v.fId;omega,hs⟩
  ·rename_i h1;split
   ·rename_i h2;refine List.pairwise_cons.2 ⟨fun v hv=>?_,kG hs⟩;rcases xI hs v hv with rfl | ⟨e1,_⟩
    ·exact h2
    ·exact hw v e1
   ·rename_i h2;refine List.pairwise_cons.2 ⟨fun v hv=>?_,h⟩;rcases List.mem_cons.1 hv with rfl | hv
    ·show id<v.fId;omega
    ·have:=hw v hv;show id<v.fId;omega
theorem fJ {d:BU} (h0:d.Ak.length<=140737488351232):XY d=some (Gq d):=by
 rw [XY,VA4,mk,Gq];have key:∀ (j i m:Nat),i+j=d.Ak.length->o9 (m+j+1) (.c0 d.Ak (d.Ak.length:Int) (i:Int) d)=some (decide ((d.Ak.length:Int)<=30) && MO (XZ d.Ak i) (d.Ak.drop i)):=by
  intro j;induction j with
  | zero=>
   grind [o9,BAo,MO]
  | succ j ih=>
   intro i m h;have hi:i<d.Ak.length:=by omega
   have e:AV ((i:Int)+1)=((i+1:Nat):Int):=by grind [A8]
   have h2:=ih (i+1) m (by omega);have Hk:∀ b:Bool,(b && false)=false:=fun b=>by simp
   rw [show m+(j+1)+1=(m+j+1)+1 by omega,o9];simp only [BAo,mk,e,BR,getD_at hi,AwE,AP];rw [IK (by simp_all),IK (by simp_all),TBM hi,OB,h2];cases hn:AyM (d.Ak[i].fName.size:Int) 1 8;·simp
   cases decide ((d.Ak[i].fText.size:Int) > 20000)
   ·cases AyM d.Ak[i].J3 0 (d.Ak[i].fText.size:Int);·simp
    ·by_cases hz:i=0;·grind [Na,XZ,zq]
     ·obtain ⟨i',rfl⟩:∃ q,i=q+1:=⟨i - 1,by omega⟩
      grind [A8,VBB]
   simp
 obtain ⟨m,hm⟩:=gm (n:=d.Ak.length) (by omega)
 rw [hm];exact key d.Ak.length 0 m (by omega)
theorem oK:Uh=some DX:=by rw [Uh,ZA3,mk,Oy (by decide),AP,show (32:Int)=((32:Nat):Int) from rfl,WAr (by omega),AP];rfl
theorem GBq {a b:List Af} (h0:a.length<=140737488351232):LAo a b=some (AxV a b):=by
 rw [LAo,NA5];by_cases hl:a.length=b.length
 ·have key:∀ (j i m:Nat),i+j=a.length->pF (m+j+1) (.c0 a b (a.length:Int) (i:Int))=some (AxV (a.drop i) (b.drop i)):=by
   intro j;induction j with
   | zero=>
    intro i m h;obtain rfl:i=a.length:=by omega
    rw [pF];simp only [KAo,mk];rw [TT (by simp),List.drop_length,hl,List.drop_length];rfl
   | succ j ih=>
    intro i m h;have hi:i<a.length:=by omega
    have hi2:i<b.length:=by omega
    have e:AV ((i:Int)+1)=((i+1:Nat):Int):=by grind [A8]
    rw [show m+(j+1)+1=(m+j+1)+1 by omega,pF];simp only [KAo,mk,e,BR,getD_at hi,getD_at hi2,FBO,ih (i+1) m (by omega)];grind [drop_at,AxV]
  obtain ⟨m,hm⟩:=gm (n:=a.length) (by omega)
  rw [TT (by simp_all),hm];exact key a.length 0 m (by omega)
 grind [GBO]
theorem NBD {a b:Bo} (h0:a.AZ.length<=140737488351232):pG a b=some (AyK a b):=by rw [pG,OA5,mk,GBq h0,AyK];grind
theorem YAs {d:BU} {n:AA} (h0:d.Ak.length<=140737488351232):fK d n=some (Aya d n):=by
 have key:∀ (j i m:Nat),i+j=d.Ak.length->pI (m+j+1) (.c0 n d.Ak (d.Ak.length:Int) (i:Int))=some (match Gp (d.Ak.drop i) n i with | some j=>(j:Int) | none=> -1):=by
  intro j;induction j with
  | zero=>
   intro i m h;obtain rfl:i=d.Ak.length:=by omega
   rw [pI];simp only [ZAn,mk];rw [TT (by simp),List.drop_length];rfl
  | succ j ih=>
   intro i m h;have hi:i<d.Ak.length:=by omega
   have e:AV ((i:Int)+1)=((i+1:Nat):Int):=by grind [A8]
   grind [pI,ZAn,BR,drop_at,Gp]
 obtain ⟨m,hm⟩:=gm (n:=d.Ak.length) (by omega)
 rw [fK,UA4,mk,hm,Aya];exact key d.Ak.length 0 m (by omega)
theorem OBD {d:BU} {n:AA} (h0:d.Ak.length<=140737488351232):zu d n=some (Awy d n):=by
 rw [zu,PA5,mk,YAs h0,AP,Aya,Awy];cases h:Gp d.Ak n 0 with
 | none=>rfl
 | some j=>
  have:=eU h;simp_all [TT]
theorem HBq {s:Int} (h:R32 s):an s 1=s % 2:=by
 obtain ⟨h1,h2⟩:=h
 obtain ⟨n,rfl⟩:∃ n:Nat,s=(n:Int):=⟨s.toNat,by omega⟩
 unfold an;show w32 (((BitVec.ofInt 32 (n:Int) &&& BitVec.ofInt 32 1).toNat:Nat):Int)=_;grind [Ry]
theorem IBq (t:AA) (i:Nat) (hi:i<t.size) (ht:t.size<=140737488351232):∀ (j k m:Nat) (s:Int),k+j=8->R32 s->V3 (m+j+1) (.c1 s t (i:Int) (k:Int))=V3 m (.c0 (fM j s) t ((i+1:Nat):Int)):=by
 intro j;induction j with
 | zero=>
  intro k m s hk hs;have e:AV ((i:Int)+1)=((i+1:Nat):Int):=by grind [A8]
  rw [V3];simp only [pJ,mk,e];rw [TT (by simp_all)];rfl
 | succ j ih=>
  intro k m s hk hs;have e:AV ((k:Int)+1)=((k+1:Nat):Int):=by grind [A8]
  have h2:Int.fdiv s (2 ^ (Min.min (1:Int).toNat (IntKind.bits IntKind.u32)))=s / 2:=Int.fdiv_eq_ediv_of_nonneg _ (by decide);rw [show m+(j+1)+1=(m+j+1)+1 by omega,V3];simp only [pJ,mk,e,h2,EBB,HBq hs,Ui];rw [IK (by grind),fM];by_cases h:s % 2=1;·rw [IK (by simp [h]),ih (k+1) m _ (by omega) (pK _ _),fO,if_pos h]
  ·rw [TT (by simp [h]),ih (k+1) m _ (by omega) (by grind [R32]),fO,if_neg h]
theorem JBq {t:AA} {s:Int} (ht:t.size<=140737488351232):YAn s t=some (pO s (bs t)):=by
 have hl:=bs_len t;have key:∀ (j i m:Nat) (s:Int),i+j=t.size->V3 (m+10*j+1) (.c0 s t (i:Int))=some (pO s ((bs t).drop i)):=by
  intro j;induction j with
  | zero=>
   intro i m s h;rw [V3];simp only [pJ,mk];rw [TT (by simp_all),List.drop_of_length_le (by omega)];rfl
  | succ j ih=>
   intro i m s h;have hb:=OC (AxC t) i;rw [show m+10*(j+1)+1=(m+10*j+1)+8+1+1 by omega,V3];simp only [pJ,mk,Ui];rw [IK (by grind),IK (by grind),V4 (by omega),Ry (by omega) (by omega)];have h1:=IBq t i (by omega) ht 8 0 (m+10*j+1) (xr s ((bs t).getD i 0)) (by omega) (pK _ _);rw [show ((0:Nat):Int)=0 from rfl] at h1;rw [h1,ih (i+1) m _ (by omega),drop_at (by omega:i<(bs t).length),getD_at (by omega)];rfl
 obtain ⟨m,hm⟩:∃ m,AY=m+10*t.size+1:=⟨AY - (10*t.size+1),by have:=FM (n:=10*t.size+1) (by omega);omega⟩
 rw [YAn,PA4,hm];have:=key t.size 0 m s (by omega);assumption
theorem VBO {t:AA} (ht:t.size<=140737488351232):pR t=some (V5 (bs t)):=by rw [pR,QA4,JBq ht];rfl
theorem KBq {f:AA} (hf:f.size<=140737488351232):zx f=some (Qw f):=by
 rw [zx,QA5,mk,Qw];by_cases h0:20000<f.size;·grind
 ·rw [TT (by grind),TT (by grind)];have key:∀ (j a m:Nat) (out:List AA),a<=f.size->f.size<a+j->out.length<=a->zy (m+j+1) (.c0 f (a:Int) out)=some (out++(KT j f a).1,((KT j f a).2:Int)):=by
   intro j;induction j with
   | zero=>omega
   | succ j ih=>
    intro a m out ha hj ho;rw [show m+(j+1)+1=(m+j+1)+1 by omega,zy];simp only [RA5,mk,KT];rw [MBN hf ha,AP];rcases yF hf ha with h | ⟨v,h,hv0,hv1,hA⟩
    ·rw [show Oz f a=none by rw [Oz,h];rfl,h];rw [List.append_nil];rfl
    ·have hp:=Avw v;have hsz:=hA.size.resolve_left (by grind);obtain ⟨R,hR⟩:∃ R,R=Oz f a:=⟨_,rfl⟩
     have hn0:=hR;rw [Oz,h] at hn0;rw [h];generalize hq:a+(SN v).length=q at hsz hn0;simp only [DN,Aq,AwE,AP];cases hr:AyM v 1 9000;·grind
     ·rw [hr] at hn0;simp only [DN,Aq,Bool.true_and] at hn0 ⊢;rw [A8 (n:=(f.size:Int) - (q:Int)) (by omega) (by omega),A8 (n:=(f.size:Int) - (q:Int) - 4) (by omega) (by omega),A8 (n:=(q:Int)+4) (by omega) (by omega),A8 (n:=(q:Int)+4+v) (by omega) (by omega)];by_cases h3:v > (f.size:Int) - (q:Int) - 4;·grind
      ·have e2:((q:Int)+4).toNat=q+4:=by omega
       have e3:((q:Int)+4+v).toNat=q+4+v.toNat:=by omega
       have hxs:(f.extract (q+4) (q+4+v.toNat)).size=v.toNat:=by grind [ByteArray.size_extract]
       rw [Ba (by omega:v<=(f.size:Int) - (q:Int) - 4),e2,e3,BR,Bool.true_and] at hn0;rw [TT (by simp_all),IK (by grind),IK (by simp;omega),e2,e3,BR,VBO (by omega),AP,XAr (ZH _),AP,AzS,Oa (Xa (ZH _))];grind
  obtain ⟨m,hm⟩:∃ m,AY=m+(f.size+1)+1:=⟨AY - (f.size+2),by have:=FM (n:=f.size+2) (by omega);omega⟩
  rw [hm,show (0:Int)=((0:Nat):Int) from rfl,key (f.size+1) 0 m [] (by omega) (by omega) (Nat.le_refl _)];rfl
theorem LBq {n:Int}:CAb n=some (bif AyM n 0 1000000000 then (ofBytes (SN n),true) else (⟨#[]⟩,false)):=by simp only [CAb,IA4,mk,AwE,AP];grind [Na,ZI]
theorem WBO {s:AA} {x:Int} (hs:s.size<=140737488351232):pU s x=some (ofBytes (OD x (bs s))):=by
 have hl:=bs_len s
 have key:=PV (A:=Unit) (n:=(bs s).length) (Lp:=pV) (st:=fun i _=>.c0 x ((bs s).length:Int) (i:Int) (((bs s).take i).map (fun b=>xb b x)++(bs s).drop i)) (Inv:=fun _ _=>True) (out:=fun _ _=>some (ofBytes (OD x (bs s))))
  (fun m _ _=>by
   rw [pV];simp only [VAn,mk];rw [TT (by simp),List.take_length,List.drop_length,List.append_nil];rfl)
  (fun m i _ hi _=>.inr ⟨(),by
   have e:AV ((i:Int)+1)=((i+1:Nat):Int):=by grind [A8]
   have hlen:(((bs s).take i).map (fun b=>xb b x)++(bs s).drop i).length=(bs s).length:=by grind
   grind [pV,VAn,BR,QBl,xb],trivial,rfl⟩)
 rw [pU,JA4,mk,IK (by grind),pW];exact key AY 0 () (DJ _) (FM (by omega)) trivial
theorem MBq {k:AA} (h:k.size<=64):bs (k++ofBytes (List.replicate (64 - k.size) 0))=Um (bs k):=by rw [Hr,Oa (fun x hx=>by grind),Um,bs_len]
theorem NBq {K:AA} (h:K.size=64) {s:AA}:Ed (ofBytes (OD 92 (bs K))++Ed (ofBytes (OD 54 (bs K))++s))=ofBytes (Rz (OD 92 (bs K)++Rz (OD 54 (bs K)++bs s))):=by rw [Ed,Hr,PAr,Hr,Oa (SAr _ _),Oa (SAr _ _)]
theorem XBO {k s:AA} (hk:k.size<=900000000) (hs:s.size<=900000000):pX k s=some (fP k s):=by
 have fin:∀ {K:AA} {m:Int},K.size<=64->m=((64 - K.size:Nat):Int)->∀ (f:Option AA),f=some (ofBytes (Rz (OD 92 (Um (bs K))++Rz (OD 54 (Um (bs K))++bs s))))->
   ((ZJ m).bind fun r1=>bif decide (K.size+r1.size<=9223372036854775807) then (pU (K++r1) 92).bind fun r2=>(pU (K++r1) 54).bind fun r3=>bif decide (r3.size+s.size<=9223372036854775807) then (J9 (r3++s)).bind fun r4=>bif decide (r2.size+r4.size<=9223372036854775807) then (J9 (r2++r4)).bind fun r5=>some r5 else none else none else none)=f:=by
  intro K m hK hm f hf;have h64:(K++ofBytes (List.replicate (64 - K.size) 0)).size=64:=by simp_all [Dj]
  subst hm;have x1:=RAr 92 (Um (bs K));have x2:=RAr 54 (Um (bs K));have x3:(Um (bs K)).length=64:=by simp_all [Um,bs_len]
  have hb:=MBq hK;have hf2:=NBq h64 (s:=s);rw [hb] at hf2;rw [WAr (by omega),AP,IK (by simp_all),WBO (by omega),AP,WBO (by omega),AP,hb];grind [Dj,Oy,AxT]
 rw [pX,KA4,mk];grind [Oy,AxT,fP,Xb,Xc,bs_len,PAr,A8]
theorem YBO {k:AA} {num n:Int} (hk:k.size<=900000000):FAb k num n=some (Yx k num n):=by
 rw [FAb,LA4,mk,LBq,AP,Yx,MB];cases h:AyM num 0 1000000000;·rfl
 ·rw [Na] at h;rw [Ar,TT (by rfl),AwE,AP];cases h2:AyM n 0 8000;·rfl
  ·rw [Na] at h2;rw [TT (by rfl),Bool.and_self,Ar];have hv:=KX (n:=num) (by omega);have hvb:=V6 h.1
   have key:=PV (A:=Unit) (n:=(n.toNat+31) / 32) (Lp:=pY) (st:=fun i _=>.c0 k n (ofBytes (SN num)) (ofBytes (ZK (bs k) (SN num) i)) (i:Int)) (Inv:=fun _ _=>True) (out:=fun _ _=>some (ofBytes (Qq (bs k) (SN num) n.toNat),true))
    (fun m _ _=>by
     rw [pY];simp only [WAn,mk];rw [TT (by grind [Dj,ZL]),IK (by grind [Dj,ZL])];refine congrArg (fun x=>some (x,true)) (KW ?_);rw [Awj,Oa (HBM _ _ _),Oa (yD _ _ _),Qq,List.drop_zero])
    (fun m i _ hi _=>.inr ⟨(),by
     have e:AV ((i:Int)+1)=((i+1:Nat):Int):=by grind [A8]
     have h9:(⟨#[109]⟩:AA).size=1:=rfl;grind [pY,WAn,Dj,ZL,Po,XBO,IBM,ofBytes,ZK,bs,KW,Hr,Oa],trivial,rfl⟩)
   exact key AY 0 () (DJ _) (FM (by omega)) trivial
theorem ZBO {k s:AA} {num:Int} (hk:k.size<=900000000) (hn:0<=num/\num<=1000000000) (hs:s.size<=800000000):IAb k num s=some (ofBytes (Ql (bs k) num (bs s))):=by have hv:=KX (n:=num) (by omega);have h9:(⟨#[116]⟩:AA).size=1:=rfl;have e:bs (⟨#[116]⟩:AA)=[116]:=rfl;have h16:(16:Int).toNat=16:=rfl;rw [IAb,NA4,mk,ZI (by omega),AP,IK (by grind [Dj]),IK (by grind [Dj])];rw [XBO hk (by grind [Dj]),AP,IK (by rfl)];refine congrArg some (KW ?_);rw [Awj,EBM,h16,Oa (Vf _ _ _),Hr,Hr,e,Oa (V6 hn.1),Ql,List.drop_zero,List.append_assoc];rfl
theorem AYE {a b:AA} (ha:a.size<=140737488351232) (h:a.size<=b.size):HAb a b=some (ofBytes (AyY (bs a) (bs b))):=by
 have hl:=bs_len a;have hl2:=bs_len b
 have key:=PV (A:=Unit) (n:=(bs a).length) (Lp:=pq) (st:=fun i _=>.c0 b ((bs a).length:Int) (i:Int) (List.zipWith xb ((bs a).take i) ((bs b).take i)++(bs a).drop i)) (Inv:=fun _ _=>True) (out:=fun _ _=>some (ofBytes (AyY (bs a) (bs b))))
  (fun m _ _=>by
   grind [pq,XAn,AyY,RBB])
  (fun m i _ hi _=>.inr ⟨(),by
   have e:AV ((i:Int)+1)=((i+1:Nat):Int):=by grind [A8]
   have hlen:(List.zipWith xb ((bs a).take i) ((bs b).take i)++(bs a).drop i).length=(bs a).length:=by grind
   grind [pq,XAn,BR,QBB,V4,JBM],trivial,rfl⟩)
 rw [HAb,MA4,mk,IK (by grind),pW];exact key AY 0 () (DJ _) (FM (by omega)) trivial
theorem BBP (t:AA) {n:Nat} (h:t.size=n+16):bs (t.extract 0 n)=(bs t).take (t.size - 16)/\bs (t.extract n t.size)=(bs t).drop (t.size - 16):=by grind [Awj,bs_len]
theorem CBP {k t:AA} {num:Int} (hk:k.size<=900000000) (ht:t.size<=800000000):pz k num t=some (Ee k num t):=by
 rw [pz,SA5,mk,Ee];have hw:AV ((t.size:Int) - 16)=(t.size:Int) - 16:=A8 (by omega) (by omega);rw [hw];by_cases h:t.size<16;·grind
 ·obtain ⟨n,hn⟩:∃ n,t.size=n+16:=⟨t.size - 16,by omega⟩
  obtain ⟨e1,e2⟩:=BBP t hn
  have hz:(t.size:Int) - 16=(n:Int):=by omega
  have hb:=bs_len t;rw [TT (by simp_all),YBO hk,AP,Yx,hz,show decide ((t.size:Int)<16)=false by grind,Bool.false_or];cases hm:MB num n;·rfl
  ·have h':=lH.1 hm;have hml:=Ub (bs k) (SN num) n;have hes:(t.extract 0 n).size=n:=by simp_all
   rw [DN,Aq,Ar,TT (by rfl),BR,IK (by grind),ZBO hk h'.1 (by omega),AP,IK (by grind),AzS,Oa (Vf _ _ _),e1,e2];cases hc:(Ql (bs k) num ((bs t).take (t.size - 16)) == (bs t).drop (t.size - 16))
   ·rfl
   ·rw [DN,Aq,IK (by grind),AYE (by omega) (by simp_all [Dj]),AP,Oa (yD _ _ _),e1,Ar,show t.size - 16=n by omega]
theorem DBP {t:AA} (h:t.size<=140737488351232):qA t=some (frameT t):=by
 rw [qA,RA4,mk,AwE,AP,frameT];cases h1:AyM (t.size:Int) 1 9000;·rfl
 ·rw [Na] at h1;have:=KX (n:=(t.size:Int)) (by omega);rw [TT (by rfl),ZI (by omega),AP,VBO h,AP,XAr (ZH _),AP,IK (by grind [Dj,four])];rw [IK (by grind [Dj,four]),QBM,Ar]
theorem PBD {k file:AA} (hk:k.size<=900000000) (hf:file.size<=140737488351232):HAc k file=some (LM k file):=by
 obtain ⟨u1,u2,_,_⟩:=LAs (file:=file)
 rw [HAc,TA5,mk,KBq hf,AP,LM];generalize (Qw file).1=l at u1 u2;have key:∀ (j i m:Nat) (e:Int) (out:List Ah),i+j=l.length->0<=e->e<=30000*i->out.length<=i->qB (m+j+1) (.c0 k e (l.length:Int) (i:Int) out l)=some (out++(AxJ k ((i:Int)+1) (l.drop i)).1,e+(AxJ k ((i:Int)+1) (l.drop i)).2):=by
  intro j;induction j with
  | zero=>
   grind [qB,RAo,AxJ]
  | succ j ih=>
   intro i m e out h he he2 ho;have hi:i<l.length:=by omega
   have hz:=u1 _ (List.getElem_mem hi);have ew:AV ((i:Int)+1)=((i+1:Nat):Int):=by grind [A8]
   have Gc:=yE k l[i] ((i+1:Nat):Int);have hfz:=RBM (t:=l[i]) (by omega);rw [show m+(j+1)+1=(m+j+1)+1 by omega,qB];simp only [RAo,mk,ew,BR,getD_at hi];rw [IK (by simp_all),IK (by simp_all),CBP hk (by omega),AP,VBN (by omega),AP,drop_at hi,AxJ,show ((i:Int)+1)=((i+1:Nat):Int) from rfl];cases (Ee k ((i+1:Nat):Int) l[i]).2;·simp
   ·rw [TT (by rfl),Bool.true_and];cases (Am (Ee k ((i+1:Nat):Int) l[i]).1).2;·simp
    ·have h2:=ih (i+1) m (e+((frameT l[i]).1.size:Int)) (out++[(Am (Ee k ((i+1:Nat):Int) l[i]).1).1]) (by omega) (by omega) (by omega) (by simp_all);grind [DBP,A8]
 obtain ⟨m,hm⟩:=gm (n:=l.length) (by omega)
 have h0:=key l.length 0 m 0 [] (by omega) (by omega) (by omega) (Nat.le_refl _);simp_all
theorem EBP {b:Bo} {l:List Ah} (hb:b.AZ.length<=2932031007317) (hl:l.length<=140737488351232) (hr:∀ r ∈ l,r.DR<=9223372036854775807):JAc b l=some (Aye b l):=by
 have key:∀ (j i m:Nat) (b:Bo),i+j=l.length->b.AZ.length<=2932031007317->qC (m+j+1) (.c0 l (l.length:Int) (i:Int) ⟨#[]⟩ 0 0 ⟨#[]⟩ 0 b.Bv b.DU b.BM b.Dh b.fCount [] b.AZ)=some (Aye b (l.drop i)):=by
  intro j;induction j with
  | zero=>
   intro i m b h hb;obtain rfl:i=l.length:=by omega
   rw [qC];simp only [SAo,mk];rw [TT (by simp),List.drop_length];rfl
  | succ j ih=>
   intro i m b h hb;have hi:i<l.length:=by omega
   have e:AV ((i:Int)+1)=((i+1:Nat):Int):=by grind [A8]
   rw [show m+(j+1)+1=(m+j+1)+1 by omega,qC];simp only [SAo,mk,e,BR,getD_at hi];rw [IK (by simp_all),IK (by simp_all),FBD (by grind) (hr _ (List.getElem_mem hi)),AP,drop_at hi,Aye];cases h2:(OZ b l[i]).2;·rfl
   ·have h3:=xB h2;rw [TT (by rfl),Ar];exact ih (i+1) m (OZ b l[i]).1 (by omega) (by omega)
 obtain ⟨m,hm⟩:=gm (n:=l.length) (by omega)
 rw [JAc,UA5,mk,DBD hb,AP,hm];exact key l.length 0 m b (by omega) hb
theorem QBD {k:AA} {d:BU} (hk:k.size<=900000000) (hd:d.Ak.length<=140737488351232) (hf:∀ f ∈ d.Ak,f.fText.size<=140737488351232):fQ k d=some (Awo k d):=by
 have hfs:(Awy d AzD).1.size<=140737488351232:=WBC hf;obtain ⟨r1,r2⟩:=XBN k (Awy d AzD).1
 have hl:=YBN k (Awy d AzD).1;rw [fQ,VA5,mk,show (⟨#[98,111,111,107]⟩:AA)=AzD from rfl,show (⟨#[98,111,111,107,43]⟩:AA)=nNew from rfl,OBD hd,AP,PBD hk hfs,AP,oK,AP,EBP (DJ _) (by omega) (JBp _ _),AP,fJ hd,AP,YAs hd,Awo];cases Gq d;·rfl
 cases (Aye DX (LM k (Awy d AzD).1).1).2;·rfl
 grind
theorem XE {b:Bo} {t:Int} (h:b.AZ.length<=140737488351232):SA b t=some (match AwV b.AZ t with | some x=>(x,true) | none=>(ZM,false)):=by
 have hp:=XBL t b.AZ 0;simp only [SA,XA5,mk,EBD h,AP];cases hq:OE b.AZ t 0 with
 | none=>rw [hq] at hp;simp only at hp ⊢;rw [hp];rfl
 | some j=>
  grind
theorem OBq {b:Ap} (hl:b.BD.length<=140737488351232) (ht:b.AU.AZ.length<=140737488351232):MAc b=some (XF b):=by
 have key:∀ (j i m:Nat),i+j=b.BD.length->qE (m+j+1) (.c0 b.BD (b.BD.length:Int) (i:Int) b)=some (Vy b j i):=by
  intro j;induction j with
  | zero=>
   intro i m hi;rw [qE];simp only [TAo,mk];rw [TT (by simp_all)];rfl
  | succ j ih=>
   intro i m hi;have hw:AV ((i:Int)+1)=((i+1:Nat):Int):=by grind [A8]
   have d1:decide ((i:Int)<(b.BD.length:Int))=true:=Ba (by omega);have d0:decide ((0:Int)<=(i:Int))=true:=Ba (by omega);rw [AwB m j,qE];simp only [TAo,mk,XE ht,AwE,AP,d0,d1,Bool.and_self,Ar,BR,hw,ih (i+1) m (by omega),Vy,Vt];grind [A8,BR]
 obtain ⟨m,hm⟩:=gm (n:=b.BD.length) (by omega)
 rw [MAc,YA5,mk,hm];exact key b.BD.length 0 m (Nat.zero_add _)
theorem ZAs {b:Ap} (hd:b.Bc.Ak.length<=140737488351232) (hf:∀ f ∈ b.Bc.Ak,f.fText.size<=140737488351232) (ht:b.AU.AZ.length<=140737488351232) (hs:b.BP.length<=140737488351232) (hl:b.BD.length<=140737488351232):XD b=some (Rt b):=by
 rw [XD,ZA5,mk,fJ hd,AwE,Rt];simp only [AP,bne];cases hz:(b.BO.size:Int) == 32;·rfl
 have hk:b.BO.size<=900000000:=by grind
 obtain ⟨l1,l2⟩:=SAs b.BO b.Bc
 have key:b.CZ=true->∀ (j i m:Nat),i+j=b.BP.length->i<=3->qF (m+j+1) (.c0 b.BP (b.BP.length:Int) (i:Int) b)=some (decide ((b.BP.length:Int)<=3) && (AxI b j i && ZA b)):=by
  intro hup j;induction j with
  | zero=>
   intro i m hi h3;rw [qF];simp only [OAc,mk];rw [TT (by simp_all),ZA,hup,Ba (by omega:(b.BP.length:Int)<=3)];simp only [QBD hk hd hf,NBD (show (Awo b.BO b.Bc).1.AZ.length<=140737488351232 by omega),NBO ht,OBq hl ht,AP];cases (Awo b.BO b.Bc).2.2 <;> cases ((Awo b.BO b.Bc).2.1.length:Int) == 0 <;> cases Ia b.AU <;> cases AyK (Awo b.BO b.Bc).1 b.AU <;> rfl
  | succ j ih=>
   intro i m hi h3;have hw:AV ((i:Int)+1)=((i+1:Nat):Int):=by grind [A8]
   have d1:decide ((i:Int)<(b.BP.length:Int))=true:=Ba (by omega);have d0:decide ((0:Int)<=(i:Int))=true:=Ba (by omega);rw [AwB m j,qF];by_cases h4:i=3;·simp_all [OAc,mk,D6]
   have d3:decide ((i:Int)>=3)=false:=D6 (by omega);simp only [OAc,mk,AwE,AP,d0,d1,d3,Bool.and_self,Ar,Aq,BR,hw,ih (i+1) m (by omega) (by omega),AxI,fE];cases AyM (b.BP.getD i ⟨0,false⟩).fId 1 b.CW;all_goals grind [A8,decide,BR]
 cases hdk:Gq b.Bc;·rfl
 cases ho:AyM b.CW 0 1000;·simp
 cases hup:b.CZ
 ·rw [ZA,hup];simp only [oK,NBD ht,AP,Bool.not_false,DN,Ar,Aq,Bool.true_and];cases hn:(b.BP.length:Int) == 0;·simp
  ·have hn0:b.BP.length=0:=by simp_all
   rw [hn0];grind [AxI]
 ·obtain ⟨m,hm⟩:=gm (n:=b.BP.length) (by omega)
  have h0:=key hup b.BP.length 0 m (Nat.zero_add _) (by omega);simp_all
def AyI (c:CV):Bool:=AyM c.Au 1 13 && AyM c.EJ 0 1000 && AyM c.Ag 0 1000 && AyM c.Aj 0 3 && decide ((c.fText.size:Int)<=1000)
theorem PBq (c:CV):WAq c=some (AyI c):=by simp only [WAq,JBA,mk,Ih,AP,AyI];grind
theorem FBP (c:CV):WAb c=some (AyI c):=by simp only [WAb,LA5,mk,AwE,AP,AyI];grind
def KQ:List EG->Int->Nat->Option Nat
 | [],_,_=>none
 | l::ls,t,i=>if l.fId == t then some i else KQ ls t (i+1)
theorem AFV {t:Int}:∀ {ls:List EG} {i j:Nat},KQ ls t i=some j->i<=j/\j<i+ls.length:=by intro ls;induction ls<;>grind [KQ]
def Av3 (b:Ap) (t:Int):Int:=match KQ b.BP t 0 with | some j=>(j:Int) | none=> -1
theorem xk {b:Ap} {t:Int} (h:b.BP.length<=140737488351232):qG b t=some (Av3 b t):=by
 have key:∀ (j i m:Nat),i+j=b.BP.length->qH (m+j+1) (.c0 t b.BP (b.BP.length:Int) (i:Int))=some (match KQ (b.BP.drop i) t i with | some j=>(j:Int) | none=> -1):=by
  intro j;induction j with
  | zero=>
   intro i m hi;rw [qH];simp only [VAo,mk];rw [TT (by simp_all),List.drop_of_length_le (by omega)];rfl
  | succ j ih=>
   intro i m hi;have hil:i<b.BP.length:=by omega
   have hw:AV ((i:Int)+1)=((i+1:Nat):Int):=by grind [A8]
   grind [qH,VAo,BR,drop_at,KQ]
 obtain ⟨m,hm⟩:=gm (n:=b.BP.length) (by omega)
 rw [qG,HA6,mk,hm];exact key b.BP.length 0 m (Nat.zero_add _)
def xq (n:Int):AA:=[(⟨#[]⟩:AA),⟨#[102,117,108,108]⟩,⟨#[115,101,115,115,105,111,110]⟩,⟨#[108,111,99,107,101,100]⟩,⟨#[119,111,114,100]⟩,⟨#[111,117,116]⟩,⟨#[119,114,111,110,103]⟩,⟨#[110,111,110,101]⟩,⟨#[112,111,108,105,99,121]⟩,⟨#[100,111,119,110]⟩].getD n.toNat ⟨#[]⟩
def AzK (n:Int):List Ah×Int×AA:=([],n,xq n)
theorem Awh {n:Int} (h:0<=n/\n<10):ZN n=some (AzK n):=by rw [ZN,FA6,mk,IK (by simp_all)];rfl
noncomputable def lD (b:Ap) (c:CV):List Ah×Int×AA:=
 bif decide (b.AU.DU>=3) then AzK 3
 else bif !((Ed c.fText).toList == b.AU.Bv.toList) then ([⟨2,⟨#[]⟩,b.AU.DU+1,⟨0,0,false,false,false,false,⟨#[]⟩,0⟩⟩],4,xq 4)
 else bif b.AU.DU == 0 then ([],0,⟨#[]⟩) else ([⟨2,⟨#[]⟩,0,⟨0,0,false,false,false,false,⟨#[]⟩,0⟩⟩],0,⟨#[]⟩)
theorem QBq {b:Ap} {c:CV} (ht:0<=b.AU.DU) (hc:c.fText.size<=1000000000):WAo b c=some (lD b c):=by
 rw [WAo,IA6,mk,lD];simp only [Awh (n:=3) (by decide),Awh (n:=4) (by decide),Oy hc,AP];by_cases h:b.AU.DU>=3;·simp_all
 ·rw [D6 h,A8 (by omega) (by omega)];cases !((Ed c.fText).toList == b.AU.Bv.toList) <;> cases b.AU.DU == 0 <;> rfl
theorem Good.pOk {k:AA} {l:List Ah} {b:Ap} (g:Good k l b):XD b=some true:=by have hs:=g.small;have h1:=hs.1;have h2:=g.ZB;have h3:=g.Nu.1;have h4:=g.MC.2;rw [ZAs (by omega) (fun f hf=>by have:=hs.2 f hf;omega) (by omega) (by omega) (by omega),g.ok]
theorem GBP {c:CV} (h:AyI c=true):c.fText.size<=1000:=by grind [AyI]
def defaults (kind:Int) (data:AA):Af×Bool:=
 bif kind == 1 then (⟨0,kind,true,false,false,true,Ed data,0⟩,true)
 else bif kind == 2 then (⟨0,kind,true,false,true,false,Ed data,0⟩,true)
 else bif kind == 3 then (bif decide ((data.size:Int)<=100) then (⟨0,kind,false,false,false,false,data,0⟩,true) else (⟨0,0,false,false,false,false,⟨#[]⟩,0⟩,false))
 else (⟨0,0,false,false,false,false,⟨#[]⟩,0⟩,false)
theorem SBq (kind:Int) {data:AA} (h:data.size<=1000000000):JAl kind data=some (defaults kind data):=by simp only [JAl,IAz,mk,ML h,AP,defaults];grind
theorem TBq (kind:Int) {data:AA} (h:data.size<=1000000000):XAo kind data=some (defaults kind data):=by simp only [XAo,JA6,mk,Oy h,AP,defaults];grind
def b1 (n:Int):AA:=ofBytes [n]
theorem Lh (n:Int):(b1 n).size=1:=by rfl
def Ec (s:AA):AA:=(Ed s).extract 0 4
theorem Uc (s:AA):(Ec s).size=4:=by rfl
def AxM (leaf chain:Int):Nat->Int->AA->AA
 | 0,_,x=>x
 | n+1,f,x=>AxM leaf chain n (f+1) (Ec (b1 leaf++b1 chain++b1 f++x))
theorem UBq {leaf chain:Int}:∀ (n:Nat) (f:Int) (x:AA),x.size=4->(AxM leaf chain n f x).size=4:=by
 intro n;induction n with
 | zero=>intro f x h;exact h
 | succ n ih=>intro f x h;exact ih _ _ (Uc _)
theorem dR (leaf chain:Int) (f:Int) (x:AA):∀ n:Nat,AxM leaf chain (n+1) f x=Ec (b1 leaf++b1 chain++b1 (f+n)++AxM leaf chain n f x):=by intro n;induction n generalizing f x<;>grind [AxM]
def dP:AA:=⟨#[111]⟩
def dS:AA:=⟨#[110]⟩
def keyAt (seed:AA) (leaf c:Int):AA:=Ec (seed++b1 leaf++b1 c++dP)
def JA (seed:AA) (leaf:Int) (n:Nat):List AA:=(List.range n).map fun c:Nat=>keyAt seed leaf (c:Int)
def Ay6:List AA->AA
 | []=>⟨#[]⟩
 | x::xs=>x++Ay6 xs
theorem VBq (s:AA):(⟨#[]⟩:AA)++s=s:=KW (by rfl)
theorem lQ (s:AA):s++(⟨#[]⟩:AA)=s:=KW (by simp [Hr,RBj])
theorem yZ (a b c:AA):a++b++c=a++(b++c):=KW (by simp [Hr])
theorem BAt (a b:List AA):Ay6 (a++b)=Ay6 a++Ay6 b:=by induction a<;>simp_all [VBq,Ay6,yZ]
theorem Vg {l:List AA} {n:Nat} (h:∀ x ∈ l,x.size=n):(Ay6 l).size=l.length*n:=by
 induction l with
 | nil=>simp [Ay6];rfl
 | cons x xs ih=>grind [Ay6]
def Axt (level place:Int) (a b:AA):AA:=Ec (b1 level++b1 place++a++b++dS)
theorem nbq (a b:Nat):Nat.beq a b=decide (a=b):=by grind [Ea,Nat.beq_refl]
theorem TAh {s:AA} (h:s.size<=1000000000):Qr s=some (Ec s):=by rw [Qr,VA6,mk,Oy h,AP,AxT,IK (by rfl)];rfl
theorem HBP {s:AA} {leaf:Int} (hl:0<=leaf/\leaf<=255) (hs:s.size<=100000):qI s leaf=some (JA s leaf 10):=by
 have key:∀ (j i m:Nat),i+j=10->fU (m+j+1) (.c0 s leaf (i:Int) (JA s leaf i))=some (JA s leaf 10):=by
  intro j;induction j with
  | zero=>
   grind [fU,DAp]
  | succ j ih=>
   intro i m hi;have hw:AV ((i:Int)+1)=((i+1:Nat):Int):=by grind [A8]
   have ho:(JA s leaf i).length=i:=by simp [JA]
   have hm:JA s leaf i++[keyAt s leaf (i:Int)]=JA s leaf (i+1):=by simp [JA,List.range_succ]
   rw [AwB m j,fU];simp only [DAp,mk,hw];rw [IK (by grind),Po hl.1 hl.2,AP];show (bif decide (s.size+(b1 leaf).size<=_) then _ else _)=_;rw [IK (by grind [Lh]),Po (by omega) (by omega),AP];show (bif decide ((s++b1 leaf).size+(b1 (i:Int)).size<=_) then _ else _)=_;rw [IK (by grind [Lh])];show (bif decide ((s++b1 leaf++b1 (i:Int)).size+dP.size<=_) then _ else _)=_;have hO:dP.size=1:=rfl;rw [IK (by grind [Lh])];show (Qr (s++b1 leaf++b1 (i:Int)++dP)).bind _=_;rw [TAh (by grind [Lh]),AP,ho,IK (by grind)];show fU (m+j+1) (.c0 s leaf ((i+1:Nat):Int) (JA s leaf i++[keyAt s leaf (i:Int)]))=_;rw [hm];exact ih (i+1) m (by omega)
 obtain ⟨m,hm⟩:∃ m,AY=m+10+1:=⟨AY - 11,by rfl⟩
 rw [qI,WA6,hm];exact key 10 0 m rfl
theorem IBP {x:AA} {leaf chain:Int} {f n:Nat} (hl:0<=leaf/\leaf<=255) (hc:0<=chain/\chain<=255) (hn:n<=15) (hf:f+n<=255) (hx:x.size<=100000):Xd x leaf chain (f:Int) (n:Int)=some (AxM leaf chain n f x):=by
 have hs:∀ i,(AxM leaf chain i f x).size<=100000:=fun i=>by
  cases i with
  | zero=>exact hx
  | succ i=>simp [dR,Uc]
 have key:∀ (j i m:Nat),i+j=n->qJ (m+j+1) (.c0 (AxM leaf chain i f x) leaf chain (f:Int) (n:Int) (i:Int))=some (AxM leaf chain n f x):=by
  intro j;induction j with
  | zero=>
   grind [qJ,GAp]
  | succ j ih=>
   intro i m hi;have hw:AV ((i:Int)+1)=((i+1:Nat):Int):=by grind [A8]
   have hsi:=hs i;have hm:=dR leaf chain f x i;rw [AwB m j,qJ];simp only [GAp,mk,hw];rw [IK (by grind),Po hl.1 hl.2,AP,Po hc.1 hc.2,AP,A8 (by omega) (by omega),Po (by omega) (by omega)];grind [b1,Lh,AxM,TAh]
 obtain ⟨m,hm⟩:=gm (n:=n) (by omega)
 have hi:(ite ((15:Int)<(n:Int)) 15 (n:Int))=(n:Int):=if_neg (by omega);rw [Xd,ZA6,hi,hm];exact key n 0 m (Nat.zero_add _)
def Ay3 (keys:List AA) (leaf:Int) (n:Nat):List AA:=(List.range n).map fun c:Nat=>AxM leaf (c:Int) 15 0 (keys.getD c ⟨#[]⟩)
theorem CAt {keys:List AA} {leaf:Int} {n:Nat}:∀ x ∈ Ay3 keys leaf n,x.size=4:=fun x hx=>by grind [Ay3,dR,Uc]
theorem DAt (keys:List AA) (leaf:Int) (n:Nat):(Ay3 keys leaf n).length=n:=by simp [Ay3]
def XI (keys:List AA) (leaf:Int):AA:=Ec (Ay6 (Ay3 keys leaf 10))
theorem XBq {keys:List AA} {leaf:Int} (hk:keys.length=10) (hl:0<=leaf/\leaf<=255) (hs:∀ x ∈ keys,x.size<=100000):ZAc keys leaf=some (XI keys leaf):=by
 have key:∀ (j i m:Nat),i+j=10->ZO (m+j+1) (.c0 leaf 362 363 (Ay6 (Ay3 keys leaf i)) keys ((keys.length:Nat):Int) (i:Int))=some (XI keys leaf):=by
  intro j;induction j with
  | zero=>
   intro i m hi;obtain rfl:i=10:=by omega
   have hz:=Vg (CAt (keys:=keys) (leaf:=leaf) (n:=10));rw [DAt] at hz;rw [ZO];simp only [HAp,mk];rw [hk,TT (by rfl),TAh (by omega)];rfl
  | succ j ih=>
   intro i m hi;have hlt:i<keys.length:=by omega
   have hw:=Fq (i:=i) (by omega);have hz:=Vg (CAt (keys:=keys) (leaf:=leaf) (n:=i));rw [DAt] at hz;have hc:=dR leaf (i:Int) 0 keys[i] 14;have hc2:(AxM leaf (i:Int) 15 0 keys[i]).size=4:=by rw [hc];exact Uc _
   have hm:Ay6 (Ay3 keys leaf i)++AxM leaf (i:Int) 15 0 keys[i]=Ay6 (Ay3 keys leaf (i+1)):=by rw [Ay3,Ay3,List.range_succ,List.map_append,BAt,List.map_cons,List.map_nil,Ay6,Ay6,lQ,getD_at hlt]
   rw [AwB m j,ZO];simp only [HAp,mk,hw,BR,getD_at hlt];rw [Ep (by omega),GX (by omega)];simp only [nbq,Nat.reduceEqDiff,decide_true,decide_false,Ar,Aq,EAp,XA6,FAp,YA6,AP];have hch:=IBP (x:=keys[i]) (leaf:=leaf) (chain:=(i:Int)) (f:=0) (n:=15) hl (by omega) (Nat.le_refl _) (by omega) (hs _ (List.getElem_mem hlt));rw [show Xd keys[i] leaf (i:Int) 0 15=_ from hch,AP];show (bif decide ((Ay6 (Ay3 keys leaf i)).size+(AxM leaf (i:Int) 15 0 keys[i]).size<=_) then ZO (m+j+1) (.c0 leaf 362 363 (Ay6 (Ay3 keys leaf i)++AxM leaf (i:Int) 15 0 keys[i]) keys ((keys.length:Nat):Int) ((i+1:Nat):Int)) else none)=_;rw [Ep (by rw [hc2];omega),hm];exact ih (i+1) m (by omega)
 obtain ⟨m,hm⟩:=gm (n:=10) (by omega)
 rw [ZAc,CA7,mk,BA7,APR,mk,TT (by rw [hk];rfl),hm];show (ZO (m+10+1) (.c0 leaf 362 363 (Ay6 (Ay3 keys leaf 0)) keys ((keys.length:Nat):Int) ((0:Nat):Int))).bind _=_;rw [key 10 0 m rfl];rfl
theorem YBq (keys:List AA) (leaf:Int):(XI keys leaf).size=4:=Uc _
def Ax2 (s:AA) (n:Nat):List AA:=(List.range n).map fun l:Nat=>XI (JA s (l:Int) 10) (l:Int)
theorem yM (s:AA) (leaf:Int) (n:Nat):(JA s leaf n).length=n:=by simp [JA]
theorem yN {s:AA} {leaf:Int} {n:Nat}:∀ x ∈ JA s leaf n,x.size=4:=fun x hx=>by
 rw [JA,List.mem_map] at hx;obtain ⟨c,_,rfl⟩:=hx
 rfl
theorem JBP {s:AA} (hs:s.size<=100000):BAd s=some (Ax2 s 4):=by
 have key:∀ (j i m:Nat),i+j=4->qK (m+j+1) (.c0 s (i:Int) (Ax2 s i))=some (Ax2 s 4):=by
  intro j;induction j with
  | zero=>
   grind [qK,IAp]
  | succ j ih=>
   intro i m hi;have hw:AV ((i:Int)+1)=((i+1:Nat):Int):=by grind [A8]
   have ho:(Ax2 s i).length=i:=by simp [Ax2]
   have hm:Ax2 s i++[XI (JA s (i:Int) 10) (i:Int)]=Ax2 s (i+1):=by simp [Ax2,List.range_succ]
   rw [AwB m j,qK];simp only [IAp,mk,hw];rw [IK (by grind),HBP (by omega) hs,AP,XBq (yM _ _ _) (by omega) (fun x hx=>by grind [yN]),AP,ho,IK (by grind),hm];exact ih (i+1) m (by omega)
 obtain ⟨m,hm⟩:∃ m,AY=m+4+1:=⟨AY - 5,by rfl⟩
 rw [BAd,DA7,hm];exact key 4 0 m rfl
theorem RBD {level place:Int} {a b:AA} (hl:0<=level/\level<=255) (hp:0<=place/\place<=255) (ha:a.size<=100000) (hb:b.size<=100000):ZP level place a b=some (Axt level place a b):=by have hN:dS.size=1:=rfl;rw [ZP,EA7,mk,Po hl.1 hl.2,AP,Po hp.1 hp.2,AP];show (bif decide ((b1 level).size+(b1 place).size<=_) then _ else _)=_;rw [IK (by rfl)];show (bif decide ((b1 level++b1 place).size+a.size<=_) then _ else _)=_;rw [IK (by grind [Lh])];show (bif decide ((b1 level++b1 place++a).size+b.size<=_) then _ else _)=_;rw [IK (by grind [Lh])];show (bif decide ((b1 level++b1 place++a++b).size+dS.size<=_) then _ else _)=_;rw [IK (by grind [Lh])];show (Qr (b1 level++b1 place++a++b++dS)).bind _=_;rw [TAh (by grind [Lh])];rfl
theorem Ays (level place:Int) (a b:AA):(Axt level place a b).size=4:=Uc _
theorem KBP {lv:Int} {a b c d:AA} (hl:0<=lv/\lv<=255) (ha:a.size<=100000) (hb:b.size<=100000) (hc:c.size<=100000) (hd:d.size<=100000):Xe lv [a,b,c,d]=some [Axt lv 0 a b,Axt lv 1 c d]:=by
 obtain ⟨m,hm⟩:∃ m,AY=m+1+1+1:=⟨AY - 3,rfl⟩
 rw [Xe,JAp,hm,ZQ];simp only [DAd,mk];rw [IK (by rfl),IK (by rfl),IK (by rfl)];show (ZP lv 0 a b).bind _=_;rw [RBD hl (by omega) ha hb,AP,IK (by rfl),ZQ];simp only [DAd,mk];rw [IK (by rfl),IK (by rfl),IK (by rfl)];show (ZP lv 1 c d).bind _=_;rw [RBD hl (by omega) hc hd,AP,IK (by rfl),ZQ];rfl
theorem LBP {lv:Int} {a b:AA} (hl:0<=lv/\lv<=255) (ha:a.size<=100000) (hb:b.size<=100000):Xe lv [a,b]=some [Axt lv 0 a b]:=by
 obtain ⟨m,hm⟩:∃ m,AY=m+1+1:=⟨AY - 2,rfl⟩
 rw [Xe,JAp,hm,ZQ];simp only [DAd,mk];rw [IK (by rfl),IK (by rfl),IK (by rfl)];show (ZP lv 0 a b).bind _=_;rw [RBD hl (by omega) ha hb,AP,IK (by rfl),ZQ];rfl
def SBD (a b c d:AA):AA:=Axt 2 0 (Axt 1 0 a b) (Axt 1 1 c d)
theorem ZBq {a b c d:AA} (ha:a.size<=100000) (hb:b.size<=100000) (hc:c.size<=100000) (hd:d.size<=100000):LAp [a,b,c,d]=some (SBD a b c d):=by
 obtain ⟨m,hm⟩:∃ m,AY=m+1+1+1:=⟨AY - 3,rfl⟩
 have n1:=Ays 1 0 a b;have n2:=Ays 1 1 c d;rw [LAp,FA7,mk,TT (by rfl),hm,qL];simp only [KAp,mk];rw [IK (by rfl),KBP (by omega) ha hb hc hd,AP,show AV (1+1)=2 by rfl,qL];simp only [KAp,mk];rw [IK (by rfl),LBP (by omega) (by omega) (by omega),AP,qL];rfl
def Axo (s:AA) (l:Int):AA:=XI (JA s l 10) l
theorem Lj (s:AA) (l:Int):(Axo s l).size=4:=YBq _ _
theorem EAt (s:AA):Ax2 s 4=[Axo s 0,Axo s 1,Axo s 2,Axo s 3]:=rfl
def AxD (s:AA):AA:=SBD (Axo s 0) (Axo s 1) (Axo s 2) (Axo s 3)
theorem FAt (s:AA):(AxD s).size=4:=Ays _ _ _ _
theorem MBP {s:AA} (hs:s.size<=100000):qM s=some (AxD s):=by rw [qM,GA7,mk,JBP hs,AP,EAt,ZBq (by simp [Lj]) (by simp [Lj]) (by simp [Lj]) (by simp [Lj])];rfl
theorem Aif {b:Int} (h:0<=b/\b<=255):AV (Int.fdiv b (2 ^ (Min.min (4:Int).toNat (IntKind.bits IntKind.u8))))=b / 16:=by grind [IntKind.bits,A8]
theorem BBr {b:Int} (h:0<=b/\b<=255):AV (w8 (((BitVec.toNat ((BitVec.ofInt (IntKind.bits IntKind.u8) b) &&& (BitVec.ofInt (IntKind.bits IntKind.u8) 15))):Nat):Int))=b % 16:=by
 obtain ⟨n,rfl⟩:∃ n:Nat,b=(n:Int):=⟨b.toNat,by omega⟩
 have e:(BitVec.ofInt (IntKind.bits IntKind.u8) (n:Int) &&& BitVec.ofInt (IntKind.bits IntKind.u8) 15).toNat=n % 16:=by show (BitVec.ofInt 8 (n:Int) &&& BitVec.ofInt 8 15).toNat=_;rw [BitVec.toNat_and,BitVec.ofInt_natCast,BitVec.toNat_ofNat,Nat.mod_eq_of_lt (by omega),show (BitVec.ofInt 8 15).toNat=2 ^ 4 - 1 by decide,Nat.and_two_pow_sub_one_eq_mod]
 grind [Nq,A8]
def Avu:List Int->List Int
 | []=>[]
 | b::bs=>b / 16::b % 16::Avu bs
theorem NBP (a b:List Int):Avu (a++b)=Avu a++Avu b:=by induction a<;>simp_all [Avu]
theorem yR (a:List Int):(Avu a).length=2*a.length:=by induction a<;>grind [Avu]
theorem GAt {a:List Int} (h:Hw a):∀ d ∈ Avu a,0<=d/\d<=15:=by
 induction a with
 | nil=>intro d hd;cases hd
 | cons x xs ih=>
  intro d hd;have hx:=h x (List.mem_cons_self ..);rw [Avu,List.mem_cons,List.mem_cons] at hd;rcases hd with rfl | rfl | hd
  ·omega
  ·omega
  ·exact ih (fun y hy=>h y (List.mem_cons_of_mem _ hy)) d hd
def AyF:List Int->Int
 | []=>0
 | d::ds=>15 - d+AyF ds
theorem OBP (a b:List Int):AyF (a++b)=AyF a+AyF b:=by induction a<;>grind [AyF]
theorem yS {a:List Int} (h:∀ d ∈ a,0<=d/\d<=15):0<=AyF a/\AyF a<=15*(a.length:Int):=by
 induction a with
 | nil=>exact ⟨Int.le_refl _,Int.le_refl _⟩
 | cons x xs ih=>
  have hx:=h x (List.mem_cons_self ..);have:=ih (fun y hy=>h y (List.mem_cons_of_mem _ hy));grind [AyF]
def AwU (m:AA):List Int:=Avu (bs (Ec m))++[AyF (Avu (bs (Ec m))) / 16,AyF (Avu (bs (Ec m))) % 16]
theorem PBP (m:AA):(AwU m).length=10/\∀ d ∈ AwU m,0<=d/\d<=15:=by have h1:=GAt (AxC (Ec m));have h2:=yR (bs (Ec m));have h3:=yS h1;grind [bs_len,Uc,AwU]
theorem CBr {s:AA} (hs:s.size<=1000000000):GAd s=some (AwU s):=by
 have hz:=Uc s;have hin:=GAt (AxC (Ec s));have hln:=yR (bs (Ec s));rw [bs_len,hz] at hln;have C3:∀ (j i m:Nat),i+j=8->Xf (m+j+1) (.c1 (AyF ((Avu (bs (Ec s))).take i)) ((8:Nat):Int) (i:Int) (Avu (bs (Ec s))))=some (AwU s):=by
  intro j;induction j with
  | zero=>
   intro i m hi;obtain rfl:i=8:=by omega
   have h3:=yS hin;rw [List.take_of_length_le (by omega),Xf];simp only [qN,mk];rw [TT (by rfl),IK (by simp_all),Int.tdiv_eq_ediv_of_nonneg h3.1,Int.tmod_eq_emod_of_nonneg h3.1,A8 (by omega) (by omega)];rfl
  | succ j ih=>
   intro i m hi;have hlt:i<(Avu (bs (Ec s))).length:=by omega
   have hw:AV ((i:Int)+1)=((i+1:Nat):Int):=by grind [A8]
   have h3:=yS (a:=(Avu (bs (Ec s))).take i) (fun d hd=>hin d (List.mem_of_mem_take hd));have h4:=hin _ (List.getElem_mem hlt);have hl:((Avu (bs (Ec s))).take i).length<=8:=by grind
   have hm:AyF ((Avu (bs (Ec s))).take i)+(15 - (Avu (bs (Ec s)))[i])=AyF ((Avu (bs (Ec s))).take (i+1)):=by rw [take_at hlt,OBP,AyF,AyF];omega
   rw [AwB m j,Xf];grind [qN,BR,A8]
 have C4:∀ (j i m:Nat),i+j=4->Xf (m+9+j+1) (.c0 0 (Ec s) (i:Int) (Avu ((bs (Ec s)).take i)))=some (AwU s):=by
  intro j;induction j with
  | zero=>
   intro i m hi;obtain rfl:i=4:=by omega
   rw [Xf];simp only [qN,mk];rw [TT (by rfl),List.take_of_length_le (by grind [bs_len]),hln];exact C3 8 0 m rfl
  | succ j ih=>
   intro i m hi;have hlt:i<(Ec s).size:=by omega
   have hlt2:i<(bs (Ec s)).length:=by grind [bs_len]
   have hw:AV ((i:Int)+1)=((i+1:Nat):Int):=by grind [A8]
   have hb:=Ud (Ec s) (i:Int);have hl:(Avu ((bs (Ec s)).take i)).length<=8:=by grind [yR]
   have hm:Avu ((bs (Ec s)).take i)++[bt (Ec s) (i:Int) / 16,bt (Ec s) (i:Int) % 16]=Avu ((bs (Ec s)).take (i+1)):=by rw [take_at hlt2,NBP,lW hlt];rfl
   rw [show m+9+(j+1)+1=(m+9+j+1)+1 from rfl,Xf];simp only [qN,mk,hw,Aif hb,BBr hb];rw [IK (by grind),IK (by grind),IK (by grind),IK (by grind),hm];exact ih (i+1) m (by omega)
 obtain ⟨m,hm⟩:∃ m,AY=m+9+4+1:=⟨AY - 14,by rfl⟩
 rw [GAd,HA7,TAh hs,AP,hm];exact C4 4 0 m rfl
def Ur (keys:List AA) (leaf:Int) (ds:List Int) (n:Nat):List AA:=(List.range n).map fun c:Nat=>AxM leaf (c:Int) (ds.getD c 0).toNat 0 (keys.getD c ⟨#[]⟩)
theorem DBr {x:AA} {leaf d:Int} {i:Nat} (hl:0<=leaf/\leaf<=255) (hi:i<10) (hx:x.size<=100000) (hd:0<=d/\d<=15):Xd x leaf (i:Int) 0 d=some (AxM leaf (i:Int) d.toNat 0 x):=by
 obtain ⟨n,rfl⟩:∃ n:Nat,d=(n:Int):=⟨d.toNat,by omega⟩
 rw [BR];exact IBP (f:=0) (n:=n) hl (by omega) (by omega) (by omega) hx
theorem EBr {keys:List AA} {leaf:Int} {s:AA} (hk:keys.length=10) (hl:0<=leaf/\leaf<=255) (hs:∀ x ∈ keys,x.size<=100000) (hm:s.size<=1000000000):NAp keys leaf s=some (Ur keys leaf (AwU s) 10):=by
 obtain ⟨d1,d2⟩:=PBP s
 have hdig:=CBr hm;generalize AwU s=D at d1 d2 hdig;have key:∀ (j i m:Nat),i+j=10->qO (m+j+1) (.c0 leaf keys ((keys.length:Nat):Int) (i:Int) D (Ur keys leaf D i))=some (Ur keys leaf D 10):=by
  intro j;induction j with
  | zero=>
   grind [qO,MAp]
  | succ j ih=>
   intro i m hi;have hlt:i<keys.length:=by omega
   have hlt2:i<D.length:=by omega
   have hw:AV ((i:Int)+1)=((i+1:Nat):Int):=by grind [A8]
   have hd:=d2 _ (List.getElem_mem hlt2);have ho:(Ur keys leaf D i).length=i:=by simp [Ur]
   have hstep:Ur keys leaf D i++[AxM leaf (i:Int) D[i].toNat 0 keys[i]]=Ur keys leaf D (i+1):=by grind [Ur,List.range_succ]
   have hch:=DBr hl (show i<10 by omega) (hs _ (List.getElem_mem hlt)) hd;grind [qO,MAp,BR]
 obtain ⟨m,hm2⟩:∃ m,AY=m+10+1:=⟨AY - 11,by rfl⟩
 rw [NAp,IA7,mk,TT (by simp_all),hdig,AP,hm2];exact key 10 0 m rfl
def lY (a b c d:AA) (leaf:Int):List AA:=
 if leaf=0 then [b,Axt 1 1 c d] else if leaf=1 then [a,Axt 1 1 c d] else if leaf=2 then [d,Axt 1 0 a b] else [c,Axt 1 0 a b]
theorem IAt {a b c d:AA} {m:Nat} {leaf A1 up:Int} (ha:a.size<=100000) (hb:b.size<=100000) (hc:c.size<=100000) (hd:d.size<=100000) (hs:AV (((BitVec.toNat ((BitVec.ofInt (IntKind.bits IntKind.i64) leaf) ^^^ (BitVec.ofInt (IntKind.bits IntKind.i64) 1))):Nat):Int)=A1) (h0:0<=A1/\A1<4) (hu:AV (leaf.tdiv 2)=up) :
  ZR (m+1) (.c0 [a,b,c,d] leaf 1 [])=ZR m (.c1 up 2 [Axt 1 0 a b,Axt 1 1 c d] [[a,b,c,d].getD A1.toNat ⟨#[]⟩]):=by
 simp_all [ZR,OAp,mk,KBP,A8]
theorem JAt {a b x:AA} {m:Nat} {leaf A1:Int} (ha:a.size<=100000) (hb:b.size<=100000) (hs:AV (((BitVec.toNat ((BitVec.ofInt (IntKind.bits IntKind.i64) leaf) ^^^ (BitVec.ofInt (IntKind.bits IntKind.i64) 1))):Nat):Int)=A1) (h0:0<=A1/\A1<2) :
  ZR (m+1+1) (.c1 leaf 2 [a,b] [x])=some [x,[a,b].getD A1.toNat ⟨#[]⟩]:=by
 simp_all [ZR,OAp,mk,LBP]
theorem FBr {a b c d:AA} {leaf:Int} (hl:0<=leaf/\leaf<=3) (ha:a.size<=100000) (hb:b.size<=100000) (hc:c.size<=100000) (hd:d.size<=100000):PAp [a,b,c,d] leaf=some (lY a b c d leaf):=by
 obtain ⟨m,hm⟩:∃ m,AY=m+1+1+1:=⟨AY - 3,rfl⟩
 have n1:=Ays 1 0 a b;have n2:=Ays 1 1 c d;rw [PAp,JA7,mk,TT (by rfl),AwE,AP,Na.2 hl,DN,Aq,hm];have h4:leaf=0\/leaf=1\/leaf=2\/leaf=3:=by omega
 rcases h4 with rfl | rfl | rfl | rfl
 ·rw [IAt (A1:=1) (up:=0) ha hb hc hd (by decide) (by omega) (by decide),JAt (A1:=1) (by omega) (by omega) (by decide) (by omega)];rfl
 ·rw [IAt (A1:=0) (up:=0) ha hb hc hd (by decide) (by omega) (by decide),JAt (A1:=1) (by omega) (by omega) (by decide) (by omega)];rfl
 ·rw [IAt (A1:=3) (up:=1) ha hb hc hd (by decide) (by omega) (by decide),JAt (A1:=0) (by omega) (by omega) (by decide) (by omega)];rfl
 ·rw [IAt (A1:=2) (up:=1) ha hb hc hd (by decide) (by omega) (by decide),JAt (A1:=0) (by omega) (by omega) (by decide) (by omega)];rfl
theorem GBr {a b c d:AA} {leaf:Int} (ha:a.size=4) (hb:b.size=4) (hc:c.size=4) (hd:d.size=4):(lY a b c d leaf).length=2/\∀ x ∈ lY a b c d leaf,x.size=4:=by grind [lY,Ays]
def lZ (s:AA) (leaf:Int) (m:AA):IL:=⟨leaf,Ur (JA s leaf 10) leaf (AwU m) 10,lY (Axo s 0) (Axo s 1) (Axo s 2) (Axo s 3) leaf⟩
theorem QBP {s m:AA} {leaf:Int} (hl:0<=leaf/\leaf<=3) (hs:s.size<=100000) (hm:m.size<=1000000000):qP s leaf m=some (lZ s leaf m,true):=by rw [qP,KA7,mk,AwE,AP,Na.2 hl,DN,Aq,HBP (by omega) hs,AP,EBr (yM _ _ _) (by omega) (fun x hx=>by grind [yN]) hm,AP,JBP hs,AP,EAt,FBr hl (by simp [Lj]) (by simp [Lj]) (by simp [Lj]) (by simp [Lj])];rfl
structure AyZ (s:IL):Prop where
 leaf:0<=s.Dv/\s.Dv<=3
 once:s.Fg.length=10/\∀ x ∈ s.Fg,x.size=4
 path:s.Gn.length=2/\∀ x ∈ s.Gn,x.size=4
theorem HBr {keys:List AA} {leaf:Int} {ds:List Int} {n:Nat} (hk:keys.length=n) (h:∀ x ∈ keys,x.size=4):(Ur keys leaf ds n).length=n/\∀ x ∈ Ur keys leaf ds n,x.size=4:=by grind [Ur,UBq]
theorem KAt {s m:AA} {leaf:Int} (hl:0<=leaf/\leaf<=3):AyZ (lZ s leaf m):=⟨hl,HBr (yM _ _ _) yN,GBr (Lj _ _) (Lj _ _) (Lj _ _) (Lj _ _)⟩
theorem RBP {l:List AA} {n:Nat} (h:l.length=n) (hs:∀ x ∈ l,x.size=4) (hn:n<=1000):RAp l (n:Int)=some true:=by
 have key:∀ (j i m:Nat),i+j=l.length->KAd (m+j+1) (.c0 l (n:Int) l ((l.length:Nat):Int) (i:Int))=some true:=by intro j;induction j<;>grind [KAd,NA7,A8]
 obtain ⟨m,hm⟩:=gm (n:=l.length) (by omega)
 rw [RAp,MA7,mk,hm];exact key l.length 0 m (Nat.zero_add _)
theorem IBr {s:IL} (h:AyZ s):LAd s=some true:=by rw [LAd,OA7,mk,AwE,AP,Na.2 h.leaf,Ar];have h1:=RBP h.once.1 h.once.2 (by omega);have h2:=RBP h.path.1 h.path.2 (by omega);simp_all
def XL (s:IL):AA:=b1 s.Dv++Ay6 s.Fg++Ay6 s.Gn
theorem LAt {s:IL} (h:AyZ s):(XL s).size=49:=by rw [XL,ByteArray.size_append,ByteArray.size_append,Lh,Vg h.once.2,Vg h.path.2,h.once.1,h.path.1]
theorem SBP {s:IL} (h:AyZ s):SAp s=some (XL s,true):=by
 obtain ⟨l1,s1⟩:=h.once
 obtain ⟨l2,s2⟩:=h.path
 have pre:∀ {l:List AA} {i:Nat} (hlt:i<l.length),Ay6 (l.take i)++l[i]=Ay6 (l.take (i+1)):=fun {l i} hlt=>by grind [take_at,BAt,Ay6,lQ]
 have CF:∀ {l:List AA} (i:Nat),(∀ x ∈ l,x.size=4)->l.length<=10->(Ay6 (l.take i)).size<=40:=fun {l} i hs hl=>by rw [Vg (fun x hx=>hs x (List.mem_of_mem_take hx)),List.length_take];omega
 have hO:=Vg s1;have C3:∀ (j i m:Nat),i+j=s.Gn.length->Xg (m+j+1) (.c1 (b1 s.Dv++Ay6 s.Fg++Ay6 (s.Gn.take i)) s.Gn ((s.Gn.length:Nat):Int) (i:Int))=some (XL s,true):=by
  intro j;induction j with
  | zero=>
   intro i m hi;rw [Xg];simp only [qQ,mk];rw [TT (by simp_all),List.take_of_length_le (by omega)];rfl
  | succ j ih=>
   intro i m hi;have hlt:i<s.Gn.length:=by omega
   have hw:AV ((i:Int)+1)=((i+1:Nat):Int):=by grind [A8]
   have hz:=CF i s2 (by omega);rw [AwB m j,Xg];simp only [qQ,mk,hw,BR,getD_at hlt];rw [IK (by grind),IK (by grind),IK (by grind [Lh]),yZ (b1 s.Dv++Ay6 s.Fg),pre hlt];exact ih (i+1) m (by omega)
 have C4:∀ (j i m:Nat),i+j=s.Fg.length->Xg (m+3+j+1) (.c0 (b1 s.Dv++Ay6 (s.Fg.take i)) s.Fg ((s.Fg.length:Nat):Int) (i:Int) s)=some (XL s,true):=by
  intro j;induction j with
  | zero=>
   intro i m hi;rw [Xg];simp only [qQ,mk];rw [TT (by simp_all),List.take_of_length_le (by omega)];have h0:=C3 s.Gn.length 0 m (Nat.zero_add _);simp_all [Ay6,lQ]
  | succ j ih=>
   intro i m hi;have hlt:i<s.Fg.length:=by omega
   have hw:AV ((i:Int)+1)=((i+1:Nat):Int):=by grind [A8]
   have hz:=CF i s1 (by omega);rw [show m+3+(j+1)+1=(m+3+j+1)+1 from rfl,Xg];simp only [qQ,mk,hw,BR,getD_at hlt];rw [IK (by grind),IK (by grind),IK (by grind [Lh]),yZ (b1 s.Dv),pre hlt];exact ih (i+1) m (by omega)
 obtain ⟨m,hm⟩:∃ m,AY=m+3+s.Fg.length+1:=⟨AY - (3+s.Fg.length+1),by have:=FM (n:=3+s.Fg.length+1) (by omega);omega⟩
 rw [SAp,PA7,mk,IBr h,AP,DN,Aq,Po h.leaf.1 (by have:=h.leaf.2;omega),AP,hm];have h0:=C4 s.Fg.length 0 m (Nat.zero_add _);assumption
def lg:AA:=⟨#[108]⟩
def dV:AA:=⟨#[116]⟩
def Rl (s:AA) (i:Int):AA:=s++b1 (i / 4)++lg
def Ayc (s:AA) (i:Int) (m:AA):Nl:=⟨lZ (s++dV) (i / 4) (AxD (Rl s i)),AxD (Rl s i),lZ (Rl s i) (i % 4) m⟩
theorem JBr {s m:AA} {i:Int} (hi:0<=i/\i<=15) (hs:s.size<=90000) (hm:m.size<=1000000000):QAp s i m=some (Ayc s i m,true):=by
 have hL:lg.size=1:=rfl;have hT:dV.size=1:=rfl;have hlow:(Rl s i).size=s.size+2:=by simp_all [Rl,Lh]
 have e1:AV (i.tdiv 4)=i / 4:=by grind [A8]
 have e2:i.tmod 4=i % 4:=Int.tmod_eq_emod_of_nonneg hi.1;rw [QAp,LA7,mk,AwE,AP,Na.2 hi,DN,Aq,e1,e2,Po (by omega) (by omega),AP];show (bif decide (s.size+(b1 (i / 4)).size<=_) then _ else _)=_;rw [IK (by grind [Lh])];show (bif decide ((s++b1 (i / 4)).size+lg.size<=_) then (qM (Rl s i)).bind (fun r2=>(qP (Rl s i) (i % 4) m).bind fun r3=>bif decide (s.size+dV.size<=9223372036854775807) then (qP (s++dV) (i / 4) r2).bind fun r4=>some ((⟨r4.1,r2,r3.1⟩:Nl),true) else none) else none)=_;rw [IK (by grind [Lh]),MBP (by omega),AP,QBP (by omega) (by omega) hm,AP,IK (by grind),QBP (by omega) (by grind) (by simp [FAt])];rfl
def MAt (h:Nl):AA:=XL h.QU++h.QS++XL h.QV
theorem KBr {s m:AA} {i:Int} (hi:0<=i/\i<=15):TAp (Ayc s i m)=some (MAt (Ayc s i m),true):=by have h1:AyZ (Ayc s i m).QU:=KAt (by omega);have h2:AyZ (Ayc s i m).QV:=KAt (by omega);have h3:(Ayc s i m).QS.size=4:=FAt _;have z1:=LAt h1;have z2:=LAt h2;rw [TAp,QA7,mk,SBP h1,AP,SBP h2,AP];dsimp only;rw [DN,Aq,Aq,TT (by simp_all),IK (by simp_all),IK (by simp_all)];rfl
theorem UBD {b:Ap} {t:Int} (h:b.BD.length<=140737488351232):ZT b t=some (atV b t):=by
 have key:∀ (j i m:Nat),i+j=b.BD.length->qR (m+j+1) (.c0 t b.BD (b.BD.length:Int) (i:Int))=some (match Ax4 (b.BD.drop i) t i with | some j=>(j:Int) | none=> -1):=by
  intro j;induction j with
  | zero=>
   intro i m hi;rw [qR];simp only [CAp,mk];rw [TT (by simp_all),List.drop_of_length_le (by omega)];rfl
  | succ j ih=>
   intro i m hi;have hil:i<b.BD.length:=by omega
   have hw:AV ((i:Int)+1)=((i+1:Nat):Int):=by grind [A8]
   grind [qR,CAp,BR,drop_at,Ax4]
 obtain ⟨m,hm⟩:=gm (n:=b.BD.length) (by omega)
 rw [ZT,SA6,mk,hm];exact key b.BD.length 0 m (Nat.zero_add _)
theorem VBD {b:Ap} {t:Int} (h:b.BD.length<=140737488351232) (ht:b.AU.AZ.length<=140737488351232):Vd b t=some (Avz b t):=by
 rw [Vd,UA6,mk,XE ht,AP,Avz];cases hx:AwV b.AU.AZ t with
 | none=>rfl
 | some x=>
  have hid:x.fId=t:=by have:=List.find?_some hx;simp_all
  simp only [UBD h,bne,atV,DY,hid,AP];cases x.Aj == 2;·rfl
  ·cases hp:Ax4 b.BD t 0 with
   | none=>rfl
   | some j=>
    have hj:=(kF hp).2;grind
def AvD:Af:=⟨0,0,false,false,false,false,⟨#[]⟩,0⟩
def Axs (x:Af) (h f:Bool):Af×Bool:=bif AwH x && ((h || !x.CY) && (f || !x.CX)) then (⟨x.fId,x.Aj,h,f,x.Gw,x.GH,x.fValue,x.fNext⟩,true) else (AvD,false)
def AwF (x:Af) (d:Int):Bool:=AwH x && (bif d == 1 then !x.CY else bif d == 2 then !x.CX && !(x.Aj == 2) else bif d == 3 then x.Gw else bif d == 4 then x.GH else d == 5)
theorem LBr (x:Af) (d:Int):BAp x d=some (AwF x d):=by rw [BAp,RA6,mk,xZ,AP,AwF,bne];grind
def AyG (x:Af):Ah:=⟨3,⟨#[]⟩,0,x⟩
def newX (b:Ap) (c:CV) (x:Af):Af:=⟨b.AU.BM+1,x.Aj,x.CY || c.CY,x.CX || c.CX,x.Gw,x.GH,x.fValue,x.fNext⟩
def Aw8 (x:Af):Af:=⟨x.fId,x.Aj,x.CY,x.CX,x.Gw,x.GH,x.fValue,ite (16<x.fNext+3) 16 (x.fNext+3)⟩
def Rj (l:List Int):List Int:=(SN (l.length:Int)++l)++List.replicate ((16 - (SN (l.length:Int)++l).length % 16) % 16) 0
theorem WBD {l:List Int} (h:Hw l):Hw (Rj l):=by
 intro x hx;simp only [Rj,List.mem_append,List.mem_replicate] at hx;rcases hx with (hx | hx) | hx
 ·exact V6 (by omega) x hx
 ·exact h x hx
 ·omega
theorem XBD {l:List Int} (h:l.length<=1000000000):(Rj l).length<=l.length+25/\(Rj l).length % 16=0:=by grind [KX,Rj]
def lI (k s:AA):AA×Bool:=bif decide ((s.size:Int) > 400) then (⟨#[]⟩,false) else Axf k 0 (ofBytes (Rj (bs s)))
noncomputable def Ri (text:AA) (a:Nat):AA×Int×Bool:=
 bif !(Avr text a).2.2 || (decide ((Avr text a).1 > 20000) || decide ((Avr text a).1 > (text.size:Int) - (Avr text a).2.1)) then (⟨#[]⟩,0,false)
 else (text.extract (Avr text a).2.1.toNat ((Avr text a).2.1+(Avr text a).1).toNat,(Avr text a).2.1+(Avr text a).1,true)
noncomputable def Ax7 (k t:AA):AA×Bool:=
 bif !(Ee k 0 t).2 || (!(Ri (Ee k 0 t).1 0).2.2 || (decide (((Ri (Ee k 0 t).1 0).1.size:Int) > 400) || !(Rj (bs (Ri (Ee k 0 t).1 0).1) == bs (Ee k 0 t).1))) then (⟨#[]⟩,false)
 else ((Ri (Ee k 0 t).1 0).1,true)
def nrt (l h x:Nat):Nat:=Nat.add (Nat.div x l) (Nat.mul (Nat.mod x l) h)
def MBr (x:Nat):Nat:=Nat.xor (Nat.xor (nrt 64 67108864 x) (nrt 2048 2097152 x)) (nrt 33554432 128 x)
def nx (e f g h k w:Nat):Nat:=Nat.mod (Nat.add (Nat.add (Nat.add (Nat.add h (MBr e)) (Nat.xor (Nat.land e f) (Nat.land (Nat.sub 4294967295 e) g))) k) w) 4294967296
def qU:Nat->Nat->List Int
 | 0,_=>[]
 | k+1,n=>if n=0 then [] else qU k (n / 10)++[48+((n % 10:Nat):Int)]
def NAt (n:Nat):List Int:=if n=0 then [48] else qU 20 n
theorem NBr {n:Nat} (h:n<10000):lF (n:Int)=some (ofBytes (NAt n)):=by
 have ob:∀ a b:List Int,ofBytes a++ofBytes b=ofBytes (a++b):=fun a b=>by apply ByteArray.ext;simp [ofBytes]
 have key:∀ (k:Nat) (n m:Nat) (l:List Int),n<10 ^ k->n<10000->l.length+k<=100->KAX (m+k+1) (.c0 (n:Int) false (ofBytes l))=some (ofBytes (qU k n++l)):=by
  intro k;induction k with
  | zero=>
   intro n m l h0 _ _;obtain rfl:n=0:=by omega
   rfl
  | succ k ih=>
   intro n m l h0 h1 hl;rw [AwB m k,KAX];simp only [FAz,mk];by_cases hn:n=0;·subst hn;rfl
   ·have e1:(n:Int).tmod 10=((n % 10:Nat):Int):=by rfl
    have e2:(n:Int).tdiv 10=((n / 10:Nat):Int):=by rfl
    rw [IK (by simp_all),e1,e2,TT (by rfl),FAl,DAz,mk,IK (by grind),A8 (by omega) (by omega),Nq (by omega) (by omega),AP,IK (by grind [Dj]),A8 (by omega) (by omega),ob];rw [ih (n / 10) m _ (Nat.div_lt_of_lt_mul (by omega)) (by omega) (by grind),qU,if_neg hn,List.append_assoc]
 rw [lF,EAz,mk,NAt];by_cases hn:n=0;·subst hn;rfl
 ·rw [TT (by simp_all),if_neg hn,show decide ((n:Int)<0)=false from D6 (by omega)];obtain ⟨m,hm⟩:∃ m,AY=m+20+1:=⟨AY - 21,by rfl⟩
  rw [hm];have:=key 20 n m [] (by omega) h (Nat.le_of_ble_eq_true rfl);rw [List.append_nil] at this;exact this
theorem Axc {n:Nat} (h:n<18446744073709551616):wu64 (n:Int)=(n:Int):=by grind [IntKind.wrap,IntKind.signed,IntKind.bits]
theorem TBP (n:Nat):wu64 (n:Int)=((n % 18446744073709551616:Nat):Int):=by rfl
theorem YAh {n:Nat} (h:n<18446744073709551616):(BitVec.ofInt (IntKind.bits IntKind.u64) (n:Int)).toNat=n:=by show (BitVec.ofInt 64 (n:Int)).toNat=n;simp_all
theorem Py {a b:Nat} (ha:a<18446744073709551616) (hb:b<18446744073709551616):wu64 (((BitVec.toNat ((BitVec.ofInt (IntKind.bits IntKind.u64) (a:Int)) ^^^ (BitVec.ofInt (IntKind.bits IntKind.u64) (b:Int)))):Nat):Int)=((a ^^^ b:Nat):Int):=by rw [BitVec.toNat_xor,YAh ha,YAh hb,Axc (Nat.xor_lt_two_pow (n:=64) ha hb)]
theorem n64 {a b:Nat} (ha:a<18446744073709551616) (hb:b<18446744073709551616):wu64 (((BitVec.toNat ((BitVec.ofInt (IntKind.bits IntKind.u64) (a:Int)) &&& (BitVec.ofInt (IntKind.bits IntKind.u64) (b:Int)))):Nat):Int)=((a &&& b:Nat):Int):=by grind [YAh,Axc,Nat.and_le_left]
theorem o64 {a b:Nat} (ha:a<18446744073709551616) (hb:b<18446744073709551616):wu64 (((BitVec.toNat ((BitVec.ofInt (IntKind.bits IntKind.u64) (a:Int)) ||| (BitVec.ofInt (IntKind.bits IntKind.u64) (b:Int)))):Nat):Int)=((a ||| b:Nat):Int):=by rw [BitVec.toNat_or,YAh ha,YAh hb,Axc (Nat.or_lt_two_pow (n:=64) ha hb)]
theorem m64:(ite ((IntKind.signed IntKind.u64)=true) (-(1:Int)) (IntKind.max IntKind.u64))=((18446744073709551615:Nat):Int):=by decide
theorem OBr {a:Nat} (h:a<18446744073709551616):18446744073709551615 ^^^ a=18446744073709551615 - a:=by
 have h1:(BitVec.allOnes 64 ^^^ BitVec.ofNat 64 a).toNat=(~~~ (BitVec.ofNat 64 a)).toNat:=by rfl
 simp_all [Nat.mod_eq_of_lt]
theorem PBr {a:Nat} (h:a<18446744073709551616):wu64 (18446744073709551615 - (a:Int))=((18446744073709551615 - a:Nat):Int):=by grind [Axc]
theorem xlt {a b:Nat} (ha:a<18446744073709551616) (hb:b<18446744073709551616):a ^^^ b<18446744073709551616:=Nat.xor_lt_two_pow (n:=64) ha hb
theorem nlt {a b:Nat} (ha:a<18446744073709551616):a &&& b<18446744073709551616:=Nat.lt_of_le_of_lt Nat.and_le_left ha
def Axh (n x:Nat):Nat:=(x*2 ^ n) % 18446744073709551616+x / 2 ^ (64 - n)
theorem VBP {n x:Nat} (hn:n<64):(x*2 ^ n) % 18446744073709551616=(x % 2 ^ (64 - n))*2 ^ n:=by
 have e:18446744073709551616=2 ^ (64 - n)*2 ^ n:=by rw [<-Nat.pow_add,show 64 - n+n=64 by omega]
 rw [e,Nat.mul_mod_mul_right]
theorem WBP {n x:Nat} (hn:n<64) (h:x<18446744073709551616):x / 2 ^ (64 - n)<2 ^ n:=by rw [Nat.div_lt_iff_lt_mul (Nat.two_pow_pos _),<-Nat.pow_add,show n+(64 - n)=64 by omega];exact h
theorem mD {n x:Nat} (hn:n<64) (h:x<18446744073709551616):Axh n x<18446744073709551616:=by
 have h1:=WBP hn h;have h2:x % 2 ^ (64 - n)<2 ^ (64 - n):=Nat.mod_lt _ (Nat.two_pow_pos _);have e:2 ^ (64 - n)*2 ^ n=18446744073709551616:=by rw [<-Nat.pow_add,show 64 - n+n=64 by omega]
 rw [Axh,VBP hn];have h3:(x % 2 ^ (64 - n)+1)*2 ^ n<=2 ^ (64 - n)*2 ^ n:=Nat.mul_le_mul_right _ h2;grind
theorem QBr {n x:Nat} (hn:n<64) (h:x<18446744073709551616):((x*2 ^ n) % 18446744073709551616) ||| (x / 2 ^ (64 - n))=Axh n x:=by rw [Axh,VBP hn];have:=Nat.shiftLeft_add_eq_or_of_lt (WBP hn h) (x % 2 ^ (64 - n));simp_all [Nat.shiftLeft_eq]
theorem XBP {x:Nat} (h:x<18446744073709551616):Axh 0 x=x:=by simp_all [Axh,Nat.div_eq_of_lt]
def Ob {A:Type} (f:Nat->A->A):Nat->Nat->A->A
 | 0,_,a=>a
 | j+1,i,a=>Ob f j (i+1) (f i a)
theorem AwS {S A R:Type} {Lp:Nat->S->Option R} {st:Nat->A->S} {f:Nat->A->A} {P:Nat->A->Prop} {n:Nat} (K:Nat) (step:∀ m i a,i<n->P i a->Lp (m+K) (st i a)=Lp m (st (i+1) (f i a))/\P (i+1) (f i a)):∀ j i m a,i+j=n->P i a->Lp (m+j*K) (st i a)=Lp m (st n (Ob f j i a))/\P n (Ob f j i a):=by
 intro j;induction j with
 | zero=>(intro i m a h hp;rw [Nat.zero_mul];have:i=n:=by omega);subst this;exact ⟨rfl,hp⟩
 | succ j ih=>
  intro i m a h hp;obtain ⟨h1,h2⟩:=step (m+j*K) i a (by omega) hp
  obtain ⟨h3,h4⟩:=ih (i+1) m (f i a) (by omega) h2
  exact ⟨by rw [Nat.succ_mul,<-Nat.add_assoc,h1,h3];rfl,h4⟩
def up (l:List Nat):List Int:=l.map fun (n:Nat)=>(n:Int)
theorem D7 (l:List Nat):(up l).length=l.length:=by simp [up]
theorem Jg (l:List Nat) (i:Nat):(up l).getD i 0=((l.getD i 0:Nat):Int):=by grind [up]
theorem Jc (l:List Nat) (i n:Nat):(up l).set i (n:Int)=up (l.set i n):=by simp [up]
def NK (l:List Nat):Prop:=∀ x ∈ l,x<18446744073709551616
theorem NK.get {l:List Nat} (h:NK l) (i:Nat):l.getD i 0<18446744073709551616:=by
 rw [List.getD_eq_getElem?_getD];cases hx:l[i]? with
 | none=>decide
 | some x=>exact h x (List.mem_of_getElem? hx)
theorem NK.set {l:List Nat} (h:NK l) (i:Nat) {n:Nat} (hn:n<18446744073709551616):NK (l.set i n):=fun x hx=>by
 rcases List.mem_or_eq_of_mem_set hx with h1 | rfl
 ·exact h x h1
 omega
theorem AzJ {l:List Nat} {i:Nat} (h:i<l.length):(decide (0<=(i:Int)) && decide ((i:Int)<((up l).length:Int)))=true:=by simp_all [D7]
theorem YBP (n:Nat):NK (List.replicate n 0):=fun x hx=>by grind
theorem Avq (n:Nat):up (List.replicate n 0)=List.replicate n 0:=by simp [up]
def AxX (a:List Nat) (x:Nat):Nat:=(((a.getD x 0 ^^^ a.getD (x+5) 0) ^^^ a.getD (x+10) 0) ^^^ a.getD (x+15) 0) ^^^ a.getD (x+20) 0
def AKb (a:List Nat) (x:Nat):Nat:=AxX a ((x+4) % 5) ^^^ Axh 1 (AxX a ((x+1) % 5))
def TP (a:List Nat) (i:Nat):Nat:=a.getD i 0 ^^^ AKb a (i % 5)
def Rn:List Nat:=[0,1,62,28,27,36,44,6,55,20,3,10,43,25,39,41,45,15,21,8,18,2,61,56,14]
def qV (v:Nat->Nat->Nat):List Nat:=(List.range 25).map fun p=>v (Rn.getD ((p % 5+3*(p / 5)) % 5+5*(p % 5)) 0) ((p % 5+3*(p / 5)) % 5+5*(p % 5))
def P5 (b:List Nat) (i:Nat):Nat:=b.getD i 0 ^^^ ((18446744073709551615 - b.getD ((i % 5+1) % 5+5*(i / 5)) 0) &&& b.getD ((i % 5+2) % 5+5*(i / 5)) 0)
def Pz (a:List Nat):List Nat:=qV fun n q=>Axh n (TP a q)
def mF (a:List Nat) (c:Nat):List Nat:=let o:=(List.range 25).map (P5 (Pz a));o.set 0 (o.getD 0 0 ^^^ c)
def VJ:List Nat:=[1,32898,9223372036854808714,9223372039002292224,32907,2147483649,9223372039002292353,9223372036854808585,138,136,2147516425,2147483658,2147516555,9223372036854775947,9223372036854808713,9223372036854808579,9223372036854808578,9223372036854775936,32778,9223372039002259466,9223372039002292353,9223372036854808704,2147483649,9223372039002292232]
def yu (a:List Nat):List Nat:=Ob (fun i a=>mF a (VJ.getD i 0)) 24 0 a
def Awx (l:List Nat):Prop:=l.length=25/\NK l
theorem VK {a:List Nat} (h:NK a) (x:Nat):AxX a x<18446744073709551616:=xlt (xlt (xlt (xlt (h.get _) (h.get _)) (h.get _)) (h.get _)) (h.get _)
theorem ZBP {a:List Nat} (h:NK a) (x:Nat):AKb a x<18446744073709551616:=xlt (VK h _) (mD (by decide) (VK h _))
theorem AMg {a:List Nat} (h:NK a) (x:Nat):TP a x<18446744073709551616:=xlt (h.get _) (ZBP h _)
theorem AW9 (q:Nat):Rn.getD q 0<64:=by
 rw [List.getD_eq_getElem?_getD];cases hx:Rn[q]? with
 | none=>decide
 | some x=>
  have h:∀ x ∈ Rn,x<64:=by decide
  exact h x (List.mem_of_getElem? hx)
theorem yx (i:Nat):VJ.getD i 0<18446744073709551616:=by
 rw [List.getD_eq_getElem?_getD];cases hx:VJ[i]? with
 | none=>decide
 | some x=>
  have h:∀ x ∈ VJ,x<18446744073709551616:=by decide
  exact h x (List.mem_of_getElem? hx)
theorem OAt {a:List Nat} (h:NK a):Awx (Pz a):=by refine ⟨by rfl,fun x hx=>?_⟩;grind [Pz,qV,mD,AW9,AMg]
theorem RBr {b:List Nat} (h:NK b) (i:Nat):P5 b i<18446744073709551616:=xlt (h.get _) (nlt (by omega))
theorem BBE {b:List Nat} (h:NK b):Awx ((List.range 25).map (P5 b)):=by refine ⟨by rfl,fun x hx=>?_⟩;grind [RBr]
theorem CBE {a:List Nat} (h:NK a) {c:Nat} (hc:c<18446744073709551616):Awx (mF a c):=by have h1:=BBE (OAt h).2;refine ⟨by rfl,h1.2.set 0 (xlt (h1.2.get _) hc)⟩
theorem DBE {a:List Nat} (h:Awx a):Awx (yu a):=by
 have:∀ j i a,Awx a->Awx (Ob (fun i a=>mF a (VJ.getD i 0)) j i a):=by
  intro j;induction j with
  | zero=>intro i a h;exact h
  | succ j ih=>intro i a h;exact ih _ _ (CBE h.2 (yx i))
 exact this 24 0 a h
theorem yt {f:Nat->Nat} {n i:Nat} (h:i<n):((List.range n).map f).getD i 0=f i:=by simp_all
theorem SBr (v:Nat->Nat):Ob (fun x o=>o.set x (v x)) 5 0 [0,0,0,0,0]=(List.range 5).map v:=by rfl
theorem TBr (v:Nat->Nat):Ob (fun x o=>Ob (fun y o=>o.set (x+5*y) (v (x+5*y))) 5 0 o) 5 0 (List.replicate 25 0)=(List.range 25).map v:=by kernel_rfl
theorem UBr (v:Nat->Nat):Ob (fun y o=>Ob (fun x o=>o.set (x+5*y) (v (x+5*y))) 5 0 o) 5 0 (List.replicate 25 0)=(List.range 25).map v:=by kernel_rfl
theorem VBr (v:Nat->Nat->Nat):Ob (fun x o=>Ob (fun y o=>o.set (y+5*((2*x+3*y) % 5)) (v (Rn.getD (x+5*y) 0) (x+5*y))) 5 0 o) 5 0 (List.replicate 25 0)=qV v:=by kernel_rfl
theorem WBr (v:Nat->Nat->Nat):(Ob (fun t (s:Nat×Nat×List Nat)=>(s.2.1,(2*s.1+3*s.2.1) % 5,s.2.2.set (s.2.1+5*((2*s.1+3*s.2.1) % 5)) (v ((t+1)*(t+2) / 2 % 64) (s.1+5*s.2.1)))) 24 0 (1,0,[v 0 0,0,0,0,0,0,0,0,0,0,0,0,0,0,0,0,0,0,0,0,0,0,0,0,0])).2.2=qV v:=by kernel_rfl
theorem wn {n:Nat} (h:n<9223372036854775807):AV (n:Int)=(n:Int):=A8 (by omega) (by omega)
theorem XBr {a b:Int} {x y:Nat} (ha:a=(x:Int)) (hb:b=(y:Int)) (hx:x<18446744073709551616) (hy:y<18446744073709551616):wu64 (((BitVec.toNat ((BitVec.ofInt (IntKind.bits IntKind.u64) a) ^^^ (BitVec.ofInt (IntKind.bits IntKind.u64) b))):Nat):Int)=((x ^^^ y:Nat):Int):=by grind [Py]
theorem BBQ {v:List Nat} {i n:Nat} (h:v.length=5):(v.set i n).length=5:=by simp_all
theorem dY {v:List Nat} {i n:Nat} (h:v.length=25):(v.set i n).length=25:=by simp_all
theorem CBQ (v:Nat->Nat):∀ (t pre:List Nat),Ob (fun i o=>o.set i (v i)) t.length pre.length (pre++t)=pre++(List.range' pre.length t.length).map v
 | [],pre=>by rfl
 | x::t,pre=>by
  have e:(pre++x::t).set pre.length (v pre.length)=(pre++[v pre.length])++t:=by simp
  have ih:=CBQ v t (pre++[v pre.length]);rw [List.length_append,List.length_singleton] at ih;rw [List.length_cons,Ob,e,ih,List.range'_succ,List.map_cons,List.append_assoc];rfl
theorem xM {v:Nat->Nat} {l:List Nat} {n:Nat} (h:l.length=n):Ob (fun i o=>o.set i (v i)) n 0 l=(List.range n).map v:=by have:=CBQ v l [];simp_all [List.range_eq_range']
def Ay7 (s:AA) (i:Nat):Nat:=if h:i<s.size then (s[i]'h).toNat else 0
theorem RU (s:AA) (i:Nat):bt s (i:Int)=((Ay7 s i:Nat):Int):=by grind [bt,Ay7]
theorem XB (s:AA) (i:Nat):Ay7 s i<256:=by grind [Ay7,UInt8.toNat_lt]
def Px (g:Nat->Nat) (k:Nat):Nat:=Ob (fun j x=>x*256+g (8*k+(7 - j))) 8 0 0
theorem PAt (g:Nat->Nat) (k:Nat):Px g k=g (8*k)+256*g (8*k+1)+65536*g (8*k+2)+16777216*g (8*k+3)+4294967296*g (8*k+4)+1099511627776*g (8*k+5)+281474976710656*g (8*k+6)+72057594037927936*g (8*k+7):=by have h:Px g k=(((((((0*256+g (8*k+7))*256+g (8*k+6))*256+g (8*k+5))*256+g (8*k+4))*256+g (8*k+3))*256+g (8*k+2))*256+g (8*k+1))*256+g (8*k):=rfl;omega
theorem EBE {g:Nat->Nat} (hg:∀ i,g i<256) (k:Nat):Px g k<18446744073709551616:=by grind [PAt]
theorem YBr {x y b c:Nat} (hb:b<256) (hc:c<256):(x*256+b) ^^^ (y*256+c)=(x ^^^ y)*256+(b ^^^ c):=by
 have h1:((x*256+b) ^^^ (y*256+c)) % 2 ^ 8=b ^^^ c:=by rw [Nat.xor_mod_two_pow];grind
 have h2:((x*256+b) ^^^ (y*256+c)) / 2 ^ 8=x ^^^ y:=by rw [Nat.xor_div_two_pow];grind
 omega
theorem ZBr {g h:Nat->Nat} (hg:∀ i,g i<256) (hh:∀ i,h i<256) (k:Nat):Px (fun i=>g i ^^^ h i) k=Px g k ^^^ Px h k:=by
 have key:∀ j i x y,Ob (fun j x=>x*256+(g (8*k+(7 - j)) ^^^ h (8*k+(7 - j)))) j i (x ^^^ y)=Ob (fun j x=>x*256+g (8*k+(7 - j))) j i x ^^^ Ob (fun j x=>x*256+h (8*k+(7 - j))) j i y:=by intro j;induction j<;>grind [Ob,YBr]
 exact key 8 0 0 0
theorem FBE {g h:Nat->Nat} {k:Nat} (e:∀ i,i<8->g (8*k+i)=h (8*k+i)):Px g k=Px h k:=by have e0:=e 0 (by omega);simp_all [PAt]
def VL (a:List Nat) (p:Nat):Nat:=a.getD (p / 8) 0 / 2 ^ (8*(p % 8)) % 256
def P6 (a:List Nat):List Nat:=(List.range 200).map (VL a)
theorem DBQ (a:List Nat) (p:Nat):VL a p<256:=Nat.mod_lt _ (by decide)
theorem EBQ {a:List Nat} (ha:NK a) (k:Nat):Px (VL a) k=a.getD k 0:=by
 have hk:=ha.get k;have d:∀ j,j<8->VL a (8*k+j)=a.getD k 0 / 2 ^ (8*j) % 256:=fun j hj=>by grind [VL]
 have d0:=d 0 (by omega);grind [PAt]
def Ll (g:Nat->Nat) (n:Nat):List Nat:=(List.range n).map (Px g)
theorem FBQ {g:Nat->Nat} (hg:∀ i,g i<256):Awx (Ll g 25):=by refine ⟨by rfl,fun x hx=>?_⟩;grind [Ll,EBE]
theorem AhV {g:Nat->Nat} (hg:∀ i,g i<256) (n:Nat):NK (Ll g n):=fun x hx=>by grind [Ll,EBE]
theorem QAt {l:List Nat} (hl:∀ x ∈ l,x<256) {i:Nat} (hi:i<l.length):Ay7 (ofBytes (up l)) i=l.getD i 0:=by grind [ofBytes,up,Dj,Ay7,List.getElem_mem,ByteArray.getElem_eq_getElem_data,UInt8.toNat_ofNat']
theorem RAt {a b:List Nat} (ha:a.length=b.length) (h:∀ k,k<b.length->a.getD k 0=b.getD k 0):a=b:=by grind [List.ext_getElem]
theorem mO (v:Nat->Nat):∀ (j i:Nat) (o:List Nat),Ob (fun i o=>o++[v i]) j i o=o++(List.range' i j).map v
 | 0,i,o=>by simp [Ob]
 | j+1,i,o=>by rw [Ob,mO v j (i+1),List.range'_succ,List.map_cons,List.append_assoc];rfl
theorem yg (v:Nat->Nat) (n:Nat):Ob (fun i o=>o++[v i]) n 0 []=(List.range n).map v:=by simp [mO,List.range_eq_range']
def bg (s:AA):AA:=ofBytes (up (P6 (yu (Ll (Ay7 s) 25))))
theorem CBs (a:List Nat):(P6 a).length=200:=by rfl
theorem GBQ (a:List Nat):∀ x ∈ P6 a,x<256:=fun x hx=>by grind [P6,DBQ]
theorem HBQ (s:AA):(bg s).size=200:=by rfl
def AyN (s:AA):List Nat:=s.data.toList.map fun b=>b.toNat
theorem dn (s:AA):bytesOf s=up (AyN s):=by simp [bytesOf,up,AyN]
theorem DBs (s:AA):∀ x ∈ AyN s,x<256:=fun x hx=>by grind [AyN,UInt8.toNat_lt]
theorem dh (s:AA):(AyN s).length=s.size:=by simp [AyN]
theorem EBs {l:List Nat} (h:∀ x ∈ l,x<256):AyN (ofBytes (up l))=l:=by
 simp only [AyN,ofBytes,up,List.map_map,List.toList_toArray];conv=>rhs;rw [<-List.map_id l]
 grind [List.map_congr_left,UInt8.toNat_ofNat']
def LJ (l:List Nat):List Nat:=l++(List.range' 0 ((168 - l.length % 168) % 168)).map fun _=>0
theorem GBE (l:List Nat):(LJ l).length=l.length+(168 - l.length % 168) % 168:=by simp [LJ]
def Av6 (s:AA) (f:Nat):List Nat:=let l:=LJ (AyN s++[f]);l.set (l.length - 1) (l.getD (l.length - 1) 0 ^^^ 128)
theorem HBE {l:List Nat} (h:∀ x ∈ l,x<256):∀ x ∈ LJ l,x<256:=fun x hx=>by grind [LJ]
def B8 (l:List Nat):Prop:=∀ x ∈ l,x<256
theorem B8.get {l:List Nat} (h:B8 l) (i:Nat):l.getD i 0<256:=by
 rw [List.getD_eq_getElem?_getD];cases hx:l[i]? with
 | none=>decide
 | some x=>exact h x (List.mem_of_getElem? hx)
theorem B8.set {l:List Nat} (h:B8 l) (i:Nat) {n:Nat} (hn:n<256):B8 (l.set i n):=fun x hx=>by
 rcases List.mem_or_eq_of_mem_set hx with h1 | rfl
 ·exact h x h1
 omega
theorem IBE {a b:Nat} (ha:a<256) (hb:b<256):a ^^^ b<256:=Nat.xor_lt_two_pow (n:=8) ha hb
theorem JBE (s:AA) {f:Nat} (hf:f<256):B8 (AyN s++[f]):=fun x hx=>by
 rw [List.mem_append,List.mem_singleton] at hx;rcases hx with h1 | rfl
 ·exact DBs s x h1
 omega
theorem IBQ (s:AA) {f:Nat} (hf:f<256):B8 (Av6 s f):=by have h:B8 (LJ (AyN s++[f])):=HBE (JBE s hf);exact h.set _ (IBE (h.get _) (by decide))
theorem JBQ (s:AA) (f:Nat):∃ q,(Av6 s f).length=168*q/\168*q<=s.size+168:=by have h:(Av6 s f).length=(LJ (AyN s++[f])).length:=List.length_set;rw [GBE,List.length_append,List.length_singleton,dh] at h;exact ⟨(s.size+1+(168 - (s.size+1) % 168) % 168) / 168,by omega,by omega⟩
def dZ (st:List Nat) (g:Nat->Nat):List Nat:=(List.range 25).map fun k=>if k<21 then st.getD k 0 ^^^ Px g k else st.getD k 0
theorem KBQ {st:List Nat} (h:Awx st) {g:Nat->Nat} (hg:∀ i,g i<256):Awx (dZ st g):=by
 refine ⟨by rfl,fun x hx=>?_⟩;rw [dZ,List.mem_map] at hx;obtain ⟨k,_,rfl⟩:=hx
 split;·exact xlt (h.2.get _) (EBE hg k)
 ·exact h.2.get _
def mQ (b:List Nat) (p:Nat) (st:List Nat):List Nat:=yu (dZ st fun i=>b.getD (168*p+i) 0)
def mV (s:AA) (f:Nat):List Nat:=Ob (mQ (Av6 s f)) ((Av6 s f).length / 168) 0 (List.replicate 25 0)
def mP (s:AA) (f:Nat):AA:=ofBytes (up (P6 (mV s f)))
theorem FBs (s:AA) (f:Nat):(mP s f).size=200:=by rfl
theorem KBE:Awx (List.replicate 25 0):=⟨List.length_replicate,YBP 25⟩
theorem bv8 {n:Nat} (h:n<256):(BitVec.ofInt (IntKind.bits IntKind.u8) (n:Int)).toNat=n:=by show (BitVec.ofInt 8 (n:Int)).toNat=n;simp_all
theorem x8 {a b:Nat} (ha:a<256) (hb:b<256):w8 (((BitVec.toNat ((BitVec.ofInt (IntKind.bits IntKind.u8) (a:Int)) ^^^ (BitVec.ofInt (IntKind.bits IntKind.u8) (b:Int)))):Nat):Int)=((a ^^^ b:Nat):Int):=by grind [IBE,bv8,Nq]
theorem SAt {A:Type} {f:Nat->A->A} {P:A->Prop} (h:∀ i a,P a->P (f i a)):∀ j i a,P a->P (Ob f j i a)
 | 0,_,_,hp=>hp
 | j+1,i,a,hp=>SAt h j (i+1) _ (h i a hp)
theorem LBE {b:List Nat} (hb:B8 b) {p:Nat} {st:List Nat} (h:Awx st):Awx (mQ b p st):=DBE (KBQ h fun _=>hb.get _)
theorem getD_set_ne {l:List Nat} {i k n:Nat} (h:k≠i):(l.set i n).getD k 0=l.getD k 0:=by grind
theorem AwO (l:List Nat) (n:Nat):up l++[(n:Int)]=up (l++[n]):=by simp [up]
def I9 (S:AA):Nat->AA
 | 0=>S
 | n+1=>bg (I9 S n)
theorem bf {S:AA} (h:S.size=200):∀ n,(I9 S n).size=200
 | 0=>h
 | _+1=>HBQ _
def strm (S:AA) (k:Nat):Nat:=Ay7 (I9 S (k / 168)) (k % 168)
theorem dH (S:AA) (k:Nat):strm S k<256:=XB _ _
def NH (S:AA) (p:Nat) (x:F6):Prop:=∃ q a:Nat,x=⟨I9 S q,(a:Int)⟩/\168*q+a=p/\a<=168
def Axe (S:AA) (p n:Nat):List Nat:=(List.range' p n).map (strm S)
theorem GBs (S:AA) (p n:Nat):B8 (Axe S p n):=fun x hx=>by grind [Axe,dH]
theorem TAt (S:AA) (p n:Nat):(Axe S p n).length=n:=by simp [Axe]
theorem MBQ (S:AA) (p a b:Nat):Axe S p a++Axe S (p+a) b=Axe S p (a+b):=by grind [Axe,List.range'_append_1]
theorem HBs (s:AA) (i:Nat):(AyN s).getD i 0=Ay7 s i:=by
 unfold Ay7;split;·rename_i h;rw [getD_at (by simp_all [dh])];simp only [AyN,List.getElem_map,Array.getElem_toList];rfl
 simp_all [dh]
theorem IBs (s:AA):ofBytes (up (AyN s))=s:=by apply ByteArray.ext;grind [ofBytes,up,AyN,UInt8.ofNat_toNat]
theorem JBs (a b:List Nat):ofBytes (up a)++ofBytes (up b)=ofBytes (up (a++b)):=by apply ByteArray.ext;simp [ofBytes,up]
theorem chunk {S:AA} (hS:S.size=200) {q a k:Nat} (h:a+k<=168):AyN ((I9 S q).extract a (a+k))=Axe S (168*q+a) k:=by
 have hz:=bf hS q;have hlen:(AyN ((I9 S q).extract a (a+k))).length=k:=by grind [dh,ByteArray.size_extract]
 refine RAt (by grind [TAt]) fun i hi=>?_
 grind [HBs,Axe,List.length_map,strm,Ay7,ByteArray.size_extract,ByteArray.getElem_extract]
def sd (s:AA):AA:=mP s 31
theorem UAt (s:AA):(sd s).size=200:=FBs _ _
theorem VAt (s:AA):NH (sd s) 0 ⟨sd s,0⟩:=⟨0,0,rfl,rfl,by omega⟩
theorem and1 {n:Nat} (h:n<9223372036854775808):AV (((BitVec.toNat ((BitVec.ofInt (IntKind.bits IntKind.i64) (n:Int)) &&& (BitVec.ofInt (IntKind.bits IntKind.i64) 1))):Nat):Int)=((n % 2:Nat):Int):=by grind [IntKind.bits,wn]
def Vb (l:List Nat):Prop:=l.length=256/\∀ x ∈ l,x<3329
theorem Vb.get {l:List Nat} (h:Vb l) (i:Nat):l.getD i 0<3329:=by
 rw [List.getD_eq_getElem?_getD];cases hx:l[i]? with
 | none=>decide
 | some x=>exact h.2 x (List.mem_of_getElem? hx)
theorem Vb.set {l:List Nat} (h:Vb l) (i:Nat) {n:Nat} (hn:n<3329):Vb (l.set i n):=⟨by rw [List.length_set,h.1],fun x hx=>by
 rcases List.mem_or_eq_of_mem_set hx with h1 | rfl
 ·exact h.2 x h1
 omega⟩
theorem MBE {f:Nat->Nat} (h:∀ i,f i<3329):Vb ((List.range 256).map f):=⟨by rw [List.length_map,List.length_range],fun x hx=>by
 grind⟩
def Yj (b:Nat):Nat:=(b % 2+b / 2 % 2+3329 - b / 4 % 2 - b / 8 % 2) % 3329
def NBQ (s:AA):List Nat:=(List.range 256).map fun i=>Yj (Ay7 s (i / 2) / 2 ^ (4*(i % 2)))
theorem KBs (s:AA):Vb (NBQ s):=MBE fun i=>Nat.mod_lt _ (by decide)
def Awl (n:Nat):AA:=ofBytes [(n:Int)]
def LG (seed:AA) (n:Nat):List Nat:=NBQ (ofBytes (up (Axe (sd (seed++Awl n)) 0 128)))
theorem kW (seed:AA) (n:Nat):Vb (LG seed n):=KBs _
def Yl:Nat->Nat->Nat->Nat->Nat
 | 0,_,_,o=>o
 | k+1,b,e,o=>if e=0 then o else Yl k (b*b % 3329) (e / 2) (if e % 2=1 then o*b % 3329 else o)
def Yk (e:Nat):Nat:=Yl 10 17 e 1
theorem OBQ:∀ (k b e o:Nat),o<3329->Yl k b e o<3329
 | 0,_,_,_,h=>h
 | k+1,b,e,o,h=>by
  rw [Yl];split;·exact h
  ·refine OBQ k _ _ _ ?_;split;·exact Nat.mod_lt _ (by decide)
   ·exact h
theorem WAt (e:Nat):Yk e<3329:=OBQ _ _ _ _ (by decide)
theorem dA {a b:Nat} (ha:a<3329) (hb:b<3329):(AV ((a:Int)*(b:Int))).tmod 3329=((a*b % 3329:Nat):Int):=by have h:a*b<3329*3329:=Nat.mul_lt_mul'' ha hb;rw [show (a:Int)*(b:Int)=((a*b:Nat):Int) from (Int.natCast_mul a b).symm,wn (by omega)];rfl
def t7 (n:Nat):Nat:=Ob (fun i o=>2*o+n / 2 ^ i % 2) 7 0 0
theorem XAt (n:Nat):t7 n<128:=by
 have h:∀ j i o,o<2 ^ i->Ob (fun i o=>2*o+n / 2 ^ i % 2) j i o<2 ^ (i+j):=by intro j;induction j<;>grind [Ob]
 exact h 7 0 0 (by decide)
def kR (z size j:Nat) (o:List Nat):List Nat:=(o.set (j+size) ((o.getD j 0+3329 - z*o.getD (j+size) 0 % 3329) % 3329)).set j ((o.getD j 0+z*o.getD (j+size) 0 % 3329) % 3329)
theorem NBE {o:List Nat} (h:Vb o) (z size j:Nat):Vb (kR z size j o):=(h.set _ (Nat.mod_lt _ (by decide))).set _ (Nat.mod_lt _ (by decide))
def YAt (k0 size i:Nat) (o:List Nat):List Nat:=Ob (fun j o=>kR (Yk (t7 (k0+i))) size (2*size*i+j) o) size 0 o
def VF (k0 size c:Nat) (o:List Nat):List Nat:=Ob (YAt k0 size) c 0 o
theorem OBE {o:List Nat} (h:Vb o) (k0 size i:Nat):Vb (YAt k0 size i o):=SAt (P:=Vb) (fun _ _ h=>NBE h _ _ _) _ _ _ h
theorem AzQ {o:List Nat} (h:Vb o) (k0 size c:Nat):Vb (VF k0 size c o):=SAt (P:=Vb) (fun _ _ h=>OBE h _ _ _) _ _ _ h
def kQ (o:List Nat):List Nat:=VF 64 2 64 (VF 32 4 32 (VF 16 8 16 (VF 8 16 8 (VF 4 32 4 (VF 2 64 2 (VF 1 128 1 o))))))
theorem LBs {o:List Nat} (h:Vb o):Vb (kQ o):=AzQ (AzQ (AzQ (AzQ (AzQ (AzQ (AzQ h _ _ _) _ _ _) _ _ _) _ _ _) _ _ _) _ _ _) _ _ _
def Aw6 (a b:List Nat) (p:Nat):Nat:=if p % 2=0 then (a.getD p 0*b.getD p 0+a.getD (p+1) 0*b.getD (p+1) 0 % 3329*Yk (2*t7 (p / 2)+1)) % 3329 else (a.getD (p - 1) 0*b.getD p 0+a.getD p 0*b.getD (p - 1) 0) % 3329
def mulL (a b:List Nat):List Nat:=(List.range 256).map (Aw6 a b)
theorem MBs (a b:List Nat) (p:Nat):Aw6 a b p<3329:=by grind [Aw6]
theorem ZAt (a b:List Nat):Vb (mulL a b):=MBE fun _=>MBs _ _ _
theorem PBQ (a b:List Nat) (i:Nat):Aw6 a b (2*i)=(a.getD (2*i) 0*b.getD (2*i) 0+a.getD (2*i+1) 0*b.getD (2*i+1) 0 % 3329*Yk (2*t7 i+1)) % 3329:=by simp [Aw6]
theorem QBQ (a b:List Nat) (i:Nat):Aw6 a b (2*i+1)=(a.getD (2*i) 0*b.getD (2*i+1) 0+a.getD (2*i+1) 0*b.getD (2*i) 0) % 3329:=by simp [Aw6]
theorem RBQ (v:Nat->Nat):∀ (j i:Nat) (o:List Nat),Ob (fun i o=>(o.set (2*i) (v (2*i))).set (2*i+1) (v (2*i+1))) j i o=Ob (fun p o=>o.set p (v p)) (2*j) (2*i) o
 | 0,_,_=>rfl
 | j+1,i,o=>by rw [Ob,RBQ v j (i+1),show 2*(j+1)=2*j+1+1 by omega,Ob,Ob];rfl
theorem SBQ (v:Nat->Nat):∀ (j i:Nat) (o:List Nat),Ob (fun i o=>o++[v (2*i),v (2*i+1)]) j i o=Ob (fun p o=>o++[v p]) (2*j) (2*i) o
 | 0,_,_=>rfl
 | j+1,i,o=>by rw [Ob,SBQ v j (i+1),show 2*(j+1)=2*j+1+1 by omega,Ob,Ob,List.append_assoc];rfl
theorem Yn {a b:Nat} (ha:a<3329) (hb:b<3329):AV ((a:Int)*(b:Int))=((a*b:Nat):Int):=by have h:a*b<3329*3329:=Nat.mul_lt_mul'' ha hb;rw [show (a:Int)*(b:Int)=((a*b:Nat):Int) from (Int.natCast_mul _ _).symm,wn (by omega)]
theorem mul_lt {a b:Nat} (ha:a<3329) (hb:b<3329):a*b<11082241:=Nat.mul_lt_mul'' ha hb
def dJ (a b:List Nat):List Nat:=(List.range 256).map fun i=>(a.getD i 0+b.getD i 0) % 3329
theorem AFL (a b:List Nat):Vb (dJ a b):=MBE fun _=>Nat.mod_lt _ (by decide)
def BAu (a0 a1 b0 b1:List Nat):List Nat:=dJ (dJ (List.replicate 256 0) (mulL a0 b0)) (mulL a1 b1)
theorem TBQ (a0 a1 b0 b1:List Nat):Vb (BAu a0 a1 b0 b1):=AFL _ _
theorem UBQ:Vb (List.replicate 256 0):=⟨List.length_replicate,fun x hx=>by grind⟩
def AwR (S:AA) (k:Nat):Nat:=strm S (3*k)+256*(strm S (3*k+1) % 16)
def Lm (S:AA) (k:Nat):Nat:=strm S (3*k+1) / 16+16*strm S (3*k+2)
def RV (x:Nat) (o:List Nat):List Nat:=if x<3329/\o.length<256 then o++[x] else o
def Azd (S:AA) (k:Nat) (o:List Nat):List Nat:=RV (Lm S k) (RV (AwR S k) o)
def Ym (S:AA):Nat->Nat->List Nat->List Nat
 | 0,_,o=>o
 | j+1,k,o=>if o.length<256 then Ym S j (k+1) (Azd S k o) else o
def Jd (o:List Nat):List Nat:=o++List.replicate (256 - o.length) 0
def UQ (o:List Nat):Prop:=o.length<=256/\∀ x ∈ o,x<3329
theorem VBQ {x:Nat} {o:List Nat} (h:UQ o):UQ (RV x o):=by
 rw [RV];split
 ·rename_i hc;refine ⟨by grind,fun y hy=>?_⟩;rw [List.mem_append,List.mem_singleton] at hy;rcases hy with h1 | rfl
  ·exact h.2 y h1
  omega
 omega
theorem VG {S:AA} {k:Nat} {o:List Nat} (h:UQ o):UQ (Azd S k o):=VBQ (VBQ h)
theorem WBQ (S:AA):∀ (j k:Nat) (o:List Nat),UQ o->UQ (Ym S j k o)
 | 0,_,_,h=>h
 | j+1,k,o,h=>by
  rw [Ym];split;·exact WBQ S j (k+1) _ (VG h)
  ·exact h
theorem NBs {o:List Nat} (h:UQ o):Vb (Jd o):=⟨by rw [Jd,List.length_append,List.length_replicate];have:=h.1;omega,fun x hx=>by
 rw [Jd,List.mem_append] at hx;rcases hx with h1 | h1
 ·exact h.2 x h1
 grind⟩
theorem OBs {o:List Nat} {x:Nat} (h:o.length<256):(Jd o).set o.length x=Jd (o++[x]):=by rw [Jd,Jd,List.set_append_right _ _ (Nat.le_refl _),Nat.sub_self,show 256 - o.length=(256 - (o++[x]).length)+1 by grind,List.replicate_succ,List.append_assoc];rfl
def IE (seed:AA) (i j:Nat):List Nat:=Jd (Ym (sd ((seed++Awl i)++Awl j)) 4000 0 [])
theorem CAu (seed:AA) (i j:Nat):Vb (IE seed i j):=NBs (WBQ _ _ _ _ ⟨DJ _,fun _ h=>by cases h⟩)
theorem XC (S:AA) {p n i:Nat} (h:i<n):Ay7 (ofBytes (up (Axe S p n))) i=strm S (p+i):=by rw [QAt (GBs S p n) (by simp_all [TAt]),Axe,getD_at (by simp_all),List.getElem_map,List.getElem_range',Nat.one_mul]
def Qj (l:List Nat) (p:Nat):Nat:=if p % 3=0 then l.getD (2*(p / 3)) 0 % 256 else if p % 3=1 then l.getD (2*(p / 3)) 0 / 256+l.getD (2*(p / 3)+1) 0 % 16*16 else l.getD (2*(p / 3)+1) 0 / 16
def NI (l:List Nat):AA:=ofBytes (up ((List.range 384).map (Qj l)))
theorem RY (l:List Nat):(NI l).size=384:=by rw [NI,Dj,D7,List.length_map,List.length_range]
theorem XBQ (l:List Nat) (q:Nat):Qj l (3*q)=l.getD (2*q) 0 % 256:=by simp [Qj]
theorem YBQ (l:List Nat) (q:Nat):Qj l (3*q+1)=l.getD (2*q) 0 / 256+l.getD (2*q+1) 0 % 16*16:=by grind [Qj]
theorem ZBQ (l:List Nat) (q:Nat):Qj l (3*q+2)=l.getD (2*q+1) 0 / 16:=by grind [Qj]
theorem AXK (v:Nat->Nat):∀ (j i:Nat) (o:List Nat),Ob (fun i o=>o++[v (3*i)]++[v (3*i+1)]++[v (3*i+2)]) j i o=Ob (fun p o=>o++[v p]) (3*j) (3*i) o
 | 0,_,_=>rfl
 | j+1,i,o=>by rw [Ob,AXK v j (i+1),show 3*(j+1)=3*j+1+1+1 by omega,Ob,Ob,Ob];rfl
def Axm (seed:AA):AA:=Ed (Ed seed++⟨#[114]⟩)
def Sj (seed:AA):AA:=Ed (Ed seed++⟨#[115]⟩)
def pS (seed:AA) (i:Nat):List Nat:=kQ (LG (Sj seed) i)
theorem Yq (seed:AA) (i:Nat):Vb (pS seed i):=LBs (kW _ _)
def dL (seed:AA) (i:Nat):List Nat:=BAu (IE (Axm seed) 0 i) (IE (Axm seed) 1 i) (pS seed 0) (pS seed 1)
def pT (seed:AA) (i:Nat):List Nat:=dJ (dL seed i) (pS seed (2+i))
theorem BBR (seed:AA) (i:Nat):Vb (pT seed i):=AFL _ _
def RX (seed:AA):AA:=((⟨#[]⟩++NI (pT seed 0))++NI (pT seed 1))++Axm seed
def AwC (seed:AA):AA:=(((⟨#[]⟩++NI (pS seed 0))++NI (pS seed 1))++RX seed++Ed (RX seed))++Ed (Ed seed++⟨#[122]⟩)
theorem CBR (seed:AA):(RX seed).size=800:=by have h:(⟨#[]⟩:AA).size=0:=rfl;simp_all [RX,RY,Axm,AxT]
noncomputable def xg (x:Af):AA:=bif AwH x then (bif x.Aj == 1 then RX x.fValue else bif x.Aj == 2 then AxD (x.fValue++⟨#[116]⟩) else ⟨#[]⟩) else ⟨#[]⟩
theorem bV {x:Af} (h:AwH x=true) (hk:x.Aj=1\/x.Aj=2):x.fValue.size=32:=by grind [AwH]
def VH (n:Int):AA:=ofBytes (NAt n.toNat)
theorem DBR:∀ (k n:Nat),(qU k n).length<=k
 | 0,_=>Nat.le_refl _
 | k+1,n=>by
  rw [qU];split;·exact DJ _
  ·rw [List.length_append,List.length_singleton];have:=DBR k (n / 10);omega
theorem EBR (n:Int):(VH n).size<=20:=by grind [VH,Dj,NAt,DBR]
noncomputable def fV (t:AA):Af×Bool:=(V7 t).getD (ZM,false)
theorem PBE {t:AA} (h:t.size<=140737488351232):V7 t=some (fV t)/\Xh t=some (fV t)/\GAs t (fV t):=by grind [XBo,fV]
theorem QBE (k t:AA):(Ax7 k t).1.size<=400:=by
 unfold Ax7;cases (Ee k 0 t).2;·exact DJ _
 cases (Ri (Ee k 0 t).1 0).2.2;·exact DJ _
 by_cases h3:((Ri (Ee k 0 t).1 0).1.size:Int) > 400;·rw [Ba h3];exact DJ _
 ·rw [D6 h3];cases Rj (bs (Ri (Ee k 0 t).1 0).1) == bs (Ee k 0 t).1;·exact DJ _
  grind
def Ld (b:Ap):AA:=Ed (⟨#[111,117,116]⟩++b.BO)
def FBR (x:Af):Af:=⟨0,x.Aj,x.CY,x.CX,false,x.GH,x.fValue,0⟩
def kH (n:Int):Ah:=⟨4,⟨#[]⟩,n,⟨0,0,false,false,false,false,⟨#[]⟩,0⟩⟩
abbrev PT:=List Ah×Int×AA
def Yw (b:Ap) (c:CV) (x:Af) (ok:Bool):PT:=
 bif !ok then AzK 6 else bif decide ((b.AU.AZ.length:Int)>=8) then AzK 1 else bif decide (b.AU.BM>=1000) then AzK 1 else ([AyG (newX b c x)],0,VH (b.AU.BM+1))
def DAu (b:Ap) (c:CV):Af×Bool:=defaults c.Aj (bif c.Aj == 2 then VH (b.AU.BM+1)++⟨#[32]⟩++c.fText else c.fText)
noncomputable def inX (b:Ap) (c:CV):Af×Bool:=fV (Ax7 (Ld b) c.fText).1
def FAu (b:Ap) (c:CV):PT:=Yw b c (DAu b c).1 (DAu b c).2
noncomputable def yG (b:Ap) (c:CV):PT:=Yw b c (FBR (inX b c).1) ((Ax7 (Ld b) c.fText).2 && (inX b c).2)
def Yg (b:Ap) (c:CV) (x:Af):PT:=
 bif decide (DY b x>=16) then AzK 1 else (bif DY b x != x.fNext then [] else [AyG (Aw8 x)],0,MAt (Ayc x.fValue (DY b x) c.fText))
noncomputable def XA (tk:AA->AA×Bool) (b:Ap) (c:CV) (x:Af):PT:=
 bif c.Au == 6 then (bif AwF x 1 then ([],0,x.fValue) else AzK 8)
 else bif c.Au == 5 then (bif AwF x 3 then Yg b c x else AzK 8)
 else bif c.Au == 10 then (bif AwF x 2 then ([],0,(lI (Ld b) (IV x).1).1) else AzK 8)
 else bif c.Au == 12 then (bif AwF x 4 then (bif !(tk (AwC x.fValue)).2 then AzK 6 else ([],0,(tk (AwC x.fValue)).1)) else AzK 8)
 else bif c.Au == 8 then (bif (Axs x c.CY c.CX).2 then ([AyG (Axs x c.CY c.CX).1],0,⟨#[]⟩) else AzK 8)
 else bif c.Au == 7 then ([],0,xg x)
 else bif c.Au == 9 then ([kH x.fId],0,⟨#[]⟩) else AzK 8
noncomputable def Ib (tk:AA->AA×Bool) (b:Ap) (c:CV):PT:=
 bif c.Au == 1 then (bif decide ((b.BP.length:Int)>=3) then AzK 1 else bif decide (b.CW>=1000) then AzK 1 else ([],0,VH (b.CW+1)))
 else bif decide (Av3 b c.EJ<0) then AzK 2
 else bif c.Au == 13 then ([],0,⟨#[]⟩)
 else bif c.Au == 2 then lD b c
 else bif !(b.BP.getD (Av3 b c.EJ).toNat ⟨0,false⟩).QW then AzK 5
 else bif c.Au == 3 then (bif decide ((c.fText.size:Int) > 20) then AzK 6 else ([Ayq c.fText],0,⟨#[]⟩))
 else bif c.Au == 4 then FAu b c
 else bif c.Au == 11 then yG b c
 else match AwV b.AU.AZ c.Ag with
  | none=>AzK 7
  | some x=>XA tk b c x
structure PB (b:Ap):Prop where
 key:b.BO.size=32
 J7:Ia b.AU=true
 Nu:b.BP.length<=3
 opn:0<=b.CW/\b.CW<=1000
 MC:XF b=true
 lln:b.BD.length<=140737488351232
theorem PB.things {b:Ap} (h:PB b):b.AU.AZ.length<=8:=(Ax0.1 h.J7).2.2.2.1
theorem PB.last {b:Ap} (h:PB b):0<=b.AU.BM/\b.AU.BM<=1000:=(Ax0.1 h.J7).2.2.2.2.1
theorem Good.pb {k:AA} {l:List Ah} {b:Ap} (g:Good k l b):PB b:=⟨by rw [g.key,g.Io],g.J7,g.Nu.1,g.opn,g.MC.1,by have:=g.MC.2;omega⟩
theorem GBR {t:Int}:∀ {ls:List CS} {i j:Nat},Ax4 ls t i=some j->(ls.getD (j - i) ⟨0,0⟩).fId=t:=by
 intro ls;induction ls with
 | nil=>intro i j h;cases h
 | cons f fs ih=>
  intro i j h;rw [Ax4] at h;split at h;·simp_all
  ·have h2:=ih h;have h3:=(kF h).1;grind
theorem GAu {b:Ap} {x:Af} (h:XF b=true) (hx:AwV b.AU.AZ x.fId=some x) (hn:0<=x.fNext):0<=DY b x/\DY b x<=x.fNext:=by
 rw [DY];cases hp:Ax4 b.BD x.fId 0 with
 | none=>simp_all
 | some j=>
  have h1:=kF hp;have h2:=GBR hp;have h3:=RBO h j h1.1 h1.2;simp_all [Vt,Na]
theorem AxY {xs:List Af} {t:Int} {x:Af} (h:AwV xs t=some x):x.fId=t/\x ∈ xs:=by grind [AwV]
theorem HAu {x:Af} (h:AwF x 3=true):AwH x=true/\x.Aj=2/\x.Gw=true:=by grind [AwF,AwH]
theorem HBR {x:Af} (h:AwF x 4=true):AwH x=true/\x.Aj=1:=by grind [AwF,AwH]
theorem RBE {b:Ap} (h:b.BO.size=32):fZ b=some (Ld b):=by have h3:(⟨#[111,117,116]⟩:AA).size=3:=rfl;rw [fZ,VAy,mk,IK (by simp_all),ML (by simp_all)];rfl
theorem SBE {k s:AA} (hk:k.size<=900000000):gB k s=some (lI k s):=by
 rw [gB,XAy,mk,lI];by_cases h:400<s.size;·grind
 ·have h2:=XBD (l:=bs s) (by grind [bs_len]);have hl:=bs_len s;have h1:=KX (n:=(s.size:Int)) (by omega);have hz:(ofBytes (SN (s.size:Int))++s).size=(SN (s.size:Int)++bs s).length:=by simp_all [Dj]
  have hlen:(SN (s.size:Int)++bs s).length=(SN (s.size:Int)).length+s.size:=by simp_all
  rw [TT (by grind),TT (by grind),V8 (by omega),AP,IK (by grind),IK (by grind)];rw [pW,Hr,Oa (V6 (by omega))];generalize hb:SN (s.size:Int)++bs s=B at hz hlen;have key:∀ (j i m:Nat),i+j=(16 - B.length % 16) % 16->qW (m+j+1) (.c0 k (B++List.replicate i 0))=some (Axf k 0 (ofBytes (Rj (bs s)))):=by
   intro j;induction j with
   | zero=>
    grind [Rj,qW,DAl,NBM,Dj]
   | succ j ih=>
    intro i m hi;have e:(B++List.replicate i (0:Int))++[0]=B++List.replicate (i+1) 0:=by simp [List.replicate_succ']
    grind [qW,DAl]
  obtain ⟨m,hm⟩:∃ m,AY=m+(16 - B.length % 16) % 16+1:=⟨AY - ((16 - B.length % 16) % 16+1),by have:=FM (n:=(16 - B.length % 16) % 16+1) (by omega);omega⟩
  have h0:=key ((16 - B.length % 16) % 16) 0 m (by omega);simp_all
def ku (c:CV):Bool:=(c.Au == 0) && ((c.EJ == 0) && ((c.Ag == 0) && ((c.Aj == 0) && (((ByteArray.toList c.fText) == (ByteArray.toList (⟨#[]⟩:AA))) && ((c.CY == false) && ((c.CX == false) && true))))))
theorem PBs (c:CV):KBA c=some (ku c):=rfl
def UW (e:DW):Bool:=decide ((e.Lc.length:Int)<=30) && (AyI e.BA || (e.JY && ku e.BA))
theorem QBs (e:DW):LAf e=some (UW e):=by simp only [LAf,LBA,mk,PBq,PBs,AP,UW];grind
theorem IAi {d:BU} (h:d.Ak.length*40<=140737488355328):V9 d=some d:=by rw [V9,TA4,mk,IK (by rw [decide_eq_true_eq];exact h)]
theorem RBs {b:Ap} (hd:b.Bc.Ak.length*40<=140737488355328) (hb:b.AU.AZ.length<=2932031007317) (hs:b.BP.length<=1000000) (hl:b.BD.length<=1000000):qX b=some b:=by rw [qX,GBA,mk,IAi hd,AP,DBD hb,AP,IK (by simp;omega),IK (by simp;omega)]
structure Ro (b:Ap):Prop where
 d:b.Bc.Ak.length*40<=140737488355328
 t:b.AU.AZ.length<=2932031007317
 s:b.BP.length<=3
 l:b.BD.length<=8
 o:0<=b.CW/\b.CW<=1000
theorem Good.kZ {k:AA} {l:List Ah} {b:Ap} (g:Good k l b):Ro b:=⟨by have:=g.small.1;omega,by have:=g.ZB;omega,g.Nu.1,g.MC.2,g.opn⟩
theorem Ro.copy {b:Ap} (h:Ro b):qX b=some b:=RBs h.d h.t (by have:=h.s;omega) (by have:=h.l;omega)
theorem IBR {b:Ap} {c:CV} {code leaf:Int} (h:Ro b) (hc:(code != 0)=true):MK b c code leaf=some b:=by rw [MK,gG,mk,h.copy,AP,hc];rfl
theorem SBs {b:Ap} {c:CV} {leaf:Int} (h:Ro b) (ho:c.Au=1):MK b c 0 leaf=some ⟨b.BO,b.CZ,b.Bc,b.AU,b.BP++[⟨b.CW+1,false⟩],b.BD,b.CW+1⟩:=by have h1:=h.s;have h2:=h.t;have h3:=h.o;rw [MK,gG,mk,h.copy,AP,TT (by rfl),xk (by omega),AP,XE (by omega),AP,IK (by rw [ho];rfl),Ep (by omega),A8 (by omega) (by omega)]
theorem TBs {b:Ap} {c:CV} {leaf:Int} {j:Nat} (h:Ro b) (ho:c.Au=2) (hj:Av3 b c.EJ=(j:Int)) (hlt:j<b.BP.length):MK b c 0 leaf=some ⟨b.BO,b.CZ,b.Bc,b.AU,b.BP.set j ⟨(b.BP.getD j ⟨0,false⟩).fId,true⟩,b.BD,b.CW⟩:=by have h1:=h.s;have h2:=h.t;rw [MK,gG,mk,h.copy,AP,TT (by rfl),xk (by omega),AP,XE (by omega),AP,TT (by rw [ho];rfl),TT (by rw [ho];rfl),IK (by rw [ho];rfl),hj,Ep (by omega),GX (by omega),BR]
theorem UBs {b:Ap} {id n:Int} (h:b.BD.length<=1000000):qY b id n=some ⟨b.BO,b.CZ,b.Bc,b.AU,b.BP,fH b.BD id n,b.CW⟩:=by
 rw [qY,HBA,mk,UBD (by omega),AP,atV,fH];cases hp:Ax4 b.BD id 0 with
 | some j=>
  have:=(kF hp).2;dsimp only;rw [Ep (by omega),GX (by omega),BR]
 | none=>
  dsimp only;rw [TT (by rfl)];have hle:=JBO id b.BD;have key:∀ (j i m:Nat),i+j=Ig b.BD id->qZ (m+j+1) (.c0 id n (i:Int) b.BO b.CZ b.AU.Bv b.AU.DU b.AU.BM b.AU.Dh b.AU.fCount b.CW b.Bc.Ak b.AU.AZ b.BP b.BD)=some ⟨b.BO,b.CZ,b.Bc,b.AU,b.BP,b.BD.take (Ig b.BD id)++[⟨id,n⟩]++b.BD.drop (Ig b.BD id),b.CW⟩:=by
   intro j;induction j with
   | zero=>
    intro i m hi;have hi:i=Ig b.BD id:=by omega
    subst hi;have e1:(b.BD.drop 0).take (Ig b.BD id - 0)=b.BD.take (Ig b.BD id):=by rw [List.drop_zero,Nat.sub_zero]
    have e2:(b.BD.drop (Ig b.BD id)).take (b.BD.length - Ig b.BD id)=b.BD.drop (Ig b.BD id):=List.take_of_length_le (by rw [List.length_drop];omega);have l1:(b.BD.take (Ig b.BD id)).length<=1000000:=by rw [List.length_take];omega
    have l2:(b.BD.drop (Ig b.BD id)).length<=1000000:=by rw [List.length_drop];omega
    rw [qZ];simp only [UAq,mk,BR,e1,e2];have c1:(decide ((0:Int)<=(Ig b.BD id:Int)) && decide ((Ig b.BD id:Int)<=(b.BD.length:Int)))=true:=by rw [Bool.and_eq_true,decide_eq_true_eq,decide_eq_true_eq];omega
    have c2:decide ((b.BD.take (Ig b.BD id)).length*16<=140737488355328)=true:=by rw [decide_eq_true_eq];omega
    have c3:decide (((b.BD.take (Ig b.BD id)).length+1)*16<=140737488355328)=true:=by rw [decide_eq_true_eq];omega
    have c4:decide (((b.BD.take (Ig b.BD id)++[(⟨id,n⟩:CS)]).length+(b.BD.drop (Ig b.BD id)).length)*16<=140737488355328)=true:=by rw [decide_eq_true_eq,List.length_append,List.length_singleton];omega
    rw [c1,c2,c3,c4];simp only [Ar];by_cases hl:Ig b.BD id<b.BD.length;·have hn:=MBO hl;rw [Ep (by omega),GX (by omega),TT (D6 hn)]
    ·rw [Jh (by omega)]
   | succ j ih=>
    intro i m hi;have hw:=Fq (i:=i) (by omega);have hn:=LBO (ls:=b.BD) (id:=id) (i:=i) (by omega);rw [AwB m j,qZ];simp only [UAq,mk,BR,hw];rw [Ep (by omega),GX (by omega),IK (Ba hn)];exact ih (i+1) m (by omega)
  obtain ⟨m,hm⟩:∃ m,AY=m+Ig b.BD id+1:=⟨AY - (Ig b.BD id+1),by have:=FM (n:=Ig b.BD id+1) (by omega);omega⟩
  rw [hm];exact key _ 0 m (Nat.zero_add _)
theorem VBs {b:Ap} {c:CV} {leaf:Int} {j:Nat} (h:Ro b) (ho:c.Au=13) (hj:Av3 b c.EJ=(j:Int)) (hlt:j<b.BP.length):MK b c 0 leaf=some ⟨b.BO,b.CZ,b.Bc,b.AU,b.BP.take j++b.BP.drop (j+1),b.BD,b.CW⟩:=by have h1:=h.s;have h2:=h.t;have hw:=Fq (i:=j) (by omega);have e2:(b.BP.drop (j+1)).take (b.BP.length - (j+1))=b.BP.drop (j+1):=List.take_of_length_le (by rw [List.length_drop];omega);rw [MK,gG,mk,h.copy,AP,TT (by rfl),xk (by omega),AP,XE (by omega),AP,TT (by rw [ho];rfl),IK (by rw [ho];rfl),hj,Ep (by omega),GX (by omega),hw,GX (by omega),BR,BR,e2,GX (by rw [List.length_drop];omega),Nat.sub_zero]
def delS (ls:List EG) (id:Int):List EG:=ls.filter fun s=>s.fId != id
def zN (ls:List EG) (id:Int):List EG:=ls.map fun s=>⟨s.fId,s.QW || s.fId == id⟩
def UZ (ls:List CS) (id:Int):List CS:=ls.filter fun v=>v.fId != id
def nZ (b:Ap) (S:List EG):Ap:=⟨b.BO,b.CZ,b.Bc,b.AU,S,b.BD,b.CW⟩
def AyL (b:Ap) (V:List CS):Ap:=⟨b.BO,b.CZ,b.Bc,b.AU,b.BP,V,b.CW⟩
def W9 (b:Ap) (c:CV) (leaf:Int):Ap:=match AwV b.AU.AZ c.Ag with
 | some x=>bif x.Aj == 2 && (decide (leaf>=0) && decide (leaf<x.fNext)) then AyL b (LD b.BD x.fId (leaf+1)) else b
 | none=>b
def Jb (b:Ap) (c:CV) (code leaf:Int):Ap:=
 bif code != 0 then b
 else bif c.Au == 1 then ⟨b.BO,b.CZ,b.Bc,b.AU,b.BP++[⟨b.CW+1,false⟩],b.BD,b.CW+1⟩
 else bif c.Au == 13 then nZ b (delS b.BP c.EJ)
 else bif c.Au == 2 then nZ b (zN b.BP c.EJ)
 else bif c.Au == 5 then W9 b c leaf
 else bif c.Au == 9 then AyL b (UZ b.BD c.Ag)
 else b
theorem IAu (id:Int):∀ (ls:List EG) (i:Nat),KQ ls id i=(KQ ls id 0).map (· + i)
 | [],i=>rfl
 | v::vs,i=>by
  rw [KQ,KQ];split;·simp
  ·rw [IAu id vs (i+1),IAu id vs (0+1),Option.map_map];congr 1;funext j;show j+(i+1)=(j+(0+1))+i;omega
theorem JBR (id:Int):∀ {ls:List EG},AscS ls->(match KQ ls id 0 with | some j=>ls.take j++ls.drop (j+1) | none=>ls)=delS ls id
 | [],_=>rfl
 | s::ss,h=>by
  obtain ⟨hs,h2⟩:=List.pairwise_cons.1 h
  have ih:=JBR id h2;rw [delS] at ih ⊢;rw [KQ,List.filter_cons];by_cases e:s.fId=id;·rw [if_pos (beq_iff_eq.2 e),if_neg (by rw [bne_iff_ne];exact fun q=>q e),List.filter_eq_self.2 fun w hw=>by have:=hs w hw;rw [bne_iff_ne];omega];rfl
  ·rw [if_neg (by rw [beq_iff_eq];exact e),if_pos (bne_iff_ne.2 e),<-ih,IAu];cases KQ ss id 0 <;> rfl
theorem KBR (id:Int):∀ {ls:List EG},AscS ls->(match KQ ls id 0 with | some j=>ls.set j ⟨(ls.getD j ⟨0,false⟩).fId,true⟩ | none=>ls)=zN ls id
 | [],_=>rfl
 | s::ss,h=>by
  obtain ⟨hs,h2⟩:=List.pairwise_cons.1 h
  have ih:=KBR id h2;rw [zN] at ih ⊢;rw [KQ,List.map_cons];by_cases e:s.fId=id
  ·have hr:ss.map (fun s=>(⟨s.fId,s.QW || s.fId == id⟩:EG))=ss:=by
    conv=>rhs;rw [<-List.map_id ss]
    refine List.map_congr_left fun w hw=>?_
    have:=hs w hw;rw [beq_eq_false_iff_ne.2 (by omega),Bool.or_false];rfl
   rw [if_pos (beq_iff_eq.2 e),hr,beq_iff_eq.2 e,Bool.or_true];rfl
  ·rw [if_neg (by rw [beq_iff_eq];exact e),<-ih,IAu,beq_eq_false_iff_ne.2 e,Bool.or_false];cases KQ ss id 0 <;> rfl
theorem LBR (id:Int):∀ {ls:List CS},J6 ls->(match Ax4 ls id 0 with | some j=>ls.take j++ls.drop (j+1) | none=>ls)=UZ ls id
 | [],_=>rfl
 | s::ss,h=>by
  obtain ⟨hs,h2⟩:=List.pairwise_cons.1 h
  have ih:=LBR id h2;rw [UZ] at ih ⊢;rw [Ax4,List.filter_cons];by_cases e:s.fId=id;·rw [if_pos (beq_iff_eq.2 e),if_neg (by rw [bne_iff_ne];exact fun q=>q e),List.filter_eq_self.2 fun w hw=>by have:=hs w hw;rw [bne_iff_ne];omega];rfl
  ·rw [if_neg (by rw [beq_iff_eq];exact e),if_pos (bne_iff_ne.2 e),<-ih,XAs];cases Ax4 ss id 0 <;> rfl
theorem MBR {k s:AA} {num:Int} (hk:k.size<=900000000) (hs:s.size<=800000000):JAb k num s=some (Axf k num s):=by
 rw [JAb,OA4,mk,YBO hk,AP,Yx,Axf];cases h:MB num s.size;·rfl
 ·have h':=lH.1 h;have hm:=Ub (bs k) (SN num) ((s.size:Int).toNat);have hl:=bs_len s;rw [Ar,Ar,TT (by rfl),AYE (by omega) (by simp_all [Dj]),AP,Oa (yD _ _ _)];have hx:(AyY (bs s) (Qq (bs k) (SN num) (s.size:Int).toNat)).length=s.size:=by simp_all [gI]
  rw [ZBO hk h'.1 (by simp_all [Dj]),AP,Oa (XH _ _),IK (by grind [Dj,qc])];refine congrArg (fun x=>some (x,true)) (KW ?_)
  rw [Hr,Oa (XH _ _),Oa (Vf _ _ _),Oa (fun x hx=>by
   rcases List.mem_append.1 hx with hx | hx
   ·exact XH _ _ x hx
   ·exact Vf _ _ _ x hx),OG,hl]
  rfl
theorem TBE {k:AA} {count:Int} {r:Ah} (hk:k.size<=900000000) (hr:r.DR<=9223372036854775807):LAb k count r=some (AzW k count r):=by
 have hz:=Xi r;rw [LAb,SA4,mk,Xj hr,AP,AzW];cases h1:(Ax8 r).2;·rfl
 rw [TT (by rfl),AwE,AP,Bool.true_and];cases h2:AyM count 0 10000;·rfl
 rw [Na] at h2;obtain ⟨l1,l2,l3⟩:=WAg (k:=k) (s:=(Ax8 r).1) (num:=count+1) (by omega) (by omega)
 obtain ⟨f1,f2⟩:=TBB (t:=(Axf k (count+1) (Ax8 r).1).1) (by omega)
 rw [TT (by rfl),A8 (by omega) (by omega),MBR hk (by omega),AP,DBP (by omega),AP,l1,f1];rfl
theorem NBR {d:BU} {n:AA} (h:d.Ak.length*40<=140737488351232) (hs:Sorted d.Ak):qg d n=some ⟨Ve d.Ak n⟩:=by
 have hp:=DBm (l:=d.Ak) (n:=n) (i:=0);rw [qg,WA4,mk,YAs (by omega),AP,<-CBm hs,Aya];cases he:Gp d.Ak n 0 with
 | none=>
  rw [he] at hp;rw [hp];rfl
 | some j=>
  rw [he] at hp;have hj:=(eU he).2;have hw:=Fq (i:=j) (by omega);have hd:(d.Ak.drop (j+1)).take (d.Ak.length - (j+1))=d.Ak.drop (j+1):=List.take_of_length_le (by rw [List.length_drop];omega);simp only [hw,BR,Nat.sub_zero,List.drop_zero,hd];rw [IK (by simp),IK (by simp;omega),IK (by simp [List.length_take];omega),IK (by simp;omega),IK (by simp [List.length_take,List.length_drop];omega)];simp only [Nat.sub_zero] at hp;rw [hp]
theorem OBR {d:BU} {f:BQ} (h:d.Ak.length*40<=140737488351232) (hs:Sorted d.Ak):EAo d f=some ⟨Gs d.Ak f⟩:=by
 rw [EAo,XA4,NBR h hs,AP,<-EBm hs];have hol:(Ve d.Ak f.fName).length<=d.Ak.length:=List.length_filter_le _ _;generalize hL:Ve d.Ak f.fName=l at hol ⊢;have key:∀ (j i m:Nat),i+j=l.length->qh (m+j+1) (.c0 (i:Int) f l)=some ⟨l.take i++Xk (l.drop i) f⟩:=by
  intro j;induction j with
  | zero=>
   intro i m hi;have hd:(l.drop i).take (l.length - i)=l.drop i:=List.take_of_length_le (by rw [List.length_drop];omega);rw [qh];simp only [DAo,mk,BR,Nat.sub_zero,List.drop_zero,hd];rw [TT (by simp;omega),IK (by simp;omega),IK (by simp [List.length_take];omega),IK (by simp [List.length_take];omega),IK (by simp;omega),IK (by simp [List.length_take,List.length_drop];omega)];rw [show l.drop i=[] from List.drop_of_length_le (by omega)];simp [Xk]
  | succ j ih=>
   intro i m hi;have hil:i<l.length:=by omega
   have hw:=Fq (i:=i) (by omega);have hd:(l.drop i).take (l.length - i)=l.drop i:=List.take_of_length_le (by rw [List.length_drop];omega);rw [AwB m j,qh];simp only [DAo,mk,BR,Nat.sub_zero,List.drop_zero,hd,hw,getD_at hil,ih (i+1) m (by omega)];rw [IK (by simp;omega),IK (by simp;omega),drop_at hil,Xk];cases Op.bytesLess l[i].fName.toList f.fName.toList;·rw [Aq,Aq,<-drop_at hil,IK (by simp;omega),IK (by simp [List.length_take];omega),IK (by simp [List.length_take];omega),IK (by simp;omega),IK (by simp [List.length_take,List.length_drop];omega)];simp
   ·rw [Ar,Ar,show l.take (i+1)=l.take i++[l[i]] by rw [List.take_add_one,List.getElem?_eq_getElem hil];rfl,List.append_assoc];rfl
 obtain ⟨m,hm⟩:=gm (n:=l.length) (by omega)
 rw [hm];have:=key l.length 0 m (Nat.zero_add _);simpa using this
theorem WBs {d:BU} {a:Ef} (hd:d.Ak.length*40<=140737488351232) (ha:a.fText.size<=140737488351232):QAb d a=some (Ave d a):=by
 have ho:=ZBM d.Ak a.fName;rw [QAb,YA4,mk,Ave];simp only [fJ (d:=d) (by omega),YAs (d:=d) (n:=a.fName) (by omega),IAi (d:=d) (by omega),AP,bne];cases hdk:Gq d;·rfl
 obtain ⟨hl,hok⟩:=qj hdk
 have hs:=BBm hdk;have hpl:∀ (l:List BQ) (f:BQ),l.length<=30->(Gs l f).length<=31:=fun l f h=>by have:=UBM f.fName l;rw [Gs,List.length_append,List.length_append];simp only [List.length_cons,List.length_nil];omega
 simp only [NBR (d:=d) (n:=a.fName) hd hs,fun f=>OBR (d:=d) (f:=f) hd hs,fun f=>OBR (d:=⟨Ve d.Ak a.fName⟩) (f:=f) (show (Ve d.Ak a.fName).length*40<=_ by omega) (HBm hs),AP,
  fun f=>fJ (d:=⟨Gs d.Ak f⟩) (show (Gs d.Ak f).length<=_ by have:=hpl d.Ak f hl;omega),fun f=>fJ (d:=⟨Gs (Ve d.Ak a.fName) f⟩) (show (Gs (Ve d.Ak a.fName) f).length<=_ by have:=hpl (Ve d.Ak a.fName) f (by omega);omega),fJ (d:=⟨Ve d.Ak a.fName⟩) (show (Ve d.Ak a.fName).length<=_ by omega)]
 have fin:∀ l:List BQ,(bif !Gq ⟨l⟩ then some ((⟨[]⟩:BU),false) else some (⟨l⟩,true))=some (doneD l):=fun l=>by rw [doneD];cases Gq ⟨l⟩ <;> rfl
 have ht:∀ f,OB f=true->f.fText.size+a.fText.size<=9223372036854775807:=fun f hf=>by have:=(ZAg.1 hf).2.1;omega
 simp only [fin,Bool.true_and,DN,Aq];cases hp:Gp d.Ak a.fName 0 with
 | some j=>
  obtain ⟨hj,hfo,_,_⟩:=CBC hdk hp
  simp only [show Aya d a.fName=(j:Int) by rw [Aya,hp],BR,show decide ((j:Int)>=0)=true from Ba (by omega),show decide ((j:Int)<0)=false from D6 (by omega),show decide ((j:Int)<(d.Ak.length:Int))=true from Ba (by omega),Bool.and_self,Ar,Aq];generalize hf:d.Ak.getD j ql=f at hfo;have hf':d.Ak.getD j (⟨⟨#[]⟩,⟨#[]⟩,0⟩:BQ)=f:=hf;have hk:(f.J3 == (f.fText.size:Int)) = !decide (f.J3<(f.fText.size:Int)):=by
   have:=(ZAg.1 hfo).2.2;by_cases h:f.J3=(f.fText.size:Int)
   ·rw [beq_iff_eq.2 h,D6 (by omega)];rfl
   ·rw [beq_eq_false_iff_ne.2 h,Ba (by omega)];rfl
  simp only [hf',Ba (ht f hfo),Ar,ZU,hk];cases a.Aj == 1 <;> cases a.Aj == 2 <;> cases a.Aj == 3 <;> cases a.Aj == 4 <;> cases a.I8.toList == (⟨#[]⟩:AA).toList <;> cases a.fText.toList == (⟨#[]⟩:AA).toList <;> cases decide (f.J3<(f.fText.size:Int)) <;> cases a.I8.toList == a.fName.toList <;> rfl
 | none=>
  have hs:decide ((⟨#[]⟩:AA).size+a.fText.size<=9223372036854775807)=true:=Ba (by show 0+a.fText.size<=_;omega);simp only [show Aya d a.fName = -1 by rw [Aya,hp],show decide ((-1:Int)>=0)=false from rfl,show decide ((-1:Int)<0)=true from rfl,hs,Ar,Aq];cases a.Aj == 1 <;> cases a.Aj == 2 <;> cases a.Aj == 3 <;> cases a.Aj == 4 <;> cases a.I8.toList == (⟨#[]⟩:AA).toList <;> cases a.fText.toList == (⟨#[]⟩:AA).toList <;> rfl
theorem UBE {d:BU} {l:List Ef} (hd:d.Ak.length*40<=140737488351232) (hl:l.length<=140737488351232) (ha:∀ a ∈ l,a.fText.size<=140737488351232):qm d l=some (AzA d l 0):=by
 have key:∀ (j i m:Nat) (out:List BQ),i+j=l.length->out.length*40<=140737488351232->qo (m+j+1) (.c0 l l (l.length:Int) (i:Int) [] out)=some (AzA ⟨out⟩ (l.drop i) (i:Int)):=by
  intro j;induction j with
  | zero=>
   intro i m out hi ho;rw [qo];simp only [FAo,mk];rw [TT (by simp;omega),List.drop_of_length_le (by omega),AzA,show (l.length:Int)=(i:Int) by omega]
  | succ j ih=>
   intro i m out hi ho;have hil:i<l.length:=by omega
   have hw:=Fq (i:=i) (by omega);rw [AwB m j,qo];simp only [FAo,mk,show decide ((i:Int)<(l.length:Int))=true from Ba (by omega),show decide ((0:Int)<=(i:Int))=true from Ba (by omega),Bool.and_self,Ar,BR,hw,getD_at hil,WBs (d:=⟨out⟩) (a:=l[i]) ho (ha _ (List.getElem_mem hil)),AP];rw [drop_at hil,AzA];cases hr:(Ave ⟨out⟩ l[i]).2;·rfl
   ·have h30:=(qj (BBN hr)).1;rw [DN,Aq,Ar,ih (i+1) m _ (by omega) (by omega)];rfl
 obtain ⟨m,hm⟩:=gm (n:=l.length) (by omega)
 rw [qm,ZA4,mk,IAi (by omega),AP,hm];exact key l.length 0 m _ (Nat.zero_add _) hd
noncomputable def zV (b:Ap) (r:Ah):Bool×Ap:=
 bif !(AzW b.BO b.AU.fCount r).2 || (!(OZ b.AU r).2 || decide ((AzA b.Bc (AzW b.BO b.AU.fCount r).1 0).2<((AzW b.BO b.AU.fCount r).1.length:Int))) then (false,b)
 else (true,⟨b.BO,b.CZ,(AzA b.Bc (AzW b.BO b.AU.fCount r).1 0).1,(OZ b.AU r).1,b.BP,b.BD,b.CW⟩)
theorem PBR {b:Ap} {r:Ah} (hk:b.BO.size<=900000000) (hd:b.Bc.Ak.length*40<=140737488351232) (hb:b.AU.AZ.length<=140737488351232) (hr:r.DR<=9223372036854775807):XU b r=some (zV b r):=by
 obtain ⟨h1,h2⟩:=DBN b.BO b.AU.fCount r
 rw [XU,JA5,mk,TBE hk hr,AP,UBE hd (by omega) h2,AP,FBD hb hr,AP,zV];cases (AzW b.BO b.AU.fCount r).2;·rfl
 cases (OZ b.AU r).2;·rfl
 cases decide ((AzA b.Bc (AzW b.BO b.AU.fCount r).1 0).2<((AzW b.BO b.AU.fCount r).1.length:Int)) <;> rfl
theorem QBR {x:Af} (h:AwH x=true):(Ax8 (AyG x)).2=true:=by grind [Ax8,AyG,IV,JB]
noncomputable def Ye:List DW->Int->Bg->Option Bg
 | [],_,l=>some l
 | e::es,i,l=>(bif e.JY then ZC l else Rh l e i).bind (Ye es (i+1))
noncomputable def Axk (k w:AA):Bg:=⟨(Oo k w).1,[],[],[],[Ayq w]⟩
def VBE (l:Bg) (c:Int) (s:AA):Bg:=⟨l.AX,l.Bq++[c],l.EN++[s],l.Cm,l.CO⟩
theorem Yt {l:Bg} {c:Int} {s:AA} (h1:l.Bq.length<=1000000) (h2:l.EN.length<=1000000):Xl l c s=some (VBE l c s):=by rw [Xl,CA6,mk,IK (by simp;omega),IK (by simp;omega)];rfl
theorem XBs {l:Bg} {e:DW} {w code leaf:Int} {s:AA} {r:Ah} {b1 b2:Ap} (hp:RZ l.AX e.BA=some ([r],code,s)) (hcut:e.Nr=false) (hl:Vd l.AX e.BA.Ag=some leaf) (hb:XU l.AX r=some (true,b1)) (hc:MK b1 e.BA code leaf=some b2) (z1:l.Bq.length<=1000) (z2:l.EN.length<=1000) (z3:l.CO.length<=1000) (z4:l.Cm.length<=1000) :
  Rh l e w=some ⟨b2,l.Bq++[code],l.EN++[s],bif e.BA.Au == 5 && code == 0 then l.Cm++[⟨e.BA.Ag,leaf,w⟩] else l.Cm,l.CO++[r]⟩:=by
 obtain ⟨m,hm⟩:∃ m,AY=m+1+1:=⟨AY - 2,rfl⟩
 have hw:AV (0+1)=1:=by rw [A8 (by omega) (by omega)];rfl
 rw [Rh,xu,mk,hp,AP,hl,hm,hcut,Aq,AP,dM];simp only [xw,mk];rw [IK (by rfl),IK (by rfl)];show (XU l.AX r).bind _=_;rw [hb,AP];dsimp only;rw [Ar,Ep (by omega),hw,dM];simp only [xw,mk];rw [TT (by rfl)];show (MK b1 e.BA code leaf).bind _=_;rw [hc,AP,Yt (l:=⟨b2,l.Bq,l.EN,l.Cm,_⟩) (show l.Bq.length<=1000000 by omega) (show l.EN.length<=1000000 by omega),AP];cases e.BA.Au == 5;·rfl
 ·cases code == 0;·rfl
  ·rw [Ar,Ar,IK (by rw [decide_eq_true_eq];show (l.Cm.length+1)*24<=_;omega)];rfl
def Avf (F:AA) (n:Int) (zs:List Int):Int:=ite (n > (match zs with | []=>0 | z::_=>ite ((ite ((F.size:Int)<z) (F.size:Int) z) > 0) (ite ((F.size:Int)<z) (F.size:Int) z) 0)) n (match zs with | []=>0 | z::_=>ite ((ite ((F.size:Int)<z) (F.size:Int) z) > 0) (ite ((F.size:Int)<z) (F.size:Int) z) 0)
theorem JAu {F:AA} {n:Int} (zs:List Int) (h:0<=n/\n<=(F.size:Int)):n<=Avf F n zs/\Avf F n zs<=(F.size:Int):=by unfold Avf;grind
def Ug (F:AA) (n:Int) (zs:List Int):BU:=dk (F.extract 0 (Avf F n zs).toNat) (Avf F n zs)
theorem YBs {F:AA} {n:Int} (zs:List Int) (h:0<=n/\n<=(F.size:Int)) (hF:F.size<=20000):QAq (dk F n) zs=some (Ug F n zs,true):=by
 obtain ⟨m,hm⟩:∃ m,AY=m+1+1:=⟨AY - 2,rfl⟩
 obtain ⟨k1,k2⟩:=JAu zs h
 have e:AV (0+1)=1:=by rw [A8 (by omega) (by omega)];rfl
 have hg:[(⟨AzD,F,n⟩:BQ)].getD (0:Int).toNat (⟨⟨#[]⟩,⟨#[]⟩,0⟩:BQ)=⟨AzD,F,n⟩:=rfl;have hl:(([(⟨AzD,F,n⟩:BQ)].length:Nat):Int)=1:=rfl;rw [QAq,CBA,mk,fJ (Nat.le_of_ble_eq_true rfl),AP,Uy h hF,IAi (d:=dk F n) (Nat.le_of_ble_eq_true rfl),AP];rw [DN,Aq,show (dk F n).Ak=[⟨AzD,F,n⟩] from rfl,hm,DAf];simp only [DBA,mk,hg,hl,e];rw [IK (by rfl),IK (by rfl)];have hend:∀ (v:Int) (x y:List BQ) (l:List Int),v=1->DAf (m+1) (.c0 l v 1 x y)=some (⟨y⟩,true):=by intro v x y l hv;subst hv;rfl
 cases zs with
 | nil=>
  rw [TT (by rfl)];have hk:ite (n > 0) n 0=Avf F n []:=rfl;rw [hk,GX (by omega),hend _ _ _ _ rfl];rfl
 | cons z zs=>
  rw [Ep (by rw [List.length_cons];omega),GX (by rw [List.length_cons];omega)];have hz:(z::zs).getD (0:Int).toNat 0=z:=rfl;simp only [hz];have hk:ite (n > (ite ((ite ((F.size:Int)<z) (F.size:Int) z) > 0) (ite ((F.size:Int)<z) (F.size:Int) z) 0)) n (ite ((ite ((F.size:Int)<z) (F.size:Int) z) > 0) (ite ((F.size:Int)<z) (F.size:Int) z) 0)=Avf F n (z::zs):=rfl;simp only [hk];rw [GX (by omega),hend _ _ _ _ rfl];rfl
theorem RBR {d:BU} {E T:AA} {n:Int} (zs:List Int) (hT:T.size<=20000) (hd:d.Ak.length*40<=140737488351232) (ha:Ave d ⟨1,AzD,T,⟨#[]⟩⟩=(dk E n,true)) (h:0<=n/\n<=(E.size:Int)) (hE:E.size<=20000):RAq d (Avj T) 1 zs=some (Ug E n zs,true):=by
 have e1:AzA d [⟨1,AzD,T,⟨#[]⟩⟩] 0=(dk E n,1):=by rw [AzA,ha];rfl
 rw [RAq,EBA,mk,AwE,AP,show AyM 1 0 ((Avj T).length:Int)=true from rfl,DN,Aq,IK (by rfl),show ((Avj T).take (1:Int).toNat).drop 0=[⟨1,AzD,T,⟨#[]⟩⟩] from rfl,UBE (l:=[⟨1,AzD,T,⟨#[]⟩⟩]) hd (show (1:Nat)<=140737488351232 by omega) (fun a ha=>by rw [List.mem_singleton] at ha;rw [ha];show T.size<=_;omega),AP,e1];rw [TT (by rfl),YBs zs h hE];rfl
theorem SBR {b:Ap} (h:b.Bc.Ak.length*40<=140737488355328):SAq b=some (nT b):=by rw [SAq,FBA,IAi h,AP,oK];rfl
structure Down (k:AA) (l:List Ah) (b:Ap):Prop where
 Io:k.size=32
 len:1<=l.length/\l.length<=50
 book:(Aye DX l).2=true
 box:∃ X:AA,b=⟨k,false,dk X X.size,DX,[],[],0⟩/\X.size<=16700/\∃ (l2:List Ah) (K:Nat),l2.length<=50/\(Aye DX l2).2=true/\K<=(Axj (tx k 1 l2)).length/\bs X=(Axj (tx k 1 l2)).take K/\l=l2.take (whole (tx k 1 l2) K)
theorem WBE {k:AA} {l:List Ah} (hl:l.length<=50):(Axj (tx k 1 l)).length<=334*l.length:=by have h:=MAs k _ (JAh k l 1 (by omega) (by omega));simp_all [Vp]
theorem ZBs {k:AA} {l:List Ah} {L:Bg} {r:Ah} (zs:List Int) (g:Good k l L.AX) (hl:l.length<50) (hn:r.DR<=9223372036854775807) (hr:(OZ L.AX.AU r).2=true) (z1:L.Bq.length<=1000) (z2:L.EN.length<=1000) (z3:L.CO.length<=1000) :
  ∃ l' b',Y8 L r zs=some ⟨b',L.Bq++[10],L.EN++[⟨#[]⟩],L.Cm,bif decide (l'.length > l.length) then L.CO++[r] else L.CO⟩/\Down k l' b'/\(l'=l\/l'=l++[r])/\(∀ z zs',zs=z::zs'->334*((l.length:Int)+1)<=z->l'=l++[r])/\(zs=[]->l'=l):=by
 obtain ⟨F,h1,h2⟩:=g.disk
 have E0:=Good.zK g.len.2 h2;have hF2:F.size=(Axj (tx k 1 l)).length:=by rw [<-bs_len,h2]
 obtain ⟨T,t1,t2⟩:=zL (k:=k) (r:=r) (i:=l.length) (Qb hr).2.1 (by omega)
 have hlen:(l++[r]).length=l.length+1:=by rw [List.length_append];rfl
 have hat:(l++[r])[l.length]'(by omega)=r:=by simp
 have hall:Axj (tx k 1 (l++[r]))=Axj (tx k 1 l)++bs T:=by have e:=nV (k:=k) (l:=l++[r]) (i:=l.length) (by omega);rw [List.take_of_length_le (by omega),List.take_left,hat,<-t2] at e;exact e
 have hfl:=WBE (k:=k) (l:=l++[r]) (by omega);have hl1:=congrArg List.length hall;rw [List.length_append,bs_len] at hl1;have hz:(F++T).size=F.size+T.size:=ByteArray.size_append;have hE:bs (F++T)=Axj (tx k 1 (l++[r])):=by rw [Hr,h2,hall]
 have hcut:=RBR (d:=dk F F.size) (E:=F++T) (T:=T) (n:=F.size) zs (by omega) (Nat.le_of_ble_eq_true rfl) (PAs (by omega) (by omega)) (by omega) (by omega);obtain ⟨q1,q2⟩:=JAu (F:=F++T) (n:=F.size) zs (by omega)
 have hk1:∀ z zs',zs=z::zs'->334*((l.length:Int)+1)<=z->Avf (F++T) F.size zs=((F++T).size:Int):=by
  intro z zs' e hz';have q3:(z:Int)>=((F++T).size:Int):=by omega
  rw [e] at q2 ⊢;unfold Avf at q2 ⊢;dsimp only at q2 ⊢;repeat' split <;> try omega
 have hk0:zs=[]->Avf (F++T) F.size zs=(F.size:Int):=by intro e;rw [e];unfold Avf;dsimp only;split <;> omega
 unfold Ug at hcut;generalize Avf (F++T) F.size zs=kk at hcut q1 q2 hk1 hk0;obtain ⟨K,rfl⟩:∃ K:Nat,kk=(K:Int):=⟨kk.toNat,by omega⟩
 rw [BR] at hcut;have hX:bs ((F++T).extract 0 K)=(Axj (tx k 1 (l++[r]))).take K:=by rw [Awj,List.drop_zero,hE]
 have Bk:((F++T).extract 0 K).size=K:=by rw [ByteArray.size_extract];omega
 generalize (F++T).extract 0 K=X at hcut hX Bk;have hEl:(Axj (tx k 1 (l++[r]))).length=F.size+T.size:=by omega
 have he2:(Aye DX (l++[r])).2=true:=by rw [kJ,g.book];dsimp only;rw [Ar,Aye,hr];rfl
 have hrb:=VBC (k:=k) (file:=X) (l:=l++[r]) (K:=K) (by omega) (xJ he2) (by omega) hX;obtain ⟨w1,w2,w3⟩:=DAs (tx k 1 (l++[r])) K
 have w4:=DBO (tx k 1 (l++[r])) l.length K (by rw [Vp];omega) (by rw [eY,List.take_left];omega);have w5:=MBC (tx k 1 (l++[r])) K;rw [Vp] at w2 w5;rw [eY] at w3;have Cf:(l++[r]).take (whole (tx k 1 (l++[r])) K)=l\/(l++[r]).take (whole (tx k 1 (l++[r])) K)=l++[r]:=by
  by_cases hw:whole (tx k 1 (l++[r])) K=l.length;·left;rw [hw,List.take_left]
  ·right;rw [List.take_of_length_le (by omega)]
 refine ⟨(l++[r]).take (whole (tx k 1 (l++[r])) K),⟨k,false,dk X X.size,DX,[],[],0⟩,?_,⟨g.Io,?_,HBC _ he2,⟨X,rfl,by have:=RAs (k:=k) (l:=l++[r]) (by omega) (l.length+1);rw [List.take_of_length_le (by omega)] at this;omega,l++[r],K,by omega,he2,by omega,hX,rfl⟩⟩,Cf,?_,?_⟩
 ·rw [Y8,TAq,mk,g.cnt,TBE (by rw [g.key,g.Io];omega) hn,AP,g.key,t1,h1,hcut,AP,SBR (by rw [h1];exact Nat.le_of_ble_eq_true rfl),AP];dsimp only;rw [Ar,OBD (by exact Nat.le_of_ble_eq_true rfl),AP,show Awy (dk X (K:Int)) ⟨#[98,111,111,107]⟩=(X,true) from QAs X _];dsimp only;rw [show (nT L.AX).BO=k from g.key,PBD (by rw [g.Io];omega) (by omega),AP,hrb];dsimp only;have hd:decide ((((l++[r]).take (whole (tx k 1 (l++[r])) K)).length:Int) > (l.length:Int))=decide (((l++[r]).take (whole (tx k 1 (l++[r])) K)).length > l.length):=by rw [decide_eq_decide];omega
  rw [hd,Bk];cases decide (((l++[r]).take (whole (tx k 1 (l++[r])) K)).length > l.length);·rw [Aq,Aq];show (Xl ⟨⟨k,false,dk X (K:Int),DX,[],[],0⟩,L.Bq,L.EN,L.Cm,L.CO⟩ 10 ⟨#[]⟩).bind _=_;rw [Yt (l:=⟨⟨k,false,dk X (K:Int),DX,[],[],0⟩,L.Bq,L.EN,L.Cm,L.CO⟩) (show L.Bq.length<=1000000 by omega) (show L.EN.length<=1000000 by omega)];rfl
  ·rw [Ar,Ar,Ep (by omega)];show (Xl ⟨⟨k,false,dk X (K:Int),DX,[],[],0⟩,L.Bq,L.EN,L.Cm,L.CO++[r]⟩ 10 ⟨#[]⟩).bind _=_;rw [Yt (l:=⟨⟨k,false,dk X (K:Int),DX,[],[],0⟩,L.Bq,L.EN,L.Cm,L.CO++[r]⟩) (show L.Bq.length<=1000000 by omega) (show L.EN.length<=1000000 by omega)];rfl
 ·have h3:=g.len;rw [List.length_take];omega
 ·intro z zs' e hz';have:=hk1 z zs' e hz';rw [List.take_of_length_le];rw [w5 (by omega)];omega
 ·intro e;have h3:=hk0 e;rcases Cf with h | h
  ·exact h
  ·have h4:=congrArg List.length h;rw [List.length_take] at h4;have h5:whole (tx k 1 (l++[r])) K=l.length+1:=by omega
   rw [h5,List.take_of_length_le (by omega)] at w3;have hT:T.size=0:=by omega
   have h6:=congrArg List.length t2;rw [bs_len,FAh] at h6;omega
noncomputable def Yi (b:Ap):Ap×Bool:=
 bif b.CZ || !Rt b then (EBC,false)
 else bif !(Awo b.BO b.Bc).2.2 || decide ((AzA b.Bc (Awo b.BO b.Bc).2.1 0).2<((Awo b.BO b.Bc).2.1.length:Int)) then (EBC,false)
 else (⟨b.BO,true,(AzA b.Bc (Awo b.BO b.Bc).2.1 0).1,(Awo b.BO b.Bc).1,[],[],0⟩,true)
theorem TBR {k:AA} {d:BU} (hf:∀ f ∈ d.Ak,f.fText.size<=140737488351232):∀ a ∈ (Awo k d).2.1,a.fText.size<=140737488351232:=by
 have h0:=WBC (n:=AzD) hf;intro a;rw [Awo];cases (!(Gq d) || !(Aye DX (LM k (Awy d AzD).1).1).2)
 ·rw [Aq];show a ∈ _++_->_;rw [List.mem_append];rintro (h | h)
  ·cases hc:decide (Aya d nNew>=0) <;> rw [hc] at h;·cases h
   ·rw [List.mem_singleton.1 h];exact DJ _
  ·cases hc:(LM k (Awy d AzD).1).2 == ((Awy d AzD).1.size:Int) <;> rw [hc] at h
   ·simp only [Aq,List.mem_cons,List.not_mem_nil,or_false] at h;rcases h with rfl | rfl | rfl
    ·grind [ByteArray.size_extract]
    ·exact DJ _
    ·exact DJ _
   ·cases h
 simp
theorem Aht {b:Ap} (hd:b.Bc.Ak.length*40<=140737488351232) (hf:∀ f ∈ b.Bc.Ak,f.fText.size<=140737488351232) (ht:b.AU.AZ.length<=140737488351232) (hs:b.BP.length<=140737488351232) (hl:b.BD.length<=140737488351232) (hk:b.BO.size<=900000000):UAo b=some (Yi b):=by
 obtain ⟨l1,l2⟩:=SAs b.BO b.Bc
 rw [UAo,BA6,mk,Yi];simp only [ZAs (b:=b) (by omega) hf ht hs hl,QBD hk (show b.Bc.Ak.length<=_ by omega) hf,UBE (d:=b.Bc) (l:=(Awo b.BO b.Bc).2.1) hd (by omega) (TBR hf),AP];cases b.CZ
 ·cases Rt b;·rfl
  ·cases (Awo b.BO b.Bc).2.2;·rfl
   ·cases decide ((AzA b.Bc (Awo b.BO b.Bc).2.1 0).2<((Awo b.BO b.Bc).2.1.length:Int)) <;> rfl
 ·rfl
structure LS (k:AA) (l:List Ah) (cs:List Int) (L:Bg):Prop where
 good:Good k l L.AX
 codes:L.Bq=cs
 few:cs.length<=60/\L.EN.length=cs.length/\L.Cm.length<=60/\L.CO.length<=60
def LAi (n:Int):Ah:=⟨2,⟨#[]⟩,n,⟨0,0,false,false,false,false,⟨#[]⟩,0⟩⟩
theorem Good.UBR {k:AA} {l:List Ah} {b:Ap} (g:Good k l b) {S:List EG} {o:Int} (hS:S.length<=3) (hs:AxI ⟨b.BO,b.CZ,b.Bc,b.AU,S,b.BD,o⟩ S.length 0=true) (ho:0<=o/\o<=1000):Good k l ⟨b.BO,b.CZ,b.Bc,b.AU,S,b.BD,o⟩:=
 ⟨g.Io,g.key,g.up,g.disk,g.len,g.book,⟨hS,hs⟩,ho,⟨(AjO (b:=b) (c:=⟨b.BO,b.CZ,b.Bc,b.AU,S,b.BD,o⟩) rfl rfl _ _).trans g.MC.1,g.MC.2⟩⟩
theorem VBR {k:AA} {l:List Ah} {b:Ap} (g:Good k l b) (t:Int):Vd b t=some (Avz b t):=VBD (by have:=g.MC.2;omega) (by have:=g.ZB;omega)
theorem BBt {n:Int} (h:0<=n/\n<=3):(Ax8 (LAi n)).2=true:=by grind [Ax8,LAi,Na,JC,JB]
theorem CBt {b:Bo} (hb:Ia b=true) (hc:b.fCount<10000) {n:Int} (h:0<=n/\n<=3):OZ b (LAi n)=(⟨b.Bv,n,b.AZ,b.BM,Ed (b.Dh++(Ax8 (LAi n)).1),b.fCount+1⟩,true):=by rw [OZ,hb,BBt h,D6 (by omega:¬ b.fCount>=10000)];rfl
theorem DBt {L L':Bg} {e:DW} {w code:Int} {s:AA} {r:Ah} (hp:RZ L.AX e.BA=some ([r],code,s)) (hcut:e.Nr=true) (hc:Y8 L r e.Lc=some L'):Rh L e w=some L':=by rw [Rh,xu,mk,hp,AP,hcut,Ar,IK (by rfl),IK (by rfl),show ([r],code,s).1.getD (0:Int).toNat (⟨0,⟨#[]⟩,0,⟨0,0,false,false,false,false,⟨#[]⟩,0⟩⟩:Ah)=r from rfl,hc];rfl
theorem WBR {k w:AA} (hk:k.size=32) (hw:w.size<=20):LS k [Ayq w] [] (Axk k w)/\(Axk k w).AX.BP=[]/\(Axk k w).AX.CW=0/\(Axk k w).AX.BD=[]/\(Axk k w).AX.AU.DU=0/\(Axk k w).AX.AU.Bv=Ed w/\(Axk k w).AX.AU.AZ=[]/\(Axk k w).AX.AU.BM=0:=by
 obtain ⟨h1,h2,h3,h4,h5,h6⟩:=xE hk hw
 have he:OZ DX (Ayq w)=(⟨Ed w,0,[],0,Ed (DX.Dh++(Ax8 (Ayq w)).1),0+1⟩,true):=by rw [OZ,GBC,show (Ax8 (Ayq w)).2=true by rw [zU],show decide (DX.fCount>=10000)=false from rfl];rfl
 rw [he] at h6;refine ⟨⟨h2,rfl,⟨DJ _,rfl,DJ _,Nat.le_of_ble_eq_true rfl⟩⟩,h3,h5,h4,?_,?_,?_,?_⟩;all_goals grind [Axk]
theorem XBR {b:Bo} {r:Ah} (h:(OZ b r).2=true) {v:CS} (hv:ZG b.AZ v):(r.Aj=4/\r.DR=v.fId)\/ZG (OZ b r).1.AZ v:=by
 obtain ⟨x,h1,h2,h3,h4⟩:=hv
 obtain ⟨e1,e2⟩:=AxY h1
 rcases OBO h e2 with ⟨_,k1,k2⟩ | ⟨y,k1,k2,_,_,_,k3⟩
 ·omega
 ·rw [e1] at k1;exact .inr ⟨y,k1,by omega,h3,by omega⟩
noncomputable def Avv (b:Ap) (r:Ah):Ap:=⟨b.BO,b.CZ,(AzA b.Bc (AzW b.BO b.AU.fCount r).1 0).1,(OZ b.AU r).1,b.BP,b.BD,b.CW⟩
theorem KAu {k:AA} {l:List Ah} {b:Ap} {r:Ah} (g:Good k l b) (hl:l.length<50) (hr:(OZ b.AU r).2=true) :
  zV b r=(true,Avv b r)/\∀ V,(∀ v ∈ V,ZG (OZ b.AU r).1.AZ v)->J6 V->Good k (l++[r]) (AyL (Avv b r) V):=by
 obtain ⟨F,h1,h2⟩:=g.disk
 obtain ⟨T,t1,t2⟩:=zL (k:=k) (r:=r) (i:=l.length) (Qb hr).2.1 (by omega)
 have hlen:(l++[r]).length=l.length+1:=by simp
 have hat:(l++[r])[l.length]'(by omega)=r:=by simp
 obtain ⟨E,e1,e2⟩:=WBp (k:=k) (T:=T) (l:=l++[r]) (i:=l.length) (d:=b.Bc) (by omega) (by omega) (.inr ⟨F,h1,by simp_all⟩) (by simp_all)
 rw [List.take_of_length_le (by omega)] at e2;refine ⟨?_,fun V hV ha=>?_⟩;·rw [zV,Avv,g.key,g.cnt,t1];dsimp only;rw [e1,hr];rfl
 ·have hd:(AzA b.Bc (AzW b.BO b.AU.fCount r).1 0).1=dk E E.size:=by rw [g.key,g.cnt,t1];simp_all
  have hb:=Ax0.1 (Qb hr).2.2.2.1;have hf:=SBO hb.2.2.2.2.2.2 ha fun v hv=>by
   obtain ⟨x,hx,_⟩:=hV v hv
   exact ⟨x,(AxY hx).2,(AxY hx).1⟩
  refine ⟨g.Io,g.key,g.up,⟨E,hd,e2⟩,⟨by omega,by omega⟩,?_,⟨g.Nu.1,?_⟩,g.opn,KBD.2 ⟨hV,ha⟩,?_⟩;·rw [kJ,g.book];dsimp only;rw [Ar,Aye,hr];rfl
  ·exact (IBO (b:=b) (c:=AyL (Avv b r) V) rfl rfl _ _).trans g.Nu.2
  ·show V.length<=8;omega
theorem Good.lives {k:AA} {l:List Ah} {b:Ap} (g:Good k l b):(∀ v ∈ b.BD,ZG b.AU.AZ v)/\J6 b.BD:=KBD.1 g.MC.1
theorem Good.LAu {k:AA} {l:List Ah} {b:Ap} (g:Good k l b):(∀ s ∈ b.BP,1<=s.fId/\s.fId<=b.CW)/\AscS b.BP:=LBD.1 g.Nu.2
theorem EBt {b:Bo} {y:Af} (hb:Ia b=true) (hc:b.fCount<10000) (hy:AwH y=true) (h8:b.AZ.length<8) (hid:y.fId=b.BM+1):(OZ b (AyG y)).2=true:=by have hn:=(AY1 (x:=y) (Ax0.1 hb).2.2.2.2.2.2 (by omega)).2;grind [VU,OZ,AyG,QBR]
theorem YBR {b:Bo} {x y:Af} (hb:Ia b=true) (hc:b.fCount<10000) (hy:AwH y=true) (hx:AwV b.AZ y.fId=some x) (hg:grown x y=true):(OZ b (AyG y)).2=true:=by grind [VU,OZ,AyG,QBR]
theorem FBt {b:Bo} {x:Af} (hb:Ia b=true) (hc:b.fCount<10000) (hx:AwV b.AZ x.fId=some x) (hok:AwH x=true):(OZ b (kH x.fId)).2=true:=by
 obtain ⟨_,_,i1,i2,_⟩:=Ny hok
 grind [Ax8,kH,Na,JC,JB,OZ]
theorem GBt {b:Bo} (hb:Ia b=true) (hc:b.fCount<10000) (w:AA):(OZ b (Ayq w)).2=true:=by rw [OZ,hb,zU,D6 (by omega:¬ b.fCount>=10000)];rfl
def gJ (x:Af):Af:=⟨1,x.Aj,x.CY,x.CX,x.Gw,x.GH,x.fValue,x.fNext⟩
theorem HBt {b:Ap} {c:CV} {x:Af} (hl:0<=b.AU.BM/\b.AU.BM<1000) (h:AwH (gJ x)=true):AwH (newX b c x)=true:=by have h1:AyM (b.AU.BM+1) 1 1000=true:=Na.2 (by omega);rw [AwH] at h ⊢;rw [show AyM (newX b c x).fId 1 1000=true from h1];exact h
theorem ZBR (x:Int) (h f s w:Bool) (k:Int) (hk:k=1/\s=false\/k=2/\w=false) (d:AA) (hd:d.size=32):AwH (gJ ⟨x,k,h,f,s,w,d,0⟩)=true:=by
 rw [AwH,gJ];dsimp only;rw [hd];rcases hk with ⟨rfl,rfl⟩ | ⟨rfl,rfl⟩
 all_goals rfl
theorem IBt {kind:Int} {d:AA} (h:(defaults kind d).2=true):AwH (gJ (defaults kind d).1)=true:=by
 rw [defaults] at h ⊢;by_cases h1:kind=1;·grind [ZBR,AxT]
 ·rw [beq_eq_false_iff_ne.2 h1,Aq] at h ⊢;by_cases h2:kind=2;·grind [ZBR,AxT]
  ·rw [beq_eq_false_iff_ne.2 h2,Aq] at h ⊢;by_cases h3:kind=3
   ·subst h3;rw [show ((3:Int) == 3)=true from rfl,Ar] at h ⊢;by_cases hz:(d.size:Int)<=100;·rw [Ba hz,Ar];rw [AwH,gJ];dsimp only;rw [Ba hz];rfl
    simp_all
   grind
theorem JBt {x:Af} (h:AwH x=true):AwH (gJ (FBR x))=true:=by
 rw [AwH] at h ⊢;simp only [Bool.and_eq_true] at h;obtain ⟨⟨⟨⟨⟨_,h2⟩,_⟩,_⟩,h5⟩,h6⟩:=h
 show (AyM 1 1 1000 && AyM x.Aj 1 3 && AyM 0 0 16 && ((x.Aj == 2) || (((0:Int) == 0) && !false)) && ((x.Aj == 1) || !x.GH) && (bif x.Aj == 3 then decide ((x.fValue.size:Int)<=100) else (x.fValue.size:Int) == 32))=true;grind [AyM]
theorem KBt {t:AA} (h:t.size<=140737488351232) (hr:(fV t).2=true):AwH (fV t).1=true:=by
 rcases (PBE h).2.2 with ⟨_,h2⟩ | h2
 all_goals simp_all [QBC]
theorem AY4 {x:Af} {n:Int} (h:x.fNext<=n) (hi fi:Bool) (h1:(hi || !x.CY)=true) (h2:(fi || !x.CX)=true):grown x ⟨x.fId,x.Aj,hi,fi,x.Gw,x.GH,x.fValue,n⟩=true:=by simp_all [grown]
structure BBS (b:Ap) (c:CV) (code:Int) (r:Ah):Prop where
 num:r.DR<=9223372036854775807
 ent:(OZ b.AU r).2=true
 gone:r.Aj=4->c.Au=9/\r.DR=c.Ag/\code=0
 code:code≠0->r.Aj=2
def MAi (b:Ap) (c:CV) (p:PT):Prop:=p.1=[]\/∃ r,p.1=[r]/\BBS b c p.2.1 r
theorem Ayb {b:Ap} {c:CV} {n:Int}:MAi b c (AzK n):=.inl rfl
theorem CBS {k:AA} {l:List Ah} {b:Ap} {c:CV} {x:Af} {ok:Bool} (g:Good k l b) (h:ok=true->AwH (gJ x)=true):MAi b c (Yw b c x ok):=by
 rw [Yw];cases ok;·exact Ayb
 rw [DN,Aq];have hl:=g.pb.last;have hn:=g.cnt;have h50:=g.len.2;by_cases h8:(b.AU.AZ.length:Int)>=8;·simp_all [Ayb]
 by_cases h1:b.AU.BM>=1000;·simp_all [Ayb]
 ·rw [D6 h8,D6 h1];exact .inr ⟨_,rfl,by show (0:Int)<=_;omega,EBt g.J7 (by omega) (HBt (by omega) (h rfl)) (by omega) rfl,fun h=>absurd h (by show ¬ (3:Int)=4;decide),fun h=>absurd rfl h⟩
theorem Good.thing {k:AA} {l:List Ah} {b:Ap} (g:Good k l b) {x:Af} (hx:x ∈ b.AU.AZ):AwH x=true:=(Axr (Ax0.1 g.J7).2.2.2.2.2.2 x hx).2.2
theorem LBt {tk:AA->AA×Bool} {k:AA} {l:List Ah} {b:Ap} {c:CV} {x:Af} (g:Good k l b) (hx:AwV b.AU.AZ c.Ag=some x):MAi b c (XA tk b c x):=by
 obtain ⟨e1,e2⟩:=AxY hx
 have hok:=g.thing e2;have hx':AwV b.AU.AZ x.fId=some x:=by simp_all
 have hn:=g.cnt;have h50:=g.len.2;obtain ⟨_,_,_,_,n0,n1,_⟩:=Ny hok
 rw [XA];cases c.Au == 6
 ·cases c.Au == 5
  ·cases c.Au == 10
   ·cases c.Au == 12
    ·cases c.Au == 8
     ·cases c.Au == 7
      ·cases h9:c.Au == 9;·exact Ayb
       ·obtain ⟨i1,i2⟩:=(Ny hok).2.2
        exact .inr ⟨_,rfl,by show x.fId<=_;omega,FBt g.J7 (by omega) hx' hok,fun _=>⟨beq_iff_eq.1 h9,e1,rfl⟩,fun h=>absurd rfl h⟩
      ·exact .inl rfl
     ·rw [Ar];cases hc:(Axs x c.CY c.CX).2;·exact Ayb
      ·rw [Axs] at hc ⊢;cases hq:AwH x && ((c.CY || !x.CY) && (c.CX || !x.CX));·grind
       ·simp only [Bool.and_eq_true] at hq;have hy:AwH ⟨x.fId,x.Aj,c.CY,c.CX,x.Gw,x.GH,x.fValue,x.fNext⟩=true:=hok;exact .inr ⟨_,rfl,by show (0:Int)<=_;omega,YBR g.J7 (by omega) hy hx' (AY4 (Int.le_refl _) _ _ hq.2.1 hq.2.2),fun h=>absurd h (by show ¬ (3:Int)=4;decide),fun h=>absurd rfl h⟩
    ·rw [Ar];cases AwF x 4;·exact Ayb
     ·rw [Ar];cases (tk (AwC x.fValue)).2;·exact Ayb
      ·exact .inl rfl
   ·rw [Ar];cases AwF x 2;·exact Ayb
    ·exact .inl rfl
  ·rw [Ar];cases hm:AwF x 3;·exact Ayb
   ·obtain ⟨_,h2,h3⟩:=HAu hm
    rw [Ar,Yg];by_cases h16:DY b x>=16;·simp_all [Ayb]
    ·rw [D6 h16,Aq];cases DY b x != x.fNext
     ·have hnx:x.fNext<=ite (16<x.fNext+3) 16 (x.fNext+3)/\ite (16<x.fNext+3) 16 (x.fNext+3)<=16:=by omega
      have hy:AwH (Aw8 x)=true:=by grind [Aw8,Na,AwH]
      exact .inr ⟨_,rfl,by show (0:Int)<=_;omega,YBR g.J7 (by omega) hy hx' (AY4 hnx.1 _ _ (by simp) (by simp)),fun h=>absurd h (by show ¬ (3:Int)=4;decide),fun h=>absurd rfl h⟩
     ·exact .inl rfl
 ·rw [Ar];cases AwF x 1;·exact Ayb
  ·exact .inl rfl
theorem Yh {tk:AA->AA×Bool} {k:AA} {l:List Ah} {b:Ap} {c:CV} (g:Good k l b):MAi b c (Ib tk b c):=by
 have hn:=g.cnt;have h50:=g.len.2;obtain ⟨t1,t2⟩:=(Ax0.1 g.J7).2.2.1
 rw [Ib];cases c.Au == 1
 ·rw [Aq];by_cases ha:Av3 b c.EJ<0;·simp_all [Ayb]
  rw [D6 ha,Aq];cases c.Au == 13
  ·rw [Aq];cases c.Au == 2
   ·rw [Aq];cases (b.BP.getD (Av3 b c.EJ).toNat ⟨0,false⟩).QW;·exact Ayb
    rw [DN,Aq];cases c.Au == 3
    ·rw [Aq];cases c.Au == 4
     ·rw [Aq];cases c.Au == 11;·grind [Ayb,LBt]
      ·refine CBS g fun h=>JBt (KBt (by grind [QBE]) ?_)
       rw [Bool.and_eq_true] at h;exact h.2
     ·exact CBS g IBt
    ·rw [Ar];cases decide ((c.fText.size:Int) > 20);·exact .inr ⟨_,rfl,by show (0:Int)<=_;omega,GBt g.J7 (by omega) _,fun h=>absurd h (by show ¬ (1:Int)=4;decide),fun h=>absurd rfl h⟩
     simp [Ayb]
   ·rw [Ar,lD];have go:∀ n:Int,0<=n/\n<=3->∀ code,BBS b c code (LAi n):=fun n h code=>⟨by show n<=_;omega,by rw [CBt g.J7 (by omega) h],fun h=>absurd h (by show ¬ (2:Int)=4;decide),fun _=>rfl⟩
    by_cases h3:b.AU.DU>=3;·simp_all [Ayb]
    rw [D6 h3,Aq];cases (Ed c.fText).toList == b.AU.Bv.toList;·exact .inr ⟨_,rfl,go _ (by omega) _⟩
    ·cases b.AU.DU == 0;·exact .inr ⟨_,rfl,go 0 (by omega) _⟩
     ·exact .inl rfl
  ·exact .inl rfl
 ·rw [Ar];cases decide ((b.BP.length:Int)>=3) <;> cases decide (b.CW>=1000) <;> first | exact Ayb | exact .inl rfl
theorem DBS {b:Ap} {c:CV} {code leaf:Int} (h:Ro b) (hS:AscS b.BP) (hV:J6 b.BD) (hlf:leaf<=1000):MK b c code leaf=some (Jb b c code leaf):=by
 have hs:=h.s;have ht:=h.t;have hl:=h.l;have ho:=h.o;cases hc:code != 0
 ·obtain rfl:code=0:=by rw [bne_eq_false_iff_eq] at hc;exact hc
  have tail:∀ m p,SA b.AU c.Ag=some p->(c.Au == 1)=false->(c.Au == 13)=false\/Av3 b c.EJ<0->(c.Au == 2)=false\/Av3 b c.EJ<0->gK (m+1+1) (.c0 leaf p.2 b c ⟨#[]⟩ false ⟨#[]⟩ 0 0 ⟨#[]⟩ 0 0 b.BO b.CZ b.AU.Bv b.AU.DU b.AU.BM b.AU.Dh b.AU.fCount b.CW p.1 [] [] [] [] b.Bc.Ak b.AU.AZ b.BP b.BD)=some (bif c.Au == 5 then W9 b c leaf else bif c.Au == 9 then AyL b (UZ b.BD c.Ag) else b):=by
   intro m p hp _ _ _;have hp0:=XE (b:=b.AU) (t:=c.Ag) (by omega);rw [hp] at hp0;injection hp0 with hp0
   subst hp0;have last:gK (m+1) (.c1 b c ⟨#[]⟩ false ⟨#[]⟩ 0 0 ⟨#[]⟩ 0 0 b.BO b.CZ b.AU.Bv b.AU.DU b.AU.BM b.AU.Dh b.AU.fCount b.CW [] [] [] [] b.Bc.Ak b.AU.AZ b.BP b.BD)=some (bif c.Au == 9 then AyL b (UZ b.BD c.Ag) else b):=by
    rw [gK];simp only [VAq,mk];cases c.Au == 9;·rfl
    ·rw [Ar,Ar,UBD (by omega),AP,<-LBR c.Ag hV,atV];cases hp:Ax4 b.BD c.Ag 0 with
     | none=>rfl
     | some j=>
      have:=(kF hp).2;have hw:=Fq (i:=j) (by omega);have e2:(b.BD.drop (j+1)).take (b.BD.length - (j+1))=b.BD.drop (j+1):=List.take_of_length_le (by rw [List.length_drop];omega);dsimp only;rw [hw,BR,BR,e2,Ep (by omega),GX (by omega),GX (by omega),GX (by rw [List.length_drop];omega),Nat.sub_zero];rfl
   rw [gK];simp only [VAq,mk,last];cases h5:c.Au == 5;·rfl
   ·have h9:(c.Au == 9)=false:=by rw [beq_iff_eq] at h5;rw [h5];rfl
    rw [h9,Ar,Ar,W9];cases AwV b.AU.AZ c.Ag with
    | none=>rfl
    | some x=>
     dsimp only;rw [Ar];by_cases g1:leaf>=0;·rw [A8 (by omega) (by omega),show (qY ⟨b.BO,b.CZ,⟨b.Bc.Ak⟩,⟨b.AU.Bv,b.AU.DU,b.AU.AZ,b.AU.BM,b.AU.Dh,b.AU.fCount⟩,b.BP,b.BD,b.CW⟩ x.fId (leaf+1))=_ from UBs (b:=b) (by omega),TBO _ _ hV,Ba g1];cases x.Aj == 2 <;> cases decide (leaf<x.fNext) <;> rfl
     ·rw [D6 g1];cases x.Aj == 2 <;> rfl
  obtain ⟨m,hm⟩:∃ m,AY=m+1+1:=⟨AY - 2,rfl⟩
  rw [Jb,TT (by rfl)];cases h1:c.Au == 1
  ·rw [Aq];have ent:(c.Au == 13)=false\/Av3 b c.EJ<0->(c.Au == 2)=false\/Av3 b c.EJ<0->MK b c 0 leaf=some (bif c.Au == 5 then W9 b c leaf else bif c.Au == 9 then AyL b (UZ b.BD c.Ag) else b):=by
    intro a1 a2;obtain ⟨p,hp⟩:∃ p,SA b.AU c.Ag=some p:=⟨_,XE (by omega)⟩
    rw [MK,gG,mk,h.copy,AP,TT (by rfl),xk (by omega),AP,hp,AP,h1,Aq,hm,tail m p hp h1 a1 a2];rcases a1 with a1 | a1
    ·rw [a1,Aq];rcases a2 with a2 | a2
     ·rw [a2,Aq]
     ·rw [D6 (by omega:¬ Av3 b c.EJ>=0),Aq];cases c.Au == 2 <;> rfl
    ·rw [D6 (by omega:¬ Av3 b c.EJ>=0),Aq,Aq];cases c.Au == 13 <;> cases c.Au == 2 <;> rfl
   cases h13:c.Au == 13
   ·rw [Aq];cases h2:c.Au == 2;·rw [Aq];exact ent (.inl h13) (.inl h2)
    ·rw [Ar,<-KBR c.EJ hS];cases hp:KQ b.BP c.EJ 0 with
     | none=>
      have hat:Av3 b c.EJ = -1:=by rw [Av3,hp]
      rw [ent (.inl h13) (.inr (by omega)),show (c.Au == 5)=false by rw [beq_iff_eq] at h2;rw [h2];rfl,show (c.Au == 9)=false by rw [beq_iff_eq] at h2;rw [h2];rfl];rfl
     | some j=>
      have hlt:=(AFV hp).2;exact TBs h (beq_iff_eq.1 h2) (by rw [Av3,hp]) (by omega)
   ·rw [Ar,<-JBR c.EJ hS];cases hp:KQ b.BP c.EJ 0 with
    | none=>
     have hat:Av3 b c.EJ = -1:=by rw [Av3,hp]
     have e:=beq_iff_eq.1 h13;rw [ent (.inr (by omega)) (.inr (by omega)),show (c.Au == 5)=false by rw [e];rfl,show (c.Au == 9)=false by rw [e];rfl];rfl
    | some j=>
     have hlt:=(AFV hp).2;exact VBs h (beq_iff_eq.1 h13) (by rw [Av3,hp]) (by omega)
  ·exact SBs h (beq_iff_eq.1 h1)
 ·rw [Jb,hc];exact IBR h hc
theorem Good.EBS {k:AA} {l:List Ah} {b:Ap} (g:Good k l b) {S:List EG} (hS:S.length<=3) (h1:∀ s ∈ S,1<=s.fId/\s.fId<=b.CW) (h2:AscS S):Good k l (nZ b S):=
 g.UBR hS ((LBD (b:=nZ b S)).2 ⟨h1,h2⟩) g.opn
theorem Good.MBt {k:AA} {l:List Ah} {b:Ap} (g:Good k l b) {V:List CS} (hV:V.length<=8) (hs:XF (AyL b V)=true):Good k l (AyL b V):=⟨g.Io,g.key,g.up,g.disk,g.len,g.book,⟨g.Nu.1,(IBO (b:=b) (c:=AyL b V) rfl rfl _ _).trans g.Nu.2⟩,g.opn,⟨hs,hV⟩⟩
theorem Good.FBS {k:AA} {l:List Ah} {b:Ap} (g:Good k l b) {V:List CS} (h1:∀ v ∈ V,ZG b.AU.AZ v) (h2:J6 V):Good k l (AyL b V):=by
 have hb:=Ax0.1 g.J7;have hf:=SBO hb.2.2.2.2.2.2 h2 fun v hv=>by
  obtain ⟨x,hx,_⟩:=h1 v hv
  exact ⟨x,(AxY hx).2,(AxY hx).1⟩
 exact g.MBt (by omega) ((KBD (b:=AyL b V)).2 ⟨h1,h2⟩)
theorem GBS {k:AA} {l:List Ah} {b:Ap} {c:CV} {code leaf:Int} (g:Good k l b) (ho:code=0->c.Au=1->b.BP.length<3/\b.CW<1000):Good k l (Jb b c code leaf):=by
 obtain ⟨v1,v2⟩:=g.lives
 obtain ⟨s1,s2⟩:=g.LAu
 have hs:=g.Nu.1;rw [Jb];cases hc:code != 0
 ·rw [Aq];have hc:code=0:=by simp_all
  cases h1:c.Au == 1
  ·rw [Aq];cases c.Au == 13
   ·rw [Aq];cases c.Au == 2
    ·rw [Aq];cases c.Au == 5
     ·rw [Aq];cases c.Au == 9;·exact g
      ·exact g.FBS (fun v hv=>v1 v (List.mem_filter.1 hv).1) (v2.filter _)
     ·rw [Ar,W9];cases hx:AwV b.AU.AZ c.Ag with
      | none=>exact g
      | some x=>
       dsimp only;cases hq:x.Aj == 2 && (decide (leaf>=0) && decide (leaf<x.fNext));·exact g
       ·simp only [Bool.and_eq_true,decide_eq_true_eq,beq_iff_eq] at hq;refine g.FBS (fun v hv=>?_) (kG v2);rcases xI v2 v hv with rfl | ⟨e,_⟩
        ·exact ⟨x,by rw [(AxY hx).1];exact hx,hq.1,by grind,by grind⟩
        simp_all
    ·refine g.EBS (by simp_all [zN]) (fun s h=>?_) ?_
     ·obtain ⟨t,ht,rfl⟩:=List.mem_map.1 h
      simp_all
     ·exact List.pairwise_map.2 s2
   ·exact g.EBS (Nat.le_trans (List.length_filter_le _ _) hs) (fun s h=>s1 s (List.mem_filter.1 h).1) (s2.filter _)
  ·obtain ⟨o1,o2⟩:=ho hc (beq_iff_eq.1 h1)
   have h3:=g.opn;refine g.UBR (S:=b.BP++[⟨b.CW+1,false⟩]) (o:=b.CW+1) (by grind) ((LBD (b:=⟨b.BO,b.CZ,b.Bc,b.AU,b.BP++[⟨b.CW+1,false⟩],b.BD,b.CW+1⟩)).2 ⟨fun s h=>?_,?_⟩) (by omega);all_goals grind
 ·exact g
theorem NBt {tk:AA->AA×Bool} {b:Ap} {c:CV} (h:(Ib tk b c).2.1=0) (ho:c.Au=1):b.BP.length<3/\b.CW<1000:=by
 rw [Ib,ho,show ((1:Int) == 1)=true from rfl,Ar] at h;by_cases h1:(b.BP.length:Int)>=3;·rw [Ba h1] at h;exact absurd h (by show ¬ (1:Int)=0;decide)
 by_cases h2:b.CW>=1000;·rw [D6 h1,Ba h2] at h;exact absurd h (by show ¬ (1:Int)=0;decide)
 ·omega
noncomputable def Ayl (b:Ap) (c:CV) (p:PT):Ap:=Jb (match p.1 with | []=>b | r::_=>Avv b r) c p.2.1 (Avz b c.Ag)
theorem HBS {tk:AA->AA×Bool} {k:AA} {l:List Ah} {b:Ap} {c:CV} (g:Good k l b) (hl:l.length<50):Good k (l++(Ib tk b c).1) (Ayl b c (Ib tk b c)):=by
 have hop:=NBt (tk:=tk) (b:=b) (c:=c);rw [Ayl];generalize hp:Ib tk b c=p at hop;have hk:MAi b c p:=by grind [Yh]
 rcases hk with h0 | ⟨r,h1,h2⟩
 ·simp_all [GBS]
 ·rw [h1];dsimp only;obtain ⟨v1,v2⟩:=g.lives
  have e:=(KAu g hl h2.ent).2;by_cases h4:r.Aj=4
  ·obtain ⟨o1,o2,o3⟩:=h2.gone h4
   rw [Jb,o1,o3];refine e (UZ b.BD c.Ag) (fun v hv=>?_) (v2.filter _);obtain ⟨q1,q2⟩:=List.mem_filter.1 hv
   rcases XBR h2.ent (v1 v q1) with ⟨_,q3⟩ | q3
   all_goals simp_all
  ·refine GBS (e b.BD (fun v hv=>?_) v2) hop;rcases XBR h2.ent (v1 v hv) with ⟨q3,_⟩ | q3
   all_goals omega
structure Dec (b:Ap):Prop where
 last:Yr (b.AU.BM+1)=some (VH (b.AU.BM+1))
 opn:Yr (b.CW+1)=some (VH (b.CW+1))
theorem IBS {b:Ap} {c:CV} {x:Af} {ok:Bool} (h:PB b) (hd:Dec b):RAc b c x ok=some (Yw b c x ok):=by have hl:=h.last;rw [RAc,KA6,mk,Yw,newX,A8 (by omega) (by omega),hd.last];simp only [Awh (n:=6) (by decide),Awh (n:=1) (by decide),AP];cases ok <;> cases decide ((b.AU.AZ.length:Int)>=8) <;> cases decide (b.AU.BM>=1000) <;> cases x.CY <;> cases x.CX <;> rfl
theorem OBt {b:Ap} {c:CV} (h:PB b) (hd:Dec b) (hc:c.fText.size<=1000):YAo b c=some (FAu b c):=by have hl:=h.last;have hz:=EBR (b.AU.BM+1);have h1:(⟨#[32]⟩:AA).size=1:=rfl;rw [YAo,LA6,mk,FAu,DAu,A8 (by omega) (by omega),hd.last];grind [TBq,IBS]
theorem JBS {b:Ap} (h:b.BO.size=32):SAc b=some (Ld b):=by have h3:(⟨#[111,117,116]⟩:AA).size=3:=rfl;rw [SAc,MA6,mk,IK (by simp_all),Oy (by simp_all)];rfl
theorem KBS {s:AA} (h:s.size<=1000000000):TAc s=some (ofBytes (Rj (bs s))):=by
 have h1:=KX (n:=(s.size:Int)) (by omega);have hl:=bs_len s;have hz:(ofBytes (SN (s.size:Int))++s).size=(SN (s.size:Int)++bs s).length:=by simp_all [Dj]
 have hlen:(SN (s.size:Int)++bs s).length=(SN (s.size:Int)).length+s.size:=by simp_all
 rw [TAc,NA6,mk,ZI (by omega),AP,IK (by grind),hz];have e:(AV (16 - (((SN (s.size:Int)++bs s).length:Int).tmod 16))).tmod 16=(((16 - (SN (s.size:Int)++bs s).length % 16) % 16:Nat):Int):=by grind [A8]
 rw [e,WAr (by omega),AP,IK (by grind [Dj])];refine congrArg some (KW ?_);rw [Hr,Hr,Oa (V6 (by omega)),Oa (fun x hx=>by grind),Oa (WBD (AxC s)),Rj,hl]
theorem PBt {text:AA} {a:Nat} (hs:text.size<=140737488351232) (ha:a<=text.size):Xm text a=some (Ri text a):=by
 have hx:=yF hs ha;rw [Xm,FAc,mk,MBN hs ha,AP,Ri];rcases hx with hx | ⟨v,hx,h0,h1,hA⟩
 ·rw [hx];rfl
 grind [A8,SN]
theorem QBt {k t:AA} (hk:k.size<=900000000) (ht:t.size<=800000000):ZAo k t=some (Ax7 k t):=by
 have hz:=yE k t 0;have hr0:=PBt (text:=(Ee k 0 t).1) (a:=0) (by omega) (DJ _);rw [show ((0:Nat):Int)=0 from rfl] at hr0;rw [ZAo,OA6,mk,CBP hk ht,AP,hr0,AP,Ax7];cases (Ee k 0 t).2;·rfl
 ·rw [TT (by rfl)];cases (Ri (Ee k 0 t).1 0).2.2;·rfl
  ·rw [TT (by rfl)];by_cases h:400<(Ri (Ee k 0 t).1 0).1.size;·grind
   ·have e:decide (((Ri (Ee k 0 t).1 0).1.size:Int) > 400)=false:=D6 (by omega);rw [e,Aq,KBS (by omega),AP,AzS,Oa (WBD (AxC _))];grind
theorem RBt (x:Af):PA6 x=some ⟨0,x.Aj,x.CY,x.CX,false,x.GH,x.fValue,0⟩:=rfl
theorem SBt {b:Ap} {c:CV} (h:PB b) (hd:Dec b) (hc:c.fText.size<=1000):AH3 b c=some (yG b c):=by
 have hz:=QBE (Ld b) c.fText;have hr:=(PBE (t:=(Ax7 (Ld b) c.fText).1) (by omega)).1;have hk:(Ld b).size<=900000000:=by simp [Ld,AxT]
 rw [AH3,QA6,mk,yG,inX];simp only [JBS h.key,QBt hk (show c.fText.size<=800000000 by omega),hr,RBt,IBS h hd,AP];cases (Ax7 (Ld b) c.fText).2 <;> rfl
theorem TBt {b:Ap} {c:CV} {x:Af} (h:PB b) (hc:c.fText.size<=1000) (hx:AwV b.AU.AZ x.fId=some x) (hm:AwF x 3=true):UAp b c x=some (Yg b c x):=by
 obtain ⟨h1,h2,h3⟩:=HAu hm
 obtain ⟨_,_,_,_,n0,n1,_⟩:=Ny h1
 have hv:=bV h1 (.inr h2);have ht:=h.things;have hl:=GAu h.MC hx n0;have C1:Avz b x.fId=DY b x:=by simp_all [Avz]
 rw [UAp,RA7,mk,Yg,VBD h.lln (by omega),AP,C1];by_cases h16:DY b x>=16;·simp_all [Awh]
 ·rw [D6 h16,Aq,Aq,JBr (by omega) (by omega) (by omega),AP,KBr (by omega),AP,A8 (n:=x.fNext+3) (by omega) (by omega)];cases DY b x != x.fNext <;> rfl
theorem UBt {k s:AA} (hk:k.size<=900000000):VAp k s=some (lI k s):=by rw [VAp,SA7,mk,lI];grind [XBD,bs_len,KBS,MBR,Dj]
def VN (g:Nat->Nat) (k:Nat):Nat->Nat
 | 0=>0
 | c+1=>VN g k c+g (8*k+c)*2 ^ (8*c)
theorem XBE {g:Nat->Nat} (hg:∀ i,g i<256) (k:Nat):∀ c,VN g k c<2 ^ (8*c)
 | 0=>Nat.two_pow_pos _
 | c+1=>by have h1:=XBE hg k c;have h2:=hg (8*k+c);have h3:(g (8*k+c)+1)*2 ^ (8*c)<=256*2 ^ (8*c):=Nat.mul_le_mul_right _ h2;grind [VN]
theorem VBt (g:Nat->Nat) (k:Nat):VN g k 8=Px g k:=by rw [PAt];simp only [VN,Nat.reduceMul,Nat.reducePow,Nat.add_zero,Nat.mul_one];omega
theorem WBt {s:AA} (h:s.size=200):WAp s=some (up (Ll (Ay7 s) 25)):=by
 have hp:∀ i,i<=64->2 ^ i<=18446744073709551616:=fun i hi=>Nat.pow_le_pow_right (n:=2) (by decide) hi
 have c2:∀ k:Nat,(2:Int) ^ k=((2 ^ k:Nat):Int):=fun k=>by rfl
 have s1:=AwS (Lp:=qp) (st:=fun i o=>.c0 s (i:Int) (up (List.replicate 25 0)) (up o)) (f:=fun i o=>o.set (i / 8) (o.getD (i / 8) 0 ||| Ay7 s i*2 ^ (8*(i % 8)))) (P:=fun i o=>o.length=25/\∀ k,k<25->o.getD k 0=VN (Ay7 s) k (min 8 (i - 8*k))) (n:=200) 1 (fun m i o hi ho=>by
  obtain ⟨hol,hok⟩:=ho
  have hd:i / 8<25:=by omega
  have hv:=hok (i / 8) hd;rw [show min 8 (i - 8*(i / 8))=i % 8 by omega] at hv;have hb:=XB s i;have hpl:=XBE (XB s) (i / 8) (i % 8);have hor:VN (Ay7 s) (i / 8) (i % 8) ||| Ay7 s i*2 ^ (8*(i % 8))=VN (Ay7 s) (i / 8) (i % 8+1):=by have:=Nat.shiftLeft_add_eq_or_of_lt hpl (Ay7 s i);grind [Nat.shiftLeft_eq,VN]
  have hlt:=XBE (XB s) (i / 8) (i % 8+1);have h64:=hp (8*(i % 8+1)) (by omega);have hbp:Ay7 s i*2 ^ (8*(i % 8))<18446744073709551616:=by grind [VN]
  refine ⟨?_,dY hol,fun k hk=>?_⟩
  ·have w1:AV ((i:Int)+1)=((i+1:Nat):Int):=wn (n:=i+1) (by omega);have e1:AV ((i:Int).tdiv 8)=((i / 8:Nat):Int):=wn (n:=i / 8) (by omega);have e2:(i:Int).tmod 8=((i % 8:Nat):Int):=rfl;have e3:AV (8*((i % 8:Nat):Int))=((8*(i % 8):Nat):Int):=wn (n:=8*(i % 8)) (by omega);have e4:Min.min (8*(i % 8)) (IntKind.bits IntKind.u64)=8*(i % 8):=Nat.min_eq_left (by show 8*(i % 8)<=64;omega);have e5:wu64 ((Ay7 s i:Nat):Int)=((Ay7 s i:Nat):Int):=Axc (by omega);have e6:wu64 (((Ay7 s i:Nat):Int)*((2 ^ (8*(i % 8)):Nat):Int))=((Ay7 s i*2 ^ (8*(i % 8)):Nat):Int):=Axc (n:=Ay7 s i*2 ^ (8*(i % 8))) hbp;have hb2:Nat.beq 25 (up o).length=true:=by simp_all [D7]
   rw [qp];simp only [UA7,mk,w1,e1,e2,e3,BR,e4,c2,RU,e5,e6,Jg];rw [hv,o64 (Nat.lt_of_lt_of_le hpl (hp _ (by omega))) hbp,Jc,IK (by grind),hb2,AzJ (l:=o) (by omega),IK (a:=_) (by rfl),IK (by rfl),IK (by grind),IK (by rfl)];rfl
  grind)
 obtain ⟨m,hm⟩:∃ m,AY=m+1+200*1:=⟨AY - 201,by rfl⟩
 rw [WAp,TA7,mk,hm]
 obtain ⟨a1,a2,a3⟩:=s1 200 0 (m+1) (List.replicate 25 0) (by omega) ⟨rfl,fun k hk=>by
  rw [show min 8 (0 - 8*k)=0 by omega,List.getD_eq_getElem?_getD,List.getElem?_replicate];split <;> rfl⟩
 refine a1.trans ?_;have hfin:Ob (fun i o=>o.set (i / 8) (o.getD (i / 8) 0 ||| Ay7 s i*2 ^ (8*(i % 8)))) 200 0 (List.replicate 25 0)=Ll (Ay7 s) 25:=by
  refine RAt (by assumption) fun k hk=>?_
  rw [Ll,List.length_map,List.length_range] at hk;rw [a3 k hk,Ll,yt hk,<-VBt,show min 8 (200 - 8*k)=8 by omega]
 rw [hfin,qp];rfl
theorem LBS {x n:Nat} (hx:x<18446744073709551616) (hn:n<64):ZV (x:Int) (n:Int)=some ((Axh n x:Nat):Int):=by
 have e0:wu64 (((BitVec.toNat ((BitVec.ofInt (IntKind.bits IntKind.u64) (wu64 (n:Int))) &&& (BitVec.ofInt (IntKind.bits IntKind.u64) 63))):Nat):Int)=(n:Int):=by rw [Axc (n:=n) (by omega)];refine (n64 (a:=n) (b:=63) (by omega) (by decide)).trans ?_;rw [show (63:Nat)=2 ^ 6 - 1 from rfl,Nat.and_two_pow_sub_one_eq_mod,Nat.mod_eq_of_lt (by omega)]
 have e1:wu64 (64 - (n:Int))=((64 - n:Nat):Int):=by grind [Axc]
 have e2:Min.min (n:Int).toNat (IntKind.bits IntKind.u64)=n:=by rw [BR];exact Nat.min_eq_left (by show n<=64;omega)
 have e3:Min.min ((64 - n:Nat):Int).toNat (IntKind.bits IntKind.u64)=64 - n:=by rw [BR];exact Nat.min_eq_left (by show 64 - n<=64;omega)
 have c:∀ k:Nat,(2:Int) ^ k=((2 ^ k:Nat):Int):=fun k=>by rfl
 have e4:wu64 ((x:Int)*((2 ^ n:Nat):Int))=(((x*2 ^ n) % 18446744073709551616:Nat):Int):=TBP (x*2 ^ n);have e5:Int.fdiv (x:Int) ((2 ^ (64 - n):Nat):Int)=((x / 2 ^ (64 - n):Nat):Int):=by grind
 rw [ZV,VA7,mk,e0,e1,e2,e3,c,c,e4,e5,IK (by rfl),o64 (Nat.mod_lt _ (by decide)) (Nat.lt_of_le_of_lt (Nat.div_le_self _ _) hx),QBr hn hx]
theorem XBt (a:List Nat):Ob (fun i c=>c.set (i % 5) (c.getD (i % 5) 0 ^^^ a.getD i 0)) 25 0 [0,0,0,0,0]=(List.range 5).map (AxX a):=by
 have h:Ob (fun i c=>c.set (i % 5) (c.getD (i % 5) 0 ^^^ a.getD i 0)) 25 0 [0,0,0,0,0]=(List.range 5).map fun x=>((((0 ^^^ a.getD x 0) ^^^ a.getD (x+5) 0) ^^^ a.getD (x+10) 0) ^^^ a.getD (x+15) 0) ^^^ a.getD (x+20) 0:=by kernel_rfl
 rw [h];refine List.map_congr_left fun x _=>?_
 rw [Nat.zero_xor];rfl
theorem YBt {a:List Nat} (ha:Awx a):QAd (up a)=some (up ((List.range 25).map (TP a))):=by
 obtain ⟨hl,hw⟩:=ha
 have w1:∀ i:Nat,i<30->AV ((i:Int)+1)=((i+1:Nat):Int):=fun i h=>wn (n:=i+1) (by omega)
 have hb:Nat.beq 25 (up a).length=true:=by simp_all [D7]
 have s1:=AwS (Lp:=Xn) (st:=fun i c=>.c0 (up a) (i:Int) (up a) (up (List.replicate 25 0)) (up c)) (f:=fun i c=>c.set (i % 5) (c.getD (i % 5) 0 ^^^ a.getD i 0)) (P:=fun _ c=>c.length=5/\NK c) (n:=25) 1 (fun m i c hi hc=>by
  refine ⟨?_,BBQ hc.1,hc.2.set _ (xlt (hc.2.get _) (hw.get _))⟩;have e:(i:Int).tmod 5=((i % 5:Nat):Int):=rfl;have h5:i % 5<5:=Nat.mod_lt _ (by decide);have hcl:=hc.1;have hb5:Nat.beq 5 (up c).length=true:=by simp_all [D7]
  rw [Xn];simp only [PAd,mk,w1 i (by omega),e,BR,Jg];rw [IK (by grind),hb,Ar,IK (AzJ (by omega)),hb5,Ar,IK (AzJ (by omega)),Ar,Py (hc.2.get _) (hw.get _),Jc];first | rfl | (rw [IK (AzJ (by omega))]))
 have hc:((List.range 5).map (AxX a)).length=5:=by rfl
 have hb5:Nat.beq 5 (up ((List.range 5).map (AxX a))).length=true:=by rfl
 have s2:=AwS (Lp:=Xn) (st:=fun i b=>.c1 (i:Int) (up b) (up (List.replicate 25 0)) (up ((List.range 5).map (AxX a)))) (f:=fun i b=>b.set i (TP a i)) (P:=fun i b=>b.length=25/\∀ k,i<=k->b.getD k 0=a.getD k 0) (n:=25) 1 (fun m i b hi hb=>by
  obtain ⟨hbl,hbk⟩:=hb
  refine ⟨?_,dY hbl,fun k hk=>by grind⟩;have h5:i % 5<5:=Nat.mod_lt _ (by decide);have e:(i:Int).tmod 5=((i % 5:Nat):Int):=rfl;have e4:AV (((i % 5:Nat):Int)+4)=((i % 5+4:Nat):Int):=wn (n:=i % 5+4) (by omega);have e1:AV (((i % 5:Nat):Int)+1)=((i % 5+1:Nat):Int):=wn (n:=i % 5+1) (by omega);have e2:((i % 5+4:Nat):Int).tmod 5=(((i % 5+4) % 5:Nat):Int):=rfl;have e3:((i % 5+1:Nat):Int).tmod 5=(((i % 5+1) % 5:Nat):Int):=rfl;have h4:(i % 5+4) % 5<5:=Nat.mod_lt _ (by decide);have h1:(i % 5+1) % 5<5:=Nat.mod_lt _ (by decide);have F1:Nat.beq 25 (up b).length=true:=by simp_all [D7]
  have hr:ZV ((AxX a ((i % 5+1) % 5):Nat):Int) 1=some ((Axh 1 (AxX a ((i % 5+1) % 5)):Nat):Int):=LBS (n:=1) (VK hw _) (by decide);have hv:a.getD i 0 ^^^ (AxX a ((i % 5+4) % 5) ^^^ Axh 1 (AxX a ((i % 5+1) % 5)))=TP a i:=rfl;rw [Xn];simp only [PAd,mk,w1 i (by omega),e,e4,e1,e2,e3,BR,Jg];rw [hbk i (Nat.le_refl _),yt h1,yt h4,hr,AP,Py (VK hw _) (mD (by decide) (VK hw _)),Py (hw.get _) (xlt (VK hw _) (mD (by decide) (VK hw _))),hv,Jc,IK (by grind),F1,hb5,AzJ (l:=b) (by omega),AzJ (l:=(List.range 5).map (AxX a)) (by omega),AzJ (l:=(List.range 5).map (AxX a)) (by omega)];rfl)
 obtain ⟨m,hm⟩:∃ m,AY=m+1+25*1+1+25*1:=⟨AY - 52,rfl⟩
 rw [QAd,WA7,mk,hm,hb,Ar];refine (s1 25 0 (m+1+25*1+1) [0,0,0,0,0] rfl ⟨rfl,YBP 5⟩).1.trans ?_;rw [XBt,Xn];simp only [PAd,mk];rw [TT (by rfl)];refine (s2 25 0 (m+1) a rfl ⟨hl,fun _ _=>rfl⟩).1.trans ?_;rw [xM hl,Xn];rfl
theorem ZBt {a:List Nat} (ha:Awx a):SAd (up a)=some (up (qV fun n q=>Axh n (a.getD q 0))):=by
 obtain ⟨hl,hw⟩:=ha
 have ww:∀ n:Nat,n<1000->AV (n:Int)=(n:Int):=fun n h=>wn (by omega)
 have hb:Nat.beq 25 (up a).length=true:=by simp_all [D7]
 have s:=AwS (Lp:=qw) (st:=fun t (s:Nat×Nat×List Nat)=>.c0 (s.1:Int) (s.2.1:Int) (t:Int) (up a) (up (List.replicate 25 0)) (up s.2.2)) (f:=fun t s=>(s.2.1,(2*s.1+3*s.2.1) % 5,s.2.2.set (s.2.1+5*((2*s.1+3*s.2.1) % 5)) (Axh ((t+1)*(t+2) / 2 % 64) (a.getD (s.1+5*s.2.1) 0)))) (P:=fun _ s=>s.1<5/\s.2.1<5/\s.2.2.length=25) (n:=24) 1 (fun m t s ht hs=>by
  obtain ⟨x,y,o⟩:=s
  obtain ⟨hx,hy,ho⟩:=hs
  dsimp only at hx hy ho ⊢;have hz:(2*x+3*y) % 5<5:=Nat.mod_lt _ (by decide);refine ⟨?_,hy,hz,dY ho⟩;have hb2:Nat.beq 25 (up o).length=true:=by simp_all [D7]
  have e1:AV (5*(y:Int))=((5*y:Nat):Int):=ww (5*y) (by omega);have e2:AV ((x:Int)+((5*y:Nat):Int))=((x+5*y:Nat):Int):=ww (x+5*y) (by omega);have e3:AV (2*(x:Int))=((2*x:Nat):Int):=ww (2*x) (by omega);have e4:AV (3*(y:Int))=((3*y:Nat):Int):=ww (3*y) (by omega);have e5:AV (((2*x:Nat):Int)+((3*y:Nat):Int))=((2*x+3*y:Nat):Int):=ww (2*x+3*y) (by omega);have e6:((2*x+3*y:Nat):Int).tmod 5=(((2*x+3*y) % 5:Nat):Int):=rfl;have e7:AV (5*(((2*x+3*y) % 5:Nat):Int))=((5*((2*x+3*y) % 5):Nat):Int):=ww (5*((2*x+3*y) % 5)) (by omega);have e8:AV ((y:Int)+((5*((2*x+3*y) % 5):Nat):Int))=((y+5*((2*x+3*y) % 5):Nat):Int):=ww (y+5*((2*x+3*y) % 5)) (by omega);have f1:AV ((t:Int)+1)=((t+1:Nat):Int):=ww (t+1) (by omega);have f2:AV ((t:Int)+2)=((t+2:Nat):Int):=ww (t+2) (by omega);have f3:AV (((t+1:Nat):Int)*((t+2:Nat):Int))=(((t+1)*(t+2):Nat):Int):=ww ((t+1)*(t+2)) (Nat.lt_of_le_of_lt (Nat.mul_le_mul (show t+1<=24 by omega) (show t+2<=25 by omega)) (by decide));have hq:(t+1)*(t+2) / 2<1000:=Nat.lt_of_le_of_lt (Nat.div_le_self _ _) (Nat.lt_of_le_of_lt (Nat.mul_le_mul (show t+1<=24 by omega) (show t+2<=25 by omega)) (by decide));have f4:(((t+1)*(t+2):Nat):Int).tdiv 2=(((t+1)*(t+2) / 2:Nat):Int):=rfl;have f5:AV (((t+1)*(t+2) / 2:Nat):Int)=(((t+1)*(t+2) / 2:Nat):Int):=ww _ hq;have f6:(((t+1)*(t+2) / 2:Nat):Int).tmod 64=(((t+1)*(t+2) / 2 % 64:Nat):Int):=rfl;rw [qw];simp only [YA7,mk,e1,e2,e3,e4,e5,e6,e7,e8,f1,f2,f3,f4,f5,f6,BR,Jg];rw [LBS (hw.get _) (Nat.mod_lt _ (by decide)),AP,Jc,IK (by grind),hb,hb2,AzJ (l:=a) (by omega),AzJ (l:=o) (by omega)];rfl)
 obtain ⟨m,hm⟩:∃ m,AY=m+1+24*1:=⟨AY - 25,rfl⟩
 rw [SAd,XA7,mk,hm,hb,Ar,IK (by simp_all [D7]),show (0:Int).toNat=0 from rfl,Jg];have h0:Axh 0 (a.getD 0 0)=a.getD 0 0:=XBP (hw.get _);have e:=WBr (fun n q=>Axh n (a.getD q 0));rw [h0] at e;refine (s 24 0 (m+1) (1,0,[a.getD 0 0,0,0,0,0,0,0,0,0,0,0,0,0,0,0,0,0,0,0,0,0,0,0,0,0]) rfl ⟨show 1<5 by decide,show 0<5 by decide,rfl⟩).1.trans ?_;rw [e,qw];rfl
theorem Ajk {b:List Nat} (hb:Awx b):UAd (up b)=some (up ((List.range 25).map (P5 b))):=by
 have ww:∀ n:Nat,n<1000->AV (n:Int)=(n:Int):=fun n h=>wn (by omega)
 have hbl:=hb.1;have hb1:Nat.beq 25 (up b).length=true:=by simp_all [D7]
 have si:∀ y:Nat,y<5->∀ (m:Nat) (o:List Nat),o.length=25->_:=fun y hy=>fun m o ho=>(AwS (Lp:=ZW) (st:=fun x o=>.c1 (y:Int) (y:Int) (x:Int) (up b) (up (List.replicate 25 0)) (up o)) (f:=fun x o=>o.set (x+5*y) (P5 b (x+5*y))) (P:=fun _ o=>o.length=25) (n:=5) 1 (fun m x o hx ho=>by
  refine ⟨?_,dY ho⟩;have e1:AV (5*(y:Int))=((5*y:Nat):Int):=ww (5*y) (by omega);have e2:AV ((x:Int)+((5*y:Nat):Int))=((x+5*y:Nat):Int):=ww (x+5*y) (by omega);have e3:AV ((x:Int)+1)=((x+1:Nat):Int):=ww (x+1) (by omega);have e4:AV ((x:Int)+2)=((x+2:Nat):Int):=ww (x+2) (by omega);have e5:((x+1:Nat):Int).tmod 5=(((x+1) % 5:Nat):Int):=rfl;have e6:((x+2:Nat):Int).tmod 5=(((x+2) % 5:Nat):Int):=rfl;have h1:(x+1) % 5<5:=Nat.mod_lt _ (by decide);have h2:(x+2) % 5<5:=Nat.mod_lt _ (by decide);have e7:AV ((((x+1) % 5:Nat):Int)+((5*y:Nat):Int))=(((x+1) % 5+5*y:Nat):Int):=ww ((x+1) % 5+5*y) (by omega);have e8:AV ((((x+2) % 5:Nat):Int)+((5*y:Nat):Int))=(((x+2) % 5+5*y:Nat):Int):=ww ((x+2) % 5+5*y) (by omega);have hv:b.getD (x+5*y) 0 ^^^ ((18446744073709551615 - b.getD ((x+1) % 5+5*y) 0) &&& b.getD ((x+2) % 5+5*y) 0)=P5 b (x+5*y):=by rw [P5,show (x+5*y) % 5=x by omega,show (x+5*y) / 5=y by omega]
  have hb2:Nat.beq 25 (up o).length=true:=by simp_all [D7]
  rw [ZW];simp only [XAp,mk,e1,e2,e3,e4,e5,e6,e7,e8,BR,Jg,m64];rw [Py (by decide) (hb.2.get _),OBr (hb.2.get _),n64 (by omega) (hb.2.get _),Py (hb.2.get _) (nlt (by omega)),hv,Jc,IK (by grind),hb1,hb2,AzJ (l:=b) (by omega),AzJ (l:=b) (by omega),AzJ (l:=b) (by omega),AzJ (l:=o) (by omega)];rfl) 5 0 m o rfl ho)
 have s:=AwS (Lp:=ZW) (st:=fun y o=>.c0 (y:Int) (up b) (up (List.replicate 25 0)) (up o)) (f:=fun y o=>Ob (fun x o=>o.set (x+5*y) (P5 b (x+5*y))) 5 0 o) (P:=fun _ o=>o.length=25) (n:=5) 7 (fun m y o hy ho=>by
  obtain ⟨i1,i2⟩:=si y hy (m+1) o ho
  refine ⟨?_,i2⟩;have w1:AV ((y:Int)+1)=((y+1:Nat):Int):=ww (y+1) (by omega);grind [ZW,XAp])
 obtain ⟨m,hm⟩:∃ m,AY=m+1+5*7:=⟨AY - 36,rfl⟩
 rw [UAd,ZA7,mk,hm];refine (s 5 0 (m+1) (List.replicate 25 0) rfl rfl).1.trans ?_;rw [UBr,ZW];rfl
theorem BBu:∀ {i:Nat},i<24->YAp (i:Int)=some ((VJ.getD i 0:Nat):Int)
 | 0,_=>by kernel_rfl
 | 1,_=>by kernel_rfl
 | 2,_=>by kernel_rfl
 | 3,_=>by kernel_rfl
 | 4,_=>by kernel_rfl
 | 5,_=>by kernel_rfl
 | 6,_=>by kernel_rfl
 | 7,_=>by kernel_rfl
 | 8,_=>by kernel_rfl
 | 9,_=>by kernel_rfl
 | 10,_=>by kernel_rfl
 | 11,_=>by kernel_rfl
 | 12,_=>by kernel_rfl
 | 13,_=>by kernel_rfl
 | 14,_=>by kernel_rfl
 | 15,_=>by kernel_rfl
 | 16,_=>by kernel_rfl
 | 17,_=>by kernel_rfl
 | 18,_=>by kernel_rfl
 | 19,_=>by kernel_rfl
 | 20,_=>by kernel_rfl
 | 21,_=>by kernel_rfl
 | 22,_=>by kernel_rfl
 | 23,_=>by kernel_rfl
 | i+24,h=>absurd h (by omega)
theorem CBu (a:List Nat):(qV fun n q=>Axh n (((List.range 25).map (TP a)).getD q 0))=Pz a:=by rfl
theorem DBu {a:List Nat} (ha:Awx a):ZAp (up a)=some (up (yu a)):=by
 have s:=AwS (Lp:=YAd) (st:=fun i a=>.c0 (i:Int) (up a) (up (List.replicate 25 0))) (f:=fun i a=>mF a (VJ.getD i 0)) (P:=fun _ a=>Awx a) (n:=24) 1 (fun m i a hi ha=>by
  refine ⟨?_,CBE ha.2 (yx i)⟩;have w1:AV ((i:Int)+1)=((i+1:Nat):Int):=wn (n:=i+1) (by omega);have hb:Nat.beq 25 (up a).length=true:=by rw [D7,ha.1];rfl
  have hth:Awx ((List.range 25).map (TP a)):=⟨by rfl,fun x hx=>by
   rw [List.mem_map] at hx;obtain ⟨p,_,rfl⟩:=hx
   exact AMg ha.2 _⟩
  have hch:=BBE (OAt ha.2).2;have hb2:Nat.beq 25 (up ((List.range 25).map (P5 (Pz a)))).length=true:=by rfl
  have hb3:Nat.beq (up ((List.range 25).map (P5 (Pz a)))).length (up a).length=true:=by assumption
  rw [YAd];simp only [EA8,mk,w1];rw [IK (by grind),hb,Ar,YBt ha,AP,ZBt hth,AP,CBu,Ajk (OAt ha.2),AP,hb3,hb2,BBu (by omega),AP,show (0:Int).toNat=0 from rfl,Jg,XBr rfl rfl (hch.2.get _) (yx i),Jc,show (decide ((0:Int)<=(0:Int)) && decide (0<((up ((List.range 25).map (P5 (Pz a)))).length:Int)))=true from AzJ (i:=0) (by simp)];rfl)
 obtain ⟨m,hm⟩:∃ m,AY=m+1+24*1:=⟨AY - 25,rfl⟩
 rw [ZAp,DA8,mk,hm];refine (s 24 0 (m+1) a rfl ha).1.trans ?_;rfl
theorem EBu {a:List Nat} (ha:Awx a):AIA (up a)=some (ofBytes (up (P6 a))):=by
 have c2:∀ k:Nat,(2:Int) ^ k=((2 ^ k:Nat):Int):=fun k=>by rfl
 have hb:Nat.beq 25 (up a).length=true:=by rw [D7,ha.1];rfl
 have hal:=ha.1
 have s1:=AwS (Lp:=qx) (st:=fun i o=>.c0 ((200:Nat):Int) (i:Int) (up a) (up o)) (f:=fun i o=>o.set i (VL a i)) (P:=fun _ o=>o.length=200) (n:=200) 1 (fun m i o hi ho=>by
  refine ⟨?_,by simp_all⟩;have w1:AV ((i:Int)+1)=((i+1:Nat):Int):=wn (n:=i+1) (by omega);have e1:AV ((i:Int).tdiv 8)=((i / 8:Nat):Int):=wn (n:=i / 8) (by omega);have e2:(i:Int).tmod 8=((i % 8:Nat):Int):=rfl;have e3:AV (8*((i % 8:Nat):Int))=((8*(i % 8):Nat):Int):=wn (n:=8*(i % 8)) (by omega);have e4:Min.min (8*(i % 8)) (IntKind.bits IntKind.u64)=8*(i % 8):=Nat.min_eq_left (by show 8*(i % 8)<=64;omega);have e5:w8 (Int.fdiv ((a.getD (i / 8) 0:Nat):Int) ((2 ^ (8*(i % 8)):Nat):Int))=((VL a i:Nat):Int):=by rw [bJ,Int.fdiv_eq_ediv_of_nonneg _ (Int.natCast_nonneg _)];rfl
  rw [qx];simp only [GA8,mk,w1,e1,e2,e3,BR,e4,c2,Jg];rw [e5,Jc,IK (by grind),hb,AzJ (l:=a) (by omega),IK (a:=_) (by rfl),IK (by rfl),IK (by rfl),IK (AzJ (by omega))])
 obtain ⟨m,hm⟩:∃ m,AY=m+1+200*1:=⟨AY - 201,by rfl⟩
 rw [AIA,FA8,mk,hm,show (200:Int).toNat=200 from rfl,List.length_replicate,<-Avq];refine (s1 200 0 (m+1) (List.replicate 200 0) (by omega) List.length_replicate).1.trans ?_;rw [xM (v:=VL a) List.length_replicate,qx];rfl
theorem MBS {s:AA} (h:s.size=200):gQ s=some (bg s):=by have hl:=FBQ (XB s);rw [gQ,HA8,mk,TT (by simp_all),WBt h,AP,DBu hl,AP,EBu (DBE hl)];rfl
theorem FBu {s:AA} {f:Nat} (hs:s.size<=2000) (hf:f<256):BAe s 168 (f:Int)=some (mP s f):=by
 obtain ⟨q,hq,hq2⟩:=JBQ s f
 have hbuf:=IBQ s hf
 have sp:=AwS (Lp:=Ru) (st:=fun i l=>.c0 168 (up l)) (f:=fun _ l=>l++[0]) (P:=fun i l=>l.length=s.size+1+i) (n:=(168 - (s.size+1) % 168) % 168) 1 (fun m i l hi hl=>by
  grind [Ru,ZX,D7,AwO])
 have si:∀ (p:Nat) (st:List Nat),p<q->Awx st->∀ m,∃ v,v.length=200/\B8 v/\Ll (Ay7 (ofBytes (up v))) 25=dZ st (fun i=>(Av6 s f).getD (168*p+i) 0)/\Ru (m+168*1) (.c2 168 ((168*p:Nat):Int) 168 ((0:Nat):Int) (up (Av6 s f)) (up (P6 st)))=Ru m (.c2 168 ((168*p:Nat):Int) 168 ((168:Nat):Int) (up (Av6 s f)) (up v)):=by
  intro p st hp hst m;have hk8:B8 (P6 st):=GBQ st
  obtain ⟨a1,a2,a3,a4⟩:=AwS (Lp:=Ru) (st:=fun i v=>.c2 168 ((168*p:Nat):Int) 168 (i:Int) (up (Av6 s f)) (up v)) (f:=fun i v=>v.set i (v.getD i 0 ^^^ (Av6 s f).getD (168*p+i) 0)) (P:=fun i v=>v.length=200/\B8 v/\∀ k,k<200->v.getD k 0=if k<i then VL st k ^^^ (Av6 s f).getD (168*p+k) 0 else VL st k) (n:=168) 1 (fun m i v hi hv=>by
   obtain ⟨v1,v2,v3⟩:=hv
   refine ⟨?_,by simp_all,v2.set _ (IBE (v2.get _) (hbuf.get _)),fun k hk=>?_⟩;·have w1:AV ((i:Int)+1)=((i+1:Nat):Int):=wn (n:=i+1) (by omega);have e1:AV (((168*p:Nat):Int)+(i:Int))=((168*p+i:Nat):Int):=wn (n:=168*p+i) (by omega);rw [Ru];simp only [ZX,mk,w1,e1,BR,Jg];rw [x8 (v2.get _) (hbuf.get _),Jc,IK (by grind),IK (AzJ (by omega)),IK (AzJ (by omega)),IK (AzJ (by omega))]
   grind) 168 0 m (P6 st) (by omega) ⟨CBs st,hk8,fun k hk=>by simp_all [P6]⟩
  refine ⟨_,a2,a3,?_,a1⟩;generalize Ob (fun i v=>v.set i (v.getD i 0 ^^^ (Av6 s f).getD (168*p+i) 0)) 168 0 (P6 st)=v at a2 a3 a4;refine List.map_congr_left fun k hk=>?_
  have hk:=List.mem_range.1 hk;by_cases h21:k<21
  ·rw [if_pos h21,<-EBQ hst.2,<-ZBr (DBQ st) (fun _=>hbuf.get _)];refine FBE fun i hi=>?_
   have h8:8*k+i<168:=by omega
   rw [QAt a3 (by omega),a4 _ (by omega),if_pos h8]
  ·rw [if_neg h21,<-EBQ hst.2];refine FBE fun i hi=>?_
   have h8:¬ 8*k+i<168:=by omega
   rw [QAt a3 (by omega),a4 _ (by omega),if_neg h8]
 have so:=AwS (Lp:=Ru) (st:=fun p st=>.c1 168 ((168*p:Nat):Int) (up (Av6 s f)) (up (P6 st))) (f:=mQ (Av6 s f)) (P:=fun _ st=>Awx st) (n:=q) 170 (fun m p st hp hst=>by
  refine ⟨?_,LBE hbuf hst⟩;have e1:AV (((168*p:Nat):Int)+168)=((168*(p+1):Nat):Int):=by rw [show ((168*p:Nat):Int)+168=((168*(p+1):Nat):Int) by omega];exact wn (n:=168*(p+1)) (by omega)
  obtain ⟨v,v1,v2,v3,v4⟩:=si p st hp hst (m+1)
  have hvs:(ofBytes (up v)).size=200:=by grind [Dj,D7]
  have hps:=HBQ (ofBytes (up v));rw [show m+170=(m+1)+168*1+1 by omega,Ru];simp only [ZX,mk];rw [IK (by simp_all [D7])];refine v4.trans ?_;rw [Ru];simp only [ZX,mk,e1];rw [TT (by rfl),MBS hvs,AP,IK (by rfl),bg,v3,dn,EBs (GBQ _)];rfl)
 have F0:(168 - (s.size+1) % 168) % 168<168:=Nat.mod_lt _ (by decide);have hl1:(AyN s++[f]).length=s.size+1:=by simp [dh]
 obtain ⟨m,hm⟩:∃ m,AY=(m+1+q*170)+1+((168 - (s.size+1) % 168) % 168)*1:=⟨AY - (1+q*170+1+(168 - (s.size+1) % 168) % 168),by have:=FM (n:=1+q*170+1+(168 - (s.size+1) % 168) % 168) (by omega);omega⟩
 have hzs:(bytesOf s).length=s.size:=by simp_all [dn,D7]
 rw [BAe,IA8,mk,hm,IK (by grind),IK (by grind),dn,AwO];refine (sp ((168 - (s.size+1) % 168) % 168) 0 _ (AyN s++[f]) (by omega) hl1).1.trans ?_;have hpl:Ob (fun _ l=>l++[0]) ((168 - (s.size+1) % 168) % 168) 0 (AyN s++[f])=LJ (AyN s++[f]):=by simp_all [mO,LJ]
 have DM:B8 (LJ (AyN s++[f])):=HBE (JBE s hf);have C2:=GBE (AyN s++[f]);rw [hl1] at C2;have e2:((up (LJ (AyN s++[f]))).length:Int).tmod 168=(((up (LJ (AyN s++[f]))).length % 168:Nat):Int):=rfl;have e3:AV (((up (LJ (AyN s++[f]))).length:Int) - 1)=(((LJ (AyN s++[f])).length - 1:Nat):Int):=by grind [D7,wn]
 have hz0:P6 (List.replicate 25 0)=List.replicate 200 0:=by kernel_rfl
 rw [hpl,Ru];simp only [ZX,mk,e2,e3,BR,Jg];rw [IK (by rfl),TT (by grind [D7]),IK (AzJ (by omega)),IK (AzJ (by omega)),show (128:Int)=((128:Nat):Int) from rfl,x8 (DM.get _) (by decide),Jc,show (200:Int).toNat=200 from rfl,<-Avq,<-hz0];show Ru (m+1+q*170) (.c1 168 0 (up (Av6 s f)) (up (P6 (List.replicate 25 0))))=_;refine (so q 0 (m+1) (List.replicate 25 0) (by omega) KBE).1.trans ?_;have hfin:Ob (mQ (Av6 s f)) q 0 (List.replicate 25 0)=mV s f:=by simp_all [mV]
 rw [hfin,Ru];simp only [ZX,mk];rw [TT (by simp_all [D7])];rfl
theorem NBS {s:AA} (h:s.size<=2000):qy s=some ⟨sd s,0⟩:=by have e:BAe s 168 31=some (mP s 31):=FBu (f:=31) h (by decide);rw [qy,JA8,e];rfl
end Go.Proofs.YtkbbicgglblfiaaGreatDoor.G
