/- The plain law of FnTop: whatever the arguments, it answers true. Conditions: what is read is in reach. Part 4 of 4. -/
import Derived.Test.YtkbbicgglblfiaaGreatDoorPureFnTopc
namespace Go.Proofs.YtkbbicgglblfiaaGreatDoor.G
open Go Go.Ev
set_option linter.unusedVariables false
set_option linter.unusedSimpArgs false
set_option linter.unusedSectionVars false
variable [PC]
theorem WBx (l:List Ah) (b n:Bo) (i:Nat) (hi:i<l.length) (hl:l.length<=140737488351232) (hb:b.AZ.length<=1000) (hn:n.AZ.length<=1000):∀ (j k m:Nat),k+j=b.AZ.length->
  AyB (m+j+1) (.c1 l (i:Int) (k:Int) b.Bv b.DU b.BM b.Dh b.fCount n.Bv n.DU n.BM n.Dh n.fCount b.AZ n.AZ)=bif (b.AZ.drop k).all (Wx n.AZ) then AyB m (.c0 l ((i+1:Nat):Int) n.Bv n.DU n.BM n.Dh n.fCount n.AZ) else some false:=by
 intro j;induction j with
 | zero=>
  intro k m h;obtain rfl:k=b.AZ.length:=by omega
  have e:=Fq (i:=i) (by omega);rw [AyB];simp only [jw,mk,e];rw [TT (by simp),List.drop_length];rfl
 | succ j ih=>
  intro k m h;have hk:k<b.AZ.length:=by omega
  have e:=Fq (i:=k) (by omega);have h2:=ih (k+1) m (by omega);rw [show m+(j+1)+1=(m+j+1)+1 by omega,AyB];simp only [jw,mk,e,BR,getD_at hk];rw [IK (by simp;omega),IK (by simp;omega),bT (b:=⟨n.Bv,n.DU,n.AZ,n.BM,n.Dh,n.fCount⟩) (by show n.AZ.length<=_;omega),AP,drop_at hk,List.all_cons,Wx,h2];cases ht:AwV n.AZ b.AZ[k].fId with
  | none=>rfl
  | some y=>
   simp only [Ar,stay,AzS,bne];cases b.AZ[k].Aj == y.Aj <;> cases bs b.AZ[k].fValue == bs y.fValue <;> cases b.AZ[k].CY <;> cases y.CY <;> cases b.AZ[k].CX <;> cases y.CX <;> cases decide (y.fNext<b.AZ[k].fNext) <;> rfl
theorem XBx {l:List Ah} (hl:l.length<=140737488351232):wz l=some (TK DX l):=by
 have key:∀ (j i m:Nat) (b:Bo),i+j=l.length->b.AZ.length<=8->AyB (m+12*j+1) (.c0 l (i:Int) b.Bv b.DU b.BM b.Dh b.fCount b.AZ)=some (TK b (l.drop i)):=by
  intro j;induction j with
  | zero=>
   intro i m b h hb;obtain rfl:i=l.length:=by omega
   rw [AyB];simp only [jw,mk];rw [TT (by simp),List.drop_length];rfl
  | succ j ih=>
   intro i m b h hb;have hi:i<l.length:=by omega
   rw [show m+12*(j+1)+1=(((m+10 - b.AZ.length)+12*j+1)+b.AZ.length+1)+1 by omega,AyB];simp only [jw,mk,BR,getD_at hi];rw [IK (by simp;omega),IK (by simp;omega),xA (b:=b) (by omega),AP,drop_at hi,TK];cases h2:(OZ b l[i]).2;·rfl
   ·have h3:=xB h2;rw [TT (by rfl)];have h4:=WBx l b (OZ b l[i]).1 i hi hl (by omega) (by omega) b.AZ.length 0 ((m+10 - b.AZ.length)+12*j+1) (by omega);rw [show ((0:Nat):Int)=0 from rfl,List.drop_zero] at h4;rw [h4,ih (i+1) _ (OZ b l[i]).1 (by omega) h3];cases b.AZ.all (Wx (OZ b l[i]).1.AZ) <;> rfl
 obtain ⟨m,hm⟩:∃ m,AY=m+12*l.length+1:=⟨AY - (12*l.length+1),by have:=FM (n:=12*l.length+1) (by omega);omega⟩
 rw [wz,AKz,mk,bU,AP,hm];exact key l.length 0 m DX (by omega) (DJ _)
theorem YBx {l:Bg} (hk:l.AX.BO.size<=900000000) (hd:l.AX.Bc.Ak.length<=140737488351232) (hf:∀ f ∈ l.AX.Bc.Ak,f.fText.size<=140737488351232) (ht:l.AX.AU.AZ.length<=140737488351232) (hs:l.AX.BP.length<=140737488351232) (hv:l.AX.BD.length<=140737488351232) (hg:l.Cm.length*24<=140737488351232) (hl:l.CO.length<=140737488351232):KAr l=some (ZAu l):=by
 have key:∀ (j i m:Nat),i+j=l.Cm.length->jy (m+j+1) (.c0 (i:Int) l)=some (Yd l j i && kC l):=by
  intro j;induction j with
  | zero=>
   intro i m hi;rw [jy];simp only [JAr,mk,TBx (show l.Cm.length<=140737488351232 by omega),UBx (show l.Cm.length<=140737488351232 by omega),VBx hk hd hf hl,XBx hl,RBU hd hf ht hs hv,AP];rw [TT (by simp;omega),kC];cases Ol (Pm l.Cm) l.Cm.length 0 <;> cases Ol (Axb l.Cm) l.Cm.length 0 <;> cases Wy l <;> cases TK DX l.CO <;> rfl
  | succ j ih=>
   intro i m hi;have hw:=Fq (i:=i) (by omega);have d1:decide ((i:Int)<(l.Cm.length:Int))=true:=Ba (by omega);have d0:decide ((0:Int)<=(i:Int))=true:=Ba (by omega);rw [AwB m j,jy];simp only [JAr,mk,d0,d1,Bool.and_self,Ar,BR,hw,ih (i+1) m (by omega),SBx hl,AP,Yd];cases decide ((l.Cm.getD i ⟨0,0,0⟩).Dv>=Ayp l.CO (l.Cm.getD i ⟨0,0,0⟩).Ag l.CO.length 0 0) <;> rfl
 obtain ⟨m,hm⟩:=gm (n:=l.Cm.length) (by omega)
 rw [KAr,BBB,hm];exact key l.Cm.length 0 m (Nat.zero_add _)
theorem WBU {k:AA} {P:List Ah->Bg->Prop}:∀ {es:List DW} {l:List Ah} {L:Bg},(∀ e ∈ es,AwI e)->(∀ l L l' L' e,e ∈ es->AzZ k l L->P l L->Step k e l L l' L'->P l' L')->AzZ k l L->P l L->L.Bq.length+es.length<=45->
  ∃ l' L',VE es (L.Bq.length:Int) L=some L'/\AzZ k l' L'/\P l' L'/\L'.Bq.length=L.Bq.length+es.length
 | [],l,L,_,_,h,hp,_=>⟨l,L,rfl,h,hp,rfl⟩
 | e::es,l,L,he,hs,h,hp,hn=>by
  rw [List.length_cons] at hn;obtain ⟨l1,L1,s1,s2⟩:=VAu h (he e (List.mem_cons_self ..)) (by omega)
  obtain ⟨g1,g2⟩:=MAu h (by omega) s2
  obtain ⟨l2,L2,r1,r2,r3,r4⟩:=WBU (fun e h=>he e (List.mem_cons_of_mem _ h)) (fun l L l' L' e h=>hs l L l' L' e (List.mem_cons_of_mem _ h)) g1 (hs _ _ _ _ e (List.mem_cons_self ..) h hp s2) (by omega)
  grind [VE]
theorem XBU {k:AA}:∀ {es:List DW} {l:List Ah} {L:Bg},(∀ e ∈ es,AwI e)->AzZ k l L->L.Bq.length+es.length<=45->Ye es (L.Bq.length:Int) L=VE es (L.Bq.length:Int) L
 | [],_,_,_,_,_=>rfl
 | e::es,l,L,he,h,hn=>by
  rw [List.length_cons] at hn;obtain ⟨l1,L1,s1,s2⟩:=VAu h (he e (List.mem_cons_self ..)) (by omega)
  obtain ⟨g1,g2⟩:=MAu h (by omega) s2
  have ih:=XBU (fun e h=>he e (List.mem_cons_of_mem _ h)) g1 (by omega);rw [g2] at ih;rw [Ye,<-QBw h (he e (List.mem_cons_self ..)) (by omega),VE,s1,AP,AP];exact ih
theorem ZBx:Ok (IAn ()) fun r=>r.1.size=32/\r.2.1.size<=20/\r.2.2.length<=39/\∀ e ∈ r.2.2,AwI e:=by rw [IAn,LA3,mk];exact Ok.bind SBj fun c hc=>Ok.bind (YBw hc) fun a ha=>Ok.ret ⟨ha.1.k,ha.1.w,ha.1.n,ha.1.e⟩
theorem Af7 {P:List Ah->Bg->Prop} {k w:AA} {es:List DW} (hk:k.size=32) (hw:w.size<=20) (hn:es.length<=39) (he:∀ e ∈ es,AwI e) (h0:P [Ayq w] (Axk k w)) (hs:∀ l L l' L' e,e ∈ es->AzZ k l L->P l L->Step k e l L l' L'->P l' L'):∃ l L,kD k w es=some (L,true)/\AzZ k l L/\P l L/\L.Bq.length=es.length:=by
 obtain ⟨l,L,h1,h2,h3,h4⟩:=WBU he hs (XAu hk hw) h0 (by show 0+es.length<=45;omega)
 grind [Axk,UBU]
theorem BBy {k w:AA} {es:List DW} (hk:k.size=32) (hw:w.size<=20) (hn:es.length<=39) (he:∀ e ∈ es,AwI e):xC k w es=kD k w es:=by
 have h1:Ye es 0 (Axk k w)=VE es 0 (Axk k w):=XBU he (XAu hk hw) (by show 0+es.length<=45;omega);have hall:es.all UW=true:=List.all_eq_true.2 fun e h=>(he e h).1
 rw [VBw (by omega) (by omega),(xE hk hw).1,Ba (by omega:es.length<=40),hall,UBU hk hw (by omega) he,h1];rfl
theorem CBy {r:Ah} {t:AA} (h:Ax8 r=(t,true)):r.DR<=9223372036854775807:=by
 rcases RBC h with ⟨s,rfl,hz,rfl⟩ | ⟨n,rfl,h0,h1,rfl⟩ | ⟨t,s,rfl,ht,rfl⟩ | ⟨n,rfl,h0,h1,rfl⟩
 all_goals (simp only;omega)
def lastOf (l:List Ah) (t:Int):Int:=Ayp l t l.length 0 0
theorem DBy (l:List Ah) (r:Ah) (t:Int):∀ (j i:Nat) (n:Int),i+j=l.length->Ayp (l++[r]) t (j+1) i n=bif r.Aj == 3 && r.Ag.fId == t then r.Ag.fNext else Ayp l t j i n:=by
 intro j;induction j with
 | zero=>
  intro i n h;have e:(l++[r]).getD i ⟨0,⟨#[]⟩,0,⟨0,0,false,false,false,false,⟨#[]⟩,0⟩⟩=r:=by rw [getD_at (by rw [List.length_append,List.length_singleton];omega),List.getElem_append_right (by omega)];simp
  have e2:Ayp (l++[r]) t (0+1) i n=bif ((l++[r]).getD i ⟨0,⟨#[]⟩,0,⟨0,0,false,false,false,false,⟨#[]⟩,0⟩⟩).Aj == 3 && ((l++[r]).getD i ⟨0,⟨#[]⟩,0,⟨0,0,false,false,false,false,⟨#[]⟩,0⟩⟩).Ag.fId == t then ((l++[r]).getD i ⟨0,⟨#[]⟩,0,⟨0,0,false,false,false,false,⟨#[]⟩,0⟩⟩).Ag.fNext else n:=rfl
  rw [e2,e];rfl
 | succ j ih=>
  intro i n h;have e:(l++[r]).getD i ⟨0,⟨#[]⟩,0,⟨0,0,false,false,false,false,⟨#[]⟩,0⟩⟩=l.getD i ⟨0,⟨#[]⟩,0,⟨0,0,false,false,false,false,⟨#[]⟩,0⟩⟩:=by rw [getD_at (by rw [List.length_append,List.length_singleton];omega),getD_at (by omega),List.getElem_append_left (by omega)]
  rw [Ayp,e,ih (i+1) _ (by omega)];conv=>rhs;rw [Ayp]
theorem OBF (l:List Ah) (r:Ah) (t:Int):lastOf (l++[r]) t=bif r.Aj == 3 && r.Ag.fId == t then r.Ag.fNext else lastOf l t:=by rw [lastOf,List.length_append,List.length_singleton,DBy l r t l.length 0 0 (Nat.zero_add _)];rfl
theorem xG {b:Bo} {r:Ah} (h:(OZ b r).2=true):(r.Aj≠3/\r.Aj≠4/\(OZ b r).1.AZ=b.AZ/\(OZ b r).1.BM=b.BM)\/(r.Aj=3/\∃ o,AwV b.AZ r.Ag.fId=some o/\grown o r.Ag=true/\(OZ b r).1.AZ=putAt b.AZ r.Ag/\(OZ b r).1.BM=b.BM)\/(r.Aj=3/\(OZ b r).1.AZ=b.AZ++[r.Ag]/\r.Ag.fId=b.BM+1/\(OZ b r).1.BM=b.BM+1)\/(r.Aj=4/\(OZ b r).1.AZ=without b.AZ r.DR/\(OZ b r).1.BM=b.BM):=by
 have h2:=(Qb h).2.1;rw [OZ] at h ⊢;cases hc:(!(Ia b) || (!(Ax8 r).2 || decide (b.fCount>=10000)))
 ·rw [hc] at h;simp only [Aq] at h ⊢;rcases kE h2 with ⟨hk,hz⟩ | ⟨hk,hz⟩ | ⟨hk,hz⟩ | ⟨hk,hz⟩
  ·rw [hk];exact .inl ⟨by decide,by decide,rfl,rfl⟩
  ·rw [hk];exact .inl ⟨by decide,by decide,rfl,rfl⟩
  ·rw [hk] at h ⊢;simp only [show ((3:Int) == 1)=false from rfl,show ((3:Int) == 2)=false from rfl,show ((3:Int) == 3)=true from rfl,Ar,Aq] at h ⊢;rw [VU] at h ⊢;cases ht:AwV b.AZ r.Ag.fId with
   | some o=>
    rw [ht] at h;simp only at h ⊢;cases hg:grown o r.Ag;·rw [hg] at h;cases h
    ·exact .inr (.inl ⟨trivial,o,rfl,hg,rfl,rfl⟩)
   | none=>
    rw [ht] at h;simp only at h ⊢;cases hg:(r.Ag.fId != b.BM+1 || decide ((b.AZ.length:Int)>=8))
    ·rw [Bool.or_eq_false_iff,bne_eq_false_iff_eq] at hg;exact .inr (.inr (.inl ⟨trivial,rfl,hg.1,hg.1⟩))
    ·rw [hg] at h;cases h
  ·rw [hk] at h ⊢;simp only [show ((4:Int) == 1)=false from rfl,show ((4:Int) == 2)=false from rfl,show ((4:Int) == 3)=false from rfl,Aq] at h ⊢;cases ht:AwV b.AZ r.DR with
   | none=>rw [ht] at h;cases h
   | some x=>exact .inr (.inr (.inr ⟨trivial,rfl,rfl⟩))
 ·rw [hc] at h;cases h
def NB (l:List Ah) (b:Bo):Prop:=∀ x ∈ b.AZ,lastOf l x.fId=x.fNext
theorem YBU {l:List Ah} {b:Bo} {r:Ah} (hn:NB l b) (h:(OZ b r).2=true):NB (l++[r]) (OZ b r).1:=by
 have hr:=(Ax0.1 (Qb h).1).2.2.2.2.2.2;intro x hx;rw [OBF];rcases xG h with ⟨k3,_,e,_⟩ | ⟨k3,o,ho,_,e,_⟩ | ⟨k3,e,hid,_⟩ | ⟨k4,e,_⟩
 ·rw [beq_eq_false_iff_ne.2 k3];exact hn x (by rw [<-e];exact hx)
 ·rw [k3];rw [e,putAt,List.mem_append,List.mem_cons,Qc,VW,List.mem_filter,List.mem_filter,decide_eq_true_eq,decide_eq_true_eq] at hx;rcases hx with ⟨h1,h2⟩ | rfl | ⟨h1,h2⟩
  ·rw [beq_eq_false_iff_ne.2 (by omega:r.Ag.fId≠x.fId),Bool.and_false];exact hn x h1
  ·rw [beq_self_eq_true,beq_self_eq_true];rfl
  ·rw [beq_eq_false_iff_ne.2 (by omega:r.Ag.fId≠x.fId),Bool.and_false];exact hn x h1
 ·rw [k3];rw [e,List.mem_append,List.mem_singleton] at hx;rcases hx with h1 | rfl
  ·have:=Axr hr x h1;rw [beq_eq_false_iff_ne.2 (by omega:r.Ag.fId≠x.fId),Bool.and_false];exact hn x h1
  ·rw [beq_self_eq_true,beq_self_eq_true];rfl
 ·rw [k4];rw [e,without,List.mem_filter] at hx;exact hn x hx.1
theorem ZBU {l:List Ah} {b:Bo} {r:Ah} {t:Int} (hn:NB l b) (h:(OZ b r).2=true) (ht:t<=b.BM):lastOf l t<=lastOf (l++[r]) t:=by
 rw [OBF];cases hq:r.Aj == 3 && r.Ag.fId == t;·exact Int.le_refl _
 ·rw [Ar];rw [Bool.and_eq_true,beq_iff_eq,beq_iff_eq] at hq;rcases xG h with ⟨k3,_⟩ | ⟨_,o,ho,hg,_⟩ | ⟨_,_,hid,_⟩ | ⟨k4,_⟩
  ·exact absurd hq.1 k3
  ·obtain ⟨e1,e2⟩:o.fId=r.Ag.fId/\o ∈ b.AZ:=by rw [AwV] at ho;have h9:=List.find?_some ho;exact ⟨beq_iff_eq.1 h9,List.mem_of_find?_eq_some ho⟩
   have h1:=hn o e2;have h2:=(IBD hg).2.2.2.2;rw [e1,hq.2] at h1;omega
  ·omega
  ·omega
theorem EBy {ls:List CS} (h:J6 ls) {v w:CS} (hv:v ∈ ls) (hw:w ∈ ls) (e:v.fId=w.fId):v=w:=by
 obtain ⟨i,hi,rfl⟩:=List.mem_iff_getElem.1 hv
 obtain ⟨j,hj,rfl⟩:=List.mem_iff_getElem.1 hw
 rcases Nat.lt_trichotomy i j with q | q | q
 ·have:=List.pairwise_iff_getElem.1 h i j hi hj q;omega
 ·subst q;rfl
 ·have:=List.pairwise_iff_getElem.1 h j i hj hi q;omega
theorem xH {b:Ap} {x:Af} {v:CS} (h:J6 b.BD) (hv:v ∈ b.BD) (e:v.fId=x.fId):DY b x=v.fNext:=by
 rw [DY];cases hp:Ax4 b.BD x.fId 0 with
 | none=>
  exfalso;have:∀ {ls:List CS} {i:Nat},Ax4 ls x.fId i=none->∀ v ∈ ls,v.fId≠x.fId:=by
   intro ls;induction ls with
   | nil=>intro i _ v hv;cases hv
   | cons f fs ih=>
    intro i h v hv;rw [Ax4] at h;split at h;·cases h
    ·rename_i h1;rcases List.mem_cons.1 hv with rfl | hv
     ·exact fun q=>h1 (beq_iff_eq.2 q)
     ·exact ih h v hv
  exact this hp v hv e
 | some j=>
  have h1:=(kF hp).2;have h2:=GBR hp;rw [Nat.sub_zero] at h2;show (b.BD.getD j ⟨0,0⟩).fNext=_;rw [getD_at (by omega)] at h2 ⊢;rw [EBy h hv (List.getElem_mem (by omega)) (e.trans h2.symm)]
theorem PBF {b:Ap} {x:Af} (h:∀ v ∈ b.BD,v.fId≠x.fId):DY b x=x.fNext:=by rw [DY,MBD h]
theorem AEz {b c:Ap} {x y:Af} (hb:J6 b.BD) (hc:J6 c.BD) (hid:y.fId=x.fId) (hn:x.fNext<=y.fNext)
  (h1:∀ v ∈ b.BD,v.fId=x.fId->∃ w ∈ c.BD,w.fId=x.fId/\v.fNext<=w.fNext) (h2:(∀ v ∈ b.BD,v.fId≠x.fId)->∀ w ∈ c.BD,w.fId=x.fId->x.fNext<=w.fNext):DY b x<=DY c y:=by
 by_cases q:∃ v ∈ b.BD,v.fId=x.fId
 ·obtain ⟨v,v1,v2⟩:=q
  obtain ⟨w,w1,w2,w3⟩:=h1 v v1 v2
  rw [xH hb v1 v2,xH hc w1 (w2.trans hid.symm)];exact w3
 ·have q:∀ v ∈ b.BD,v.fId≠x.fId:=fun v hv e=>q ⟨v,hv,e⟩
  rw [PBF q];by_cases p:∃ w ∈ c.BD,w.fId=x.fId
  ·obtain ⟨w,w1,w2⟩:=p
   rw [xH hc w1 (w2.trans hid.symm)];exact h2 q w w1 w2
  ·rw [PBF fun w hw e=>p ⟨w,hw,e.trans hid⟩];exact hn
structure QZ (l:List Ah) (L:Bg):Prop where
 Yf:L.Cm.Pairwise fun g h=>g.Ag=h.Ag->g.Dv<h.Dv
 nb:NB l (Aye DX l).1
 old:∀ g ∈ L.Cm,g.Ag<=(Aye DX l).1.BM/\g.Dv<lastOf l g.Ag
 now:L.AX.CZ=true->∀ g ∈ L.Cm,∀ x,AwV L.AX.AU.AZ g.Ag=some x->g.Dv<DY L.AX x
theorem QBF {id n:Int}:∀ {ls:List CS},(⟨id,n⟩:CS) ∈ LD ls id n
 | []=>List.mem_singleton.2 rfl
 | v::vs=>by
  rw [LD];split;·exact List.mem_cons_self ..
  ·split;·exact List.mem_cons_of_mem _ QBF
   ·exact List.mem_cons_self ..
theorem RBF {id n:Int} {v:CS} (hn:v.fId≠id):∀ {ls:List CS},v ∈ ls->v ∈ LD ls id n
 | w::vs,h=>by
  rw [LD];split
  ·rename_i h1;rcases List.mem_cons.1 h with rfl | h
   ·exact absurd h1 hn
   ·exact List.mem_cons_of_mem _ h
  ·split
   ·rcases List.mem_cons.1 h with rfl | h
    ·exact List.mem_cons_self ..
    ·exact List.mem_cons_of_mem _ (RBF hn h)
   ·exact List.mem_cons_of_mem _ h
theorem AVp {b:Ap} {c:CV} {code leaf:Int} {x:Af} (h:J6 b.BD) (hx:x.fId≠c.Ag\/¬ (c.Au=9/\code=0)) (hl:c.Au=5->code=0->c.Ag=x.fId->DY b x<=leaf):DY b x<=DY (Jb b c code leaf) x/\(Jb b c code leaf).AU=b.AU/\(Jb b c code leaf).CZ=b.CZ:=by
 have same:∀ {d:Ap},d.BD=b.BD->DY b x<=DY d x:=fun e=>by rw [DY,DY,e];exact Int.le_refl _
 rw [Jb];cases hc:code != 0
 ·have hc:code=0:=by rw [bne_eq_false_iff_eq] at hc;exact hc
  cases c.Au == 1
  ·cases c.Au == 13
   ·cases c.Au == 2
    ·cases h5:c.Au == 5
     ·cases h9:c.Au == 9;·exact ⟨same rfl,rfl,rfl⟩
      ·have hne:x.fId≠c.Ag:=hx.resolve_right fun q=>q ⟨beq_iff_eq.1 h9,hc⟩
       refine ⟨AEz (c:=AyL b (UZ b.BD c.Ag)) h (h.filter _) rfl (Int.le_refl _) (fun v v1 v2=>⟨v,List.mem_filter.2 ⟨v1,by rw [bne_iff_ne];omega⟩,v2,Int.le_refl _⟩) (fun q w w1 w2=>absurd w2 (q w (List.mem_filter.1 w1).1)),rfl,rfl⟩
     ·rw [Aq,Aq,Aq,Aq,Ar,W9];cases hy:AwV b.AU.AZ c.Ag with
      | none=>exact ⟨same rfl,rfl,rfl⟩
      | some y=>
       dsimp only;have hid:=(AxY hy).1;cases y.Aj == 2 && (decide (leaf>=0) && decide (leaf<y.fNext));·exact ⟨same rfl,rfl,rfl⟩
       ·refine ⟨?_,rfl,rfl⟩;rw [Ar];by_cases e:c.Ag=x.fId;·have h1:=hl (beq_iff_eq.1 h5) hc e;rw [xH (b:=AyL b (LD b.BD y.fId (leaf+1))) (kG h) QBF (by show y.fId=x.fId;omega)];show DY b x<=leaf+1;omega
        ·refine AEz (c:=AyL b (LD b.BD y.fId (leaf+1))) h (kG h) rfl (Int.le_refl _) (fun v v1 v2=>⟨v,RBF (by omega) v1,v2,Int.le_refl _⟩) (fun q w w1 w2=>?_);rcases xI h w w1 with rfl | ⟨w3,_⟩
         ·exact absurd (hid.symm.trans w2) e
         ·exact absurd w2 (q w w3)
    ·exact ⟨same rfl,rfl,rfl⟩
   ·exact ⟨same rfl,rfl,rfl⟩
  ·exact ⟨same rfl,rfl,rfl⟩
 ·exact ⟨same rfl,rfl,rfl⟩
theorem BBV {k:AA} {l:List Ah} {b:Ap} {r:Ah} {y:Af} {t:Int} (g:Good k l b) (h:(OZ b.AU r).2=true) (ht:t<=b.AU.BM) (hy:AwV (OZ b.AU r).1.AZ t=some y):∃ x,AwV b.AU.AZ t=some x/\DY b x<=DY (Avv b r) y/\y.fId=x.fId:=by
 have hr:=(Ax0.1 g.J7).2.2.2.2.2.2;obtain ⟨y1,y2⟩:=AxY hy
 have mono:∀ x,AwV b.AU.AZ t=some x->x.fNext<=y.fNext->∃ x,AwV b.AU.AZ t=some x/\DY b x<=DY (Avv b r) y/\y.fId=x.fId:=fun x hx hn=>by have e:=(AxY hx).1;exact ⟨x,hx,AEz (c:=Avv b r) g.lives.2 g.lives.2 (by omega) hn (fun v v1 v2=>⟨v,v1,v2,Int.le_refl _⟩) (fun q w w1 w2=>absurd w2 (q w w1)),by omega⟩
 have self:y ∈ b.AU.AZ->∃ x,AwV b.AU.AZ t=some x/\DY b x<=DY (Avv b r) y/\y.fId=x.fId:=fun hm=>mono y (by rw [<-y1];exact GBD hr hm) (Int.le_refl _)
 rcases xG h with ⟨_,_,e,_⟩ | ⟨_,o,ho,hg,e,_⟩ | ⟨_,e,hid,_⟩ | ⟨_,e,_⟩
 ·exact self (by rw [<-e];exact y2)
 ·rw [e,putAt,List.mem_append,List.mem_cons,Qc,VW,List.mem_filter,List.mem_filter] at y2;rcases y2 with ⟨h1,_⟩ | rfl | ⟨h1,_⟩
  ·exact self h1
  ·exact mono o (by rw [<-y1];exact ho) (IBD hg).2.2.2.2
  ·exact self h1
 ·rw [e,List.mem_append,List.mem_singleton] at y2;rcases y2 with h1 | rfl
  ·exact self h1
  ·omega
 ·rw [e,without,List.mem_filter] at y2;exact self y2.1
theorem CBV {tk:AA->AA×Bool} {k:AA} {l:List Ah} {b:Ap} {c:CV} (g:Good k l b) (h5:c.Au=5) (h0:(Ib tk b c).2.1=0):∃ x,AwV b.AU.AZ c.Ag=some x/\x.Aj=2/\x.fValue.size=32/\0<=DY b x/\DY b x<16/\DY b x<=x.fNext/\(Ib tk b c)=(bif DY b x != x.fNext then [] else [AyG (Aw8 x)],0,MAt (Ayc x.fValue (DY b x) c.fText)):=by
 rw [Ib,h5] at h0 ⊢;rw [show ((5:Int) == 1)=false from rfl,show ((5:Int) == 13)=false from rfl,show ((5:Int) == 2)=false from rfl,show ((5:Int) == 3)=false from rfl,show ((5:Int) == 4)=false from rfl,show ((5:Int) == 11)=false from rfl] at h0 ⊢;simp only [Aq] at h0 ⊢;by_cases ha:Av3 b c.EJ<0;·rw [Ba ha] at h0;exact absurd h0 (by show ¬ (2:Int)=0;decide)
 rw [D6 ha] at h0 ⊢;cases hin:(b.BP.getD (Av3 b c.EJ).toNat ⟨0,false⟩).QW;·rw [hin] at h0;exact absurd h0 (by show ¬ (5:Int)=0;decide)
 rw [hin] at h0;cases hx:AwV b.AU.AZ c.Ag with
 | none=>rw [hx] at h0;exact absurd h0 (by show ¬ (7:Int)=0;decide)
 | some x=>
  rw [hx] at h0;obtain ⟨e1,e2⟩:=AxY hx
  have hx':AwV b.AU.AZ x.fId=some x:=by rw [e1];exact hx
  have hok:=g.thing e2;obtain ⟨_,_,_,_,n0,n1,_⟩:=Ny hok
  have hl:=GAu g.MC.1 hx' n0;refine ⟨x,rfl,?_⟩;simp only [DN,Aq,XA,h5,show ((5:Int) == 6)=false from rfl,show ((5:Int) == 5)=true from rfl,Ar] at h0 ⊢;cases hm:AwF x 3;·rw [hm] at h0;exact absurd h0 (by show ¬ (8:Int)=0;decide)
  ·obtain ⟨_,h2,_⟩:=HAu hm
   rw [hm,Ar,Yg] at h0;rw [Ar,Yg];by_cases h16:DY b x>=16;·rw [Ba h16] at h0;exact absurd h0 (by show ¬ (1:Int)=0;decide)
   ·exact ⟨h2,bV hok (.inr h2),hl.1,by omega,hl.2,by rw [D6 h16];rfl⟩
theorem DBV {tk:AA->AA×Bool} {b:Ap} {c:CV} (h9:c.Au=9) (h0:(Ib tk b c).2.1=0):∃ x,AwV b.AU.AZ c.Ag=some x/\Ib tk b c=([kH x.fId],0,⟨#[]⟩):=by
 rw [Ib,h9] at h0 ⊢;rw [show ((9:Int) == 1)=false from rfl,show ((9:Int) == 13)=false from rfl,show ((9:Int) == 2)=false from rfl,show ((9:Int) == 3)=false from rfl,show ((9:Int) == 4)=false from rfl,show ((9:Int) == 11)=false from rfl] at h0 ⊢;simp only [Aq] at h0 ⊢;by_cases ha:Av3 b c.EJ<0;·rw [Ba ha] at h0;exact absurd h0 (by show ¬ (2:Int)=0;decide)
 rw [D6 ha] at h0 ⊢;cases hin:(b.BP.getD (Av3 b c.EJ).toNat ⟨0,false⟩).QW;·rw [hin] at h0;exact absurd h0 (by show ¬ (5:Int)=0;decide)
 rw [hin] at h0;cases hx:AwV b.AU.AZ c.Ag with
 | none=>rw [hx] at h0;exact absurd h0 (by show ¬ (7:Int)=0;decide)
 | some x=>exact ⟨x,rfl,by simp only [DN,Aq,XA,h9];rfl⟩
theorem FBy {b:Ap} {c:CV} {z:Af} {leaf:Int} (hz:AwV b.AU.AZ c.Ag=some z) (h5:c.Au=5) (hk:z.Aj=2) (hl:0<=leaf/\leaf<z.fNext):Jb b c 0 leaf=AyL b (LD b.BD z.fId (leaf+1)):=by rw [Jb,h5,W9,hz];dsimp only;rw [hk,Ba hl.1,Ba hl.2];rfl
theorem GBy {b:Ap} {x y:Af} {n:Int} (h:J6 b.BD) (hy:y.fId≠x.fId):DY b y<=DY (AyL b (LD b.BD x.fId n)) y:=by
 refine AEz (c:=AyL b (LD b.BD x.fId n)) h (kG h) rfl (Int.le_refl _) (fun v v1 v2=>⟨v,RBF (by omega) v1,v2,Int.le_refl _⟩) (fun q w w1 w2=>?_);rcases xI h w w1 with rfl | ⟨w3,_⟩
 ·exact absurd w2.symm hy
 ·exact absurd w2 (q w w3)
theorem EBV {tk:AA->AA×Bool} {k:AA} {l:List Ah} {b:Ap} {c:CV} {t:Int} {y:Af} (g:Good k l b) (ht:t<=b.AU.BM) (hy:AwV (Ayl b c (Ib tk b c)).AU.AZ t=some y):∃ x,AwV b.AU.AZ t=some x/\DY b x<=DY (Ayl b c (Ib tk b c)) y/\(c.Au=5->(Ib tk b c).2.1=0->t=c.Ag->DY b x<DY (Ayl b c (Ib tk b c)) y):=by
 have hbk:=Ax0.1 g.J7;by_cases hs:c.Au=5/\(Ib tk b c).2.1=0
 ·obtain ⟨h5,h0⟩:=hs
  obtain ⟨x,x1,x2,_,x3,x4,x5,hp⟩:=CBV g h5 h0
  obtain ⟨i1,i2⟩:=AxY x1
  have hlf:Avz b c.Ag=DY b x:=by rw [Avz,x1];dsimp only;rw [x2];rfl
  have fin:∀ {d:Ap} {z:Af},d.BD=b.BD->AwV d.AU.AZ c.Ag=some z->z.fId=x.fId->z.Aj=2->DY b x<z.fNext->(∀ w,AwV d.AU.AZ t=some w->∃ x0,AwV b.AU.AZ t=some x0/\DY b x0<=DY d w/\w.fId=x0.fId)->AwV (Jb d c 0 (DY b x)).AU.AZ t=some y->∃ x0,AwV b.AU.AZ t=some x0/\DY b x0<=DY (Jb d c 0 (DY b x)) y/\(c.Au=5->(Ib tk b c).2.1=0->t=c.Ag->DY b x0<DY (Jb d c 0 (DY b x)) y):=by
   intro d z hd hz hid hkz hn hall BV;have hasc:J6 d.BD:=by rw [hd];exact g.lives.2
   rw [FBy hz h5 hkz ⟨x3,hn⟩] at BV ⊢;obtain ⟨x0,q1,q2,q3⟩:=hall y BV
   by_cases e:t=c.Ag
   ·subst e;rw [q1] at x1;cases x1;have hy0:y=z:=by rw [show AwV d.AU.AZ c.Ag=some y from BV] at hz;exact Option.some.inj hz
    subst hy0;rw [xH (b:=AyL d (LD d.BD y.fId (DY b x+1))) (kG hasc) QBF rfl];exact ⟨x,q1,by show _<=DY b x+1;omega,fun _ _ _=>by show _<DY b x+1;omega⟩
   ·have Hc:=(AxY BV).1;have hne:y.fId≠z.fId:=by omega
    exact ⟨x0,q1,Int.le_trans q2 (GBy hasc hne),fun _ _ q=>absurd q e⟩
  rw [Ayl,hlf,hp] at hy ⊢;dsimp only at hy ⊢;rw [hp] at fin;cases hc:DY b x != x.fNext
  ·rw [hc] at hy fin;have hc:DY b x=x.fNext:=by rw [bne_eq_false_iff_eq] at hc;exact hc
   have hnx:DY b x<(Aw8 x).fNext:=by show _<ite (16<x.fNext+3) 16 (x.fNext+3);split <;> omega
   have hok:=g.thing i2;have hent:(OZ b.AU (AyG (Aw8 x))).2=true:=by
    rcases Yh (tk:=tk) (c:=c) g with q | ⟨r,q1,q2⟩
    ·rw [hp,hc,bne_self_eq_false] at q;cases q
    ·rw [hp,hc,bne_self_eq_false] at q1;have:AyG (Aw8 x)=r:=by simpa using q1
     rw [this];exact q2.ent
   have hz:AwV (OZ b.AU (AyG (Aw8 x))).1.AZ c.Ag=some (Aw8 x):=by
    have hnew:=(Ax0.1 (Qb hent).2.2.2.1).2.2.2.2.2.2;rw [<-i1];refine GBD (x:=Aw8 x) hnew ?_;rcases xG hent with ⟨q,_⟩ | ⟨_,_,_,_,e,_⟩ | ⟨_,e,_⟩ | ⟨q,_⟩
    ·exact absurd rfl q
    ·rw [e,putAt];exact List.mem_append_right _ (List.mem_cons_self ..)
    ·rw [e];exact List.mem_append_right _ (List.mem_singleton.2 rfl)
    ·exact absurd q (by show ¬ (3:Int)=4;decide)
   exact fin (d:=Avv b (AyG (Aw8 x))) rfl hz rfl x2 hnx (fun w hw=>BBV g hent ht hw) hy
  ·rw [hc] at hy fin;have hc:DY b x≠x.fNext:=bne_iff_ne.1 hc;exact fin (d:=b) rfl x1 rfl x2 (by omega) (fun w hw=>⟨w,hw,Int.le_refl _,rfl⟩) hy
 ·have go:∀ {d:Ap},d.BD=b.BD->(∀ w,AwV d.AU.AZ t=some w->∃ x0,AwV b.AU.AZ t=some x0/\DY b x0<=DY d w/\w.fId=x0.fId)->(c.Au=9/\(Ib tk b c).2.1=0->∀ w,AwV d.AU.AZ t=some w->w.fId≠c.Ag)->∀ code leaf,code=(Ib tk b c).2.1->AwV (Jb d c code leaf).AU.AZ t=some y->∃ x0,AwV b.AU.AZ t=some x0/\DY b x0<=DY (Jb d c code leaf) y/\(c.Au=5->(Ib tk b c).2.1=0->t=c.Ag->DY b x0<DY (Jb d c code leaf) y):=by
   intro d hd hall h9 code leaf hcode BV;have hasc:J6 d.BD:=by rw [hd];exact g.lives.2
   have hbk:(Jb d c code leaf).AU=d.AU:=(AVp (x:=⟨c.Ag+1,0,false,false,false,false,⟨#[]⟩,0⟩) hasc (.inl (by show c.Ag+1≠c.Ag;omega)) (fun _ _ q=>absurd q (by show ¬ c.Ag=c.Ag+1;omega))).2.1;rw [hbk] at BV;obtain ⟨x0,q1,q2,q3⟩:=hall y BV
   refine ⟨x0,q1,Int.le_trans q2 (AVp hasc ?_ fun h5 h0=>absurd ⟨h5,by omega⟩ hs).1,fun h5 h0=>absurd ⟨h5,h0⟩ hs⟩;by_cases q:c.Au=9/\code=0;·exact .inl (h9 ⟨q.1,by omega⟩ y BV)
   ·exact .inr q
  rw [Ayl] at hy ⊢;rcases Yh (tk:=tk) (c:=c) g with h0 | ⟨r,h1,h2⟩
  ·rw [h0] at hy ⊢;refine go rfl (fun w hw=>⟨w,hw,Int.le_refl _,rfl⟩) (fun ⟨h9,hz⟩=>?_) _ _ rfl hy;obtain ⟨x,_,e⟩:=DBV h9 hz
   rw [e] at h0;cases h0
  ·rw [h1] at hy ⊢;refine go (d:=Avv b r) rfl (fun w hw=>BBV g h2.ent ht hw) (fun ⟨h9,hz⟩ w hw=>?_) _ _ rfl hy;obtain ⟨x,x1,e⟩:=DBV h9 hz
   have hrx:kH x.fId=r:=by rw [e] at h1;simpa using h1
   subst hrx;rcases xG h2.ent with ⟨_,q,_⟩ | ⟨q,_⟩ | ⟨q,_⟩ | ⟨_,q,_⟩
   ·exact absurd rfl q
   ·exact absurd q (by show ¬ (4:Int)=3;decide)
   ·exact absurd q (by show ¬ (4:Int)=3;decide)
   ·have hm:=(AxY hw).2;rw [show (Avv b (kH x.fId)).AU.AZ=without b.AU.AZ x.fId from q,without,List.mem_filter,bne_iff_ne] at hm;rw [<-(AxY x1).1];exact hm.2
theorem gi_step {k:AA} {l l':List Ah} {L L':Bg} {e:DW} (h:AzZ k l L) (hn:L.Bq.length<45) (G:QZ l L) (s:Step k e l L l' L'):QZ l' L':=by
 have HL:=h.few.1;cases s with
 | call g hr hc=>
  have hk:=Yh (tk:=Avd) (c:=e.BA) g;have gg:=HBS (tk:=Avd) (c:=e.BA) g (by omega);have nb0:NB l L.AX.AU:=by rw [<-g.book1];exact G.nb
  have D4:∀ q ∈ L.Cm,q.Ag<=L.AX.AU.BM/\q.Dv<lastOf l q.Ag:=by rw [<-g.book1];exact G.old
  have EA:=G.now g.up;have sg:=CBV (tk:=Avd) (c:=e.BA) g;have C1:∀ x,AwV L.AX.AU.AZ e.BA.Ag=some x->x.Aj=2->Avz L.AX e.BA.Ag=DY L.AX x:=fun x hx hk2=>by rw [Avz,hx];dsimp only;rw [hk2];rfl
  have HC:(Ayl L.AX e.BA (Ib Avd L.AX e.BA)).AU=(Aye DX (l++(Ib Avd L.AX e.BA).1)).1:=gg.book1.symm;have Cq:NB (l++(Ib Avd L.AX e.BA).1) (Aye DX (l++(Ib Avd L.AX e.BA).1)).1/\(Aye DX l).1.BM<=(Aye DX (l++(Ib Avd L.AX e.BA).1)).1.BM/\∀ t,t<=L.AX.AU.BM->lastOf l t<=lastOf (l++(Ib Avd L.AX e.BA).1) t:=by
   rcases hk with h0 | ⟨r,h1,h2⟩
   ·rw [h0,List.append_nil];exact ⟨G.nb,Int.le_refl _,fun _ _=>Int.le_refl _⟩
   ·rw [h1,kJ,g.book];dsimp only;rw [Ar,Aye,h2.ent];exact ⟨YBU nb0 h2.ent,PBO h2.ent,fun t ht=>ZBU nb0 h2.ent ht⟩
  have HD:(Aye DX l).1.BM=L.AX.AU.BM:=by rw [g.book1]
  have EB:∀ q ∈ bW L e (Ib Avd L.AX e.BA).2.1,q ∈ L.Cm\/(e.BA.Au=5/\(Ib Avd L.AX e.BA).2.1=0/\q=⟨e.BA.Ag,Avz L.AX e.BA.Ag,(L.Bq.length:Int)⟩):=by
   intro q hq;rw [bW] at hq;cases hc:e.BA.Au == 5 && (Ib Avd L.AX e.BA).2.1 == 0;·rw [hc] at hq;exact .inl hq
   ·rw [hc,Ar,List.mem_append,List.mem_singleton] at hq;rw [Bool.and_eq_true,beq_iff_eq,beq_iff_eq] at hc;rcases hq with hq | hq
    ·exact .inl hq
    ·exact .inr ⟨hc.1,hc.2,hq⟩
  have DA:e.BA.Au=5->(Ib Avd L.AX e.BA).2.1=0->∃ x,AwV L.AX.AU.AZ e.BA.Ag=some x/\Avz L.AX e.BA.Ag=DY L.AX x/\x.fId=e.BA.Ag/\x.fId<=L.AX.AU.BM/\DY L.AX x<lastOf (l++(Ib Avd L.AX e.BA).1) e.BA.Ag:=by
   intro h5 h0;obtain ⟨x,x1,x2,_,x3,x4,x5,hp⟩:=sg h5 h0
   obtain ⟨i1,i2⟩:=AxY x1
   refine ⟨x,x1,C1 x x1 x2,i1,(Axr (Ax0.1 g.J7).2.2.2.2.2.2 x i2).2.1,?_⟩;have hnb:=nb0 x i2;rw [hp];cases hc:DY L.AX x != x.fNext
   ·have hc:DY L.AX x=x.fNext:=by rw [bne_eq_false_iff_eq] at hc;exact hc
    rw [Aq,OBF,<-i1,show ((AyG (Aw8 x)).Aj == 3 && (AyG (Aw8 x)).Ag.fId == x.fId)=true by show ((3:Int) == 3 && x.fId == x.fId)=true;rw [beq_self_eq_true,beq_self_eq_true];rfl];show _<ite (16<x.fNext+3) 16 (x.fNext+3);split <;> omega
   ·have hc:DY L.AX x≠x.fNext:=bne_iff_ne.1 hc;rw [Ar,List.append_nil,<-i1,hnb];omega
  refine ⟨?_,Cq.1,?_,?_⟩
  ·show (bW L e (Ib Avd L.AX e.BA).2.1).Pairwise _;rw [bW];cases hc:e.BA.Au == 5 && (Ib Avd L.AX e.BA).2.1 == 0;·exact G.Yf
   ·rw [Bool.and_eq_true,beq_iff_eq,beq_iff_eq] at hc;obtain ⟨x,x1,x2,_⟩:=DA hc.1 hc.2
    refine List.pairwise_append.2 ⟨G.Yf,List.pairwise_singleton _ _,fun q hq w hw et=>?_⟩;rw [List.mem_singleton.1 hw] at et ⊢;have h1:=EA q hq x (by rw [et];exact x1);show q.Dv<Avz L.AX e.BA.Ag;omega
  ·intro q hq;rcases EB q hq with hq | ⟨h5,h0,rfl⟩
   ·obtain ⟨q1,q2⟩:=D4 q hq
    have:=Cq.2.2 q.Ag q1;have:=Cq.2.1;exact ⟨by omega,by omega⟩
   ·obtain ⟨x,x1,x2,x3,x4,x5⟩:=DA h5 h0
    have:=Cq.2.1;exact ⟨by show e.BA.Ag<=_;omega,by show Avz L.AX e.BA.Ag<lastOf (l++(Ib Avd L.AX e.BA).1) e.BA.Ag;omega⟩
  ·intro _ q hq y hy;have hy:AwV (Ayl L.AX e.BA (Ib Avd L.AX e.BA)).AU.AZ q.Ag=some y:=hy;show q.Dv<DY (Ayl L.AX e.BA (Ib Avd L.AX e.BA)) y;rcases EB q hq with hq | ⟨h5,h0,rfl⟩
   ·obtain ⟨x,x1,x2,_⟩:=EBV g (D4 q hq).1 hy
    have:=EA q hq x x1;omega
   ·obtain ⟨x,x1,x2,x3,x4,x5⟩:=DA h5 h0
    obtain ⟨z,z1,_,z3⟩:=EBV g (show e.BA.Ag<=_ by omega) hy
    have hz:z=x:=by rw [show AwV L.AX.AU.AZ e.BA.Ag=some z from z1] at x1;exact Option.some.inj x1
    subst hz;have:=z3 h5 h0 rfl;show Avz L.AX e.BA.Ag<_;omega
 | cut g hr r hp b' l2 d hl=>
  have nb0:NB l L.AX.AU:=by rw [<-g.book1];exact G.nb
  have hk:=Yh (tk:=Avd) (c:=e.BA) g;have h2:(OZ L.AX.AU r).2=true:=by
   rcases hk with h0 | ⟨r',h1,h2⟩
   ·rw [h0] at hp;cases hp
   ·rw [h1] at hp;cases hp;exact h2.ent
  obtain ⟨X,hX,_⟩:=d.box
  have hup:b'.CZ=false:=by rw [hX]
  rcases hl with rfl | rfl
  ·exact ⟨G.Yf,G.nb,G.old,fun q=>by dsimp only at q;rw [hup] at q;cases q⟩
  ·have eb:(Aye DX (l++[r])).1=(OZ L.AX.AU r).1:=by rw [kJ,g.book];dsimp only;rw [Ar,Aye,h2];rfl
   refine ⟨G.Yf,by rw [eb];exact YBU nb0 h2,fun q hq=>?_,fun q=>by dsimp only at q;rw [hup] at q;cases q⟩;have h3:=G.old q hq;rw [g.book1] at h3;have h4:=ZBU nb0 h2 h3.1;have h5:=PBO h2;rw [eb];exact ⟨by omega,by omega⟩
 | down d hr=>exact ⟨G.Yf,G.nb,G.old,G.now⟩
 | up d hr b' g h1 h2 h3=>
  refine ⟨G.Yf,G.nb,G.old,fun _ q hq x hx=>?_⟩;have h4:=G.old q hq;dsimp only at hx ⊢;obtain ⟨x1,x2⟩:=AxY hx
  have h5:=G.nb x (by rw [g.book1];exact x2);rw [PBF (by rw [h2];intro v hv;cases hv),<-h5,x1];exact h4.2
 | stay g hr=>exact ⟨G.Yf,G.nb,G.old,G.now⟩
theorem HBy {x y:Af} (h:keeps x y):stay x y=true:=by
 obtain ⟨h1,h2,h3,h4,h5⟩:=h
 rw [stay,h1,h2,D6 (by omega:¬ y.fNext<x.fNext),beq_self_eq_true,beq_self_eq_true];cases hx:x.CY
 ·cases hf:x.CX;·rfl
  ·rw [h4 hf];rfl
 ·rw [h3 hx];cases hf:x.CX;·rfl
  ·rw [h4 hf];rfl
theorem FBV:∀ {l:List Ah} {b:Bo},(Aye b l).2=true->TK b l=true
 | [],_,_=>rfl
 | r::rs,b,h=>by
  rw [Aye] at h;cases h3:(OZ b r).2;·rw [h3] at h;cases h
  ·rw [h3,Ar] at h;rw [TK,h3,FBV h,Bool.and_true,Bool.true_and,List.all_eq_true];intro x hx;rcases OBO h3 hx with ⟨e,_⟩ | ⟨y,e,k⟩
   ·rw [Wx,e]
   ·rw [Wx,e];exact HBy k
theorem IBy {k:AA} {l:List Ah} {b:Ap} (h:Down k l b):(Awo b.BO b.Bc).2.2=true/\(Awo b.BO b.Bc).1=(Aye DX l).1:=by
 obtain ⟨b',r1,_,_,_,_,r6⟩:=SBU h
 obtain ⟨X,rfl,hX,_⟩:=h.box
 rw [UAu (b:=⟨k,false,dk X X.size,DX,[],[],0⟩) (Nat.le_of_ble_eq_true rfl) (fun f hf=>by
  have hf:f ∈ [(⟨AzD,X,(X.size:Int)⟩:BQ)]:=hf;rw [List.mem_singleton] at hf;rw [hf];show X.size<=_;omega) (DJ _) (DJ _) (DJ _) (by show k.size<=_;rw [h.Io];omega),Yi] at r1
 injection r1 with r1
 dsimp only at r1 ⊢;cases h1:(false || !Rt ⟨k,false,dk X X.size,DX,[],[],0⟩)
 ·rw [h1,Aq] at r1;cases h2:(Awo k (dk X X.size)).2.2;·rw [h2] at r1;cases r1
  ·refine ⟨rfl,?_⟩;rw [h2,DN,Bool.false_or] at r1;rw [<-r6];cases h4:decide ((AzA (dk X X.size) (Awo k (dk X X.size)).2.1 0).2<((Awo k (dk X X.size)).2.1.length:Int));·rw [h4,Aq] at r1;rw [<-(Prod.mk.inj r1).1]
   ·rw [h4] at r1;cases r1
 ·rw [h1] at r1;cases r1
theorem AzZ.enter {k:AA} {l:List Ah} {L:Bg} (h:AzZ k l L):(Aye DX l).2=true:=by
 rcases h.box with g | d
 ·rw [g.book]
 ·exact d.book
theorem JBy {k:AA} {l:List Ah} {L:Bg} (h:AzZ k l L):Wy L=true:=by
 rw [Wy,h.done,h.enter,Bool.true_and];rcases h.box with g | d
 ·rw [g.up,Ar,g.book1];exact UAs.2 rfl
 ·obtain ⟨m1,m2⟩:=IBy d
  rw [(AzZ.down d).1,Aq,m1,m2,Bool.true_and];exact UAs.2 rfl
theorem wF {L:List D8} (h:L.Pairwise fun g h=>g.Ag=h.Ag->g.Dv<h.Dv):Ol (Axb L) L.length 0=true/\Ol (Pm L) L.length 0=true:=by
 have key:∀ y x (hy:y<L.length) (hx:x<y),L[y].Ag=(L[x]'(by omega)).Ag->(L[x]'(by omega)).Dv<L[y].Dv:=fun y x hy hx e=>List.pairwise_iff_getElem.1 h x y (by omega) hy hx e.symm
 refine ⟨NBF.2 fun y _ hy x hx=>?_,NBF.2 fun y _ hy x hx=>?_⟩
 ·rw [Axb,getD_at (by omega),getD_at (by omega)];cases e:L[y].Ag == (L[x]'(by omega)).Ag;·rfl
  ·have:=key y x (by omega) hx (beq_iff_eq.1 e);rw [Bool.true_and,D6 (by omega)]
 ·rw [Pm,getD_at (by omega),getD_at (by omega)];cases e:L[y].Ag == (L[x]'(by omega)).Ag;·rfl
  ·have:=key y x (by omega) hx (beq_iff_eq.1 e);rw [Bool.true_and,beq_eq_false_iff_ne];omega
theorem GBV {k:AA} {l:List Ah} {L:Bg} (h:AzZ k l L) (G:QZ l L):∀ (j i:Nat),i+j=L.Cm.length->Yd L j i=true
 | 0,_,_=>rfl
 | j+1,i,hi=>by have h1:=(G.old _ (List.getElem_mem (show i<L.Cm.length by omega))).2;rw [Yd,GBV h G j (i+1) (by omega),getD_at (by omega),h.done,Bool.and_true];rw [lastOf] at h1;rw [D6 (by omega)];rfl
theorem KBy {k:AA} {l:List Ah} {L:Bg} (h:AzZ k l L):Rt L.AX=true:=by
 rcases h.box with g | d
 ·exact g.ok
 ·exact (AzZ.down d).2.2.2.2.2.2.2
theorem LBy {k:AA} {l:List Ah} {L:Bg} (h:AzZ k l L) (G:QZ l L):ZAu L=true:=by
 obtain ⟨r1,r2⟩:=wF G.Yf
 rw [ZAu,kC,GBV h G _ 0 (Nat.zero_add _),r1,r2,JBy h,h.done,FBV h.enter,KBy h];rfl
theorem MBy {k w:AA} (hk:k.size=32) (hw:w.size<=20):QZ [Ayq w] (Axk k w):=by
 have g:=(xE hk hw).2.1;obtain ⟨_,_,_,_,_,_,h7,_⟩:=WBR hk hw
 have hb:=g.book1;refine ⟨List.Pairwise.nil,fun x hx=>?_,fun q hq=>(by cases hq),fun _ q hq=>(by cases hq)⟩;rw [hb,show (Oo k w).1.AU.AZ=[] from h7] at hx;cases hx
theorem NBy {k:AA} {e:DW} {l l':List Ah} {L L':Bg} (s:Step k e l L l' L'):L'.Bq.length=L.Bq.length+1:=by cases s <;> (dsimp only;rw [List.length_append];rfl)
theorem OBy {k:AA} {e:DW} {l l':List Ah} {L L':Bg} (h:AzZ k l L) (G:L.Bq.length<45->QZ l L) (s:Step k e l L l' L') (hn:L'.Bq.length<45):QZ l' L':=by have:=NBy s;exact gi_step h (by omega) (G (by omega)) s
theorem PBy {k:AA} {l:List Ah} {L:Bg} (h:AzZ k l L) (r:Ah) (hr:r ∈ L.CO):r.DR<=9223372036854775807:=by rw [h.done] at hr;exact CBy (Prod.ext (x:=Ax8 r) (y:=((Ax8 r).1,true)) rfl (xJ h.enter r hr))
theorem AdW (x0:Unit):AEZ x0=some true:=by
 rw [AEZ,CBB,mk,QBj,AP];cases decide ((KI.length:Int) > 1048576)
 ·obtain ⟨⟨k,w,es⟩,hr,hk,hw,hn,he⟩:=ZBx
  dsimp only at hk hw hn he;obtain ⟨l,L,h1,h2,h3,h4⟩:=Af7 (P:=fun l L=>L.Bq.length<45->QZ l L) hk hw hn he (fun _=>MBy hk hw) fun l L l' L' e _ a b c=>OBy a b c
  have G:=h3 (by omega);have x:=h2.bx;have z:=x.z;have zd:=x.n;have zt:=z.t;have zs:=z.s;have Avh:=z.l;obtain ⟨f1,f2,f3⟩:=h2.few
  have hd:L.CO.length<=1000:=by rw [h2.done];omega
  have hS:=LBy h2 G;rw [Aq,hr,AP];dsimp only;rw [BBy hk hw hn he,h1,AP,AP];dsimp only;rw [DN,Aq,ZBw (by omega),AP,DN,Aq,AgQ (by omega),AP,DN,Aq,BBx (by omega),AP,DN,Aq,bne_self_eq_false,Aq,h4,bne_self_eq_false,Aq,RBx x.k (by omega) x.f (by omega) (by omega) (by omega) (by omega) (by omega) (fun r hr=>PBy h2 r hr),hS,AP,Ar,YBx x.k (by omega) x.f (by omega) (by omega) (by omega) (by omega) (by omega),hS];rfl
 ·rfl
end Go.Proofs.YtkbbicgglblfiaaGreatDoor.G
