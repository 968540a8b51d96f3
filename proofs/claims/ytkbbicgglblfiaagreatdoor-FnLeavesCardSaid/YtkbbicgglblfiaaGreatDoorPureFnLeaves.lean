/- The plain law of FnLeaves: whatever the arguments, it answers true. Conditions: what is read is in reach. Part 4 of 4. -/
import Derived.Test.YtkbbicgglblfiaaGreatDoorPureFnLeavesc
namespace Go.Proofs.YtkbbicgglblfiaaGreatDoor.G
open Go Go.Ev
set_option linter.unusedVariables false
set_option linter.unusedSimpArgs false
set_option linter.unusedSectionVars false
variable [PC]
theorem GBu {ls:List CS} (h:JG ls) {v w:CS} (hv:v ∈ ls) (hw:w ∈ ls) (e:v.fId=w.fId):v=w:=by
 obtain ⟨i,hi,rfl⟩:=List.mem_iff_getElem.1 hv
 obtain ⟨j,hj,rfl⟩:=List.mem_iff_getElem.1 hw
 rcases Nat.lt_trichotomy i j with q | q | q
 ·have:=List.pairwise_iff_getElem.1 h i j hi hj q;omega
 ·subst q;rfl
 ·have:=List.pairwise_iff_getElem.1 h j i hj hi q;omega
theorem rO {b:Ap} {x:Af} {v:CS} (h:JG b.BD) (hv:v ∈ b.BD) (e:v.fId=x.fId):Arx b x=v.fNext:=by
 rw [Arx];cases hp:Aqi b.BD x.fId 0 with
 | none=>
  exfalso;have:∀ {ls:List CS} {i:Nat},Aqi ls x.fId i=none->∀ v ∈ ls,v.fId≠x.fId:=by
   intro ls;induction ls with
   | nil=>intro i _ v hv;cases hv
   | cons f fs ih=>
    intro i h v hv;rw [Aqi] at h;split at h;·cases h
    ·rename_i h1;rcases List.mem_cons.1 hv with rfl | hv
     ·exact fun q=>h1 (beq_iff_eq.2 q)
     ·exact ih h v hv
  exact this hp v hv e
 | some j=>
  have h1:=(fP hp).2;have h2:=NBO hp;rw [Nat.sub_zero] at h2;show (b.BD.getD j ⟨0,0⟩).fNext=_;rw [getD_at (by omega)] at h2 ⊢;rw [GBu h hv (List.getElem_mem (by omega)) (e.trans h2.symm)]
theorem QBC {b:Ap} {x:Af} (h:∀ v ∈ b.BD,v.fId≠x.fId):Arx b x=x.fNext:=by rw [Arx,OBA h]
theorem WAs {b c:Ap} {x y:Af} (hb:JG b.BD) (hc:JG c.BD) (hid:y.fId=x.fId) (hn:x.fNext<=y.fNext)
  (h1:∀ v ∈ b.BD,v.fId=x.fId->∃ w ∈ c.BD,w.fId=x.fId/\v.fNext<=w.fNext) (h2:(∀ v ∈ b.BD,v.fId≠x.fId)->∀ w ∈ c.BD,w.fId=x.fId->x.fNext<=w.fNext):Arx b x<=Arx c y:=by
 by_cases q:∃ v ∈ b.BD,v.fId=x.fId
 ·obtain ⟨v,v1,v2⟩:=q
  obtain ⟨w,w1,w2,w3⟩:=h1 v v1 v2
  rw [rO hb v1 v2,rO hc w1 (w2.trans hid.symm)];exact w3
 ·have q:∀ v ∈ b.BD,v.fId≠x.fId:=fun v hv e=>q ⟨v,hv,e⟩
  rw [QBC q];by_cases p:∃ w ∈ c.BD,w.fId=x.fId
  ·obtain ⟨w,w1,w2⟩:=p
   rw [rO hc w1 (w2.trans hid.symm)];exact h2 q w w1 w2
  ·rw [QBC fun w hw e=>p ⟨w,hw,e.trans hid⟩];exact hn
structure QZ (l:List Ah) (L:Bg):Prop where
 XM:L.Cm.Pairwise fun g h=>g.Ag=h.Ag->g.Dv<h.Dv
 nb:NB l (Apz Nb l).1
 old:∀ g ∈ L.Cm,g.Ag<=(Apz Nb l).1.BM/\g.Dv<lastOf l g.Ag
 now:L.AX.CZ=true->∀ g ∈ L.Cm,∀ x,Aqg L.AX.AU.AZ g.Ag=some x->g.Dv<Arx L.AX x
theorem RBC {id n:Int}:∀ {ls:List CS},(⟨id,n⟩:CS) ∈ AqR ls id n
 | []=>List.mem_singleton.2 rfl
 | v::vs=>by
  rw [AqR];split;·exact List.mem_cons_self ..
  ·split;·exact List.mem_cons_of_mem _ RBC
   ·exact List.mem_cons_self ..
theorem SBC {id n:Int} {v:CS} (hn:v.fId≠id):∀ {ls:List CS},v ∈ ls->v ∈ AqR ls id n
 | w::vs,h=>by
  rw [AqR];split
  ·rename_i h1;rcases List.mem_cons.1 h with rfl | h
   ·exact absurd h1 hn
   ·exact List.mem_cons_of_mem _ h
  ·split
   ·rcases List.mem_cons.1 h with rfl | h
    ·exact List.mem_cons_self ..
    ·exact List.mem_cons_of_mem _ (SBC hn h)
   ·exact List.mem_cons_of_mem _ h
theorem IBS {b:Ap} {c:CV} {code leaf:Int} {x:Af} (h:JG b.BD) (hx:x.fId≠c.Ag\/¬ (c.Au=9/\code=0)) (hl:c.Au=5->code=0->c.Ag=x.fId->Arx b x<=leaf):Arx b x<=Arx (Ii b c code leaf) x/\(Ii b c code leaf).AU=b.AU/\(Ii b c code leaf).CZ=b.CZ:=by
 have same:∀ {d:Ap},d.BD=b.BD->Arx b x<=Arx d x:=fun e=>by rw [Arx,Arx,e];exact Int.le_refl _
 rw [Ii];cases hc:code != 0
 ·have hc:code=0:=by rw [bne_eq_false_iff_eq] at hc;exact hc
  cases c.Au == 1
  ·cases c.Au == 13
   ·cases c.Au == 2
    ·cases h5:c.Au == 5
     ·cases h9:c.Au == 9;·exact ⟨same rfl,rfl,rfl⟩
      ·have hne:x.fId≠c.Ag:=hx.resolve_right fun q=>q ⟨beq_iff_eq.1 h9,hc⟩
       refine ⟨WAs (c:=Ar4 b (Rn b.BD c.Ag)) h (h.filter _) rfl (Int.le_refl _) (fun v v1 v2=>⟨v,List.mem_filter.2 ⟨v1,by rw [bne_iff_ne];omega⟩,v2,Int.le_refl _⟩) (fun q w w1 w2=>absurd w2 (q w (List.mem_filter.1 w1).1)),rfl,rfl⟩
     ·rw [Aq,Aq,Aq,Aq,Ar,VU];cases hy:Aqg b.AU.AZ c.Ag with
      | none=>exact ⟨same rfl,rfl,rfl⟩
      | some y=>
       dsimp only;have hid:=(Aq0 hy).1;cases y.Aj == 2 && (decide (leaf>=0) && decide (leaf<y.fNext));·exact ⟨same rfl,rfl,rfl⟩
       ·refine ⟨?_,rfl,rfl⟩;rw [Ar];by_cases e:c.Ag=x.fId;·have h1:=hl (beq_iff_eq.1 h5) hc e;rw [rO (b:=Ar4 b (AqR b.BD y.fId (leaf+1))) (fQ h) RBC (by show y.fId=x.fId;omega)];show Arx b x<=leaf+1;omega
        ·refine WAs (c:=Ar4 b (AqR b.BD y.fId (leaf+1))) h (fQ h) rfl (Int.le_refl _) (fun v v1 v2=>⟨v,SBC (by omega) v1,v2,Int.le_refl _⟩) (fun q w w1 w2=>?_);rcases rP h w w1 with rfl | ⟨w3,_⟩
         ·exact absurd (hid.symm.trans w2) e
         ·exact absurd w2 (q w w3)
    ·exact ⟨same rfl,rfl,rfl⟩
   ·exact ⟨same rfl,rfl,rfl⟩
  ·exact ⟨same rfl,rfl,rfl⟩
 ·exact ⟨same rfl,rfl,rfl⟩
theorem JBS {k:AA} {l:List Ah} {b:Ap} {r:Ah} {y:Af} {t:Int} (g:Good k l b) (h:(RZ b.AU r).2=true) (ht:t<=b.AU.BM) (hy:Aqg (RZ b.AU r).1.AZ t=some y):∃ x,Aqg b.AU.AZ t=some x/\Arx b x<=Arx (Gt b r) y/\y.fId=x.fId:=by
 have hr:=(G7.1 g.ArF).2.2.2.2.2.2;obtain ⟨y1,y2⟩:=Aq0 hy
 have mono:∀ x,Aqg b.AU.AZ t=some x->x.fNext<=y.fNext->∃ x,Aqg b.AU.AZ t=some x/\Arx b x<=Arx (Gt b r) y/\y.fId=x.fId:=fun x hx hn=>by have e:=(Aq0 hx).1;exact ⟨x,hx,WAs (c:=Gt b r) g.lives.2 g.lives.2 (by omega) hn (fun v v1 v2=>⟨v,v1,v2,Int.le_refl _⟩) (fun q w w1 w2=>absurd w2 (q w w1)),by omega⟩
 have self:y ∈ b.AU.AZ->∃ x,Aqg b.AU.AZ t=some x/\Arx b x<=Arx (Gt b r) y/\y.fId=x.fId:=fun hm=>mono y (by rw [<-y1];exact IBA hr hm) (Int.le_refl _)
 rcases rQ h with ⟨_,_,e,_⟩ | ⟨_,o,ho,hg,e,_⟩ | ⟨_,e,hid,_⟩ | ⟨_,e,_⟩
 ·exact self (by rw [<-e];exact y2)
 ·rw [e,putAt,List.mem_append,List.mem_cons,AwK,TU,List.mem_filter,List.mem_filter] at y2;rcases y2 with ⟨h1,_⟩ | rfl | ⟨h1,_⟩
  ·exact self h1
  ·exact mono o (by rw [<-y1];exact ho) (KBA hg).2.2.2.2
  ·exact self h1
 ·rw [e,List.mem_append,List.mem_singleton] at y2;rcases y2 with h1 | rfl
  ·exact self h1
  ·omega
 ·rw [e,without,List.mem_filter] at y2;exact self y2.1
theorem TBC {tk:AA->AA×Bool} {k:AA} {l:List Ah} {b:Ap} {c:CV} (g:Good k l b) (h5:c.Au=5) (h0:(AsA tk b c).2.1=0):∃ x,Aqg b.AU.AZ c.Ag=some x/\x.Aj=2/\x.fValue.size=32/\0<=Arx b x/\Arx b x<16/\Arx b x<=x.fNext/\(AsA tk b c)=(bif Arx b x != x.fNext then [] else [Nw (O3 x)],0,Arh (H7 x.fValue (Arx b x) c.fText)):=by
 rw [AsA,h5] at h0 ⊢;rw [show ((5:Int) == 1)=false from rfl,show ((5:Int) == 13)=false from rfl,show ((5:Int) == 2)=false from rfl,show ((5:Int) == 3)=false from rfl,show ((5:Int) == 4)=false from rfl,show ((5:Int) == 11)=false from rfl] at h0 ⊢;simp only [Aq] at h0 ⊢;by_cases ha:Ar8 b c.EJ<0;·rw [Ba ha] at h0;exact absurd h0 (by show ¬ (2:Int)=0;decide)
 rw [D6 ha] at h0 ⊢;cases hin:(b.BP.getD (Ar8 b c.EJ).toNat ⟨0,false⟩).QW;·rw [hin] at h0;exact absurd h0 (by show ¬ (5:Int)=0;decide)
 rw [hin] at h0;cases hx:Aqg b.AU.AZ c.Ag with
 | none=>rw [hx] at h0;exact absurd h0 (by show ¬ (7:Int)=0;decide)
 | some x=>
  rw [hx] at h0;obtain ⟨e1,e2⟩:=Aq0 hx
  have hx':Aqg b.AU.AZ x.fId=some x:=by rw [e1];exact hx
  have hok:=g.thing e2;obtain ⟨_,_,_,_,n0,n1,_⟩:=MZ hok
  have hl:=DAs g.LH.1 hx' n0;refine ⟨x,rfl,?_⟩;simp only [DN,Aq,VW,h5,show ((5:Int) == 6)=false from rfl,show ((5:Int) == 5)=true from rfl,Ar] at h0 ⊢;cases hm:JM x 3;·rw [hm] at h0;exact absurd h0 (by show ¬ (8:Int)=0;decide)
  ·obtain ⟨_,h2,_⟩:=EAs hm
   rw [hm,Ar,XO] at h0;rw [Ar,XO];by_cases h16:Arx b x>=16;·rw [Ba h16] at h0;exact absurd h0 (by show ¬ (1:Int)=0;decide)
   ·exact ⟨h2,ZM hok (.inr h2),hl.1,by omega,hl.2,by rw [D6 h16];rfl⟩
theorem KBS {tk:AA->AA×Bool} {b:Ap} {c:CV} (h9:c.Au=9) (h0:(AsA tk b c).2.1=0):∃ x,Aqg b.AU.AZ c.Ag=some x/\AsA tk b c=([fU x.fId],0,⟨#[]⟩):=by
 rw [AsA,h9] at h0 ⊢;rw [show ((9:Int) == 1)=false from rfl,show ((9:Int) == 13)=false from rfl,show ((9:Int) == 2)=false from rfl,show ((9:Int) == 3)=false from rfl,show ((9:Int) == 4)=false from rfl,show ((9:Int) == 11)=false from rfl] at h0 ⊢;simp only [Aq] at h0 ⊢;by_cases ha:Ar8 b c.EJ<0;·rw [Ba ha] at h0;exact absurd h0 (by show ¬ (2:Int)=0;decide)
 rw [D6 ha] at h0 ⊢;cases hin:(b.BP.getD (Ar8 b c.EJ).toNat ⟨0,false⟩).QW;·rw [hin] at h0;exact absurd h0 (by show ¬ (5:Int)=0;decide)
 rw [hin] at h0;cases hx:Aqg b.AU.AZ c.Ag with
 | none=>rw [hx] at h0;exact absurd h0 (by show ¬ (7:Int)=0;decide)
 | some x=>exact ⟨x,rfl,by simp only [DN,Aq,VW,h9];rfl⟩
theorem HBu {b:Ap} {c:CV} {z:Af} {leaf:Int} (hz:Aqg b.AU.AZ c.Ag=some z) (h5:c.Au=5) (hk:z.Aj=2) (hl:0<=leaf/\leaf<z.fNext):Ii b c 0 leaf=Ar4 b (AqR b.BD z.fId (leaf+1)):=by rw [Ii,h5,VU,hz];dsimp only;rw [hk,Ba hl.1,Ba hl.2];rfl
theorem IBu {b:Ap} {x y:Af} {n:Int} (h:JG b.BD) (hy:y.fId≠x.fId):Arx b y<=Arx (Ar4 b (AqR b.BD x.fId n)) y:=by
 refine WAs (c:=Ar4 b (AqR b.BD x.fId n)) h (fQ h) rfl (Int.le_refl _) (fun v v1 v2=>⟨v,SBC (by omega) v1,v2,Int.le_refl _⟩) (fun q w w1 w2=>?_);rcases rP h w w1 with rfl | ⟨w3,_⟩
 ·exact absurd w2.symm hy
 ·exact absurd w2 (q w w3)
theorem LBS {tk:AA->AA×Bool} {k:AA} {l:List Ah} {b:Ap} {c:CV} {t:Int} {y:Af} (g:Good k l b) (ht:t<=b.AU.BM) (hy:Aqg (Ny b c (AsA tk b c)).AU.AZ t=some y):∃ x,Aqg b.AU.AZ t=some x/\Arx b x<=Arx (Ny b c (AsA tk b c)) y/\(c.Au=5->(AsA tk b c).2.1=0->t=c.Ag->Arx b x<Arx (Ny b c (AsA tk b c)) y):=by
 have hbk:=G7.1 g.ArF;by_cases hs:c.Au=5/\(AsA tk b c).2.1=0
 ·obtain ⟨h5,h0⟩:=hs
  obtain ⟨x,x1,x2,_,x3,x4,x5,hp⟩:=TBC g h5 h0
  obtain ⟨i1,i2⟩:=Aq0 x1
  have hlf:AsP b c.Ag=Arx b x:=by rw [AsP,x1];dsimp only;rw [x2];rfl
  have fin:∀ {d:Ap} {z:Af},d.BD=b.BD->Aqg d.AU.AZ c.Ag=some z->z.fId=x.fId->z.Aj=2->Arx b x<z.fNext->(∀ w,Aqg d.AU.AZ t=some w->∃ x0,Aqg b.AU.AZ t=some x0/\Arx b x0<=Arx d w/\w.fId=x0.fId)->Aqg (Ii d c 0 (Arx b x)).AU.AZ t=some y->∃ x0,Aqg b.AU.AZ t=some x0/\Arx b x0<=Arx (Ii d c 0 (Arx b x)) y/\(c.Au=5->(AsA tk b c).2.1=0->t=c.Ag->Arx b x0<Arx (Ii d c 0 (Arx b x)) y):=by
   intro d z hd hz hid hkz hn hall BV;have hasc:JG d.BD:=by rw [hd];exact g.lives.2
   rw [HBu hz h5 hkz ⟨x3,hn⟩] at BV ⊢;obtain ⟨x0,q1,q2,q3⟩:=hall y BV
   by_cases e:t=c.Ag
   ·subst e;rw [q1] at x1;cases x1;have hy0:y=z:=by rw [show Aqg d.AU.AZ c.Ag=some y from BV] at hz;exact Option.some.inj hz
    subst hy0;rw [rO (b:=Ar4 d (AqR d.BD y.fId (Arx b x+1))) (fQ hasc) RBC rfl];exact ⟨x,q1,by show _<=Arx b x+1;omega,fun _ _ _=>by show _<Arx b x+1;omega⟩
   ·have HO:=(Aq0 BV).1;have hne:y.fId≠z.fId:=by omega
    exact ⟨x0,q1,Int.le_trans q2 (IBu hasc hne),fun _ _ q=>absurd q e⟩
  rw [Ny,hlf,hp] at hy ⊢;dsimp only at hy ⊢;rw [hp] at fin;cases hc:Arx b x != x.fNext
  ·rw [hc] at hy fin;have hc:Arx b x=x.fNext:=by rw [bne_eq_false_iff_eq] at hc;exact hc
   have hnx:Arx b x<(O3 x).fNext:=by show _<ite (16<x.fNext+3) 16 (x.fNext+3);split <;> omega
   have hok:=g.thing i2;have hent:(RZ b.AU (Nw (O3 x))).2=true:=by
    rcases XP (tk:=tk) (c:=c) g with q | ⟨r,q1,q2⟩
    ·rw [hp,hc,bne_self_eq_false] at q;cases q
    ·rw [hp,hc,bne_self_eq_false] at q1;have:Nw (O3 x)=r:=by simpa using q1
     rw [this];exact q2.ent
   have hz:Aqg (RZ b.AU (Nw (O3 x))).1.AZ c.Ag=some (O3 x):=by
    have hnew:=(G7.1 (Arn hent).2.2.2.1).2.2.2.2.2.2;rw [<-i1];refine IBA (x:=O3 x) hnew ?_;rcases rQ hent with ⟨q,_⟩ | ⟨_,_,_,_,e,_⟩ | ⟨_,e,_⟩ | ⟨q,_⟩
    ·exact absurd rfl q
    ·rw [e,putAt];exact List.mem_append_right _ (List.mem_cons_self ..)
    ·rw [e];exact List.mem_append_right _ (List.mem_singleton.2 rfl)
    ·exact absurd q (by show ¬ (3:Int)=4;decide)
   exact fin (d:=Gt b (Nw (O3 x))) rfl hz rfl x2 hnx (fun w hw=>JBS g hent ht hw) hy
  ·rw [hc] at hy fin;have hc:Arx b x≠x.fNext:=bne_iff_ne.1 hc;exact fin (d:=b) rfl x1 rfl x2 (by omega) (fun w hw=>⟨w,hw,Int.le_refl _,rfl⟩) hy
 ·have go:∀ {d:Ap},d.BD=b.BD->(∀ w,Aqg d.AU.AZ t=some w->∃ x0,Aqg b.AU.AZ t=some x0/\Arx b x0<=Arx d w/\w.fId=x0.fId)->(c.Au=9/\(AsA tk b c).2.1=0->∀ w,Aqg d.AU.AZ t=some w->w.fId≠c.Ag)->∀ code leaf,code=(AsA tk b c).2.1->Aqg (Ii d c code leaf).AU.AZ t=some y->∃ x0,Aqg b.AU.AZ t=some x0/\Arx b x0<=Arx (Ii d c code leaf) y/\(c.Au=5->(AsA tk b c).2.1=0->t=c.Ag->Arx b x0<Arx (Ii d c code leaf) y):=by
   intro d hd hall h9 code leaf hcode BV;have hasc:JG d.BD:=by rw [hd];exact g.lives.2
   have hbk:(Ii d c code leaf).AU=d.AU:=(IBS (x:=⟨c.Ag+1,0,false,false,false,false,⟨#[]⟩,0⟩) hasc (.inl (by show c.Ag+1≠c.Ag;omega)) (fun _ _ q=>absurd q (by show ¬ c.Ag=c.Ag+1;omega))).2.1;rw [hbk] at BV;obtain ⟨x0,q1,q2,q3⟩:=hall y BV
   refine ⟨x0,q1,Int.le_trans q2 (IBS hasc ?_ fun h5 h0=>absurd ⟨h5,by omega⟩ hs).1,fun h5 h0=>absurd ⟨h5,h0⟩ hs⟩;by_cases q:c.Au=9/\code=0;·exact .inl (h9 ⟨q.1,by omega⟩ y BV)
   ·exact .inr q
  rw [Ny] at hy ⊢;rcases XP (tk:=tk) (c:=c) g with h0 | ⟨r,h1,h2⟩
  ·rw [h0] at hy ⊢;refine go rfl (fun w hw=>⟨w,hw,Int.le_refl _,rfl⟩) (fun ⟨h9,hz⟩=>?_) _ _ rfl hy;obtain ⟨x,_,e⟩:=KBS h9 hz
   rw [e] at h0;cases h0
  ·rw [h1] at hy ⊢;refine go (d:=Gt b r) rfl (fun w hw=>JBS g h2.ent ht hw) (fun ⟨h9,hz⟩ w hw=>?_) _ _ rfl hy;obtain ⟨x,x1,e⟩:=KBS h9 hz
   have hrx:fU x.fId=r:=by rw [e] at h1;simpa using h1
   subst hrx;rcases rQ h2.ent with ⟨_,q,_⟩ | ⟨q,_⟩ | ⟨q,_⟩ | ⟨_,q,_⟩
   ·exact absurd rfl q
   ·exact absurd q (by show ¬ (4:Int)=3;decide)
   ·exact absurd q (by show ¬ (4:Int)=3;decide)
   ·have hm:=(Aq0 hw).2;rw [show (Gt b (fU x.fId)).AU.AZ=without b.AU.AZ x.fId from q,without,List.mem_filter,bne_iff_ne] at hm;rw [<-(Aq0 x1).1];exact hm.2
theorem gi_step {k:AA} {l l':List Ah} {L L':Bg} {e:DW} (h:AzZ k l L) (hn:L.Bq.length<45) (G:QZ l L) (s:Step k e l L l' L'):QZ l' L':=by
 have HC:=h.few.1;cases s with
 | call g hr hc=>
  have hk:=XP (tk:=Jc) (c:=e.BA) g;have gg:=OBP (tk:=Jc) (c:=e.BA) g (by omega);have nb0:NB l L.AX.AU:=by rw [<-g.book1];exact G.nb
  have DD:∀ q ∈ L.Cm,q.Ag<=L.AX.AU.BM/\q.Dv<lastOf l q.Ag:=by rw [<-g.book1];exact G.old
  have DM:=G.now g.up;have sg:=TBC (tk:=Jc) (c:=e.BA) g;have CT:∀ x,Aqg L.AX.AU.AZ e.BA.Ag=some x->x.Aj=2->AsP L.AX e.BA.Ag=Arx L.AX x:=fun x hx hk2=>by rw [AsP,hx];dsimp only;rw [hk2];rfl
  have Gd:(Ny L.AX e.BA (AsA Jc L.AX e.BA)).AU=(Apz Nb (l++(AsA Jc L.AX e.BA).1)).1:=gg.book1.symm;have CN:NB (l++(AsA Jc L.AX e.BA).1) (Apz Nb (l++(AsA Jc L.AX e.BA).1)).1/\(Apz Nb l).1.BM<=(Apz Nb (l++(AsA Jc L.AX e.BA).1)).1.BM/\∀ t,t<=L.AX.AU.BM->lastOf l t<=lastOf (l++(AsA Jc L.AX e.BA).1) t:=by
   rcases hk with h0 | ⟨r,h1,h2⟩
   ·rw [h0,List.append_nil];exact ⟨G.nb,Int.le_refl _,fun _ _=>Int.le_refl _⟩
   ·rw [h1,fV,g.book];dsimp only;rw [Ar,Apz,h2.ent];exact ⟨GBS nb0 h2.ent,UBL h2.ent,fun t ht=>HBS nb0 h2.ent ht⟩
  have Gk:(Apz Nb l).1.BM=L.AX.AU.BM:=by rw [g.book1]
  have DP:∀ q ∈ VX L e (AsA Jc L.AX e.BA).2.1,q ∈ L.Cm\/(e.BA.Au=5/\(AsA Jc L.AX e.BA).2.1=0/\q=⟨e.BA.Ag,AsP L.AX e.BA.Ag,(L.Bq.length:Int)⟩):=by
   intro q hq;rw [VX] at hq;cases hc:e.BA.Au == 5 && (AsA Jc L.AX e.BA).2.1 == 0;·rw [hc] at hq;exact .inl hq
   ·rw [hc,Ar,List.mem_append,List.mem_singleton] at hq;rw [Bool.and_eq_true,beq_iff_eq,beq_iff_eq] at hc;rcases hq with hq | hq
    ·exact .inl hq
    ·exact .inr ⟨hc.1,hc.2,hq⟩
  have C2:e.BA.Au=5->(AsA Jc L.AX e.BA).2.1=0->∃ x,Aqg L.AX.AU.AZ e.BA.Ag=some x/\AsP L.AX e.BA.Ag=Arx L.AX x/\x.fId=e.BA.Ag/\x.fId<=L.AX.AU.BM/\Arx L.AX x<lastOf (l++(AsA Jc L.AX e.BA).1) e.BA.Ag:=by
   intro h5 h0;obtain ⟨x,x1,x2,_,x3,x4,x5,hp⟩:=sg h5 h0
   obtain ⟨i1,i2⟩:=Aq0 x1
   refine ⟨x,x1,CT x x1 x2,i1,(AqL (G7.1 g.ArF).2.2.2.2.2.2 x i2).2.1,?_⟩;have hnb:=nb0 x i2;rw [hp];cases hc:Arx L.AX x != x.fNext
   ·have hc:Arx L.AX x=x.fNext:=by rw [bne_eq_false_iff_eq] at hc;exact hc
    rw [Aq,PBC,<-i1,show ((Nw (O3 x)).Aj == 3 && (Nw (O3 x)).Ag.fId == x.fId)=true by show ((3:Int) == 3 && x.fId == x.fId)=true;rw [beq_self_eq_true,beq_self_eq_true];rfl];show _<ite (16<x.fNext+3) 16 (x.fNext+3);split <;> omega
   ·have hc:Arx L.AX x≠x.fNext:=bne_iff_ne.1 hc;rw [Ar,List.append_nil,<-i1,hnb];omega
  refine ⟨?_,CN.1,?_,?_⟩
  ·show (VX L e (AsA Jc L.AX e.BA).2.1).Pairwise _;rw [VX];cases hc:e.BA.Au == 5 && (AsA Jc L.AX e.BA).2.1 == 0;·exact G.XM
   ·rw [Bool.and_eq_true,beq_iff_eq,beq_iff_eq] at hc;obtain ⟨x,x1,x2,_⟩:=C2 hc.1 hc.2
    refine List.pairwise_append.2 ⟨G.XM,List.pairwise_singleton _ _,fun q hq w hw et=>?_⟩;rw [List.mem_singleton.1 hw] at et ⊢;have h1:=DM q hq x (by rw [et];exact x1);show q.Dv<AsP L.AX e.BA.Ag;omega
  ·intro q hq;rcases DP q hq with hq | ⟨h5,h0,rfl⟩
   ·obtain ⟨q1,q2⟩:=DD q hq
    have:=CN.2.2 q.Ag q1;have:=CN.2.1;exact ⟨by omega,by omega⟩
   ·obtain ⟨x,x1,x2,x3,x4,x5⟩:=C2 h5 h0
    have:=CN.2.1;exact ⟨by show e.BA.Ag<=_;omega,by show AsP L.AX e.BA.Ag<lastOf (l++(AsA Jc L.AX e.BA).1) e.BA.Ag;omega⟩
  ·intro _ q hq y hy;have hy:Aqg (Ny L.AX e.BA (AsA Jc L.AX e.BA)).AU.AZ q.Ag=some y:=hy;show q.Dv<Arx (Ny L.AX e.BA (AsA Jc L.AX e.BA)) y;rcases DP q hq with hq | ⟨h5,h0,rfl⟩
   ·obtain ⟨x,x1,x2,_⟩:=LBS g (DD q hq).1 hy
    have:=DM q hq x x1;omega
   ·obtain ⟨x,x1,x2,x3,x4,x5⟩:=C2 h5 h0
    obtain ⟨z,z1,_,z3⟩:=LBS g (show e.BA.Ag<=_ by omega) hy
    have hz:z=x:=by rw [show Aqg L.AX.AU.AZ e.BA.Ag=some z from z1] at x1;exact Option.some.inj x1
    subst hz;have:=z3 h5 h0 rfl;show AsP L.AX e.BA.Ag<_;omega
 | cut g hr r hp b' l2 d hl=>
  have nb0:NB l L.AX.AU:=by rw [<-g.book1];exact G.nb
  have hk:=XP (tk:=Jc) (c:=e.BA) g;have h2:(RZ L.AX.AU r).2=true:=by
   rcases hk with h0 | ⟨r',h1,h2⟩
   ·rw [h0] at hp;cases hp
   ·rw [h1] at hp;cases hp;exact h2.ent
  obtain ⟨X,hX,_⟩:=d.box
  have hup:b'.CZ=false:=by rw [hX]
  rcases hl with rfl | rfl
  ·exact ⟨G.XM,G.nb,G.old,fun q=>by dsimp only at q;rw [hup] at q;cases q⟩
  ·have eb:(Apz Nb (l++[r])).1=(RZ L.AX.AU r).1:=by rw [fV,g.book];dsimp only;rw [Ar,Apz,h2];rfl
   refine ⟨G.XM,by rw [eb];exact GBS nb0 h2,fun q hq=>?_,fun q=>by dsimp only at q;rw [hup] at q;cases q⟩;have h3:=G.old q hq;rw [g.book1] at h3;have h4:=HBS nb0 h2 h3.1;have h5:=UBL h2;rw [eb];exact ⟨by omega,by omega⟩
 | down d hr=>exact ⟨G.XM,G.nb,G.old,G.now⟩
 | up d hr b' g h1 h2 h3=>
  refine ⟨G.XM,G.nb,G.old,fun _ q hq x hx=>?_⟩;have h4:=G.old q hq;dsimp only at hx ⊢;obtain ⟨x1,x2⟩:=Aq0 hx
  have h5:=G.nb x (by rw [g.book1];exact x2);rw [QBC (by rw [h2];intro v hv;cases hv),<-h5,x1];exact h4.2
 | stay g hr=>exact ⟨G.XM,G.nb,G.old,G.now⟩
theorem JBu {k w:AA} (hk:k.size=32) (hw:w.size<=20):QZ [Gf w] (ES k w):=by
 have g:=(rU hk hw).2.1;obtain ⟨_,_,_,_,_,_,h7,_⟩:=DBP hk hw
 have hb:=g.book1;refine ⟨List.Pairwise.nil,fun x hx=>?_,fun q hq=>(by cases hq),fun _ q hq=>(by cases hq)⟩;rw [hb,show (AsM k w).1.AU.AZ=[] from h7] at hx;cases hx
theorem KBu {k:AA} {e:DW} {l l':List Ah} {L L':Bg} (s:Step k e l L l' L'):L'.Bq.length=L.Bq.length+1:=by cases s <;> (dsimp only;rw [List.length_append];rfl)
theorem LBu {k:AA} {e:DW} {l l':List Ah} {L L':Bg} (h:AzZ k l L) (G:L.Bq.length<45->QZ l L) (s:Step k e l L l' L') (hn:L'.Bq.length<45):QZ l' L':=by have:=KBu s;exact gi_step h (by omega) (G (by omega)) s
def HG (L:Bg):Prop:=∀ g ∈ L.Cm,∃ (w:Nat) (s m:AA),g.AUi=(w:Int)/\L.EN[w]?=some (Arh (H7 s g.Dv m))/\0<=g.Dv/\g.Dv<=15
theorem MBu {k:AA} {l l':List Ah} {L L':Bg} {e:DW} (h:AzZ k l L) (hg:HG L) (s:Step k e l L l' L'):HG L':=by
 have old:∀ (y:AA),∀ g ∈ L.Cm,∃ (w:Nat) (s m:AA),g.AUi=(w:Int)/\(L.EN++[y])[w]?=some (Arh (H7 s g.Dv m))/\0<=g.Dv/\g.Dv<=15:=fun y g hy=>by
  obtain ⟨w,s,m,h1,h2,h3⟩:=hg g hy
  exact ⟨w,s,m,h1,by rw [List.getElem?_append_left (List.getElem?_eq_some_iff.1 h2).1];exact h2,h3⟩
 cases s with
 | call g hr hc=>
  intro q hq;have hq:q ∈ VX L e (AsA Jc L.AX e.BA).2.1:=hq;rw [VX] at hq;cases hb:e.BA.Au == 5 && (AsA Jc L.AX e.BA).2.1 == 0;·rw [hb] at hq;exact old _ q hq
  ·rw [hb,Ar] at hq;rcases List.mem_append.1 hq with hq | hq
   ·exact old _ q hq
   ·rw [List.mem_singleton] at hq;rw [Bool.and_eq_true,beq_iff_eq,beq_iff_eq] at hb;obtain ⟨x,x1,x2,_,x3,x4,_,hp⟩:=TBC g hb.1 hb.2
    have hlf:AsP L.AX e.BA.Ag=Arx L.AX x:=by rw [AsP,x1];dsimp only;rw [x2];rfl
    subst hq;refine ⟨L.Bq.length,x.fValue,e.BA.fText,rfl,?_,?_⟩;·show (L.EN++[_])[L.Bq.length]?=_;rw [<-h.few.2.1,List.getElem?_concat_length,hp,hlf]
    ·show 0<=AsP L.AX e.BA.Ag/\AsP L.AX e.BA.Ag<=15;rw [hlf];omega
 | cut g hr r hp b' l2 d hl=>exact fun q hq=>old _ q hq
 | down d hr=>exact fun q hq=>old _ q hq
 | up d hr b' g h1 h2 h3=>exact fun q hq=>old _ q hq
 | stay g hr=>exact fun q hq=>old _ q hq
section
variable {a0:AA} {a1:Bool} {a2:AA} {a3:Int} {a4:Int} {a5:AA} {a6:Int} {a7:Int} {c0:AA} {c1:Bool} {c2:AA} {c3:Int} {c4:Int} {c5:AA} {c6:Int} {c7:Int} {b0:List BQ} {b1:List Af} {b2:List EG} {b3:List CS} {b4:List Int} {b5:List AA} {b6:List D8} {b7:List Ah} {d0:List BQ} {d1:List Af} {d2:List EG} {d3:List CS} {d4:List Int} {d5:List AA} {d6:List D8} {d7:List Ah}
theorem MBS {id:Int} {lst:List Int} (h:lst.Pairwise (· < ·)) (hl:lst.length<=1000):∀ (n0 i m:Nat),1<=i->lst.length - i=n0->Aqm (m+n0+1) (.c1 id (i:Int) a0 a1 a2 a3 a4 a5 a6 a7 c0 c1 c2 c3 c4 c5 c6 c7 lst b0 b1 b2 b3 b4 b5 b6 b7 d0 d1 d2 d3 d4 d5 d6 d7)=Aqm m (.c0 (AV (id+1)) a0 a1 a2 a3 a4 a5 a6 a7 c0 c1 c2 c3 c4 c5 c6 c7 b0 b1 b2 b3 b4 b5 b6 b7 d0 d1 d2 d3 d4 d5 d6 d7)
 | 0,i,m,h1,h2=>by rw [Aqm];simp only [XQ,mk];rw [Jh (by omega)]
 | n0+1,i,m,h1,h2=>by
  have hi:i<lst.length:=by omega
  have hw:AV ((i:Int) - 1)=((i - 1:Nat):Int):=by rw [show (i:Int) - 1=((i - 1:Nat):Int) by omega];exact A8 (by omega) (by omega)
  have hlt:=List.pairwise_iff_getElem.1 h (i - 1) i (by omega) hi (by omega);rw [AwB m n0,Aqm];simp only [XQ,mk,hw,Fq (i:=i) (by omega),BR,getD_at hi,getD_at (show i - 1<lst.length by omega)];rw [Ep (by omega),GX (by omega),GX (by omega),Jh (by omega)];exact MBS h hl n0 (i+1) m (by omega) (by omega)
theorem NBS {G:List D8} (hG:G.length<=45) (h:∀ t,(leafs G t).Pairwise (· < ·)) {R:Option Bool} (K:Nat) (hend:∀ m,K<=m->Aqm m (.c2 0 a0 a1 a2 a3 a4 a5 a6 a7 b0 b1 b2 b3 b4 b5 G b7)=R):∀ (j id F:Nat),id+j=41->K+47*j+1<=F->Aqm F (.c0 (id:Int) a0 a1 a2 a3 a4 a5 a6 a7 c0 c1 c2 c3 c4 c5 c6 c7 b0 b1 b2 b3 b4 b5 G b7 d0 d1 d2 d3 d4 d5 G d7)=R
 | 0,id,F,h1,h2=>by
  obtain ⟨F,rfl⟩:∃ m,F=m+1:=⟨F - 1,by omega⟩
  rw [Aqm];simp only [XQ,mk];rw [Jh (by omega)];exact hend F (by omega)
 | j+1,id,F,h1,h2=>by
  have hl:(leafs G (id:Int)).length<=45:=by rw [leafs,List.length_map];exact Nat.le_trans (List.length_filter_le _ _) hG
  obtain ⟨n0,hd⟩:∃ n0,(leafs G (id:Int)).length - 1=n0:=⟨_,rfl⟩
  obtain ⟨m,rfl⟩:∃ m,F=m+n0+1+1:=⟨F - n0 - 2,by omega⟩
  rw [Aqm];simp only [XQ,mk];rw [Ep (by omega),XBt (by omega),AP,YBt (by omega),AP,ZBt (by omega),AP,DN,Aq];refine (MBS (h _) (by omega) n0 1 m (Nat.le_refl _) hd).trans ?_;rw [Fq (by omega)];exact NBS hG h K hend j (id+1) m (by omega) (by omega)
theorem OBS {G:List D8} {R:List AA} (hG:G.length<=45) (h:∀ g ∈ G,∃ (w:Nat) (s m:AA),g.AUi=(w:Int)/\R[w]?=some (Arh (H7 s g.Dv m))/\0<=g.Dv/\g.Dv<=15):∀ (j i m:Nat),i+j=G.length->Aqm (m+j+1) (.c2 (i:Int) a0 a1 a2 a3 a4 a5 a6 a7 b0 b1 b2 b3 b4 R G b7)=some true
 | 0,i,m,h1=>by rw [Aqm];simp only [XQ,mk];rw [Jh (by omega)]
 | j+1,i,m,h1=>by
  have hi:i<G.length:=by omega
  obtain ⟨w,s,x,e1,e2,e3⟩:=h _ (List.getElem_mem hi)
  have hw:=(List.getElem?_eq_some_iff.1 e2).1;have hr:R.getD w (⟨#[]⟩:AA)=Arh (H7 s G[i].Dv x):=by rw [List.getD_eq_getElem?_getD,e2];rfl
  rw [AwB m j,Aqm];simp only [XQ,mk,Fq (i:=i) (by omega),BR,getD_at hi,e1,hr];rw [Ep (by omega),GX (by omega),GX (by omega),Aai e3,AP];dsimp only;rw [DN,Aq,BBu e3,AP,bne_self_eq_false,Aq];exact OBS hG h j (i+1) m (by omega)
end
theorem NBu {G:List D8} (h:G.Pairwise fun g h=>g.Ag=h.Ag->g.Dv<h.Dv) (t:Int):(leafs G t).Pairwise (· < ·):=by
 rw [leafs,List.pairwise_map,List.pairwise_filter];refine h.imp fun {a b} hab ha hb=>hab ?_
 rw [beq_iff_eq] at ha hb;rw [ha,hb]
theorem AaS (x0:Unit):ACt x0=some true:=by
 rw [ACt,HA8,mk,HBg,AP];cases decide ((KI.length:Int) > 1048576)
 ·obtain ⟨⟨k,w,es⟩,hr,hk,hw,hn,he⟩:=CBu
  dsimp only at hk hw hn he;obtain ⟨l,L,h1,h2,h3,h4⟩:=DBu (P:=fun l L=>(L.Bq.length<45->QZ l L)/\HG L) hk hw hn he ⟨fun _=>JBu hk hw,fun g hg=>by cases hg⟩ fun l L l' L' e _ a b c=>⟨LBu a b.1 c,MBu a b.2 c⟩
  have G:=h3.1 (by omega);obtain ⟨f1,f2,f3⟩:=h2.few
  rw [Aq,hr,AP];dsimp only;rw [EBu hk hw hn he,h1,AP,AP];dsimp only;rw [DN,Aq,bne_self_eq_false,Aq,h4,bne_self_eq_false,Aq]
  refine NBS (G:=L.Cm) (R:=some true) (by omega) (NBu G.XM) 60 (fun m hm=>?_) 40 1 AY rfl (by
   have:AY=1000000000000000000000000000000000000000:=rfl;omega)
  obtain ⟨m,rfl⟩:∃ q,m=q+L.Cm.length+1:=⟨m - (L.Cm.length+1),by omega⟩
  exact OBS (by omega) h3.2 L.Cm.length 0 m (Nat.zero_add _)
 ·rfl
end Go.Proofs.YtkbbicgglblfiaaGreatDoor.G
