/- The plain law of FnKept: whatever the arguments, it answers true. Conditions: what is read is in reach. Part 4 of 4. -/
import Derived.Test.YtkbbicgglblfiaaGreatDoorPureFnKeptc
namespace Go.Proofs.YtkbbicgglblfiaaGreatDoor.G
open Go Go.Ev
set_option linter.unusedVariables false
set_option linter.unusedSimpArgs false
set_option linter.unusedSectionVars false
variable [PC]
def lastOf (l:List Ah) (t:Int):Int:=ZP l t l.length 0 0
theorem QBv (l:List Ah) (r:Ah) (t:Int):∀ (j i:Nat) (n:Int),i+j=l.length->ZP (l++[r]) t (j+1) i n=bif r.Aj == 3 && r.Ag.fId == t then r.Ag.fNext else ZP l t j i n:=by
 intro j;induction j with
 | zero=>
  intro i n h;have e:(l++[r]).getD i ⟨0,⟨#[]⟩,0,⟨0,0,false,false,false,false,⟨#[]⟩,0⟩⟩=r:=by rw [getD_at (by rw [List.length_append,List.length_singleton];omega),List.getElem_append_right (by omega)];simp
  have e2:ZP (l++[r]) t (0+1) i n=bif ((l++[r]).getD i ⟨0,⟨#[]⟩,0,⟨0,0,false,false,false,false,⟨#[]⟩,0⟩⟩).Aj == 3 && ((l++[r]).getD i ⟨0,⟨#[]⟩,0,⟨0,0,false,false,false,false,⟨#[]⟩,0⟩⟩).Ag.fId == t then ((l++[r]).getD i ⟨0,⟨#[]⟩,0,⟨0,0,false,false,false,false,⟨#[]⟩,0⟩⟩).Ag.fNext else n:=rfl
  rw [e2,e];rfl
 | succ j ih=>
  intro i n h;have e:(l++[r]).getD i ⟨0,⟨#[]⟩,0,⟨0,0,false,false,false,false,⟨#[]⟩,0⟩⟩=l.getD i ⟨0,⟨#[]⟩,0,⟨0,0,false,false,false,false,⟨#[]⟩,0⟩⟩:=by rw [getD_at (by rw [List.length_append,List.length_singleton];omega),getD_at (by omega),List.getElem_append_left (by omega)]
  rw [ZP,e,ih (i+1) _ (by omega)];conv=>rhs;rw [ZP]
theorem UBD (l:List Ah) (r:Ah) (t:Int):lastOf (l++[r]) t=bif r.Aj == 3 && r.Ag.fId == t then r.Ag.fNext else lastOf l t:=by rw [lastOf,List.length_append,List.length_singleton,QBv l r t l.length 0 0 (Nat.zero_add _)];rfl
theorem ru {b:Bo} {r:Ah} (h:(Awv b r).2=true):(r.Aj≠3/\r.Aj≠4/\(Awv b r).1.AZ=b.AZ/\(Awv b r).1.BM=b.BM)\/(r.Aj=3/\∃ o,C9 b.AZ r.Ag.fId=some o/\grown o r.Ag=true/\(Awv b r).1.AZ=putAt b.AZ r.Ag/\(Awv b r).1.BM=b.BM)\/(r.Aj=3/\(Awv b r).1.AZ=b.AZ++[r.Ag]/\r.Ag.fId=b.BM+1/\(Awv b r).1.BM=b.BM+1)\/(r.Aj=4/\(Awv b r).1.AZ=without b.AZ r.DR/\(Awv b r).1.BM=b.BM):=by
 have h2:=(Tv h).2.1;rw [Awv] at h ⊢;cases hc:(!(G9 b) || (!(AwX r).2 || decide (b.fCount>=10000)))
 ·rw [hc] at h;simp only [Aq] at h ⊢;rcases gG h2 with ⟨hk,hz⟩ | ⟨hk,hz⟩ | ⟨hk,hz⟩ | ⟨hk,hz⟩
  ·rw [hk];exact .inl ⟨by decide,by decide,rfl,rfl⟩
  ·rw [hk];exact .inl ⟨by decide,by decide,rfl,rfl⟩
  ·rw [hk] at h ⊢;simp only [show ((3:Int) == 1)=false from rfl,show ((3:Int) == 2)=false from rfl,show ((3:Int) == 3)=true from rfl,Ar,Aq] at h ⊢;rw [TT] at h ⊢;cases ht:C9 b.AZ r.Ag.fId with
   | some o=>
    rw [ht] at h;simp only at h ⊢;cases hg:grown o r.Ag;·rw [hg] at h;cases h
    ·exact .inr (.inl ⟨trivial,o,rfl,hg,rfl,rfl⟩)
   | none=>
    rw [ht] at h;simp only at h ⊢;cases hg:(r.Ag.fId != b.BM+1 || decide ((b.AZ.length:Int)>=8))
    ·rw [Bool.or_eq_false_iff,bne_eq_false_iff_eq] at hg;exact .inr (.inr (.inl ⟨trivial,rfl,hg.1,hg.1⟩))
    ·rw [hg] at h;cases h
  ·rw [hk] at h ⊢;simp only [show ((4:Int) == 1)=false from rfl,show ((4:Int) == 2)=false from rfl,show ((4:Int) == 3)=false from rfl,Aq] at h ⊢;cases ht:C9 b.AZ r.DR with
   | none=>rw [ht] at h;cases h
   | some x=>exact .inr (.inr (.inr ⟨trivial,rfl,rfl⟩))
 ·rw [hc] at h;cases h
def NB (l:List Ah) (b:Bo):Prop:=∀ x ∈ b.AZ,lastOf l x.fId=x.fNext
theorem EBT {l:List Ah} {b:Bo} {r:Ah} (hn:NB l b) (h:(Awv b r).2=true):NB (l++[r]) (Awv b r).1:=by
 have hr:=(HY.1 (Tv h).1).2.2.2.2.2.2;intro x hx;rw [UBD];rcases ru h with ⟨k3,_,e,_⟩ | ⟨k3,o,ho,_,e,_⟩ | ⟨k3,e,hid,_⟩ | ⟨k4,e,_⟩
 ·rw [beq_eq_false_iff_ne.2 k3];exact hn x (by rw [<-e];exact hx)
 ·rw [k3];rw [e,putAt,List.mem_append,List.mem_cons,O0,TU,List.mem_filter,List.mem_filter,decide_eq_true_eq,decide_eq_true_eq] at hx;rcases hx with ⟨h1,h2⟩ | rfl | ⟨h1,h2⟩
  ·rw [beq_eq_false_iff_ne.2 (by omega:r.Ag.fId≠x.fId),Bool.and_false];exact hn x h1
  ·rw [beq_self_eq_true,beq_self_eq_true];rfl
  ·rw [beq_eq_false_iff_ne.2 (by omega:r.Ag.fId≠x.fId),Bool.and_false];exact hn x h1
 ·rw [k3];rw [e,List.mem_append,List.mem_singleton] at hx;rcases hx with h1 | rfl
  ·have:=ArP hr x h1;rw [beq_eq_false_iff_ne.2 (by omega:r.Ag.fId≠x.fId),Bool.and_false];exact hn x h1
  ·rw [beq_self_eq_true,beq_self_eq_true];rfl
 ·rw [k4];rw [e,without,List.mem_filter] at hx;exact hn x hx.1
theorem FBT {l:List Ah} {b:Bo} {r:Ah} {t:Int} (hn:NB l b) (h:(Awv b r).2=true) (ht:t<=b.BM):lastOf l t<=lastOf (l++[r]) t:=by
 rw [UBD];cases hq:r.Aj == 3 && r.Ag.fId == t;·exact Int.le_refl _
 ·rw [Ar];rw [Bool.and_eq_true,beq_iff_eq,beq_iff_eq] at hq;rcases ru h with ⟨k3,_⟩ | ⟨_,o,ho,hg,_⟩ | ⟨_,_,hid,_⟩ | ⟨k4,_⟩
  ·exact absurd hq.1 k3
  ·obtain ⟨e1,e2⟩:o.fId=r.Ag.fId/\o ∈ b.AZ:=by rw [C9] at ho;have h9:=List.find?_some ho;exact ⟨beq_iff_eq.1 h9,List.mem_of_find?_eq_some ho⟩
   have h1:=hn o e2;have h2:=(MBB hg).2.2.2.2;rw [e1,hq.2] at h1;omega
  ·omega
  ·omega
theorem RBv {ls:List CS} (h:Arw ls) {v w:CS} (hv:v ∈ ls) (hw:w ∈ ls) (e:v.fId=w.fId):v=w:=by
 obtain ⟨i,hi,rfl⟩:=List.mem_iff_getElem.1 hv
 obtain ⟨j,hj,rfl⟩:=List.mem_iff_getElem.1 hw
 rcases Nat.lt_trichotomy i j with q | q | q
 ·have:=List.pairwise_iff_getElem.1 h i j hi hj q;omega
 ·subst q;rfl
 ·have:=List.pairwise_iff_getElem.1 h j i hj hi q;omega
theorem sD {b:Ap} {x:Af} {v:CS} (h:Arw b.BD) (hv:v ∈ b.BD) (e:v.fId=x.fId):DF b x=v.fNext:=by
 rw [DF];cases hp:AxB b.BD x.fId 0 with
 | none=>
  exfalso;have:∀ {ls:List CS} {i:Nat},AxB ls x.fId i=none->∀ v ∈ ls,v.fId≠x.fId:=by
   intro ls;induction ls with
   | nil=>intro i _ v hv;cases hv
   | cons f fs ih=>
    intro i h v hv;rw [AxB] at h;split at h;·cases h
    ·rename_i h1;rcases List.mem_cons.1 hv with rfl | hv
     ·exact fun q=>h1 (beq_iff_eq.2 q)
     ·exact ih h v hv
  exact this hp v hv e
 | some j=>
  have h1:=(gI hp).2;have h2:=MBP hp;rw [Nat.sub_zero] at h2;show (b.BD.getD j ⟨0,0⟩).fNext=_;rw [getD_at (by omega)] at h2 ⊢;rw [RBv h hv (List.getElem_mem (by omega)) (e.trans h2.symm)]
theorem VBD {b:Ap} {x:Af} (h:∀ v ∈ b.BD,v.fId≠x.fId):DF b x=x.fNext:=by rw [DF,QBB h]
theorem OAt {b c:Ap} {x y:Af} (hb:Arw b.BD) (hc:Arw c.BD) (hid:y.fId=x.fId) (hn:x.fNext<=y.fNext)
  (h1:∀ v ∈ b.BD,v.fId=x.fId->∃ w ∈ c.BD,w.fId=x.fId/\v.fNext<=w.fNext) (h2:(∀ v ∈ b.BD,v.fId≠x.fId)->∀ w ∈ c.BD,w.fId=x.fId->x.fNext<=w.fNext):DF b x<=DF c y:=by
 by_cases q:∃ v ∈ b.BD,v.fId=x.fId
 ·obtain ⟨v,v1,v2⟩:=q
  obtain ⟨w,w1,w2,w3⟩:=h1 v v1 v2
  rw [sD hb v1 v2,sD hc w1 (w2.trans hid.symm)];exact w3
 ·have q:∀ v ∈ b.BD,v.fId≠x.fId:=fun v hv e=>q ⟨v,hv,e⟩
  rw [VBD q];by_cases p:∃ w ∈ c.BD,w.fId=x.fId
  ·obtain ⟨w,w1,w2⟩:=p
   rw [sD hc w1 (w2.trans hid.symm)];exact h2 q w w1 w2
  ·rw [VBD fun w hw e=>p ⟨w,hw,e.trans hid⟩];exact hn
structure QZ (l:List Ah) (L:Bg):Prop where
 XR:L.Cm.Pairwise fun g h=>g.Ag=h.Ag->g.Dv<h.Dv
 nb:NB l (Dl DI l).1
 old:∀ g ∈ L.Cm,g.Ag<=(Dl DI l).1.BM/\g.Dv<lastOf l g.Ag
 now:L.AX.CZ=true->∀ g ∈ L.Cm,∀ x,C9 L.AX.AU.AZ g.Ag=some x->g.Dv<DF L.AX x
theorem WBD {id n:Int}:∀ {ls:List CS},(⟨id,n⟩:CS) ∈ Am ls id n
 | []=>List.mem_singleton.2 rfl
 | v::vs=>by
  rw [Am];split;·exact List.mem_cons_self ..
  ·split;·exact List.mem_cons_of_mem _ WBD
   ·exact List.mem_cons_self ..
theorem XBD {id n:Int} {v:CS} (hn:v.fId≠id):∀ {ls:List CS},v ∈ ls->v ∈ Am ls id n
 | w::vs,h=>by
  rw [Am];split
  ·rename_i h1;rcases List.mem_cons.1 h with rfl | h
   ·exact absurd h1 hn
   ·exact List.mem_cons_of_mem _ h
  ·split
   ·rcases List.mem_cons.1 h with rfl | h
    ·exact List.mem_cons_self ..
    ·exact List.mem_cons_of_mem _ (XBD hn h)
   ·exact List.mem_cons_of_mem _ h
theorem GBT {b:Ap} {c:CV} {code leaf:Int} {x:Af} (h:Arw b.BD) (hx:x.fId≠c.Ag\/¬ (c.Au=9/\code=0)) (hl:c.Au=5->code=0->c.Ag=x.fId->DF b x<=leaf):DF b x<=DF (Ij b c code leaf) x/\(Ij b c code leaf).AU=b.AU/\(Ij b c code leaf).CZ=b.CZ:=by
 have same:∀ {d:Ap},d.BD=b.BD->DF b x<=DF d x:=fun e=>by rw [DF,DF,e];exact Int.le_refl _
 rw [Ij];cases hc:code != 0
 ·have hc:code=0:=by rw [bne_eq_false_iff_eq] at hc;exact hc
  cases c.Au == 1
  ·cases c.Au == 13
   ·cases c.Au == 2
    ·cases h5:c.Au == 5
     ·cases h9:c.Au == 9;·exact ⟨same rfl,rfl,rfl⟩
      ·have hne:x.fId≠c.Ag:=hx.resolve_right fun q=>q ⟨beq_iff_eq.1 h9,hc⟩
       refine ⟨OAt (c:=Aq0 b (Rq b.BD c.Ag)) h (h.filter _) rfl (Int.le_refl _) (fun v v1 v2=>⟨v,List.mem_filter.2 ⟨v1,by rw [bne_iff_ne];omega⟩,v2,Int.le_refl _⟩) (fun q w w1 w2=>absurd w2 (q w (List.mem_filter.1 w1).1)),rfl,rfl⟩
     ·rw [Aq,Aq,Aq,Aq,Ar,Va];cases hy:C9 b.AU.AZ c.Ag with
      | none=>exact ⟨same rfl,rfl,rfl⟩
      | some y=>
       dsimp only;have hid:=(Oo hy).1;cases y.Aj == 2 && (decide (leaf>=0) && decide (leaf<y.fNext));·exact ⟨same rfl,rfl,rfl⟩
       ·refine ⟨?_,rfl,rfl⟩;rw [Ar];by_cases e:c.Ag=x.fId;·have h1:=hl (beq_iff_eq.1 h5) hc e;rw [sD (b:=Aq0 b (Am b.BD y.fId (leaf+1))) (gJ h) WBD (by show y.fId=x.fId;omega)];show DF b x<=leaf+1;omega
        ·refine OAt (c:=Aq0 b (Am b.BD y.fId (leaf+1))) h (gJ h) rfl (Int.le_refl _) (fun v v1 v2=>⟨v,XBD (by omega) v1,v2,Int.le_refl _⟩) (fun q w w1 w2=>?_);rcases sF h w w1 with rfl | ⟨w3,_⟩
         ·exact absurd (hid.symm.trans w2) e
         ·exact absurd w2 (q w w3)
    ·exact ⟨same rfl,rfl,rfl⟩
   ·exact ⟨same rfl,rfl,rfl⟩
  ·exact ⟨same rfl,rfl,rfl⟩
 ·exact ⟨same rfl,rfl,rfl⟩
theorem HBT {k:AA} {l:List Ah} {b:Ap} {r:Ah} {y:Af} {t:Int} (g:Good k l b) (h:(Awv b.AU r).2=true) (ht:t<=b.AU.BM) (hy:C9 (Awv b.AU r).1.AZ t=some y):∃ x,C9 b.AU.AZ t=some x/\DF b x<=DF (Gt b r) y/\y.fId=x.fId:=by
 have hr:=(HY.1 g.Jk).2.2.2.2.2.2;obtain ⟨y1,y2⟩:=Oo hy
 have mono:∀ x,C9 b.AU.AZ t=some x->x.fNext<=y.fNext->∃ x,C9 b.AU.AZ t=some x/\DF b x<=DF (Gt b r) y/\y.fId=x.fId:=fun x hx hn=>by have e:=(Oo hx).1;exact ⟨x,hx,OAt (c:=Gt b r) g.lives.2 g.lives.2 (by omega) hn (fun v v1 v2=>⟨v,v1,v2,Int.le_refl _⟩) (fun q w w1 w2=>absurd w2 (q w w1)),by omega⟩
 have self:y ∈ b.AU.AZ->∃ x,C9 b.AU.AZ t=some x/\DF b x<=DF (Gt b r) y/\y.fId=x.fId:=fun hm=>mono y (by rw [<-y1];exact KBB hr hm) (Int.le_refl _)
 rcases ru h with ⟨_,_,e,_⟩ | ⟨_,o,ho,hg,e,_⟩ | ⟨_,e,hid,_⟩ | ⟨_,e,_⟩
 ·exact self (by rw [<-e];exact y2)
 ·rw [e,putAt,List.mem_append,List.mem_cons,O0,TU,List.mem_filter,List.mem_filter] at y2;rcases y2 with ⟨h1,_⟩ | rfl | ⟨h1,_⟩
  ·exact self h1
  ·exact mono o (by rw [<-y1];exact ho) (MBB hg).2.2.2.2
  ·exact self h1
 ·rw [e,List.mem_append,List.mem_singleton] at y2;rcases y2 with h1 | rfl
  ·exact self h1
  ·omega
 ·rw [e,without,List.mem_filter] at y2;exact self y2.1
theorem IBT {tk:AA->AA×Bool} {k:AA} {l:List Ah} {b:Ap} {c:CV} (g:Good k l b) (h5:c.Au=5) (h0:(Fb tk b c).2.1=0):∃ x,C9 b.AU.AZ c.Ag=some x/\x.Aj=2/\x.fValue.size=32/\0<=DF b x/\DF b x<16/\DF b x<=x.fNext/\(Fb tk b c)=(bif DF b x != x.fNext then [] else [Nb (O1 x)],0,BAs (O3 x.fValue (DF b x) c.fText)):=by
 rw [Fb,h5] at h0 ⊢;rw [show ((5:Int) == 1)=false from rfl,show ((5:Int) == 13)=false from rfl,show ((5:Int) == 2)=false from rfl,show ((5:Int) == 3)=false from rfl,show ((5:Int) == 4)=false from rfl,show ((5:Int) == 11)=false from rfl] at h0 ⊢;simp only [Aq] at h0 ⊢;by_cases ha:Gl b c.EJ<0;·rw [Ba ha] at h0;exact absurd h0 (by show ¬ (2:Int)=0;decide)
 rw [D6 ha] at h0 ⊢;cases hin:(b.BP.getD (Gl b c.EJ).toNat ⟨0,false⟩).QW;·rw [hin] at h0;exact absurd h0 (by show ¬ (5:Int)=0;decide)
 rw [hin] at h0;cases hx:C9 b.AU.AZ c.Ag with
 | none=>rw [hx] at h0;exact absurd h0 (by show ¬ (7:Int)=0;decide)
 | some x=>
  rw [hx] at h0;obtain ⟨e1,e2⟩:=Oo hx
  have hx':C9 b.AU.AZ x.fId=some x:=by rw [e1];exact hx
  have hok:=g.thing e2;obtain ⟨_,_,_,_,n0,n1,_⟩:=Arq hok
  have hl:=VAs g.Kt.1 hx' n0;refine ⟨x,rfl,?_⟩;simp only [DN,Aq,Vb,h5,show ((5:Int) == 6)=false from rfl,show ((5:Int) == 5)=true from rfl,Ar] at h0 ⊢;cases hm:Qk x 3;·rw [hm] at h0;exact absurd h0 (by show ¬ (8:Int)=0;decide)
  ·obtain ⟨_,h2,_⟩:=WAs hm
   rw [hm,Ar,XT] at h0;rw [Ar,XT];by_cases h16:DF b x>=16;·rw [Ba h16] at h0;exact absurd h0 (by show ¬ (1:Int)=0;decide)
   ·exact ⟨h2,ZQ hok (.inr h2),hl.1,by omega,hl.2,by rw [D6 h16];rfl⟩
theorem JBT {tk:AA->AA×Bool} {b:Ap} {c:CV} (h9:c.Au=9) (h0:(Fb tk b c).2.1=0):∃ x,C9 b.AU.AZ c.Ag=some x/\Fb tk b c=([gK x.fId],0,⟨#[]⟩):=by
 rw [Fb,h9] at h0 ⊢;rw [show ((9:Int) == 1)=false from rfl,show ((9:Int) == 13)=false from rfl,show ((9:Int) == 2)=false from rfl,show ((9:Int) == 3)=false from rfl,show ((9:Int) == 4)=false from rfl,show ((9:Int) == 11)=false from rfl] at h0 ⊢;simp only [Aq] at h0 ⊢;by_cases ha:Gl b c.EJ<0;·rw [Ba ha] at h0;exact absurd h0 (by show ¬ (2:Int)=0;decide)
 rw [D6 ha] at h0 ⊢;cases hin:(b.BP.getD (Gl b c.EJ).toNat ⟨0,false⟩).QW;·rw [hin] at h0;exact absurd h0 (by show ¬ (5:Int)=0;decide)
 rw [hin] at h0;cases hx:C9 b.AU.AZ c.Ag with
 | none=>rw [hx] at h0;exact absurd h0 (by show ¬ (7:Int)=0;decide)
 | some x=>exact ⟨x,rfl,by simp only [DN,Aq,Vb,h9];rfl⟩
theorem SBv {b:Ap} {c:CV} {z:Af} {leaf:Int} (hz:C9 b.AU.AZ c.Ag=some z) (h5:c.Au=5) (hk:z.Aj=2) (hl:0<=leaf/\leaf<z.fNext):Ij b c 0 leaf=Aq0 b (Am b.BD z.fId (leaf+1)):=by rw [Ij,h5,Va,hz];dsimp only;rw [hk,Ba hl.1,Ba hl.2];rfl
theorem TBv {b:Ap} {x y:Af} {n:Int} (h:Arw b.BD) (hy:y.fId≠x.fId):DF b y<=DF (Aq0 b (Am b.BD x.fId n)) y:=by
 refine OAt (c:=Aq0 b (Am b.BD x.fId n)) h (gJ h) rfl (Int.le_refl _) (fun v v1 v2=>⟨v,XBD (by omega) v1,v2,Int.le_refl _⟩) (fun q w w1 w2=>?_);rcases sF h w w1 with rfl | ⟨w3,_⟩
 ·exact absurd w2.symm hy
 ·exact absurd w2 (q w w3)
theorem KBT {tk:AA->AA×Bool} {k:AA} {l:List Ah} {b:Ap} {c:CV} {t:Int} {y:Af} (g:Good k l b) (ht:t<=b.AU.BM) (hy:C9 (Nc b c (Fb tk b c)).AU.AZ t=some y):∃ x,C9 b.AU.AZ t=some x/\DF b x<=DF (Nc b c (Fb tk b c)) y/\(c.Au=5->(Fb tk b c).2.1=0->t=c.Ag->DF b x<DF (Nc b c (Fb tk b c)) y):=by
 have hbk:=HY.1 g.Jk;by_cases hs:c.Au=5/\(Fb tk b c).2.1=0
 ·obtain ⟨h5,h0⟩:=hs
  obtain ⟨x,x1,x2,_,x3,x4,x5,hp⟩:=IBT g h5 h0
  obtain ⟨i1,i2⟩:=Oo x1
  have hlf:Lj b c.Ag=DF b x:=by rw [Lj,x1];dsimp only;rw [x2];rfl
  have fin:∀ {d:Ap} {z:Af},d.BD=b.BD->C9 d.AU.AZ c.Ag=some z->z.fId=x.fId->z.Aj=2->DF b x<z.fNext->(∀ w,C9 d.AU.AZ t=some w->∃ x0,C9 b.AU.AZ t=some x0/\DF b x0<=DF d w/\w.fId=x0.fId)->C9 (Ij d c 0 (DF b x)).AU.AZ t=some y->∃ x0,C9 b.AU.AZ t=some x0/\DF b x0<=DF (Ij d c 0 (DF b x)) y/\(c.Au=5->(Fb tk b c).2.1=0->t=c.Ag->DF b x0<DF (Ij d c 0 (DF b x)) y):=by
   intro d z hd hz hid hkz hn hall BV;have hasc:Arw d.BD:=by rw [hd];exact g.lives.2
   rw [SBv hz h5 hkz ⟨x3,hn⟩] at BV ⊢;obtain ⟨x0,q1,q2,q3⟩:=hall y BV
   by_cases e:t=c.Ag
   ·subst e;rw [q1] at x1;cases x1;have hy0:y=z:=by rw [show C9 d.AU.AZ c.Ag=some y from BV] at hz;exact Option.some.inj hz
    subst hy0;rw [sD (b:=Aq0 d (Am d.BD y.fId (DF b x+1))) (gJ hasc) WBD rfl];exact ⟨x,q1,by show _<=DF b x+1;omega,fun _ _ _=>by show _<DF b x+1;omega⟩
   ·have HN:=(Oo BV).1;have hne:y.fId≠z.fId:=by omega
    exact ⟨x0,q1,Int.le_trans q2 (TBv hasc hne),fun _ _ q=>absurd q e⟩
  rw [Nc,hlf,hp] at hy ⊢;dsimp only at hy ⊢;rw [hp] at fin;cases hc:DF b x != x.fNext
  ·rw [hc] at hy fin;have hc:DF b x=x.fNext:=by rw [bne_eq_false_iff_eq] at hc;exact hc
   have hnx:DF b x<(O1 x).fNext:=by show _<ite (16<x.fNext+3) 16 (x.fNext+3);split <;> omega
   have hok:=g.thing i2;have hent:(Awv b.AU (Nb (O1 x))).2=true:=by
    rcases XU (tk:=tk) (c:=c) g with q | ⟨r,q1,q2⟩
    ·rw [hp,hc,bne_self_eq_false] at q;cases q
    ·rw [hp,hc,bne_self_eq_false] at q1;have:Nb (O1 x)=r:=by simpa using q1
     rw [this];exact q2.ent
   have hz:C9 (Awv b.AU (Nb (O1 x))).1.AZ c.Ag=some (O1 x):=by
    have hnew:=(HY.1 (Tv hent).2.2.2.1).2.2.2.2.2.2;rw [<-i1];refine KBB (x:=O1 x) hnew ?_;rcases ru hent with ⟨q,_⟩ | ⟨_,_,_,_,e,_⟩ | ⟨_,e,_⟩ | ⟨q,_⟩
    ·exact absurd rfl q
    ·rw [e,putAt];exact List.mem_append_right _ (List.mem_cons_self ..)
    ·rw [e];exact List.mem_append_right _ (List.mem_singleton.2 rfl)
    ·exact absurd q (by show ¬ (3:Int)=4;decide)
   exact fin (d:=Gt b (Nb (O1 x))) rfl hz rfl x2 hnx (fun w hw=>HBT g hent ht hw) hy
  ·rw [hc] at hy fin;have hc:DF b x≠x.fNext:=bne_iff_ne.1 hc;exact fin (d:=b) rfl x1 rfl x2 (by omega) (fun w hw=>⟨w,hw,Int.le_refl _,rfl⟩) hy
 ·have go:∀ {d:Ap},d.BD=b.BD->(∀ w,C9 d.AU.AZ t=some w->∃ x0,C9 b.AU.AZ t=some x0/\DF b x0<=DF d w/\w.fId=x0.fId)->(c.Au=9/\(Fb tk b c).2.1=0->∀ w,C9 d.AU.AZ t=some w->w.fId≠c.Ag)->∀ code leaf,code=(Fb tk b c).2.1->C9 (Ij d c code leaf).AU.AZ t=some y->∃ x0,C9 b.AU.AZ t=some x0/\DF b x0<=DF (Ij d c code leaf) y/\(c.Au=5->(Fb tk b c).2.1=0->t=c.Ag->DF b x0<DF (Ij d c code leaf) y):=by
   intro d hd hall h9 code leaf hcode BV;have hasc:Arw d.BD:=by rw [hd];exact g.lives.2
   have hbk:(Ij d c code leaf).AU=d.AU:=(GBT (x:=⟨c.Ag+1,0,false,false,false,false,⟨#[]⟩,0⟩) hasc (.inl (by show c.Ag+1≠c.Ag;omega)) (fun _ _ q=>absurd q (by show ¬ c.Ag=c.Ag+1;omega))).2.1;rw [hbk] at BV;obtain ⟨x0,q1,q2,q3⟩:=hall y BV
   refine ⟨x0,q1,Int.le_trans q2 (GBT hasc ?_ fun h5 h0=>absurd ⟨h5,by omega⟩ hs).1,fun h5 h0=>absurd ⟨h5,h0⟩ hs⟩;by_cases q:c.Au=9/\code=0;·exact .inl (h9 ⟨q.1,by omega⟩ y BV)
   ·exact .inr q
  rw [Nc] at hy ⊢;rcases XU (tk:=tk) (c:=c) g with h0 | ⟨r,h1,h2⟩
  ·rw [h0] at hy ⊢;refine go rfl (fun w hw=>⟨w,hw,Int.le_refl _,rfl⟩) (fun ⟨h9,hz⟩=>?_) _ _ rfl hy;obtain ⟨x,_,e⟩:=JBT h9 hz
   rw [e] at h0;cases h0
  ·rw [h1] at hy ⊢;refine go (d:=Gt b r) rfl (fun w hw=>HBT g h2.ent ht hw) (fun ⟨h9,hz⟩ w hw=>?_) _ _ rfl hy;obtain ⟨x,x1,e⟩:=JBT h9 hz
   have hrx:gK x.fId=r:=by rw [e] at h1;simpa using h1
   subst hrx;rcases ru h2.ent with ⟨_,q,_⟩ | ⟨q,_⟩ | ⟨q,_⟩ | ⟨_,q,_⟩
   ·exact absurd rfl q
   ·exact absurd q (by show ¬ (4:Int)=3;decide)
   ·exact absurd q (by show ¬ (4:Int)=3;decide)
   ·have hm:=(Oo hw).2;rw [show (Gt b (gK x.fId)).AU.AZ=without b.AU.AZ x.fId from q,without,List.mem_filter,bne_iff_ne] at hm;rw [<-(Oo x1).1];exact hm.2
theorem gi_step {k:AA} {l l':List Ah} {L L':Bg} {e:DW} (h:AzZ k l L) (hn:L.Bq.length<45) (G:QZ l L) (s:Step k e l L l' L'):QZ l' L':=by
 have G1:=h.few.1;cases s with
 | call g hr hc=>
  have hk:=XU (tk:=Ar6) (c:=e.BA) g;have gg:=NBQ (tk:=Ar6) (c:=e.BA) g (by omega);have nb0:NB l L.AX.AU:=by rw [<-g.book1];exact G.nb
  have DD:∀ q ∈ L.Cm,q.Ag<=L.AX.AU.BM/\q.Dv<lastOf l q.Ag:=by rw [<-g.book1];exact G.old
  have DM:=G.now g.up;have sg:=IBT (tk:=Ar6) (c:=e.BA) g;have CT:∀ x,C9 L.AX.AU.AZ e.BA.Ag=some x->x.Aj=2->Lj L.AX e.BA.Ag=DF L.AX x:=fun x hx hk2=>by rw [Lj,hx];dsimp only;rw [hk2];rfl
  have Gd:(Nc L.AX e.BA (Fb Ar6 L.AX e.BA)).AU=(Dl DI (l++(Fb Ar6 L.AX e.BA).1)).1:=gg.book1.symm;have CN:NB (l++(Fb Ar6 L.AX e.BA).1) (Dl DI (l++(Fb Ar6 L.AX e.BA).1)).1/\(Dl DI l).1.BM<=(Dl DI (l++(Fb Ar6 L.AX e.BA).1)).1.BM/\∀ t,t<=L.AX.AU.BM->lastOf l t<=lastOf (l++(Fb Ar6 L.AX e.BA).1) t:=by
   rcases hk with h0 | ⟨r,h1,h2⟩
   ·rw [h0,List.append_nil];exact ⟨G.nb,Int.le_refl _,fun _ _=>Int.le_refl _⟩
   ·rw [h1,gQ,g.book];dsimp only;rw [Ar,Dl,h2.ent];exact ⟨EBT nb0 h2.ent,UBM h2.ent,fun t ht=>FBT nb0 h2.ent ht⟩
  have Gk:(Dl DI l).1.BM=L.AX.AU.BM:=by rw [g.book1]
  have DP:∀ q ∈ ZR L e (Fb Ar6 L.AX e.BA).2.1,q ∈ L.Cm\/(e.BA.Au=5/\(Fb Ar6 L.AX e.BA).2.1=0/\q=⟨e.BA.Ag,Lj L.AX e.BA.Ag,(L.Bq.length:Int)⟩):=by
   intro q hq;rw [ZR] at hq;cases hc:e.BA.Au == 5 && (Fb Ar6 L.AX e.BA).2.1 == 0;·rw [hc] at hq;exact .inl hq
   ·rw [hc,Ar,List.mem_append,List.mem_singleton] at hq;rw [Bool.and_eq_true,beq_iff_eq,beq_iff_eq] at hc;rcases hq with hq | hq
    ·exact .inl hq
    ·exact .inr ⟨hc.1,hc.2,hq⟩
  have C2:e.BA.Au=5->(Fb Ar6 L.AX e.BA).2.1=0->∃ x,C9 L.AX.AU.AZ e.BA.Ag=some x/\Lj L.AX e.BA.Ag=DF L.AX x/\x.fId=e.BA.Ag/\x.fId<=L.AX.AU.BM/\DF L.AX x<lastOf (l++(Fb Ar6 L.AX e.BA).1) e.BA.Ag:=by
   intro h5 h0;obtain ⟨x,x1,x2,_,x3,x4,x5,hp⟩:=sg h5 h0
   obtain ⟨i1,i2⟩:=Oo x1
   refine ⟨x,x1,CT x x1 x2,i1,(ArP (HY.1 g.Jk).2.2.2.2.2.2 x i2).2.1,?_⟩;have hnb:=nb0 x i2;rw [hp];cases hc:DF L.AX x != x.fNext
   ·have hc:DF L.AX x=x.fNext:=by rw [bne_eq_false_iff_eq] at hc;exact hc
    rw [Aq,UBD,<-i1,show ((Nb (O1 x)).Aj == 3 && (Nb (O1 x)).Ag.fId == x.fId)=true by show ((3:Int) == 3 && x.fId == x.fId)=true;rw [beq_self_eq_true,beq_self_eq_true];rfl];show _<ite (16<x.fNext+3) 16 (x.fNext+3);split <;> omega
   ·have hc:DF L.AX x≠x.fNext:=bne_iff_ne.1 hc;rw [Ar,List.append_nil,<-i1,hnb];omega
  refine ⟨?_,CN.1,?_,?_⟩
  ·show (ZR L e (Fb Ar6 L.AX e.BA).2.1).Pairwise _;rw [ZR];cases hc:e.BA.Au == 5 && (Fb Ar6 L.AX e.BA).2.1 == 0;·exact G.XR
   ·rw [Bool.and_eq_true,beq_iff_eq,beq_iff_eq] at hc;obtain ⟨x,x1,x2,_⟩:=C2 hc.1 hc.2
    refine List.pairwise_append.2 ⟨G.XR,List.pairwise_singleton _ _,fun q hq w hw et=>?_⟩;rw [List.mem_singleton.1 hw] at et ⊢;have h1:=DM q hq x (by rw [et];exact x1);show q.Dv<Lj L.AX e.BA.Ag;omega
  ·intro q hq;rcases DP q hq with hq | ⟨h5,h0,rfl⟩
   ·obtain ⟨q1,q2⟩:=DD q hq
    have:=CN.2.2 q.Ag q1;have:=CN.2.1;exact ⟨by omega,by omega⟩
   ·obtain ⟨x,x1,x2,x3,x4,x5⟩:=C2 h5 h0
    have:=CN.2.1;exact ⟨by show e.BA.Ag<=_;omega,by show Lj L.AX e.BA.Ag<lastOf (l++(Fb Ar6 L.AX e.BA).1) e.BA.Ag;omega⟩
  ·intro _ q hq y hy;have hy:C9 (Nc L.AX e.BA (Fb Ar6 L.AX e.BA)).AU.AZ q.Ag=some y:=hy;show q.Dv<DF (Nc L.AX e.BA (Fb Ar6 L.AX e.BA)) y;rcases DP q hq with hq | ⟨h5,h0,rfl⟩
   ·obtain ⟨x,x1,x2,_⟩:=KBT g (DD q hq).1 hy
    have:=DM q hq x x1;omega
   ·obtain ⟨x,x1,x2,x3,x4,x5⟩:=C2 h5 h0
    obtain ⟨z,z1,_,z3⟩:=KBT g (show e.BA.Ag<=_ by omega) hy
    have hz:z=x:=by rw [show C9 L.AX.AU.AZ e.BA.Ag=some z from z1] at x1;exact Option.some.inj x1
    subst hz;have:=z3 h5 h0 rfl;show Lj L.AX e.BA.Ag<_;omega
 | cut g hr r hp b' l2 d hl=>
  have nb0:NB l L.AX.AU:=by rw [<-g.book1];exact G.nb
  have hk:=XU (tk:=Ar6) (c:=e.BA) g;have h2:(Awv L.AX.AU r).2=true:=by
   rcases hk with h0 | ⟨r',h1,h2⟩
   ·rw [h0] at hp;cases hp
   ·rw [h1] at hp;cases hp;exact h2.ent
  obtain ⟨X,hX,_⟩:=d.box
  have hup:b'.CZ=false:=by rw [hX]
  rcases hl with rfl | rfl
  ·exact ⟨G.XR,G.nb,G.old,fun q=>by dsimp only at q;rw [hup] at q;cases q⟩
  ·have eb:(Dl DI (l++[r])).1=(Awv L.AX.AU r).1:=by rw [gQ,g.book];dsimp only;rw [Ar,Dl,h2];rfl
   refine ⟨G.XR,by rw [eb];exact EBT nb0 h2,fun q hq=>?_,fun q=>by dsimp only at q;rw [hup] at q;cases q⟩;have h3:=G.old q hq;rw [g.book1] at h3;have h4:=FBT nb0 h2 h3.1;have h5:=UBM h2;rw [eb];exact ⟨by omega,by omega⟩
 | down d hr=>exact ⟨G.XR,G.nb,G.old,G.now⟩
 | up d hr b' g h1 h2 h3=>
  refine ⟨G.XR,G.nb,G.old,fun _ q hq x hx=>?_⟩;have h4:=G.old q hq;dsimp only at hx ⊢;obtain ⟨x1,x2⟩:=Oo hx
  have h5:=G.nb x (by rw [g.book1];exact x2);rw [VBD (by rw [h2];intro v hv;cases hv),<-h5,x1];exact h4.2
 | stay g hr=>exact ⟨G.XR,G.nb,G.old,G.now⟩
theorem UBv {k w:AA} (hk:k.size=32) (hw:w.size<=20):QZ [AsD w] (EY k w):=by
 have g:=(sG hk hw).2.1;obtain ⟨_,_,_,_,_,_,h7,_⟩:=CBQ hk hw
 have hb:=g.book1;refine ⟨List.Pairwise.nil,fun x hx=>?_,fun q hq=>(by cases hq),fun _ q hq=>(by cases hq)⟩;rw [hb,show (LC k w).1.AU.AZ=[] from h7] at hx;cases hx
theorem VBv {k:AA} {e:DW} {l l':List Ah} {L L':Bg} (s:Step k e l L l' L'):L'.Bq.length=L.Bq.length+1:=by cases s <;> (dsimp only;rw [List.length_append];rfl)
theorem WBv {k:AA} {e:DW} {l l':List Ah} {L L':Bg} (h:AzZ k l L) (G:L.Bq.length<45->QZ l L) (s:Step k e l L l' L') (hn:L'.Bq.length<45):QZ l' L':=by have:=VBv s;exact gi_step h (by omega) (G (by omega)) s
theorem XBv {x y:Af} (h:keeps x y):stay x y=true:=by
 obtain ⟨h1,h2,h3,h4,h5⟩:=h
 rw [stay,h1,h2,D6 (by omega:¬ y.fNext<x.fNext),beq_self_eq_true,beq_self_eq_true];cases hx:x.CY
 ·cases hf:x.CX;·rfl
  ·rw [h4 hf];rfl
 ·rw [h3 hx];cases hf:x.CX;·rfl
  ·rw [h4 hf];rfl
theorem LBT:∀ {l:List Ah} {b:Bo},(Dl b l).2=true->TV b l=true
 | [],_,_=>rfl
 | r::rs,b,h=>by
  rw [Dl] at h;cases h3:(Awv b r).2;·rw [h3] at h;cases h
  ·rw [h3,Ar] at h;rw [TV,h3,LBT h,Bool.and_true,Bool.true_and,List.all_eq_true];intro x hx;rcases TBM h3 hx with ⟨e,_⟩ | ⟨y,e,k⟩
   ·rw [Vd,e]
   ·rw [Vd,e];exact XBv k
theorem YBv {k:AA} {l:List Ah} {b:Ap} (h:Down k l b):(Aw5 b.BO b.Bc).2.2=true/\(Aw5 b.BO b.Bc).1=(Dl DI l).1:=by
 obtain ⟨b',r1,_,_,_,_,r6⟩:=XBS h
 obtain ⟨X,rfl,hX,_⟩:=h.box
 rw [KAt (b:=⟨k,false,dk X X.size,DI,[],[],0⟩) (Nat.le_of_ble_eq_true rfl) (fun f hf=>by
  have hf:f ∈ [(⟨Fa,X,(X.size:Int)⟩:BQ)]:=hf;rw [List.mem_singleton] at hf;rw [hf];show X.size<=_;omega) (DJ _) (DJ _) (DJ _) (by show k.size<=_;rw [h.Hu];omega),XV] at r1
 injection r1 with r1
 dsimp only at r1 ⊢;cases h1:(false || !O4 ⟨k,false,dk X X.size,DI,[],[],0⟩)
 ·rw [h1,Aq] at r1;cases h2:(Aw5 k (dk X X.size)).2.2;·rw [h2] at r1;cases r1
  ·refine ⟨rfl,?_⟩;rw [h2,DN,Bool.false_or] at r1;rw [<-r6];cases h4:decide ((FT (dk X X.size) (Aw5 k (dk X X.size)).2.1 0).2<((Aw5 k (dk X X.size)).2.1.length:Int));·rw [h4,Aq] at r1;rw [<-(Prod.mk.inj r1).1]
   ·rw [h4] at r1;cases r1
 ·rw [h1] at r1;cases r1
theorem AzZ.enter {k:AA} {l:List Ah} {L:Bg} (h:AzZ k l L):(Dl DI l).2=true:=by
 rcases h.box with g | d
 ·rw [g.book]
 ·exact d.book
theorem MBT {k:AA} {l:List Ah} {L:Bg} (h:AzZ k l L):gU L=true:=by
 rw [gU,h.done,h.enter,Bool.true_and];rcases h.box with g | d
 ·rw [g.up,Ar,g.book1];exact LAr.2 rfl
 ·obtain ⟨m1,m2⟩:=YBv d
  rw [(AzZ.down d).1,Aq,m1,m2,Bool.true_and];exact LAr.2 rfl
theorem wF {L:List D8} (h:L.Pairwise fun g h=>g.Ag=h.Ag->g.Dv<h.Dv):Ar7 (gV L) L.length 0=true/\Ar7 (ZT L) L.length 0=true:=by
 have key:∀ y x (hy:y<L.length) (hx:x<y),L[y].Ag=(L[x]'(by omega)).Ag->(L[x]'(by omega)).Dv<L[y].Dv:=fun y x hy hx e=>List.pairwise_iff_getElem.1 h x y (by omega) hy hx e.symm
 refine ⟨SBD.2 fun y _ hy x hx=>?_,SBD.2 fun y _ hy x hx=>?_⟩
 ·rw [gV,getD_at (by omega),getD_at (by omega)];cases e:L[y].Ag == (L[x]'(by omega)).Ag;·rfl
  ·have:=key y x (by omega) hx (beq_iff_eq.1 e);rw [Bool.true_and,D6 (by omega)]
 ·rw [ZT,getD_at (by omega),getD_at (by omega)];cases e:L[y].Ag == (L[x]'(by omega)).Ag;·rfl
  ·have:=key y x (by omega) hx (beq_iff_eq.1 e);rw [Bool.true_and,beq_eq_false_iff_ne];omega
theorem ZBv {k:AA} {l:List Ah} {L:Bg} (h:AzZ k l L) (r:Ah) (hr:r ∈ L.CO):r.DR<=9223372036854775807:=by rw [h.done] at hr;exact PBv (Prod.ext (x:=AwX r) (y:=((AwX r).1,true)) rfl (sH h.enter r hr))
theorem Aa7 {k:AA} {e:DW} {l l':List Ah} {L L':Bg} (h:1<=l.length) (s:Step k e l L l' L'):1<=l'.length:=by
 cases s with
 | call g hr hc=>rw [List.length_append];omega
 | cut g hr r hp b' l2 d hl=>exact d.len.1
 | down d hr=>exact h
 | up d hr b' g h1 h2 h3=>exact h
 | stay g hr=>exact h
theorem Aaq (x0:Unit):AC8 x0=some true:=by
 rw [AC8,HA9,mk,HBh,AP];cases decide ((KI.length:Int) > 1048576)
 ·obtain ⟨⟨k,w,es⟩,hr,hk,hw,hn,he⟩:=MBv
  dsimp only at hk hw hn he;obtain ⟨l,L,h1,h2,h3,h4⟩:=NBv (P:=fun l L=>(L.Bq.length<45->QZ l L)/\1<=l.length) hk hw hn he ⟨fun _=>UBv hk hw,Nat.le_refl _⟩ fun l L l' L' e _ a b c=>⟨WBv a b.1 c,Aa7 b.2 c⟩
  have G:=h3.1 (by omega);have x:=h2.bx;have zd:=x.n;obtain ⟨f1,f2,f3⟩:=h2.few
  have hd:L.CO.length<=1000:=by rw [h2.done];omega
  have hd1:1<=L.CO.length:=by rw [h2.done];exact h3.2
  have hnum:=ZBv h2;have hst:TV DI L.CO=true:=by rw [h2.done];exact LBT h2.enter
  obtain ⟨r1,r2⟩:=wF G.XR
  rw [Aq,hr,AP];dsimp only;rw [OBv hk hw hn he,h1,AP,AP];dsimp only;rw [Ar,TBu (by omega),AP,Ar,UBu (by omega),AP,Ar,VBu x.k (by omega) x.f (by omega) hnum,MBT h2,AP,Ar,WBu x.k (by omega) x.f (by omega),MBT h2,AP,Ar,ZBu (by omega) hnum,hst,AP,Ar,BBv (by omega),hst,AP,Ar,CBv (by omega),r2,AP,Ar,LBv (by omega),r1,AP,Ar,Ba (by omega)]
 ·rfl
end Go.Proofs.YtkbbicgglblfiaaGreatDoor.G
