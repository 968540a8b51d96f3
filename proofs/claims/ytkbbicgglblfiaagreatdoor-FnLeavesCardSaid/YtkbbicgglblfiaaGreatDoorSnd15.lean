/- What the evaluator tells of appends is what the machine does. -/
import Derived.Test.YtkbbicgglblfiaaGreatDoorSnd14
namespace Go.Ev
open Go
section
variable {C:Ctx} {P:Program} {hp:Hp C} {AB:At} {w w':World} {Ai:Nat->Prop} {w0:World} {Avn:Nat->Nat->Prop} {n:Nat} {env:Env C} {a:Act}
variable {γ:Type} {K:Val C.El->Hp C->Option γ} {r:γ} {o:Oper} {AC:Nat->Nat} {call:Nat->List (U C.El)->(List (U C.El)->Option γ)->Option γ}
theorem After.nowhere (m:Mem C w0 Avn hp AB Ai w) {id e:Nat} (hid:Bj hp id=false):After C w0 Avn hp AB w [.one (.own id)] [(id,.sl e [])] (.slice none 0 0) w:=by
 obtain ⟨h1,h2,h3⟩:=Mem.new (w':=w) m id hid (.sl e []) none (fun _ _ h=>by cases h) (fun _ _=>rfl) (Ext.refl w) (fun _ _=>by simp [OA,Awb,JK])
 exact ⟨_,_,h1,⟨rfl,UO _ _ _,by simp [Awb,JK]⟩,h2,h3,Ext.refl w⟩
theorem Auf {id id':Nat} (h:Bj hp id=true) (h':Bj hp id'=false):Bj ((id,AxP.dead)::hp) id'=false:=by grind [Ea,Bj]
theorem Ac5 (id:Nat):UA hp ((id,AxP.dead)::hp) AB AB:=⟨fun i hi=>VQ _ hp hi,fun i hi=>by
  by_cases e:i=id;·subst e;rw [Awb];cases look hp i .dead <;> trivial
  simp_all [Ax3,FU.refl],fun i hi=>rfl⟩
theorem Auh (id:Nat):∀ b,BK C hp AB w b->BK C ((id,.dead)::hp) AB w b:=fun b hb=>⟨hb.1,fun ⟨i,off,h1,h2⟩=>hb.2 ⟨i,off,by
  grind [live,Awb,Ax3],h2⟩⟩
theorem Mem.Aui (h:Mem C w0 Avn hp AB Ai w) (id:Nat):Mem C w0 Avn ((id,.dead)::hp) AB Ai w:=by
 have hlive:∀ i,live C ((id,.dead)::hp) i->i≠id/\live C hp i:=fun i hi=>by grind [live,Awb,Ax3]
 have hwr:∀ b,wr C ((id,.dead)::hp) AB b->wr C hp AB b:=fun b ⟨i,off,h1,h2⟩=>⟨i,off,(hlive i h1).2,h2⟩
 exact (Mem.gen (AE:=Ai) (T:=fun _=>False) h (Ac5 id) (Ext.refl w) (fun _ h=>h.elim) (fun _ _ _=>rfl) (fun b hb=>.inr (hwr b hb)) (fun _ h=>h) (fun _ h=>.inl h)
  (fun _ _ i=>by
   grind [OA,Awb,Ax3])
  (fun i i' b off off' hl hl' ha ha'=>h.dist i i' b off off' (hlive i hl).2 (hlive i' hl').2 ha ha')
  (fun i b off hl ha=>h.lt i b off (hlive i hl).2 ha)
  (fun i b off hl ha hb=>by rw [Ax3 (hlive i hl).1];exact h.old i b off (hlive i hl).2 ha hb)
  (fun _ _ h=>h.elim)).1
theorem After.grown (hC:EW C P) (m:Mem C w0 Avn hp AB Ai w) {id e:Nat} (hid:Bj hp id=false) {xs ys:List (C.El e)} {us vs:List Value} (hx:Axl C w Ai xs us) (hy:Axl C w Ai ys vs) {cap:Nat} (h1:xs.length+ys.length<=cap) (h2:cap<=9223372036854775807) {z:Value} (hz:z.cells.toList=((C.Aw e).enc (C.Aw e).z).map lv) :
  After C w0 Avn hp AB w [.one (.own id)] [(id,.sl e (xs++ys))] (.slice (some ⟨w.heap.size,0,none⟩) (xs.length+ys.length) cap) (w.drew.alloc (.cells (us.toArray++(vs.toArray++Builtin.zeroCells z.cells (cap - (xs.length+ys.length)))) e)):=by
 have hall:=Axl.append (hC.Aw e) hx hy;have hzs:z.cells.size=(C.ti e).size:=by rw [<-Array.length_toList,hz];simp [(hC.Aw e).len]
 have hsz:(us.toArray++(vs.toArray++Builtin.zeroCells z.cells (cap - (xs.length+ys.length)))).size=cap*(C.ti e).size:=by have h3:=hx.1;have h4:=hy.1;simp only [Array.size_append,List.size_toArray,Builtin.zeroCells,Array.size_map,Array.size_range,h3,h4,hzs];rw [<-Nat.add_mul,<-Nat.add_mul];grind
 have:=After.row (xs:=xs++ys) (cap:=cap) m hid (NewAt.drew w (us.toArray++(vs.toArray++Builtin.zeroCells z.cells (cap - (xs.length+ys.length)))) e) (fun j _=>by simp) hsz (by simp_all) h2 (fun j x i l hx' hl=>by
  obtain ⟨v,h3,h4⟩:=hall.2 j x i l hx' hl
  grind)
 simp_all
theorem Auj {tS Hv ty e sz m sLen sCap:Nat} {d:TypeDesc} {xv:Value} (hu:P.underlying tS=some (.slice e)) (Ab:P.underlying Hv=some d) (hd:(∃ e',d=.slice e')\/d=.string) (hsz:(sizeOf e).run P w=.ok sz w) (hlen:(Builtin.lenOf xv).run P w=.ok m w)
  (hx:(Builtin.firstCells sz m xv).run P w=.ok ([]:List Value).toArray w) (hle:sLen+m<=sCap) {q:Addr} :
  (Builtin.append_ #[tS,Hv] ty #[.slice (some q) sLen sCap,xv]).run P w=.ok (.slice (some q) (sLen+m) sCap) w:=by
 rcases hd with ⟨e',rfl⟩ | rfl
 ·simp [Builtin.append_,run_underlying hu,run_underlying Ab,hsz,hlen,hle,hx,storeCells]
 ·simp [Builtin.append_,run_underlying hu,run_underlying Ab,hsz,hlen,hle,hx,storeCells]
theorem YS {args:Array Operand} {argTypes:Array TypeId} {y y':Operand} (ho:o.op=.call { callee:=.builtin .append,args,argTypes }) (ha:args.map a.eval = #[a.eval y,a.eval y']) (ht:argTypes = #[argTypes.getD 0 0,argTypes.getD 1 0]) {v:Value}
  (hr:(Builtin.append_ #[argTypes.getD 0 0,argTypes.getD 1 0] o.type #[a.eval y,a.eval y']).run P w=.ok v w'):(execOp a.eval o).run P w=.ok (.value v) w':=by
 refine AKR _ .append rfl ho ?_;grind [builtin,Sem.run_bind,Result.andThen_ok,Sem.run_pure]
theorem AuZ (hC:EW C P) (st:St C w0 Avn n env hp AB Ai a w) (args:Array Operand) (argTypes:Array TypeId) (ho:o.op=.call { callee:=.builtin .append,args,argTypes }) (h:ET C P AC call env hp o K r):Sound C P w0 Avn hp AB a w o K r:=by
 unfold ET at h;rw [ho] at h;simp only [Ci] at h;split at h;·cases h
 ·rename_i hsz2;have hsz2:=Ea hsz2;have ht:argTypes = #[argTypes.getD 0 0,argTypes.getD 1 0]:=by
   obtain ⟨l⟩:=argTypes
   match l,hsz2 with
   | [x,y],_=>rfl
  split at h
  ·rename_i e s x hk hsrc hv;obtain ⟨p,q,ha,hp',hq'⟩:=AUL (a:=a) hv
   have hsr:KA C hp AB w (BK C hp AB w) s (a.eval p):=by have:=Awr st p;rw [hp'] at this;exact this
   have hxr:KA C hp AB w (BK C hp AB w) x (a.eval q):=by have:=Awr st q;rw [hq'] at this;exact this
   obtain ⟨hu,hs,hsz⟩:=AzX hC hk
   obtain ⟨_,hne,hby,_⟩:=hC.pos e ⟨_,.inl hk⟩
   obtain ⟨_,z,hz,hzz⟩:=AKL hC (.inl hk)
   obtain ⟨i,hi,hib⟩:∃ i,(∀ w,(typeInfo e).run P w=.ok i w)/\i.bytes=(C.ti e).bytes:=by
    obtain ⟨i,h1,_,h3,_⟩:=(hC.ty e hne).info
    exact ⟨i,fun w=>by simp [typeInfo,h1],h3⟩
   obtain ⟨d,Ab,hd⟩:∃ d,P.underlying (argTypes.getD 1 0)=some d/\((∃ e',d=.slice e')\/d=.string):=by
    unfold AT5 at hsrc;split at hsrc;·rename_i e' hk';exact ⟨_,Pj hC hk' (by simp),.inl ⟨_,rfl⟩⟩
    ·rename_i hk';exact ⟨_,Pj hC hk' (by simp),.inr rfl⟩
    grind
   split at h
   ·rename_i ys hys;obtain ⟨vs,hlen,B3,C0,hrow⟩:=Auk hC st.mem hs hxr hys
    split at h
    ·
     obtain ⟨h1,h⟩:=AyE h
     have h1:=of_decide_eq_true h1;obtain ⟨hb,h⟩:=QB h
     have hsv:a.eval p=.slice none 0 0:=hsr;intro next Q hn
     by_cases h0:ys.length=0;·have:ys=[]:=List.length_eq_zero_iff.1 h0;subst this;refine Avs (YS ho ha ht ?_) (hn _ _ _ _ h (After.nowhere st.mem hb));rw [hsv];exact Ac6 hu Ab hd (hsz w) (hlen w) B3 (by simp)
     ·obtain ⟨cap,g1,g2,g3⟩:=AUM (ty:=o.type) (base:=none) (us:=[]) (sLen:=0) (sCap:=0) (sz:=(C.ti e).size) hu Ab hd hsz (hlen w) hi (by omega) C0 rfl (by omega) (by grind) hz
      refine Avs (YS ho ha ht (by rw [hsv];exact g3)) (hn _ _ _ _ h ?_);have:=After.grown (xs:=([]:List (C.El e))) hC st.mem hb Axl.nil hrow g1 g2 hzz;assumption
    ·rename_i id;split at h
     ·rename_i e' AR hl;split at h
      ·rename_i xs hcast;obtain ⟨rfl,hxs⟩:=Awd hcast
       have hxs:AR=xs:=hxs;subst hxs;obtain ⟨h1,h⟩:=AyE h
       have h1:=of_decide_eq_true h1;obtain ⟨hb,h⟩:=QB h
       have hbd:=hsr.2.1;have hb2:=Auf (C:=C) hbd hb;have m2:=Mem.Aui st.mem id;intro next Q hn
       have fin:∀ {v:Value} {w2:World},After C w0 Avn ((id,.dead)::hp) AB w [.one (.own (site (o.dst.getD 0) 0))] [(site (o.dst.getD 0) 0,.sl e' (AR++ys))] v w2->After C w0 Avn hp AB w [.one (.own (site (o.dst.getD 0) 0))] [(site (o.dst.getD 0) 0,.sl e' (AR++ys)),(id,.dead)] v w2:=
        fun hA=>After.then (h1:=[(id,.dead)]) m2 (Ac5 id) (fun b hb=>⟨Auh id b hb,rfl⟩) (Ext.refl w) hA
       rcases YO (ro:=BK C hp AB w) st.mem hl hsr with ⟨rfl,hsv,ha1⟩ | ⟨b,cap0,arr,fr,ha1,hsv,hheap,harr,G2⟩
       ·by_cases h0:ys.length=0;·have:ys=[]:=List.length_eq_zero_iff.1 h0;subst this;refine Avs (YS ho ha ht ?_) (hn _ _ _ _ h (fin (After.nowhere m2 hb2)));rw [hsv];exact Ac6 hu Ab hd (hsz w) (hlen w) B3 (by simp)
        ·obtain ⟨cap,g1,g2,g3⟩:=AUM (ty:=o.type) (base:=none) (us:=[]) (sLen:=0) (sCap:=0) (sz:=(C.ti e').size) hu Ab hd hsz (hlen w) hi (by omega) C0 rfl (by omega) (by grind) hz
         refine Avs (YS ho ha ht (by rw [hsv];exact g3)) (hn _ _ _ _ h (fin ?_));grind [After.grown,Axl.nil]
       ·have hob:=st.mem.obj id;simp only [OA,hl,ha1] at hob;obtain ⟨_,cap',arr',fr',k1,k2,k3,k4,k5,k6⟩:=hob
        rw [hheap] at k1;cases k1;have hcc:cap0=cap':=Nat.eq_of_mul_eq_mul_right hs (harr.symm.trans k2);subst hcc;obtain ⟨us,hrd,hrx⟩:=AEW (cap:=cap0) (hC.Aw e') (fun j x i l h3 h4=>by obtain ⟨v,h5,h6⟩:=k6 j x i l h3 h4;exact ⟨v,by rw [Nat.zero_add];exact h5,h6⟩) (rfl:AR.length=AR.length)
        by_cases hfit:AR.length+ys.length<=cap0
        ·
         have hvl:vs.length=ys.length*(C.ti e').size:=hrow.1;have hcells:∀ j,j<vs.length->(w.cell? ⟨b,0+AR.length*(C.ti e').size+j,none⟩).isSome=true:=by
          intro j hj;have:AR.length*(C.ti e').size+j<arr.size:=by rw [harr];have:=Nat.mul_le_mul_right (C.ti e').size hfit;grind
          grind [World.cell?]
         have hfro:∀ j,j<vs.length->w.frozen? ⟨b,0+AR.length*(C.ti e').size+j,none⟩=false:=by intro j hj;refine k5 _ ?_;rw [harr];have:=Nat.mul_le_mul_right (C.ti e').size hfit;grind
         have hrun:=AUN (P:=P) (ty:=o.type) hu Ab hd (hsz w) (hlen w) B3 hfit (b:=b) (o:=0) hcells hfro (hrow.each (hC.Aw e'));refine Avs (YS ho ha ht (by rw [hsv];omega)) (hn _ _ _ _ h ?_);obtain ⟨f1,f2,f3,f4,f5,f6⟩:=YR b vs (0+AR.length*(C.ti e').size) w
         obtain ⟨A9,f7,f8⟩:=f6 _ _ _ hheap
         have hext:=bC b vs (0+AR.length*(C.ti e').size) w
         obtain ⟨g1,g2,g3⟩:=Mem.move (xs':=AR++ys) st.mem hl hbd hb ha1 f5 hext (fun st' hro hfk=>by
          unfold OA;rw [Awb,JK];refine ⟨rfl,cap0,A9,fr,f7,by omega,by grind,k4,fun j hj=>?_,fun j x i l hx hl'=>?_⟩;·grind [World.frozen?_setCells]
          ·have hi':i<(C.ti e').size:=by rw [<-(hC.Aw e').len x];grind
           rcases Nat.lt_or_ge j AR.length with hlt | hge
           ·rw [List.getElem?_append_left hlt] at hx;obtain ⟨v,h5,h6⟩:=k6 j x i l hx hl'
            refine ⟨v,?_,h6.keep (fun _ h=>h) hfk⟩;rw [World.cell?_setCells_out b vs _ w _ (fun _ _=>.inl ?_)];·exact h5
            ·have:=Nat.mul_le_mul_right (C.ti e').size hlt;grind
           ·rw [List.getElem?_append_right hge] at hx;obtain ⟨v,h5,h6⟩:=hrow.2 _ x i l hx hl'
            refine ⟨v,?_,h6.keep (fun _ h=>h) hfk⟩;have hlt:=(List.getElem?_eq_some_iff.1 h5).1;have hin:=World.cell?_setCells_in b vs (0+AR.length*(C.ti e').size) w hcells _ hlt;have hm:AR.length*(C.ti e').size<=j*(C.ti e').size:=Nat.mul_le_mul_right _ hge;grind [Nat.sub_mul])
         refine ⟨_,_,g1,⟨rfl,UO _ _ _,?_⟩,g2,g3,hext⟩;grind [Awb,JK]
        ·
         obtain ⟨cap,g1,g2,g3⟩:=AUM (ty:=o.type) (base:=some ⟨b,0,none⟩) (us:=us) (sLen:=AR.length) (sCap:=cap0) (sz:=(C.ti e').size) hu Ab hd hsz (hlen w) hi (by omega) C0 (hrd.drew.first hrx.1) (by omega) (by grind) hz
         exact Avs (YS ho ha ht (by grind)) (hn _ _ _ _ h (fin (After.grown hC m2 hb2 hrx hrow g1 g2 hzz)))
      ·cases h
     ·cases h
    ·rename_i id off len;split at h
     ·rename_i e' AR hl;split at h
      ·rename_i xs hcast;obtain ⟨rfl,hxs⟩:=Awd hcast
       have hxs:AR=xs:=hxs;subst hxs;cases off with
       | zero=>
        obtain ⟨h1,h⟩:=AyE h
        rw [Bool.and_eq_true,decide_eq_true_eq,decide_eq_true_eq] at h1;obtain ⟨h0,h1⟩:=h1
        obtain ⟨hb,h⟩:=QB h
        have hbd:=hsr.2.1;intro next Q hn
        cases ha0:AB id with
        | none=>
         have hob:=st.mem.obj id;grind [OA]
        | some pp=>
         obtain ⟨b,off'⟩:=pp
         have hob:=st.mem.obj id;simp only [OA,hl,ha0] at hob;obtain ⟨rfl,cap,arr,fr,k1,k2,k3,k4,k5,k6⟩:=hob
         have hy:=hsr.2.2;simp only [hl,ha0] at hy;obtain ⟨cap',arr',fr',A,hsv,hle,q1,q2,q3,q4,q5⟩:=hy
         rw [k1] at q1;cases q1;have:cap'=cap:=Nat.eq_of_mul_eq_mul_right hs (q2.symm.trans k2);subst this;have hA:=q4 (by omega);rw [Nat.zero_mul,Nat.add_zero] at hA;subst hA;have hvl:vs.length=ys.length*(C.ti e').size:=hrow.1;have hfit:len+ys.length<=cap':=by omega
         have hcells:∀ j,j<vs.length->(w.cell? ⟨b,0+len*(C.ti e').size+j,none⟩).isSome=true:=by
          intro j hj;have:len*(C.ti e').size+j<arr.size:=by rw [k2];have:=Nat.mul_le_mul_right (C.ti e').size hfit;grind
          grind [World.cell?]
         have hfro:∀ j,j<vs.length->w.frozen? ⟨b,0+len*(C.ti e').size+j,none⟩=false:=by intro j hj;refine k5 _ ?_;rw [k2];have:=Nat.mul_le_mul_right (C.ti e').size hfit;grind
         have hrun:=AUN (P:=P) (ty:=o.type) (sLen:=len) (sCap:=cap' - 0) hu Ab hd (hsz w) (hlen w) B3 (by omega) (b:=b) (o:=0) hcells hfro (hrow.each (hC.Aw e'));refine Avs (YS ho ha ht (by rw [hsv];omega)) (hn _ _ _ _ h ?_);obtain ⟨f1,f2,f3,f4,f5,f6⟩:=YR b vs (0+len*(C.ti e').size) w
         obtain ⟨A9,f7,f8⟩:=f6 _ _ _ k1
         have hext:=bC b vs (0+len*(C.ti e').size) w;have htl:(AR.take len).length=len:=by grind
         obtain ⟨g1,g2,g3⟩:=Mem.move (xs':=AR.take len++ys) st.mem hl hbd hb ha0 f5 hext (fun st' hro hfk=>by
          unfold OA;rw [Awb,JK];refine ⟨rfl,cap',A9,fr,f7,by omega,by grind,k4,fun j hj=>?_,fun j x i l hx hl'=>?_⟩;·grind [World.frozen?_setCells]
          ·have hi':i<(C.ti e').size:=by rw [<-(hC.Aw e').len x];grind
           rcases Nat.lt_or_ge j len with hlt | hge
           ·rw [List.getElem?_append_left (by omega),List.getElem?_take,if_pos hlt] at hx;obtain ⟨v,h5,h6⟩:=k6 j x i l hx hl'
            refine ⟨v,?_,h6.keep (fun _ h=>h) hfk⟩;rw [World.cell?_setCells_out b vs _ w _ (fun _ _=>.inl ?_)];·exact h5
            ·have:=Nat.mul_le_mul_right (C.ti e').size hlt;grind
           ·rw [List.getElem?_append_right (by omega),htl] at hx;obtain ⟨v,h5,h6⟩:=hrow.2 _ x i l hx hl'
            refine ⟨v,?_,h6.keep (fun _ h=>h) hfk⟩;have hlt:=(List.getElem?_eq_some_iff.1 h5).1;have hin:=World.cell?_setCells_in b vs (0+len*(C.ti e').size) w hcells _ hlt;have hm:len*(C.ti e').size<=j*(C.ti e').size:=Nat.mul_le_mul_right _ hge;grind [Nat.sub_mul])
         refine ⟨_,_,g1,⟨rfl,UO _ _ _,?_⟩,g2,g3,hext⟩;simp only [List.cons_append,List.nil_append,Awb,JK];exact ⟨cap',A9,fr,by grind,f7,by omega,by grind⟩
       | succ off=>
       obtain ⟨h1,h⟩:=AyE h
       have h1:=of_decide_eq_true h1;generalize off+1=off at h1 h hsr;have hbd:=hsr.2.1;have hlive:live C hp id:=by grind [live]
       have hlen':(AR.take (off+len)++ys++AR.drop (off+len+ys.length)).length=AR.length:=by grind
       have Ao:FU (look hp id .dead) (.sl e' (AR.take (off+len)++ys++AR.drop (off+len+ys.length))):=by rw [hl];exact ⟨rfl,hlen'⟩
       intro next Q hn
       cases ha0:AB id with
       | none=>
        have hy:=hsr.2.2;simp only [hl,ha0] at hy;obtain ⟨hsv,rfl,rfl⟩:=hy
        have hob:=st.mem.obj id;grind [OA]
       | some pp=>
        obtain ⟨b,off'⟩:=pp
        have hob:=st.mem.obj id;simp only [OA,hl,ha0] at hob;obtain ⟨rfl,cap,arr,fr,k1,k2,k3,k4,k5,k6⟩:=hob
        have hy:=hsr.2.2;simp only [hl,ha0] at hy;obtain ⟨cap',arr',fr',A,hsv,hle,q1,q2,q3,q4,q5⟩:=hy
        rw [k1] at q1;cases q1;have:cap'=cap:=Nat.eq_of_mul_eq_mul_right hs (q2.symm.trans k2);subst this
        have hfin:∀ {w2:World},Ext w w2->(∀ k,k≠b->w2.heap[k]?=w.heap[k]?)->(∃ A9:Array Value,w2.heap[b]?=some (.cells A9 e' fr)/\A9.size=arr.size)->(∀ x,w2.frozen? x=w.frozen? x)->
          (∀ k,k<off*(C.ti e').size+len*(C.ti e').size\/off*(C.ti e').size+len*(C.ti e').size+vs.length<=k->w2.cell? ⟨b,k,none⟩=w.cell? ⟨b,k,none⟩)->(∀ k v,vs[k]?=some v->w2.cell? ⟨b,off*(C.ti e').size+len*(C.ti e').size+k,none⟩=some v)->
          After C w0 Avn hp AB w [.one (.sub id off (len+ys.length))] [(id,.sl e' (AR.take (off+len)++ys++AR.drop (off+len+ys.length)))] (.slice A (len+ys.length) (cap' - off)) w2:=by
         intro w2 hext hoth ⟨A9,a1,a2⟩ hfr hout hin;have hvl:vs.length=ys.length*(C.ti e').size:=hrow.1;have e1:off*(C.ti e').size+len*(C.ti e').size=(off+len)*(C.ti e').size:=by grind
         obtain ⟨g1,g2,g3⟩:=Mem.set (w':=w2) st.mem id hbd _ Ao hlive (fun k hk=>hoth k (fun e=>hk 0 (by grind))) hext (fun b' o off' ha' hlt Av=>by
          have:=(st.mem.old id b' off' hlive ha' hlt).2;rw [hl] at this
          exact absurd (this o) Av) (fun hro hst=>by
          unfold OA;rw [Awb,ha0];refine ⟨rfl,cap',A9,fr,a1,by omega,by omega,k4,fun j hj=>by grind,fun j x i l hx hl'=>?_⟩;have hi':i<(C.ti e').size:=by rw [<-(hC.Aw e').len x];grind
          have hfk:∀ c,Ai c->w2.heap[c]?=w.heap[c]?:=fun c hc=>hoth c (fun e=>(st.mem.Ai c hc).2.1 ⟨id,0,hlive,by grind⟩)
          have old:AR[j]?=some x->(j*(C.ti e').size+i<(off+len)*(C.ti e').size\/(off+len)*(C.ti e').size+vs.length<=j*(C.ti e').size+i)->∃ v,w2.cell? ⟨b,j*(C.ti e').size+i,none⟩=some v/\Rep C w2 Ai l v:=by
           intro hx' hr;obtain ⟨v,h5,h6⟩:=k6 j x i l hx' hl'
           exact ⟨v,by grind,h6.keep (fun _ h=>h) hfk⟩
          rw [List.append_assoc] at hx;rcases Nat.lt_or_ge j (off+len) with hlt | hge
          ·rw [List.getElem?_append_left (by grind),List.getElem?_take,if_pos hlt] at hx;refine old hx (.inl ?_);have:=Nat.mul_le_mul_right (C.ti e').size hlt;grind
          ·rw [List.getElem?_append_right (by grind)] at hx;have htl:(AR.take (off+len)).length=off+len:=by grind
           rw [htl] at hx;rcases Nat.lt_or_ge (j - (off+len)) ys.length with hlt2 | Fu
           ·rw [List.getElem?_append_left hlt2] at hx;obtain ⟨v,h5,h6⟩:=hrow.2 _ x i l hx hl'
            refine ⟨v,?_,h6.keep (fun _ h=>h) hfk⟩;have:=hin _ v h5;have hm:(off+len)*(C.ti e').size<=j*(C.ti e').size:=Nat.mul_le_mul_right _ hge;rw [e1,Nat.sub_mul] at this;rw [<-this];congr 2;omega
           ·rw [List.getElem?_append_right Fu,List.getElem?_drop] at hx;refine old (by rw [<-hx];congr 1;omega) (.inr ?_);rw [hvl,<-Nat.add_mul];have:(off+len+ys.length)*(C.ti e').size<=j*(C.ti e').size:=Nat.mul_le_mul_right _ (by omega);omega)
         refine ⟨_,_,g1,⟨rfl,UO _ _ _,?_⟩,g2,g3,hext⟩;grind [Awb]
        rcases Nat.lt_or_ge off cap' with hlt | hge
        ·have hA:=q4 hlt;rw [Nat.zero_add] at hA;subst hA;have hvl:vs.length=ys.length*(C.ti e').size:=hrow.1;have hroom:off*(C.ti e').size+len*(C.ti e').size+vs.length<=arr.size:=by rw [hvl,k2,<-Nat.add_mul,<-Nat.add_mul];exact Nat.mul_le_mul_right _ (by omega)
         have hcells:∀ j,j<vs.length->(w.cell? ⟨b,off*(C.ti e').size+len*(C.ti e').size+j,none⟩).isSome=true:=by grind [World.cell?]
         have hrun:=AUN (P:=P) (ty:=o.type) (sLen:=len) (sCap:=cap' - off) hu Ab hd (hsz w) (hlen w) B3 (by omega) (b:=b) (o:=off*(C.ti e').size) hcells (fun j hj=>k5 _ (by omega)) (hrow.each (hC.Aw e'));obtain ⟨f1,f2,f3,f4,f5,f6⟩:=YR b vs (off*(C.ti e').size+len*(C.ti e').size) w
         refine Avs (YS ho ha ht (by grind)) (hn _ _ _ _ h (hfin (bC _ _ _ _) f5 (f6 _ _ _ k1) (fun x=>World.frozen?_setCells _ _ _ _ x) (fun k hk=>World.cell?_setCells_out b vs _ w _ (fun _ _=>hk)) (fun k v hk=>?_)));have hlt':=(List.getElem?_eq_some_iff.1 hk).1;rw [World.cell?_setCells_in b vs _ w hcells k hlt',<-hk,List.getElem?_eq_getElem hlt']
        ·have h0:ys.length=0:=by omega
         have:ys=[]:=List.length_eq_zero_iff.1 h0;subst this;have hvs:vs=[]:=List.length_eq_zero_iff.1 (by simpa using hrow.1);subst hvs;obtain ⟨q,rfl⟩:=q5 (by omega)
         refine Avs (YS ho ha ht (by rw [hsv];exact Auj hu Ab hd (hsz w) (hlen w) B3 (by omega))) (hn _ _ _ _ h (hfin (Ext.refl w) (fun _ _=>rfl) ⟨arr,k1,rfl⟩ (fun _=>rfl) (fun _ _=>rfl) (fun k v hk=>by simp at hk)))
      ·cases h
     ·cases h
    ·cases h
   ·cases h
  ·cases h
end
end Go.Ev
