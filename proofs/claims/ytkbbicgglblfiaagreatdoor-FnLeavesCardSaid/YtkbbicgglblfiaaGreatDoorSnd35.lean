/- What the evaluator tells of a function is what the machine does. -/
import Derived.Test.YtkbbicgglblfiaaGreatDoorSnd34
namespace Go.Ev
set_option linter.unusedVariables false
set_option linter.unusedSimpArgs false
open Go
set_option maxHeartbeats 1000000
section
variable {C:Ctx} {P:Program} {γ:Type} {AC:Nat->Nat} {call:Nat->List (U C.El)->(List (U C.El)->Option γ)->Option γ} {r:γ} {nt:Nat}
variable {ops:Array Oper} {AzO:Array Nat} {env:Env C} {hp:Hp C} {V:Nat->Val C.El} {H:Nat->Hp C} {w0:World} {Avn:Nat->Nat->Prop} {AB:At} {Ai:Nat->Prop} {a:Act} {w:World} {n:Nat}
theorem St.congr {B2:Env C} {hp2:Hp C} (st:St C w0 Avn n env hp AB Ai a w) (hl:∀ id,look hp2 id .dead=look hp id .dead) (hb:∀ id,Bj hp2 id=Bj hp id) (he:∀ t,look B2 t [.one .junk]=look env t [.one .junk]):St C w0 Avn n B2 hp2 AB Ai a w:=by
 have hs:UA hp hp2 AB AB:=⟨fun i hi=>by simp_all,fun i _=>by simp_all [FU.refl],fun _ _=>rfl⟩
 have hro:∀ b,BK C hp AB w b->BK C hp2 AB w b:=fun b h=>⟨h.1,fun ⟨i,off,h1,h2⟩=>h.2 ⟨i,off,by simp_all [live],h2⟩⟩
 obtain ⟨m,_⟩:=Mem.ren (hp2:=hp2) (at2:=AB) st.mem (fun i=>i) (fun i hi=>by
  refine ⟨by simp_all [live],rfl,?_⟩;rw [hl];cases look hp i .dead with
  | var cs=>exact ⟨rfl,fun j l l2 h1 h2 v h=>by rw [h1] at h2;cases h2;exact KA.keep h hs hro (fun _ _=>rfl) (Ext.refl w)⟩
  | sl e xs=>rfl
  | io e xs=>rfl
  | ar e xs=>rfl
  | dead=>trivial) (fun i j _ _ h=>h)
 exact ⟨m,st.size,st.defers,fun t=>by rw [he t];exact IB.keep (st.env t) hs hro (fun _ _=>rfl) (Ext.refl w)⟩
theorem St.drew (st:St C w0 Avn n env hp AB Ai a w):St C w0 Avn n env hp AB Ai a { w with drawn:=w.drawn+1 }:=by
 have ext:Ext w { w with drawn:=w.drawn+1 }:=⟨rfl,rfl,rfl,Nat.le_refl _,fun _ arr _ _ h=>⟨arr,h,rfl⟩⟩
 obtain ⟨m,hro⟩:=Mem.gen (w':={ w with drawn:=w.drawn+1 }) (hp':=hp) (at2:=AB) (AE:=Ai) (T:=fun _=>False) st.mem (UA.refl _ _) ext (fun _ h=>h.elim) (fun _ _ _=>rfl) (fun _ h=>.inr h) (fun _ h=>h) (fun _ h=>.inl h)
  (fun _ _ id=>.inl ⟨rfl,rfl,fun _ _ _ _ h=>h⟩) st.mem.dist st.mem.lt st.mem.old (fun _ _ h=>h.elim)
 exact ⟨m,st.size,st.defers,fun t=>IB.keep (st.env t) (UA.refl _ _) (fun b hb=>(hro b hb).1) (fun _ _=>rfl) ext⟩
theorem vM (hdr:UE AzO ops=true) {k:Nat} (hk:k<ops.size) (hs:AzF P AC call nt AzO ops env hp V H k) {id:Nat} (hid:Bj (H k) id=true) :
  ∃ o,ops[k]?=some o/\(touches o.op=true/\aZ C env AzO ops k o.op=none)/\(VO ops k=id / 64\/Bj (Axx H hp (Cb AzO k).testBit k) id=true)/\
   ∀ j oj,j<ops.size->j≠k->ops[j]?=some oj->comparable AzO k j=false->touches oj.op=true->vis C AzO ops hp j id=false\/∃ a,aZ C env AzO ops j oj.op=some a/\a≠some id:=by
 obtain ⟨o,ho,hd,h⟩:=hs
 rcases h with ⟨_,_,hdel⟩ | ⟨_,_,_,_,_,_,hH,_⟩
 ·obtain ⟨x,hx⟩:=Ayk hid
  grind [ji,Ea,aimed,Nat.beq_refl]
 simp_all [Bj]
theorem seen (hdr:UE AzO ops=true) (hall:∀ k,k<ops.size->AzF P AC call nt AzO ops env hp V H k):∀ (k:Nat),k<ops.size->∀ id,Bj (Axx H hp (Cb AzO k).testBit k) id=true->vis C AzO ops hp k id=true:=by
 intro k;induction k using Nat.strongRecOn with
 | _ k ih=>
  intro hk id hb;unfold vis;rcases (AJ6 k).1 hb with h | ⟨j,hj,hm,hid⟩
  ·simp_all
  ·obtain ⟨o,_,_,h,_⟩:=vM hdr (by omega) (hall j (by omega)) hid
   have third:∀ i,(Cb AzO k).testBit i=true->i<ops.size->VO ops i=id / 64->(Bj hp id || Nat.beq (VO ops k) (id / 64) || (List.range ops.size).any fun k'=>(Cb AzO k).testBit k' && Nat.beq (VO ops k') (id / 64))=true:=by intro i h1 h2 h3;have:((List.range ops.size).any fun k'=>(Cb AzO k).testBit k' && Nat.beq (VO ops k') (id / 64))=true:=List.any_eq_true.2 ⟨i,List.mem_range.2 h2,by simp_all⟩;simp_all
   rcases h with h | h
   ·grind
   ·have:=ih j hj (by omega) id h;unfold vis at this;rw [Bool.or_eq_true,Bool.or_eq_true] at this;rcases this with (h1 | h1) | h1
    ·simp_all
    ·grind
    ·obtain ⟨i,h2,h3⟩:=List.any_eq_true.1 h1
     grind [Asl]
theorem count_le {p p':Nat->Bool} {i:Nat} (h:∀ k,k≠i->p' k=p k) (hi:p i=true) (hi':p' i=false):∀ n:Nat,(n<=i->(List.range n).countP p'=(List.range n).countP p)/\(i<n->(List.range n).countP p'+1=(List.range n).countP p):=by intro n;induction n<;>grind [List.range_succ]
theorem AcQ {p:Nat->Bool} {t:Nat}:∀ (n:Nat),(∀ j,j<n->Gz ops j≠some t)->look (vE ops V env p n) t [.one .junk]=look env t [.one .junk]:=by intro n;induction n<;>grind [vE,vN]
theorem Asm {hp hp':Hp C} {id:Nat} (h:look hp' id .dead=look hp id .dead) {t off:Nat}:AwW C hp' t (.ptr id off)=AwW C hp t (.ptr id off):=by grind [AwW,Og,place]
theorem Asn {hp:Hp C} {id:Nat} (h:look hp id .dead=.dead) {t off:Nat}:AwW C hp t (.ptr id off)=none:=by grind [AwW,Og,place]
theorem Aso {i:Nat} {op:Op} {a:Option Nat} (h:aZ C env AzO ops i op=some a) :
  (∃ ty x id,op=.load ty x/\rootOf C env AzO ops 9 i x=some id/\a=some id)\/(∃ t x lo hi,op=.slice t x lo hi none/\(C.ti t).kind=.str/\a=none)\/(∃ s d x e id,op=.convert s d x/\(C.ti s).kind=.sl e/\vO C env AzO ops 9 i x=some id/\a=some id):=by
 unfold aZ at h;grind
theorem AcR {t:Nat} (h:giver ops t=none):∀ j,j<ops.size->Gz ops j≠some t:=by intro j hj hd;have:=List.find?_eq_none.1 h j (List.mem_range.2 hj);simp_all
theorem AcS {t k:Nat} (h:giver ops t=some k):k<ops.size/\Gz ops k=some t:=by have h1:=List.find?_some h;have h2:=List.mem_range.1 (List.mem_of_find?_eq_some h);grind [Ea]
theorem Asp (hdr:UE AzO ops=true) (hall:∀ k,k<ops.size->AzF P AC call nt AzO ops env hp V H k) (r:γ):∀ (m i:Nat),i<ops.size->∀ (x:Operand) (id:Nat),rootOf C env AzO ops m i x=some id->(∃ off,CB C (vE ops V env (Cb AzO i).testBit i) x=[.one (.ptr id off)])\/CB C (vE ops V env (Cb AzO i).testBit i) x=[]:=by
 intro m;induction m with
 | zero=>simp [rootOf]
 | succ m ih=>
  intro i hi x id h;simp only [rootOf] at h;split at h
  ·rename_i t;split at h;·grind [CB,AcQ,AcR]
   ·rename_i k hg;obtain ⟨hk,hd⟩:=AcS hg
    split at h
    ·rename_i o hm ho;have hlk:look (vE ops V env (Cb AzO i).testBit i) t [.one .junk]=V k:=by
      obtain ⟨o',ho',D⟩:=AwD hdr hi
      obtain ⟨ok,hok,DQ⟩:=AwD hdr hk
      exact vP hd hm _ (AyJ D.low hm) (fun j hj hne=>DQ.diff j (by omega) hne t hd)
     have step:∀ y,rootOf C env AzO ops m k y=some id->(∀ off,CB C (vE ops V env (Cb AzO k).testBit k) y=[.one (.ptr id off)]->∀ K':Val C.El->Hp C->Option γ,∀ v,Ci C P AC call (vE ops V env (Cb AzO k).testBit k) (Axx H hp (Cb AzO k).testBit k) (o.dst.getD 0) o.op K' none=some v->∃ off' h',K' [.one (.ptr id off')] h'=some v)->
       (CB C (vE ops V env (Cb AzO k).testBit k) y=[]->∀ K':Val C.El->Hp C->Option γ,∀ v,Ci C P AC call (vE ops V env (Cb AzO k).testBit k) (Axx H hp (Cb AzO k).testBit k) (o.dst.getD 0) o.op K' none=some v->∃ h',K' [] h'=some v)->
       (∃ off,CB C (vE ops V env (Cb AzO i).testBit i) (.tmp t)=[.one (.ptr id off)])\/CB C (vE ops V env (Cb AzO i).testBit i) (.tmp t)=[]:=by
      intro y hy hev hev0;obtain ⟨o',ho',_,hst⟩:=hall k hk
      rw [ho] at ho';cases ho';rcases hst with ⟨_,hx,_⟩ | ⟨j,want,t',hg',_,_,_,hV⟩
      ·classical
       rcases ih k hk y id hy with ⟨off,ho2⟩ | ho2
       ·obtain ⟨off',h',h1⟩:=hev off ho2 (fun v _=>if v=V k then some r else none) r (by simp_all)
        grind [CB]
       ·obtain ⟨h',h1⟩:=hev0 ho2 (fun v _=>if v=V k then some r else none) r (by simp_all)
        grind [CB]
      grind [CB]
     split at h
     ·rename_i s y f hop;refine step y h (fun off hy K' v hev=>?_) (fun hy K' v hev=>?_);·rw [hop] at hev;simp only [Ci,hy] at hev;grind
      ·rw [hop] at hev;simp only [Ci,hy] at hev;grind
     ·rename_i y hop;refine step y h (fun off hy K' v hev=>?_) (fun hy K' v hev=>?_);·rw [hop] at hev;simp only [Ci,hy] at hev;grind
      ·rw [hop] at hev;simp only [Ci,hy] at hev;grind
     ·rename_i y hop;refine step y h (fun off hy K' v hev=>?_) (fun hy K' v hev=>?_);·rw [hop] at hev;simp only [Ci,hy] at hev;grind
      simp_all [Ci]
     ·cases h
    ·cases h
  ·cases h
theorem Asq (hdr:UE AzO ops=true) (hall:∀ k,k<ops.size->AzF P AC call nt AzO ops env hp V H k) (r:γ):∀ (m i:Nat),i<ops.size->∀ (x:Operand) (id:Nat),vO C env AzO ops m i x=some id->CB C (vE ops V env (Cb AzO i).testBit i) x=[.one (.own id)]\/CB C (vE ops V env (Cb AzO i).testBit i) x=[]:=by
 intro m;induction m with
 | zero=>simp [vO]
 | succ m ih=>
  intro i hi x id h;simp only [vO] at h;split at h
  ·rename_i t;split at h;·grind [CB,AcQ,AcR]
   ·rename_i k hg;obtain ⟨hk,hd⟩:=AcS hg
    split at h
    ·rename_i o hm ho;have hlk:look (vE ops V env (Cb AzO i).testBit i) t [.one .junk]=V k:=by
      obtain ⟨o',ho',D⟩:=AwD hdr hi
      obtain ⟨ok,hok,DQ⟩:=AwD hdr hk
      exact vP hd hm _ (AyJ D.low hm) (fun j hj hne=>DQ.diff j (by omega) hne t hd)
     split at h
     ·rename_i y hop;obtain ⟨o',ho',_,hst⟩:=hall k hk
      rw [ho] at ho';cases ho';rcases hst with ⟨_,hx,_⟩ | ⟨j,want,t',hg',_,_,_,hV⟩
      ·have key:∀ val,CB C (vE ops V env (Cb AzO k).testBit k) y=val->V k=val:=by
        intro val hval;classical
        have h1:=hx (fun v _=>if v=V k then some r else none);simp_all [Ci]
       grind [CB]
      grind [CB]
     ·cases h
    ·cases h
  ·cases h
theorem Asr {hp hp':Hp C} {id:Nat} (h:look hp' id .dead=look hp id .dead) {e:Nat}:rowOf C hp' e (.own id)=rowOf C hp e (.own id):=by simp_all [rowOf]
theorem Ass {hp:Hp C} {id:Nat} (h:look hp id .dead=.dead) {e:Nat}:rowOf C hp e (.own id)=none:=by simp_all [rowOf]
theorem ATw (hC:EW C P) (hT:JX C w0 Avn) (hcs:ah C P AC call) (hcall:AEM call) (hdr:UE AzO ops=true) (hall:∀ k,k<ops.size->AzF P AC call n AzO ops env hp V H k) (r:γ) {Q:Exit->Act->World->Prop} (hQ:∀ at' AH a' w',St C w0 Avn n (vE ops V env (fun _=>true) ops.size) (Axx H hp (fun _=>true) ops.size) at' AH a' w'->Ch hp (Axx H hp (fun _=>true) ops.size) AB at'->Q .normal a' w') :
  ∀ (fuel:Nat) (p:Nat->Bool) (listed:Array Bool) (at':At) (AH:Nat->Prop) (a:Act) (w:World),listed.size=ops.size->(∀ k,k<ops.size->listed.getD k false=p k)->(∀ i,i<ops.size->p i=true->∀ k,(Cb AzO i).testBit k=true->p k=true)->
   (List.range ops.size).countP (fun k=> !p k)<=fuel->St C w0 Avn n (vE ops V env p ops.size) (Axx H hp p ops.size) at' AH a w->Ch hp (Axx H hp p ops.size) AB at'->wpAny P .any ops Q fuel listed a w:=by
 have fin:∀ (p:Nat->Bool) (listed:Array Bool) (at':At) (AH:Nat->Prop) (a:Act) (w:World),listed.size=ops.size->(∀ k,k<ops.size->listed.getD k false=p k)->St C w0 Avn n (vE ops V env p ops.size) (Axx H hp p ops.size) at' AH a w->Ch hp (Axx H hp p ops.size) AB at'->Region.ready .any ops listed=[]->Q .normal a w:=by
  intro p listed at' AH a w hsz hp' st ch hr;have done:∀ i,i<ops.size->p i=true:=by
   intro i;induction i using Nat.strongRecOn with
   | _ i ih=>
    intro hi;cases hpi:p i with
    | true=>rfl
    | false=>
     exfalso;obtain ⟨o,ho,D⟩:=AwD hdr hi
     have:i ∈ Region.ready .any ops listed:=by
      unfold Region.ready;refine List.mem_filter.2 ⟨List.mem_range.2 hi,?_⟩;have h1:listed.getD i true=false:=by simp_all
      rw [h1,ho];simp only [Bool.not_false,Bool.true_and,Option.map_some,Option.getD_some];rw [Array.all_eq_true_iff_forall_mem];intro e he;cases hb:Region.binds .any e with
      | false=>rfl
      | true=>
       have h2:=(D.sub e (by grind) hb).1;have h3:=AyJ D.low h2;grind
     simp_all
  have e1:vE ops V env p ops.size=vE ops V env (fun _=>true) ops.size:=AEN _ (fun _ _=>rfl) done;have e2:Axx H hp p ops.size=Axx H hp (fun _=>true) ops.size:=jW _ (fun _ _=>rfl) done;grind
 intro fuel;induction fuel with
 | zero=>
  intro p listed at' AH a w hsz hp' hcl hc st ch;have hr:Region.ready .any ops listed=[]:=by simp_all [Region.ready]
  exact ⟨hr,fin p listed at' AH a w hsz hp' st ch hr⟩
 | succ fuel ih=>
  intro p listed at' AH a w hsz hp' hcl hc st ch;refine ⟨fun hr=>fin p listed at' AH a w hsz hp' st ch hr,fun i hi=>?_⟩;unfold Region.ready at hi;obtain ⟨hi,hrd⟩:=List.mem_filter.1 hi
  have hi:=List.mem_range.1 hi;obtain ⟨o,ho,D⟩:=AwD hdr hi
  rw [ho,Bool.and_eq_true] at hrd;obtain ⟨HH,Ds⟩:=hrd
  simp only [Option.map_some,Option.getD_some] at Ds;rw [Array.all_eq_true_iff_forall_mem] at Ds;have hpi:p i=false:=by grind
  have hmask:∀ k,(Cb AzO i).testBit k=true->p k=true:=by
   intro k hk;have hki:=AyJ D.low hk;obtain ⟨e,he,hb,h3⟩:=D.inv k (by omega) hk
   grind
  have CH:∀ j,j<ops.size->p j=true->(Cb AzO i).testBit j=false->j≠i/\comparable AzO j i=false/\comparable AzO i j=false:=by grind [comparable]
  have Fc:vE ops V env (Cb AzO i).testBit i=vE ops V env (Cb AzO i).testBit ops.size:=(AcT _ (by omega) (fun j hj=>by
   cases hb:(Cb AzO i).testBit j with
   | false=>rfl
   | true=>have:=AyJ D.low hb;omega)).symm
  have hlow:Axx H hp (Cb AzO i).testBit i=Axx H hp (Cb AzO i).testBit ops.size:=(ATx _ (by omega) (fun j hj=>by
   cases hb:(Cb AzO i).testBit j with
   | false=>rfl
   | true=>have:=AyJ D.low hb;omega)).symm
  have E2:∀ t,t ∈ o.looksAt ops->look (vE ops V env p ops.size) t [.one .junk]=look (vE ops V env (Cb AzO i).testBit i) t [.one .junk]:=by
   intro t ht;rw [Fc];refine Asu _ (fun j hj Bb hd=>?_) (fun j _ hm=>hmask j hm);cases hm:(Cb AzO i).testBit j with
   | true=>rfl
   | false=>
    obtain ⟨hne,_,hc⟩:=CH j hj Bb hm
    rcases D.apart j hj hne with h | h
    all_goals grind
  have hdst:Gz ops i=o.dst:=by simp [Gz,ho]
  have FE:VO ops i=o.dst.getD 0:=by grind [VO]
  have E3:aZ C env AzO ops i o.op=none->touches o.op=true->Le (Axx H hp (Cb AzO i).testBit i) (Axx H hp p ops.size)/\∀ id,id / 64=o.dst.getD 0->Bj (Axx H hp p ops.size) id=true->Bj (Axx H hp (Cb AzO i).testBit i) id=true:=by
   intro hna ht;have other:∀ j,j<ops.size->p j=true->(Cb AzO i).testBit j=false->∀ id,Bj (H j) id=true->vis C AzO ops hp i id=false:=by grind [vM]
   refine ⟨fun id hl=>?_,fun id hid hb=>?_⟩;·have D0:vis C AzO ops hp i id=true:=seen hdr hall i hi id (vS (Avg hl));grind [ATy]
   ·rw [hlow];rcases (AJ6 _).1 hb with h | ⟨j,hj,Bb,h⟩
    ·grind [AJ6]
    ·cases hm:(Cb AzO i).testBit j with
     | true=>grind [AJ6]
     | false=>
      have:=other j hj Bb hm id h;unfold vis at this;rw [FE,hid] at this;simp at this
  have hsz':(listed.setIfInBounds i true).size=ops.size:=by grind
  have hp'':∀ k,k<ops.size->(listed.setIfInBounds i true).getD k false=ins p i k:=by
   intro k hk;by_cases e:k=i;·subst e;rw [AJ7];exact by simp [Array.getD,hsz,hk]
   ·rw [WE e,getD_set_ne false (fun h=>e h.symm)];grind
  have hcl':∀ j,j<ops.size->ins p i j=true->∀ k,(Cb AzO j).testBit k=true->ins p i k=true:=by grind [WE]
  have hc':(List.range ops.size).countP (fun k=> !ins p i k)<=fuel:=by have:=(count_le (p:=fun k=> !p k) (p':=fun k=> !ins p i k) (i:=i) (fun k hk=>by rw [WE hk]) (by simp [hpi]) (by simp [AJ7]) ops.size).2 hi;omega
  have next:∀ (at2:At) (AE:Nat->Prop) (a2:Act) (w2:World),St C w0 Avn n (put C (vE ops V env p ops.size) o.dst (V i)) (H i++Axx H hp p ops.size) at2 AE a2 w2->Ch (Axx H hp p ops.size) (H i++Axx H hp p ops.size) at' at2->wpAny P .any ops Q fuel (listed.setIfInBounds i true) a2 w2:=by
   intro at2 AE a2 w2 st2 Cg
   have hh:∀ id,look (Axx H hp (ins p i) ops.size) id .dead=look (H i++Axx H hp p ops.size) id .dead/\Bj (Axx H hp (ins p i) ops.size) id=Bj (H i++Axx H hp p ops.size) id:=fun id=>Asv hpi id _ hi (fun j hj hlt Bb hid=>by
    cases hjd:Bj (H j) id with
    | false=>rfl
    | true=>
     exfalso;have hm:(Cb AzO i).testBit j=false:=by
      cases hb:(Cb AzO i).testBit j with
      | false=>rfl
      | true=>have:=AyJ D.low hb;omega
     obtain ⟨hne,hc,hc2⟩:=CH j hj Bb hm
     obtain ⟨oi,hoi,⟨ht,hna⟩,h3,_⟩:=vM hdr hi (hall i hi) hid
     obtain ⟨oj,hoj,_,_,h4⟩:=vM hdr hj (hall j hj) hjd
     have:vis C AzO ops hp i id=false:=by grind
     have hv:vis C AzO ops hp i id=true:=by
      rcases h3 with h3 | h3
      ·unfold vis;rw [h3];simp
      ·exact seen hdr hall i hi id h3
     grind)
   refine ih (ins p i) _ at2 AE a2 w2 hsz' hp'' hcl' hc' (st2.congr (fun id=>(hh id).1) (fun id=>(hh id).2) (fun t=>?_)) ?_;·rw [Asw hpi t _ hi (fun j hj hne d hd=>D.diff j hj hne d hd),hdst]
   ·intro id hb;obtain ⟨h1,h2⟩:=ch.trans Cg id hb
    grind
  obtain ⟨o',ho',hdo,hst⟩:=hall i hi
  rw [ho] at ho';cases ho';have yes:∀ (j:Nat) (want:Bool) (t:Nat) (b:Bool),o.guard=some (j,want)->Gz ops j=some t->V j=[.one (.bool b)]->yielded ops a.tmps j=some b:=by
   intro j want t b hg ht hv;have hjm:=D.grd j want hg;have hji:=AyJ D.low hjm;have h1:look (vE ops V env p ops.size) t [.one .junk]=[.one (.bool b)]:=by
    rw [vP ht (hmask j hjm) _ (by omega) (fun k hk hne=>by
     obtain ⟨oj,hoj,B0⟩:=AwD hdr (show j<ops.size by omega)
     exact B0.diff k hk hne t ht),hv]
   have h2:=st.env t;rw [h1] at h2;exact AcU ht h2
  have no:∀ (j:Nat) (want:Bool) (t:Nat),o.guard=some (j,want)->Gz ops j=some t->V j=[]->yielded ops a.tmps j=none:=by
   intro j want t hg ht hv;have hjm:=D.grd j want hg;have hji:=AyJ D.low hjm;have h1:look (vE ops V env p ops.size) t [.one .junk]=[]:=by
    rw [vP ht (hmask j hjm) _ (by omega) (fun k hk hne=>by
     obtain ⟨oj,hoj,B0⟩:=AwD hdr (show j<ops.size by omega)
     exact B0.diff k hk hne t ht),hv]
   have h2:=st.env t;rw [h1] at h2;exact AcV ht (AcW h2)
  unfold wpOp;simp only [ho];rcases hst with ⟨hg,hx,_⟩ | ⟨j,want,t,hg,ht,hv,hH,hV⟩
  ·have hw:Region.wanted o (yielded ops a.tmps)=true:=by grind [Region.wanted]
   rw [if_pos hw];left;have Cd:∀ x,x ∈ o.op.operands->CB C (vE ops V env p ops.size) x=CB C (vE ops V env (Cb AzO i).testBit i) x:=by
    intro x hx;cases x with
    | tmp t=>
     refine E2 t ?_;unfold Oper.looksAt;refine List.mem_append_left _ (List.mem_filterMap.2 ⟨.tmp t,by grind,rfl⟩)
    | _=>rfl
   letI:=Classical.propDecidable (∃ v h,v=V i/\h=H i);obtain ⟨v,h',h1,h2⟩:∃ v h',(fun v h=>@ite _ (v=V i/\h=H i) (Classical.propDecidable _) (some r) none) v h'=some r/\∀ K':Val C.El->Hp C->Option γ,Ci C P AC call (vE ops V env p ops.size) (Axx H hp p ops.size) (o.dst.getD 0) o.op K' none=K' v h':=by
    cases hna:aZ C env AzO ops i o.op with
    | none=>exact AcX (K:=fun v h=>@ite _ (v=V i/\h=H i) (Classical.propDecidable _) (some r) none) (r:=r) hcall Cd (E3 hna) (by grind)
    | some a0=>
     rcases Aso hna with ⟨ty,x,A4,ho2,hrt,rfl⟩ | ⟨t,x,lo,hi',ho2,hk,rfl⟩ | ⟨sr,ds,x,el,A4,ho2,hks,hrt,rfl⟩
     ·have hpk:CB C (vE ops V env p ops.size) x=CB C (vE ops V env (Cb AzO i).testBit i) x:=Cd x (by grind [Op.operands]);obtain ⟨off,hmk⟩:∃ off,CB C (vE ops V env (Cb AzO i).testBit i) x=[.one (.ptr A4 off)]:=by
       rcases Asp hdr hall r 9 i hi x A4 hrt with h0 | h0
       ·exact h0
       ·have h1:=hx (fun _ _=>some r);rw [ho2] at h1;simp only [Ci,h0] at h1;cases h1
      rw [hmk] at hpk;have hlive:look (Axx H hp (Cb AzO i).testBit i) A4 .dead≠.dead:=by intro hd;have h0:=hx (fun _ _=>some r);rw [ho2] at h0;simp only [Ci,hmk,Asn hd] at h0;cases h0
      have hsame:look (Axx H hp p ops.size) A4 .dead=look (Axx H hp (Cb AzO i).testBit i) A4 .dead:=by
       have D0:vis C AzO ops hp i A4=true:=seen hdr hall i hi A4 (vS (Avg hlive));rw [hlow];refine ATy _ (fun j hj Bb hb=>?_) (fun j _ hm=>hmask j hm);cases hm:(Cb AzO i).testBit j with
       | true=>rfl
       | false=>
        obtain ⟨hne,hc,_⟩:=CH j hj Bb hm
        obtain ⟨oj,hoj,_,_,h4⟩:=vM hdr hj (hall j hj) hb
        rcases h4 i o hi hne.symm ho hc (by rw [ho2];rfl) with h5 | ⟨a',h5,h6⟩
        all_goals grind
      refine ⟨V i,H i,by simp,fun K'=>?_⟩;rw [<-hx K',ho2];simp only [Ci,hmk,hpk,Asm hsame]
     ·have e1:=Cd x (by grind [Op.operands]);have e2:lo.map (CB C (vE ops V env p ops.size))=lo.map (CB C (vE ops V env (Cb AzO i).testBit i)):=by
       cases lo with
       | none=>rfl
       | some q=>grind [Op.operands]
      have e3:hi'.map (CB C (vE ops V env p ops.size))=hi'.map (CB C (vE ops V env (Cb AzO i).testBit i)):=by
       cases hi' with
       | none=>rfl
       | some q=>grind [Op.operands]
      refine ⟨V i,H i,by simp,fun K'=>?_⟩;rw [<-hx K',ho2];simp only [Ci,e1,e2,e3,hk];grind
     ·have hpk:CB C (vE ops V env p ops.size) x=CB C (vE ops V env (Cb AzO i).testBit i) x:=Cd x (by grind [Op.operands]);have hmk:CB C (vE ops V env (Cb AzO i).testBit i) x=[.one (.own A4)]:=by
       rcases Asq hdr hall r 9 i hi x A4 hrt with h0 | h0
       ·exact h0
       ·have h1:=hx (fun _ _=>some r);rw [ho2] at h1;simp only [Ci,h0,hks] at h1;grind
      rw [hmk] at hpk;have hlive:look (Axx H hp (Cb AzO i).testBit i) A4 .dead≠.dead:=by intro hd;have h0:=hx (fun _ _=>some r);rw [ho2] at h0;simp only [Ci,hmk,hks] at h0;cases hdk:(C.ti ds).kind <;> simp only [hdk,Ass hd] at h0 <;> first | grind | grind
      have hsame:look (Axx H hp p ops.size) A4 .dead=look (Axx H hp (Cb AzO i).testBit i) A4 .dead:=by
       have D0:vis C AzO ops hp i A4=true:=seen hdr hall i hi A4 (vS (Avg hlive));rw [hlow];refine ATy _ (fun j hj Bb hb=>?_) (fun j _ hm=>hmask j hm);cases hm:(Cb AzO i).testBit j with
       | true=>rfl
       | false=>
        obtain ⟨hne,hc,_⟩:=CH j hj Bb hm
        obtain ⟨oj,hoj,_,_,h4⟩:=vM hdr hj (hall j hj) hb
        rcases h4 i o hi hne.symm ho hc (by rw [ho2];rfl) with h5 | ⟨a',h5,h6⟩
        all_goals grind
      refine ⟨V i,H i,by simp,fun K'=>?_⟩;rw [<-hx K',ho2];cases hdk:(C.ti ds).kind <;> simp only [Ci,hmk,hpk,hks,hdk,Asr hsame]
   have h3:v=V i/\h'=H i:=by grind
   obtain ⟨rfl,rfl⟩:=h3
   have Fd:=AcY (K:=fun v h=>@ite _ (v=V i/\h=H i) (Classical.propDecidable _) (some r) none) (r:=r) (o:=o) hC hT hcs st (by grind);refine Fd _ Q (fun val hh v w' hk ha=>?_);have e:val=V i/\hh=H i:=by grind
   obtain ⟨rfl,rfl⟩:=e
   obtain ⟨at2,AE,st2,Cg⟩:=St.step st o.dst (ATz hdo) ha
   grind
  ·have hw:Region.wanted o (yielded ops a.tmps)=false:=by grind [Region.wanted]
   rw [if_neg (by simp [hw])];have st2:=St.skip st o.dst (ATz hdo);grind [Ch.refl]
theorem Asx (hC:EW C P) (hT:JX C w0 Avn) (hcs:ah C P AC call) (hcall:AEM call):AT0 C P AC call w0 Avn n:=by
 intro id ops env hp AB Ai a w K r Q hdr h st hQ;obtain ⟨V,H,hall,E,hK,hE⟩:=Asy hcall hdr ops.toList 0 [] (fun _=>[]) (fun _=>[]) (by simp) (fun k=>by simp) trivial (fun k hk=>by omega) h
 refine wp_region_any hC.mixed (ATw hC hT hcs hcall hdr hall r (AB:=AB) (fun at' AH a' w' st' ch'=>hQ E _ at' AH a' w' hK (st'.congr (fun _=>rfl) (fun _=>rfl) hE) ch') ops.size (fun _=>false) _ AB Ai a _ (by simp) (fun k hk=>by simp_all) (fun i _ h=>by cases h) (Nat.le_trans List.countP_le_length (by simp)) ?_ ?_)
 ·have e1:vE ops V env (fun _=>false) ops.size=env:=(AcT ops.size (DJ _) (fun _ _=>rfl))
  have e2:Axx H hp (fun _=>false) ops.size=hp:=(ATx ops.size (DJ _) (fun _ _=>rfl))
  rw [e1,e2];exact st.drew
 ·have e2:Axx H hp (fun _=>false) ops.size=hp:=(ATx ops.size (DJ _) (fun _ _=>rfl))
  simp_all [Ch.refl]
theorem Asj (hC:EW C P) {k g:Nat} {us rs:List (U C.El)} (h:RG C P k g us=some rs):AEL C P g us rs:=
 (Asz hC (fun k ih=>As0 hC k ih) (fun k w0 Avn n hcs hT=>Asx hC hT hcs (As1 k)) k).1 g us rs h
end
end Go.Ev
