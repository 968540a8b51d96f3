/- What the evaluator tells of a function is what the machine does. -/
import Derived.Test.YtaalgheapdmjnaaGreatDoorSnd34
namespace Go.Ev
set_option linter.unusedVariables false
set_option linter.unusedSimpArgs false
open Go
set_option maxHeartbeats 1000000
section
variable {C:Ctx} {P:Program} {γ:Type} {AC:Nat->Nat} {call:Nat->List (U C.El)->(List (U C.El)->Option γ)->Option γ} {r:γ} {nt:Nat}
variable {ops:Array Oper} {Ath:Array Nat} {env:Env C} {hp:Hp C} {V:Nat->Val C.El} {H:Nat->Hp C} {w0:World} {Ec:Nat->Nat->Prop} {AB:At} {Af:Nat->Prop} {a:Act} {w:World} {n:Nat}
theorem St.congr {B3:Env C} {hp2:Hp C} (st:St C w0 Ec n env hp AB Af a w) (hl:∀ id,look hp2 id .dead=look hp id .dead) (hb:∀ id,Ba hp2 id=Ba hp id) (he:∀ t,look B3 t [.one .junk]=look env t [.one .junk]):St C w0 Ec n B3 hp2 AB Af a w:=by
 have hs:ArP hp hp2 AB AB:=⟨fun i hi=>by simp_all,fun i _=>by simp_all [Et.refl],fun _ _=>rfl⟩
 have hro:∀ b,BD C hp AB w b->BD C hp2 AB w b:=fun b h=>⟨h.1,fun ⟨i,off,h1,h2⟩=>h.2 ⟨i,off,by simp_all [live],h2⟩⟩
 obtain ⟨m,_⟩:=Mem.ren (hp2:=hp2) (at2:=AB) st.mem (fun i=>i) (fun i hi=>by
  refine ⟨by simp_all [live],rfl,?_⟩;rw [hl];cases look hp i .dead with
  | var cs=>exact ⟨rfl,fun j l l2 h1 h2 v h=>by rw [h1] at h2;cases h2;exact KA.keep h hs hro (fun _ _=>rfl) (Ext.refl w)⟩
  | sl e xs=>rfl
  | io e xs=>rfl
  | ar e xs=>rfl
  | dead=>trivial) (fun i j _ _ h=>h)
 exact ⟨m,st.size,st.defers,fun t=>by rw [he t];exact Hf.keep (st.env t) hs hro (fun _ _=>rfl) (Ext.refl w)⟩
theorem St.drew (st:St C w0 Ec n env hp AB Af a w):St C w0 Ec n env hp AB Af a { w with drawn:=w.drawn+1 }:=by
 have ext:Ext w { w with drawn:=w.drawn+1 }:=⟨rfl,rfl,rfl,Nat.le_refl _,fun _ arr _ _ h=>⟨arr,h,rfl⟩⟩
 obtain ⟨m,hro⟩:=Mem.gen (w':={ w with drawn:=w.drawn+1 }) (hp':=hp) (at2:=AB) (AE:=Af) (T:=fun _=>False) st.mem (ArP.refl _ _) ext (fun _ h=>h.elim) (fun _ _ _=>rfl) (fun _ h=>.inr h) (fun _ h=>h) (fun _ h=>.inl h)
  (fun _ _ id=>.inl ⟨rfl,rfl,fun _ _ _ _ h=>h⟩) st.mem.dist st.mem.lt st.mem.old (fun _ _ h=>h.elim)
 exact ⟨m,st.size,st.defers,fun t=>Hf.keep (st.env t) (ArP.refl _ _) (fun b hb=>(hro b hb).1) (fun _ _=>rfl) ext⟩
theorem qX (hdr:SQ Ath ops=true) {k:Nat} (hk:k<ops.size) (hs:Aso P AC call nt Ath ops env hp V H k) {id:Nat} (hid:Ba (H k) id=true) :
  ∃ o,ops[k]?=some o/\(touches o.op=true/\ZC C env Ath ops k o.op=none)/\(UK ops k=id / 64\/Ba (As6 H hp (CQ Ath k).testBit k) id=true)/\
   ∀ j oj,j<ops.size->j≠k->ops[j]?=some oj->comparable Ath k j=false->touches oj.op=true->vis C Ath ops hp j id=false\/∃ a,ZC C env Ath ops j oj.op=some a/\a≠some id:=by
 obtain ⟨o,ho,hd,h⟩:=hs
 rcases h with ⟨_,_,hdel⟩ | ⟨_,_,_,_,_,_,hH,_⟩
 ·obtain ⟨x,hx⟩:=Arw hid
  grind [fZ,EL,aimed,Nat.beq_refl]
 simp_all [Ba]
theorem seen (hdr:SQ Ath ops=true) (hall:∀ k,k<ops.size->Aso P AC call nt Ath ops env hp V H k):∀ (k:Nat),k<ops.size->∀ id,Ba (As6 H hp (CQ Ath k).testBit k) id=true->vis C Ath ops hp k id=true:=by
 intro k;induction k using Nat.strongRecOn with
 | _ k ih=>
  intro hk id hb;unfold vis;rcases (AHf k).1 hb with h | ⟨j,hj,hm,hid⟩
  ·simp_all
  ·obtain ⟨o,_,_,h,_⟩:=qX hdr (by omega) (hall j (by omega)) hid
   have third:∀ i,(CQ Ath k).testBit i=true->i<ops.size->UK ops i=id / 64->(Ba hp id || Nat.beq (UK ops k) (id / 64) || (List.range ops.size).any fun k'=>(CQ Ath k).testBit k' && Nat.beq (UK ops k') (id / 64))=true:=by intro i h1 h2 h3;have:((List.range ops.size).any fun k'=>(CQ Ath k).testBit k' && Nat.beq (UK ops k') (id / 64))=true:=List.any_eq_true.2 ⟨i,List.mem_range.2 h2,by simp_all⟩;simp_all
   rcases h with h | h
   ·grind
   ·have:=ih j hj (by omega) id h;unfold vis at this;rw [Bool.or_eq_true,Bool.or_eq_true] at this;rcases this with (h1 | h1) | h1
    ·simp_all
    ·grind
    ·obtain ⟨i,h2,h3⟩:=List.any_eq_true.1 h1
     grind [AoP]
theorem count_le {p p':Nat->Bool} {i:Nat} (h:∀ k,k≠i->p' k=p k) (hi:p i=true) (hi':p' i=false):∀ n:Nat,(n<=i->(List.range n).countP p'=(List.range n).countP p)/\(i<n->(List.range n).countP p'+1=(List.range n).countP p):=by intro n;induction n<;>grind [List.range_succ]
theorem AY1 {p:Nat->Bool} {t:Nat}:∀ (n:Nat),(∀ j,j<n->GV ops j≠some t)->look (vE ops V env p n) t [.one .junk]=look env t [.one .junk]:=by intro n;induction n<;>grind [vE,qY]
theorem AoQ {hp hp':Hp C} {id:Nat} (h:look hp' id .dead=look hp id .dead) {t off:Nat}:Ar3 C hp' t (.ptr id off)=Ar3 C hp t (.ptr id off):=by grind [Ar3,Nv,place]
theorem AoR {hp:Hp C} {id:Nat} (h:look hp id .dead=.dead) {t off:Nat}:Ar3 C hp t (.ptr id off)=none:=by grind [Ar3,Nv,place]
theorem AoS {i:Nat} {op:Op} {a:Option Nat} (h:ZC C env Ath ops i op=some a) :
  (∃ ty x id,op=.load ty x/\rootOf C env Ath ops 9 i x=some id/\a=some id)\/(∃ t x lo hi,op=.slice t x lo hi none/\(C.ti t).kind=.str/\a=none)\/(∃ s d x e id,op=.convert s d x/\(C.ti s).kind=.sl e/\qZ C env Ath ops 9 i x=some id/\a=some id):=by
 unfold ZC at h;grind
theorem AY2 {t:Nat} (h:giver ops t=none):∀ j,j<ops.size->GV ops j≠some t:=by intro j hj hd;have:=List.find?_eq_none.1 h j (List.mem_range.2 hj);simp_all
theorem AY3 {t k:Nat} (h:giver ops t=some k):k<ops.size/\GV ops k=some t:=by have h1:=List.find?_some h;have h2:=List.mem_range.1 (List.mem_of_find?_eq_some h);grind [EL]
theorem AoT (hdr:SQ Ath ops=true) (hall:∀ k,k<ops.size->Aso P AC call nt Ath ops env hp V H k) (r:γ):∀ (m i:Nat),i<ops.size->∀ (x:Operand) (id:Nat),rootOf C env Ath ops m i x=some id->(∃ off,Bl C (vE ops V env (CQ Ath i).testBit i) x=[.one (.ptr id off)])\/Bl C (vE ops V env (CQ Ath i).testBit i) x=[]:=by
 intro m;induction m with
 | zero=>simp [rootOf]
 | succ m ih=>
  intro i hi x id h;simp only [rootOf] at h;split at h
  ·rename_i t;split at h;·grind [Bl,AY1,AY2]
   ·rename_i k hg;obtain ⟨hk,hd⟩:=AY3 hg
    split at h
    ·rename_i o hm ho;have hlk:look (vE ops V env (CQ Ath i).testBit i) t [.one .junk]=V k:=by
      obtain ⟨o',ho',D⟩:=ArY hdr hi
      obtain ⟨ok,hok,DE⟩:=ArY hdr hk
      exact qc hd hm _ (Att D.low hm) (fun j hj hne=>DE.diff j (by omega) hne t hd)
     have step:∀ y,rootOf C env Ath ops m k y=some id->(∀ off,Bl C (vE ops V env (CQ Ath k).testBit k) y=[.one (.ptr id off)]->∀ K':Val C.El->Hp C->Option γ,∀ v,CW C P AC call (vE ops V env (CQ Ath k).testBit k) (As6 H hp (CQ Ath k).testBit k) (o.dst.getD 0) o.op K' none=some v->∃ off' h',K' [.one (.ptr id off')] h'=some v)->
       (Bl C (vE ops V env (CQ Ath k).testBit k) y=[]->∀ K':Val C.El->Hp C->Option γ,∀ v,CW C P AC call (vE ops V env (CQ Ath k).testBit k) (As6 H hp (CQ Ath k).testBit k) (o.dst.getD 0) o.op K' none=some v->∃ h',K' [] h'=some v)->
       (∃ off,Bl C (vE ops V env (CQ Ath i).testBit i) (.tmp t)=[.one (.ptr id off)])\/Bl C (vE ops V env (CQ Ath i).testBit i) (.tmp t)=[]:=by
      intro y hy hev hev0;obtain ⟨o',ho',_,hst⟩:=hall k hk
      rw [ho] at ho';cases ho';rcases hst with ⟨_,hx,_⟩ | ⟨j,want,t',hg',_,_,_,hV⟩
      ·classical
       rcases ih k hk y id hy with ⟨off,ho2⟩ | ho2
       ·obtain ⟨off',h',h1⟩:=hev off ho2 (fun v _=>if v=V k then some r else none) r (by simp_all)
        grind [Bl]
       ·obtain ⟨h',h1⟩:=hev0 ho2 (fun v _=>if v=V k then some r else none) r (by simp_all)
        grind [Bl]
      grind [Bl]
     split at h
     ·rename_i s y f hop;refine step y h (fun off hy K' v hev=>?_) (fun hy K' v hev=>?_);·rw [hop] at hev;simp only [CW,hy] at hev;grind
      ·rw [hop] at hev;simp only [CW,hy] at hev;grind
     ·rename_i y hop;refine step y h (fun off hy K' v hev=>?_) (fun hy K' v hev=>?_);·rw [hop] at hev;simp only [CW,hy] at hev;grind
      ·rw [hop] at hev;simp only [CW,hy] at hev;grind
     ·rename_i y hop;refine step y h (fun off hy K' v hev=>?_) (fun hy K' v hev=>?_);·rw [hop] at hev;simp only [CW,hy] at hev;grind
      simp_all [CW]
     ·cases h
    ·cases h
  ·cases h
theorem AoU (hdr:SQ Ath ops=true) (hall:∀ k,k<ops.size->Aso P AC call nt Ath ops env hp V H k) (r:γ):∀ (m i:Nat),i<ops.size->∀ (x:Operand) (id:Nat),qZ C env Ath ops m i x=some id->Bl C (vE ops V env (CQ Ath i).testBit i) x=[.one (.own id)]\/Bl C (vE ops V env (CQ Ath i).testBit i) x=[]:=by
 intro m;induction m with
 | zero=>simp [qZ]
 | succ m ih=>
  intro i hi x id h;simp only [qZ] at h;split at h
  ·rename_i t;split at h;·grind [Bl,AY1,AY2]
   ·rename_i k hg;obtain ⟨hk,hd⟩:=AY3 hg
    split at h
    ·rename_i o hm ho;have hlk:look (vE ops V env (CQ Ath i).testBit i) t [.one .junk]=V k:=by
      obtain ⟨o',ho',D⟩:=ArY hdr hi
      obtain ⟨ok,hok,DE⟩:=ArY hdr hk
      exact qc hd hm _ (Att D.low hm) (fun j hj hne=>DE.diff j (by omega) hne t hd)
     split at h
     ·rename_i y hop;obtain ⟨o',ho',_,hst⟩:=hall k hk
      rw [ho] at ho';cases ho';rcases hst with ⟨_,hx,_⟩ | ⟨j,want,t',hg',_,_,_,hV⟩
      ·have key:∀ val,Bl C (vE ops V env (CQ Ath k).testBit k) y=val->V k=val:=by
        intro val hval;classical
        have h1:=hx (fun v _=>if v=V k then some r else none);simp_all [CW]
       grind [Bl]
      grind [Bl]
     ·cases h
    ·cases h
  ·cases h
theorem AoV {hp hp':Hp C} {id:Nat} (h:look hp' id .dead=look hp id .dead) {e:Nat}:rowOf C hp' e (.own id)=rowOf C hp e (.own id):=by simp_all [rowOf]
theorem AoW {hp:Hp C} {id:Nat} (h:look hp id .dead=.dead) {e:Nat}:rowOf C hp e (.own id)=none:=by simp_all [rowOf]
theorem qg (hC:EG C P) (hT:JA C w0 Ec) (hcs:ZE C P AC call) (hcall:AB8 call) (hdr:SQ Ath ops=true) (hall:∀ k,k<ops.size->Aso P AC call n Ath ops env hp V H k) (r:γ) {Q:Exit->Act->World->Prop} (hQ:∀ at' AH a' w',St C w0 Ec n (vE ops V env (fun _=>true) ops.size) (As6 H hp (fun _=>true) ops.size) at' AH a' w'->Ch hp (As6 H hp (fun _=>true) ops.size) AB at'->Q .normal a' w') :
  ∀ (fuel:Nat) (p:Nat->Bool) (listed:Array Bool) (at':At) (AH:Nat->Prop) (a:Act) (w:World),listed.size=ops.size->(∀ k,k<ops.size->listed.getD k false=p k)->(∀ i,i<ops.size->p i=true->∀ k,(CQ Ath i).testBit k=true->p k=true)->
   (List.range ops.size).countP (fun k=> !p k)<=fuel->St C w0 Ec n (vE ops V env p ops.size) (As6 H hp p ops.size) at' AH a w->Ch hp (As6 H hp p ops.size) AB at'->wpAny P .any ops Q fuel listed a w:=by
 have fin:∀ (p:Nat->Bool) (listed:Array Bool) (at':At) (AH:Nat->Prop) (a:Act) (w:World),listed.size=ops.size->(∀ k,k<ops.size->listed.getD k false=p k)->St C w0 Ec n (vE ops V env p ops.size) (As6 H hp p ops.size) at' AH a w->Ch hp (As6 H hp p ops.size) AB at'->Region.ready .any ops listed=[]->Q .normal a w:=by
  intro p listed at' AH a w hsz hp' st ch hr;have done:∀ i,i<ops.size->p i=true:=by
   intro i;induction i using Nat.strongRecOn with
   | _ i ih=>
    intro hi;cases hpi:p i with
    | true=>rfl
    | false=>
     exfalso;obtain ⟨o,ho,D⟩:=ArY hdr hi
     have:i ∈ Region.ready .any ops listed:=by
      unfold Region.ready;refine List.mem_filter.2 ⟨List.mem_range.2 hi,?_⟩;have h1:listed.getD i true=false:=by simp_all
      rw [h1,ho];simp only [Bool.not_false,Bool.true_and,Option.map_some,Option.getD_some];rw [Array.all_eq_true_iff_forall_mem];intro e he;cases hb:Region.binds .any e with
      | false=>rfl
      | true=>
       have h2:=(D.sub e (by grind) hb).1;have h3:=Att D.low h2;grind
     simp_all
  have e1:vE ops V env p ops.size=vE ops V env (fun _=>true) ops.size:=AB9 _ (fun _ _=>rfl) done;have e2:As6 H hp p ops.size=As6 H hp (fun _=>true) ops.size:=fG _ (fun _ _=>rfl) done;grind
 intro fuel;induction fuel with
 | zero=>
  intro p listed at' AH a w hsz hp' hcl hc st ch;have hr:Region.ready .any ops listed=[]:=by simp_all [Region.ready]
  exact ⟨hr,fin p listed at' AH a w hsz hp' st ch hr⟩
 | succ fuel ih=>
  intro p listed at' AH a w hsz hp' hcl hc st ch;refine ⟨fun hr=>fin p listed at' AH a w hsz hp' st ch hr,fun i hi=>?_⟩;unfold Region.ready at hi;obtain ⟨hi,hrd⟩:=List.mem_filter.1 hi
  have hi:=List.mem_range.1 hi;obtain ⟨o,ho,D⟩:=ArY hdr hi
  rw [ho,Bool.and_eq_true] at hrd;obtain ⟨G4,Dd⟩:=hrd
  simp only [Option.map_some,Option.getD_some] at Dd;rw [Array.all_eq_true_iff_forall_mem] at Dd;have hpi:p i=false:=by grind
  have hmask:∀ k,(CQ Ath i).testBit k=true->p k=true:=by
   intro k hk;have hki:=Att D.low hk;obtain ⟨e,he,hb,h3⟩:=D.inv k (by omega) hk
   grind
  have CH:∀ j,j<ops.size->p j=true->(CQ Ath i).testBit j=false->j≠i/\comparable Ath j i=false/\comparable Ath i j=false:=by grind [comparable]
  have FG:vE ops V env (CQ Ath i).testBit i=vE ops V env (CQ Ath i).testBit ops.size:=(AY4 _ (by omega) (fun j hj=>by
   cases hb:(CQ Ath i).testBit j with
   | false=>rfl
   | true=>have:=Att D.low hb;omega)).symm
  have hlow:As6 H hp (CQ Ath i).testBit i=As6 H hp (CQ Ath i).testBit ops.size:=(AQv _ (by omega) (fun j hj=>by
   cases hb:(CQ Ath i).testBit j with
   | false=>rfl
   | true=>have:=Att D.low hb;omega)).symm
  have EE:∀ t,t ∈ o.looksAt ops->look (vE ops V env p ops.size) t [.one .junk]=look (vE ops V env (CQ Ath i).testBit i) t [.one .junk]:=by
   intro t ht;rw [FG];refine AoX _ (fun j hj BW hd=>?_) (fun j _ hm=>hmask j hm);cases hm:(CQ Ath i).testBit j with
   | true=>rfl
   | false=>
    obtain ⟨hne,_,hc⟩:=CH j hj BW hm
    rcases D.apart j hj hne with h | h
    all_goals grind
  have hdst:GV ops i=o.dst:=by simp [GV,ho]
  have E1:UK ops i=o.dst.getD 0:=by grind [UK]
  have EV:ZC C env Ath ops i o.op=none->touches o.op=true->Le (As6 H hp (CQ Ath i).testBit i) (As6 H hp p ops.size)/\∀ id,id / 64=o.dst.getD 0->Ba (As6 H hp p ops.size) id=true->Ba (As6 H hp (CQ Ath i).testBit i) id=true:=by
   intro hna ht;have other:∀ j,j<ops.size->p j=true->(CQ Ath i).testBit j=false->∀ id,Ba (H j) id=true->vis C Ath ops hp i id=false:=by grind [qX]
   refine ⟨fun id hl=>?_,fun id hid hb=>?_⟩;·have De:vis C Ath ops hp i id=true:=seen hdr hall i hi id (qh (AsV hl));grind [AQw]
   ·rw [hlow];rcases (AHf _).1 hb with h | ⟨j,hj,BW,h⟩
    ·grind [AHf]
    ·cases hm:(CQ Ath i).testBit j with
     | true=>grind [AHf]
     | false=>
      have:=other j hj BW hm id h;unfold vis at this;rw [E1,hid] at this;simp at this
  have hsz':(listed.setIfInBounds i true).size=ops.size:=by grind
  have hp'':∀ k,k<ops.size->(listed.setIfInBounds i true).getD k false=ins p i k:=by
   intro k hk;by_cases e:k=i;·subst e;rw [AHg];exact by simp [Array.getD,hsz,hk]
   ·rw [WE e,getD_set_ne false (fun h=>e h.symm)];grind
  have hcl':∀ j,j<ops.size->ins p i j=true->∀ k,(CQ Ath j).testBit k=true->ins p i k=true:=by grind [WE]
  have hc':(List.range ops.size).countP (fun k=> !ins p i k)<=fuel:=by have:=(count_le (p:=fun k=> !p k) (p':=fun k=> !ins p i k) (i:=i) (fun k hk=>by rw [WE hk]) (by simp [hpi]) (by simp [AHg]) ops.size).2 hi;omega
  have next:∀ (at2:At) (AE:Nat->Prop) (a2:Act) (w2:World),St C w0 Ec n (put C (vE ops V env p ops.size) o.dst (V i)) (H i++As6 H hp p ops.size) at2 AE a2 w2->Ch (As6 H hp p ops.size) (H i++As6 H hp p ops.size) at' at2->wpAny P .any ops Q fuel (listed.setIfInBounds i true) a2 w2:=by
   intro at2 AE a2 w2 st2 Ca
   have hh:∀ id,look (As6 H hp (ins p i) ops.size) id .dead=look (H i++As6 H hp p ops.size) id .dead/\Ba (As6 H hp (ins p i) ops.size) id=Ba (H i++As6 H hp p ops.size) id:=fun id=>AoY hpi id _ hi (fun j hj hlt BW hid=>by
    cases hjd:Ba (H j) id with
    | false=>rfl
    | true=>
     exfalso;have hm:(CQ Ath i).testBit j=false:=by
      cases hb:(CQ Ath i).testBit j with
      | false=>rfl
      | true=>have:=Att D.low hb;omega
     obtain ⟨hne,hc,hc2⟩:=CH j hj BW hm
     obtain ⟨oi,hoi,⟨ht,hna⟩,h3,_⟩:=qX hdr hi (hall i hi) hid
     obtain ⟨oj,hoj,_,_,h4⟩:=qX hdr hj (hall j hj) hjd
     have:vis C Ath ops hp i id=false:=by grind
     have hv:vis C Ath ops hp i id=true:=by
      rcases h3 with h3 | h3
      ·unfold vis;rw [h3];simp
      ·exact seen hdr hall i hi id h3
     grind)
   refine ih (ins p i) _ at2 AE a2 w2 hsz' hp'' hcl' hc' (st2.congr (fun id=>(hh id).1) (fun id=>(hh id).2) (fun t=>?_)) ?_;·rw [AoZ hpi t _ hi (fun j hj hne d hd=>D.diff j hj hne d hd),hdst]
   ·intro id hb;obtain ⟨h1,h2⟩:=ch.trans Ca id hb
    grind
  obtain ⟨o',ho',hdo,hst⟩:=hall i hi
  rw [ho] at ho';cases ho';have yes:∀ (j:Nat) (want:Bool) (t:Nat) (b:Bool),o.guard=some (j,want)->GV ops j=some t->V j=[.one (.bool b)]->yielded ops a.tmps j=some b:=by
   intro j want t b hg ht hv;have hjm:=D.grd j want hg;have hji:=Att D.low hjm;have h1:look (vE ops V env p ops.size) t [.one .junk]=[.one (.bool b)]:=by
    rw [qc ht (hmask j hjm) _ (by omega) (fun k hk hne=>by
     obtain ⟨oj,hoj,B1⟩:=ArY hdr (show j<ops.size by omega)
     exact B1.diff k hk hne t ht),hv]
   have h2:=st.env t;rw [h1] at h2;exact AY5 ht h2
  have no:∀ (j:Nat) (want:Bool) (t:Nat),o.guard=some (j,want)->GV ops j=some t->V j=[]->yielded ops a.tmps j=none:=by
   intro j want t hg ht hv;have hjm:=D.grd j want hg;have hji:=Att D.low hjm;have h1:look (vE ops V env p ops.size) t [.one .junk]=[]:=by
    rw [qc ht (hmask j hjm) _ (by omega) (fun k hk hne=>by
     obtain ⟨oj,hoj,B1⟩:=ArY hdr (show j<ops.size by omega)
     exact B1.diff k hk hne t ht),hv]
   have h2:=st.env t;rw [h1] at h2;exact AY6 ht (AY7 h2)
  unfold wpOp;simp only [ho];rcases hst with ⟨hg,hx,_⟩ | ⟨j,want,t,hg,ht,hv,hH,hV⟩
  ·have hw:Region.wanted o (yielded ops a.tmps)=true:=by grind [Region.wanted]
   rw [if_pos hw];left;have CT:∀ x,x ∈ o.op.operands->Bl C (vE ops V env p ops.size) x=Bl C (vE ops V env (CQ Ath i).testBit i) x:=by
    intro x hx;cases x with
    | tmp t=>
     refine EE t ?_;unfold Oper.looksAt;refine List.mem_append_left _ (List.mem_filterMap.2 ⟨.tmp t,by grind,rfl⟩)
    | _=>rfl
   letI:=Classical.propDecidable (∃ v h,v=V i/\h=H i);obtain ⟨v,h',h1,h2⟩:∃ v h',(fun v h=>@ite _ (v=V i/\h=H i) (Classical.propDecidable _) (some r) none) v h'=some r/\∀ K':Val C.El->Hp C->Option γ,CW C P AC call (vE ops V env p ops.size) (As6 H hp p ops.size) (o.dst.getD 0) o.op K' none=K' v h':=by
    cases hna:ZC C env Ath ops i o.op with
    | none=>exact AY8 (K:=fun v h=>@ite _ (v=V i/\h=H i) (Classical.propDecidable _) (some r) none) (r:=r) hcall CT (EV hna) (by grind)
    | some a0=>
     rcases AoS hna with ⟨ty,x,A4,ho2,hrt,rfl⟩ | ⟨t,x,lo,hi',ho2,hk,rfl⟩ | ⟨sr,ds,x,el,A4,ho2,hks,hrt,rfl⟩
     ·have hpk:Bl C (vE ops V env p ops.size) x=Bl C (vE ops V env (CQ Ath i).testBit i) x:=CT x (by grind [Op.operands]);obtain ⟨off,hmk⟩:∃ off,Bl C (vE ops V env (CQ Ath i).testBit i) x=[.one (.ptr A4 off)]:=by
       rcases AoT hdr hall r 9 i hi x A4 hrt with h0 | h0
       ·exact h0
       ·have h1:=hx (fun _ _=>some r);rw [ho2] at h1;simp only [CW,h0] at h1;cases h1
      rw [hmk] at hpk;have hlive:look (As6 H hp (CQ Ath i).testBit i) A4 .dead≠.dead:=by intro hd;have h0:=hx (fun _ _=>some r);rw [ho2] at h0;simp only [CW,hmk,AoR hd] at h0;cases h0
      have hsame:look (As6 H hp p ops.size) A4 .dead=look (As6 H hp (CQ Ath i).testBit i) A4 .dead:=by
       have De:vis C Ath ops hp i A4=true:=seen hdr hall i hi A4 (qh (AsV hlive));rw [hlow];refine AQw _ (fun j hj BW hb=>?_) (fun j _ hm=>hmask j hm);cases hm:(CQ Ath i).testBit j with
       | true=>rfl
       | false=>
        obtain ⟨hne,hc,_⟩:=CH j hj BW hm
        obtain ⟨oj,hoj,_,_,h4⟩:=qX hdr hj (hall j hj) hb
        rcases h4 i o hi hne.symm ho hc (by rw [ho2];rfl) with h5 | ⟨a',h5,h6⟩
        all_goals grind
      refine ⟨V i,H i,by simp,fun K'=>?_⟩;rw [<-hx K',ho2];simp only [CW,hmk,hpk,AoQ hsame]
     ·have e1:=CT x (by grind [Op.operands]);have e2:lo.map (Bl C (vE ops V env p ops.size))=lo.map (Bl C (vE ops V env (CQ Ath i).testBit i)):=by
       cases lo with
       | none=>rfl
       | some q=>grind [Op.operands]
      have e3:hi'.map (Bl C (vE ops V env p ops.size))=hi'.map (Bl C (vE ops V env (CQ Ath i).testBit i)):=by
       cases hi' with
       | none=>rfl
       | some q=>grind [Op.operands]
      refine ⟨V i,H i,by simp,fun K'=>?_⟩;rw [<-hx K',ho2];simp only [CW,e1,e2,e3,hk];grind
     ·have hpk:Bl C (vE ops V env p ops.size) x=Bl C (vE ops V env (CQ Ath i).testBit i) x:=CT x (by grind [Op.operands]);have hmk:Bl C (vE ops V env (CQ Ath i).testBit i) x=[.one (.own A4)]:=by
       rcases AoU hdr hall r 9 i hi x A4 hrt with h0 | h0
       ·exact h0
       ·have h1:=hx (fun _ _=>some r);rw [ho2] at h1;simp only [CW,h0,hks] at h1;grind
      rw [hmk] at hpk;have hlive:look (As6 H hp (CQ Ath i).testBit i) A4 .dead≠.dead:=by intro hd;have h0:=hx (fun _ _=>some r);rw [ho2] at h0;simp only [CW,hmk,hks] at h0;cases hdk:(C.ti ds).kind <;> simp only [hdk,AoW hd] at h0 <;> first | grind | grind
      have hsame:look (As6 H hp p ops.size) A4 .dead=look (As6 H hp (CQ Ath i).testBit i) A4 .dead:=by
       have De:vis C Ath ops hp i A4=true:=seen hdr hall i hi A4 (qh (AsV hlive));rw [hlow];refine AQw _ (fun j hj BW hb=>?_) (fun j _ hm=>hmask j hm);cases hm:(CQ Ath i).testBit j with
       | true=>rfl
       | false=>
        obtain ⟨hne,hc,_⟩:=CH j hj BW hm
        obtain ⟨oj,hoj,_,_,h4⟩:=qX hdr hj (hall j hj) hb
        rcases h4 i o hi hne.symm ho hc (by rw [ho2];rfl) with h5 | ⟨a',h5,h6⟩
        all_goals grind
      refine ⟨V i,H i,by simp,fun K'=>?_⟩;rw [<-hx K',ho2];cases hdk:(C.ti ds).kind <;> simp only [CW,hmk,hpk,hks,hdk,AoV hsame]
   have h3:v=V i/\h'=H i:=by grind
   obtain ⟨rfl,rfl⟩:=h3
   have FJ:=AY9 (K:=fun v h=>@ite _ (v=V i/\h=H i) (Classical.propDecidable _) (some r) none) (r:=r) (o:=o) hC hT hcs st (by grind);refine FJ _ Q (fun val hh v w' hk ha=>?_);have e:val=V i/\hh=H i:=by grind
   obtain ⟨rfl,rfl⟩:=e
   obtain ⟨at2,AE,st2,Ca⟩:=St.step st o.dst (AQx hdo) ha
   grind
  ·have hw:Region.wanted o (yielded ops a.tmps)=false:=by grind [Region.wanted]
   rw [if_neg (by simp [hw])];have st2:=St.skip st o.dst (AQx hdo);grind [Ch.refl]
theorem Aoa (hC:EG C P) (hT:JA C w0 Ec) (hcs:ZE C P AC call) (hcall:AB8 call):AQy C P AC call w0 Ec n:=by
 intro id ops env hp AB Af a w K r Q hdr h st hQ;obtain ⟨V,H,hall,E,hK,hE⟩:=Aob hcall hdr ops.toList 0 [] (fun _=>[]) (fun _=>[]) (by simp) (fun k=>by simp) trivial (fun k hk=>by omega) h
 refine wp_region_any hC.mixed (qg hC hT hcs hcall hdr hall r (AB:=AB) (fun at' AH a' w' st' ch'=>hQ E _ at' AH a' w' hK (st'.congr (fun _=>rfl) (fun _=>rfl) hE) ch') ops.size (fun _=>false) _ AB Af a _ (by simp) (fun k hk=>by simp_all) (fun i _ h=>by cases h) (Nat.le_trans List.countP_le_length (by simp)) ?_ ?_)
 ·have e1:vE ops V env (fun _=>false) ops.size=env:=(AY4 ops.size (DF _) (fun _ _=>rfl))
  have e2:As6 H hp (fun _=>false) ops.size=hp:=(AQv ops.size (DF _) (fun _ _=>rfl))
  rw [e1,e2];exact st.drew
 ·have e2:As6 H hp (fun _=>false) ops.size=hp:=(AQv ops.size (DF _) (fun _ _=>rfl))
  simp_all [Ch.refl]
theorem AoO (hC:EG C P) {k g:Nat} {us rs:List (U C.El)} (h:QS C P k g us=some rs):AB7 C P g us rs:=
 (Aoc hC (fun k ih=>Aod hC k ih) (fun k w0 Ec n hcs hT=>Aoa hC hT hcs (Aoe k)) k).1 g us rs h
end
end Go.Ev
