/- Memory, as a callee meets it. -/
import Derived.Test.YtkbbicgglblfiaaGreatDoorSnd20
namespace Go.Ev
open Go
section
variable {C:Ctx} {P:Program} {hp hp0:Hp C} {AB at0:At} {w w':World} {Ai:Nat->Prop} {w0:World} {Avn:Nat->Nat->Prop} {n:Nat} {env:Env C} {a:Act}
def bQ (C:Ctx) (off o:Nat):AxP C.El->Prop
 | .var cs=>off<=o/\o<off+cs.length
 | .sl _ _=>True
 | .io e xs=>(off<=o/\o<off+xs.length*(C.ti e).size)\/o=off+xs.length*(C.ti e).size+1
 | .ar e xs=>off<=o/\o<off+xs.length*(C.ti e).size
 | .dead=>False
def IX (C:Ctx) (hp:Hp C) (AB:At) (b o:Nat):Prop:=∃ i off,live C hp i/\AB i=some (b,off)/\bQ C off o (look hp i .dead)
def vV (C:Ctx) (hp hp0:Hp C) (AB at0:At) (w:World) (j i:Nat):Prop:=
 (∃ e xs,look hp j .dead=.sl e xs/\look hp0 i .dead=.sl e xs/\at0 i=AB j/\Axz (C.Aw e).sh=true)\/
 (∃ e xs,(look hp j .dead=.sl e xs\/look hp j .dead=.io e xs)/\look hp0 i .dead=.io e xs/\at0 i=AB j/\Axz (C.Aw e).sh=true)\/
 (∃ cs cs2 b o off,look hp j .dead=.var cs/\look hp0 i .dead=.var cs2/\AB j=some (b,o)/\at0 i=some (b,o+off)/\0<cs2.length/\
  ∀ (k:Nat) (l2:L C.El),cs2[k]?=some l2->∃ l,cs[off+k]?=some l/\∀ v,KA C hp AB w (BK C hp AB w) l v->KA C hp0 at0 w (BK C hp0 at0 w) l2 v)
theorem vV.block {j i:Nat} (h:vV C hp hp0 AB at0 w j i) {b off:Nat} (ha:at0 i=some (b,off)):live C hp j/\∃ off',AB j=some (b,off'):=by
 rcases h with ⟨e,xs,h1,_,h3,_⟩ | ⟨e,xs,h1,_,h3,_⟩ | ⟨cs,cs2,b',o,off',h1,_,h3,h4,_⟩
 all_goals grind [Avg]
theorem Acv {l:L C.El} {v:Value} {R R':Nat->Prop} (h:Rep C w R l v) (hn:∀ e xs,l≠.BG e xs):Rep C w R' l v:=by
 cases h with
 | int=>exact .int _ _
 | bool=>exact .bool _
 | str=>exact .str _
 | none e A c=>grind
 | BG e xs=>grind
theorem Mem.entry (hC:∀ e,Ph C e) (m:Mem C w0 Avn hp AB Ai w) (src:Nat->Nat)
  (h1:∀ i,live C hp0 i->vV C hp hp0 AB at0 w (src i) i\/(at0 i=none/\((∃ e,look hp0 i .dead=.sl e [])\/∃ e,look hp0 i .dead=.io e [])))
  (h2:∀ i j,live C hp0 i->live C hp0 j->(at0 i).isSome=true->(at0 j).isSome=true->src i=src j->i=j) :
  Mem C w (IX C hp0 at0) hp0 at0 (fun _=>False) w/\(∀ b,BK C hp AB w b->BK C hp0 at0 w b):=by
 have blk:∀ i b off,live C hp0 i->at0 i=some (b,off)->live C hp (src i)/\∃ off',AB (src i)=some (b,off'):=by
  intro i b off hl ha;rcases h1 i hl with h | ⟨hn,_⟩
  ·exact h.block ha
  simp_all
 have hwr:∀ b,wr C hp0 at0 b->wr C hp AB b:=fun b ⟨i,off,hl,ha⟩=>by
  obtain ⟨g1,off',g2⟩:=blk i b off hl ha
  exact ⟨src i,off',g1,g2⟩
 have hro:∀ b,BK C hp AB w b->BK C hp0 at0 w b:=fun b hb=>⟨hb.1,fun hw=>hb.2 (hwr b hw)⟩
 have dist:∀ i j b off off',live C hp0 i->live C hp0 j->at0 i=some (b,off)->at0 j=some (b,off')->i=j:=by
  intro i j b off off' hi hj ha hb;obtain ⟨g1,o1,g2⟩:=blk i b off hi ha
  obtain ⟨g3,o2,g4⟩:=blk j b off' hj hb
  exact h2 i j hi hj (by simp_all) (by simp_all) (m.dist _ _ b o1 o2 g1 g3 g2 g4)
 refine ⟨⟨fun i=>?_,dist,fun i b off hl ha=>?_,fun i b off hl ha hb=>?_,fun b hb=>hb.elim,⟨Ext.refl w,fun _ _ _=>rfl,fun _ _ _ _=>rfl⟩⟩,hro⟩
 ·by_cases hl:live C hp0 i
  ·rcases h1 i hl with h | ⟨hn,h⟩
   ·have ho:=m.obj (src i);rcases h with ⟨e,xs,k1,k2,k3,k4⟩ | ⟨e,xs,k1,k2,k3,k4⟩ | ⟨cs,cs2,b,o,off,k1,k2,k3,k4,k5,k6⟩
    ·unfold OA at ho ⊢;rw [k2,k3];rw [k1] at ho;cases ha:AB (src i) with
     | none=>simp_all
     | some p=>
      obtain ⟨b,off⟩:=p
      simp only [ha] at ho ⊢;obtain ⟨r1,cap,arr,fr,r2,r3,r4,r5,r6,r7⟩:=ho
      refine ⟨r1,cap,arr,fr,r2,r3,r4,r5,r6,fun j x k l hx hl'=>?_⟩;obtain ⟨v,r8,r9⟩:=r7 j x k l hx hl'
      exact ⟨v,r8,Acv r9 (AKJ _ _ k4 ((hC e).fit x) l (List.mem_of_getElem? hl'))⟩
    ·unfold OA at ho ⊢;rw [k2,k3];rcases k1 with k1 | k1
     ·rw [k1] at ho;cases ha:AB (src i) with
      | none=>simp_all
      | some p=>
       obtain ⟨b,off⟩:=p
       simp only [ha] at ho ⊢;obtain ⟨rfl,cap,arr,fr,r2,r3,r4,r5,r6,r7⟩:=ho
       intro j x k l hx hl';obtain ⟨v,r8,r9⟩:=r7 j x k l hx hl'
       rw [Nat.zero_add];refine ⟨r6 _ ?_,v,r8,Acv r9 (AKJ _ _ k4 ((hC e).fit x) l (List.mem_of_getElem? hl'))⟩;grind [World.cell?]
     simp_all
    ·unfold OA at ho ⊢;rw [k2];rw [k1] at ho;obtain ⟨b',o',r1,r2⟩:=ho
     grind
   grind [OA]
  grind [OA,Avg]
 ·obtain ⟨g1,o1,g2⟩:=blk i b off hl ha
  exact m.lt _ b o1 g1 g2
 ·have mine:∀ o,bQ C off o (look hp0 i .dead)->IX C hp0 at0 b o:=fun o ho=>⟨i,off,hl,ha,ho⟩
  have only:∀ o,IX C hp0 at0 b o->bQ C off o (look hp0 i .dead):=fun o ⟨i',off',hl',ha',ho⟩=>by grind
  rcases h1 i hl with h | ⟨hn,_⟩
  ·rcases h with ⟨e,xs,k1,k2,k3,k4⟩ | ⟨e,xs,k1,k2,k3,k4⟩ | ⟨cs,cs2,b',o,off',k1,k2,k3,k4,k5,k6⟩
   ·rw [k2] at mine ⊢;exact ⟨⟨0,mine 0 trivial⟩,fun o=>mine o trivial⟩
   ·rw [k2] at mine only ⊢
    exact ⟨⟨_,mine _ (.inr rfl)⟩,fun j hj=>mine _ (.inl ⟨by omega,by omega⟩),(fun hc=>by
     rcases only _ hc with h | h
     all_goals omega),mine _ (.inr rfl)⟩
   ·rw [k2] at mine ⊢;exact ⟨⟨off,mine off ⟨Nat.le_refl _,by omega⟩⟩,fun j hj=>mine _ ⟨by omega,by omega⟩⟩
  simp_all
theorem Atf (m:Mem C w0 Avn hp AB Ai w) (src:Nat->Nat)
  (h1:∀ i,live C hp0 i->vV C hp hp0 AB at0 w (src i) i\/(at0 i=none/\((∃ e,look hp0 i .dead=.sl e [])\/∃ e,look hp0 i .dead=.io e [])))
  {b o:Nat} (hb:b<w0.heap.size) (h:IX C hp0 at0 b o):Avn b o:=by
 obtain ⟨i,off,hl,ha,ho⟩:=h
 rcases h1 i hl with h | ⟨hn,_⟩
 ·rcases h with ⟨e,xs,k1,k2,k3,k4⟩ | ⟨e,xs,k1,k2,k3,k4⟩ | ⟨cs,cs2,b',o',off',k1,k2,k3,k4,k5,k6⟩
  ·have:=(m.old (src i) b off (Avg (by simp_all)) (by simp_all) hb).2;rw [k1] at this;exact this o
  ·rcases k1 with k1 | k1
   ·have:=(m.old (src i) b off (Avg (by simp_all)) (by simp_all) hb).2;rw [k1] at this;exact this o
   ·have:=(m.old (src i) b off (Avg (by simp_all)) (by simp_all) hb).2;rw [k1] at this;rw [k2] at ho;rcases ho with ho | rfl
    ·have:=this.1 (o - off) (by omega);simp_all
    ·exact this.2.2
  ·rw [k4] at ha;cases ha;have:=(m.old (src i) b o' (Avg (by simp_all)) k3 hb).2;rw [k1] at this;rw [k2] at ho;obtain ⟨l,hl',_⟩:=k6 (cs2.length - 1) (cs2[cs2.length - 1]'(by omega)) (List.getElem?_eq_getElem _)
   have hlt:=(List.getElem?_eq_some_iff.1 hl').1;have ho:o'+off'<=o/\o<o'+off'+cs2.length:=ho;have:=this (o - o') (by omega);grind
 simp_all
theorem Mem.merge {hpc AK:Hp C} {AG AW:At} {BW:Nat->Prop} (m:Mem C w0 Avn hp AB Ai w) (mc:Mem C w (IX C hp0 at0) hpc AG BW w') (st:UA hp AK AB AW) {G N:Nat->Prop}
  (hB:∀ b o,IX C hp0 at0 b o->∃ j off,G j/\live C hp j/\AB j=some (b,off)) (hE:∀ b o,b<w0.heap.size->IX C hp0 at0 b o->Avn b o) (src:Nat->Nat)
  (Bs:∀ id,¬ N id->live C AK id->¬ G id/\look AK id .dead=look hp id .dead/\AW id=AB id)
  (B1:∀ id,N id->live C AK id->∀ b off,AW id=some (b,off)->live C hpc (src id)/\∃ off',AG (src id)=some (b,off'))
  (HK:∀ id,N id->live C AK id->∀ b off,AW id=some (b,off)->b<w0.heap.size->(∃ o,Avn b o)/\VR C Avn b off (look AK id .dead))
  (inj:∀ i j,N i->N j->live C AK i->live C AK j->(AW i).isSome=true->(AW j).isSome=true->src i=src j->i=j)
  (ok:(∀ b,BK C hp AB w b->BK C AK AW w' b/\w'.heap[b]?=w.heap[b]?)->∀ id,N id->live C AK id->OA C AK AW w' (fun b=>Ai b\/BW b) id) :
  Mem C w0 Avn AK AW (fun b=>Ai b\/BW b) w'/\(∀ b,BK C hp AB w b->BK C AK AW w' b/\w'.heap[b]?=w.heap[b]?):=by
 have ext:=mc.frame.ext;have hsz:=m.frame.ext.size;have lookA:∀ id,¬ N id->live C AK id->live C hp id:=fun id hn hl=>by grind [Avg,UN]
 have given:∀ id b off,live C hp id->AB id=some (b,off)->(∃ o,IX C hp0 at0 b o)->G id:=fun id b off hl ha ⟨o,ho⟩=>by
  obtain ⟨j,off',g1,g2,g3⟩:=hB b o ho
  have:=m.dist id j b off off' hl g2 ha g3;grind
 have apart:∀ i j b off off',¬ N i->live C AK i->N j->live C AK j->AW i=some (b,off)->AW j=some (b,off')->False:=fun i j b off off' hi A3 hj hlj ha hb=>by
  obtain ⟨g1,g2,g3⟩:=Bs i hi A3
  rw [g3] at ha;have hlt:=m.lt i b off (lookA i hi A3) ha;obtain ⟨k1,o',k2⟩:=B1 j hj hlj b off' hb
  exact g1 (given i b off (lookA i hi A3) ha (mc.old _ b o' k1 k2 hlt).1)
 refine Mem.gen (T:=fun b=>∃ o,IX C hp0 at0 b o) m st ext (fun b ⟨o,ho⟩=>?_) (fun b hb hT=>mc.frame.keep b hb (fun o ho=>hT ⟨o,ho⟩)) (fun b ⟨i,off,hl,ha⟩=>?_) (fun b hb=>.inl hb) (fun b hb=>?_) (fun hro hfk id=>?_) (fun i j b off off' hi hj ha hb=>?_) (fun i b off hl ha=>?_) (fun i b off hl ha hb=>?_) (fun b o ⟨o',ho⟩ hb Av=>?_)
 ·obtain ⟨j,off,g1,g2,g3⟩:=hB b o ho
  exact ⟨j,off,g2,g3⟩
 ·by_cases hN:N i
  ·obtain ⟨k1,o',k2⟩:=B1 i hN hl b off ha
   rcases Nat.lt_or_ge b w.heap.size with hlt | hge
   ·right;obtain ⟨⟨o,ho⟩,_⟩:=mc.old _ b o' k1 k2 hlt
    obtain ⟨j,off',g1,g2,g3⟩:=hB b o ho
    exact ⟨j,off',g2,g3⟩
   omega
  ·obtain ⟨g1,g2,g3⟩:=Bs i hN hl
   exact .inr ⟨i,off,lookA i hN hl,by simp_all⟩
 ·rcases hb with hb | hb
  ·simp_all
  ·right;obtain ⟨g1,g2,g3⟩:=mc.Ai b hb
   refine ⟨g1,?_,fun hlt=>?_⟩
   ·rintro ⟨i,off,hl,ha⟩;by_cases hN:N i
    ·obtain ⟨k1,o',k2⟩:=B1 i hN hl b off ha
     exact g2 ⟨_,o',k1,k2⟩
    ·obtain ⟨k1,k2,k3⟩:=Bs i hN hl
     rw [k3] at ha;have A3:=lookA i hN hl;exact k1 (given i b off A3 ha (g3 (m.lt i b off A3 ha)))
   grind
 ·grind [live,OA]
 ·by_cases hN:N i <;> by_cases hN':N j
  ·obtain ⟨k1,o1,k2⟩:=B1 i hN hi b off ha
   obtain ⟨k3,o2,k4⟩:=B1 j hN' hj b off' hb
   exact inj i j hN hN' hi hj (by grind) (by grind) (mc.dist _ _ b o1 o2 k1 k3 k2 k4)
  ·grind
  ·grind
  ·obtain ⟨_,_,g3⟩:=Bs i hN hi
   obtain ⟨_,_,g6⟩:=Bs j hN' hj
   exact m.dist i j b off off' (lookA i hN hi) (lookA j hN' hj) (by grind) (by grind)
 ·by_cases hN:N i
  ·obtain ⟨k1,o1,k2⟩:=B1 i hN hl b off ha
   exact mc.lt _ b o1 k1 k2
  ·obtain ⟨_,_,g3⟩:=Bs i hN hl
   exact Nat.lt_of_lt_of_le (m.lt i b off (lookA i hN hl) (by simp_all)) ext.size
 ·by_cases hN:N i;·grind
  ·obtain ⟨_,g2,g3⟩:=Bs i hN hl
   rw [g2];exact m.old i b off (lookA i hN hl) (by simp_all) hb
 ·exact mc.frame.cell b o (by omega) (fun h=>Av (hE b o hb h))
end
end Go.Ev
