/- A callee's arguments. -/
import Derived.Test.YtkbbicgglblfiaaGreatDoorSnd26
namespace Go.Ev
set_option linter.unusedVariables false
set_option linter.unusedSimpArgs false
open Go
section
variable {C:Ctx} {P:Program} {hp AF:Hp C} {AB:At} {w:World} {Ai:Nat->Prop} {w0:World} {Avn:Nat->Nat->Prop}
theorem Atk {hp0:Hp C} {at0:At} {ro ro':Nat->Prop} {u:U C.El} {v:Value} {r:List (L C.El)} (ha:U.TF C u=false) (hlen:r.length=(U.cells C u).length) (h:AzR C hp AB w ro u v)
  (hc:∀ (i:Nat) (l':L C.El),r[i]?=some l'->∃ l,(U.cells C u)[i]?=some l/\∀ v,KA C hp AB w ro l v->KA C hp0 at0 w ro' l' v):AzR C hp0 at0 w ro' (U.like C u r) v:=by
 cases u with
 | one l=>
  match r,hlen,hc with
  | [l'],_,hc=>
   obtain ⟨l0,h1,h2⟩:=hc 0 l' rfl
   simp [U.cells] at h1;subst h1;exact h2 v h
 | agg cs=>
  obtain ⟨arr,rfl,h1,h2⟩:=h
  refine ⟨arr,rfl,by rw [h1];exact hlen.symm,fun i l' hl'=>?_⟩;obtain ⟨l,h3,h4⟩:=hc i l' hl'
  obtain ⟨u,h5,h6⟩:=h2 i l h3
  simp_all
 | arr e xs=>cases ha
theorem Acm (m:Mem C w0 Avn hp AB Ai w) {H:Hp C} {Z:List (Nat×Option (Nat×Nat))} (hH:(H.map (·.1)).Nodup) (hZ:(Z.map (·.1)).Nodup) {io:Bool} {u u2:U C.El} {v:Value} {ro':Nat->Prop} (h:AzR C hp AB w (BK C hp AB w) u v) (hc:wu C hp H Z io u u2):AzR C H (FP AB Z) w ro' u2 v:=by
 cases u with
 | one l=>cases u2 with
  | one l2=>exact AKF m hH hZ h hc
  | _=>exact hc.elim
 | agg cs=>cases u2 with
  | agg cs2=>
   obtain ⟨hlen,hc⟩:=hc
   obtain ⟨arr,rfl,h1,h2⟩:=h
   refine ⟨arr,rfl,by omega,fun i l' hl'=>?_⟩;grind [AKF]
  | _=>exact hc.elim
 | arr e xs=>cases u2 <;> exact hc.elim
theorem Atl (hC:EW C P) (m:Mem C w0 Avn hp AB Ai w) {H:Hp C} {Z:List (Nat×Option (Nat×Nat))} (hH:(H.map (·.1)).Nodup) (hZ:(Z.map (·.1)).Nodup) {i:Nat} {u:U C.El} {v2:Val C.El} {v:Value}
  (hK:∀ id,look AF id .dead≠.dead->look hp id .dead=look AF id .dead) (hr1:∀ b,BK C hp AB w b->BK C H (FP AB Z) w b) (hr2:∀ id b off,look AF id .dead≠.dead->AB id=some (b,off)->BK C H (FP AB Z) w b)
  (h:IB C hp AB w (BK C hp AB w) [u] v) (ha:AKH C hp AF H Z i u v2):IB C H (FP AB Z) w (BK C H (FP AB Z) w) v2 v:=by
 have h:AzR C hp AB w (BK C hp AB w) u v:=h;rcases ha with ⟨id,off,cs2,cs,rfl,rfl,h1,h2,h3,_⟩ | ⟨io,u2,rfl,_,h1⟩ | (⟨e,xs,rfl,rfl⟩ | ⟨f,rfl,rfl⟩) | ⟨t,r,h1,h2,rfl⟩
 ·obtain ⟨_,b,o,ha,rfl⟩:=h
  have hz:=AxF (d:=(none:Option (Nat×Nat))) hZ h1;exact ⟨ak h2,b,o+off,by simp_all [FP],rfl⟩
 ·exact Acm m hH hZ h h1
 ·exact h
 ·exact h
 ·obtain ⟨g1,g2⟩:=Atm (hp0:=H) (at0:=FP AB Z) (ro':=BK C H (FP AB Z) w) hC m hK hr1 hr2 _ _ _ (fun e he=>by
   obtain ⟨t',hk⟩:=Aco 9 t e he
   exact (hC.pos e ⟨t',.inl hk⟩).1) h2
  exact Atk h1 g1 h g2
theorem AKD (m:Mem C w0 Avn hp AB Ai w) {ts:List Nat} {ms:List Mode'} {vs:List (Val C.El)} {gs:List (Option (U C.El))} {ids:List (Option (Nat×Nat))} {us:List (U C.El)} {q:Env C×Hp C}
  (hg:give C hp ms ts vs=some (gs,ids)) (hh:hand C AF gs ts vs=some us) (he:enter C 0 ms ts us=some q) (hn:(q.2.map (·.1)).Nodup) {i b off:Nat} (hl:live C q.2 i) (ha:FP AB ((q.2.map (·.1)).zip ids) i=some (b,off)) :
  ∃ p:Nat×Nat,some p ∈ ids/\live C hp p.1/\∃ off',AB p.1=some (b,off'):=by
 obtain ⟨g1,g2,g3⟩:=AKC ts 0 ms vs gs ids us q q.2 ((q.2.map (·.1)).zip ids) hg hh he (fun _ h=>h) (fun _ h=>h)
 have hZ:(((q.2.map (·.1)).zip ids).map (·.1)).Nodup:=by simp_all [List.map_fst_zip]
 have hm:=jT (d:=AxP.dead) rfl (UN hl);obtain ⟨k,hk⟩:=List.mem_iff_getElem?.1 hm
 have hlt:k<ids.length:=by grind
 rcases AUB m hn hZ (jc hk hlt) hm (g2 k i _ hk) with h | ⟨h,_⟩
 ·obtain ⟨h1,off',h2⟩:=h.block ha
  cases hz:look ((q.2.map (·.1)).zip ids) i none with
  | none=>simp_all [FP]
  | some p=>
   have hs:Oj ((q.2.map (·.1)).zip ids) i=p.1:=by simp [Oj,hz]
   rw [hs] at h1 h2;exact ⟨p,(List.of_mem_zip (jT hz (by simp))).2,h1,off',h2⟩
 simp_all
theorem Atn (hT:JX C w0 Avn) (m:Mem C w0 Avn hp AB Ai w) {ts:List Nat} {ms:List Mode'} {vs:List (Val C.El)} {gs:List (Option (U C.El))} {ids:List (Option (Nat×Nat))} {us:List (U C.El)} {q:Env C×Hp C}
  (hg:give C hp ms ts vs=some (gs,ids)) (hh:hand C AF gs ts vs=some us) (he:enter C 0 ms ts us=some q) (hn:(q.2.map (·.1)).Nodup):JX C w (IX C q.2 (FP AB ((q.2.map (·.1)).zip ids))):=by
 refine ⟨fun g i hi=>hT.now m g i hi,fun g hg' o ⟨i,off,hl,ha,_⟩=>?_,fun i hi=>hT.Acp m i hi,fun hne o ⟨i,off,hl,ha,_⟩=>?_⟩;rotate_left
 ·obtain ⟨p,_,h1,off',h2⟩:=AKD m hg hh he hn hl ha
  have hlt:=block_lt_of_cell (hT.AU9 0 (List.length_pos_iff.2 hne));obtain ⟨⟨o',ho'⟩,_⟩:=m.old p.1 _ off' h1 h2 hlt
  exact hT.AVA hne o' ho'
 obtain ⟨p,_,h1,off',h2⟩:=AKD m hg hh he hn hl ha
 have hpos:0<(C.tab g).2.length:=List.length_pos_iff.2 hg';have hlt:=block_lt_of_cell (hT.cell g 0 hpos);obtain ⟨⟨o',ho'⟩,_⟩:=m.old p.1 g off' h1 h2 hlt
 exact hT.free g hg' o' ho'
theorem AUA:∀ (l:List Nat) (id:Nat),look ((l.map fun i=>(i,(AxP.dead:AxP C.El)))++hp) id .dead≠.dead->id ∉ l/\look ((l.map fun i=>(i,(AxP.dead:AxP C.El)))++hp) id .dead=look hp id .dead:=by intro l;induction l<;>grind [Awb,Ax3]
theorem Ato (m:Mem C w0 Avn hp AB Ai w) {ts:List Nat} {ms:List Mode'} {vs:List (Val C.El)} {gs:List (Option (U C.El))} {ids:List (Option (Nat×Nat))} {us:List (U C.El)} {q:Env C×Hp C}
  (hg:give C hp ms ts vs=some (gs,ids)) (hh:hand C (((E5 ids).map fun i=>(i,.dead))++hp) gs ts vs=some us) (he:enter C 0 ms ts us=some q) (hn:(q.2.map (·.1)).Nodup) {id b off:Nat}
  (hl:look (((E5 ids).map fun i=>(i,.dead))++hp) id .dead≠.dead) (ha:AB id=some (b,off)):BK C q.2 (FP AB ((q.2.map (·.1)).zip ids)) w b:=by
 obtain ⟨h1,h2⟩:=AUA (E5 ids) id hl
 have hlive:live C hp id:=Avg (by simp_all);refine ⟨m.lt id b off hlive ha,?_⟩;rintro ⟨i,off',A3,hai⟩;obtain ⟨p,g1,g2,off2,g3⟩:=AKD m hg hh he hn A3 hai
 have:=m.dist id p.1 b off off2 hlive g2 ha g3;simp_all [AKE]
theorem AtW (hC:EW C P) (hT:JX C w0 Avn) (m:Mem C w0 Avn hp AB Ai w) {ts:List Nat} {ms:List Mode'} {vs:List (Val C.El)} {gs:List (Option (U C.El))} {ids:List (Option (Nat×Nat))} {us:List (U C.El)} {q:Env C×Hp C} {args:Array Value}
  (hg:give C hp ms ts vs=some (gs,ids)) (hh:hand C (((E5 ids).map fun i=>(i,.dead))++hp) gs ts vs=some us) (he:enter C 0 ms ts us=some q) (hn:(q.2.map (·.1)).Nodup) (hs:(E5 ids).Nodup)
  (hv:∀ (k:Nat) (x:Val C.El),vs[k]?=some x->IB C hp AB w (BK C hp AB w) x (args.getD k undef)) (hsz:args.size=ts.length) :
  Mem C w (IX C q.2 (FP AB ((q.2.map (·.1)).zip ids))) q.2 (FP AB ((q.2.map (·.1)).zip ids)) (fun _=>False) w/\JX C w (IX C q.2 (FP AB ((q.2.map (·.1)).zip ids)))/\(∀ t,IB C q.2 (FP AB ((q.2.map (·.1)).zip ids)) w (BK C q.2 (FP AB ((q.2.map (·.1)).zip ids)) w) (look q.1 t [.one .junk]) (args.getD t undef)):=by
 obtain ⟨m1,hr1⟩:=Ack hC m hg hh he hn hs
 obtain ⟨g1,g2,g3⟩:=AKC ts 0 ms vs gs ids us q q.2 ((q.2.map (·.1)).zip ids) hg hh he (fun _ h=>h) (fun _ h=>h)
 have hZ:(((q.2.map (·.1)).zip ids).map (·.1)).Nodup:=by simp_all [List.map_fst_zip]
 refine ⟨m1,Atn hT m hg hh he hn,fun t=>?_⟩;rcases Nat.lt_or_ge t ts.length with hlt | hge
 ·obtain ⟨u,h1,h2⟩:=g3 t hlt
  rw [Nat.zero_add] at h2;exact Atl hC m hn hZ (fun id h=>(AUA (E5 ids) id h).2.symm) hr1 (fun id b off h ha=>Ato m hg hh he hn h ha) (hv t _ h1) h2
 ·rw [Acr 0 _ _ _ _ he t (by omega)];trivial
end
end Go.Ev
