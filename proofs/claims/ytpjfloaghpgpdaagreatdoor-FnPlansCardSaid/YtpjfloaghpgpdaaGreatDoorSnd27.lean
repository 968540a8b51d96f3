/- A callee's arguments. -/
import Derived.Test.YtpjfloaghpgpdaaGreatDoorSnd26
namespace Go.Ev
set_option linter.unusedVariables false
set_option linter.unusedSimpArgs false
open Go
section
variable {C:Ctx} {P:Program} {hp hpK:Hp C} {at1:At} {w:World} {frz:Nat→Prop} {w0:World} {Ec:Nat→Nat→Prop}
theorem QV {hp0:Hp C} {at0:At} {ro ro':Nat→Prop} {u:U C.El} {v:Value} {r:List (L C.El)} (ha:U.QC C u=false) (hlen:r.length=(U.cells C u).length) (h:QA C hp at1 w ro u v)
  (hc:∀ (i:Nat) (l':L C.El),r[i]?=some l'→∃ l,(U.cells C u)[i]?=some l∧∀ v,KA C hp at1 w ro l v→KA C hp0 at0 w ro' l' v):QA C hp0 at0 w ro' (U.like C u r) v:=by
 cases u with
 | one l=>
  match r,hlen,hc with
  | [l'],_,hc=>
   obtain ⟨l0,h1,h2⟩:=hc 0 l' rfl
   simp [U.cells] at h1
   subst h1
   exact h2 v h
 | agg cs=>
  obtain ⟨arr,rfl,h1,h2⟩:=h
  refine ⟨arr,rfl,by rw [h1];exact hlen.symm,fun i l' hl'=>?_⟩
  obtain ⟨l,h3,h4⟩:=hc i l' hl'
  obtain ⟨u,h5,h6⟩:=h2 i l h3
  simp_all
 | arr e xs=>cases ha
theorem FM (m:Mem C w0 Ec hp at1 frz w) {H:Hp C} {Z:List (Nat×Option (Nat×Nat))} (hH:(H.map (·.1)).Nodup) (hZ:(Z.map (·.1)).Nodup) {io:Bool} {u u2:U C.El} {v:Value} {ro':Nat→Prop} (h:QA C hp at1 w (AA C hp at1 w) u v) (hc:UIn C hp H Z io u u2):QA C H (zat at1 Z) w ro' u2 v:=by
 cases u with
 | one l=>cases u2 with
  | one l2=>exact DI m hH hZ h hc
  | _=>exact hc.elim
 | agg cs=>cases u2 with
  | agg cs2=>
   obtain ⟨hlen,hc⟩:=hc
   obtain ⟨arr,rfl,h1,h2⟩:=h
   refine ⟨arr,rfl,by omega,fun i l' hl'=>?_⟩
   grind [DI]
  | _=>exact hc.elim
 | arr e xs=>cases u2 <;> exact hc.elim
theorem SV (hC:CtxOk C P) (m:Mem C w0 Ec hp at1 frz w) {H:Hp C} {Z:List (Nat×Option (Nat×Nat))} (hH:(H.map (·.1)).Nodup) (hZ:(Z.map (·.1)).Nodup) {i:Nat} {u:U C.El} {v2:Val C.El} {v:Value}
  (hK:∀ id,look hpK id .dead≠.dead→look hp id .dead=look hpK id .dead) (hr1:∀ b,AA C hp at1 w b→AA C H (zat at1 Z) w b) (hr2:∀ id b off,look hpK id .dead≠.dead→at1 id=some (b,off)→AA C H (zat at1 Z) w b)
  (h:AB C hp at1 w (AA C hp at1 w) [u] v) (ha:JI C hp hpK H Z i u v2):AB C H (zat at1 Z) w (AA C H (zat at1 Z) w) v2 v:=by
 have h:QA C hp at1 w (AA C hp at1 w) u v:=h
 rcases ha with ⟨id,off,cs2,cs,rfl,rfl,h1,h2,h3,_⟩ | ⟨io,u2,rfl,_,h1⟩ | (⟨e,xs,rfl,rfl⟩ | ⟨f,rfl,rfl⟩) | ⟨t,r,h1,h2,rfl⟩
 ·obtain ⟨_,b,o,ha,rfl⟩:=h
  have hz:=OB (d:=(none:Option (Nat×Nat))) hZ h1
  exact ⟨RF h2,b,o+off,by simp_all [zat],rfl⟩
 ·exact FM m hH hZ h h1
 ·exact h
 ·exact h
 ·obtain ⟨g1,g2⟩:=TV (hp0:=H) (at0:=zat at1 Z) (ro':=AA C H (zat at1 Z) w) hC m hK hr1 hr2 _ _ _ (fun e he=>by
   obtain ⟨t',hk⟩:=DN 9 t e he
   exact (hC.pos e ⟨t',.inl hk⟩).1) h2
  exact QV h1 g1 h g2
theorem GK (m:Mem C w0 Ec hp at1 frz w) {ts:List Nat} {ms:List Mode'} {vs:List (Val C.El)} {gs:List (Option (U C.El))} {ids:List (Option (Nat×Nat))} {us:List (U C.El)} {q:Env C×Hp C}
  (hg:give C hp ms ts vs=some (gs,ids)) (hh:hand C hpK gs ts vs=some us) (he:enter C 0 ms ts us=some q) (hn:(q.2.map (·.1)).Nodup) {i b off:Nat} (hl:live C q.2 i) (ha:zat at1 ((q.2.map (·.1)).zip ids) i=some (b,off)) :
  ∃ p:Nat×Nat,some p ∈ ids∧live C hp p.1∧∃ off',at1 p.1=some (b,off'):=by
 obtain ⟨g1,g2,g3⟩:=XH ts 0 ms vs gs ids us q q.2 ((q.2.map (·.1)).zip ids) hg hh he (fun _ h=>h) (fun _ h=>h)
 have hZ:(((q.2.map (·.1)).zip ids).map (·.1)).Nodup:=by
  simp_all [List.map_fst_zip]
 have hm:=TF (d:=JA.dead) rfl (PD hl)
 obtain ⟨k,hk⟩:=List.mem_iff_getElem?.1 hm
 have hlt:k<ids.length:=by grind
 rcases DK m hn hZ (MF hk hlt) hm (g2 k i _ hk) with h | ⟨h,_⟩
 ·obtain ⟨h1,off',h2⟩:=h.block ha
  cases hz:look ((q.2.map (·.1)).zip ids) i none with
  | none=>simp_all [zat]
  | some p=>
   have hs:IC ((q.2.map (·.1)).zip ids) i=p.1:=by simp [IC,hz]
   rw [hs] at h1 h2
   exact ⟨p,(List.of_mem_zip (TF hz (by simp))).2,h1,off',h2⟩
 simp_all
theorem WV (hT:TabOk C w0 Ec) (m:Mem C w0 Ec hp at1 frz w) {ts:List Nat} {ms:List Mode'} {vs:List (Val C.El)} {gs:List (Option (U C.El))} {ids:List (Option (Nat×Nat))} {us:List (U C.El)} {q:Env C×Hp C}
  (hg:give C hp ms ts vs=some (gs,ids)) (hh:hand C hpK gs ts vs=some us) (he:enter C 0 ms ts us=some q) (hn:(q.2.map (·.1)).Nodup):TabOk C w (EcOf C q.2 (zat at1 ((q.2.map (·.1)).zip ids))):=by
 refine ⟨fun g i hi=>hT.now m g i hi,fun g hg' o ⟨i,off,hl,ha,_⟩=>?_,fun i hi=>hT.YX m i hi,fun hne o ⟨i,off,hl,ha,_⟩=>?_⟩
 rotate_left
 ·obtain ⟨p,_,h1,off',h2⟩:=GK m hg hh he hn hl ha
  have hlt:=block_lt_of_cell (hT.cell8 0 (List.length_pos_iff.2 hne))
  obtain ⟨⟨o',ho'⟩,_⟩:=m.old p.1 _ off' h1 h2 hlt
  exact hT.free8 hne o' ho'
 obtain ⟨p,_,h1,off',h2⟩:=GK m hg hh he hn hl ha
 have hpos:0<(C.tab g).2.length:=List.length_pos_iff.2 hg'
 have hlt:=block_lt_of_cell (hT.cell g 0 hpos)
 obtain ⟨⟨o',ho'⟩,_⟩:=m.old p.1 g off' h1 h2 hlt
 exact hT.free g hg' o' ho'
theorem BK:∀ (l:List Nat) (id:Nat),look ((l.map fun i=>(i,(JA.dead:JA C.El)))++hp) id .dead≠.dead→id ∉ l∧look ((l.map fun i=>(i,(JA.dead:JA C.El)))++hp) id .dead=look hp id .dead:=by
 intro l
 induction l<;>grind [WA,YA]
theorem XV (m:Mem C w0 Ec hp at1 frz w) {ts:List Nat} {ms:List Mode'} {vs:List (Val C.El)} {gs:List (Option (U C.El))} {ids:List (Option (Nat×Nat))} {us:List (U C.El)} {q:Env C×Hp C}
  (hg:give C hp ms ts vs=some (gs,ids)) (hh:hand C (((somes ids).map fun i=>(i,.dead))++hp) gs ts vs=some us) (he:enter C 0 ms ts us=some q) (hn:(q.2.map (·.1)).Nodup) {id b off:Nat}
  (hl:look (((somes ids).map fun i=>(i,.dead))++hp) id .dead≠.dead) (ha:at1 id=some (b,off)):AA C q.2 (zat at1 ((q.2.map (·.1)).zip ids)) w b:=by
 obtain ⟨h1,h2⟩:=BK (somes ids) id hl
 have hlive:live C hp id:=ZA (by simp_all)
 refine ⟨m.lt id b off hlive ha,?_⟩
 rintro ⟨i,off',hli,hai⟩
 obtain ⟨p,g1,g2,off2,g3⟩:=GK m hg hh he hn hli hai
 have:=m.dist id p.1 b off off2 hlive g2 ha g3
 simp_all [BI]
theorem MS (hC:CtxOk C P) (hT:TabOk C w0 Ec) (m:Mem C w0 Ec hp at1 frz w) {ts:List Nat} {ms:List Mode'} {vs:List (Val C.El)} {gs:List (Option (U C.El))} {ids:List (Option (Nat×Nat))} {us:List (U C.El)} {q:Env C×Hp C} {args:Array Value}
  (hg:give C hp ms ts vs=some (gs,ids)) (hh:hand C (((somes ids).map fun i=>(i,.dead))++hp) gs ts vs=some us) (he:enter C 0 ms ts us=some q) (hn:(q.2.map (·.1)).Nodup) (hs:(somes ids).Nodup)
  (hv:∀ (k:Nat) (x:Val C.El),vs[k]?=some x→AB C hp at1 w (AA C hp at1 w) x (args.getD k undef)) (hsz:args.size=ts.length) :
  Mem C w (EcOf C q.2 (zat at1 ((q.2.map (·.1)).zip ids))) q.2 (zat at1 ((q.2.map (·.1)).zip ids)) (fun _=>False) w∧TabOk C w (EcOf C q.2 (zat at1 ((q.2.map (·.1)).zip ids)))∧(∀ t,AB C q.2 (zat at1 ((q.2.map (·.1)).zip ids)) w (AA C q.2 (zat at1 ((q.2.map (·.1)).zip ids)) w) (look q.1 t [.one .junk]) (args.getD t undef)):=by
 obtain ⟨m1,hr1⟩:=BM hC m hg hh he hn hs
 obtain ⟨g1,g2,g3⟩:=XH ts 0 ms vs gs ids us q q.2 ((q.2.map (·.1)).zip ids) hg hh he (fun _ h=>h) (fun _ h=>h)
 have hZ:(((q.2.map (·.1)).zip ids).map (·.1)).Nodup:=by
  simp_all [List.map_fst_zip]
 refine ⟨m1,WV hT m hg hh he hn,fun t=>?_⟩
 rcases Nat.lt_or_ge t ts.length with hlt | hge
 ·obtain ⟨u,h1,h2⟩:=g3 t hlt
  rw [Nat.zero_add] at h2
  exact SV hC m hn hZ (fun id h=>(BK (somes ids) id h).2.symm) hr1 (fun id b off h ha=>XV m hg hh he hn h ha) (hv t _ h1) h2
 ·rw [GN 0 _ _ _ _ he t (by omega)]
  trivial
end
end Go.Ev
