/- The caller's memory behind a call. -/
import Derived.Test.YtkbbicgglblfiaaGreatDoorSnd29
namespace Go.Ev
open Go
set_option maxHeartbeats 1000000
section
variable {C:Ctx} {P:Program} {hp AF hpc:Hp C} {AB AG:At} {w w':World} {Ai BW:Nat->Prop} {w0:World} {Avn:Nat->Nat->Prop}
theorem Acj {α:Type} {l r:List (Nat×α)} {i:Nat} {x d:α} (hn:(l.map (·.1)).Nodup) (h:(i,x) ∈ l):look (l++r) i d=x:=by
 induction l with
 | nil=>simp at h
 | cons p l ih=>
  obtain ⟨j,y⟩:=p
  simp only [List.map_cons,List.nodup_cons] at hn;simp only [List.cons_append,look];rcases List.mem_cons.1 h with e | hm
  ·simp_all
  grind [Ea]
theorem AT9 {α:Type} {l r:List (Nat×α)} {i:Nat} {d:α} (h:Bj l i=false):look (l++r) i d=look r i d:=by induction l<;>grind [Bj,look]
theorem AEO {α:Type} {l r:List (Nat×α)} {i:Nat}:Bj (l++r) i=(Bj l i || Bj r i):=by induction l<;>grind [Bj]
theorem AtY (l:List Nat) (id:Nat):look ((l.map fun i=>(i,(AxP.dead:AxP C.El)))++hp) id .dead=if id ∈ l then .dead else look hp id .dead:=by
 by_cases h:look ((l.map fun i=>(i,(AxP.dead:AxP C.El)))++hp) id .dead=.dead
 ·by_cases hm:id ∈ l;·simp_all
  ·rw [if_neg hm];refine AT9 ?_;cases hb:Bj (l.map fun i=>(i,(AxP.dead:AxP C.El))) id with
   | false=>rfl
   | true=>
    obtain ⟨x,hx⟩:=Ayk hb
    grind
 grind [AUA]
theorem vU (ls:List (L C.El)):∀ (cs:List (L C.El)) (off k:Nat),off+ls.length<=cs.length->(setCells C cs off ls)[k]?=if off<=k/\k<off+ls.length then ls[k - off]? else cs[k]?:=by induction ls<;>grind [setCells]
theorem Ata (he:Ext w w') {b o o':Nat} {v:Value} (h:w.cell? ⟨b,o',none⟩=some v):w'.frozen? ⟨b,o,none⟩=w.frozen? ⟨b,o,none⟩:=by
 simp only [World.cell?] at h;split at h
 ·rename_i c e fr hc;obtain ⟨arr',h1,_⟩:=he.shape _ _ _ _ hc
  simp_all [World.frozen?]
 ·cases h
theorem Atb (m:Mem C w0 Avn hp AB Ai w) {ts:List Nat} {ms:List Mode'} {vs:List (Val C.El)} {gs:List (Option (U C.El))} {ids:List (Option (Nat×Nat))} {us:List (U C.El)} {q:Env C×Hp C}
  (hg:give C hp ms ts vs=some (gs,ids)) (hh:hand C AF gs ts vs=some us) (he:enter C 0 ms ts us=some q) (hn:(q.2.map (·.1)).Nodup) :
  q.2.length=ids.length/\∀ i o,(i,o) ∈ q.2->vV C hp q.2 AB (FP AB ((q.2.map (·.1)).zip ids)) w (Oj ((q.2.map (·.1)).zip ids) i) i\/(FP AB ((q.2.map (·.1)).zip ids) i=none/\((∃ e,look q.2 i .dead=.sl e [])\/∃ e,look q.2 i .dead=.io e [])):=by
 obtain ⟨g1,g2,g3⟩:=AKC ts 0 ms vs gs ids us q q.2 ((q.2.map (·.1)).zip ids) hg hh he (fun _ h=>h) (fun _ h=>h)
 have hZ:(((q.2.map (·.1)).zip ids).map (·.1)).Nodup:=by simp_all [List.map_fst_zip]
 refine ⟨g1,fun i o hm=>?_⟩;obtain ⟨k,hk⟩:=List.mem_iff_getElem?.1 hm
 have hlt:k<ids.length:=by grind
 exact AUB m hn hZ (jc hk hlt) hm (g2 k i _ hk)
theorem AEP:∀ {hp:Hp C} {i:Nat} {o:AxP C.El},(i,o) ∈ hp->((∃ cs,o=.var cs)\/∃ e xs,o=.io e xs)->i ∈ PU C hp:=by
 intro hp;induction hp with
 | nil=>simp
 | cons p r ih=>
  obtain ⟨j,o'⟩:=p
  intro i o h ho;rcases List.mem_cons.1 h with e | hm
  ·grind [PU]
  ·have:=ih hm ho;cases o' <;> simp [PU,this]
theorem Atc {l:List (Option (Nat×Nat))} {j o:Nat} (h:some (j,o) ∈ l):j ∈ E5 l:=by
 induction l with
 | nil=>cases h
 | cons x l ih=>
  rcases List.mem_cons.1 h with rfl | h'
  ·exact List.mem_cons_self ..
  ·cases x with
   | none=>exact ih h'
   | some p=>exact List.mem_cons_of_mem _ (ih h')
theorem Atd {mk:(e:Nat)->List (C.El e)->AxP C.El}:∀ (ls:List (L C.El)) (base:Nat) {x:Nat×AxP C.El},x ∈ (into C mk base ls).2->∃ e xs,x.2=mk e xs:=by
 intro ls;induction ls with
 | nil=>intro base x h;cases h
 | cons l ls ih=>
  intro base x h
  cases l <;> first
   | exact ih _ h
   | (rcases List.mem_cons.1 h with rfl | h;all_goals grind)
theorem Ate:∀ (i:Nat) (ms:List Mode') (ts:List Nat) (us:List (U C.El)) (q:Env C×Hp C),enter C i ms ts us=some q->∀ {j:Nat} {cs:List (L C.El)},(j,AxP.var cs) ∈ q.2->j ∈ aj C i ts:=by
 intro i ms ts;induction ts generalizing i ms with
 | nil=>
  grind [enter]
 | cons t ts ih=>
  intro us q h j cs hm;cases us<;>grind [enter,aj,Atd]
theorem AtX (hC:EW C P) (m:Mem C w0 Avn hp AB Ai w) {ts:List Nat} {ms:List Mode'} {vs:List (Val C.El)} {gs:List (Option (U C.El))} {ids:List (Option (Nat×Nat))} {us:List (U C.El)} {qe:Env C×Hp C}
  (hg:give C hp ms ts vs=some (gs,ids)) (hh:hand C AF gs ts vs=some us) (he:enter C 0 ms ts us=some qe) (hn:(qe.2.map (·.1)).Nodup) (hs:(E5 ids).Nodup)
  {us' r1 q1:List (U C.El)} {r2 q2:List (Option (Nat×Nat))} {rts:List Nat} {v:Value}
  (mc:Mem C w (IX C qe.2 (FP AB ((qe.2.map (·.1)).zip ids))) hpc AG BW w') (hv:IB C hpc AG w' (BK C hpc AG w') us' v) (hr:Sv C hpc rts us'=some (r1,r2)) (hq:U7 C hpc 0 ms ts=some (q1,q2)) (D1:(aj C 0 ts++E5 (r2++q2)).Nodup)
  (kp:Keeps (PU C qe.2) (FP AB ((qe.2.map (·.1)).zip ids)) hpc AG) {d:Nat} {h:Hp C×Hp C} (hb:back C hp d 32 ms ts vs q1=some h)
  (hfr:(((AyQ C d 0 r1).2.1++h.2).map (·.1)).Nodup) (hfree:∀ x,x ∈ (AyQ C d 0 r1).2.1++h.2->Bj hp x.1=false) :
  After C w0 Avn hp AB w (AyQ C d 0 r1).1 (h.1++((AyQ C d 0 r1).2.1++(h.2++((E5 ids).map fun i=>(i,.dead))))) v w':=by
 obtain ⟨m0,Bn⟩:=Ack hC m hg hh he hn hs
 have hnd:(E5 (r2++q2)).Nodup:=(List.nodup_append.1 D1).2.1;have HQ:∀ {j:Nat} {ce:List (L C.El)} {o:Nat},(j,AxP.var ce) ∈ qe.2->some (j,o) ∉ r2++q2:=fun h1 h2=>(List.nodup_append.1 D1).2.2 _ (Ate _ _ _ _ _ he h1) _ (Atc h2) rfl
 obtain ⟨hl0,FF⟩:=Atb m hg hh he hn
 generalize Fl:(qe.2.map (·.1)).zip ids=Z0 at *
 generalize D2:FP AB Z0=at0 at *
 have D3:(Z0.map (·.1)).Nodup:=by grind [List.map_fst_zip]
 have CK:∀ {j id off:Nat},(j,some (id,off)) ∈ Z0->at0 j=(AB id).map fun x=>(x.1,x.2+off):=by intro j id off hm;rw [<-D2];grind [FP,AxF]
 obtain ⟨_,HR,_⟩:=AT8 (C:=C) d rts us' r1 r2 0 (AyQ C d 0 r1).2.1 (((AyQ C d 0 r1).2.1.map (·.1)).zip r2) hr (fun _ h=>h) (fun _ h=>h)
 obtain ⟨HS,_⟩:=Acl d ts 0 32 ms vs gs ids us qe q1 q2 h h.2 qe.2 ((h.2.map (·.1)).zip q2) Z0 hg hh he hq hb (fun _ h=>h) (fun _ h=>h) (fun _ h=>h) (fun x hx=>by grind)
 have hzc:(((AyQ C d 0 r1).2.1++h.2).map (·.1)).zip (r2++q2)=((AyQ C d 0 r1).2.1.map (·.1)).zip r2++(h.2.map (·.1)).zip q2:=by grind
 generalize HT:(AyQ C d 0 r1).2.1++h.2=H at *
 generalize Eg:(H.map (·.1)).zip (r2++q2)=Hx at *
 have B4:(Hx.map (·.1)).Nodup:=by grind [List.map_fst_zip]
 obtain ⟨_,_,HU,lv,rv⟩:=AT8 (C:=C) d rts us' r1 r2 0 H Hx hr (fun x hx=>by grind) (fun x hx=>by grind)
 obtain ⟨_,HV,Fm,turn⟩:=Acl d ts 0 32 ms vs gs ids us qe q1 q2 h H qe.2 Hx Z0 hg hh he hq hb (fun x hx=>by grind) (fun x hx=>by grind) (fun _ h=>h) (fun x hx=>by grind)
 have newRow:∀ {i:Nat} {o:AxP C.El},(i,o) ∈ H->∃ id,(i,id) ∈ Hx/\AEQ C hpc H Hx id o:=by grind [List.mem_iff_getElem?,jc]
 have Cs:∀ {i:Nat} {id:Option (Nat×Nat)},(i,id) ∈ Hx->FP AG Hx i=id.bind fun p=>(AG p.1).map fun x=>(x.1,x.2+p.2):=by grind [FP,AxF]
 have GA:(h.1.map (·.1)).Nodup:=Fm.nodup hs;have DS:∀ {x:Nat×AxP C.El},x ∈ h.1->live C hp x.1:=by
  intro x hx;rcases turn x hx with ⟨j,off,cs2,old,BC,ce,_,_,h3,_⟩ | ⟨j,e,xs,ys,_,_,_,_,h3⟩
  all_goals grind [Avg]
 have E4:∀ {i:Nat},Bj hp i=true->Bj H i=false:=by
  intro i hi;cases hbd:Bj H i with
  | false=>rfl
  | true=>
   obtain ⟨x,hx⟩:=Ayk hbd
   grind
 have Fn:(h.1++((AyQ C d 0 r1).2.1++(h.2++((E5 ids).map fun i=>(i,AxP.dead)))))++hp=h.1++(H++(((E5 ids).map fun i=>(i,AxP.dead))++hp)):=by grind
 have Db:∀ {x:Nat×AxP C.El},x ∈ h.1->look (h.1++(H++(((E5 ids).map fun i=>(i,AxP.dead))++hp))) x.1 .dead=x.2:=fun hx=>Acj GA hx
 have HW:∀ {i:Nat},Bj H i=true->Bj h.1 i=false:=by
  intro i hi;cases hbd:Bj h.1 i with
  | false=>rfl
  | true=>
   obtain ⟨x,hx⟩:=Ayk hbd
   grind [vS]
 have Cw:∀ {i:Nat} {o:AxP C.El},(i,o) ∈ H->look (h.1++(H++(((E5 ids).map fun i=>(i,AxP.dead))++hp))) i .dead=o:=by grind [AT9,ak,Acj]
 have lookO:∀ {i:Nat},Bj h.1 i=false->Bj H i=false->look (h.1++(H++(((E5 ids).map fun i=>(i,AxP.dead))++hp))) i .dead=if i ∈ E5 ids then .dead else look hp i .dead:=by grind [AT9,AtY]
 unfold After;rw [Fn];generalize G3:h.1++(H++(((E5 ids).map fun i=>(i,AxP.dead))++hp))=AK at *
 have Dd:∀ {j id e:Nat} {xs ys:List (C.El e)},(∃ t,(C.ti t).kind=.sl e)->(j,some (id,0)) ∈ Z0->(j,AxP.io e ys) ∈ qe.2->look hpc j .dead=.io e xs->xs.length=ys.length:=by
  intro j id e xs ys ht h1 h2 h3;have hlk:look qe.2 j .dead=.io e ys:=AxF hn h2;have hk:=(kp j (AEP h2 (.inr ⟨e,ys,rfl⟩))).2;have o0:=m0.obj j;have oc:=mc.obj j;simp only [OA,hlk] at o0;simp only [OA,h3,hk] at oc;obtain ⟨t,ht⟩:=ht
  have hpos:=(hC.pos e ⟨t,.inl ht⟩).1;cases ha:at0 j with
  | none=>grind
  | some p=>
   obtain ⟨b,off⟩:=p
   have hlt:=m0.lt j b off (Avg (by grind)) ha;have hold:=(mc.old j b off (Avg (by grind)) (by grind) hlt).2;rw [h3] at hold;obtain ⟨_,g2,g3⟩:=hold
   have only:∀ o,IX C qe.2 at0 b o->bQ C off o (.io e ys):=fun o ⟨i',off',hl',ha',ho⟩=>by have:=m0.dist i' j b off' off hl' (Avg (by rw [hlk];simp)) ha' ha;subst this;rw [ha] at ha';grind
   have mine:∀ o,bQ C off o (.io e ys)->IX C qe.2 at0 b o:=fun o ho=>⟨j,off,Avg (by grind),ha,by grind⟩
   grind [bQ,Nat.eq_of_mul_eq_mul_right]
 have st:UA hp AK AB (fun i=>if Bj H i=true then FP AG Hx i else AB i):=by
  refine ⟨fun i hi=>?_,fun i hi=>?_,fun i hi=>by grind⟩;·grind [AEO]
  ·cases hb1:Bj h.1 i with
   | true=>
    obtain ⟨x,hx⟩:=Ayk hb1
    have e1:look AK i .dead=x:=Db hx;rw [e1];rcases turn _ hx with ⟨j,off,cs2,old,BC,ce,g1,g2,g3,g4,_⟩ | ⟨j,e,xs,ys,g0,g1,g2,g3,g4⟩
    ·simp only at g3 g4;rw [g3,g4];exact AUC _ _ _
    ·have hlen:=Dd g0 g1 g2 g3;simp only at g4;rcases g4 with ⟨g4,g5⟩ | ⟨g4,g5⟩ <;> rw [g4,g5] <;> exact ⟨rfl,hlen⟩
   | false=>
    rw [lookO hb1 (E4 hi)];split;·cases look hp i .dead <;> trivial
    grind [FU.refl]
 have hBl:∀ b o,IX C qe.2 at0 b o->∃ j off,j ∈ E5 ids/\live C hp j/\AB j=some (b,off):=by
  intro b o ⟨i,off,hl,ha,_⟩;obtain ⟨p,h1,h2,off',h3⟩:=AKD m hg hh he hn hl (by rw [Fl,D2];exact ha)
  grind [AKE]
 have hE:∀ b o,b<w0.heap.size->IX C qe.2 at0 b o->Avn b o:=fun b o hlt h'=>Atf m (Oj Z0) (fun i hl=>FF i _ (jT (d:=AxP.dead) rfl (UN hl))) hlt h'
 have DE:UA H AK (FP AG Hx) (fun i=>if Bj H i=true then FP AG Hx i else AB i):=by
  refine ⟨fun i hi=>?_,fun i hi=>?_,fun i hi=>by grind⟩;·grind [AEO]
  ·obtain ⟨x,hx⟩:=Ayk hi
   grind [AxF,FU.refl]
 have De:∀ {l l2:L C.El} {u:Value} {ro':Nat->Prop},KA C hpc AG w' (BK C hpc AG w') l u->TD C hpc H Hx false l l2->KA C AK (fun i=>if Bj H i=true then FP AG Hx i else AB i) w' ro' l2 u:=by intro l l2 u ro' h1 h2;exact KA.keep (AKF (ro':=ro') mc hfr B4 h1 h2) DE (fun _ h=>h) (fun _ _=>rfl) (Ext.refl w')
 generalize HJ:(fun i=>if Bj H i=true then FP AG Hx i else AB i:At)=AW at *
 have Cx:∀ {i:Nat},Bj H i=true->AW i=FP AG Hx i:=fun hi=>by grind
 have Dg:∀ {i:Nat},Bj H i=false->AW i=AB i:=fun hi=>by grind
 have FG:∃ f:Nat->Nat,∀ j id off,(j,some (id,off)) ∈ Z0->f id=j:=by
  refine ⟨fun id=>Classical.epsilon fun j=>∃ off,(j,some (id,off)) ∈ Z0,fun j id off hm=>?_⟩;obtain ⟨off',h2⟩:=Classical.epsilon_spec (p:=fun j=>∃ off,(j,some (id,off)) ∈ Z0) ⟨j,off,hm⟩
  grind [zip_inj]
 obtain ⟨C5,Cy⟩:=FG
 have CL:∀ {x:Nat×AxP C.El},x ∈ h.1->∃ j off,(j,some (x.1,off)) ∈ Z0/\C5 x.1=j/\live C hpc j/\(∀ e xs,look hpc j .dead≠.sl e xs)/\AG j=(AB x.1).map fun p=>(p.1,p.2+off):=by
  intro x hx;rcases turn x hx with ⟨j,off,cs2,old,BC,ce,g1,g2,g3,g4,g5,_⟩ | ⟨j,e,xs,ys,g0,g1,g2,g3,g4⟩
  ·exact ⟨j,off,g1,Cy _ _ _ g1,Avg (by grind),fun e xs=>by grind,by rw [(kp j (AEP g2 (.inl ⟨ce,rfl⟩))).2,CK g1]⟩
  ·exact ⟨j,0,g1,Cy _ _ _ g1,Avg (by grind),fun e xs=>by grind,by rw [(kp j (AEP g2 (.inr ⟨e,ys,rfl⟩))).2,CK g1]⟩
 have newC:∀ {i b off:Nat},Bj H i=true->AW i=some (b,off)->∃ j,(i,some (j,0)) ∈ Hx/\Oj Hx i=j/\live C hpc j/\FU (look hpc j .dead) (look AK i .dead)/\AG j=some (b,off):=by
  intro i b off hi ha;obtain ⟨o,ho⟩:=Ayk hi
  obtain ⟨id,h1,h2⟩:=newRow ho
  rw [Cx hi,Cs h1] at ha;have at_:∀ {j:Nat},id=some (j,0)->AG j=some (b,off):=fun e=>by
   rw [e] at ha;simp only [AP,Nat.add_zero] at ha;rename_i j;cases hj:AG j with
   | none=>grind
   | some p=>grind
  rcases h2 with ⟨l,e,xs,h2,rfl⟩ | ⟨j,cs,cs2,rfl,h3,rfl,h4,_⟩
  ·rcases h2 with ⟨j,rfl,rfl,h3⟩ | ⟨rfl,rfl,rfl⟩
   ·have h3:look hpc j .dead=.sl e xs:=h3.elim id (fun h=>by cases h.1);exact ⟨j,h1,by simp [Oj,AxF (d:=(none:Option (Nat×Nat))) B4 h1],Avg (by grind),by grind [FU.refl],at_ rfl⟩
   grind
  ·exact ⟨j,h1,by simp [Oj,AxF (d:=(none:Option (Nat×Nat))) B4 h1],Avg (by grind),by rw [h3,Cw ho];exact h4,at_ rfl⟩
 have E6:∀ {i j:Nat},(i,some (j,0)) ∈ Hx->(∃ e xs,look hpc j .dead=.sl e xs)\/∃ cs,look hpc j .dead=.var cs:=by
  intro i j hz;have hi:i ∈ H.map (·.1):=by rw [<-Eg] at hz;exact (List.of_mem_zip hz).1
  obtain ⟨⟨i',o⟩,ho,hie⟩:=List.mem_map.1 hi
  simp only at hie;subst hie;obtain ⟨id,h1,h2⟩:=newRow ho
  have e1:=AxF (d:=(none:Option (Nat×Nat))) B4 h1;have e2:=AxF (d:=(none:Option (Nat×Nat))) B4 hz;rw [e1] at e2;subst e2;rcases h2 with ⟨l,e,xs,h2,_⟩ | ⟨j',cs,cs2,h2,h3,_⟩
  ·rcases h2 with ⟨j',_,h2,h3⟩ | ⟨_,h2,_⟩
   all_goals grind
  grind
 have Da:∀ {i j:Nat} {x:Nat×AxP C.El},(i,some (j,0)) ∈ Hx->x ∈ h.1->C5 x.1=j->False:=by
  intro i j x hz hx hj;have hm:some (j,0) ∈ r2++q2:=by rw [<-Eg] at hz;exact (List.of_mem_zip hz).2
  rcases turn x hx with ⟨j',off,cs2,old,BC,ce,g1,g2,_⟩ | ⟨j',e,xs,ys,g0,g1,g2,g3,_⟩
  ·grind
  ·rw [Cy _ _ _ g1] at hj;subst hj;rcases E6 hz with ⟨_,_,h4⟩ | ⟨_,h4⟩ <;> rw [g3] at h4 <;> cases h4
 obtain ⟨mN,hro⟩:=Mem.merge (AK:=AK) (AW:=AW) (G:=fun i=>i ∈ E5 ids) (N:=fun i=>Bj H i=true\/Bj h.1 i=true) m mc st hBl hE (fun i=>if Bj H i=true then Oj Hx i else C5 i)
  (fun i hN hl=>by
   have h1:Bj H i=false:=by cases hb:Bj H i with | false=>rfl | true=>exact absurd (.inl hb) hN
   have h2:Bj h.1 i=false:=by cases hb:Bj h.1 i with | false=>rfl | true=>exact absurd (.inr hb) hN
   have h3:=lookO h2 h1;have hne:=UN hl;rw [h3] at hne ⊢;split;·grind
   grind)
  (fun i hN hl b off ha=>by
   cases BS:Bj H i with
   | true=>
    obtain ⟨j,_,h2,h3,_,h5⟩:=newC BS ha
    grind
   | false=>
    have hT:Bj h.1 i=true:=hN.resolve_left (by grind);obtain ⟨x,hx⟩:=Ayk hT
    obtain ⟨j,o1,_,h2,h3,_,h4⟩:=CL hx
    grind)
  (fun i hN hl b off ha hlt=>by
   cases BS:Bj H i with
   | true=>
    obtain ⟨j,_,_,h3,h4,h5⟩:=newC BS ha
    obtain ⟨⟨o,ho⟩,h6⟩:=mc.old j b off h3 h5 (Nat.lt_of_lt_of_le hlt m.frame.ext.size)
    refine ⟨⟨o,hE b o hlt ho⟩,?_⟩;have h7:=h6.TB h4;have h8:=UN hl;revert h7 h8;cases hlo:look AK i .dead with
    | var cs=>intro h7 _ k hk;exact hE b _ hlt (h7 k hk)
    | sl e xs=>intro h7 _ o';exact hE b o' hlt (h7 o')
    | ar e xs=>intro h7 _ k hk;exact hE b _ hlt (h7 k hk)
    | io e xs=>
     exfalso;obtain ⟨o,ho⟩:=Ayk BS
     have h9:=Cw ho;rw [hlo] at h9;obtain ⟨_,_,h10⟩:=newRow ho
     rcases h10 with ⟨_,_,_,_,h10⟩ | ⟨_,_,_,_,_,h10,_⟩ <;> rw [<-h9] at h10 <;> cases h10
    | dead=>simp
   | false=>
    have hT:Bj h.1 i=true:=hN.resolve_left (by grind);obtain ⟨x,hx⟩:=Ayk hT
    have A3:=DS hx;simp only at A3;rw [Dg BS] at ha;obtain ⟨h1,h2⟩:=m.old i b off A3 ha hlt
    exact ⟨h1,h2.TB (st.TB i (vS A3))⟩)
  (fun i j hi hj A3 hlj hai haj hij=>by
   obtain ⟨⟨bi,oi⟩,hai⟩:=Option.isSome_iff_exists.1 hai
   obtain ⟨⟨bj,oj⟩,haj⟩:=Option.isSome_iff_exists.1 haj
   cases hbi:Bj H i with
   | true=>
    obtain ⟨p,g1,g2,g3,_⟩:=newC hbi hai
    cases hbj:Bj H j with
    | true=>
     obtain ⟨p',g4,g5,g6,_⟩:=newC hbj haj
     grind [zip_inj]
    | false=>
     obtain ⟨x,hx⟩:=Ayk (hj.resolve_left (by grind))
     obtain ⟨p',o1,_,g4,_,g5,_⟩:=CL hx
     simp only at g4;simp only [hbi,hbj,if_true,Bool.false_eq_true,if_false,g2] at hij;exact (Da g1 hx hij.symm).elim
   | false=>
    obtain ⟨x,hx⟩:=Ayk (hi.resolve_left (by rw [hbi];simp))
    obtain ⟨p,o1,g1,g2,_,g3,_⟩:=CL hx
    simp only at g1 g2;cases hbj:Bj H j with
    | true=>
     obtain ⟨p',g4,g5,g6,_⟩:=newC hbj haj
     simp only [hbi,hbj,if_true,Bool.false_eq_true,if_false,g5] at hij;exact (Da g4 hx hij).elim
    | false=>
     obtain ⟨x',hx'⟩:=Ayk (hj.resolve_left (by rw [hbj];simp))
     obtain ⟨p',o2,g4,g5,_⟩:=CL hx'
     simp only at g4 g5;simp only [hbi,hbj,Bool.false_eq_true,if_false,g2,g5] at hij;subst hij;have e1:=AxF (d:=(none:Option (Nat×Nat))) D3 g1;have e2:=AxF (d:=(none:Option (Nat×Nat))) D3 g4;rw [e1] at e2;cases e2;rfl)
  (fun hro i hN hl=>by
   cases BS:Bj H i with
   | true=>
    obtain ⟨o,ho⟩:=Ayk BS
    obtain ⟨id,h1,h2⟩:=newRow ho
    have hlk:=Cw ho;have hat:=Cx BS;rw [Cs h1] at hat;unfold OA;rw [hlk,hat];rcases h2 with ⟨l,e,xs,h2,rfl⟩ | ⟨j,cs,cs2,rfl,h3,rfl,h4,h5⟩
    rotate_left
    ·have ob:=mc.obj j;simp only [OA,h3] at ob;obtain ⟨b,off,g1,g2⟩:=ob
     refine ⟨b,off,by simp [g1],fun k l2 hk=>?_⟩;obtain ⟨l0,k1,k2⟩:=h5 k l2 hk
     obtain ⟨k3,u,k4,k5⟩:=g2 k l0 k1
     exact ⟨k3,u,k4,De k5 k2⟩
    rcases h2 with ⟨j,rfl,rfl,h3⟩ | ⟨rfl,rfl,rfl⟩
    ·have h3:look hpc j .dead=.sl e xs:=h3.elim id (fun h=>by cases h.1);have ob:=mc.obj j;simp only [OA,h3] at ob;simp only [AP,Nat.add_zero];cases hj:AG j with
     | none=>simpa [hj] using ob
     | some p=>
      obtain ⟨b,off⟩:=p
      simp only [hj,Option.map_some] at ob ⊢;obtain ⟨g1,cap,arr,fr,g2,g3,g4,g5,g6,g7⟩:=ob
      exact ⟨g1,cap,arr,fr,g2,g3,g4,g5,g6,fun j x k l hx hl'=>by
       obtain ⟨u,g8,g9⟩:=g7 j x k l hx hl'
       exact ⟨u,g8,g9.mono (fun _ h=>.inr h)⟩⟩
    ·rfl
   | false=>
    obtain ⟨x,hx⟩:=Ayk (hN.resolve_left (by rw [BS];simp))
    have A3:=DS hx;simp only at A3;have hlk:look AK i .dead=x:=Db hx;have hat:=Dg BS;have ob:=m.obj i;have hst:=st;unfold OA;rw [hlk,hat];rcases turn _ hx with ⟨j,off,cs2,old,BC,ce,g1,g2,g3,g4,g5,g6,g7,g8,g9⟩ | ⟨j,e,xs,ys,g0,g1,g2,g3,g4⟩
    ·simp only at g1 g3 g4;subst g4;simp only [OA,g3] at ob;obtain ⟨b,o,ha,hc⟩:=ob
     have hk:=(kp j (AEP g2 (.inl ⟨ce,rfl⟩))).2;have h0:at0 j=some (b,o+off):=by rw [CK g1,ha];rfl
     have oc:=mc.obj j;simp only [OA,g5,hk,h0] at oc;obtain ⟨b',o',e1,hcc⟩:=oc
     cases e1;have hlt:=m.lt i b o A3 ha;refine ⟨b,o,ha,fun k l hk'=>?_⟩;rw [vU _ _ _ _ g8] at hk';split at hk'
     ·rename_i hin;obtain ⟨l0,k1,k2⟩:=g9 _ _ hk'
      obtain ⟨k3,u,k4,k5⟩:=hcc (k - off) l0 k1
      rw [show o+off+(k - off)=o+k by omega] at k3 k4;exact ⟨k3,u,k4,De k5 k2⟩
     ·rename_i hout;obtain ⟨k3,u,k4,k5⟩:=hc k l hk'
      have hnot:¬ IX C qe.2 at0 b (o+k):=fun ⟨i',off',hl',ha',ho⟩=>by have hlj:look qe.2 j .dead=.var ce:=AxF hn g2;have:=m0.dist i' j b off' (o+off) hl' (Avg (by rw [hlj];simp)) ha' h0;subst this;rw [h0] at ha';cases ha';rw [hlj] at ho;simp only [bQ] at ho;omega
      refine ⟨by rw [Ata mc.frame.ext k4];exact k3,u,by rw [mc.frame.cell b _ hlt hnot];exact k4,KA.keep k5 st (fun b hb=>(hro b hb).1) (fun b hb=>(hro b hb).2) mc.frame.ext⟩
    ·have hlen:=Dd g0 g1 g2 g3;have hk:=(kp j (AEP g2 (.inr ⟨e,ys,rfl⟩))).2;simp only at g1 g4;have h0:AG j=AB i:=by rw [hk,CK g1];simp
     have oc:=mc.obj j;simp only [OA,g3,h0] at oc;rcases g4 with ⟨g4,g5⟩ | ⟨g4,g5⟩
     ·subst g5;simp only [OA,g4] at ob;cases ha:AB i with
      | none=>simpa [ha] using oc
      | some p=>
       obtain ⟨b,off⟩:=p
       simp only [ha] at ob oc ⊢;obtain ⟨rfl,cap,arr,fr,k2,k3,k4,k5,k6,k7⟩:=ob
       obtain ⟨arr',k8,k9⟩:=mc.frame.ext.shape _ _ _ _ k2
       refine ⟨rfl,cap,arr',fr,k8,by omega,by omega,k5,fun o ho=>?_,fun j x k l hx' hl'=>?_⟩;·have:=k6 o (by rw [<-k9];exact ho);simp only [World.frozen?,k2] at this;simp only [World.frozen?,k8];exact this
       ·obtain ⟨_,u,k10,k11⟩:=oc j x k l hx' hl'
        exact ⟨u,by simpa using k10,k11.mono (fun _ h=>h.elim)⟩
     ·subst g5;cases ha:AB i with
      | none=>simpa [ha] using oc
      | some p=>
       obtain ⟨b,off⟩:=p
       simpa [ha] using oc)
 refine ⟨AW,_,mN,?_,st,hro,mc.frame.ext⟩;have hU:∀ {u u2:U C.El} {x:Value},AzR C hpc AG w' (BK C hpc AG w') u x->(wu C hpc H Hx false u u2\/(∃ e xs,u=.arr e xs/\u2=.arr e xs)\/∃ id i o,u=.one (.ptr id 0)/\u2=.one (.ptr i 0)/\(i,some (id,0)) ∈ Hx/\(i,o) ∈ H)->AzR C AK AW w' (BK C AK AW w') u2 x:=by
  intro u u2 x h1 h2;rcases h2 with h2 | ⟨e,xs,rfl,rfl⟩ | ⟨id,i,o,rfl,rfl,h2,h3⟩
  rotate_left 2
  ·obtain ⟨_,b,off,g1,g2⟩:=(h1:KA C hpc AG w' (BK C hpc AG w') (.ptr id 0) x)
   have hi:Bj H i=true:=ak h3;exact ⟨DE.bound i hi,b,off,by rw [Cx hi,Cs h2];simp [g1],g2⟩
  ·exact AzR.keep (Acm (ro':=BK C AK AW w') mc hfr B4 h1 h2) DE (fun _ h=>h) (fun _ _=>rfl) (Ext.refl w')
  ·exact h1
 generalize (AyQ C d 0 r1).1=vals at lv rv;match us',lv,rv,hv with
 | [u],lv,rv,hv=>
  match vals,lv,rv with
  | [u2],_,rv=>
   obtain ⟨u',h1,h2⟩:=rv 0 u2 rfl
   simp at h1;subst h1;exact hU hv h2
 | [],lv,_,hv=>
  have:vals=[]:=List.length_eq_zero_iff.1 lv;subst this;obtain ⟨arr,h1,h2,_⟩:=hv
  exact ⟨arr,h1,h2,fun i u hu=>by simp at hu⟩
 | u1::u2::us',lv,rv,hv=>
  obtain ⟨arr,h1,h2,h3⟩:=hv
  match vals,lv,rv with
  | v1::v2::vals,lv,rv=>
   refine ⟨arr,h1,by rw [h2];exact lv.symm,fun i u hu=>?_⟩;obtain ⟨u0,h4,h5⟩:=rv i u hu
   obtain ⟨x,h6,h7⟩:=h3 i u0 h4
   exact ⟨x,h6,hU h7 h5⟩
end
end Go.Ev
