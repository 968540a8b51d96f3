/- What the evaluator tells of stores is what the machine does. -/
import Derived.Test.YtkbbicgglblfiaaGreatDoorSnd15
namespace Go.Ev
set_option linter.unusedVariables false
set_option linter.unusedSimpArgs false
open Go
section
variable {C:Ctx} {P:Program} {hp:Hp C} {AB:At} {w w':World} {Ai:Nat->Prop} {w0:World} {Avn:Nat->Nat->Prop} {n:Nat} {env:Env C} {a:Act}
variable {γ:Type} {K:Val C.El->Hp C->Option γ} {r:γ} {o:Oper} {AC:Nat->Nat} {call:Nat->List (U C.El)->(List (U C.El)->Option γ)->Option γ}
theorem Aua:∀ {ls:List (L C.El)},UR C ls=true->∀ l ∈ ls,YP C l=false:=by intro ls;induction ls<;>grind [UR]
theorem Goes.one {ro:Nat->Prop} {ls:List (L C.El)} {vs:List Value} (h:Goes (KA C hp AB w ro) ls vs) (hj:∀ l ∈ ls,YP C l=false):∀ v ∈ vs,v.oneCell'=true:=by
 intro v hv;obtain ⟨k,hk,rfl⟩:=List.mem_iff_getElem.1 hv
 have hk':k<ls.length:=by rw [<-h.1];exact hk
 obtain ⟨u,h1,h2⟩:=h.2 k _ (List.getElem?_eq_getElem hk')
 grind [KA.one]
theorem AUJ (hC:EW C P) {ro:Nat->Prop} {t:Nat} {u:U C.El} {v:Value} {ls:List (L C.El)} (hu:AzR C hp AB w ro u v) (h:YQ C t u=some ls) :
  Goes (KA C hp AB w ro) ls v.cells.toList/\ls.length=(C.ti t).size/\(C.ti t).kind≠.other/\(∀ x ∈ v.cells.toList,x.oneCell'=true)/\ls=U.cells C u:=by
 unfold YQ at h;have one:∀ {l:L C.El},u=.one l->YP C l=false->ls=[l]->(C.ti t).kind≠.other->(C.ti t).size=1->Goes (KA C hp AB w ro) ls v.cells.toList/\ls.length=(C.ti t).size/\(C.ti t).kind≠.other/\(∀ x ∈ v.cells.toList,x.oneCell'=true)/\ls=U.cells C u:=by intro l Cp hj hls hk hs;subst Cp;subst hls;have hg:=AzR.cells hu rfl (by grind [U.cells,UR]);grind [Goes.one,U.cells]
 cases hk:(C.ti t).kind with
 | arr _ _=>simp_all
 | other=>simp_all
 | st fs=>
  simp only [hk] at h;split at h
  ·rename_i cs;split at h;·rename_i h1 h2;cases h;have hg:=AzR.cells hu rfl h2;exact ⟨hg,Ea h1,by simp,Goes.one hg (Aua h2),rfl⟩
   ·cases h
  ·cases h
 | _=>
  simp only [hk] at h;have h1:=(hC.ty t (by simp_all)).one;grind
theorem AKO (hC:EW C P) {t b o':Nat} {v:Value} (hk:(C.ti t).kind≠.other) (hs:v.cells.size=(C.ti t).size) (h1:∀ x ∈ v.cells.toList,x.oneCell'=true)
  (hc:∀ j,j<v.cells.toList.length->(w.cell? ⟨b,o'+j,none⟩).isSome=true) (hf:∀ j,j<v.cells.toList.length->w.frozen? ⟨b,o'+j,none⟩=false) :
  (Instr.storeAt t (.pointer (some ⟨b,o',none⟩)) v).run P w=.ok () (w.setCells b o' v.cells.toList):=by
 have:=run_storeCells_cells (P:=P) b o' v.cells.toList 0 w (by omega) (by omega) h1;rw [Nat.add_zero] at this;simp [Instr.storeAt,Instr.sureAddr,storeVar,AKP hC hk,hs,this]
theorem Acy {b o' off:Nat} {vs us:List Value} (hr:w.rangeAt b o' vs) (hle:off+us.length<=vs.length):(w.setCells b (o'+off) us).rangeAt b o' (TG vs off us):=by
 intro j v hv;rw [Acz _ _ _ _ hle] at hv;have hc:∀ k,k<us.length->(w.cell? ⟨b,o'+off+k,none⟩).isSome=true:=by intro k hk;have:=hr (off+k) _ (List.getElem?_eq_getElem (by omega));grind
 split at hv;·grind [World.cell?_setCells_in]
 ·rename_i hj;rw [World.cell?_setCells_out b us _ w _ (fun _ _=>by grind)];exact hr j v hv
theorem CU:∀ (ls:List (L C.El)) (dl:Hp C) (q:List (L C.El)×Hp C),freeze C hp dl ls=some q->∀ id,look (q.2++hp) id .dead=.dead\/look (q.2++hp) id .dead=look (dl++hp) id .dead:=by
 intro ls;induction ls with
 | nil=>grind [freeze]
 | cons l ls ih=>
  intro dl q h id;simp only [freeze] at h;split at h
  ·rename_i id';split at h;·split at h;all_goals grind [Awb,Ax3]
   ·cases h
  all_goals first
   | (split at h;all_goals grind)
   | cases h
theorem Aub:∀ (ls:List (L C.El)) (dl:Hp C) (q:List (L C.El)×Hp C),freeze C hp dl ls=some q->∀ id,Bj (dl++hp) id=true->Bj (q.2++hp) id=true:=by
 intro ls;induction ls with
 | nil=>simp [freeze]
 | cons l ls ih=>
  intro dl q h id hb;simp only [freeze] at h;split at h
  ·split at h
   ·split at h;·rename_i q' hq;cases h;exact ih _ _ hq id (VQ _ _ hb)
    ·cases h
   ·cases h
  all_goals grind
theorem Ac0 {e:Nat} (hC:Ph C e) {R:Nat->Prop} {xs:List (C.El e)} {b o0 i off:Nat} {us:List Value} {y:C.El e}
  (hc:∀ (j:Nat) (x:C.El e) (k:Nat) (l:L C.El),xs[j]?=some x->((C.Aw e).enc x)[k]?=some l->∃ v,w.cell? ⟨b,o0+(j*(C.ti e).size+k),none⟩=some v/\Rep C w R l v) (hi:i<xs.length) (hle:off+us.length<=(C.ti e).size)
  (hfk:∀ c,R c->w'.heap[c]?=w.heap[c]?)
  (hy:∀ olds:List Value,olds.length=(C.ti e).size->w.rangeAt b (o0+i*(C.ti e).size) olds->Goes (Rep C w R) ((C.Aw e).enc (xs.getD i (C.Aw e).z)) olds->Goes (Rep C w R) ((C.Aw e).enc y) (TG olds off us))
  (hw:w'=w.setCells b (o0+i*(C.ti e).size+off) us) :
  (∀ j,j<us.length->(w.cell? ⟨b,o0+i*(C.ti e).size+off+j,none⟩).isSome=true)/\
  ∀ (j:Nat) (x:C.El e) (k:Nat) (l:L C.El),(xs.set i y)[j]?=some x->((C.Aw e).enc x)[k]?=some l->∃ v,w'.cell? ⟨b,o0+(j*(C.ti e).size+k),none⟩=some v/\Rep C w' R l v:=by
 have hg:xs[i]?=some (xs.getD i (C.Aw e).z):=by simp_all
 generalize xs.getD i (C.Aw e).z=x0 at hg hy;have hlist:∃ olds:List Value,olds.length=(C.ti e).size/\w.rangeAt b (o0+i*(C.ti e).size) olds/\Goes (Rep C w R) ((C.Aw e).enc x0) olds:=by
  obtain ⟨olds,h1,h2,h3⟩:=AKQ (w:=w) (xs:=[x0]) (b:=b) (o:=o0+i*(C.ti e).size) hC (fun j x k l hx hl=>by
   cases j with
   | zero=>
    simp at hx;subst hx;have:=hc i _ k l hg hl;simpa [Nat.add_assoc] using this
   | succ j=>simp at hx)
  refine ⟨olds,by simp_all,h2,⟨by rw [hC.len];simp_all,fun k l hl=>?_⟩⟩;obtain ⟨u,h4,h5⟩:=h3 0 x0 k l rfl hl
  simp_all
 obtain ⟨olds,h1,h2,h3⟩:=hlist
 have h4:=hy olds h1 h2 h3;have h5:=Acy (off:=off) (us:=us) h2 (by omega);have hcs:∀ j,j<us.length->(w.cell? ⟨b,o0+i*(C.ti e).size+off+j,none⟩).isSome=true:=by intro j hj;have:=h2 (off+j) _ (List.getElem?_eq_getElem (by omega));grind
 refine ⟨hcs,fun j x k l hx hl=>?_⟩;have hk:k<(C.ti e).size:=by rw [<-hC.len x];grind
 by_cases e1:i=j
 ·subst e1;rw [List.getElem?_set_self hi] at hx;cases hx;obtain ⟨v,h6,h7⟩:=h4.2 k l hl
  exact ⟨v,by rw [hw,<-Nat.add_assoc];exact h5 k v h6,h7.keep (fun _ h=>h) hfk⟩
 ·rw [List.getElem?_set_ne e1] at hx;obtain ⟨v,h6,h7⟩:=hc j x k l hx hl
  refine ⟨v,?_,h7.keep (fun _ h=>h) hfk⟩;rw [hw,World.cell?_setCells_out b us _ w _ (fun _ _=>?_)];·exact h6
  ·simp only;rcases Nat.lt_or_gt_of_ne e1 with hlt | hgt
   ·have:=Nat.mul_le_mul_right (C.ti e).size hlt;grind
   ·have:=Nat.mul_le_mul_right (C.ti e).size hgt;grind
theorem AEV {t:Nat} {x y:Operand} (ho:o.op=.store t x y) (h:(Instr.storeAt t (a.eval x) (a.eval y)).run P w=.ok () w'):(execOp a.eval o).run P w=.ok .skip w':=by simp_all [execOp]
theorem Auc (hC:EW C P) (st:St C w0 Avn n env hp AB Ai a w) (t:TypeId) (x y:Operand) (ho:o.op=.store t x y) {id off:Nat} {u:U C.El} {cs ls:List (L C.El)} (hx:CB C env x=[.one (.ptr id off)]) (hy:CB C env y=[u]) (hl:look hp id .dead=.var cs)
  (hls:YQ C t u=some ls) (hle:off+ls.length<=cs.length) (h:K [.one .junk] [(id,.var (setCells C cs off ls))]=some r):Sound C P w0 Avn hp AB a w o K r:=by
 have hxr:KA C hp AB w (BK C hp AB w) (.ptr id off) (a.eval x):=by have:=Awr st x;rw [hx] at this;exact this
 have Bi:AzR C hp AB w (BK C hp AB w) u (a.eval y):=by have:=Awr st y;rw [hy] at this;exact this
 obtain ⟨g1,g2,g3,g4,g5⟩:=AUJ hC Bi hls
 obtain ⟨hbd,b,o',ha,hv⟩:=hxr
 have hob:=st.mem.obj id;simp only [OA,hl] at hob;obtain ⟨b',o'',ha',hc⟩:=hob
 rw [ha] at ha';cases ha';have hlive:live C hp id:=by simp_all [live]
 obtain ⟨vs,v1,v2,v3⟩:=Ac1 (cs:=cs) (fun j l hj=>(hc j l hj).2) 0 cs.length (by omega)
 have hus:(a.eval y).cells.toList.length=ls.length:=g1.1;have hcs:∀ j,j<(a.eval y).cells.toList.length->(w.cell? ⟨b,o'+off+j,none⟩).isSome=true:=by
  intro j hj;obtain ⟨_,v,h1,_⟩:=hc (off+j) _ (List.getElem?_eq_getElem (by omega))
  grind
 have hfr:∀ j,j<(a.eval y).cells.toList.length->w.frozen? ⟨b,o'+off+j,none⟩=false:=by intro j hj;have:=(hc (off+j) _ (List.getElem?_eq_getElem (by omega))).1;grind
 have hrun:=AKO (P:=P) (w:=w) (t:=t) (b:=b) (o':=o'+off) (v:=a.eval y) hC g3 (by grind) g4 hcs hfr;obtain ⟨f1,f2,f3,f4,f5,f6⟩:=YR b (a.eval y).cells.toList (o'+off) w
 have hext:=bC b (a.eval y).cells.toList (o'+off) w;have hset:=Acy (off:=off) (us:=(a.eval y).cells.toList) v2 (by omega);rw [Nat.add_zero] at hset
 have hgoes:Goes (KA C hp AB w (BK C hp AB w)) (setCells C cs off ls) (TG vs off (a.eval y).cells.toList):=Goes.sets g1 ⟨v1,fun j l hj=>by
  grind⟩ off
 obtain ⟨m1,m2,m3⟩:=Mem.set (w':=w.setCells b (o'+off) (a.eval y).cells.toList) st.mem id hbd (.var (setCells C cs off ls)) (by rw [hl];exact AUC _ _ _) hlive (fun k hk=>f5 k (fun e=>hk o' (by grind))) hext
  (fun b'' o'' CM A6 hlt Av=>by
   rw [ha] at A6;cases A6;have hrg:=(st.mem.old id b o' hlive ha hlt).2;rw [hl] at hrg;refine World.cell?_setCells_out b _ _ w _ (fun _ _=>?_);simp only;rcases Nat.lt_or_ge o'' (o'+off) with h1 | h1
   ·omega
   ·rcases Nat.lt_or_ge o'' (o'+off+(a.eval y).cells.toList.length) with h2 | h2
    ·exact absurd (by have:=hrg (o'' - o') (by omega);grind) Av
    omega)
  (fun hro hst=>by
   unfold OA;rw [Awb];refine ⟨b,o',ha,fun j l hj=>?_⟩;obtain ⟨v,h1,h2⟩:=hgoes.2 j l hj
   have hjl:j<cs.length:=by grind [AUC]
   refine ⟨by grind [World.frozen?_setCells],v,hset j v h1,KA.keep h2 hst hro (fun c hc'=>f5 c (fun e=>hc'.2 ⟨id,o',hlive,by grind⟩)) hext⟩)
 intro next Q hn
 exact wp_skip (AEV ho (by grind)) (hn _ _ undef _ h ⟨_,_,m1,trivial,m2,m3,hext⟩)
theorem Aud {R:Nat->Prop} {ss:List Sh}:∀ {ls:List (L C.El)} {vs:List Value},Axz ss=true->fitAll ss ls=true->Goes (KA C hp AB w R) ls vs->∀ R',Goes (Rep C w R') ls vs:=by
 intro ls vs hp' hf hg R';have hpl:=AKJ ss ls hp' hf;have hfit:∀ (ss:List Sh) (ls:List (L C.El)),fitAll ss ls=true->∀ l ∈ ls,(match l with | .int _ _=>True | .bool _=>True | .str _=>True | .BG _ _=>True | _=>False):=by
  intro ss;induction ss with
  | nil=>grind [fitAll]
  | cons s ss ih=>intro ls h1 l h2;cases ls with
   | nil=>simp at h2
   | cons l' ls=>
    simp only [fitAll] at h1;split at h1
    ·rename_i hf;rcases List.mem_cons.1 h2 with rfl | h2
     ·cases s <;> cases l <;> simp_all [L.fits]
     grind
    simp_all
 refine ⟨hg.1,fun i l hl=>?_⟩;obtain ⟨u,h1,h2⟩:=hg.2 i l hl
 have hm:=List.mem_of_getElem? hl;have h3:=hfit _ _ hf l hm;have h4:=hpl l hm;refine ⟨u,h1,?_⟩;cases l with
 | int k n=>have h2:u=_:=h2;subst h2;exact .int _ _
 | bool b=>have h2:u=_:=h2;subst h2;exact .bool _
 | str s=>have h2:u=_:=h2;subst h2;exact .str _
 | BG e xs=>grind
 | _=>exact h3.elim
theorem Aue (hC:EW C P) (st:St C w0 Avn n env hp AB Ai a w) (t:TypeId) (x y:Operand) (ho:o.op=.store t x y) {id i off e:Nat} {u:U C.El} {xs:List (C.El e)} {ls:List (L C.El)} {q:List (L C.El)×Hp C} (hx:CB C env x=[.one (.Ji id i off)]) (hy:CB C env y=[u]) (hl:look hp id .dead=.sl e xs)
  (hls:YQ C t u=some ls) (hq:freeze C hp [] ls=some q) (hle:off+ls.length<=(C.ti e).size) (hfit:fitAll (C.Aw e).sh (KN C (C.Aw e).sh (setCells C ((C.Aw e).enc (xs.getD i (C.Aw e).z)) off q.1))=true) (hd:AT6 C (look (q.2++hp) id .dead)=false)
  (h:K [.one .junk] ((id,.sl e (xs.set i ((C.Aw e).dec (KN C (C.Aw e).sh (setCells C ((C.Aw e).enc (xs.getD i (C.Aw e).z)) off q.1)))))::q.2)=some r):Sound C P w0 Avn hp AB a w o K r:=by
 have hxr:KA C hp AB w (BK C hp AB w) (.Ji id i off) (a.eval x):=by have:=Awr st x;rw [hx] at this;exact this
 have Bi:AzR C hp AB w (BK C hp AB w) u (a.eval y):=by have:=Awr st y;rw [hy] at this;exact this
 obtain ⟨g1,g2,g3,g4,g5⟩:=AUJ hC Bi hls
 obtain ⟨_,hbd,hz⟩:=hxr
 simp only [hl] at hz;obtain ⟨b,o',ha,hi,hv⟩:=hz
 obtain ⟨AE,k1,k2,k3,k4,k5⟩:=Ac2 (hp:=hp) _ [] _ _ _ _ st.mem g1 hq
 have hl2:look (q.2++hp) id .dead=.sl e xs:=by
  rcases CU _ _ _ hq id with h1 | h1
  ·rw [h1] at hd;cases hd
  grind
 have hbd2:=Aub _ _ _ hq id hbd;have hlive:live C (q.2++hp) id:=by grind [live]
 have hob:=k1.obj id;simp only [OA,hl2,ha] at hob;obtain ⟨rfl,cap,arr,fr,c1,c2,c3,c4,c5,c6⟩:=hob
 have hus:(a.eval y).cells.toList.length=ls.length:=g1.1;have henc:=(hC.Aw e).dec _ hfit;have hsub:i*(C.ti e).size+(off+ls.length)<=arr.size:=by rw [c2];have h1:(i+1)*(C.ti e).size<=cap*(C.ti e).size:=Nat.mul_le_mul_right _ (by omega);grind
 obtain ⟨f1,f2,f3,f4,f5,f6⟩:=YR b (a.eval y).cells.toList (0+i*(C.ti e).size+off) w
 obtain ⟨A9,f7,f8⟩:=f6 _ _ _ c1
 have hext:=bC b (a.eval y).cells.toList (0+i*(C.ti e).size+off) w;have hnb:∀ c,AE c->c≠b:=fun c hc e=>(k1.Ai c hc).2.1 ⟨id,0,hlive,by grind⟩
 obtain ⟨e1,e2⟩:=Ac0 (w':=w.setCells b (0+i*(C.ti e).size+off) (a.eval y).cells.toList) (R:=AE) (o0:=0) (i:=i) (off:=off) (us:=(a.eval y).cells.toList) (y:=(C.Aw e).dec (KN C (C.Aw e).sh (setCells C ((C.Aw e).enc (xs.getD i (C.Aw e).z)) off q.1))) (hC.Aw e)
  (fun j x k l h1 h2=>by grind) hi (by omega) (fun c hc=>f5 c (hnb c hc))
  (fun olds _ _ hg=>by
   rw [henc];exact Ac3 _ _ _ (Goes.sets k5 (hg.imp (fun _ _ h=>.inr h)) off) hfit) rfl
 have HA:0+i*(C.ti e).size+off=0+(i*(C.ti e).size+off):=by omega
 have hrun:=AKO (P:=P) (w:=w) (t:=t) (b:=b) (o':=0+i*(C.ti e).size+off) (v:=a.eval y) hC g3 (by grind) g4 e1 (fun j hj=>c5 _ (by omega))
 obtain ⟨m1,m2,m3⟩:=Mem.set (w':=w.setCells b (0+i*(C.ti e).size+off) (a.eval y).cells.toList) k1 id hbd2 (.sl e (xs.set i ((C.Aw e).dec (KN C (C.Aw e).sh (setCells C ((C.Aw e).enc (xs.getD i (C.Aw e).z)) off q.1))))) (by rw [hl2];exact ⟨rfl,by simp⟩) hlive (fun k hk=>f5 k (fun e=>hk 0 (by grind))) hext
  (fun b'' o'' CM A6 hlt Av=>by
   rw [ha] at A6;cases A6;have hrg:=(k1.old id b 0 hlive ha hlt).2;rw [hl2] at hrg;exact absurd (hrg o'') Av)
  (fun hro hst=>by
   unfold OA;rw [Awb,ha];refine ⟨rfl,cap,A9,fr,f7,by omega,by grind,c4,fun j hj=>by grind [World.frozen?_setCells],fun j x k l hx hl'=>?_⟩;grind)
 intro next Q hn
 have hA:After C w0 Avn hp AB w [.one .junk] ([(id,.sl e (xs.set i ((C.Aw e).dec (KN C (C.Aw e).sh (setCells C ((C.Aw e).enc (xs.getD i (C.Aw e).z)) off q.1)))))]++q.2) undef (w.setCells b (0+i*(C.ti e).size+off) (a.eval y).cells.toList):=
  After.then k1 k2 (fun b hb=>⟨k3 b hb,rfl⟩) (Ext.refl w) ⟨_,_,m1,trivial,m2,m3,hext⟩
 exact wp_skip (AEV ho (by grind)) (hn _ _ undef _ h hA)
theorem Ac4 (hC:EW C P) (m:Mem C w0 Avn hp AB Ai w) {t:TypeId} {i off e b o':Nat} {u:U C.El} {v:Value} {xs:List (C.El e)} {ls:List (L C.El)} (Bi:AzR C hp AB w (BK C hp AB w) u v) (hls:YQ C t u=some ls) (hle:off+ls.length<=(C.ti e).size) (hi:i<xs.length)
  (hfit:fitAll (C.Aw e).sh (setCells C ((C.Aw e).enc (xs.getD i (C.Aw e).z)) off ls)=true) (hp':Axz (C.Aw e).sh=true)
  (hob:∀ (j:Nat) (x:C.El e) (k:Nat) (l:L C.El),xs[j]?=some x->((C.Aw e).enc x)[k]?=some l->w.frozen? ⟨b,o'+(j*(C.ti e).size+k),none⟩=false/\∃ v,w.cell? ⟨b,o'+(j*(C.ti e).size+k),none⟩=some v/\Rep C w (fun _=>False) l v) :
  (Instr.storeAt t (.pointer (some ⟨b,o'+(i*(C.ti e).size+off),none⟩)) v).run P w=.ok () (w.setCells b (o'+i*(C.ti e).size+off) v.cells.toList)/\
  (∀ (j:Nat) (x:C.El e) (k:Nat) (l:L C.El),(xs.set i ((C.Aw e).dec (setCells C ((C.Aw e).enc (xs.getD i (C.Aw e).z)) off ls)))[j]?=some x->((C.Aw e).enc x)[k]?=some l->(w.setCells b (o'+i*(C.ti e).size+off) v.cells.toList).frozen? ⟨b,o'+(j*(C.ti e).size+k),none⟩=false/\∃ u,(w.setCells b (o'+i*(C.ti e).size+off) v.cells.toList).cell? ⟨b,o'+(j*(C.ti e).size+k),none⟩=some u/\Rep C (w.setCells b (o'+i*(C.ti e).size+off) v.cells.toList) (fun _=>False) l u)/\
  v.cells.toList.length=ls.length:=by
 obtain ⟨g1,g2,g3,g4,g5⟩:=AUJ hC Bi hls
 have hus:v.cells.toList.length=ls.length:=g1.1;have henc:=(hC.Aw e).dec _ hfit
 obtain ⟨e1,e2⟩:=Ac0 (w':=w.setCells b (o'+i*(C.ti e).size+off) v.cells.toList) (R:=fun _=>False) (o0:=o') (i:=i) (off:=off) (us:=v.cells.toList) (y:=(C.Aw e).dec (setCells C ((C.Aw e).enc (xs.getD i (C.Aw e).z)) off ls)) (hC.Aw e)
  (fun j x k l h1 h2=>(hob j x k l h1 h2).2) hi (by omega) (fun c hc=>hc.elim)
  (fun olds _ _ hg=>by
   rw [henc];exact Aud hp' hfit (Goes.sets g1 (hg.imp (fun _ _ h=>Rep.jv (h.mono (fun _ h=>h.elim)))) off) _) rfl
 have hfr:∀ (j k:Nat),j<xs.length->k<(C.ti e).size->w.frozen? ⟨b,o'+(j*(C.ti e).size+k),none⟩=false:=by
  intro j k hj hk;have hkl:k<((C.Aw e).enc xs[j]).length:=by rw [(hC.Aw e).len];exact hk
  simp_all
 refine ⟨?_,fun j x k l hx hl=>⟨?_,e2 j x k l hx hl⟩,hus⟩
 ·rw [show o'+(i*(C.ti e).size+off)=o'+i*(C.ti e).size+off by omega]
  exact AKO (P:=P) (w:=w) hC g3 (by simp_all) g4 e1 (fun j hj=>by
   have:=hfr i (off+j) hi (by omega);grind)
 ·rw [World.frozen?_setCells];have hj:j<xs.length:=by grind
  exact hfr j k hj (by rw [<-(hC.Aw e).len x];grind)
theorem AuL (hC:EW C P) (st:St C w0 Avn n env hp AB Ai a w) (t:TypeId) (x y:Operand) (ho:o.op=.store t x y) (h:ET C P AC call env hp o K r):Sound C P w0 Avn hp AB a w o K r:=by
 unfold ET at h;rw [ho] at h;simp only [Ci] at h;split at h
 ·rename_i l u hxe hye;replace h:=(AT3 (C:=C) (hp:=hp) (t:=t) (l:=l) (u:=u) (F:=fun h=>K [.one .junk] h) (fail:=none)).symm.trans h;split at h
  ·rename_i hh hst;have hxr:KA C hp AB w (BK C hp AB w) l (a.eval x):=by have:=Awr st x;rw [hxe] at this;exact this
   have Bi:AzR C hp AB w (BK C hp AB w) u (a.eval y):=by have:=Awr st y;rw [hye] at this;exact this
   unfold Ayx at hst;split at hst
   ·rename_i id off;split at hst;·grind [Auc,Nat.le_of_ble_eq_true]
    ·rename_i e xs hl;split at hst
     ·rename_i m e2 hk;split at hst
      ·rename_i e' ys0;split at hst
       ·rename_i ys hcast;obtain ⟨rfl,hys⟩:=Awd hcast
        have hys:ys0=ys:=hys;subst hys;split at hst
        ·rename_i q1 q2 q3 q4;cases hst;have q1:=Ea q1;subst q1;have q2:=Ea q2;have q3:=Ea q3;subst q3;have q4:=Ea q4;subst q4;obtain ⟨arr,hv,hn,hc⟩:=Bi
         obtain ⟨hbd,b,o',ha,hxv⟩:=hxr
         have hob:=st.mem.obj id;simp only [OA,hl] at hob;obtain ⟨b',o'',ha',hob⟩:=hob
         rw [ha] at ha';cases ha';have hlive:live C hp id:=by grind [live]
         have hrow:Axl C w (fun _=>False) ys0 arr.toList:=⟨by omega,fun j x i l h1 h2=>by grind⟩
         obtain ⟨olds,v1,v2,_⟩:=AKQ (hC.Aw e2) (fun j x i l h1 h2=>(hob j x i l h1 h2).2)
         have hal:arr.toList.length=xs.length*(C.ti e2).size:=by grind
         have hcs:∀ j,j<arr.toList.length->(w.cell? ⟨b,o'+j,none⟩).isSome=true:=by intro j hj;rw [v2 j _ (List.getElem?_eq_getElem (by omega))];rfl
         have C8:∀ j,j<arr.toList.length->w.frozen? ⟨b,o'+j,none⟩=false:=by
          intro j hj;have hfl:j<(xs.flatMap (C.Aw e2).enc).length:=by rw [AET _ _ (hC.Aw e2).len];omega
          obtain ⟨jj,ii,x,hkk,hi,hx,hll⟩:=AUK _ _ (hC.Aw e2).len xs j _ (List.getElem?_eq_getElem hfl)
          grind
         have hsize:=(hC.ty t (by grind)).arr;rw [hk] at hsize;simp only at hsize;have hrun:=AKO (P:=P) (w:=w) (t:=t) (b:=b) (o':=o') (v:=a.eval y) hC (by grind) (by grind [Value.cells]) (by rw [hv];exact hrow.each (hC.Aw e2)) (by rw [hv];exact hcs) (by rw [hv];exact C8);rw [hv] at hrun;have hcl:(Value.agg arr).cells.toList=arr.toList:=rfl;rw [hcl] at hrun;obtain ⟨f1,f2,f3,f4,f5,f6⟩:=YR b arr.toList o' w
         have hext:=bC b arr.toList o' w
         obtain ⟨m1,m2,m3⟩:=Mem.set (w':=w.setCells b o' arr.toList) st.mem id hbd (.ar e2 ys0) (by rw [hl];exact ⟨rfl,q2⟩) hlive (fun k hk'=>f5 k (fun e=>hk' o' (by grind))) hext
          (fun b'' o'' CM A6 hlt Av=>by
           rw [ha] at A6;cases A6;have hrg:=(st.mem.old id b o' hlive ha hlt).2;rw [hl] at hrg;refine World.cell?_setCells_out b _ _ w _ (fun _ _=>?_);simp only;rcases Nat.lt_or_ge o'' o' with h1 | h1
           ·omega
           ·rcases Nat.lt_or_ge o'' (o'+arr.toList.length) with h2 | h2
            ·exact absurd (by have:=hrg (o'' - o') (by omega);grind) Av
            omega)
          (fun hro hst=>by
           unfold OA;rw [Awb];refine ⟨b,o',ha,fun j x i l hx hl'=>?_⟩;obtain ⟨v,h1,h2⟩:=hrow.2 j x i l hx hl'
           have hlt:=(List.getElem?_eq_some_iff.1 h1).1;have hj:j<xs.length:=by grind
           refine ⟨?_,v,?_,h2.keep (fun _ h=>h) (fun _ h=>h.elim)⟩;·grind [World.frozen?_setCells]
           ·rw [World.cell?_setCells_in b arr.toList o' w hcs _ hlt,<-h1,List.getElem?_eq_getElem hlt])
         intro next Q hn'
         exact wp_skip (AEV ho (by grind)) (hn' _ _ undef _ h ⟨_,_,m1,trivial,m2,m3,hext⟩)
        grind
       grind
      grind
     simp_all
    simp_all
   ·rename_i id i off;obtain ⟨_,hbd,hz⟩:=(hxr:KA C hp AB w (BK C hp AB w) (.Ji id i off) (a.eval x))
    split at hst;·grind [Aue,Nat.le_of_ble_eq_true]
    ·rename_i e xs hl;split at hst
     ·rename_i ls hls;dsimp only at hst;split at hst
      ·rename_i q1 q2 q3;cases hst;simp only [hl] at hz;obtain ⟨b,o',ha,hi,hxv⟩:=hz
       have hob:=st.mem.obj id;simp only [OA,hl,ha] at hob;have hlive:live C hp id:=by grind [live]
       obtain ⟨s1,s2,s3⟩:=Ac4 (P:=P) hC st.mem Bi hls (Nat.le_of_ble_eq_true q1) hi q2 q3 hob
       obtain ⟨f1,f2,f3,f4,f5,f6⟩:=YR b (a.eval y).cells.toList (o'+i*(C.ti e).size+off) w
       have hext:=bC b (a.eval y).cells.toList (o'+i*(C.ti e).size+off) w;have hle:=Nat.le_of_ble_eq_true q1;have hir:i*(C.ti e).size+(C.ti e).size<=xs.length*(C.ti e).size:=by rw [<-Nat.succ_mul];exact Nat.mul_le_mul_right _ hi
       obtain ⟨m1,m2,m3⟩:=Mem.set (w':=w.setCells b (o'+i*(C.ti e).size+off) (a.eval y).cells.toList) st.mem id hbd (.io e (xs.set i ((C.Aw e).dec (setCells C ((C.Aw e).enc (xs.getD i (C.Aw e).z)) off ls)))) (by rw [hl];exact ⟨rfl,by simp⟩) hlive (fun k hk=>f5 k (fun e=>hk o' (by grind))) hext
        (fun b'' o'' CM A6 hlt Av=>by
         rw [ha] at A6;cases A6;have hrg:=(st.mem.old id b o' hlive ha hlt).2;rw [hl] at hrg;refine World.cell?_setCells_out b _ _ w _ (fun _ _=>?_);simp only;rcases Nat.lt_or_ge o'' (o'+i*(C.ti e).size+off) with h1 | h1
         ·omega
         ·rcases Nat.lt_or_ge o'' (o'+i*(C.ti e).size+off+(a.eval y).cells.toList.length) with h2 | h2
          ·exact absurd (by have:=hrg.1 (o'' - o') (by omega);grind) Av
          omega)
        (fun hro hst=>by grind [OA,Awb])
       intro next Q hn'
       exact wp_skip (AEV ho (by grind)) (hn' _ _ undef _ h ⟨_,_,m1,trivial,m2,m3,hext⟩)
      grind
     grind
    ·rename_i e xs hl;split at hst
     ·rename_i ls hls;dsimp only at hst;split at hst
      ·rename_i q1 q2 q3;cases hst;simp only [hl] at hz;obtain ⟨b,o',ha,hi,hxv⟩:=hz
       have hob:=st.mem.obj id;simp only [OA,hl] at hob;obtain ⟨b',o'',ha',hob⟩:=hob
       rw [ha] at ha';cases ha';have hlive:live C hp id:=by grind [live]
       obtain ⟨s1,s2,s3⟩:=Ac4 (P:=P) hC st.mem Bi hls (Nat.le_of_ble_eq_true q1) hi q2 q3 hob
       obtain ⟨f1,f2,f3,f4,f5,f6⟩:=YR b (a.eval y).cells.toList (o'+i*(C.ti e).size+off) w
       have hext:=bC b (a.eval y).cells.toList (o'+i*(C.ti e).size+off) w;have hle:=Nat.le_of_ble_eq_true q1;have hir:i*(C.ti e).size+(C.ti e).size<=xs.length*(C.ti e).size:=by rw [<-Nat.succ_mul];exact Nat.mul_le_mul_right _ hi
       obtain ⟨m1,m2,m3⟩:=Mem.set (w':=w.setCells b (o'+i*(C.ti e).size+off) (a.eval y).cells.toList) st.mem id hbd (.ar e (xs.set i ((C.Aw e).dec (setCells C ((C.Aw e).enc (xs.getD i (C.Aw e).z)) off ls)))) (by rw [hl];exact ⟨rfl,by simp⟩) hlive (fun k hk=>f5 k (fun e=>hk o' (by grind))) hext
        (fun b'' o'' CM A6 hlt Av=>by
         rw [ha] at A6;cases A6;have hrg:=(st.mem.old id b o' hlive ha hlt).2;rw [hl] at hrg;refine World.cell?_setCells_out b _ _ w _ (fun _ _=>?_);simp only;rcases Nat.lt_or_ge o'' (o'+i*(C.ti e).size+off) with h1 | h1
         ·omega
         ·rcases Nat.lt_or_ge o'' (o'+i*(C.ti e).size+off+(a.eval y).cells.toList.length) with h2 | h2
          ·exact absurd (by have:=hrg (o'' - o') (by omega);grind) Av
          omega)
        (fun hro hst=>by grind [OA,Awb])
       intro next Q hn'
       exact wp_skip (AEV ho (by grind)) (hn' _ _ undef _ h ⟨_,_,m1,trivial,m2,m3,hext⟩)
      grind
     grind
    simp_all
   simp_all
  ·cases h
 ·cases h
end
end Go.Ev
