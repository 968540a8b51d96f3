/- What the evaluator tells of plain regions is what the machine does. -/
import Derived.Test.YtkbbicgglblfiaaGreatDoorSnd17
import Derived.Tactics
namespace Go.Ev
open Go
section
variable {C:Ctx} {P:Program} {hp:Hp C} {AB:At} {w w':World} {Ai:Nat->Prop} {w0:World} {Avn:Nat->Nat->Prop} {n:Nat} {env:Env C} {a:Act}
variable {γ:Type} {r:γ} {o:Oper} {AC:Nat->Nat} {call:Nat->List (U C.El)->(List (U C.El)->Option γ)->Option γ}
theorem ATz {d:Option Nat} (h:AEi n d=true):∀ t,d=some t->t<n:=by intro t ht;subst ht;exact Nat.le_of_ble_eq_true h
theorem St.told (st:St C w0 Avn n env hp AB Ai a w) {t:Nat} {p:Bool} (h:look env t [.one .junk]=[.one (.bool p)]):St C w0 Avn n ((t,[.one (.bool p)])::env) hp AB Ai a w:=by refine ⟨st.mem,st.size,st.defers,fun t'=>?_⟩;grind [look,env,Ea]
theorem St.skip (st:St C w0 Avn n env hp AB Ai a w) (d:Option Nat) (hd:∀ t,d=some t->t<n):St C w0 Avn n (put C env d []) hp AB Ai (a.put d undef) w:=by
 refine ⟨st.mem,?_,?_,fun t=>?_⟩;·cases d <;> simp [Act.put,st.size]
 ·cases d <;> simp [Act.put,st.defers]
 ·cases d with
  | none=>exact st.env t
  | some d=>
   by_cases e:t=d
   ·subst e;have h1:look (put C env (some t) []) t [.one .junk]=[]:=by simp [put,look]
    have h2:(a.put (some t) undef).tmps.getD t undef=undef:=by simp only [Act.put,Array.getD_eq_getD_getElem?];simp
    rw [h1,h2];exact ⟨#[],rfl,rfl,fun i u hu=>by simp at hu⟩
   ·have h1:look (put C env (some d) []) t [.one .junk]=look env t [.one .junk]:=by grind [Ea,put,look]
    have h2:(a.put (some d) undef).tmps.getD t undef=a.tmps.getD t undef:=by simp only [Act.put,Array.getD_eq_getD_getElem?,Array.getElem?_setIfInBounds_ne (fun h=>e h.symm)]
    rw [h1,h2];exact st.env t
theorem AcU {ops:Array Oper} {j t:Nat} {p:Bool} (ht:(ops[j]?).bind (·.dst)=some t) (h:a.tmps.getD t undef=.bool p):yielded ops a.tmps j=some p:=by
 unfold yielded;rw [ht];simp only [AP];cases hx:a.tmps[t]? with
 | none=>rw [Array.getD_eq_getD_getElem?,hx] at h;cases h
 | some v=>simp_all
theorem AcV {ops:Array Oper} {j t:Nat} (ht:(ops[j]?).bind (·.dst)=some t) (h:a.tmps.getD t undef=.tuple #[]):yielded ops a.tmps j=none:=by unfold yielded;rw [ht];simp only [AP];cases hx:a.tmps[t]?<;>simp_all
theorem AcW {ro:Nat->Prop} {v:Value} (h:IB C hp AB w ro [] v):v=.tuple #[]:=by
 obtain ⟨arr,rfl,h1,_⟩:=h
 simp_all
theorem At6 {e:Nat}:∀ (ps:List (Nat×Val C.El)) (dl:Hp C) (xs:List (C.El e)) (q:List (C.El e)×Hp C),rowsOf C e hp dl xs ps=some q->∀ id,look (q.2++hp) id .dead=.dead\/look (q.2++hp) id .dead=look (dl++hp) id .dead:=by
 intro ps;induction ps with
 | nil=>grind [rowsOf]
 | cons p ps ih=>
  intro dl xs q h id;obtain ⟨i,us⟩:=p
  match us,h with
  | [u],h=>
   simp only [rowsOf] at h;split at h;all_goals grind [CU]
  | [],h=>grind [rowsOf]
  | _::_::_,h=>grind [rowsOf]
theorem At7 {id:Nat}:∀ (h:Hp C),look h id (.var [])=.dead->look (h++hp) id .dead=.dead:=by intro h;induction h<;>grind [look]
theorem At8 {hp1 h:Hp C} (m:Mem C w0 Avn hp AB Ai w) (hs:UA hp hp1 AB AB) (hr:∀ b,BK C hp AB w b->BK C hp1 AB w b) (hk:∀ id,look hp1 id .dead=.dead\/look hp1 id .dead=look hp id .dead) (hd:∀ id,look h id (.var [])=.dead->look hp1 id .dead=.dead) {l:L C.El} {v:Value} (hv:KA C hp AB w (BK C hp AB w) l v):KA C hp1 AB w (BK C hp1 AB w) (AUG C hp h l) v:=by
 have keep:=KA.keep hv hs hr (fun _ _=>rfl) (Ext.refl w);unfold AUG;split
 ·rename_i id;split
  ·rename_i e xs hl hdd;have hlive:live C hp id:=by simp_all [live]
   show Rep C w _ (.BG e xs) v;rcases YO (ro:=BK C hp AB w) m hl hv with ⟨rfl,rfl,_⟩ | ⟨b,cap,arr,fr,ha,rfl,hh,hsz,hcap⟩
   ·exact .none _ _ _
   ·have hob:=m.obj id;simp only [OA,hl,ha] at hob;obtain ⟨_,cap',arr',fr',q1,q2,q3,q4,_,q6⟩:=hob
    have hb:BK C hp1 AB w b:=by
     refine ⟨m.lt id b 0 hlive ha,fun ⟨id',off,hl',ha'⟩=>?_⟩;have h1:look hp1 id .dead=.dead:=hd id hdd;rcases hk id' with h2 | h2
     ·grind [live]
     ·have hl2:live C hp id':=by grind [live]
      have:=m.dist id id' b 0 off hlive hl2 ha ha';grind
    exact vY hb hcap (fun j x i l h1 h2=>by
     obtain ⟨v,h3,h4⟩:=q6 j x i l h1 h2
     exact ⟨v,by grind,h4.mono (fun b hb=>hr b ⟨(m.Ai b hb).1,(m.Ai b hb).2.1⟩)⟩)
  omega
 omega
theorem Acx {hp1 h:Hp C} (m:Mem C w0 Avn hp AB Ai w) (hs:UA hp hp1 AB AB) (hr:∀ b,BK C hp AB w b->BK C hp1 AB w b) (hk:∀ id,look hp1 id .dead=.dead\/look hp1 id .dead=look hp id .dead) (hd:∀ id,look h id (.var [])=.dead->look hp1 id .dead=.dead) {u:U C.El} {v:Value} (hv:AzR C hp AB w (BK C hp AB w) u v):AzR C hp1 AB w (BK C hp1 AB w) (ay C hp h u) v:=by
 cases u with
 | one l=>exact At8 m hs hr hk hd hv
 | agg cs=>exact AzR.keep hv hs hr (fun _ _=>rfl) (Ext.refl w)
 | arr e xs=>assumption
theorem At9 {h:Hp C} (t:Nat):∀ env:Env C,look (env.map fun p=>(p.1,p.2.map (ay C hp h))) t [.one .junk]=(look env t [.one .junk]).map (ay C hp h):=by
 intro env;induction env with
 | nil=>rfl
 | cons p env ih=>
  grind [look]
theorem St.thaw {hp1 h:Hp C} {AE:Nat->Prop} (st:St C w0 Avn n env hp AB Ai a w) (m2:Mem C w0 Avn hp1 AB AE w) (hs:UA hp hp1 AB AB) (hr:∀ b,BK C hp AB w b->BK C hp1 AB w b) (hk:∀ id,look hp1 id .dead=.dead\/look hp1 id .dead=look hp id .dead) (hd:∀ id,look h id (.var [])=.dead->look hp1 id .dead=.dead):St C w0 Avn n (env.map fun p=>(p.1,p.2.map (ay C hp h))) hp1 AB AE a w:=by
 refine ⟨m2,st.size,st.defers,fun t=>?_⟩;have hv:=st.env t;rw [At9];generalize look env t [.one .junk]=us at hv;match us,hv with
 | [],hv=>
  obtain ⟨arr,h1,h2,h3⟩:=hv
  exact ⟨arr,h1,h2,fun i u hu=>by cases hu⟩
 | [u],hv=>exact Acx st.mem hs hr hk hd hv
 | u1::u2::us,hv=>
  obtain ⟨arr,h1,h2,h3⟩:=hv
  refine ⟨arr,h1,by simp_all,fun i u hu=>?_⟩;rw [show (ay C hp h u1::List.map (ay C hp h) (u2::us))=List.map (ay C hp h) (u1::u2::us) from rfl,List.getElem?_map,Option.map_eq_some_iff] at hu;obtain ⟨u',hu',rfl⟩:=hu
  obtain ⟨x,h4,h5⟩:=h3 i u' hu'
  exact ⟨x,h4,Acx st.mem hs hr hk hd h5⟩
theorem AuA (hC:EW C P) (st:St C w0 Avn n env hp AB Ai a w) (hd:∀ t,o.dst=some t->t<n) (t:TypeId) (m:Nat) (ps:Array (Nat×Operand)) (ho:o.op=.buildSlice t m ps) {K:Env C->Hp C->Option γ} (h:Ci C P AC call env hp (o.dst.getD 0) o.op (fun v h=>K (put C (Go.Ev.thaw C hp h env o.op) o.dst v) (h++hp)) none=some r)
  (next:Act->World->Prop) (Q:Exit->Act->World->Prop) (hn:∀ env' hp' at' AH a' w',K env' hp'=some r->St C w0 Avn n env' hp' at' AH a' w'->Ch hp hp' AB at'->next a' w'):o.wp P a w next Q:=by
 rw [ho] at h;simp only [Ci] at h;split at h
 ·rename_i e hk;split at h
  ·rename_i q hq;obtain ⟨h1,h⟩:=AyE h
   have h1:=Nat.le_of_ble_eq_true h1;obtain ⟨hb,h⟩:=QB h
   obtain ⟨hu,hs,hsz⟩:=AzX hC hk
   obtain ⟨_,z,hz,hzz⟩:=AKL hC (.inl hk)
   obtain ⟨xs',dl'⟩:=q
   have hrow:Axl C w Ai (List.replicate m (C.Aw e).z) ((Array.range (m*(C.ti e).size)).map (fun k=>z.cells[k % z.cells.size]!)).toList:=AUH (hC.Aw e) hs hzz m Ai;obtain ⟨AE,arr',g1,g2,g3,g4,g5,g6,g7⟩:=AUI (hC.Aw e) (place:=fun i=>some (i*(C.ti e).size,(C.ti e).size)) (fun _=>rfl) ps.toList [] dl' Ai _ xs' _ (fun p _=>Awr st p.2) st.mem hrow hq
   have hlen:xs'.length=m:=by grind
   have hsize:arr'.size=m*(C.ti e).size:=by have:=g6.1;grind
   have hm:m<=m*(C.ti e).size:=Nat.le_mul_of_pos_right _ hs
   have ha:=After.row (xs:=xs') (cap:=m) g2 hb (NewAt.alloc w arr' e) (fun j _=>by simp) hsize (by omega) (by omega) (fun j x i l h3 h4=>by
    obtain ⟨v,h5,h6⟩:=g6.2 j x i l h3 h4
    grind)
   rw [hlen] at ha
   have st1:=St.thaw (h:=(site (o.dst.getD 0) 0,.sl e xs')::dl') st g2 g3 g4 (At6 _ [] _ _ hq) (fun id hid=>by
    grind [At7,look])
   obtain ⟨at2,C7,st2,ch⟩:=St.step st1 o.dst hd ha
   refine Avs ?_ (hn _ _ at2 C7 _ _ h st2 (fun id hid=>⟨(ch id (g3.bound id hid)).1,(ch id (g3.bound id hid)).2⟩));have hparts:(ps.map fun (i,x)=>(i,a.eval x)).toList=ps.toList.map fun (i,x)=>(i,a.eval x):=by simp
   have hnot:¬ m*(C.ti e).size > 2 ^ 24:=by omega
   by_cases h0:m*(C.ti e).size=0
   ·rw [h0] at g1;have r0:∀ f:Nat->Value,(Array.range 0).map f = #[]:=fun f=>Array.eq_empty_of_size_eq_zero (by simp)
    rw [r0] at g1;simp [execOp,ho,Instr.buildSlice,run_underlying hu,hsz,h0,hparts,r0,g1,newRow]
   ·simp [execOp,ho,Instr.buildSlice,run_underlying hu,hsz,h0,hnot,hz,hparts,g1,newRow]
  ·cases h
 ·cases h
theorem AuB {op:Op} {h:Hp C} (hx:∀ t m ps,op≠.buildSlice t m ps):Go.Ev.thaw C hp h env op=env:=by unfold Go.Ev.thaw;simp
theorem Atx (hC:EW C P) (hT:JX C w0 Avn) (hcall:ah C P AC call) {ops:Array Oper} {K:Env C->Hp C->Option γ} {Q:Exit->Act->World->Prop}
:
  ∀ (l:List Oper) (env:Env C) (hp:Hp C) (AB:At) (Ai:Nat->Prop) (a:Act) (w:World),(∀ env' hp' at' AH a' w',K env' hp'=some r->St C w0 Avn n env' hp' at' AH a' w'->Ch hp hp' AB at'->Q .normal a' w')->AzM C P AC call n ops l env hp K none=some r->St C w0 Avn n env hp AB Ai a w->wpList P ops Q l a w:=by
 intro l;induction l with
 | nil=>intro env hp AB Ai a w hQ h st;exact hQ env hp AB Ai a w h st (Ch.refl _ _)
 | cons o os ih=>
  intro env hp AB Ai a w hQ h st;simp only [AzM] at h;split at h;·cases h
  ·rename_i hd;have hd:=ATz hd;have exec:∀ (env:Env C),St C w0 Avn n env hp AB Ai a w->Region.wanted o (yielded ops a.tmps)=true->Ci C P AC call env hp (o.dst.getD 0) o.op (fun v h=>AzM C P AC call n ops os (put C (Go.Ev.thaw C hp h env o.op) o.dst v) (h++hp) K none) none=some r->wpList P ops Q (o::os) a w:=by
    intro env st hw h;simp only [wpList,hw,if_true];left;by_cases hbs:∃ t m ps,o.op=.buildSlice t m ps
    ·obtain ⟨t,m,ps,hbs⟩:=hbs
     exact AuA hC st hd t m ps hbs (K:=fun env hp=>AzM C P AC call n ops os env hp K none) h _ Q (fun env' hp' at' AH a' w' hk st' ch=>ih _ _ at' AH _ _ (fun B2 hp2 at2 AE a2 w2 hk2 st2 Cg=>hQ B2 hp2 at2 AE a2 w2 hk2 st2 (ch.trans Cg)) hk st')
    refine AcY hC hT hcall st h _ Q (fun val h' v w' hk ha=>?_);rw [AuB (fun t m ps e=>hbs ⟨t,m,ps,e⟩)] at hk;obtain ⟨at2,AE,st2,ch⟩:=St.step st o.dst hd ha
    exact ih _ _ at2 AE _ _ (fun env' hp' at' AH a' w' hk' st' ch'=>hQ env' hp' at' AH a' w' hk' st' (ch.trans ch')) hk st2
   have skip:∀ (env:Env C),St C w0 Avn n env hp AB Ai a w->Region.wanted o (yielded ops a.tmps)=false->AzM C P AC call n ops os (put C env o.dst []) hp K none=some r->wpList P ops Q (o::os) a w:=by intro env st hw h;simp only [wpList,hw,Bool.false_eq_true,if_false];exact ih _ _ AB Ai _ _ hQ h (St.skip st o.dst hd)
   split at h;·grind [Region.wanted]
   ·rename_i j want hg;split at h
    ·rename_i t ht;split at h
     ·rename_i p hp';have hv:a.tmps.getD t undef=.bool p:=by have:=st.env t;rw [hp'] at this;exact this
      have hy:=AcU ht hv;grind [St.told,Region.wanted]
     ·rename_i hp';have hv:a.tmps.getD t undef=.tuple #[]:=by have:=st.env t;grind [AcW]
      grind [AcV,Region.wanted]
     ·cases h
    ·cases h
end
end Go.Ev
