/- What the evaluator tells of boxes and of rows that are built is what the machine does. -/
import Derived.Test.YtkbbicgglblfiaaGreatDoorSnd8
namespace Go.Ev
open Go
section
variable {C:Ctx} {P:Program} {hp:Hp C} {AB:At} {w w':World} {Ai:Nat->Prop} {w0:World} {Avn:Nat->Nat->Prop} {n:Nat} {env:Env C} {a:Act}
variable {γ:Type} {K:Val C.El->Hp C->Option γ} {r:γ} {o:Oper} {AC:Nat->Nat} {call:Nat->List (U C.El)->(List (U C.El)->Option γ)->Option γ}
theorem AuH (st:St C w0 Avn n env hp AB Ai a w) (t:TypeId) (x:Operand) (ho:o.op=.box t x) (h:ET C P AC call env hp o K r):Sound C P w0 Avn hp AB a w o K r:=by
 unfold ET at h;rw [ho] at h;simp only [Ci] at h;have hx:=Awr st x;have go:∀ {val:Val C.El} {h':Hp C},K val h'=some r->After C w0 Avn hp AB w val h' (.pointer (some ⟨w.heap.size,0,none⟩)) (w.alloc (.cells (a.eval x).cells t))->Sound C P w0 Avn hp AB a w o K r:=by
  intro val h' hk ha next Q hn
  refine Avs ?_ (hn val h' _ _ hk ha);simp_all [execOp,Instr.box,newVar,newRow]
 split at h
 ·rename_i e xs he;rw [he] at hx;obtain ⟨hb,h⟩:=QB h
  obtain ⟨arr,ha,_,hc⟩:=(hx:AzR C hp AB w (BK C hp AB w) (.arr e xs) (a.eval x))
  refine go h (After.arr st.mem hb (NewAt.alloc w _ _) ?_);rw [ha];exact hc
 ·rename_i u hne he;rw [he] at hx;split at h
  ·rename_i hj;obtain ⟨hb,h⟩:=QB h
   refine go h (After.var st.mem hb (NewAt.alloc w _ _) (AzR.cells (u:=u) hx ?_ hj));cases u with
   | arr e xs=>grind
   | _=>rfl
  ·cases h
 ·cases h
def jf (C:Ctx) (w:World) (ro:Nat->Prop) (l:L C.El) (v:Value):Prop:=(l=.JI/\v=.slice none 0 0)\/Rep C w ro l v
theorem jf.mono {ro ro':Nat->Prop} {l:L C.El} {v:Value} (h:jf C w ro l v) (hr:∀ b,ro b->ro' b):jf C w ro' l v:=h.imp id (fun h=>h.mono hr)
theorem Goes.imp {R R':L C.El->Value->Prop} {cs:List (L C.El)} {vs:List Value} (h:Goes R cs vs) (hr:∀ l v,R l v->R' l v):Goes R' cs vs:=⟨h.1,fun i l hl=>by
 obtain ⟨u,h1,h2⟩:=h.2 i l hl
 simp_all⟩
theorem Goes.cons {R:L C.El->Value->Prop} {l:L C.El} {ls:List (L C.El)} {v:Value} {vs:List Value}:Goes R (l::ls) (v::vs)↔R l v/\Goes R ls vs:=by
 constructor
 ·intro h;refine ⟨?_,by have:=h.1;simp_all,fun i l' hl=>by simpa using h.2 (i+1) l' (by assumption)⟩;obtain ⟨u,h1,h2⟩:=h.2 0 l rfl
  simp_all
 ·rintro ⟨h1,h2,h3⟩;refine ⟨by simp [h2],fun i l' hl=>?_⟩;grind
theorem Goes.nil {R:L C.El->Value->Prop}:Goes R ([]:List (L C.El)) []:=⟨rfl,fun i l h=>by simp at h⟩
theorem Goes.cons_inv {R:L C.El->Value->Prop} {l:L C.El} {ls:List (L C.El)} {vs:List Value} (h:Goes R (l::ls) vs):∃ v vs',vs=v::vs'/\R l v/\Goes R ls vs':=by
 cases vs with
 | nil=>have:=h.1;simp_all
 | cons v vs=>grind [Goes.cons]
theorem UA.trans {hp1 hp2 hp3:Hp C} {at2 at3:At} (st:UA hp1 hp2 AB at2) (BT:UA hp2 hp3 at2 at3):UA hp1 hp3 AB at3:=
 ⟨fun i hi=>BT.bound i (st.bound i hi),fun i hi=>by
  have h1:=st.TB i hi;have h2:=BT.TB i (st.bound i hi);revert h1 h2;generalize look hp1 i .dead=o1;generalize look hp2 i .dead=o2;generalize look hp3 i .dead=o3;intro h1 h2;cases o3 with
  | dead=>assumption
  | var _=>cases o2 <;> simp only [FU] at h2;cases o1 <;> simp only [FU] at h1 ⊢;omega
  | sl _ _=>cases o2 <;> simp only [FU] at h2;cases o1 <;> simp only [FU] at h1 ⊢;omega
  | io _ _=>cases o2 <;> simp only [FU] at h2;cases o1 <;> simp only [FU] at h1 ⊢;omega
  | ar _ _=>cases o2 <;> simp only [FU] at h2;cases o1 <;> simp only [FU] at h1 ⊢;omega,
  fun i hi=>(BT.at_ i (st.bound i hi)).trans (st.at_ i hi)⟩
theorem vY {w:World} {e b off c:Nat} {xs:List (C.El e)} {ro:Nat->Prop} (hb:ro b) (hl:xs.length<=c)
  (hc:∀ (j:Nat) (x:C.El e) (i:Nat) (l:L C.El),xs[j]?=some x->((C.Aw e).enc x)[i]?=some l->∃ v,w.cell? ⟨b,off+(j*(C.ti e).size+i),none⟩=some v/\Rep C w ro l v) :
  Rep C w ro (.BG e xs) (.slice (some ⟨b,off,none⟩) xs.length c):=
 .BG e xs b off c (fun j i=>(w.cell? ⟨b,off+(j*(C.ti e).size+i),none⟩).getD undef) hb hl
  (fun j x i l h1 h2=>by grind)
  (fun j x i l h1 h2=>by grind)
theorem Ac2 {ro:Nat->Prop}:∀ (ls:List (L C.El)) (dl:Hp C) (Ai:Nat->Prop) (vs:List Value) (ls':List (L C.El)) (dl':Hp C),Mem C w0 Avn (dl++hp) AB Ai w->Goes (KA C (dl++hp) AB w ro) ls vs->freeze C hp dl ls=some (ls',dl')->
  ∃ AE,Mem C w0 Avn (dl'++hp) AB AE w/\UA (dl++hp) (dl'++hp) AB AB/\(∀ b,BK C (dl++hp) AB w b->BK C (dl'++hp) AB w b)/\(∀ b,Ai b->AE b)/\Goes (jf C w AE) ls' vs:=by
 intro ls;induction ls with
 | nil=>
  intro dl Ai vs ls' dl' m hg h;simp only [freeze,Option.some.injEq,Prod.mk.injEq] at h;obtain ⟨rfl,rfl⟩:=h
  exact ⟨Ai,m,UA.refl _ _,fun _ h=>h,fun _ h=>h,by
   have:vs=[]:=List.length_eq_zero_iff.1 (by simpa using hg.1);simp_all [Goes.nil]⟩
 | cons l ls ih=>
  intro dl Ai vs ls' dl' m hg h;obtain ⟨v,vs',rfl,hv,hg'⟩:=Goes.cons_inv hg
  have plain:∀ {l2:L C.El} {q:List (L C.El)×Hp C},freeze C hp dl ls=some q->l2::q.1=ls'->q.2=dl'->(∀ AE,jf C w AE l2 v)->∃ AE,Mem C w0 Avn (dl'++hp) AB AE w/\UA (dl++hp) (dl'++hp) AB AB/\(∀ b,BK C (dl++hp) AB w b->BK C (dl'++hp) AB w b)/\(∀ b,Ai b->AE b)/\Goes (jf C w AE) ls' (v::vs'):=by grind [Goes.cons]
  simp only [freeze] at h;split at h
  ·rename_i id;split at h
   ·rename_i e xs hl;split at h
    ·rename_i q hq;simp only [Option.some.injEq,Prod.mk.injEq] at h;obtain ⟨rfl,rfl⟩:=h
     have hbd:=(hv:KA C (dl++hp) AB w ro (.own id) v).2.1;obtain ⟨k1,k2,k3⟩:=Mem.kill m id hbd
     obtain ⟨AE,g1,g2,g3,g4,g5⟩:=ih ((id,.dead)::dl) _ vs' q.1 q.2 k1 (hg'.imp (fun l v h=>KA.keep h k2 (fun _ h=>h) (fun _ _=>rfl) (Ext.refl w))) hq
     refine ⟨AE,g1,UA.trans k2 g2,fun b hb=>g3 b (k3 b hb),fun b hb=>g4 b (.inl hb),Goes.cons.2 ⟨.inr ?_,g5⟩⟩;have hlive:live C (dl++hp) id:=by simp_all [live]
     rcases YO (ro:=ro) m hl hv with ⟨rfl,rfl,_⟩ | ⟨b,cap,arr,fr,ha,rfl,hh,hsz,hcap⟩
     ·exact .none _ _ _
     ·have hob:=m.obj id;simp only [OA,hl,ha] at hob;obtain ⟨_,cap',arr',fr',q1,q2,q3,q4,_,q6⟩:=hob
      exact vY (g4 b (.inr ⟨hlive,0,ha⟩)) hcap (fun j x i l h1 h2=>by
        obtain ⟨v,h3,h4⟩:=q6 j x i l h1 h2
        exact ⟨v,by grind,h4.mono (fun b hb=>g4 b (.inl hb))⟩)
    ·cases h
   ·cases h
  ·split at h;·rename_i q hq;simp only [Option.some.injEq,Prod.mk.injEq] at h;exact plain hq h.1 h.2 (fun _=>.inl ⟨rfl,hv⟩)
   ·cases h
  ·split at h;·rename_i q hq;simp only [Option.some.injEq,Prod.mk.injEq] at h;exact plain hq h.1 h.2 (fun _=>.inr (by have hv:v=_:=hv;subst hv;exact .int _ _))
   ·cases h
  ·split at h;·rename_i q hq;simp only [Option.some.injEq,Prod.mk.injEq] at h;exact plain hq h.1 h.2 (fun _=>.inr (by have hv:v=_:=hv;subst hv;exact .bool _))
   ·cases h
  ·split at h;·rename_i q hq;simp only [Option.some.injEq,Prod.mk.injEq] at h;exact plain hq h.1 h.2 (fun _=>.inr (by have hv:v=_:=hv;subst hv;exact .str _))
   ·cases h
  ·cases h
end
end Go.Ev
