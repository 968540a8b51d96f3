/- Rows that a callee only reads. -/
import Derived.Test.YtkbbicgglblfiaaGreatDoorSnd24
namespace Go.Ev
set_option linter.unusedVariables false
set_option linter.unusedSimpArgs false
open Go
section
variable {C:Ctx} {P:Program} {hp AF hp0:Hp C} {AB at0:At} {w w':World} {Ai:Nat->Prop} {w0:World} {Avn:Nat->Nat->Prop} {n:Nat} {env:Env C} {a:Act}
theorem Atp (hC:EW C P) (m:Mem C w0 Avn hp AB Ai w) {ro':Nat->Prop} (hK:∀ id,look AF id .dead≠.dead->look hp id .dead=look AF id .dead) (hr1:∀ b,BK C hp AB w b->ro' b) (hr2:∀ id b off,look AF id .dead≠.dead->AB id=some (b,off)->ro' b)
  {e:Nat} (hs:0<(C.ti e).size) {l:L C.El} {v:Value} {xs:List (C.El e)} (h:KA C hp AB w (BK C hp AB w) l v) (hr:rowOf C AF e l=some xs):Rep C w ro' (.BG e xs) v:=by
 have hfr:∀ b,Ai b->ro' b:=fun b hb=>hr1 b ⟨(m.Ai b hb).1,(m.Ai b hb).2.1⟩
 cases l with
 | own id=>
  simp only [rowOf] at hr;split at hr
  ·rename_i e' ys hl;obtain ⟨rfl,rfl⟩:=Awd hr
   have hne:look AF id .dead≠.dead:=by simp_all
   have hl':look hp id .dead=.sl e' ys:=by grind
   rcases YO (ro:=BK C hp AB w) m hl' h with ⟨rfl,rfl,_⟩ | ⟨b,cap,arr,fr,ha,rfl,_,_,hcap⟩
   ·exact .none _ _ _
   ·have hob:=m.obj id;simp only [OA,hl',ha] at hob;obtain ⟨_,cap',arr',fr',_,_,_,_,_,q6⟩:=hob
    exact vY (hr2 id b 0 hne ha) hcap (fun j x i l h1 h2=>by
     obtain ⟨v,h3,h4⟩:=q6 j x i l h1 h2
     exact ⟨v,by grind,h4.mono hfr⟩)
  ·rename_i e' ys hl;obtain ⟨rfl,rfl⟩:=Awd hr
   have hne:look AF id .dead≠.dead:=by simp_all
   have hl':look hp id .dead=.io e' ys:=by grind
   have hy:=(h:KA C hp AB w (BK C hp AB w) (.own id) v).2.2;have hob:=m.obj id;simp only [hl'] at hy;simp only [OA,hl'] at hob;cases ha:AB id with
   | none=>simp only [ha] at hy;obtain ⟨A,c,rfl,rfl⟩:=hy;exact .none _ _ _
   | some p=>
    obtain ⟨b,off⟩:=p
    simp only [ha] at hy hob;obtain ⟨cap,rfl,hcap⟩:=hy
    exact vY (hr2 id b off hne ha) hcap (fun j x i l h1 h2=>by
     obtain ⟨_,v,h3,h4⟩:=hob j x i l h1 h2
     exact ⟨v,h3,h4.mono (fun _ h=>h.elim)⟩)
  simp_all
 | sub id off len=>
  simp only [rowOf] at hr;split at hr
  ·rename_i e' ys hl;obtain ⟨zs,hz,rfl⟩:=Option.map_eq_some_iff.1 hr
   obtain ⟨rfl,rfl⟩:=Awd hz
   have hne:look AF id .dead≠.dead:=by simp_all
   have hl':look hp id .dead=.sl e' ys:=by grind
   rcases AKI (ro:=BK C hp AB w) m hl' hs h with ⟨rfl,rfl,rfl⟩ | ⟨b,cap,arr,fr,A,ha,rfl,h3,h4,_,_,h5,h6⟩
   ·rw [List.take_zero];exact .none _ _ _
   ·by_cases h0:len=0;·subst h0;rw [List.take_zero];exact .none _ _ _
    ·have hA:=h5 (by omega);subst hA;have hlen:((ys.drop off).take len).length=len:=by grind
     have hob:=m.obj id;simp only [OA,hl',ha] at hob;obtain ⟨_,cap',arr',fr',_,_,_,_,_,q6⟩:=hob
     have key:=vY (C:=C) (w:=w) (ro:=ro') (b:=b) (off:=off*(C.ti e').size) (c:=cap - off) (xs:=(ys.drop off).take len) (hr2 id b 0 hne ha) (by omega) (fun j x i l h1 h2=>by
      have:ys[off+j]?=some x:=by grind
      obtain ⟨v,h7,h8⟩:=q6 (off+j) x i l this h2
      exact ⟨v,by grind,h8.mono hfr⟩)
     grind
  simp_all
 | BG e' ys=>
  simp only [rowOf] at hr;obtain ⟨rfl,rfl⟩:=Awd hr
  exact Rep.mono h hr1
 | JI=>
  simp only [rowOf,Option.some.injEq] at hr;subst hr;have h:v=.slice none 0 0:=h;subst h;exact .none _ _ _
 | _=>simp [rowOf] at hr
theorem Atm (hC:EW C P) (m:Mem C w0 Avn hp AB Ai w) {ro':Nat->Prop} (hK:∀ id,look AF id .dead≠.dead->look hp id .dead=look AF id .dead) (hr1:∀ b,BK C hp AB w b->ro' b) (hr2:∀ id b off,look AF id .dead≠.dead->AB id=some (b,off)->ro' b) :
  ∀ (ss:List Sh) (ls ls':List (L C.El)),(∀ e,Sh.sl e ∈ ss->0<(C.ti e).size)->SB C AF ss ls=some ls'->ls'.length=ls.length/\∀ (i:Nat) (l':L C.El),ls'[i]?=some l'->∃ l,ls[i]?=some l/\∀ v,KA C hp AB w (BK C hp AB w) l v->KA C hp0 at0 w ro' l' v:=by
 intro ss;induction ss with
 | nil=>
  grind [SB]
 | cons s ss ih=>
  intro ls ls' hss h;cases ls with
  | nil=>simp_all [SB]
  | cons l ls=>
   have fin:∀ {l2:L C.El} {r:List (L C.El)},SB C AF ss ls=some r->ls'=l2::r->(∀ v,KA C hp AB w (BK C hp AB w) l v->KA C hp0 at0 w ro' l2 v)->ls'.length=(l::ls).length/\∀ (i:Nat) (l':L C.El),ls'[i]?=some l'->∃ l0,(l::ls)[i]?=some l0/\∀ v,KA C hp AB w (BK C hp AB w) l0 v->KA C hp0 at0 w ro' l' v:=by grind
   cases s with
   | sl e=>
    simp only [SB] at h;split at h
    ·rename_i l2 r hx hr;cases h;refine fin hr rfl (fun v hv=>?_);unfold wo at hx;split at hx;·cases hx;exact hv
     ·cases hx;exact hv
     ·split at hx;·rename_i xs hx';cases hx;exact Atp hC m hK hr1 hr2 (hss e (by simp)) hv hx'
      simp_all
    ·cases h
   | _=>
    simp only [SB] at h;split at h;·rename_i r hf hr;cases h;exact fin hr rfl (fun v hv=>Acs hf (fun e h=>by cases h) _ _ _ _ _ _ _ _ v hv)
    ·cases h
theorem Aco:∀ (k t e:Nat),Sh.sl e ∈ RQ C k t->∃ t',(C.ti t').kind=.sl e:=by intro k;induction k<;>grind [RQ]
end
end Go.Ev
