/- Cells that go out, and come in elsewhere. -/
import Derived.Test.YtkbbicgglblfiaaGreatDoorSnd22
namespace Go.Ev
open Go
section
variable {C:Ctx} {P:Program} {hp hp2:Hp C} {AB at2:At} {w w':World} {Ai:Nat->Prop} {w0:World} {Avn:Nat->Nat->Prop} {n:Nat} {env:Env C} {a:Act}
def Same (l:L C.El):Prop:=∀ (hp hp2:Hp C) (AB at2:At) (w w':World) (ro ro':Nat->Prop) (v:Value),KA C hp AB w ro l v->KA C hp2 at2 w' ro' l v
def From (C:Ctx) (hp:Hp C) (io:Bool) (l:L C.El) (id:Option (Nat×Nat)) (e:Nat) (xs:List (C.El e)):Prop:=
 (∃ j,l=.own j/\id=some (j,0)/\(look hp j .dead=.sl e xs\/(io=true/\look hp j .dead=.io e xs)))\/(l=.JI/\id=none/\xs=[])
theorem Acs {s:Sh} {l:L C.El} (h:l.fits s=true) (hs:∀ e,s≠.sl e):Same (C:=C) l:=by
 cases s <;> cases l <;> simp [L.fits] at h <;> intro hp hp2 AB at2 w w' ro ro' v hr <;> first
  | exact hr
  | grind
theorem RP (mk:(e:Nat)->List (C.El e)->AxP C.El) {io pl:Bool}:∀ (ss:List Sh) (ls ls':List (L C.El)) (ids:List (Option (Nat×Nat))) (base:Nat),Ja C hp io pl ss ls=some (ls',ids)->
  (into C mk base ls').1.length=ls.length/\(into C mk base ls').2.length=ids.length/\
  (∀ k,k<ids.length->∃ l e xs,l ∈ ls/\(into C mk base ls').2[k]?=some (base+k,mk e xs)/\From C hp io l (ids.getD k none) e xs/\(pl=true->Axz (C.Aw e).sh=true))/\
  (∀ (i:Nat) (l2:L C.El),(into C mk base ls').1[i]?=some l2->∃ l,ls[i]?=some l/\((l2=l/\Same (C:=C) l)\/∃ k e xs,l2=.own (base+k)/\k<ids.length/\(into C mk base ls').2[k]?=some (base+k,mk e xs)/\From C hp io l (ids.getD k none) e xs)):=by
 intro ss;induction ss with
 | nil=>
  grind [Ja,into]
 | cons s ss ih=>
  intro ls ls' ids base h;cases ls with
  | nil=>simp [Ja] at h
  | cons l ls=>
   simp only [Ja] at h;split at h;·cases h
   ·rename_i r hr;obtain ⟨r1,r2⟩:=r
    have row:∀ {e:Nat} {xs:List (C.El e)} {id:Option (Nat×Nat)},ls'=.Ns e xs::r1->ids=id::r2->From C hp io l id e xs->(pl=true->Axz (C.Aw e).sh=true)->
      (into C mk base ls').1.length=(l::ls).length/\(into C mk base ls').2.length=ids.length/\
      (∀ k,k<ids.length->∃ l' e xs,l' ∈ l::ls/\(into C mk base ls').2[k]?=some (base+k,mk e xs)/\From C hp io l' (ids.getD k none) e xs/\(pl=true->Axz (C.Aw e).sh=true))/\
      (∀ (i:Nat) (l2:L C.El),(into C mk base ls').1[i]?=some l2->∃ l',(l::ls)[i]?=some l'/\((l2=l'/\Same (C:=C) l')\/∃ k e xs,l2=.own (base+k)/\k<ids.length/\(into C mk base ls').2[k]?=some (base+k,mk e xs)/\From C hp io l' (ids.getD k none) e xs)):=by
     intro e xs id h1 h2 h3 h4;subst h1;subst h2;obtain ⟨g1,g2,g3,g4⟩:=ih ls r1 r2 (base+1) hr
     refine ⟨by simp [into,g1],by simp [into,g2],fun k hk=>?_,fun i l2 hi=>?_⟩
     ·cases k with
      | zero=>grind [into]
      | succ k=>
       grind [into]
     ·cases i with
      | zero=>
       grind [into,List.getElem?_cons_zero]
      | succ i=>
       simp only [into,List.getElem?_cons_succ] at hi;obtain ⟨l',k1,k2⟩:=g4 i l2 hi
       refine ⟨l',by assumption,?_⟩;rcases k2 with k2 | ⟨k,e',xs',k3,k4,k5,k6⟩
       ·simp_all
       ·right;refine ⟨k+1,e',xs',by grind,by simp_all,?_,by assumption⟩;grind [into]
    have keep:ls'=l::r1->ids=r2->Same (C:=C) l->into C mk base (l::r1)=(l::(into C mk base r1).1,(into C mk base r1).2)->
      (into C mk base ls').1.length=(l::ls).length/\(into C mk base ls').2.length=ids.length/\
      (∀ k,k<ids.length->∃ l' e xs,l' ∈ l::ls/\(into C mk base ls').2[k]?=some (base+k,mk e xs)/\From C hp io l' (ids.getD k none) e xs/\(pl=true->Axz (C.Aw e).sh=true))/\
      (∀ (i:Nat) (l2:L C.El),(into C mk base ls').1[i]?=some l2->∃ l',(l::ls)[i]?=some l'/\((l2=l'/\Same (C:=C) l')\/∃ k e xs,l2=.own (base+k)/\k<ids.length/\(into C mk base ls').2[k]?=some (base+k,mk e xs)/\From C hp io l' (ids.getD k none) e xs)):=by
     intro h1 h2 hsame hin;subst h1;subst h2;obtain ⟨g1,g2,g3,g4⟩:=ih ls r1 ids base hr
     rw [hin];refine ⟨by simp [g1],g2,fun k hk=>?_,fun i l2 hi=>?_⟩;all_goals grind
    cases s with
    | sl e=>
     simp only at h;split at h
     ·rename_i id hpl;have hpl':pl=true->Axz (C.Aw e).sh=true:=fun hp'=>by grind
      split at h
      ·rename_i e' xs hl;split at h
       ·rename_i ys hc;obtain ⟨rfl,rfl⟩:=Awd hc
        simp only [Option.some.injEq,Prod.mk.injEq] at h;exact row h.1.symm h.2.symm (.inl ⟨id,rfl,rfl,.inl hl⟩) hpl'
       ·cases h
      ·rename_i e' xs hl;split at h
       ·rename_i ys HX hc;obtain ⟨rfl,rfl⟩:=Awd hc
        simp only [Option.some.injEq,Prod.mk.injEq] at h;exact row h.1.symm h.2.symm (.inl ⟨id,rfl,rfl,.inr ⟨rfl,hl⟩⟩) hpl'
       ·cases h
      ·cases h
     ·rename_i hpl;have hpl':pl=true->Axz (C.Aw e).sh=true:=fun hp'=>by grind
      simp only [Option.some.injEq,Prod.mk.injEq] at h;exact row h.1.symm h.2.symm (.inr ⟨rfl,rfl,rfl⟩) hpl'
     ·split at h;·cases h
      ·simp only [Option.some.injEq,Prod.mk.injEq] at h;exact keep h.1.symm h.2.symm (fun _ _ _ _ _ _ _ _ _ h=>h) rfl
     ·cases h
    | _=>
     simp only at h;split at h
     ·rename_i hf;simp only [Option.some.injEq,Prod.mk.injEq] at h;obtain ⟨rfl,rfl⟩:=h
      exact keep rfl rfl (Acs hf (fun e h=>by cases h)) (by cases l <;> first | rfl | simp_all [L.fits])
     ·cases h
theorem Atj {io pl:Bool}:∀ (ss:List Sh) (ls ls':List (L C.El)) (ids:List (Option (Nat×Nat))),Ja C hp io pl ss ls=some (ls',ids)->∀ i o,L.ptr i o ∉ ls':=by
 intro ss ls ls' ids h i o hm;obtain ⟨k,hk⟩:=List.mem_iff_getElem?.1 hm
 obtain ⟨_,_,_,g4⟩:=RP (fun e xs=>AxP.sl e xs) ss ls ls' ids 0 h
 have hin:∀ (ls:List (L C.El)) (base k:Nat),ls[k]?=some (.ptr i o)->(into C (fun e xs=>AxP.sl e xs) base ls).1[k]?=some (.ptr i o):=by
  intro ls;induction ls with
  | nil=>simp
  | cons l ls ih=>
   intro base k h;cases k with
   | zero=>simp at h;subst h;rfl
   | succ k=>
    have h':ls[k]?=some (.ptr i o):=by assumption
    cases l <;> simpa [into] using ih _ k h'
 obtain ⟨l,_,h2⟩:=g4 k _ (hin _ 0 k hk)
 rcases h2 with ⟨rfl,hs⟩ | ⟨k',e,xs,h3,_⟩
 ·have h0:KA C [(i,AxP.dead)] (fun _=>some (0,0)) default (fun _=>False) (.ptr i o) (.pointer (some ⟨0,0+o,none⟩)):=⟨UO _ _ _,0,0,rfl,rfl⟩
  have h1:=hs [(i,AxP.dead)] [] (fun _=>some (0,0)) (fun _=>none) default default (fun _=>False) (fun _=>False) _ h0;obtain ⟨h1,_⟩:=h1
  simp_all
 simp_all
end
end Go.Ev
