/- What comes back from a callee: results. -/
import Derived.Test.YtkbbicgglblfiaaGreatDoorSnd27
namespace Go.Ev
open Go
section
variable {C:Ctx} {P:Program} {hp AF hpc:Hp C} {AB:At} {w:World} {Ai:Nat->Prop} {w0:World} {Avn:Nat->Nat->Prop}
def AEQ (C:Ctx) (hpc H:Hp C) (Z:List (Nat×Option (Nat×Nat))) (id:Option (Nat×Nat)) (o:AxP C.El):Prop:=
 (∃ l e xs,From C hpc false l id e xs/\o=.sl e xs)\/
 (∃ j cs cs2,id=some (j,0)/\look hpc j .dead=.var cs/\o=.var cs2/\cs2.length=cs.length/\∀ (k:Nat) (l2:L C.El),cs2[k]?=some l2->∃ l,cs[k]?=some l/\TD C hpc H Z false l l2)
theorem wF {pl:Bool} {ss:List Sh} {ls ls':List (L C.El)} {ids:List (Option (Nat×Nat))} {base:Nat} (h:Ja C hpc false pl ss ls=some (ls',ids)) {H:Hp C} {Z:List (Nat×Option (Nat×Nat))}
  (hH:∀ x,x ∈ (into C AxP.sl base ls').2->x ∈ H) (hZ:∀ x,x ∈ ((into C AxP.sl base ls').2.map (·.1)).zip ids->x ∈ Z) :
  (into C AxP.sl base ls').2.length=ids.length/\(∀ (k i:Nat) (o:AxP C.El),(into C AxP.sl base ls').2[k]?=some (i,o)->AEQ C hpc H Z (ids.getD k none) o)/\
  (∀ (k:Nat) (l2:L C.El),(into C AxP.sl base ls').1[k]?=some l2->∃ l,ls[k]?=some l/\TD C hpc H Z false l l2):=by
 obtain ⟨g1,g2,g3,g4⟩:=RP AxP.sl ss ls ls' ids base h
 refine ⟨g2,fun k i o hk=>?_,fun k l2 hk=>?_⟩
 ·have hlt:k<ids.length:=by grind
  obtain ⟨l,e,xs,_,h2,h3,h4⟩:=g3 k hlt
  rw [hk] at h2;cases h2;exact .inl ⟨l,e,xs,h3,rfl⟩
 ·obtain ⟨l,h1,h2⟩:=g4 k l2 hk
  refine ⟨l,h1,?_⟩;rcases h2 with h2 | ⟨j,e,xs,h3,h4,h5,h6⟩
  ·exact .inl h2
  ·right;grind [jc]
theorem AT8 (d:Nat):∀ (ts:List Nat) (us r1:List (U C.El)) (r2:List (Option (Nat×Nat))) (n:Nat) (H:Hp C) (Z:List (Nat×Option (Nat×Nat))),Sv C hpc ts us=some (r1,r2)->
  (∀ x,x ∈ (AyQ C d n r1).2.1->x ∈ H)->(∀ x,x ∈ ((AyQ C d n r1).2.1.map (·.1)).zip r2->x ∈ Z)->
  r1.length=ts.length/\(AyQ C d n r1).2.1.length=r2.length/\(∀ (k i:Nat) (o:AxP C.El),(AyQ C d n r1).2.1[k]?=some (i,o)->AEQ C hpc H Z (r2.getD k none) o)/\
  (AyQ C d n r1).1.length=us.length/\(∀ (p:Nat) (u2:U C.El),(AyQ C d n r1).1[p]?=some u2->∃ u,us[p]?=some u/\(wu C hpc H Z false u u2\/(∃ e xs,u=.arr e xs/\u2=.arr e xs)\/∃ id i o,u=.one (.ptr id 0)/\u2=.one (.ptr i 0)/\(i,some (id,0)) ∈ Z/\(i,o) ∈ H)):=by
 intro ts;induction ts with
 | nil=>
  grind [Sv,AyQ]
 | cons t ts ih=>
  intro us r1 r2 n H Z h hH hZ;cases us with
  | nil=>grind [Sv]
  | cons u us=>
   simp only [Sv] at h;split at h;·cases h
   ·rename_i q hq;obtain ⟨q1,q2⟩:=q
    split at h
    ·rename_i e xs;simp only [Option.some.injEq,Prod.mk.injEq] at h;obtain ⟨rfl,rfl⟩:=h
     obtain ⟨k0,k1,k2,k3,k4⟩:=ih us q1 q2 n H Z hq (fun x hx=>hH x (by assumption)) (fun x hx=>hZ x (by assumption))
     grind [AyQ]
    ·rename_i id;split at h
     ·rename_i e cs hpe hlk;split at h
      ·rename_i r hr;simp only [Option.some.injEq,Prod.mk.injEq] at h;obtain ⟨rfl,rfl⟩:=h
       obtain ⟨a1,a2⟩:=r
       have hlen:=YN _ _ _ _ hr;have hun:AyQ C d n (.agg (.ptr 0 0::a1)::q1)=(.one (.ptr (site d n) 0)::(AyQ C d (n+1+(into C AxP.sl (site d (n+1)) a1).2.length) q1).1,(site d n,.var (into C AxP.sl (site d (n+1)) a1).1)::((into C AxP.sl (site d (n+1)) a1).2++(AyQ C d (n+1+(into C AxP.sl (site d (n+1)) a1).2.length) q1).2.1),(AyQ C d (n+1+(into C AxP.sl (site d (n+1)) a1).2.length) q1).2.2):=rfl;simp only [hun] at hH hZ ⊢;have hin:=RP AxP.sl _ _ _ _ (site d (n+1)) hr;have hz:((site d n,AxP.var (into C AxP.sl (site d (n+1)) a1).1)::((into C AxP.sl (site d (n+1)) a1).2++(AyQ C d (n+1+(into C AxP.sl (site d (n+1)) a1).2.length) q1).2.1)).map (·.1)=site d n::((into C AxP.sl (site d (n+1)) a1).2.map (·.1)++(AyQ C d (n+1+(into C AxP.sl (site d (n+1)) a1).2.length) q1).2.1.map (·.1)):=by simp
       rw [hz,List.zip_cons_cons,vW (by simp_all)] at hZ;obtain ⟨b1,b2,b3⟩:=wF (H:=H) (Z:=Z) (base:=site d (n+1)) hr (fun x hx=>hH x (List.mem_cons_of_mem _ (List.mem_append_left _ hx))) (fun x hx=>hZ x (List.mem_cons_of_mem _ (List.mem_append_left _ hx)))
       obtain ⟨k0,k1,k2,k3,k4⟩:=ih us q1 q2 (n+1+(into C AxP.sl (site d (n+1)) a1).2.length) H Z hq (fun x hx=>hH x (List.mem_cons_of_mem _ (List.mem_append_right _ hx))) (fun x hx=>hZ x (List.mem_cons_of_mem _ (List.mem_append_right _ hx)))
       refine ⟨by simp [k0],?_,fun k i o hk=>?_,by simp [k3],fun p u2 hp'=>?_⟩;·grind
       ·cases k with
        | zero=>
         simp only [List.getElem?_cons_zero,Option.some.injEq,Prod.mk.injEq] at hk;obtain ⟨rfl,rfl⟩:=hk
         exact .inr ⟨id,cs,_,rfl,hlk,rfl,by omega,b3⟩
        | succ k=>
         grind
       ·cases p with
        | zero=>
         grind
        | succ p=>grind
      ·cases h
     ·cases h
    ·rename_i hne hne2;split at h
     ·rename_i r hr;simp only [Option.some.injEq,Prod.mk.injEq] at h;obtain ⟨rfl,rfl⟩:=h
      obtain ⟨a1,a2⟩:=r
      have ha:U.TF C u=false:=by cases u <;> first | rfl | grind
      have hlen:=YN _ _ _ _ hr;obtain ⟨hc1,_⟩:=vX ha hlen []
      have hun:AyQ C d n (U.like C u a1::q1)=(U.like C (U.like C u a1) (into C AxP.sl (site d n) a1).1::(AyQ C d (n+(into C AxP.sl (site d n) a1).2.length) q1).1,(into C AxP.sl (site d n) a1).2++(AyQ C d (n+(into C AxP.sl (site d n) a1).2.length) q1).2.1,(AyQ C d (n+(into C AxP.sl (site d n) a1).2.length) q1).2.2):=by
       cases u with
       | one l=>match a1,hlen with
        | [l2],_=>rfl
       | agg cs=>
        have hn:=Atj _ _ _ _ hr;match a1,hn with
        | [],_=>rfl
        | .ptr i o::_,hn=>grind
        | .int _ _::_,_ | .bool _::_,_ | .str _::_,_ | .BG _ _::_,_ | .Ns _ _::_,_ | .own _::_,_ | .sub _ _ _::_,_ | .JI::_,_ | .Ji _ _ _::_,_ | .PW _ _ _::_,_ | .PX _ _::_,_ | .J4::_,_ | .TA _::_,_ | .Wq::_,_ | .fn _::_,_ | .any::_,_ | .junk::_,_=>rfl
       | arr e xs=>cases ha
      simp only [hun] at hH hZ ⊢;have hin:=RP AxP.sl _ _ _ _ (site d n) hr;have hz:((into C AxP.sl (site d n) a1).2++(AyQ C d (n+(into C AxP.sl (site d n) a1).2.length) q1).2.1).map (·.1)=(into C AxP.sl (site d n) a1).2.map (·.1)++(AyQ C d (n+(into C AxP.sl (site d n) a1).2.length) q1).2.1.map (·.1):=List.map_append;rw [hz,vW (by simp_all)] at hZ;obtain ⟨b1,b2,b3⟩:=wF (H:=H) (Z:=Z) (base:=site d n) hr (fun x hx=>hH x (List.mem_append_left _ hx)) (fun x hx=>hZ x (List.mem_append_left _ hx))
      obtain ⟨k0,k1,k2,k3,k4⟩:=ih us q1 q2 (n+(into C AxP.sl (site d n) a1).2.length) H Z hq (fun x hx=>hH x (List.mem_append_right _ hx)) (fun x hx=>hZ x (List.mem_append_right _ hx))
      refine ⟨by simp [k0],(List.length_append).trans ((congr (congrArg HAdd.hAdd b1) k1).trans (List.length_append).symm),fun k i o hk=>?_,by simp [k3],fun p u2 hp'=>?_⟩;all_goals grind [vX,AUE]
     ·cases h
end
end Go.Ev
