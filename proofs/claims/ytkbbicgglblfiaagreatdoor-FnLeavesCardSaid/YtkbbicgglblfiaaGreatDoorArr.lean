/- Elements that are arrays: what an element of such a type is, where nothing looks into it. -/
import Derived.Test.YtkbbicgglblfiaaGreatDoorSnd38
namespace Go.Ev
open Go
structure Bools (n:Nat) where
 l:List Bool
 h:l.length=n
def YV (n:Nat):Bools n:=⟨List.replicate n false,List.length_replicate ..⟩
def bG {El:Nat->Type} {e:Nat} (n:Nat) (f:El e->Bools n) (g:Bools n->El e):Wu El e:=
 { sh:=List.replicate n .bool,enc:=fun x=>(f x).l.map .bool,dec:=fun cs=>g ⟨(List.range n).map fun i=>(cs.getD i .junk).toBool,by simp⟩,z:=g (YV n),int?:=none }
section
variable {C:Ctx}
theorem AUa:∀ (n:Nat) (cs:List (L C.El)),fitAll (List.replicate n .bool) cs=true->∃ bs:List Bool,cs=bs.map .bool/\bs.length=n
 | 0,cs,h=>⟨[],by grind [AKi],rfl⟩
 | n+1,cs,h=>by
  obtain ⟨b,ls,rfl,h1⟩:=AUc (by rw [List.replicate_succ] at h;exact h)
  obtain ⟨bs,rfl,h2⟩:=AUa n ls h1
  exact ⟨b::bs,rfl,by rw [List.length_cons,h2]⟩
theorem AdK:∀ (n:Nat) (bs:List Bool),bs.length=n->fitAll (List.replicate n .bool) (bs.map (L.bool (El:=C.El)))=true
 | 0,[],_=>rfl
 | n+1,b::bs,h=>by simp_all [List.replicate_succ,AdK,fitAll,L.fits]
theorem jh {n e:Nat} {f:C.El e->Bools n} {g:Bools n->C.El e} (h:∀ b,f (g b)=b) (hsz:(C.ti e).size=n):vK C e (bG n f g):=by
 refine ⟨fun x=>?_,fun cs hf=>?_,fun x=>AdK n _ (f x).h,?_,fun _ _ hi=>by cases hi⟩;·show ((f x).l.map L.bool).length=_;rw [List.length_map,(f x).h,hsz]
 ·obtain ⟨bs,rfl,hl⟩:=AUa n cs hf
  show ((f (g _)).l.map L.bool)=_;grind [List.ext_getElem,L.toBool]
 ·show ((f (g (YV n))).l.map L.bool).all PY=true;rw [List.all_eq_true];intro l hl;obtain ⟨b,_,rfl⟩:=List.mem_map.1 hl
  rfl
end
end Go.Ev
