/- Elements that are arrays: what an element of such a type is, where nothing looks into it. -/
import Derived.Test.YtaalgheapdmjnaaGreatDoorSnd38
namespace Go.Ev
open Go
structure Bools (n:Nat) where
 l:List Bool
 h:l.length=n
def XV (n:Nat):Bools n:=⟨List.replicate n false,List.length_replicate ..⟩
def ZL {El:Nat->Type} {e:Nat} (n:Nat) (f:El e->Bools n) (g:Bools n->El e):Ve El e:=
 { sh:=List.replicate n .bool,enc:=fun x=>(f x).l.map .bool,dec:=fun cs=>g ⟨(List.range n).map fun i=>(cs.getD i .junk).toBool,by simp⟩,z:=g (XV n),int?:=none }
section
variable {C:Ctx}
theorem ARZ:∀ (n:Nat) (cs:List (L C.El)),fitAll (List.replicate n .bool) cs=true->∃ bs:List Bool,cs=bs.map .bool/\bs.length=n
 | 0,cs,h=>⟨[],by grind [AII],rfl⟩
 | n+1,cs,h=>by
  obtain ⟨b,ls,rfl,h1⟩:=ARb (by rw [List.replicate_succ] at h;exact h)
  obtain ⟨bs,rfl,h2⟩:=ARZ n ls h1
  exact ⟨b::bs,rfl,by rw [List.length_cons,h2]⟩
theorem AZs:∀ (n:Nat) (bs:List Bool),bs.length=n->fitAll (List.replicate n .bool) (bs.map (L.bool (El:=C.El)))=true
 | 0,[],_=>rfl
 | n+1,b::bs,h=>by simp_all [List.replicate_succ,AZs,fitAll,L.fits]
theorem fV {n e:Nat} {f:C.El e->Bools n} {g:Bools n->C.El e} (h:∀ b,f (g b)=b) (hsz:(C.ti e).size=n):qW C e (ZL n f g):=by
 refine ⟨fun x=>?_,fun cs hf=>?_,fun x=>AZs n _ (f x).h,?_,fun _ _ hi=>by cases hi⟩;·show ((f x).l.map L.bool).length=_;rw [List.length_map,(f x).h,hsz]
 ·obtain ⟨bs,rfl,hl⟩:=ARZ n cs hf
  show ((f (g _)).l.map L.bool)=_;grind [List.ext_getElem,L.toBool]
 ·show ((f (g (XV n))).l.map L.bool).all Oa=true;rw [List.all_eq_true];intro l hl;obtain ⟨b,_,rfl⟩:=List.mem_map.1 hl
  rfl
end
end Go.Ev
