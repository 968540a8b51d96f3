/- A callee's first state. -/
import Derived.Test.YtkbbicgglblfiaaGreatDoorSnd25
namespace Go.Ev
open Go
section
variable {C:Ctx} {P:Program} {hp AF hp0 H:Hp C} {AB at0:At} {w w':World} {Ai:Nat->Prop} {w0:World} {Avn:Nat->Nat->Prop} {n:Nat} {env:Env C} {a:Act}
def FP (AB:At) (Z:List (Nat×Option (Nat×Nat))):At:=fun i=>(look Z i none).bind fun p=>(AB p.1).map fun x=>(x.1,x.2+p.2)
def Oj (Z:List (Nat×Option (Nat×Nat))) (i:Nat):Nat:=((look Z i none).map (·.1)).getD 0
theorem AKF (m:Mem C w0 Avn hp AB Ai w) {Z:List (Nat×Option (Nat×Nat))} (hH:(H.map (·.1)).Nodup) (hZ:(Z.map (·.1)).Nodup) {io:Bool} {l l2:L C.El} {v:Value} {ro':Nat->Prop} (h:KA C hp AB w (BK C hp AB w) l v) (hc:TD C hp H Z io l l2) :
  KA C H (FP AB Z) w ro' l2 v:=by
 rcases hc with ⟨rfl,hs⟩ | ⟨i,id,e,xs,rfl,h1,h2,h3⟩
 ·exact hs _ _ _ _ _ _ _ _ v h
 ·have hlk:=AxF (d:=AxP.dead) hH h2;have hz:=AxF (d:=(none:Option (Nat×Nat))) hZ h1;rcases h3 with ⟨j,rfl,rfl,h4⟩ | ⟨rfl,rfl,rfl⟩
  ·have hone:=h.1;have hat:FP AB Z i=AB j:=by simp_all [FP]
   refine ⟨hone,ak h2,?_⟩;rw [hlk,hat];rcases h4 with h4 | ⟨rfl,h4⟩
   ·grind [YO]
   ·have hy:=h.2.2;simp_all
  ·have hat:FP AB Z i=none:=by simp [FP,hz]
   have hv:v=.slice none 0 0:=h;subst hv;refine ⟨rfl,ak h2,?_⟩;grind
theorem AUB (m:Mem C w0 Avn hp AB Ai w) {Z:List (Nat×Option (Nat×Nat))} (hH:(H.map (·.1)).Nodup) (hZ:(Z.map (·.1)).Nodup) {i:Nat} {id:Option (Nat×Nat)} {o:AxP C.El} (h1:(i,id) ∈ Z) (h2:(i,o) ∈ H) (h:AER C hp H Z id o) :
  vV C hp H AB (FP AB Z) w (Oj Z i) i\/(FP AB Z i=none/\((∃ e,look H i .dead=.sl e [])\/∃ e,look H i .dead=.io e [])):=by
 have hlk:=AxF (d:=AxP.dead) hH h2;have hz:=AxF (d:=(none:Option (Nat×Nat))) hZ h1;rcases h with ⟨io,l,e,xs,h3,rfl,h4⟩ | ⟨j,cs,cs2,off,rfl,h3,rfl,h4,hpos,h5⟩
 ·rcases h3 with ⟨j,rfl,rfl,h6⟩ | ⟨rfl,rfl,rfl⟩
  ·left;have hat:FP AB Z i=AB j:=by simp_all [FP]
   have hs:Oj Z i=j:=by simp [Oj,hz]
   rw [hs];cases io with
   | false=>
    rcases h6 with h6 | ⟨h6,_⟩
    ·exact .inl ⟨e,xs,h6,by assumption,hat,h4⟩
    simp_all
   | true=>exact .inr (.inl ⟨e,xs,h6.imp id (fun h=>h.2),by assumption,hat,h4⟩)
  ·right;refine ⟨by simp [FP,hz],?_⟩;grind
 ·left;have hs:Oj Z i=j:=by simp [Oj,hz]
  rw [hs];have hob:=m.obj j;simp only [OA,h3] at hob;obtain ⟨b,o',ha,_⟩:=hob
  refine .inr (.inr ⟨cs,cs2,b,o',off,h3,hlk,ha,by simp_all [FP],hpos,fun k l2 hk=>?_⟩);grind [AKF]
theorem AKE {p:Nat×Nat}:∀ {ids:List (Option (Nat×Nat))},some p ∈ ids->p.1 ∈ E5 ids:=by
 intro ids;induction ids with
 | nil=>simp
 | cons x ids ih=>
  intro h;rcases List.mem_cons.1 h with e | hm
  ·grind [E5]
  ·cases x<;>simp_all [E5]
theorem zip_inj {i j:Nat} {p q:Nat×Nat}:∀ (keys:List Nat) (ids:List (Option (Nat×Nat))),(E5 ids).Nodup->(i,some p) ∈ keys.zip ids->(j,some q) ∈ keys.zip ids->p.1=q.1->i=j:=by
 intro keys;induction keys with
 | nil=>simp
 | cons k keys ih=>
  intro ids hn h1 h2 he;cases ids with
  | nil=>simp at h1
  | cons x ids=>
   rw [List.zip_cons_cons] at h1 h2;have tl:(E5 ids).Nodup:=by cases x<;>simp_all [E5]
   rcases List.mem_cons.1 h1 with e1 | m1 <;> rcases List.mem_cons.1 h2 with e2 | m2
   ·simp_all
   ·cases e1;simp only [E5] at hn;exact absurd (by rw [he];exact AKE (List.of_mem_zip m2).2) (List.nodup_cons.1 hn).1
   ·cases e2;simp only [E5] at hn;exact absurd (by rw [<-he];exact AKE (List.of_mem_zip m1).2) (List.nodup_cons.1 hn).1
   grind
theorem Ack (hC:EW C P) (m:Mem C w0 Avn hp AB Ai w) {ts:List Nat} {ms:List Mode'} {vs:List (Val C.El)} {gs:List (Option (U C.El))} {ids:List (Option (Nat×Nat))} {us:List (U C.El)} {q:Env C×Hp C}
  (hg:give C hp ms ts vs=some (gs,ids)) (hh:hand C AF gs ts vs=some us) (he:enter C 0 ms ts us=some q) (hn:(q.2.map (·.1)).Nodup) (hs:(E5 ids).Nodup) :
  Mem C w (IX C q.2 (FP AB ((q.2.map (·.1)).zip ids))) q.2 (FP AB ((q.2.map (·.1)).zip ids)) (fun _=>False) w/\(∀ b,BK C hp AB w b->BK C q.2 (FP AB ((q.2.map (·.1)).zip ids)) w b):=by
 obtain ⟨g1,g2,g3⟩:=AKC ts 0 ms vs gs ids us q q.2 ((q.2.map (·.1)).zip ids) hg hh he (fun _ h=>h) (fun _ h=>h)
 have hZ:(((q.2.map (·.1)).zip ids).map (·.1)).Nodup:=by simp_all [List.map_fst_zip]
 refine Mem.entry hC.Aw m (Oj ((q.2.map (·.1)).zip ids)) (fun i hl=>?_) (fun i j hi hj hai haj hsrc=>?_)
 ·have hm:=jT (d:=AxP.dead) rfl (UN hl);obtain ⟨k,hk⟩:=List.mem_iff_getElem?.1 hm
  have hlt:k<ids.length:=by grind
  exact AUB m hn hZ (jc hk hlt) hm (g2 k i _ hk)
 ·have get:∀ i,(FP AB ((q.2.map (·.1)).zip ids) i).isSome=true->∃ p,(i,some p) ∈ (q.2.map (·.1)).zip ids/\Oj ((q.2.map (·.1)).zip ids) i=p.1:=by intro i h;cases hz:look ((q.2.map (·.1)).zip ids) i none<;>grind [FP,jT,Oj]
  grind [zip_inj]
end
end Go.Ev
