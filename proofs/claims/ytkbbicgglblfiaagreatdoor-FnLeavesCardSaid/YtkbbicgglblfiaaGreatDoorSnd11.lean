/- What the evaluator tells of rows that are read whole, made or converted is what the machine does. -/
import Derived.Test.YtkbbicgglblfiaaGreatDoorSnd10
namespace Go.Ev
set_option linter.unusedVariables false
set_option linter.unusedSimpArgs false
open Go
section
variable {C:Ctx} {P:Program} {hp:Hp C} {AB:At} {w w':World} {Ai:Nat->Prop} {w0:World} {Avn:Nat->Nat->Prop} {n:Nat} {env:Env C} {a:Act}
variable {γ:Type} {K:Val C.El->Hp C->Option γ} {r:γ} {o:Oper} {AC:Nat->Nat} {call:Nat->List (U C.El)->(List (U C.El)->Option γ)->Option γ}
theorem Awd {e e':Nat} {xs:List (C.El e)} {ys:List (C.El e')} (h:cast xs=some ys):∃ q:e=e',q ▸ xs=ys:=by grind [cast]
def Reads (w:World) (v:Value) (len:Nat) (vs:List Value):Prop:=
 ∃ A cap,v=.slice A len cap/\(∀ q:Addr,A=some q->∀ j u,vs[j]?=some u->w.cell? (q.add j)=some u)/\(A=none->vs=[])
theorem Reads.empty (v:Value) (A:Option Addr) (cap:Nat) (h:v=.slice A 0 cap):Reads w v 0 []:=⟨A,cap,h,fun _ _ j u hu=>by simp at hu,fun _=>rfl⟩
theorem Reads.first {v:Value} {len sz:Nat} {vs:List Value} (h:Reads w v len vs) (hl:vs.length=len*sz):(Builtin.firstCells sz len v).run P w=.ok vs.toArray w:=by
 obtain ⟨A,cap,rfl,h1,h2⟩:=h
 cases A with
 | none=>rw [h2 rfl];rfl
 | some q=>
  grind [Builtin.firstCells,run_loadCells_list]
theorem Axl.nil {e:Nat} {R:Nat->Prop}:Axl C w R ([]:List (C.El e)) []:=⟨by simp,fun j x i l h=>by simp at h⟩
theorem AEW {e b o:Nat} (hC:Ph C e) {xs:List (C.El e)} {R:Nat->Prop} (hc:∀ (j:Nat) (x:C.El e) (i:Nat) (l:L C.El),xs[j]?=some x->((C.Aw e).enc x)[i]?=some l->∃ v,w.cell? ⟨b,o+(j*(C.ti e).size+i),none⟩=some v/\Rep C w R l v) {len cap:Nat} (hl:xs.length=len) :
  ∃ vs,Reads w (.slice (some ⟨b,o,none⟩) len cap) len vs/\Axl C w R xs vs:=by
 obtain ⟨vs,h1,h2,h3⟩:=AKQ hC hc
 exact ⟨vs,⟨_,cap,rfl,fun q hq j u hu=>by cases hq;rw [Addr.add_mid];exact h2 j u hu,fun h=>by cases h⟩,h1,h3⟩
def vZ (C:Ctx) (hp:Hp C) (AB:At) (w:World) (Ai:Nat->Prop):L C.El->Nat->Prop
 | .BG _ _=>BK C hp AB w
 | _=>Ai
theorem Ac8 (hC:EW C P) (m:Mem C w0 Avn hp AB Ai w) {l:L C.El} {v:Value} {e:Nat} {ys:List (C.El e)} (hs:0<(C.ti e).size) (h:KA C hp AB w (BK C hp AB w) l v) (hr:rowOf C hp e l=some ys) :
  ∃ vs,Reads w v ys.length vs/\Axl C w (vZ C hp AB w Ai l) ys vs:=by
 cases l with
 | own id=>
  simp only [rowOf] at hr;split at hr
  ·rename_i e' xs hl;obtain ⟨rfl,rfl⟩:=Awd hr
   rcases YO (ro:=BK C hp AB w) m hl h with ⟨rfl,hv,_⟩ | ⟨b,cap,arr,fr,ha,hv,_⟩
   ·exact ⟨[],Reads.empty v _ _ hv,Axl.nil⟩
   ·have hob:=m.obj id;simp only [OA,hl,ha] at hob;obtain ⟨_,cap',arr',fr',_,_,_,_,_,q6⟩:=hob
    subst hv;exact AEW (hC.Aw e') (fun j x i l h1 h2=>by rw [Nat.zero_add];exact q6 j x i l h1 h2) rfl
  ·rename_i e' xs hl;obtain ⟨rfl,rfl⟩:=Awd hr
   have hy:=(h:KA C hp AB w (BK C hp AB w) (.own id) v).2.2;have hob:=m.obj id;simp only [hl] at hy;simp only [OA,hl] at hob;cases ha:AB id with
   | none=>simp only [ha] at hy;obtain ⟨A,c,hv,rfl⟩:=hy;exact ⟨[],Reads.empty v _ _ hv,Axl.nil⟩
   | some p=>
    obtain ⟨b,off⟩:=p
    simp only [ha] at hy hob;obtain ⟨cap,rfl,_⟩:=hy
    exact AEW (hC.Aw e') (fun j x i l h1 h2=>by obtain ⟨_,v,h3,h4⟩:=hob j x i l h1 h2;exact ⟨v,h3,h4.mono (fun _ h=>h.elim)⟩) rfl
  simp_all
 | sub id off len=>
  simp only [rowOf] at hr;split at hr
  ·rename_i e' xs hl;obtain ⟨zs,hz,rfl⟩:=Option.map_eq_some_iff.1 hr
   obtain ⟨rfl,rfl⟩:=Awd hz
   rcases AKI (ro:=BK C hp AB w) m hl hs h with ⟨rfl,rfl,hv⟩ | ⟨b,cap,arr,fr,A,ha,hv,h3,h4,_,_,h5,h6⟩
   ·simp only [List.take_zero,List.length_nil];exact ⟨[],Reads.empty v _ _ hv,Axl.nil⟩
   ·have hlen:((xs.drop off).take len).length=len:=by grind
    have hob:=m.obj id;simp only [OA,hl,ha] at hob;obtain ⟨_,cap',arr',fr',_,_,_,_,_,q6⟩:=hob
    subst hv;rcases Nat.lt_or_ge off cap with hlt | hge
    ·rw [h5 hlt,hlen];refine AEW (hC.Aw e') (fun j x i l h1 h2=>?_) hlen;have:xs[off+j]?=some x:=by grind
     obtain ⟨v,h7,h8⟩:=q6 (off+j) x i l this h2
     exact ⟨v,by grind,h8⟩
    ·have:len=0:=by omega
     subst this;simp only [List.take_zero,List.length_nil];exact ⟨[],Reads.empty _ _ _ rfl,Axl.nil⟩
  simp_all
 | BG e' xs=>
  simp only [rowOf] at hr;obtain ⟨rfl,rfl⟩:=Awd hr
  have h:Rep C w (BK C hp AB w) (.BG e' xs) v:=h;cases h with
  | none _ A c=>exact ⟨[],Reads.empty _ A c rfl,Axl.nil⟩
  | BG _ _ b off c V hb hl hc hrr=>
   exact AEW (hC.Aw e') (fun j x i l h1 h2=>⟨V j i,hc j x i l h1 h2,hrr j x i l h1 h2⟩) rfl
 | JI=>
  simp only [rowOf,Option.some.injEq] at hr;subst hr;exact ⟨[],Reads.empty v none 0 h,Axl.nil⟩
 | _=>simp [rowOf] at hr
theorem AdA {α β:Type} (h:α=β) (l:List α) (j:Nat):(h ▸ l:List β)[j]?=(l[j]?).map (fun x=>h ▸ x):=by subst h;simp
theorem Aus {α β:Type} (h:α=β) (l:List α):(h ▸ l:List β).length=l.length:=by grind
theorem cast_eq {α β:Type} (h:α=β) (l:List β):h ▸ (h.symm ▸ l:List α)=l:=by grind
theorem Aut (s:AA) (j:Nat):(bytesOf s)[j]?=(s.data[j]?).map (fun b=>(b.toNat:Int)):=by simp [bytesOf]
theorem AUP (s:AA):(bytesOf s).length=s.size:=by simp [bytesOf]
theorem Ac9 {e:Nat} (hC:Ph C e) {h:Int=C.El e} (hi:(C.Aw e).int?=some ⟨h⟩) (hk:(C.ti e).kind=.int .u8) (hone:(C.ti e).size=1) (s:AA) (R:Nat->Prop) :
  Axl C w R (h ▸ bytesOf s:List (C.El e)) (s.data.map fun b=>Value.int .u8 b.toNat).toList:=by
 refine ⟨by simp_all [Aus,AUP],fun j x i l hx hl=>?_⟩;rw [AdA,Aut] at hx;simp only [Option.map_map,Option.map_eq_some_iff] at hx;obtain ⟨b,hb,rfl⟩:=hx
 simp only [Function.comp] at hl;rw [hC.int h .u8 hi hk] at hl;cases i with
 | zero=>
  simp at hl;subst hl;exact ⟨.int .u8 b.toNat,by simp_all,.int _ _⟩
 | succ i=>simp at hl
end
end Go.Ev
