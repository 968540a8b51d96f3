/- What the evaluator tells of an operation (but for calls) is what the machine does. -/
import Derived.Test.YtkbbicgglblfiaaGreatDoorSnd16
namespace Go.Ev
open Go
section
variable {C:Ctx} {P:Program} {hp:Hp C} {AB:At} {w w':World} {Ai:Nat->Prop} {w0:World} {Avn:Nat->Nat->Prop} {n:Nat} {env:Env C} {a:Act}
variable {γ:Type} {K:Val C.El->Hp C->Option γ} {r:γ} {o:Oper} {AC:Nat->Nat} {call:Nat->List (U C.El)->(List (U C.El)->Option γ)->Option γ}
theorem AuC (hC:EW C P) (st:St C w0 Avn n env hp AB Ai a w) (t:TypeId) (ps:Array (Nat×Operand)) {m e:Nat} (hk:(C.ti t).kind=.arr m e) (ho:o.op=.build t ps) (h:ET C P AC call env hp o K r):Sound C P w0 Avn hp AB a w o K r:=by
 unfold ET at h;rw [ho] at h;simp only [Ci,hk] at h;split at h
 ·rename_i q hq hpl;obtain ⟨xs',dl'⟩:=q
  obtain ⟨hu,hs,hsz,_⟩:=AKM hC hk
  obtain ⟨i,hi,_,_,z,hz,hzz⟩:=(hC.ty t (by simp_all)).info
  rw [hk] at hzz;obtain ⟨zc,rfl,hzl⟩:=hzz
  have hzero:(zeroValue t).run P w=.ok (.agg zc) w:=by simp_all [zeroValue,typeInfo]
  have hrow:Axl C w Ai (List.replicate m (C.Aw e).z) zc.toList:=by
   have hfl:(List.replicate m ((C.Aw e).enc (C.Aw e).z)).flatten=(List.replicate m (C.Aw e).z).flatMap (C.Aw e).enc:=by simp [List.flatMap_def]
   rw [hfl] at hzl;refine ⟨by rw [hzl,List.length_map,AET _ _ (hC.Aw e).len],?_⟩
   have:=replicate_zero (w:=w) (hC.Aw e) (zs:=((C.Aw e).enc (C.Aw e).z).map lv) rfl (m:=m) (arr:=zc) (fun j i' hj hi'=>by
    have h1:zc[j*(C.ti e).size+i']?=zc.toList[j*(C.ti e).size+i']?:=by simp
    rw [h1,hzl,List.getElem?_map,List.getElem?_map,flat_get _ _ (hC.Aw e).len _ j i' (C.Aw e).z (by simp [hj]) hi']) Ai
   grind
  obtain ⟨AE,arr',g1,g2,g3,g4,g5,g6,g7⟩:=AUI (hC.Aw e) (place:=fun i=>some (i*(C.ti e).size,(C.ti e).size)) (fun _=>rfl) ps.toList [] dl' Ai _ xs' _ (fun p _=>Awr st p.2) st.mem hrow hq
  have hparts:(ps.map fun (i,x)=>(i,a.eval x)).toList=ps.toList.map fun (i,x)=>(i,a.eval x):=by simp
  have g8:=g6.plain (R':=fun _=>False) (hC.Aw e) hpl;intro next Q hn
  refine Avs (v:=.agg arr') ?_ (hn _ _ _ _ h ⟨AB,AE,g2,⟨arr',rfl,by simpa using g8.1,fun j x i l hx hl=>by
   obtain ⟨u,h1,h2⟩:=g8.2 j x i l hx hl
   grind⟩,g3,fun b hb=>⟨g4 b hb,rfl⟩,Ext.refl w⟩)
  simp only [execOp,ho,Instr.build,Sem.run_bind,hzero,Result.andThen_ok,run_underlying hu,hsz,Value.cells,hparts,g1];rfl
 ·cases h
def ah (C:Ctx) (P:Program) {γ:Type} (AC:Nat->Nat) (call:Nat->List (U C.El)->(List (U C.El)->Option γ)->Option γ):Prop:=
 ∀ (w0:World) (Avn:Nat->Nat->Prop) (n:Nat) (env:Env C) (hp:Hp C) (AB:At) (Ai:Nat->Prop) (a:Act) (w:World) (o:Oper) (g:Nat) (args:Array Operand) (argTypes:Array TypeId) (K:Val C.El->Hp C->Option γ) (r:γ),
  JX C w0 Avn->St C w0 Avn n env hp AB Ai a w->(∃ x,o.op=.call { callee:=.value x,args,argTypes }/\a.eval x=.func (.func g) #[] #[])->jY C P AC call env hp (o.dst.getD 0) g args K none=some r->Sound C P w0 Avn hp AB a w o K r
theorem Acg {γ:Type} {f:Nat} {k:Nat->Option γ} {r:γ}:∀ {l:List Nat},AEU f k none l=some r->k f=some r/\∀ {δ:Type} (k':Nat->δ) (fl:δ),AEU f k' fl l=k' f:=by intro l;induction l<;>grind [AEU,Ea]
theorem AcY (hC:EW C P) (hT:JX C w0 Avn) (hcall:ah C P AC call) (st:St C w0 Avn n env hp AB Ai a w) (h:ET C P AC call env hp o K r):Sound C P w0 Avn hp AB a w o K r:=by
 cases ho:o.op with
 | move x=>grind [AuD]
 | assign x=>grind [AuE]
 | pick c x y=>grind [AuF]
 | alloc t=>grind [AuG]
 | box t x=>grind [AuH]
 | build t ps=>
  cases hk:(C.ti t).kind with
  | st fs=>grind [AuI]
  | arr m e=>grind [AuC]
  | _=>simp_all [ET,Ci]
 | buildSlice t m ps=>grind [AuJ]
 | load t x=>grind [AuK]
 | store t x y=>grind [AuL]
 | nilCheck x=>grind [AuM]
 | binOp op t x y t'=>grind [AuN]
 | unOp op t x=>grind [AuO]
 | convert s d x=>grind [AuP]
 | fieldAddr s x f=>grind [AuQ]
 | field s x f=>grind [AuR]
 | indexAddr t x i=>grind [AuS]
 | index t x i=>grind [AKN]
 | makeSlice t x y=>grind [AuT]
 | slice t x lo hi mx=>
  cases mx with
  | none=>grind [AuU]
  | some _=>simp_all [ET,Ci]
 | extract x i=>grind [AuV]
 | makeFunc fn first captured=>
  cases fn with
  | func f=>
   unfold ET at h;rw [ho] at h;simp only [Ci] at h;split at h
   ·rename_i h1 h2;have e1:first = #[]:=Array.eq_empty_of_size_eq_zero (Ea h1)
    have e2:captured = #[]:=Array.eq_empty_of_size_eq_zero (Ea h2);subst e1;subst e2;exact Sound.val (v:=.func (.func f) #[] #[]) st.mem h (by simp [execOp,ho,Instr.makeFunc]) rfl
   ·cases h
  | _=>simp_all [ET,Ci]
 | call c=>
  obtain ⟨callee,args,argTypes⟩:=c
  cases callee with
  | builtin b=>
   cases b with
   | len=>grind [AuW]
   | min=>grind [AuX]
   | max=>grind [AuY]
   | append=>grind [AuZ]
   | _=>unfold ET at h;rw [ho] at h;simp [Ci] at h
  | value f=>
   cases f with
   | func g=>exact hcall w0 Avn n env hp AB Ai a w o g args argTypes K r hT st ⟨_,ho,rfl⟩ (by unfold ET at h;rw [ho] at h;exact h)
   | tmp t=>
    unfold ET at h;rw [ho] at h;simp only [Ci] at h;split at h
    ·rename_i f hf;have hv:KA C hp AB w (BK C hp AB w) (.fn f) (a.eval (.tmp t)):=by have:=Awr st (.tmp t);rw [hf] at this;exact this
     exact hcall w0 Avn n env hp AB Ai a w o f args argTypes K r hT st ⟨_,ho,hv⟩ (Acg h).1
    ·cases h
   | _=>simp_all [ET,Ci]
  | invoke _ _=>simp_all [ET,Ci]
 | _=>unfold ET at h;rw [ho] at h;simp [Ci] at h
def Ch (hp hp':Hp C) (AB at':At):Prop:=∀ id,Bj hp id=true->Bj hp' id=true/\at' id=AB id
theorem Ch.refl (hp:Hp C) (AB:At):Ch hp hp AB AB:=fun _ h=>⟨h,rfl⟩
theorem Ch.trans {hp2 hp3:Hp C} {at2 at3:At} (h:Ch hp hp2 AB at2) (k:Ch hp2 hp3 at2 at3):Ch hp hp3 AB at3:=fun id hb=>⟨(k id (h id hb).1).1,((k id (h id hb).1).2).trans (h id hb).2⟩
theorem St.step (st:St C w0 Avn n env hp AB Ai a w) {val:Val C.El} {h':Hp C} {v:Value} {w':World} (d:Option Nat) (hd:∀ t,d=some t->t<n) (h:After C w0 Avn hp AB w val h' v w') :
  ∃ at2 AE,St C w0 Avn n (put C env d val) (h'++hp) at2 AE (a.put d v) w'/\Ch hp (h'++hp) AB at2:=by
 obtain ⟨at2,AE,m,hv,hs,hr,he⟩:=h
 refine ⟨at2,AE,⟨m,?_,?_,fun t=>?_⟩,fun id hb=>⟨hs.bound id hb,hs.at_ id hb⟩⟩;·cases d <;> simp [Act.put,st.size]
 ·cases d <;> simp [Act.put,st.defers]
 ·have keep:=IB.keep (st.env t) hs (fun b hb=>(hr b hb).1) (fun b hb=>(hr b hb).2) he;cases d with
  | none=>exact keep
  | some d=>
   have hlt:=hd d rfl;by_cases e:t=d
   ·subst e;have h1:look (put C env (some t) val) t [.one .junk]=val:=by simp [put,look]
    have h2:(a.put (some t) v).tmps.getD t undef=v:=by simp [Act.put,Array.getD,st.size,hlt]
    simp_all
   ·have h1:look (put C env (some d) val) t [.one .junk]=look env t [.one .junk]:=by grind [Ea,put,look]
    have h2:(a.put (some d) v).tmps.getD t undef=a.tmps.getD t undef:=by simp only [Act.put,Array.getD_eq_getD_getElem?,Array.getElem?_setIfInBounds_ne (fun h=>e h.symm)]
    simp_all
end
end Go.Ev
