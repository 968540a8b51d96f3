/- What the evaluator tells of an operation (but for calls) is what the machine does. -/
import Derived.Test.YtaalgheapdmjnaaGreatDoorSnd16
namespace Go.Ev
open Go
section
variable {C:Ctx} {P:Program} {hp:Hp C} {AB:At} {w w':World} {Af:Nat->Prop} {w0:World} {Ec:Nat->Nat->Prop} {n:Nat} {env:Env C} {a:Act}
variable {γ:Type} {K:Val C.El->Hp C->Option γ} {r:γ} {o:Oper} {AC:Nat->Nat} {call:Nat->List (U C.El)->(List (U C.El)->Option γ)->Option γ}
theorem Apd (hC:EG C P) (st:St C w0 Ec n env hp AB Af a w) (t:TypeId) (ps:Array (Nat×Operand)) {m e:Nat} (hk:(C.ti t).kind=.arr m e) (ho:o.op=.build t ps) (h:ES C P AC call env hp o K r):Sound C P w0 Ec hp AB a w o K r:=by
 unfold ES at h;rw [ho] at h;simp only [CW,hk] at h;split at h
 ·rename_i q hq hpl;obtain ⟨xs',dl'⟩:=q
  obtain ⟨hu,hs,hsz,_⟩:=AHu hC hk
  obtain ⟨i,hi,_,_,z,hz,hzz⟩:=(hC.ty t (by simp_all)).info
  rw [hk] at hzz;obtain ⟨zc,rfl,hzl⟩:=hzz
  have hzero:(zeroValue t).run P w=.ok (.agg zc) w:=by simp_all [zeroValue,typeInfo]
  have hrow:TA C w Af (List.replicate m (C.Ak e).z) zc.toList:=by
   have hfl:(List.replicate m ((C.Ak e).enc (C.Ak e).z)).flatten=(List.replicate m (C.Ak e).z).flatMap (C.Ak e).enc:=by simp [List.flatMap_def]
   rw [hfl] at hzl;refine ⟨by rw [hzl,List.length_map,ACF _ _ (hC.Ak e).len],?_⟩
   have:=replicate_zero (w:=w) (hC.Ak e) (zs:=((C.Ak e).enc (C.Ak e).z).map lv) rfl (m:=m) (arr:=zc) (fun j i' hj hi'=>by
    have h1:zc[j*(C.ti e).size+i']?=zc.toList[j*(C.ti e).size+i']?:=by simp
    rw [h1,hzl,List.getElem?_map,List.getElem?_map,flat_get _ _ (hC.Ak e).len _ j i' (C.Ak e).z (by simp [hj]) hi']) Af
   grind
  obtain ⟨AE,arr',g1,g2,g3,g4,g5,g6,g7⟩:=ARI (hC.Ak e) (place:=fun i=>some (i*(C.ti e).size,(C.ti e).size)) (fun _=>rfl) ps.toList [] dl' Af _ xs' _ (fun p _=>SA st p.2) st.mem hrow hq
  have hparts:(ps.map fun (i,x)=>(i,a.eval x)).toList=ps.toList.map fun (i,x)=>(i,a.eval x):=by simp
  have g8:=g6.plain (R':=fun _=>False) (hC.Ak e) hpl;intro next Q hn
  refine Asi (v:=.agg arr') ?_ (hn _ _ _ _ h ⟨AB,AE,g2,⟨arr',rfl,by simpa using g8.1,fun j x i l hx hl=>by
   obtain ⟨u,h1,h2⟩:=g8.2 j x i l hx hl
   grind⟩,g3,fun b hb=>⟨g4 b hb,rfl⟩,Ext.refl w⟩)
  simp only [execOp,ho,Instr.build,Sem.run_bind,hzero,Result.andThen_ok,run_underlying hu,hsz,Value.cells,hparts,g1];rfl
 ·cases h
def ZE (C:Ctx) (P:Program) {γ:Type} (AC:Nat->Nat) (call:Nat->List (U C.El)->(List (U C.El)->Option γ)->Option γ):Prop:=
 ∀ (w0:World) (Ec:Nat->Nat->Prop) (n:Nat) (env:Env C) (hp:Hp C) (AB:At) (Af:Nat->Prop) (a:Act) (w:World) (o:Oper) (g:Nat) (args:Array Operand) (argTypes:Array TypeId) (K:Val C.El->Hp C->Option γ) (r:γ),
  JA C w0 Ec->St C w0 Ec n env hp AB Af a w->(∃ x,o.op=.call { callee:=.value x,args,argTypes }/\a.eval x=.func (.func g) #[] #[])->fJ C P AC call env hp (o.dst.getD 0) g args K none=some r->Sound C P w0 Ec hp AB a w o K r
theorem AZG {γ:Type} {f:Nat} {k:Nat->Option γ} {r:γ}:∀ {l:List Nat},ACG f k none l=some r->k f=some r/\∀ {δ:Type} (k':Nat->δ) (fl:δ),ACG f k' fl l=k' f:=by intro l;induction l<;>grind [ACG,EL]
theorem AY9 (hC:EG C P) (hT:JA C w0 Ec) (hcall:ZE C P AC call) (st:St C w0 Ec n env hp AB Af a w) (h:ES C P AC call env hp o K r):Sound C P w0 Ec hp AB a w o K r:=by
 cases ho:o.op with
 | move x=>grind [Ape]
 | assign x=>grind [Apf]
 | pick c x y=>grind [Apg]
 | alloc t=>grind [Aph]
 | box t x=>grind [Api]
 | build t ps=>
  cases hk:(C.ti t).kind with
  | st fs=>grind [Apj]
  | arr m e=>grind [Apd]
  | _=>simp_all [ES,CW]
 | buildSlice t m ps=>grind [Apk]
 | load t x=>grind [Apl]
 | store t x y=>grind [Apm]
 | nilCheck x=>grind [Apn]
 | binOp op t x y t'=>grind [Apo]
 | unOp op t x=>grind [Apq]
 | convert s d x=>grind [Aps]
 | fieldAddr s x f=>grind [Apt]
 | field s x f=>grind [Apu]
 | indexAddr t x i=>grind [Apv]
 | index t x i=>grind [AHv]
 | makeSlice t x y=>grind [Apw]
 | slice t x lo hi mx=>
  cases mx with
  | none=>grind [Apx]
  | some _=>simp_all [ES,CW]
 | extract x i=>grind [Apy]
 | makeFunc fn first captured=>
  cases fn with
  | func f=>
   unfold ES at h;rw [ho] at h;simp only [CW] at h;split at h
   ·rename_i h1 h2;have e1:first = #[]:=Array.eq_empty_of_size_eq_zero (EL h1)
    have e2:captured = #[]:=Array.eq_empty_of_size_eq_zero (EL h2);subst e1;subst e2;exact Sound.val (v:=.func (.func f) #[] #[]) st.mem h (by simp [execOp,ho,Instr.makeFunc]) rfl
   ·cases h
  | _=>simp_all [ES,CW]
 | call c=>
  obtain ⟨callee,args,argTypes⟩:=c
  cases callee with
  | builtin b=>
   cases b with
   | len=>grind [Apz]
   | min=>grind [Ap0]
   | max=>grind [Ap1]
   | append=>grind [Ap2]
   | _=>unfold ES at h;rw [ho] at h;simp [CW] at h
  | value f=>
   cases f with
   | func g=>exact hcall w0 Ec n env hp AB Af a w o g args argTypes K r hT st ⟨_,ho,rfl⟩ (by unfold ES at h;rw [ho] at h;exact h)
   | tmp t=>
    unfold ES at h;rw [ho] at h;simp only [CW] at h;split at h
    ·rename_i f hf;have hv:KA C hp AB w (BD C hp AB w) (.fn f) (a.eval (.tmp t)):=by have:=SA st (.tmp t);rw [hf] at this;exact this
     exact hcall w0 Ec n env hp AB Af a w o f args argTypes K r hT st ⟨_,ho,hv⟩ (AZG h).1
    ·cases h
   | _=>simp_all [ES,CW]
  | invoke _ _=>simp_all [ES,CW]
 | _=>unfold ES at h;rw [ho] at h;simp [CW] at h
def Ch (hp hp':Hp C) (AB at':At):Prop:=∀ id,Ba hp id=true->Ba hp' id=true/\at' id=AB id
theorem Ch.refl (hp:Hp C) (AB:At):Ch hp hp AB AB:=fun _ h=>⟨h,rfl⟩
theorem Ch.trans {hp2 hp3:Hp C} {at2 at3:At} (h:Ch hp hp2 AB at2) (k:Ch hp2 hp3 at2 at3):Ch hp hp3 AB at3:=fun id hb=>⟨(k id (h id hb).1).1,((k id (h id hb).1).2).trans (h id hb).2⟩
theorem St.step (st:St C w0 Ec n env hp AB Af a w) {val:Val C.El} {h':Hp C} {v:Value} {w':World} (d:Option Nat) (hd:∀ t,d=some t->t<n) (h:After C w0 Ec hp AB w val h' v w') :
  ∃ at2 AE,St C w0 Ec n (put C env d val) (h'++hp) at2 AE (a.put d v) w'/\Ch hp (h'++hp) AB at2:=by
 obtain ⟨at2,AE,m,hv,hs,hr,he⟩:=h
 refine ⟨at2,AE,⟨m,?_,?_,fun t=>?_⟩,fun id hb=>⟨hs.bound id hb,hs.at_ id hb⟩⟩;·cases d <;> simp [Act.put,st.size]
 ·cases d <;> simp [Act.put,st.defers]
 ·have keep:=Hf.keep (st.env t) hs (fun b hb=>(hr b hb).1) (fun b hb=>(hr b hb).2) he;cases d with
  | none=>exact keep
  | some d=>
   have hlt:=hd d rfl;by_cases e:t=d
   ·subst e;have h1:look (put C env (some t) val) t [.one .junk]=val:=by simp [put,look]
    have h2:(a.put (some t) v).tmps.getD t undef=v:=by simp [Act.put,Array.getD,st.size,hlt]
    simp_all
   ·have h1:look (put C env (some d) val) t [.one .junk]=look env t [.one .junk]:=by grind [EL,put,look]
    have h2:(a.put (some d) v).tmps.getD t undef=a.tmps.getD t undef:=by simp only [Act.put,Array.getD_eq_getD_getElem?,Array.getElem?_setIfInBounds_ne (fun h=>e h.symm)]
    simp_all
end
end Go.Ev
