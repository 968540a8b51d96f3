/- What the evaluator tells of an operation (but for calls) is what the machine does. -/
import Derived.Test.YtnmmhkanpfmaaaaGreatDoorSnd16
namespace Go.Ev
open Go
section
variable {C:Ctx} {P:Program} {hp:Hp C} {at1:At} {w w':World} {frz:Nat→Prop} {w0:World} {Ec:Nat→Nat→Prop} {n:Nat} {env:Env C} {a:Act}
variable {γ:Type} {K:Val C.El→Hp C→Option γ} {r:γ} {o:Oper} {nres:Nat→Nat} {call:Nat→List (U C.El)→(List (U C.El)→Option γ)→Option γ}
theorem YV (hC:CtxOk C P) (st:St C w0 Ec n env hp at1 frz a w) (t:TypeId) (ps:Array (Nat×Operand)) {m e:Nat} (hk:(C.ti t).kind=.arr m e) (ho:o.op=.build t ps) (h:ES C P nres call env hp o K r):Sound C P w0 Ec hp at1 a w o K r:=by
 unfold ES at h;rw [ho] at h
 simp only [evOp,hk] at h
 split at h
 ·rename_i q hq hpl
  obtain ⟨xs',dl'⟩:=q
  obtain ⟨hu,hs,hsz,_⟩:=FI hC hk
  obtain ⟨i,hi,_,_,z,hz,hzz⟩:=(hC.ty t (by rw [hk];simp)).info
  rw [hk] at hzz
  obtain ⟨zc,rfl,hzl⟩:=hzz
  have hzero:(zeroValue t).run P w=.ok (.agg zc) w:=by simp [zeroValue,typeInfo,hi,hz]
  have hrow:TA C w frz (List.replicate m (C.cod e).z) zc.toList:=by
   have hfl:(List.replicate m ((C.cod e).enc (C.cod e).z)).flatten=(List.replicate m (C.cod e).z).flatMap (C.cod e).enc:=by
    rw [List.flatMap_def,List.map_replicate]
   rw [hfl] at hzl
   refine ⟨by rw [hzl,List.length_map,QG _ _ (hC.cod e).len],?_⟩
   have:=replicate_zero (w:=w) (hC.cod e) (zs:=((C.cod e).enc (C.cod e).z).map lv) rfl (m:=m) (arr:=zc) (fun j i' hj hi'=>by
    have h1:zc[j*(C.ti e).size+i']?=zc.toList[j*(C.ti e).size+i']?:=by simp
    rw [h1,hzl,List.getElem?_map,List.getElem?_map,flat_get _ _ (hC.cod e).len _ j i' (C.cod e).z (by simp [hj]) hi']) frz
   intro j x i l hx hl
   obtain ⟨v,h1,h2⟩:=this j x i l hx hl
   exact ⟨v,by simpa using h1,h2⟩
  obtain ⟨frz2,arr',g1,g2,g3,g4,g5,g6,g7⟩:=QM (hC.cod e) (place:=fun i=>some (i*(C.ti e).size,(C.ti e).size)) (fun _=>rfl) ps.toList [] dl' frz _ xs' _ (fun p _=>SA st p.2) st.mem hrow hq
  have hparts:(ps.map fun (i,x)=>(i,a.eval x)).toList=ps.toList.map fun (i,x)=>(i,a.eval x):=by simp
  have g8:=g6.plain (R':=fun _=>False) (hC.cod e) hpl
  intro next Q hn
  refine XB (v:=.agg arr') ?_ (hn _ _ _ _ h ⟨at1,frz2,g2,⟨arr',rfl,by simpa using g8.1,fun j x i l hx hl=>by
   obtain ⟨u,h1,h2⟩:=g8.2 j x i l hx hl
   exact ⟨u,by simpa using h1,h2⟩⟩,g3,fun b hb=>⟨g4 b hb,rfl⟩,Ext.refl w⟩)
  simp only [execOp,ho,Instr.build,Sem.run_bind,hzero,Result.andThen_ok,run_underlying hu,hsz,Value.cells,hparts,g1]
  rfl
 ·cases h
def UE (C:Ctx) (P:Program) {γ:Type} (nres:Nat→Nat) (call:Nat→List (U C.El)→(List (U C.El)→Option γ)→Option γ):Prop:=
 ∀ (w0:World) (Ec:Nat→Nat→Prop) (n:Nat) (env:Env C) (hp:Hp C) (at1:At) (frz:Nat→Prop) (a:Act) (w:World) (o:Oper) (g:Nat) (args:Array Operand) (argTypes:Array TypeId) (K:Val C.El→Hp C→Option γ) (r:γ),
  TabOk C w0 Ec→St C w0 Ec n env hp at1 frz a w→(∃ x,o.op=.call { callee:=.value x,args,argTypes }∧a.eval x=.func (.func g) #[] #[])→JY C P nres call env hp (o.dst.getD 0) g args K none=some r→Sound C P w0 Ec hp at1 a w o K r
theorem NY {γ:Type} {f:Nat} {k:Nat→Option γ} {r:γ}:∀ {l:List Nat},KY f k none l=some r→k f=some r∧∀ {δ:Type} (k':Nat→δ) (fl:δ),KY f k' fl l=k' f:=by
 intro l
 induction l with
 | nil=>intro h;cases h
 | cons g gs ih=>
  intro h
  simp only [KY] at h
  cases hb:Nat.beq f g with
  | true=>
   have e:=Nat.eq_of_beq_eq_true hb
   subst e
   rw [hb] at h
   exact ⟨h,fun k' fl=>by simp only [KY,hb];rfl⟩
  | false=>
   rw [hb] at h
   obtain ⟨h1,h2⟩:=ih h
   exact ⟨h1,fun k' fl=>by simp only [KY,hb];exact h2 k' fl⟩
theorem ZN (hC:CtxOk C P) (hT:TabOk C w0 Ec) (hcall:UE C P nres call) (st:St C w0 Ec n env hp at1 frz a w) (h:ES C P nres call env hp o K r):Sound C P w0 Ec hp at1 a w o K r:=by
 cases ho:o.op with
 | move x=>exact TP st x ho h
 | assign x=>exact VP st x ho h
 | pick c x y=>exact XP st c x y ho h
 | alloc t=>exact RP hC st t ho h
 | box t x=>exact ZV st t x ho h
 | build t ps=>
  cases hk:(C.ti t).kind with
  | st fs=>exact CW hC st t ps hk ho h
  | arr m e=>exact YV hC st t ps hk ho h
  | _=>unfold ES at h;rw [ho] at h;simp [evOp,hk] at h
 | buildSlice t m ps=>exact RS hC st t m ps ho h
 | load t x=>exact YU hC hT st t x ho h
 | store t x y=>exact IU hC st t x y ho h
 | nilCheck x=>exact UU st x ho h
 | binOp op t x y t'=>exact IQ hC st op t t' x y ho h
 | unOp op t x=>exact YP st op t x ho h
 | convert s d x=>exact ZQ hC st s d x ho h
 | fieldAddr s x f=>exact WU hC st s x f ho h
 | field s x f=>exact XU hC st s x f ho h
 | indexAddr t x i=>exact MR hC st t x i ho h
 | index t x i=>exact NR hC st t x i ho h
 | makeSlice t x y=>exact NT hC st t x y ho h
 | slice t x lo hi mx=>
  cases mx with
  | none=>exact ZU hC st t x lo hi ho h
  | some _=>unfold ES at h;rw [ho] at h;simp [evOp] at h
 | extract x i=>exact VU st x i ho h
 | makeFunc fn first captured=>
  cases fn with
  | func f=>
   unfold ES at h;rw [ho] at h
   simp only [evOp] at h
   split at h
   ·rename_i h1 h2
    have e1:first = #[]:=Array.eq_empty_of_size_eq_zero (Nat.eq_of_beq_eq_true h1)
    have e2:captured = #[]:=Array.eq_empty_of_size_eq_zero (Nat.eq_of_beq_eq_true h2)
    subst e1;subst e2
    exact Sound.val (v:=.func (.func f) #[] #[]) st.mem h (by simp [execOp,ho,Instr.makeFunc]) rfl
   ·cases h
  | _=>unfold ES at h;rw [ho] at h;simp [evOp] at h
 | call c=>
  obtain ⟨callee,args,argTypes⟩:=c
  cases callee with
  | builtin b=>
   cases b with
   | len=>exact DV hC st args argTypes ho h
   | min=>exact FV st args argTypes ho h
   | max=>exact GV st args argTypes ho h
   | append=>exact DW hC st args argTypes ho h
   | _=>unfold ES at h;rw [ho] at h;simp [evOp] at h
  | value f=>
   cases f with
   | func g=>exact hcall w0 Ec n env hp at1 frz a w o g args argTypes K r hT st ⟨_,ho,rfl⟩ (by unfold ES at h;rw [ho] at h;exact h)
   | tmp t=>
    unfold ES at h;rw [ho] at h
    simp only [evOp] at h
    split at h
    ·rename_i f hf
     have hv:KA C hp at1 w (AA C hp at1 w) (.fn f) (a.eval (.tmp t)):=by have:=SA st (.tmp t);rw [hf] at this;exact this
     exact hcall w0 Ec n env hp at1 frz a w o f args argTypes K r hT st ⟨_,ho,hv⟩ (NY h).1
    ·cases h
   | _=>unfold ES at h;rw [ho] at h;simp [evOp] at h
  | invoke _ _=>unfold ES at h;rw [ho] at h;simp [evOp] at h
 | _=>unfold ES at h;rw [ho] at h;simp [evOp] at h
def Ch (hp hp':Hp C) (at1 at':At):Prop:=∀ id,BA hp id=true→BA hp' id=true∧at' id=at1 id
theorem Ch.refl (hp:Hp C) (at1:At):Ch hp hp at1 at1:=fun _ h=>⟨h,rfl⟩
theorem Ch.trans {hp2 hp3:Hp C} {at2 at3:At} (h:Ch hp hp2 at1 at2) (k:Ch hp2 hp3 at2 at3):Ch hp hp3 at1 at3:=fun id hb=>⟨(k id (h id hb).1).1,((k id (h id hb).1).2).trans (h id hb).2⟩
theorem St.step (st:St C w0 Ec n env hp at1 frz a w) {val:Val C.El} {h':Hp C} {v:Value} {w':World} (d:Option Nat) (hd:∀ t,d=some t→t<n) (h:After C w0 Ec hp at1 w val h' v w') :
  ∃ at2 frz2,St C w0 Ec n (put C env d val) (h'++hp) at2 frz2 (a.put d v) w'∧Ch hp (h'++hp) at1 at2:=by
 obtain ⟨at2,frz2,m,hv,hs,hr,he⟩:=h
 refine ⟨at2,frz2,⟨m,?_,?_,fun t=>?_⟩,fun id hb=>⟨hs.bound id hb,hs.at_ id hb⟩⟩
 ·cases d <;> simp [Act.put,st.size]
 ·cases d <;> simp [Act.put,st.defers]
 ·have keep:=AB.keep (st.env t) hs (fun b hb=>(hr b hb).1) (fun b hb=>(hr b hb).2) he
  cases d with
  | none=>exact keep
  | some d=>
   have hlt:=hd d rfl
   by_cases e:t=d
   ·subst e
    have h1:look (put C env (some t) val) t [.one .junk]=val:=by simp [put,look]
    have h2:(a.put (some t) v).tmps.getD t undef=v:=by simp [Act.put,Array.getD,st.size,hlt]
    rw [h1,h2]
    exact hv
   ·have h1:look (put C env (some d) val) t [.one .junk]=look env t [.one .junk]:=by
     have:Nat.beq t d=false:=by
      cases hb:Nat.beq t d with
      | false=>rfl
      | true=>exact absurd (Nat.eq_of_beq_eq_true hb) e
     simp [put,look,this]
    have h2:(a.put (some d) v).tmps.getD t undef=a.tmps.getD t undef:=by
     simp only [Act.put,Array.getD_eq_getD_getElem?,Array.getElem?_setIfInBounds_ne (fun h=>e h.symm)]
    rw [h1,h2]
    exact keep
end
end Go.Ev
