/- What the evaluator tells of an operation (but for calls) is what the machine does. -/
import Derived.Test.YtpjfloaghpgpdaaGreatDoorSnd16
namespace Go.Ev
open Go
section
variable {C:Ctx} {P:Program} {hp:Hp C} {at1:At} {w w':World} {frz:Nat→Prop} {w0:World} {Ec:Nat→Nat→Prop} {n:Nat} {env:Env C} {a:Act}
variable {γ:Type} {K:Val C.El→Hp C→Option γ} {r:γ} {o:Oper} {nres:Nat→Nat} {call:Nat→List (U C.El)→(List (U C.El)→Option γ)→Option γ}
theorem YV (hC:CtxOk C P) (st:St C w0 Ec n env hp at1 frz a w) (t:TypeId) (ps:Array (Nat×Operand)) {m e:Nat} (hk:(C.ti t).kind=.arr m e) (ho:o.op=.build t ps) (h:ES C P nres call env hp o K r):Sound C P w0 Ec hp at1 a w o K r:=by
 unfold ES at h;rw [ho] at h
 simp only [evOp,hk] at h
 split at h
 ·rename_i q hq hpl
  obtain ⟨xs',dl'⟩:=q
  obtain ⟨hu,hs,hsz,_⟩:=FI hC hk
  obtain ⟨i,hi,_,_,z,hz,hzz⟩:=(hC.ty t (by simp_all)).info
  rw [hk] at hzz
  obtain ⟨zc,rfl,hzl⟩:=hzz
  have hzero:(zeroValue t).run P w=.ok (.agg zc) w:=by simp_all [zeroValue,typeInfo]
  have hrow:TA C w frz (List.replicate m (C.cod e).z) zc.toList:=by
   have hfl:(List.replicate m ((C.cod e).enc (C.cod e).z)).flatten=(List.replicate m (C.cod e).z).flatMap (C.cod e).enc:=by
    simp [List.flatMap_def]
   rw [hfl] at hzl
   refine ⟨by rw [hzl,List.length_map,QG _ _ (hC.cod e).len],?_⟩
   have:=replicate_zero (w:=w) (hC.cod e) (zs:=((C.cod e).enc (C.cod e).z).map lv) rfl (m:=m) (arr:=zc) (fun j i' hj hi'=>by
    have h1:zc[j*(C.ti e).size+i']?=zc.toList[j*(C.ti e).size+i']?:=by simp
    rw [h1,hzl,List.getElem?_map,List.getElem?_map,flat_get _ _ (hC.cod e).len _ j i' (C.cod e).z (by simp [hj]) hi']) frz
   grind
  obtain ⟨frz2,arr',g1,g2,g3,g4,g5,g6,g7⟩:=QM (hC.cod e) (place:=fun i=>some (i*(C.ti e).size,(C.ti e).size)) (fun _=>rfl) ps.toList [] dl' frz _ xs' _ (fun p _=>SA st p.2) st.mem hrow hq
  have hparts:(ps.map fun (i,x)=>(i,a.eval x)).toList=ps.toList.map fun (i,x)=>(i,a.eval x):=by simp
  have g8:=g6.plain (R':=fun _=>False) (hC.cod e) hpl
  intro next Q hn
  refine XB (v:=.agg arr') ?_ (hn _ _ _ _ h ⟨at1,frz2,g2,⟨arr',rfl,by simpa using g8.1,fun j x i l hx hl=>by
   obtain ⟨u,h1,h2⟩:=g8.2 j x i l hx hl
   grind⟩,g3,fun b hb=>⟨g4 b hb,rfl⟩,Ext.refl w⟩)
  simp only [execOp,ho,Instr.build,Sem.run_bind,hzero,Result.andThen_ok,run_underlying hu,hsz,Value.cells,hparts,g1]
  rfl
 ·cases h
def UE (C:Ctx) (P:Program) {γ:Type} (nres:Nat→Nat) (call:Nat→List (U C.El)→(List (U C.El)→Option γ)→Option γ):Prop:=
 ∀ (w0:World) (Ec:Nat→Nat→Prop) (n:Nat) (env:Env C) (hp:Hp C) (at1:At) (frz:Nat→Prop) (a:Act) (w:World) (o:Oper) (g:Nat) (args:Array Operand) (argTypes:Array TypeId) (K:Val C.El→Hp C→Option γ) (r:γ),
  TabOk C w0 Ec→St C w0 Ec n env hp at1 frz a w→(∃ x,o.op=.call { callee:=.value x,args,argTypes }∧a.eval x=.func (.func g) #[] #[])→JY C P nres call env hp (o.dst.getD 0) g args K none=some r→Sound C P w0 Ec hp at1 a w o K r
theorem NY {γ:Type} {f:Nat} {k:Nat→Option γ} {r:γ}:∀ {l:List Nat},KY f k none l=some r→k f=some r∧∀ {δ:Type} (k':Nat→δ) (fl:δ),KY f k' fl l=k' f:=by
 intro l
 induction l<;>grind [KY,Nat.eq_of_beq_eq_true]
theorem ZN (hC:CtxOk C P) (hT:TabOk C w0 Ec) (hcall:UE C P nres call) (st:St C w0 Ec n env hp at1 frz a w) (h:ES C P nres call env hp o K r):Sound C P w0 Ec hp at1 a w o K r:=by
 cases ho:o.op with
 | move x=>grind [TP]
 | assign x=>grind [VP]
 | pick c x y=>grind [XP]
 | alloc t=>grind [RP]
 | box t x=>grind [ZV]
 | build t ps=>
  cases hk:(C.ti t).kind with
  | st fs=>grind [CW]
  | arr m e=>grind [YV]
  | _=>simp_all [ES,evOp]
 | buildSlice t m ps=>grind [RS]
 | load t x=>grind [YU]
 | store t x y=>grind [IU]
 | nilCheck x=>grind [UU]
 | binOp op t x y t'=>grind [IQ]
 | unOp op t x=>grind [YP]
 | convert s d x=>grind [ZQ]
 | fieldAddr s x f=>grind [WU]
 | field s x f=>grind [XU]
 | indexAddr t x i=>grind [MR]
 | index t x i=>grind [NR]
 | makeSlice t x y=>grind [NT]
 | slice t x lo hi mx=>
  cases mx with
  | none=>grind [ZU]
  | some _=>simp_all [ES,evOp]
 | extract x i=>grind [VU]
 | makeFunc fn first captured=>
  cases fn with
  | func f=>
   unfold ES at h;rw [ho] at h
   simp only [evOp] at h
   split at h
   ·rename_i h1 h2
    have e1:first = #[]:=Array.eq_empty_of_size_eq_zero (Nat.eq_of_beq_eq_true h1)
    have e2:captured = #[]:=Array.eq_empty_of_size_eq_zero (Nat.eq_of_beq_eq_true h2)
    subst e1;subst e2
    exact Sound.val (v:=.func (.func f) #[] #[]) st.mem h (by simp [execOp,ho,Instr.makeFunc]) rfl
   ·cases h
  | _=>simp_all [ES,evOp]
 | call c=>
  obtain ⟨callee,args,argTypes⟩:=c
  cases callee with
  | builtin b=>
   cases b with
   | len=>grind [DV]
   | min=>grind [FV]
   | max=>grind [GV]
   | append=>grind [DW]
   | _=>unfold ES at h;rw [ho] at h;simp [evOp] at h
  | value f=>
   cases f with
   | func g=>exact hcall w0 Ec n env hp at1 frz a w o g args argTypes K r hT st ⟨_,ho,rfl⟩ (by unfold ES at h;rw [ho] at h;exact h)
   | tmp t=>
    unfold ES at h;rw [ho] at h
    simp only [evOp] at h
    split at h
    ·rename_i f hf
     have hv:KA C hp at1 w (AA C hp at1 w) (.fn f) (a.eval (.tmp t)):=by have:=SA st (.tmp t);rw [hf] at this;exact this
     exact hcall w0 Ec n env hp at1 frz a w o f args argTypes K r hT st ⟨_,ho,hv⟩ (NY h).1
    ·cases h
   | _=>simp_all [ES,evOp]
  | invoke _ _=>simp_all [ES,evOp]
 | _=>unfold ES at h;rw [ho] at h;simp [evOp] at h
def Ch (hp hp':Hp C) (at1 at':At):Prop:=∀ id,BA hp id=true→BA hp' id=true∧at' id=at1 id
theorem Ch.refl (hp:Hp C) (at1:At):Ch hp hp at1 at1:=fun _ h=>⟨h,rfl⟩
theorem Ch.trans {hp2 hp3:Hp C} {at2 at3:At} (h:Ch hp hp2 at1 at2) (k:Ch hp2 hp3 at2 at3):Ch hp hp3 at1 at3:=fun id hb=>⟨(k id (h id hb).1).1,((k id (h id hb).1).2).trans (h id hb).2⟩
theorem St.step (st:St C w0 Ec n env hp at1 frz a w) {val:Val C.El} {h':Hp C} {v:Value} {w':World} (d:Option Nat) (hd:∀ t,d=some t→t<n) (h:After C w0 Ec hp at1 w val h' v w') :
  ∃ at2 frz2,St C w0 Ec n (put C env d val) (h'++hp) at2 frz2 (a.put d v) w'∧Ch hp (h'++hp) at1 at2:=by
 obtain ⟨at2,frz2,m,hv,hs,hr,he⟩:=h
 refine ⟨at2,frz2,⟨m,?_,?_,fun t=>?_⟩,fun id hb=>⟨hs.bound id hb,hs.at_ id hb⟩⟩
 ·cases d <;> simp [Act.put,st.size]
 ·cases d <;> simp [Act.put,st.defers]
 ·have keep:=AB.keep (st.env t) hs (fun b hb=>(hr b hb).1) (fun b hb=>(hr b hb).2) he
  cases d with
  | none=>exact keep
  | some d=>
   have hlt:=hd d rfl
   by_cases e:t=d
   ·subst e
    have h1:look (put C env (some t) val) t [.one .junk]=val:=by simp [put,look]
    have h2:(a.put (some t) v).tmps.getD t undef=v:=by simp [Act.put,Array.getD,st.size,hlt]
    simp_all
   ·have h1:look (put C env (some d) val) t [.one .junk]=look env t [.one .junk]:=by
     grind [Nat.eq_of_beq_eq_true,put,look]
    have h2:(a.put (some d) v).tmps.getD t undef=a.tmps.getD t undef:=by
     simp only [Act.put,Array.getD_eq_getD_getElem?,Array.getElem?_setIfInBounds_ne (fun h=>e h.symm)]
    simp_all
end
end Go.Ev
