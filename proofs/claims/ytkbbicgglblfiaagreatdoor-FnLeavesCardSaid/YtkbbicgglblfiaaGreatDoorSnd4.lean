/- What the evaluator tells of operations that turn no memory is what the machine does: addresses, parts, pieces of strings and rows. -/
import Derived.Test.YtkbbicgglblfiaaGreatDoorSnd3
namespace Go.Ev
open Go
section
variable {C:Ctx} {P:Program} {hp:Hp C} {AB:At} {w:World} {Ai:Nat->Prop} {w0:World} {Avn:Nat->Nat->Prop} {n:Nat} {env:Env C} {a:Act}
variable {γ:Type} {K:Val C.El->Hp C->Option γ} {r:γ} {o:Oper} {AC:Nat->Nat} {call:Nat->List (U C.El)->(List (U C.El)->Option γ)->Option γ}
theorem AUS {ro:Nat->Prop} {l:L C.El} {v:Value} (h:IB C hp AB w ro [.one l] v):(match l with | .ptr _ _=>True | .PW _ _ _=>True | .PX _ _=>True | _=>False)->∃ A,v=.pointer (some A):=by
 intro hl;cases l <;> simp only at hl;·obtain ⟨_,b,off,_,h⟩:=(h:KA C hp AB w ro (.ptr _ _) v);simp_all
 ·obtain ⟨b,off,V,h,_⟩:=(h:KA C hp AB w ro (.PW _ _ _) v);simp_all
 ·have h:v=_:=h;simp_all
theorem AuM (st:St C w0 Avn n env hp AB Ai a w) (x:Operand) (ho:o.op=.nilCheck x) (h:ET C P AC call env hp o K r):Sound C P w0 Avn hp AB a w o K r:=by
 unfold ET at h;rw [ho] at h;simp only [Ci] at h;have hx:=Awr st x;have fin:∀ {l:L C.El},CB C env x=[.one l]->(∃ A,a.eval x=.pointer (some A))->K [.one l] []=some r->Sound C P w0 Avn hp AB a w o K r:=by intro l he ⟨A,hA⟩ hk;rw [he] at hx;exact Sound.val st.mem hk (by simp_all [execOp]) hx
 split at h;·grind [AUS]
 ·rename_i id i off he;rw [he] at hx;obtain ⟨⟨b,o',hv⟩,_⟩:=(hx:KA C hp AB w (BK C hp AB w) (.Ji id i off) (a.eval x))
  simp_all
 ·grind [AUS]
 ·grind [AUS]
 ·rename_i i he;rw [he] at hx;exact fin he ⟨_,hx⟩ h
 ·cases h
theorem AuV (st:St C w0 Avn n env hp AB Ai a w) (x:Operand) (i:Nat) (ho:o.op=.extract x i) (h:ET C P AC call env hp o K r):Sound C P w0 Avn hp AB a w o K r:=by
 unfold ET at h;rw [ho] at h;simp only [Ci] at h;have hx:=Awr st x;split at h;·cases h
 ·rename_i hne;split at h
  ·rename_i u hu;unfold IB at hx;split at hx;·simp_all
   ·obtain ⟨arr,ha,hn,hc⟩:=hx
    obtain ⟨v,h1,h2⟩:=hc i u hu
    exact Sound.val st.mem h (by simp_all [execOp,Instr.extract]) h2
  ·cases h
theorem AdD (hC:EW C P) {s:Nat} {fs:List (Nat×Nat)} (hk:(C.ti s).kind=.st fs) {f:Nat} {q:Nat×Nat} (hq:fs[f]?=some q) :
  ∃ (fields:Array Field) (fl:Field),P.underlying s=some (.struct fields)/\fields[f]?=some fl/\fl.type=q.1/\fl.offset=q.2/\∃ i,P.info? q.1=some i/\i.size=(C.ti q.1).size:=by
 have hu:=(hC.ty s (by simp_all)).und;rw [hk] at hu;obtain ⟨fields,h1,h2,h3⟩:=hu
 rw [<-h2,List.getElem?_map] at hq;obtain ⟨fl,h4,h5⟩:=Option.map_eq_some_iff.1 hq
 subst h5;exact ⟨fields,fl,h1,by simp_all,rfl,rfl,h3 fl (List.mem_of_getElem? h4)⟩
theorem AuQ (hC:EW C P) (st:St C w0 Avn n env hp AB Ai a w) (s:TypeId) (x:Operand) (f:Nat) (ho:o.op=.fieldAddr s x f) (h:ET C P AC call env hp o K r):Sound C P w0 Avn hp AB a w o K r:=by
 unfold ET at h;rw [ho] at h;simp only [Ci] at h;have hx:=Awr st x;split at h
 ·rename_i fs hk;split at h
  ·rename_i q hq;obtain ⟨fields,fl,h1,h2,h3,h4,i,h5,h6⟩:=AdD hC hk hq
   have run:∀ {b o':Nat},a.eval x=.pointer (some ⟨b,o',none⟩)->(C.ti q.1).size≠0->(execOp a.eval o).run P w=.ok (.value (.pointer (some ⟨b,o'+q.2,none⟩))) w:=by simp_all [sizeOf,typeInfo,execOp,Instr.fieldAt,run_underlying,Instr.sureAddr,fieldPlace,Addr.add_mid]
   split at h
   ·rename_i hz he;rw [he] at hx;obtain ⟨hb,b,off,ha,hv⟩:=(hx:KA C hp AB w (BK C hp AB w) (.ptr _ _) (a.eval x))
    exact Sound.val st.mem h (run hv (by intro e;simp [e] at hz)) ⟨hb,b,off,ha,by grind⟩
   ·rename_i id i off hz he;rw [he] at hx;obtain ⟨⟨b0,o0,hv0⟩,hb,hy⟩:=(hx:KA C hp AB w (BK C hp AB w) (.Ji _ _ _) (a.eval x))
    refine Sound.val st.mem h (run hv0 (by intro e;simp [e] at hz)) ⟨⟨_,_,rfl⟩,hb,?_⟩;revert hy;cases look hp id .dead<;>grind
   ·rename_i hz he;rw [he] at hx;obtain ⟨b,off,V,hv,hb,hV⟩:=(hx:KA C hp AB w (BK C hp AB w) (.PW _ _ _) (a.eval x))
    exact Sound.val st.mem h (run hv (by intro e;simp [e] at hz)) ⟨b,off,V,by grind,hb,hV⟩
   ·cases h
  ·cases h
 ·cases h
theorem AuR (hC:EW C P) (st:St C w0 Avn n env hp AB Ai a w) (s:TypeId) (x:Operand) (f:Nat) (ho:o.op=.field s x f) (h:ET C P AC call env hp o K r):Sound C P w0 Avn hp AB a w o K r:=by
 unfold ET at h;rw [ho] at h;simp only [Ci] at h;have hx:=Awr st x;split at h
 ·rename_i fs cs hk he;rw [he] at hx;obtain ⟨arr,ha,hn,hc⟩:=(hx:AzR C hp AB w (BK C hp AB w) (.agg cs) (a.eval x))
  split at h
  ·rename_i q hq;obtain ⟨fields,fl,h1,h2,h3,h4,i,h5,h6⟩:=AdD hC hk hq
   split at h
   ·rename_i u hu;obtain ⟨v,h7,h8⟩:=AUT hC hu hn hc
    exact Sound.val st.mem h (by simp [execOp,ho,ha,Instr.field,run_underlying h1,h2,h3,h4,asAgg,h7]) h8
   ·cases h
  ·cases h
 ·cases h
theorem AuK (hC:EW C P) (hT:JX C w0 Avn) (st:St C w0 Avn n env hp AB Ai a w) (t:TypeId) (x:Operand) (ho:o.op=.load t x) (h:ET C P AC call env hp o K r):Sound C P w0 Avn hp AB a w o K r:=by
 unfold ET at h;rw [ho] at h;simp only [Ci] at h;have hx:=Awr st x;split at h
 ·rename_i l he;rw [he] at hx;replace h:=(AKB (C:=C) (hp:=hp) (t:=t) (l:=l) (F:=fun u=>K [u] []) (fail:=none)).symm.trans h;split at h
  ·rename_i u hu;obtain ⟨v,h1,h2⟩:=Acu hC hT st.mem hx hu
   exact Sound.val st.mem h (by simp_all [execOp]) h2
  ·cases h
 ·cases h
end
end Go.Ev
