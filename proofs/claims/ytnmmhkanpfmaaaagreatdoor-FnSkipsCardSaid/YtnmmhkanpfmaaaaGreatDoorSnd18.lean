/- What the evaluator tells of plain regions is what the machine does. -/
import Derived.Test.YtnmmhkanpfmaaaaGreatDoorSnd17
import Derived.Tactics
namespace Go.Ev
open Go
section
variable {C:Ctx} {P:Program} {hp:Hp C} {at1:At} {w w':World} {frz:Nat→Prop} {w0:World} {Ec:Nat→Nat→Prop} {n:Nat} {env:Env C} {a:Act}
variable {γ:Type} {r:γ} {o:Oper} {nres:Nat→Nat} {call:Nat→List (U C.El)→(List (U C.El)→Option γ)→Option γ}
theorem VK {d:Option Nat} (h:dstOk n d=true):∀ t,d=some t→t<n:=by
 intro t ht;subst ht;exact Nat.le_of_ble_eq_true h
theorem St.told (st:St C w0 Ec n env hp at1 frz a w) {t:Nat} {p:Bool} (h:look env t [.one .junk]=[.one (.bool p)]):St C w0 Ec n ((t,[.one (.bool p)])::env) hp at1 frz a w:=by
 refine ⟨st.mem,st.size,st.defers,fun t'=>?_⟩
 by_cases e:t'=t
 ·subst e
  have:look ((t',[U.one (L.bool p)])::env) t' [.one .junk]=[.one (.bool p)]:=by simp [look]
  rw [this,←h]
  exact st.env t'
 ·have:look ((t,[U.one (L.bool p)])::env) t' [.one .junk]=look env t' [.one .junk]:=by
   have:Nat.beq t' t=false:=by
    cases hb:Nat.beq t' t with
    | false=>rfl
    | true=>exact absurd (Nat.eq_of_beq_eq_true hb) e
   simp [look,this]
  rw [this]
  exact st.env t'
theorem St.skip (st:St C w0 Ec n env hp at1 frz a w) (d:Option Nat) (hd:∀ t,d=some t→t<n):St C w0 Ec n (put C env d []) hp at1 frz (a.put d undef) w:=by
 refine ⟨st.mem,?_,?_,fun t=>?_⟩
 ·cases d <;> simp [Act.put,st.size]
 ·cases d <;> simp [Act.put,st.defers]
 ·cases d with
  | none=>exact st.env t
  | some d=>
   by_cases e:t=d
   ·subst e
    have h1:look (put C env (some t) []) t [.one .junk]=[]:=by simp [put,look]
    have h2:(a.put (some t) undef).tmps.getD t undef=undef:=by
     simp only [Act.put,Array.getD_eq_getD_getElem?]
     rw [Array.getElem?_setIfInBounds]
     split
     ·split <;> rfl
     ·rename_i hne;exact absurd rfl hne
    rw [h1,h2]
    exact ⟨#[],rfl,rfl,fun i u hu=>by simp at hu⟩
   ·have h1:look (put C env (some d) []) t [.one .junk]=look env t [.one .junk]:=by
     have:Nat.beq t d=false:=by
      cases hb:Nat.beq t d with
      | false=>rfl
      | true=>exact absurd (Nat.eq_of_beq_eq_true hb) e
     simp [put,look,this]
    have h2:(a.put (some d) undef).tmps.getD t undef=a.tmps.getD t undef:=by
     simp only [Act.put,Array.getD_eq_getD_getElem?,Array.getElem?_setIfInBounds_ne (fun h=>e h.symm)]
    rw [h1,h2]
    exact st.env t
theorem UN {ops:Array Oper} {j t:Nat} {p:Bool} (ht:(ops[j]?).bind (·.dst)=some t) (h:a.tmps.getD t undef=.bool p):yielded ops a.tmps j=some p:=by
 unfold yielded
 rw [ht]
 simp only [Option.bind_some]
 cases hx:a.tmps[t]? with
 | none=>rw [Array.getD_eq_getD_getElem?,hx] at h;cases h
 | some v=>rw [Array.getD_eq_getD_getElem?,hx] at h;simp at h;subst h;rfl
theorem VN {ops:Array Oper} {j t:Nat} (ht:(ops[j]?).bind (·.dst)=some t) (h:a.tmps.getD t undef=.tuple #[]):yielded ops a.tmps j=none:=by
 unfold yielded
 rw [ht]
 simp only [Option.bind_some]
 cases hx:a.tmps[t]? with
 | none=>rfl
 | some v=>rw [Array.getD_eq_getD_getElem?,hx] at h;simp at h;subst h;rfl
theorem YN {ro:Nat→Prop} {v:Value} (h:AB C hp at1 w ro [] v):v=.tuple #[]:=by
 obtain ⟨arr,rfl,h1,_⟩:=h
 rw [Array.eq_empty_of_size_eq_zero h1]
theorem JU (hC:CtxOk C P) (hT:TabOk C w0 Ec) (hcall:UE C P nres call) {ops:Array Oper} {K:Env C→Hp C→Option γ} {Q:Exit→Act→World→Prop}
:
  ∀ (l:List Oper) (env:Env C) (hp:Hp C) (at1:At) (frz:Nat→Prop) (a:Act) (w:World),(∀ env' hp' at' frz' a' w',K env' hp'=some r→St C w0 Ec n env' hp' at' frz' a' w'→Ch hp hp' at1 at'→Q .normal a' w')→UC C P nres call n ops l env hp K none=some r→St C w0 Ec n env hp at1 frz a w→wpList P ops Q l a w:=by
 intro l
 induction l with
 | nil=>intro env hp at1 frz a w hQ h st;exact hQ env hp at1 frz a w h st (Ch.refl _ _)
 | cons o os ih=>
  intro env hp at1 frz a w hQ h st
  simp only [UC] at h
  split at h
  ·cases h
  ·rename_i hd
   have hd:=VK hd
   have exec:∀ (env:Env C),St C w0 Ec n env hp at1 frz a w→Region.wanted o (yielded ops a.tmps)=true→evOp C P nres call env hp (o.dst.getD 0) o.op (fun v h=>UC C P nres call n ops os (put C env o.dst v) (h++hp) K none) none=some r→wpList P ops Q (o::os) a w:=by
    intro env st hw h
    simp only [wpList,hw,if_true]
    left
    refine ZN hC hT hcall st h _ Q (fun val h' v w' hk ha=>?_)
    obtain ⟨at2,frz2,st2,ch⟩:=St.step st o.dst hd ha
    exact ih _ _ at2 frz2 _ _ (fun env' hp' at' frz' a' w' hk' st' ch'=>hQ env' hp' at' frz' a' w' hk' st' (ch.trans ch')) hk st2
   have skip:∀ (env:Env C),St C w0 Ec n env hp at1 frz a w→Region.wanted o (yielded ops a.tmps)=false→UC C P nres call n ops os (put C env o.dst []) hp K none=some r→wpList P ops Q (o::os) a w:=by
    intro env st hw h
    simp only [wpList,hw,Bool.false_eq_true,if_false]
    exact ih _ _ at1 frz _ _ hQ h (St.skip st o.dst hd)
   split at h
   ·rename_i hg
    exact exec env st (by simp [Region.wanted,hg]) h
   ·rename_i j want hg
    split at h
    ·rename_i t ht
     split at h
     ·rename_i p hp'
      have hv:a.tmps.getD t undef=.bool p:=by
       have:=st.env t
       rw [hp'] at this
       exact this
      have hy:=UN ht hv
      have st2:=St.told st hp'
      cases p <;> cases want
      ·exact exec _ st2 (by simp [Region.wanted,hg,hy]) h
      ·exact skip _ st2 (by simp [Region.wanted,hg,hy]) h
      ·exact skip _ st2 (by simp [Region.wanted,hg,hy]) h
      ·exact exec _ st2 (by simp [Region.wanted,hg,hy]) h
     ·rename_i hp'
      have hv:a.tmps.getD t undef=.tuple #[]:=by
       have:=st.env t
       rw [hp'] at this
       exact YN this
      have hy:=VN ht hv
      exact skip _ st (by simp [Region.wanted,hg,hy]) h
     ·cases h
    ·cases h
end
end Go.Ev
