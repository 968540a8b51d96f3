/- What the evaluator tells of a call is what the machine does. -/
import Derived.Test.YtkbbicgglblfiaaGreatDoorSnd30
namespace Go.Ev
open Go
section
variable {C:Ctx} {P:Program}
theorem AsT:∀ {a b:List Nat},wO a b=true->a=b:=by
 intro a;induction a with
 | nil=>grind [wO]
 | cons i a ih=>
  intro b h;cases b<;>grind [wO,Ea]
theorem AtN {g:Nat} {ts:List Nat} (h:AT7 P g=some ts):∃ fn,P.funcs[g]?=some fn/\fn.params.toList=ts:=by grind [AT7]
theorem AtO {k g:Nat} {us rs:List (U C.El)} {fn:Func} (h:RG C P k g us=some rs) (hf:P.funcs[g]?=some fn) :
  fn.body.isSome=true/\∃ q,enter C 0 (C.mode g) fn.params.toList us=some q/\(q.2.map (·.1)).Nodup:=by
 cases k<;>grind [RG,vT]
theorem AtQ (hC:EW C P) {g:Nat} {fn:Func} {args:Array Value} {w:World} (hf:P.funcs[g]?=some fn) (hb:fn.body.isSome=true):(callFunc g args).run P w=.ok (.enter g args) w:=by
 have h1:=hC.Afp g fn hf;have h2:fn.body.isNone=false:=by simp_all
 unfold callFunc;have hp:(program:Sem Program).run P w=.ok P w:=rfl;rw [Sem.run_bind,hp];simp only [Result.andThen_ok,hf,h1,h2,Bool.false_eq_true,if_false];rfl
theorem AtT {hp:Hp C}:∀ (ms:List Mode') (ts:List Nat) (vs:List (Val C.El)) (q:List (Option (U C.El))×List (Option (Nat×Nat))),give C hp ms ts vs=some q->vs.length=ts.length:=by
 intro ms ts;induction ts generalizing ms with
 | nil=>grind [give]
 | cons t ts ih=>
  intro vs q h;match vs,h with
  | [u]::vs,h=>
   grind [give]
theorem As0 (hC:EW C P) (k:Nat) (ih:∀ g us rs,RG C P k g us=some rs->AEL C P g us rs):ah C P (QO P) (callOf C P k):=by
 intro w0 Avn n env hp AB Ai a w o g args argTypes K r hT st ho h;obtain ⟨x,ho,hax⟩:=ho
 simp only [jY] at h;split at h;·cases h
 ·rename_i ts hpo;obtain ⟨fn,hfn,hts⟩:=AtN hpo
  split at h
  ·rename_i q hq;obtain ⟨gs,ids⟩:=q
   split at h
   ·rename_i us hnd hh;unfold callOf at h;obtain ⟨rs,hrs,hK⟩:=Option.bind_eq_some_iff.1 h
    obtain ⟨hbody,qe,hqe,EV⟩:=AtO hrs hfn
    have Fi:=hqe;rw [hts] at hqe;have hs:=vT hnd;have hv:∀ (k:Nat) (x:Val C.El),(vals C env args.toList)[k]?=some x->IB C hp AB w (BK C hp AB w) x ((args.map a.eval).getD k undef):=by
     intro k x hx;obtain ⟨y,h1,h2⟩:=AtU st _ k x hx
     have:(args.map a.eval).getD k undef=a.eval y:=by
      have h1:args[k]?=some y:=by grind
      simp [Array.getD_eq_getD_getElem?,h1]
     grind
    have hgl:(vals C env args.toList).length=ts.length:=by grind [AtT]
    have hsz:(args.map a.eval).size=ts.length:=by grind [AtV]
    obtain ⟨m0,hT0,hargs⟩:=AtW hC hT st.mem hq hh hqe EV hs hv hsz
    have F:=ih g us rs hrs w _ (args.map a.eval) fn qe hfn Fi m0 hT0 (by grind) hargs;intro next Q hn
    have hx:(execOp a.eval o).run P w=.ok (.enter g (args.map a.eval)) w:=by
     have e1:execOp a.eval o=callFunc g (#[]++args.map a.eval++ #[]):=by simp only [execOp,ho,resolve,hax];rfl
     grind [AtQ]
    unfold Oper.wp;rw [hx,Oper.upon_enter];refine F.mono ?_;rintro e w' ⟨v,rfl,post⟩;obtain ⟨hpc,AG,BW,us',r',q',mc,hv',hr,hqo,hnd',HI,kp⟩:=post
    obtain ⟨r1,r2⟩:=r'
    obtain ⟨q1,q2⟩:=q'
    have hlen:r1.length=QO P g:=by have:=(AT8 (C:=C) 0 _ us' r1 r2 0 (AyQ C 0 0 r1).2.1 (((AyQ C 0 0 r1).2.1.map (·.1)).zip r2) hr (fun _ h=>h) (fun _ h=>h)).1;grind [QO]
    have ht:rs.take (QO P g)=r1:=by grind
    have hd:rs.drop (QO P g)=q1:=by grind
    rw [ht,hd] at hK;simp only at hK;split at hK
    ·rename_i hb' hback;split at hK
     ·rename_i hfr;rw [Bool.and_eq_true] at hfr;rw [hts] at hqo;rw [hts] at hnd'
      exact hn _ _ _ _ hK (AtX hC st.mem hq hh hqe EV hs mc hv' hr hqo (vT hnd') kp hback (vT hfr.1) (fun x hx=>by
       grind))
     grind
    grind
   ·cases h
  ·cases h
end
end Go.Ev
