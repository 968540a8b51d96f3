/- What the evaluator tells of a function is what the machine does, where this holds of the calls and of the regions that draw. -/
import Derived.Test.YtkbbicgglblfiaaGreatDoorSnd21
namespace Go.Ev
open Go
section
variable {C:Ctx} {P:Program} {hp:Hp C} {AB:At} {w w':World} {Ai:Nat->Prop} {w0:World} {Avn:Nat->Nat->Prop} {n:Nat} {env:Env C} {a:Act}
def PostF (C:Ctx) (g:Nat) (fn:Func) (at0:At) (pk:List Nat) (w:World) (Avn:Nat->Nat->Prop) (rs:List (U C.El)) (v:Value) (w':World):Prop:=
 ∃ (hpc:Hp C) (AG:At) (BW:Nat->Prop) (us:List (U C.El)) (r q:List (U C.El)×List (Option (Nat×Nat))),Mem C w Avn hpc AG BW w'/\IB C hpc AG w' (BK C hpc AG w') us v/\Sv C hpc fn.resultTypes.toList us=some r/\U7 C hpc 0 (C.mode g) fn.params.toList=some q/\nodupB (aj C 0 fn.params.toList++E5 (r.2++q.2))=true/\rs=r.1++q.1/\Keeps pk at0 hpc AG
def AES (tmps:Array Value):ResultVar->Sem Value
 | .tmp t=>pure (tmps.getD t undef)
 | .cell b t=>do loadVar t (<- asAddr (tmps.getD b undef))
theorem Atq {t:Nat} {v x:Value} (h:(Instr.loadAt t v).run P w=.ok x w):((do loadVar t (<- asAddr v):Sem Value)).run P w=.ok x w:=by
 cases v with
 | pointer A=>
  cases A<;>simp_all [Instr.loadAt,Instr.sureAddr,asAddr]
 | _=>simp [Instr.loadAt,Instr.sureAddr] at h
theorem Atr (hC:EW C P) (hT:JX C w0 Avn) (st:St C w0 Avn n env hp AB Ai a w):∀ (l:List ResultVar) (us:List (U C.El)),Sr C env hp l=some us->
  ∃ vs:List Value,(l.mapM (AES a.tmps)).run P w=.ok vs w/\vs.length=us.length/\∀ (i:Nat) (u:U C.El),us[i]?=some u->∃ x,vs[i]?=some x/\AzR C hp AB w (BK C hp AB w) u x:=by
 intro l;induction l with
 | nil=>intro us h;simp only [Sr,Option.some.injEq] at h;subst h;simp
 | cons rv l ih=>
  intro us h
  have fin:∀ {u:U C.El} {us':List (U C.El)} {x:Value},Sr C env hp l=some us'->us=u::us'->(AES a.tmps rv).run P w=.ok x w->AzR C hp AB w (BK C hp AB w) u x->
    ∃ vs:List Value,((rv::l).mapM (AES a.tmps)).run P w=.ok vs w/\vs.length=us.length/\∀ (i:Nat) (u:U C.El),us[i]?=some u->∃ x,vs[i]?=some x/\AzR C hp AB w (BK C hp AB w) u x:=by
   intro u us' x h1 h2 h3 h4;obtain ⟨vs,g1,g2,g3⟩:=ih us' h1
   subst h2;refine ⟨x::vs,?_,by simp [g2],fun i u' hu=>?_⟩;all_goals grind [Sem.run_bind,Result.andThen_ok,Sem.run_pure]
  cases rv with
  | tmp t=>
   simp only [Sr] at h;split at h;·rename_i u us' he hr;cases h;have hv:=st.env t;rw [he] at hv;exact fin hr rfl rfl hv
   ·cases h
  | cell b t=>
   simp only [Sr] at h;split at h
   ·rename_i l' he;split at h
    ·rename_i u us' hl hr;cases h;have hv:=st.env b;rw [he] at hv;obtain ⟨x,h1,h2⟩:=Acu hC hT st.mem hv hl
     exact fin hr rfl (Atq h1) h2
    ·cases h
   ·cases h
theorem Ats (hC:EW C P) (hT:JX C w0 Avn) (st:St C w0 Avn n env hp AB Ai a w) {g:Nat} {fn:Func} {rs:List (U C.El)} {at0:At} {pk:List Nat} (kp:Keeps pk at0 hp AB) (h:finish C g fn env hp some none=some rs) :
  ∃ v,(results fn a.tmps).run P w=.ok v w/\PostF C g fn at0 pk w0 Avn rs v w:=by
 rw [ATv] at h;split at h
 ·rename_i us hus;split at h
  ·rename_i r q hr hq;split at h
   ·rename_i hn;cases h;obtain ⟨vs,h1,h2,h3⟩:=Atr hC hT st _ _ hus
    have hm:(fn.results.mapM (AES a.tmps)).run P w=.ok vs.toArray w:=by simp_all [Array.mapM_eq_mapM_toList]
    have hres:(results fn a.tmps).run P w=.ok (if h:vs.toArray.size=1 then vs.toArray[0] else .tuple vs.toArray) w:=by
     have he:results fn a.tmps=(do
      let vs <- fn.results.mapM (AES a.tmps);pure (if h:vs.size=1 then vs[0] else .tuple vs)):=by
      rfl
     simp_all
    refine ⟨_,hres,hp,AB,Ai,us,r,q,st.mem,?_,hr,hq,hn,rfl,kp⟩;match us,h2,h3 with
    | [u],h2,h3=>
     obtain ⟨x,h4,h5⟩:=h3 0 u rfl
     match vs,h2,h4 with
     | [y],_,h4=>simp at h4;subst h4;exact h5
    | [],h2,h3=>
     have:vs=[]:=List.length_eq_zero_iff.1 h2;subst this;exact ⟨#[],rfl,rfl,fun i u hu=>by simp at hu⟩
    | u1::u2::us,h2,h3=>
     rw [dif_neg (by simp [h2])]
     exact ⟨vs.toArray,rfl,by omega,fun i u hu=>by
      simp_all⟩
   ·cases h
  ·cases h
 ·cases h
def AEL (C:Ctx) (P:Program) (g:Nat) (us rs:List (U C.El)):Prop:=
 ∀ (w:World) (at0:At) (args:Array Value) (fn:Func) (q:Env C×Hp C),P.funcs[g]?=some fn->enter C 0 (C.mode g) fn.params.toList us=some q->
  Mem C w (IX C q.2 at0) q.2 at0 (fun _=>False) w->JX C w (IX C q.2 at0)->args.size=fn.params.size->(∀ t,IB C q.2 at0 w (BK C q.2 at0 w) (look q.1 t [.one .junk]) (args.getD t undef))->
  Calls P g args w (fun e w'=>∃ v,e=.returned v/\PostF C g fn at0 (PU C q.2) w (IX C q.2 at0) rs v w')
theorem Att:∀ (hp:Hp C) (i:Nat),i ∈ PU C hp->Bj hp i=true:=by
 intro hp;induction hp with
 | nil=>simp [PU]
 | cons p r ih=>
  obtain ⟨j,o⟩:=p
  intro i h;by_cases e:i=j;·simp_all [UO]
  ·refine VQ _ _ (ih i ?_)
   cases o <;> simp only [PU] at h <;> first
    | exact h
    | simp_all
def callOf (C:Ctx) (P:Program) (k:Nat):Nat->List (U C.El)->(List (U C.El)->Option (List (U C.El)))->Option (List (U C.El)):=fun g args K=>(RG C P k g args).bind K
theorem Acr:∀ (i:Nat) (ms:List Mode') (ts:List Nat) (us:List (U C.El)) (q:Env C×Hp C),enter C i ms ts us=some q->∀ t,i+ts.length<=t->look q.1 t [.one .junk]=[.one .junk]:=by
 intro i ms ts;induction ts generalizing i ms with
 | nil=>
  intro us q h t ht;cases us with
  | nil=>simp only [enter,Option.some.injEq] at h;subst h;rfl
  | cons _ _=>simp [enter] at h
 | cons ty ts ih=>
  intro us q h t ht;cases us with
  | nil=>simp [enter] at h
  | cons u us=>
   simp only [enter] at h;split at h;·rename_i q' hq;have h2:=ih (i+1) (ms.drop 1) us q' hq t (by grind);grind [Ea,look]
   ·cases h
theorem Asz (hC:EW C P) (hcall:∀ k,(∀ g us rs,RG C P k g us=some rs->AEL C P g us rs)->ah C P (QO P) (callOf C P k)) (Cz:∀ k w0 Avn n,ah C P (QO P) (callOf C P k)->JX C w0 Avn->AT0 C P (QO P) (callOf C P k) w0 Avn n) :
  ∀ k,(∀ g us rs,RG C P k g us=some rs->AEL C P g us rs)/\
   (∀ (f:Nat) (fn:Func) (pk:List Nat) (fresh:Bool) (todo:List Item) (env:Env C) (hp:Hp C) (rs:List (U C.El)) (w0:World) (Avn:Nat->Nat->Prop) (at0 AB:At) (Ai:Nat->Prop) (a:Act) (w:World) (b:Frame) (cs:List Frame),
    run C P k f fn pk fresh todo env hp=some rs->JX C w0 Avn->St C w0 Avn fn.ntmps env hp AB Ai a w->Keeps pk at0 hp AB->
    Reach P b cs todo a w (fun a w'=>a.defers=[]/\∃ v,(results fn a.tmps).run P w'=.ok v w'/\PostF C f fn at0 pk w0 Avn rs v w')):=by
 intro k;induction k with
 | zero=>simp [RG,run]
 | succ k ih=>
  obtain ⟨ih1,ih2⟩:=ih
  have hcs:=hcall k ih1;refine ⟨fun g us rs h=>?_,fun f fn pk fresh todo env hp rs w0 Avn at0 AB Ai a w b cs h hT st kp=>?_⟩
  ·simp only [RG] at h;split at h
   ·rename_i fn hfn;split at h
    ·rename_i body hbody;split at h
     ·rename_i q hq;split at h
      ·rename_i hok;rw [Bool.and_eq_true] at hok;have hsize:=Nat.le_of_ble_eq_true hok.2;intro w at0 args fn' q' hfn' hq' m hT hargs hrep cs;rw [hfn] at hfn';cases hfn';rw [hq] at hq';cases hq';let b:Frame:={ (default:Frame) with fn:=g,kind:=.normal }
       let a:Act:={ tmps:=args++Array.replicate (fn.ntmps - args.size) undef,defers:=[] }
       have henter:Frame.enter P g args .normal=b.at a [.code body]:=by grind [Frame.enter,Frame.at]
       have hsz:a.tmps.size=fn.ntmps:=by grind
       have st:St C w (IX C q.2 at0) fn.ntmps q.1 q.2 at0 (fun _=>False) a w:=⟨m,hsz,rfl,fun t=>by
        rcases Nat.lt_or_ge t args.size with hlt | hge
        ·have:a.tmps.getD t undef=args.getD t undef:=by simp only [a,Array.getD_eq_getD_getElem?];grind
         grind
        ·rw [Acr 0 _ _ _ _ hq t (by simp_all)];trivial⟩
       obtain ⟨a',w',todo',h1,h2,v,h3,h4⟩:=ih2 g fn (PU C q.2) false [.code body] q.1 q.2 rs w (IX C q.2 at0) at0 at0 (fun _=>False) a w b cs h hT st (fun p hp'=>⟨Att _ _ hp',rfl⟩)
       refine ⟨.returned v,w',{ b.at a' todo' with mode:=.returning },⟨v,rfl,h4⟩,?_,rfl,?_⟩;·rw [henter];exact h1
       ·exact ⟨rfl,h2,rfl,fn,hfn,h3⟩
      ·cases h
     ·cases h
    ·cases h
   ·cases h
  ·simp only [run] at h
   refine Atu (AC:=QO P) (call:=callOf C P k) (r:=rs) hC hT hcs (f:=f) (fn:=fn) (Cz k w0 Avn fn.ntmps hcs hT) (stop:=fun todo env hp=>run C P k f fn pk true todo env hp) (ret:=some) (b:=b) (cs:=cs) (pk:=pk) (at0:=at0)
    (fun todo env hp AB Ai a w h st kp=>ih2 f fn pk true todo env hp rs w0 Avn at0 AB Ai a w b cs h hT st kp)
    (fun env hp AB Ai a w h st kp=>⟨st.defers,Ats hC hT st kp h⟩) 100000 fresh todo env hp AB Ai a w h st kp
end
end Go.Ev
