/- What the evaluator tells of a function is what the machine does, where this holds of the calls and of the regions that draw. -/
import Derived.Test.YtaalgheapdmjnaaGreatDoorSnd21
namespace Go.Ev
open Go
section
variable {C:Ctx} {P:Program} {hp:Hp C} {AB:At} {w w':World} {Af:Nat->Prop} {w0:World} {Ec:Nat->Nat->Prop} {n:Nat} {env:Env C} {a:Act}
def PostF (C:Ctx) (g:Nat) (fn:Func) (at0:At) (pk:List Nat) (w:World) (Ec:Nat->Nat->Prop) (rs:List (U C.El)) (v:Value) (w':World):Prop:=
 ∃ (hpc:Hp C) (AG:At) (BV:Nat->Prop) (us:List (U C.El)) (r q:List (U C.El)×List (Option (Nat×Nat))),Mem C w Ec hpc AG BV w'/\Hf C hpc AG w' (BD C hpc AG w') us v/\RI C hpc fn.resultTypes.toList us=some r/\UE C hpc 0 (C.mode g) fn.params.toList=some q/\nodupB (ZF C 0 fn.params.toList++Ef (r.2++q.2))=true/\rs=r.1++q.1/\Keeps pk at0 hpc AG
def ACE (tmps:Array Value):ResultVar->Sem Value
 | .tmp t=>pure (tmps.getD t undef)
 | .cell b t=>do loadVar t (<- asAddr (tmps.getD b undef))
theorem ApJ {t:Nat} {v x:Value} (h:(Instr.loadAt t v).run P w=.ok x w):((do loadVar t (<- asAddr v):Sem Value)).run P w=.ok x w:=by
 cases v with
 | pointer A=>
  cases A<;>simp_all [Instr.loadAt,Instr.sureAddr,asAddr]
 | _=>simp [Instr.loadAt,Instr.sureAddr] at h
theorem ApK (hC:EG C P) (hT:JA C w0 Ec) (st:St C w0 Ec n env hp AB Af a w):∀ (l:List ResultVar) (us:List (U C.El)),RH C env hp l=some us->
  ∃ vs:List Value,(l.mapM (ACE a.tmps)).run P w=.ok vs w/\vs.length=us.length/\∀ (i:Nat) (u:U C.El),us[i]?=some u->∃ x,vs[i]?=some x/\Aun C hp AB w (BD C hp AB w) u x:=by
 intro l;induction l with
 | nil=>intro us h;simp only [RH,Option.some.injEq] at h;subst h;simp
 | cons rv l ih=>
  intro us h
  have fin:∀ {u:U C.El} {us':List (U C.El)} {x:Value},RH C env hp l=some us'->us=u::us'->(ACE a.tmps rv).run P w=.ok x w->Aun C hp AB w (BD C hp AB w) u x->
    ∃ vs:List Value,((rv::l).mapM (ACE a.tmps)).run P w=.ok vs w/\vs.length=us.length/\∀ (i:Nat) (u:U C.El),us[i]?=some u->∃ x,vs[i]?=some x/\Aun C hp AB w (BD C hp AB w) u x:=by
   intro u us' x h1 h2 h3 h4;obtain ⟨vs,g1,g2,g3⟩:=ih us' h1
   subst h2;refine ⟨x::vs,?_,by simp [g2],fun i u' hu=>?_⟩;all_goals grind [Sem.run_bind,Result.andThen_ok,Sem.run_pure]
  cases rv with
  | tmp t=>
   simp only [RH] at h;split at h;·rename_i u us' he hr;cases h;have hv:=st.env t;rw [he] at hv;exact fin hr rfl rfl hv
   ·cases h
  | cell b t=>
   simp only [RH] at h;split at h
   ·rename_i l' he;split at h
    ·rename_i u us' hl hr;cases h;have hv:=st.env b;rw [he] at hv;obtain ⟨x,h1,h2⟩:=AZS hC hT st.mem hv hl
     exact fin hr rfl (ApJ h1) h2
    ·cases h
   ·cases h
theorem ApL (hC:EG C P) (hT:JA C w0 Ec) (st:St C w0 Ec n env hp AB Af a w) {g:Nat} {fn:Func} {rs:List (U C.El)} {at0:At} {pk:List Nat} (kp:Keeps pk at0 hp AB) (h:finish C g fn env hp some none=some rs) :
  ∃ v,(results fn a.tmps).run P w=.ok v w/\PostF C g fn at0 pk w0 Ec rs v w:=by
 rw [AQu] at h;split at h
 ·rename_i us hus;split at h
  ·rename_i r q hr hq;split at h
   ·rename_i hn;cases h;obtain ⟨vs,h1,h2,h3⟩:=ApK hC hT st _ _ hus
    have hm:(fn.results.mapM (ACE a.tmps)).run P w=.ok vs.toArray w:=by simp_all [Array.mapM_eq_mapM_toList]
    have hres:(results fn a.tmps).run P w=.ok (if h:vs.toArray.size=1 then vs.toArray[0] else .tuple vs.toArray) w:=by
     have he:results fn a.tmps=(do
      let vs <- fn.results.mapM (ACE a.tmps);pure (if h:vs.size=1 then vs[0] else .tuple vs)):=by
      rfl
     simp_all
    refine ⟨_,hres,hp,AB,Af,us,r,q,st.mem,?_,hr,hq,hn,rfl,kp⟩;match us,h2,h3 with
    | [u],h2,h3=>
     obtain ⟨x,h4,h5⟩:=h3 0 u rfl
     match vs,h2,h4 with
     | [y],_,h4=>simp at h4;subst h4;exact h5
    | [],h2,h3=>
     have:vs=[]:=List.length_eq_zero_iff.1 h2;subst this;exact ⟨#[],rfl,rfl,fun i u hu=>by simp at hu⟩
    | u1::u2::us,h2,h3=>
     rw [dif_neg (by simp [h2])]
     exact ⟨vs.toArray,rfl,by omega,fun i u hu=>by
      simp_all⟩
   ·cases h
  ·cases h
 ·cases h
def AB7 (C:Ctx) (P:Program) (g:Nat) (us rs:List (U C.El)):Prop:=
 ∀ (w:World) (at0:At) (args:Array Value) (fn:Func) (q:Env C×Hp C),P.funcs[g]?=some fn->enter C 0 (C.mode g) fn.params.toList us=some q->
  Mem C w (H6 C q.2 at0) q.2 at0 (fun _=>False) w->JA C w (H6 C q.2 at0)->args.size=fn.params.size->(∀ t,Hf C q.2 at0 w (BD C q.2 at0 w) (look q.1 t [.one .junk]) (args.getD t undef))->
  Calls P g args w (fun e w'=>∃ v,e=.returned v/\PostF C g fn at0 (OX C q.2) w (H6 C q.2 at0) rs v w')
theorem ApM:∀ (hp:Hp C) (i:Nat),i ∈ OX C hp->Ba hp i=true:=by
 intro hp;induction hp with
 | nil=>simp [OX]
 | cons p r ih=>
  obtain ⟨j,o⟩:=p
  intro i h;by_cases e:i=j;·simp_all [Sr]
  ·refine UM _ _ (ih i ?_)
   cases o <;> simp only [OX] at h <;> first
    | exact h
    | simp_all
def callOf (C:Ctx) (P:Program) (k:Nat):Nat->List (U C.El)->(List (U C.El)->Option (List (U C.El)))->Option (List (U C.El)):=fun g args K=>(QS C P k g args).bind K
theorem AZQ:∀ (i:Nat) (ms:List Mode') (ts:List Nat) (us:List (U C.El)) (q:Env C×Hp C),enter C i ms ts us=some q->∀ t,i+ts.length<=t->look q.1 t [.one .junk]=[.one .junk]:=by
 intro i ms ts;induction ts generalizing i ms with
 | nil=>
  intro us q h t ht;cases us with
  | nil=>simp only [enter,Option.some.injEq] at h;subst h;rfl
  | cons _ _=>simp [enter] at h
 | cons ty ts ih=>
  intro us q h t ht;cases us with
  | nil=>simp [enter] at h
  | cons u us=>
   simp only [enter] at h;split at h;·rename_i q' hq;have h2:=ih (i+1) (ms.drop 1) us q' hq t (by grind);grind [EL,look]
   ·cases h
theorem Aoc (hC:EG C P) (hcall:∀ k,(∀ g us rs,QS C P k g us=some rs->AB7 C P g us rs)->ZE C P (PG P) (callOf C P k)) (Ct:∀ k w0 Ec n,ZE C P (PG P) (callOf C P k)->JA C w0 Ec->AQy C P (PG P) (callOf C P k) w0 Ec n) :
  ∀ k,(∀ g us rs,QS C P k g us=some rs->AB7 C P g us rs)/\
   (∀ (f:Nat) (fn:Func) (pk:List Nat) (fresh:Bool) (todo:List Item) (env:Env C) (hp:Hp C) (rs:List (U C.El)) (w0:World) (Ec:Nat->Nat->Prop) (at0 AB:At) (Af:Nat->Prop) (a:Act) (w:World) (b:Frame) (cs:List Frame),
    run C P k f fn pk fresh todo env hp=some rs->JA C w0 Ec->St C w0 Ec fn.ntmps env hp AB Af a w->Keeps pk at0 hp AB->
    Reach P b cs todo a w (fun a w'=>a.defers=[]/\∃ v,(results fn a.tmps).run P w'=.ok v w'/\PostF C f fn at0 pk w0 Ec rs v w')):=by
 intro k;induction k with
 | zero=>simp [QS,run]
 | succ k ih=>
  obtain ⟨ih1,ih2⟩:=ih
  have hcs:=hcall k ih1;refine ⟨fun g us rs h=>?_,fun f fn pk fresh todo env hp rs w0 Ec at0 AB Af a w b cs h hT st kp=>?_⟩
  ·simp only [QS] at h;split at h
   ·rename_i fn hfn;split at h
    ·rename_i body hbody;split at h
     ·rename_i q hq;split at h
      ·rename_i hok;rw [Bool.and_eq_true] at hok;have hsize:=Nat.le_of_ble_eq_true hok.2;intro w at0 args fn' q' hfn' hq' m hT hargs hrep cs;rw [hfn] at hfn';cases hfn';rw [hq] at hq';cases hq';let b:Frame:={ (default:Frame) with fn:=g,kind:=.normal }
       let a:Act:={ tmps:=args++Array.replicate (fn.ntmps - args.size) undef,defers:=[] }
       have henter:Frame.enter P g args .normal=b.at a [.code body]:=by grind [Frame.enter,Frame.at]
       have hsz:a.tmps.size=fn.ntmps:=by grind
       have st:St C w (H6 C q.2 at0) fn.ntmps q.1 q.2 at0 (fun _=>False) a w:=⟨m,hsz,rfl,fun t=>by
        rcases Nat.lt_or_ge t args.size with hlt | hge
        ·have:a.tmps.getD t undef=args.getD t undef:=by simp only [a,Array.getD_eq_getD_getElem?];grind
         grind
        ·rw [AZQ 0 _ _ _ _ hq t (by simp_all)];trivial⟩
       obtain ⟨a',w',todo',h1,h2,v,h3,h4⟩:=ih2 g fn (OX C q.2) false [.code body] q.1 q.2 rs w (H6 C q.2 at0) at0 at0 (fun _=>False) a w b cs h hT st (fun p hp'=>⟨ApM _ _ hp',rfl⟩)
       refine ⟨.returned v,w',{ b.at a' todo' with mode:=.returning },⟨v,rfl,h4⟩,?_,rfl,?_⟩;·rw [henter];exact h1
       ·exact ⟨rfl,h2,rfl,fn,hfn,h3⟩
      ·cases h
     ·cases h
    ·cases h
   ·cases h
  ·simp only [run] at h
   refine ApN (AC:=PG P) (call:=callOf C P k) (r:=rs) hC hT hcs (f:=f) (fn:=fn) (Ct k w0 Ec fn.ntmps hcs hT) (stop:=fun todo env hp=>run C P k f fn pk true todo env hp) (ret:=some) (b:=b) (cs:=cs) (pk:=pk) (at0:=at0)
    (fun todo env hp AB Af a w h st kp=>ih2 f fn pk true todo env hp rs w0 Ec at0 AB Af a w b cs h hT st kp)
    (fun env hp AB Af a w h st kp=>⟨st.defers,ApL hC hT st kp h⟩) 100000 fresh todo env hp AB Af a w h st kp
end
end Go.Ev
