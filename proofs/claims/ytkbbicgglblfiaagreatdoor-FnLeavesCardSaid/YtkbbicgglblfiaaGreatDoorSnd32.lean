/- An operation that sees more does the same. -/
import Derived.Test.YtkbbicgglblfiaaGreatDoorSnd31
namespace Go.Ev
set_option linter.unusedVariables false
set_option linter.unusedSimpArgs false
open Go
section
variable {C:Ctx} {P:Program} {hp hp':Hp C} {γ:Type}
def Le (hp hp':Hp C):Prop:=∀ id,look hp id .dead≠.dead->look hp' id .dead=look hp id .dead
theorem Le.look (hL:Le hp hp') {id:Nat} {o:AxP C.El} (h:look hp id .dead=o) (hne:o≠.dead):look hp' id .dead=o:=by rw [hL id (by simp_all),h]
theorem Le.app (hL:Le hp hp') (dl:Hp C):Le (dl++hp) (dl++hp'):=by
 induction dl with
 | nil=>exact hL
 | cons p dl ih=>
  obtain ⟨i,o⟩:=p
  intro id h;simp only [List.cons_append] at h ⊢;by_cases e:id=i;·simp_all [Awb]
  ·rw [Ax3 e] at h ⊢;rw [Ax3 e];exact ih id h
theorem AT4 (hL:Le hp hp') {e:Nat} {l:L C.El} {xs:List (C.El e)} (h:rowOf C hp e l=some xs):rowOf C hp' e l=some xs:=by
 cases l with
 | own id=>
  simp only [rowOf] at h ⊢;split at h;·rename_i hl;rw [hL.look hl (by simp)];exact h
  ·rename_i hl;rw [hL.look hl (by simp)];exact h
  ·cases h
 | sub id off len=>
  simp only [rowOf] at h ⊢;split at h;·rename_i hl;rw [hL.look hl (by simp)];exact h
  ·cases h
 | BG _ _=>exact h
 | JI=>exact h
 | _=>simp [rowOf] at h
theorem AtG (hL:Le hp hp') {e:Nat} {l:L C.El} {xs:List (C.El e)} (h:jZ C hp e l=some xs):jZ C hp' e l=some xs:=by cases l<;>grind [jZ,AT4]
theorem AtF (hL:Le hp hp') {l:L C.El} {n:Nat} (h:UL C hp l=some n):UL C hp' l=some n:=by
 cases l with
 | own id=>
  simp only [UL] at h ⊢;split at h;·rename_i hl;rw [hL.look hl (by simp)];exact h
  ·rename_i hl;rw [hL.look hl (by simp)];exact h
  ·cases h
 | sub id off len=>
  simp only [UL] at h ⊢;split at h;·rename_i hl;rw [hL.look hl (by simp)];exact h
  ·cases h
 | _=>exact h
theorem AtH (hL:Le hp hp') {l:L C.El} {q:List (L C.El)×Nat} (h:place C hp l=some q):place C hp' l=some q:=by
 cases l with
 | ptr id off=>
  simp only [place] at h ⊢;split at h;·rename_i hl;rw [hL.look hl (by simp)];exact h
  ·cases h
 | Ji id i off=>
  simp only [place] at h ⊢;split at h;·rename_i hl;rw [hL.look hl (by simp)];exact h
  ·rename_i hl;rw [hL.look hl (by simp)];exact h
  ·rename_i hl;rw [hL.look hl (by simp)];exact h
  ·cases h
 | _=>exact h
theorem As9 (hL:Le hp hp') {t:Nat} {l:L C.El} {u:U C.El} (h:Og C hp t l=some u):Og C hp' t l=some u:=by
 have gen:(match place C hp l with | some (cs,off)=>Pg C t cs off | none=>none)=some u->(match place C hp' l with | some (cs,off)=>Pg C t cs off | none=>none)=some u:=by grind [AtH]
 unfold Og at h ⊢;split at h
 ·split at h
  ·split at h;·rename_i hl;rw [hL.look hl (by simp)];exact h
   ·cases h
  omega
 all_goals grind
theorem Ach (hL:Le hp hp'):∀ (ls:List (L C.El)) (dl:Hp C) (q:List (L C.El)×Hp C),freeze C hp dl ls=some q->freeze C hp' dl ls=some q:=by
 intro ls;induction ls with
 | nil=>intro dl q h;exact h
 | cons l ls ih=>
  intro dl q h;cases l with
  | own id=>
   simp only [freeze] at h ⊢;split at h;·rename_i e xs hl;rw [(hL.app dl).look hl (by simp)];grind
   ·cases h
  | JI | int _ _ | bool _ | str _=>
   grind [freeze]
  | _=>simp [freeze] at h
theorem Acf (hL:Le hp hp') {e:Nat}:∀ (ps:List (Nat×Val C.El)) (dl:Hp C) (xs:List (C.El e)) (q:List (C.El e)×Hp C),rowsOf C e hp dl xs ps=some q->rowsOf C e hp' dl xs ps=some q:=by
 intro ps;induction ps with
 | nil=>intro dl xs q h;exact h
 | cons p ps ih=>
  intro dl xs q h;match p,h with
  | (i,[u]),h=>
   grind [rowsOf,Ach]
theorem AtA (hL:Le hp hp') {t:Nat} {a:L C.El} {u:U C.El} {h':Hp C} (h:Ayx C hp t a u=some h'):Ayx C hp' t a u=some h':=by
 cases a with
 | ptr id off=>
  simp only [Ayx] at h ⊢;split at h;·rename_i hl;rw [hL.look hl (by simp)];exact h
  ·rename_i hl;rw [hL.look hl (by simp)];exact h
  ·cases h
 | Ji id i off=>
  simp only [Ayx] at h ⊢;split at h
  ·rename_i e xs hl;rw [hL.look hl (by simp)];split at h
   ·rename_i ls hls;simp only [hls];split at h
    ·rename_i r hr;rw [Ach hL _ _ _ hr];simp only at h ⊢;split at h
     ·rename_i h1 h2 h3;have hne:Ev.look (r.2++hp) id .dead≠.dead:=fun e=>by rw [e] at h3;cases h3
      have h3':AT6 C (Ev.look (r.2++hp') id .dead)=false:=by rw [(hL.app r.2) id hne];exact h3
      grind
     ·cases h
    ·cases h
   omega
  ·rename_i hl;rw [hL.look hl (by simp)];exact h
  ·rename_i hl;rw [hL.look hl (by simp)];exact h
  ·cases h
 | _=>simp [Ayx] at h
theorem AtI (hL:Le hp hp') {e:Nat} {l l':L C.El} (h:wo C hp e l=some l'):wo C hp' e l=some l':=by unfold wo at h ⊢;grind [AT4]
theorem AtJ (hL:Le hp hp'):∀ (ss:List Sh) (ls:List (L C.El)) (q:List (L C.El)),SB C hp ss ls=some q->SB C hp' ss ls=some q:=by
 intro ss;induction ss with
 | nil=>intro ls q h;cases ls <;> exact h
 | cons s ss ih=>
  intro ls q h;cases ls with
  | nil=>simp_all [SB]
  | cons l ls=>
   cases s<;>grind [SB,AtI]
theorem Aci (hL:Le hp hp') {io pl:Bool}:∀ (ss:List Sh) (ls:List (L C.El)) (q:List (L C.El)×List (Option (Nat×Nat))),Ja C hp io pl ss ls=some q->Ja C hp' io pl ss ls=some q:=by
 intro ss;induction ss with
 | nil=>intro ls q h;cases ls <;> exact h
 | cons s ss ih=>
  intro ls q h;cases ls with
  | nil=>assumption
  | cons l ls=>
   simp only [Ja] at h ⊢;split at h;·cases h
   ·rename_i r hr;rw [ih _ _ hr];cases s with
    | sl e=>
     simp only at h ⊢;split at h
     ·rename_i id hpl;split at h;·rename_i hl;rw [hL.look hl (by simp)];exact h
      ·rename_i hl;rw [hL.look hl (by simp)];exact h
      ·cases h
     all_goals omega
    | _=>exact h
theorem As7 (hL:Le hp hp'):∀ (ts:List Nat) (ms:List Mode') (vs:List (Val C.El)) (q:List (Option (U C.El))×List (Option (Nat×Nat))),give C hp ms ts vs=some q->give C hp' ms ts vs=some q:=by
 intro ts;induction ts with
 | nil=>intro ms vs q h;cases vs <;> exact h
 | cons t ts ih=>
  intro ms vs q h;match vs,h with
  | [u]::vs,h=>
   simp only [give] at h ⊢;split at h;·cases h
   ·rename_i q0 hq0;rw [ih _ _ _ hq0];simp only;split at h
    ·rename_i e hpt;split at h
     ·rename_i id off;split at h;·rename_i cs hl;rw [hL.look hl (by simp)];grind [Aci]
      ·cases h
     omega
    grind [Aci]
theorem As8 (hL:Le hp hp'):∀ (gs:List (Option (U C.El))) (ts:List Nat) (vs:List (Val C.El)) (q:List (U C.El)),hand C hp gs ts vs=some q->hand C hp' gs ts vs=some q:=by
 intro gs;induction gs with
 | nil=>intro ts vs q h;cases ts <;> cases vs <;> exact h
 | cons g gs ih=>
  intro ts vs q h;match ts,vs,h with
  | t::ts,[u]::vs,h=>
   simp only [hand] at h ⊢;split at h;·cases h
   ·rename_i q0 hq0;rw [ih _ _ _ hq0];grind [AtJ]
  | [],_,h=>assumption
theorem AtL (hL:Le hp hp'):∀ (ls rs:List (L C.El)) (q:Hp C),Axw C hp ls rs=some q->Axw C hp' ls rs=some q:=by
 intro ls;induction ls with
 | nil=>intro rs q h;cases rs <;> exact h
 | cons l ls ih=>
  intro rs q h;cases rs with
  | nil=>simp_all [Axw]
  | cons r rs=>
   by_cases hc:(∃ id,l=.own id)/\∃ e xs,r=.Ns e xs
   ·obtain ⟨⟨id,rfl⟩,e,xs,rfl⟩:=hc
    simp only [Axw] at h ⊢;split at h;·rename_i hl hr;rw [hL.look hl (by simp),ih _ _ hr];exact h
    ·rename_i hl hr;rw [hL.look hl (by simp),ih _ _ hr];exact h
    ·cases h
   ·have e1:∀ hp:Hp C,Axw C hp (l::ls) (r::rs)=Axw C hp ls rs:=fun hp=>by
     cases l <;> first
      | rfl
      | (cases r <;> first
        | rfl
        | grind)
    simp_all
theorem UQ (hL:Le hp hp') {d:Nat}:∀ (ts:List Nat) (n:Nat) (ms:List Mode') (vs:List (Val C.El)) (rs:List (U C.El)) (q:Hp C×Hp C),back C hp d n ms ts vs rs=some q->back C hp' d n ms ts vs rs=some q:=by
 intro ts;induction ts with
 | nil=>intro n ms vs rs q h;cases vs <;> cases rs <;> exact h
 | cons t ts ih=>
  intro n ms vs rs q h;match vs,h with
  | [u]::vs,h=>
   simp only [back] at h ⊢;split at h
   ·rename_i e hpt;split at h
    ·rename_i id off cs rs;split at h;·rename_i old hl;rw [hL.look hl (by simp)];grind
     ·cases h
    omega
   grind [AtL]
  | []::_,h=>assumption
  | (_::_::_)::_,h=>assumption
  | [],h=>assumption
end
end Go.Ev
