/- Functions told by plain functions: what is shown of a function's way with such answers in its calls' places holds of the machine. -/
import Derived.Test.YtkbbicgglblfiaaGreatDoorSnd35
namespace Go.Ev
open Go
section
variable {C:Ctx} {P:Program} {γ γ':Type} {AC:Nat->Nat} {call:Nat->List (U C.El)->(List (U C.El)->Option γ)->Option γ} {call':Nat->Nat->List (U C.El)->(List (U C.El)->Option γ')->Option γ'} {r:γ} {nt:Nat}
theorem Ase (hcall:jV call call') {ops:Array Oper} {K:Env C->Hp C->Option γ}:∀ (l:List Oper) (env:Env C) (hp:Hp C),AzM C P AC call nt ops l env hp K none=some r->
  ∃ env' hp',K env' hp'=some r/\G5 fun k=>∀ K':Env C->Hp C->Option γ',AzM C P AC (call' k) nt ops l env hp K' none=K' env' hp':=by
 intro l;induction l with
 | nil=>intro env hp h;exact ⟨env,hp,h,.of fun _ _=>rfl⟩
 | cons o os ih=>
  intro env hp h;simp only [AzM] at h ⊢;split at h;·cases h
  ·rename_i hd
   have exec:∀ (env:Env C),Ci C P AC call env hp (o.dst.getD 0) o.op (fun v h=>AzM C P AC call nt ops os (put C (thaw C hp h env o.op) o.dst v) (h++hp) K none) none=some r->
     ∃ env' hp',K env' hp'=some r/\G5 fun k=>∀ K':Env C->Hp C->Option γ',Ci C P AC (call' k) env hp (o.dst.getD 0) o.op (fun v h=>AzM C P AC (call' k) nt ops os (put C (thaw C hp h env o.op) o.dst v) (h++hp) K' none) none=K' env' hp':=by
    intro env h;obtain ⟨v,h',h1,h2⟩:=ATu (hp':=hp) (env':=env) hcall (fun _ _=>rfl) (fun _=>⟨fun _ _=>rfl,fun _ _ h=>h⟩) h
    obtain ⟨env',hp',h3,h4⟩:=ih _ _ h1
    exact ⟨env',hp',h3,(h2.and h4).mono fun k ⟨h2,h4⟩ K'=>by simp_all⟩
   split at h;·simp_all
   ·rename_i j want hg;split at h
    ·rename_i t ht;split at h;·rename_i p hp';cases p <;> cases want;all_goals simp_all
     all_goals simp_all
    ·cases h
theorem Asf (hcall:jV call call') {AzO:Array Nat} {ops:Array Oper} {env:Env C} {hp:Hp C} {K:Env C->Hp C->Option γ}:∀ (os:List Oper) (i:Nat) (done:List (Done C)),PZ C P AC call nt AzO ops env hp i os done K none=some r->
  ∃ env' hp',K env' hp'=some r/\G5 fun k=>∀ K':Env C->Hp C->Option γ',PZ C P AC (call' k) nt AzO ops env hp i os done K' none=K' env' hp':=by
 intro os;induction os with
 | nil=>intro i done h;exact ⟨_,_,h,.of fun _ _=>rfl⟩
 | cons o os ih=>
  intro i done h;simp only [PZ] at h ⊢;split at h;·cases h
  ·rename_i hd
   have exec:∀ (done:List (Done C)),Ci C P AC call (Sz C (Cb AzO i) done env) (QT C (Cb AzO i) done hp) (o.dst.getD 0) o.op (fun v h=>
      match ji C env AzO ops i o hp (QT C (Cb AzO i) done hp) h with
      | true=>PZ C P AC call nt AzO ops env hp (i+1) os (⟨i,put C [] o.dst v,h⟩::done) K none
      | false=>none) none=some r->
     ∃ env' hp',K env' hp'=some r/\G5 fun k=>∀ K':Env C->Hp C->Option γ',Ci C P AC (call' k) (Sz C (Cb AzO i) done env) (QT C (Cb AzO i) done hp) (o.dst.getD 0) o.op (fun v h=>
      match ji C env AzO ops i o hp (QT C (Cb AzO i) done hp) h with
      | true=>PZ C P AC (call' k) nt AzO ops env hp (i+1) os (⟨i,put C [] o.dst v,h⟩::done) K' none
      | false=>none) none=K' env' hp':=by
    intro done h;obtain ⟨v,h',h1,h2⟩:=ATu (hp':=QT C (Cb AzO i) done hp) (env':=Sz C (Cb AzO i) done env) hcall (fun _ _=>rfl) (fun _=>⟨fun _ _=>rfl,fun _ _ h=>h⟩) h
    dsimp only at h1;split at h1
    ·rename_i hdel;obtain ⟨env',hp',h3,h4⟩:=ih _ _ h1
     exact ⟨env',hp',h3,(h2.and h4).mono fun k ⟨h2,h4⟩ K'=>by simp_all⟩
    simp_all
   split at h;·exact exec done h
   ·rename_i j want hg;split at h
    ·rename_i t ht;split at h
     ·rename_i p hp';cases p <;> cases want;·exact exec _ h
      ·simp_all
      ·simp_all
      ·exact exec _ h
     all_goals simp_all
    ·cases h
theorem Asg {g:Nat} {fn:Func} {env:Env C} {hp:Hp C} {ret:List (U C.El)->Option γ} (h:finish C g fn env hp ret none=some r):∃ us,ret us=some r/\∀ ret':List (U C.El)->Option γ',finish C g fn env hp ret' none=ret' us:=by rw [ATv] at h;split at h;all_goals grind [ATv]
theorem Asi (hcall:jV call call') {f:Nat} {fn:Func} {pk:List Nat} {stop:List Item->Env C->Hp C->Option γ} {ret:List (U C.El)->Option γ}:∀ (m:Nat) (fresh:Bool) (todo:List Item) (env:Env C) (hp:Hp C),seg C P AC call f fn pk stop ret none m fresh todo env hp=some r->
  (∃ us,ret us=some r/\G5 fun k=>∀ (stop':List Item->Env C->Hp C->Option γ') (ret':List (U C.El)->Option γ'),seg C P AC (call' k) f fn pk stop' ret' none m fresh todo env hp=ret' us)\/
  (∃ todo' env' hp',stop todo' env' hp'=some r/\G5 fun k=>∀ (stop':List Item->Env C->Hp C->Option γ') (ret':List (U C.El)->Option γ'),seg C P AC (call' k) f fn pk stop' ret' none m fresh todo env hp=stop' todo' env' hp'):=by
 intro m;induction m with
 | zero=>simp [seg]
 | succ m ih=>
  intro fresh todo env hp h
  have fin:∀ {k:List Item},finish C f fn env hp ret none=some r->(∀ (FA:Nat->List (U C.El)->(List (U C.El)->Option γ')->Option γ') (stop':List Item->Env C->Hp C->Option γ') (ret':List (U C.El)->Option γ'),seg C P AC FA f fn pk stop' ret' none (m+1) fresh k env hp=finish C f fn env hp ret' none)->
    (∃ us,ret us=some r/\G5 fun j=>∀ (stop':List Item->Env C->Hp C->Option γ') (ret':List (U C.El)->Option γ'),seg C P AC (call' j) f fn pk stop' ret' none (m+1) fresh k env hp=ret' us)\/
    (∃ todo' env' hp',stop todo' env' hp'=some r/\G5 fun j=>∀ (stop':List Item->Env C->Hp C->Option γ') (ret':List (U C.El)->Option γ'),seg C P AC (call' j) f fn pk stop' ret' none (m+1) fresh k env hp=stop' todo' env' hp'):=by
   intro k h1 h2;obtain ⟨us,h3,h4⟩:=Asg (γ':=γ') h1
   exact .inl ⟨us,h3,.of fun j stop' ret'=>by simp_all⟩
  have ops:∀ {k:List Item} {env':Env C} {hp':Hp C} {X:Nat->(List Item->Env C->Hp C->Option γ')->(List (U C.El)->Option γ')->Option γ'},seg C P AC call f fn pk stop ret none m false k env' hp'=some r->(G5 fun j=>∀ stop' ret',X j stop' ret'=seg C P AC (call' j) f fn pk stop' ret' none m false k env' hp')->
    (∃ us,ret us=some r/\G5 fun j=>∀ (stop':List Item->Env C->Hp C->Option γ') (ret':List (U C.El)->Option γ'),X j stop' ret'=ret' us)\/
    (∃ todo' env' hp',stop todo' env' hp'=some r/\G5 fun j=>∀ (stop':List Item->Env C->Hp C->Option γ') (ret':List (U C.El)->Option γ'),X j stop' ret'=stop' todo' env' hp'):=by
   intro k env' hp' X h1 h2;rcases ih false k env' hp' h1 with ⟨us,h3,h4⟩ | ⟨todo',B2,hp2,h3,h4⟩
   ·exact .inl ⟨us,h3,(h2.and h4).mono fun j ⟨h2,h4⟩ stop' ret'=>by simp_all⟩
   ·exact .inr ⟨todo',B2,hp2,h3,(h2.and h4).mono fun j ⟨h2,h4⟩ stop' ret'=>by simp_all⟩
  cases todo with
  | nil=>exact fin (by assumption) (fun _ _ _=>by rfl)
  | cons it k=>
   cases it with
   | code c=>
    cases c with
    | skip=>simp_all [seg]
    | seq x y=>simp only [seg] at h ⊢;grind
    | block id c=>simp only [seg] at h ⊢;grind
    | loop c=>simp only [seg] at h ⊢;grind
    | ret=>exact fin (by assumption) (fun _ _ _=>by rfl)
    | exit id=>
     simp only [seg] at h ⊢;split at h;all_goals simp_all
    | cond c x y=>
     simp only [seg] at h ⊢;split at h;all_goals grind
    | region id G1 draw=>
     simp only [seg] at h ⊢;split at h
     ·rename_i ks vs ps qs hcut;split at h;·rename_i hn;exact .inr ⟨_,_,_,h,.of fun _ _ _=>rfl⟩
      ·cases h
     ·cases draw with
      | false=>
       simp only at h ⊢;obtain ⟨env',hp',h1,h2⟩:=Ase hcall _ _ _ h
       exact ops h1 (h2.mono fun j h2 stop' ret'=>h2 _)
      | true=>
       simp only at h ⊢;split at h
       ·rename_i hd;obtain ⟨env',hp',h1,h2⟩:=Asf hcall _ _ _ h
        exact ops h1 (h2.mono fun j h2 stop' ret'=>h2 _)
       ·cases h
    | _=>simp [seg] at h
   | inBlock id=>simp_all [seg]
   | inLoop c=>simp_all [seg]
   | _=>simp [seg] at h
def Does (C:Ctx) (P:Program) (g:Nat) (us rs:List (U C.El)):Prop:=G5 fun k=>RG C P k g us=some rs
def Ends (C:Ctx) (P:Program) (f:Nat) (fn:Func) (pk:List Nat) (todo:List Item) (env:Env C) (hp:Hp C) (rs:List (U C.El)):Prop:=G5 fun k=>run C P k f fn pk true todo env hp=some rs
theorem Does.snd (hC:EW C P) {g:Nat} {us rs:List (U C.El)} (h:Does C P g us rs):AEL C P g us rs:=Asj hC (h.choose_spec h.choose (Nat.le_refl _))
def AzZ (C:Ctx) (P:Program) {γ:Type} (tc:Nat->List (U C.El)->(List (U C.El)->Option γ)->Option γ):Prop:=
 ∀ g us F r,tc g us F=some r->∃ rs,F rs=some r/\Does C P g us rs
theorem AzZ.fac {tc:Nat->List (U C.El)->(List (U C.El)->Option γ)->Option γ} (h:AzZ C P tc):jV tc (callOf C P):=by
 intro g us F r h';obtain ⟨rs,h1,h2⟩:=h g us F r h'
 exact ⟨rs,h1,h2.mono fun k hk F'=>by simp_all [callOf]⟩
variable {tc:Nat->List (U C.El)->(List (U C.El)->Option γ)->Option γ}
theorem G5.succ {Q:Nat->Prop} (h:G5 fun k=>Q (k+1)):G5 Q:=by
 obtain ⟨N,hN⟩:=h
 refine ⟨N+1,fun k hk=>?_⟩;obtain ⟨j,rfl⟩:∃ j,k=j+1:=⟨k - 1,by omega⟩
 simp_all
theorem AcK (hT:AzZ C P tc) {f:Nat} {fn:Func} {pk:List Nat} {stop:List Item->Env C->Hp C->Option γ} {dec:List (U C.El)->Option γ} {fresh:Bool} {todo:List Item} {env:Env C} {hp:Hp C}
  (hs:∀ todo env hp r,stop todo env hp=some r->∃ us,dec us=some r/\Ends C P f fn pk todo env hp us) (h:seg C P (QO P) tc f fn pk stop dec none 100000 fresh todo env hp=some r) :
  ∃ us,dec us=some r/\G5 fun k=>run C P k f fn pk fresh todo env hp=some us:=by
 rcases Asi (hT.fac) _ _ _ _ _ h with ⟨us,h1,h2⟩ | ⟨todo',env',hp',h1,h2⟩
 ·exact ⟨us,h1,.succ (h2.mono fun k h2=>h2 (fun todo env hp=>run C P k f fn pk true todo env hp) some)⟩
 ·obtain ⟨us,h3,h4⟩:=hs _ _ _ _ h1
  exact ⟨us,h3,.succ ((h2.and h4).mono fun k ⟨h2,h4⟩=>(h2 (fun todo env hp=>run C P k f fn pk true todo env hp) some).trans h4)⟩
theorem AsR (hT:AzZ C P tc) {g:Nat} {fn:Func} {body:Code} {AJ:List (U C.El)} {q:Env C×Hp C} {pk:List Nat} {stop:List Item->Env C->Hp C->Option γ} {dec:List (U C.El)->Option γ} (hfn:P.funcs[g]?=some fn) (hb:fn.body=some body) (hq:enter C 0 (C.mode g) fn.params.toList AJ=some q)
  (hn:(nodupB (q.2.map fun x=>x.1) && Nat.ble fn.params.size fn.ntmps)=true) (hpk:PU C q.2=pk)
  (hs:∀ todo env hp r,stop todo env hp=some r->∃ us,dec us=some r/\Ends C P g fn pk todo env hp us) (h:seg C P (QO P) tc g fn pk stop dec none 100000 false [.code body] q.1 q.2=some r) :
  ∃ us,dec us=some r/\Does C P g AJ us:=by
 obtain ⟨us,h1,h2⟩:=AcK hT hs h
 refine ⟨us,h1,.succ (h2.mono fun k h2=>?_)⟩;grind [RG]
abbrev Hd (C:Ctx) (γ:Type):=List (U C.El)->(List (U C.El)->Option γ)->Option γ
def Wp (P:Program) (g:Nat) (h:Hd C γ):Prop:=∀ us F r,h us F=some r->∃ rs,F rs=some r/\Does C P g us rs
def bP:List (Nat×Hd C γ)->Nat->List (U C.El)->(List (U C.El)->Option γ)->Option γ
 | [],_,_,_=>none
 | (j,h)::l,g,us,F=>match Nat.beq g j with | true=>h us F | false=>bP l g us F
theorem ATm:∀ {l:List (Nat×Hd C γ)},(∀ x ∈ l,Wp P x.1 x.2)->AzZ C P (bP l):=by
 intro l;induction l with
 | nil=>intro _ g us F r h;simp [bP] at h
 | cons x l ih=>
  obtain ⟨j,hd⟩:=x
  intro hl g us F r h;simp only [bP] at h;split at h;·rename_i hb;have:=Ea hb;subst this;exact hl (g,hd) (by simp) us F r h
  ·exact ih (fun x hx=>hl x (by simp [hx])) g us F r h
def hdl {A R:Type} (Ca:List (U C.El)->Option A) (F:A->Option R) (encR:R->List (U C.El)):Hd C γ:=fun us K=>(Ca us).bind fun a=>(F a).bind fun r=>K (encR r)
theorem AsV {A R:Type} {Ca:List (U C.El)->Option A} {Dr:A->List (U C.El)} {F:A->Option R} {encR:R->List (U C.El)} {g:Nat} (hA:∀ us a,Ca us=some a->us=Dr a) (hF:∀ a r,F a=some r->Does C P g (Dr a) (encR r)):Wp (γ:=γ) P g (hdl Ca F encR):=by
 intro us K r h;obtain ⟨a,h1,h2⟩:=Option.bind_eq_some_iff.1 h
 grind [Option.bind_eq_some_iff]
end
end Go.Ev
