/- What the evaluator tells of a function's way is what the machine does. -/
import Derived.Test.YtkbbicgglblfiaaGreatDoorSnd19
namespace Go.Ev
open Go
section
variable {C:Ctx} {P:Program} {w0:World} {Avn:Nat->Nat->Prop} {n:Nat}
variable {γ:Type} {r:γ} {AC:Nat->Nat} {call:Nat->List (U C.El)->(List (U C.El)->Option γ)->Option γ}
def Reach (P:Program) (b:Frame) (cs:List Frame) (todo:List Item) (a:Act) (w:World) (G:Act->World->Prop):Prop:=
 ∃ a' w' todo',Steps P (lone (b.at a todo) cs w) (lone { b.at a' todo' with mode:=.returning } cs w')/\G a' w'
theorem Reach.step {b:Frame} {cs:List Frame} {todo todo':List Item} {a:Act} {w:World} {G:Act->World->Prop} (h:step P (lone (b.at a todo) cs w)=.next (lone (b.at a todo') cs w)) (k:Reach P b cs todo' a w G):Reach P b cs todo a w G:=by
 obtain ⟨a',w',t',h1,h2⟩:=k
 exact ⟨a',w',t',(Steps.one h).trans h1,h2⟩
theorem Reach.steps {b:Frame} {cs:List Frame} {todo todo':List Item} {a a1:Act} {w w1:World} {G:Act->World->Prop} (h:Steps P (lone (b.at a todo) cs w) (lone (b.at a1 todo') cs w1)) (k:Reach P b cs todo' a1 w1 G):Reach P b cs todo a w G:=by
 obtain ⟨a',w',t',h1,h2⟩:=k
 exact ⟨a',w',t',h.trans h1,h2⟩
def AT0 (C:Ctx) (P:Program) {γ:Type} (AC:Nat->Nat) (call:Nat->List (U C.El)->(List (U C.El)->Option γ)->Option γ) (w0:World) (Avn:Nat->Nat->Prop) (n:Nat):Prop:=
 ∀ (id:Nat) (ops:Array Oper) (env:Env C) (hp:Hp C) (AB:At) (Ai:Nat->Prop) (a:Act) (w:World) (K:Env C->Hp C->Option γ) (r:γ) (Q:Exit->Act->World->Prop),
  UE (Region.before ops) ops=true->PZ C P AC call n (Region.before ops) ops env hp 0 ops.toList [] K none=some r->St C w0 Avn n env hp AB Ai a w->
  (∀ env' hp' at' AH a' w',K env' hp'=some r->St C w0 Avn n env' hp' at' AH a' w'->Ch hp hp' AB at'->Q .normal a' w')->(Code.region id ops true).wp P Q a w
def Keeps (pk:List Nat) (at0:At) (hp:Hp C) (AB:At):Prop:=∀ p,p ∈ pk->Bj hp p=true/\AB p=at0 p
theorem Keeps.ch {pk:List Nat} {at0:At} {hp hp':Hp C} {AB at':At} (h:Keeps pk at0 hp AB) (c:Ch hp hp' AB at'):Keeps pk at0 hp' at':=fun p hp'=>⟨(c p (h p hp').1).1,((c p (h p hp').1).2).trans (h p hp').2⟩
theorem Atv:∀ (l:List (Nat×Nat)) (env:Env C) (hp:Hp C) (AB:At) (Ai:Nat->Prop) (a:Act) (w:World),St C w0 Avn n env hp AB Ai a w->∃ at2,St C w0 Avn n (YZ C l env hp).1 (YZ C l env hp).2 at2 Ai a w/\Ch hp (YZ C l env hp).2 AB at2:=by
 intro l;induction l with
 | nil=>intro env hp AB Ai a w st;exact ⟨AB,st,Ch.refl _ _⟩
 | cons p l ih=>
  obtain ⟨t,e⟩:=p
  intro env hp AB Ai a w st;simp only [YZ];split
  ·rename_i he hb;obtain ⟨m2,hs,hro⟩:=Mem.new (o:=AxP.sl e []) (p:=none) (w':=w) st.mem (site t 40) hb (by simp) (fun _ _=>rfl) (Ext.refl w) (fun _ _=>by simp [OA,Awb,JK])
   have st2:St C w0 Avn n ((t,[.one (.own (site t 40))])::env) ((site t 40,.sl e [])::hp) (upd AB (site t 40) none) Ai a w:=⟨m2,st.size,st.defers,fun t'=>by
    by_cases h:t'=t
    ·subst h;have h1:look ((t',[U.one (L.own (site t' 40))])::env) t' [.one .junk]=[.one (.own (site t' 40))]:=by simp [look]
     have h2:=st.env t';rw [he] at h2;have h2:a.tmps.getD t' undef=.slice none 0 0:=h2;rw [h1,h2];refine ⟨rfl,UO _ _ _,?_⟩;rw [Awb,JK]
    ·have h1:look ((t,[U.one (L.own (site t 40))])::env) t' [.one .junk]=look env t' [.one .junk]:=by grind [Ea,look]
     rw [h1];exact IB.keep (st.env t') hs (fun b hb=>(hro b hb).1) (fun _ _=>rfl) (Ext.refl w)⟩
   obtain ⟨at2,h1,h2⟩:=ih _ _ _ _ _ _ st2
   exact ⟨at2,h1,Ch.trans (fun id hid=>⟨hs.bound id hid,hs.at_ id hid⟩) h2⟩
  simp_all
theorem Atw:∀ (l:List (Nat×Nat×Nat)) (env:Env C) (hp:Hp C) (AB:At) (Ai:Nat->Prop) (a:Act) (w:World),St C w0 Avn n env hp AB Ai a w->∃ at2,St C w0 Avn n env (Ya C l hp) at2 Ai a w/\Ch hp (Ya C l hp) AB at2:=by
 intro l;induction l with
 | nil=>intro env hp AB Ai a w st;exact ⟨AB,st,Ch.refl _ _⟩
 | cons p l ih=>
  obtain ⟨id,o,e⟩:=p
  intro env hp AB Ai a w st;simp only [Ya];split
  ·rename_i cs hl;split
   ·rename_i hc hb;obtain ⟨m2,hs,hro⟩:=Mem.new (o:=AxP.sl e []) (p:=none) (w':=w) st.mem (id+41+o) hb (by simp) (fun _ _=>rfl) (Ext.refl w) (fun _ _=>by simp [OA,Awb,JK])
    have hid:Bj hp id=true:=vS (Avg (by simp_all));have hne:id≠id+41+o:=by omega
    have hl2:look ((id+41+o,AxP.sl e [])::hp) id .dead=.var cs:=by simp_all [Ax3]
    let hp2:Hp C:=(id,.var (cs.set o (.own (id+41+o))))::(id+41+o,.sl e [])::hp;let hp1:Hp C:=(id+41+o,.sl e [])::hp
    have hs2:UA hp1 hp2 (upd AB (id+41+o) none) (upd AB (id+41+o) none):=⟨fun i hi=>VQ _ _ hi,fun i hi=>by
     grind [FU,look,Ax3,FU.refl],fun _ _=>rfl⟩
    have Bn:∀ b,BK C hp1 (upd AB (id+41+o) none) w b->BK C hp2 (upd AB (id+41+o) none) w b:=fun b hb=>⟨hb.1,fun ⟨i,off,h1,h2⟩=>hb.2 ⟨i,off,by
     grind [live,Ax3],h2⟩⟩
    obtain ⟨m3,Fo⟩:=Mem.ren (hp2:=hp2) (at2:=upd AB (id+41+o) none) m2 (fun i=>i) (fun i hi=>by
     by_cases e1:i=id
     ·subst e1;refine ⟨Avg (by simp_all),rfl,?_⟩;rw [hl2,Awb];refine ⟨by simp,fun j l l2 h1 h2 v h=>?_⟩;by_cases e2:o=j;·subst e2;rw [Acw] at hc;rw [h1] at hc;cases hc;have hlt:=(List.getElem?_eq_some_iff.1 h1).1;rw [List.getElem?_set_self hlt] at h2;cases h2;have h:v=.slice none 0 0:=h;subst h;refine ⟨rfl,VQ _ _ (UO _ _ _),?_⟩;grind [Ax3,Awb,JK]
      ·rw [List.getElem?_set_ne e2,h1] at h2;cases h2;exact KA.keep h hs2 Bn (fun _ _=>rfl) (Ext.refl w)
     ·have e2:look hp2 i .dead=look hp1 i .dead:=Ax3 e1 _ _;refine ⟨by grind [live],rfl,?_⟩;rw [e2];cases look hp1 i .dead with
      | var cs=>exact ⟨rfl,fun j l l2 h1 h2 v h=>by rw [h1] at h2;cases h2;exact KA.keep h hs2 Bn (fun _ _=>rfl) (Ext.refl w)⟩
      | sl e xs=>rfl
      | io e xs=>rfl
      | ar e xs=>rfl
      | dead=>trivial) (fun i j _ _ h=>h)
    have st2:St C w0 Avn n env hp2 (upd AB (id+41+o) none) Ai a w:=⟨m3,st.size,st.defers,fun t'=>IB.keep (IB.keep (st.env t') hs (fun b hb=>(hro b hb).1) (fun _ _=>rfl) (Ext.refl w)) hs2 Fo (fun _ _=>rfl) (Ext.refl w)⟩
    obtain ⟨at2,h1,h2⟩:=ih _ _ _ _ _ _ st2
    exact ⟨at2,h1,Ch.trans (Ch.trans (fun i hi=>⟨hs.bound i hi,hs.at_ i hi⟩) (fun i hi=>⟨hs2.bound i hi,rfl⟩)) h2⟩
   simp_all
  simp_all
theorem Atu (hC:EW C P) (hT:JX C w0 Avn) (hcall:ah C P AC call) {f:Nat} {fn:Func} (Cz:AT0 C P AC call w0 Avn fn.ntmps) {stop:List Item->Env C->Hp C->Option γ} {ret:List (U C.El)->Option γ} {b:Frame} {cs:List Frame} {G:Act->World->Prop} {pk:List Nat} {at0:At}
  (hstop:∀ todo env hp AB Ai a w,stop todo env hp=some r->St C w0 Avn fn.ntmps env hp AB Ai a w->Keeps pk at0 hp AB->Reach P b cs todo a w G)
  (hfin:∀ env hp AB Ai a w,finish C f fn env hp ret none=some r->St C w0 Avn fn.ntmps env hp AB Ai a w->Keeps pk at0 hp AB->G a w) :
  ∀ (m:Nat) (fresh:Bool) (todo:List Item) (env:Env C) (hp:Hp C) (AB:At) (Ai:Nat->Prop) (a:Act) (w:World),
   seg C P AC call f fn pk stop ret none m fresh todo env hp=some r->St C w0 Avn fn.ntmps env hp AB Ai a w->Keeps pk at0 hp AB->Reach P b cs todo a w G:=by
 intro m;induction m with
 | zero=>simp [seg]
 | succ m ih=>
  intro fresh todo env hp AB Ai a w h st kp;cases todo with
  | nil=>
   simp only [seg] at h;exact ⟨a,w,[],.one step_end,hfin env hp AB Ai a w h st kp⟩
  | cons it k=>
   cases it with
   | code c=>
    cases c with
    | skip=>simp only [seg] at h;exact .step step_skip (ih _ _ _ _ AB Ai _ _ h st kp)
    | seq x y=>simp only [seg] at h;exact .step step_seq (ih _ _ _ _ AB Ai _ _ h st kp)
    | block id c=>simp only [seg] at h;exact .step step_block (ih _ _ _ _ AB Ai _ _ h st kp)
    | loop c=>simp only [seg] at h;exact .step step_loop (ih _ _ _ _ AB Ai _ _ h st kp)
    | ret=>
     simp only [seg] at h;exact ⟨a,w,_,.one step_ret,hfin env hp AB Ai a w h st kp⟩
    | exit id=>
     simp only [seg] at h;split at h;·rename_i k' hk;exact .step (step_exit hk) (ih _ _ _ _ AB Ai _ _ h st kp)
     ·cases h
    | cond c x y=>
     simp only [seg] at h;split at h
     ·rename_i p hp';have hv:a.eval c=.bool p:=by have:=Awr st c;rw [hp'] at this;exact this
      cases p with
      | true=>exact .step (step_cond hv) (ih _ _ _ _ AB Ai _ _ h st kp)
      | false=>exact .step (step_cond hv) (ih _ _ _ _ AB Ai _ _ h st kp)
     ·cases h
    | region id ops draw=>
     simp only [seg] at h;split at h
     ·rename_i ks vs ps qs hcut;obtain ⟨at3,BT,ch3⟩:=Atv ps env hp AB Ai a w st
      obtain ⟨at4,Cn,ch4⟩:=Atw qs _ _ at3 Ai a w BT
      have Co:=kp.ch (ch3.trans ch4);generalize YZ C ps env hp=s3 at h Cn Co;obtain ⟨Fr,hp3⟩:=s3
      simp only at h Cn Co;generalize Ya C qs hp3=GC at h Cn Co;split at h
      ·rename_i hn;rw [Bool.and_eq_true,Bool.and_eq_true] at hn;obtain ⟨at2,st2,kv⟩:=St.cut Cn ks vs (AUe C ks vs Fr GC) hn.1.1 hn.1.2 (fun _ _ _=>trivial)
       exact hstop _ _ _ at2 Ai a w h st2 (fun p hp'=>by
        have hv:=jU.1 (List.all_eq_true.1 hn.2 p hp');exact ⟨(kv p hv).1,((kv p hv).2).trans (Co p hp').2⟩)
      ·cases h
     ·cases draw with
      | false=>
       simp only at h
       have hwp:(Code.region id ops false).wp P (fun e a w=>e=.normal/\Reach P b cs k a w G) a w:=
        wp_region_list (Atx hC hT hcall ops.toList env hp AB Ai a w (fun env' hp' at' AH a' w' hk st' ch=>⟨rfl,ih _ _ _ _ at' AH _ _ hk st' (kp.ch ch)⟩) h st)
       obtain ⟨e,a',w',⟨rfl,h2⟩,h3⟩:=hwp b k cs
       exact .steps h3 h2
      | true=>
       simp only at h;split at h
       ·rename_i hd
        have hwp:(Code.region id ops true).wp P (fun e a w=>e=.normal/\Reach P b cs k a w G) a w:=
         Cz id ops env hp AB Ai a w _ r _ hd h st (fun env' hp' at' AH a' w' hk st' ch=>⟨rfl,ih _ _ _ _ at' AH _ _ hk st' (kp.ch ch)⟩)
        obtain ⟨e,a',w',⟨rfl,h2⟩,h3⟩:=hwp b k cs
        exact .steps h3 h2
       ·cases h
    | _=>simp [seg] at h
   | inBlock id=>simp only [seg] at h;exact .step step_inBlock (ih _ _ _ _ AB Ai _ _ h st kp)
   | inLoop c=>simp only [seg] at h;exact .step step_inLoop (ih _ _ _ _ AB Ai _ _ h st kp)
   | _=>simp [seg] at h
end
end Go.Ev
