/- Functions told by plain functions of plain values. -/
import Derived.Test.YtkbbicgglblfiaaGreatDoorSnd37
import Derived.KernelRfl
namespace Go.Ev
open Go
structure Cv (X T:Type) where
 enc:T->X
 dec:X->Option T
 ok:∀ x t,dec x=some t->x=enc t
section
variable {El:Nat->Type}
def Dc (k:IntKind):Cv (L El) Int where
 enc:=fun n=>.int k n
 dec:=fun l=>match l with
  | .int k' n=>match decide (k'=k) with | true=>some n | false=>none
  | _=>none
 ok:=fun x t h=>by grind
def JH:Cv (L El) Bool where
 enc:=fun n=>.bool n
 dec:=fun l=>match l with
  | .bool n=>some n
  | _=>none
 ok:=fun x t h=>by grind
def cStr:Cv (L El) AA where
 enc:=fun n=>.str n
 dec:=fun l=>match l with
  | .str n=>some n
  | _=>none
 ok:=fun x t h=>by grind
def EO (e:Nat):Cv (L El) (List (El e)) where
 enc:=fun n=>.BG e n
 dec:=fun l=>match l with
  | .BG _ n=>cast n
  | _=>none
 ok:=fun x t h=>by grind [cast]
def Fj (e:Nat):Cv (L El) (List (El e)) where
 enc:=fun n=>.Ns e n
 dec:=fun l=>match l with
  | .Ns _ n=>cast n
  | _=>none
 ok:=fun x t h=>by grind [cast]
def cFn:Cv (L El) Nat where
 enc:=fun n=>.fn n
 dec:=fun l=>match l with
  | .fn n=>some n
  | _=>none
 ok:=fun x t h=>by grind
def AvP:Cv (L El) Unit where
 enc:=fun _=>.junk
 dec:=fun l=>match l with
  | .junk=>some ()
  | _=>none
 ok:=fun x t h=>by grind
def AKu:Cv (L El) Unit where
 enc:=fun _=>.any
 dec:=fun l=>match l with
  | .any=>some ()
  | _=>none
 ok:=fun x t h=>by grind
def AKn:Cv (L El) Unit where
 enc:=fun _=>.J4
 dec:=fun l=>match l with
  | .J4=>some ()
  | _=>none
 ok:=fun x t h=>by grind
def Aej:Cv (L El) Unit where
 enc:=fun _=>.ptr 0 0
 dec:=fun l=>match l with
  | .ptr 0 0=>some ()
  | _=>none
 ok:=fun x t h=>by grind
def AfO {X S:Type} (c:Cv X Unit) (d:Cv (List X) S):Cv (List X) S where
 enc:=fun s=>c.enc ()::d.enc s
 dec:=fun l=>match l with
  | x::r=>(c.dec x).bind fun _=>d.dec r
  | _=>none
 ok:=fun x t h=>by
  split at h
  ·obtain ⟨a,h1,h2⟩:=Option.bind_eq_some_iff.1 h
   rw [c.ok _ _ h1,d.ok _ _ h2]
  ·cases h
def IY {X:Type}:Cv (List X) Unit where
 enc:=fun _=>[]
 dec:=fun l=>match l with
  | []=>some ()
  | _=>none
 ok:=fun x t h=>by grind
def Ac {X A B:Type} (c:Cv X A) (d:Cv (List X) B):Cv (List X) (A×B) where
 enc:=fun p=>c.enc p.1::d.enc p.2
 dec:=fun l=>match l with
  | x::r=>(c.dec x).bind fun a=>(d.dec r).bind fun b=>some (a,b)
  | _=>none
 ok:=fun x t h=>by
  split at h
  ·obtain ⟨a,h1,h2⟩:=Option.bind_eq_some_iff.1 h
   obtain ⟨b,h3,h4⟩:=Option.bind_eq_some_iff.1 h2
   cases h4;rw [c.ok _ _ h1,d.ok _ _ h3]
  ·cases h
def Il {X A S:Type} (c:Cv X A) (f:A->S) (g:S->A) (hg:∀ a,g (f a)=a):Cv X S where
 enc:=fun s=>c.enc (g s)
 dec:=fun x=>(c.dec x).bind fun a=>some (f a)
 ok:=fun x t h=>by
  obtain ⟨a,h1,h2⟩:=Option.bind_eq_some_iff.1 h
  cases h2;rw [hg,c.ok _ _ h1]
def DL {A:Type} (c:Cv (L El) A):Cv (U El) A where
 enc:=fun a=>.one (c.enc a)
 dec:=fun u=>match u with
  | .one l=>c.dec l
  | _=>none
 ok:=fun x t h=>by
  split at h;·rw [c.ok _ _ h]
  ·cases h
def Bz {A:Type} (c:Cv (List (L El)) A):Cv (U El) A where
 enc:=fun a=>.agg (c.enc a)
 dec:=fun u=>match u with
  | .agg l=>c.dec l
  | _=>none
 ok:=fun x t h=>by
  split at h;·rw [c.ok _ _ h]
  ·cases h
def AKt (e:Nat):Cv (U El) (List (El e)) where
 enc:=fun a=>.arr e a
 dec:=fun u=>match u with
  | .arr _ l=>cast l
  | _=>none
 ok:=fun x t h=>by grind [cast]
end
section
variable {C:Ctx} {P:Program} {γ:Type}
def jr:Code->List Nat->Code
 | c,[]=>c
 | .seq a _,0::p=>jr a p
 | .seq _ b,1::p=>jr b p
 | .cond _ a _,0::p=>jr a p
 | .cond _ _ b,1::p=>jr b p
 | .block _ c,0::p=>jr c p
 | .loop c,0::p=>jr c p
 | _,_=>.skip
def AeG (fn:Func):Code:=match fn.body with
 | some c=>c
 | none=>.skip
def AJ3:List Item->Nat
 | .code (.region id _ _)::_=>id
 | _=>0
theorem AvL {β:Type} {s s':List Item×β} (a b:Nat) (h:s=s') (ha:AJ3 s.1=a) (hb:AJ3 s'.1=b) (hab:Nat.beq a b=false):False:=by simp_all
def AEc (C:Ctx) (P:Program) (tc:Nat->List (U C.El)->(List (U C.El)->Option γ)->Option γ) (g:Nat) (pk:List Nat) (stop:List Item->Env C->Hp C->Option γ) (dec:List (U C.El)->Option γ) (us:List (U C.El)):Option γ:=
 match P.funcs[g]? with
 | some fn=>match fn.body with
  | some body=>match enter C 0 (C.mode g) fn.params.toList us with
   | some q=>match (nodupB (q.2.map fun x=>x.1) && Nat.ble fn.params.size fn.ntmps) && wO (PU C q.2) pk with
    | true=>seg C P (QO P) tc g fn pk stop dec none 100000 false [.code body] q.1 q.2
    | false=>none
   | none=>none
  | none=>none
 | none=>none
def AfD (C:Ctx) (P:Program) (tc:Nat->List (U C.El)->(List (U C.El)->Option γ)->Option γ) (g:Nat) (fn:Func) (pk:List Nat) (stop:List Item->Env C->Hp C->Option γ) (dec:List (U C.El)->Option γ) (s:List Item×Env C×Hp C):Option γ:=
 seg C P (QO P) tc g fn pk stop dec none 100000 true s.1 s.2.1 s.2.2
theorem AcJ {tc:Nat->List (U C.El)->(List (U C.El)->Option γ)->Option γ} (hT:AzZ C P tc) {g:Nat} {fn:Func} {pk:List Nat} {stop:List Item->Env C->Hp C->Option γ} {dec:List (U C.El)->Option γ} {AJ:List (U C.El)} {r:γ} (hfn:P.funcs[g]?=some fn)
  (hs:∀ todo env hp r,stop todo env hp=some r->∃ us,dec us=some r/\Ends C P g fn pk todo env hp us) (h:AEc C P tc g pk stop dec AJ=some r):∃ us,dec us=some r/\Does C P g AJ us:=by
 unfold AEc at h;rw [hfn] at h;simp only at h;split at h;·rename_i body hb;split at h;all_goals grind [AsR,AsT]
 ·cases h
def AKh (C:Ctx) (P:Program) {A S R:Type} (g:Nat) (pk:List Nat) (l:List (Nat×Hd C R)) (cA:Cv (List (U C.El)) A) (cR:Cv (List (U C.El)) R) (at':S->List Item×Env C×Hp C) (E:(S->Option R)->A->Option R):Prop:=
 ∀ (stop:List Item->Env C->Hp C->Option R) (a:A),AEc C P (bP l) g pk stop cR.dec (cA.enc a)=E (fun s=>stop (at' s).1 (at' s).2.1 (at' s).2.2) a
def AKf (C:Ctx) (P:Program) {A R:Type} (g:Nat) (pk:List Nat) (l:List (Nat×Hd C R)) (cA:Cv (List (U C.El)) A) (cR:Cv (List (U C.El)) R) (E:A->Option R):Prop:=
 ∀ (a:A),AEc C P (bP l) g pk (fun _ _ _=>none) cR.dec (cA.enc a)=E a
def AEh (C:Ctx) (P:Program) {S R:Type} (g:Nat) (fn:Func) (pk:List Nat) (l:List (Nat×Hd C R)) (cR:Cv (List (U C.El)) R) (at':S->List Item×Env C×Hp C) (B:(S->Option R)->S->Option R):Prop:=
 ∀ (stop:List Item->Env C->Hp C->Option R) (s:S),AfD C P (bP l) g fn pk stop cR.dec (at' s)=B (fun s=>stop (at' s).1 (at' s).2.1 (at' s).2.2) s
def Q8 (C:Ctx) (P:Program) {A R:Type} (g:Nat) (cA:Cv (List (U C.El)) A) (cR:Cv (List (U C.El)) R) (F:A->Option R):Prop:=∀ a r,F a=some r->Does C P g (cA.enc a) (cR.enc r)
theorem AeH {A R:Type} {cA:Cv (List (U C.El)) A} {cR:Cv (List (U C.El)) R} {l:List (Nat×Hd C R)} (hl:∀ x ∈ l,Wp P x.1 x.2) {g:Nat} {fn:Func} {pk:List Nat} (hfn:P.funcs[g]?=some fn) {E:A->Option R}
  (hE:AKf C P g pk l cA cR E):Q8 C P g cA cR E:=by
 intro a r h;obtain ⟨us,h1,h2⟩:=AcJ (ATm hl) hfn (fun _ _ _ _ h=>by cases h) ((hE a).trans h)
 rw [cR.ok _ _ h1] at h2;exact h2
theorem AsU {S R:Type} {cR:Cv (List (U C.El)) R} {l:List (Nat×Hd C R)} (hl:∀ x ∈ l,Wp P x.1 x.2) {g:Nat} {fn:Func} {pk:List Nat} {at':S->List Item×Env C×Hp C} (hinj:∀ s s',at' s=at' s'->s=s')
  {B:(S->Option R)->S->Option R} {Lp:Nat->S->Option R} (hL0:∀ s,Lp 0 s=none) (hL:∀ m s,Lp (m+1) s=B (Lp m) s)
  (hB:AEh C P g fn pk l cR at' B) :
  ∀ m,∃ stop:List Item->Env C->Hp C->Option R,(∀ s,stop (at' s).1 (at' s).2.1 (at' s).2.2=Lp m s)/\∀ todo env hp r,stop todo env hp=some r->∃ us,cR.dec us=some r/\Ends C P g fn pk todo env hp us:=by
 intro m;induction m with
 | zero=>exact ⟨fun _ _ _=>none,fun s=>(hL0 s).symm,fun _ _ _ _ h=>by cases h⟩
 | succ m ih=>
  obtain ⟨stop,h1,h2⟩:=ih
  classical
  have hstep:∀ s r,Lp (m+1) s=some r->∃ us,cR.dec us=some r/\Ends C P g fn pk (at' s).1 (at' s).2.1 (at' s).2.2 us:=by intro s r h;rw [hL] at h;have e:(fun s=>stop (at' s).1 (at' s).2.1 (at' s).2.2)=Lp m:=funext h1;have h3:=hB stop s;rw [e,h] at h3;exact AcK (ATm hl) h2 h3
  refine ⟨fun todo env hp=>if hx:∃ s,at' s=(todo,env,hp) then Lp (m+1) hx.choose else none,fun s=>?_,fun todo env hp r h=>?_⟩
  ·have hx:∃ s',at' s'=((at' s).1,(at' s).2.1,(at' s).2.2):=⟨s,rfl⟩
   grind
  ·dsimp only at h;split at h;all_goals grind
theorem AfE {A S R:Type} {cA:Cv (List (U C.El)) A} {cR:Cv (List (U C.El)) R} {l:List (Nat×Hd C R)} (hl:∀ x ∈ l,Wp P x.1 x.2) {g:Nat} {fn:Func} {pk:List Nat} (hfn:P.funcs[g]?=some fn) {at':S->List Item×Env C×Hp C} (hinj:∀ s s',at' s=at' s'->s=s')
  {B:(S->Option R)->S->Option R} {Lp:Nat->S->Option R} (hL0:∀ s,Lp 0 s=none) (hL:∀ m s,Lp (m+1) s=B (Lp m) s)
  (hB:AEh C P g fn pk l cR at' B) {E:(S->Option R)->A->Option R} (hE:AKh C P g pk l cA cR at' E) (m:Nat):Q8 C P g cA cR (E (Lp m)):=by
 intro a r h;obtain ⟨stop,h1,h2⟩:=AsU hl hinj hL0 hL hB m
 have e:(fun s=>stop (at' s).1 (at' s).2.1 (at' s).2.2)=Lp m:=funext h1;have h3:=hE stop a;rw [e,h] at h3;obtain ⟨us,h4,h5⟩:=AcJ (ATm hl) hfn h2 h3
 rw [cR.ok _ _ h4] at h5;exact h5
theorem hd_ok {A R:Type} {cA:Cv (List (U C.El)) A} {F:A->Option R} {cR:Cv (List (U C.El)) R} {g:Nat} (hF:Q8 C P g cA cR F):Wp (γ:=γ) P g (hdl cA.dec F cR.enc):=
 AsV cA.ok hF
end
structure Fk (C:Ctx) (P:Program) where
 T:Type
 f:T
 g:Nat
 h:∀ γ:Type,T->Hd C γ
 ok:∀ γ,Wp P g (h γ f)
section
variable {C:Ctx} {P:Program} {g:Nat} {A A2 R S T T2:Type}
def Zs:List (Fk C P)->Type
 | []=>Unit
 | x::r=>x.T×Zs r
def Cu (T:Type):List (Fk C P)->Type
 | []=>T
 | x::r=>x.T->Cu T r
def RF:(l:List (Fk C P))->Cu T l->Zs l->T
 | [],e,_=>e
 | _::r,e,z=>RF r (e z.1) z.2
def zv:(l:List (Fk C P))->Zs l
 | []=>()
 | x::r=>(x.f,zv r)
def Avh {γ:Type}:(l:List (Fk C P))->Zs l->List (Nat×Hd C γ)
 | [],_=>[]
 | x::r,z=>(x.g,x.h γ z.1)::Avh r z.2
theorem ATn {γ:Type}:∀ (l:List (Fk C P)),∀ x ∈ Avh (γ:=γ) l (zv l),Wp P x.1 x.2
 | [],x,h=>by cases h
 | y::r,x,h=>by
  rcases List.mem_cons.1 h with rfl | h
  ·exact y.ok γ
  ·exact ATn r x h
noncomputable def fk {cA:Cv (List (U C.El)) A} {cR:Cv (List (U C.El)) R} (u:T->A->Option R) {f:T} (hT:Q8 C P g cA cR (u f)):Fk C P:=⟨T,f,g,fun _ t=>hdl cA.dec (u t) cR.enc,fun _=>hd_ok hT⟩
def hd2 {γ:Type} (Gr:List (U C.El)->Option A) (F:A->Option R) (Axu:List (U C.El)->Option A2) (F2:A2->Option R) (eR:R->List (U C.El)):Hd C γ:=fun us K=>match Gr us with
 | some a=>(F a).bind fun r=>K (eR r)
 | none=>hdl Axu F2 eR us K
theorem AsW {γ:Type} {cA:Cv (List (U C.El)) A} {cB:Cv (List (U C.El)) A2} {cR:Cv (List (U C.El)) R} {F:A->Option R} {F2:A2->Option R} (h1:Q8 C P g cA cR F) (h2:Q8 C P g cB cR F2):Wp (γ:=γ) P g (hd2 cA.dec F cB.dec F2 cR.enc):=by
 intro us K r h;unfold hd2 at h;split at h;·rename_i a ha;exact hd_ok h1 us K r (by unfold hdl;rw [ha];exact h)
 ·exact hd_ok h2 us K r h
noncomputable def fj {cA:Cv (List (U C.El)) A} {cB:Cv (List (U C.El)) A2} {cR:Cv (List (U C.El)) R} (u:T->A->Option R) (u2:T2->A2->Option R) {f:T} {f2:T2} (h1:Q8 C P g cA cR (u f)) (h2:Q8 C P g cB cR (u2 f2)):Fk C P:=
 ⟨T×T2,(f,f2),g,fun _ z=>hd2 cA.dec (u z.1) cB.dec (u2 z.2) cR.enc,fun _=>AsW h1 h2⟩
abbrev u0 (f:Option R) (_:Unit):Option R:=f
abbrev u1 (f:A->Option R) (a:A):Option R:=f a
abbrev u2 {A B:Type} (f:A->B->Option R) (a:A×B):Option R:=f a.1 a.2
abbrev u3 {A B D:Type} (f:A->B->D->Option R) (a:A×B×D):Option R:=f a.1 a.2.1 a.2.2
abbrev u4 {A B D E:Type} (f:A->B->D->E->Option R) (a:A×B×D×E):Option R:=f a.1 a.2.1 a.2.2.1 a.2.2.2
abbrev u5 {A B D E F:Type} (f:A->B->D->E->F->Option R) (a:A×B×D×E×F):Option R:=f a.1 a.2.1 a.2.2.1 a.2.2.2.1 a.2.2.2.2
abbrev u6 {A B D E F G:Type} (f:A->B->D->E->F->G->Option R) (a:A×B×D×E×F×G):Option R:=f a.1 a.2.1 a.2.2.1 a.2.2.2.1 a.2.2.2.2.1 a.2.2.2.2.2
theorem ty0 (u:T->A->Option R) (f:T) (cA:Cv (List (U C.El)) A) (cR:Cv (List (U C.El)) R) (l:List (Fk C P)) {fn:Func} (hfn:P.funcs[g]?=some fn) (E:Cu T l) (pk:List Nat:=[]) (hE:∀ z,AKf C P g pk (Avh l z) cA cR (u (RF l E z)):=by intro _ _;kernel_rfl) (hF:f=RF l E (zv l):=by kernel_rfl):Q8 C P g cA cR (u f):=
 hF ▸ AeH (ATn l) hfn (hE (zv l))
noncomputable def BI (u:T->A->Option R) (f:T) (cA:Cv (List (U C.El)) A) (cR:Cv (List (U C.El)) R) (l:List (Fk C P)) {fn:Func} (hfn:P.funcs[g]?=some fn) (E:Cu T l) (pk:List Nat:=[]) (hE:∀ z,AKf C P g pk (Avh l z) cA cR (u (RF l E z)):=by intro _ _;kernel_rfl) (hF:f=RF l E (zv l):=by kernel_rfl):Fk C P:=fk u (ty0 u f cA cR l hfn E pk hE hF)
end
section
def q1 {X A:Type} (a:Cv X A):Cv (List X) A:=Il (Ac a IY) (fun p=>p.1) (fun s=>(s,())) (fun _=>rfl)
end
section
variable {El:Nat->Type}
abbrev li (x:Int):L El:=.int .i64 x
abbrev vi (n:Nat) (x:Int):Nat×List (U El):=(n,[.one (.int .i64 x)])
abbrev vb (n:Nat) (x:Bool):Nat×List (U El):=(n,[.one (.bool x)])
abbrev vs (n:Nat) (x:AA):Nat×List (U El):=(n,[.one (.str x)])
abbrev vr (n e:Nat) (x:List (El e)):Nat×List (U El):=(n,[.one (.BG e x)])
abbrev vo (n i:Nat):Nat×List (U El):=(n,[.one (.own i)])
abbrev vp (n i:Nat):Nat×List (U El):=(n,[.one (.ptr i 0)])
def Awu:Cv (U El) Int:=DL (Dc .i64)
def uB:Cv (U El) Bool:=DL JH
def uS:Cv (U El) AA:=DL cStr
end
def AcL:Nat->Nat->List Nat->List Nat
 | 0,_,r=>r
 | m+1,n,r=>match Nat.blt n 2 with
  | true=>r
  | false=>AcL m (n / 2) (n % 2::r)
def jQ:Code->List Nat->List Item->List Item
 | c,[],k=>.code c::k
 | .seq a b,0::p,k=>jQ a p (.code b::k)
 | .seq _ b,_::p,k=>jQ b p k
 | .cond _ a _,0::p,k=>jQ a p k
 | .cond _ _ b,_::p,k=>jQ b p k
 | .block id c,_::p,k=>jQ c p (.inBlock id::k)
 | .loop c,_::p,k=>jQ c p (.inLoop c::k)
 | _,_,k=>k
noncomputable def tdo (fn:Func) (n:Nat):List Item:=jQ (AeG fn) (AcL 200 n []) []
attribute [irreducible] tdo
theorem AU8 {β:Type} {s s':List Item×β} (h:s=s') (hx:Nat.beq (AJ3 s.1) (AJ3 s'.1)=false):False:=by simp_all
class PC where
 pm:Perm
 hl:pm.cl.length<=140737488351232
abbrev KI [PC]:List Int:=PC.pm.cl
def AY:Nat:=1000000000000000000000000000000000000000
abbrev Aw7 (S R:Type):=S->Option R
abbrev AzH (S R:Type):=Nat->S->Option R
abbrev ATo (C:Ctx):=List Item×Env C×Hp C
section
variable {C:Ctx} {P:Program} {g:Nat} {A A2 R S T T2:Type}
noncomputable def fs (u:T->A->Option R) (f:T) (cA:Cv (List (U C.El)) A) (cR:Cv (List (U C.El)) R) (g:Nat) (h:∀ a,u f a=none:=by intro _;rfl):Fk C P:=fk (g:=g) (cA:=cA) (cR:=cR) u (f:=f) (fun a r e=>by rw [h] at e;cases e)
theorem ty (u:T->A->Option R) (f:T) (cA:Cv (List (U C.El)) A) (cR:Cv (List (U C.El)) R) (l:List (Fk C P)) {fn:Func} (hfn:P.funcs[g]?=some fn) (at':S->ATo C) (B:Cu ((S->Option R)->S->Option R) l) (E:Cu ((S->Option R)->T) l) (Lp:Nat->S->Option R) (pk:List Nat:=[])
  (hinj:∀ s s',at' s=at' s'->s=s':=by (intro s s' h;cases s <;> cases s' <;> first | ((repeat first | cases ‹BQ› | cases ‹BU› | cases ‹Af› | cases ‹Bo› | cases ‹EG› | cases ‹CS› | cases ‹Ap› | cases ‹CV› | cases ‹Ah› | cases ‹DZ› | cases ‹DW› | cases ‹PO› | cases ‹D8› | cases ‹Bg› | cases ‹Ky› | cases ‹Ef› | cases ‹Kw› | cases ‹IL› | cases ‹Nl› | cases ‹IW› | cases ‹Jz› | cases ‹F6› | cases ‹Ct› | cases ‹Cr›);cases h;done) | ((repeat first | cases ‹BQ› | cases ‹BU› | cases ‹Af› | cases ‹Bo› | cases ‹EG› | cases ‹CS› | cases ‹Ap› | cases ‹CV› | cases ‹Ah› | cases ‹DZ› | cases ‹DW› | cases ‹PO› | cases ‹D8› | cases ‹Bg› | cases ‹Ky› | cases ‹Ef› | cases ‹Kw› | cases ‹IL› | cases ‹Nl› | cases ‹IW› | cases ‹Jz› | cases ‹F6› | cases ‹Ct› | cases ‹Cr›);cases h;rfl) | exact (AU8 h (by kernel_rfl)).elim))
  (hB:∀ z,AEh C P g fn pk (Avh l z) cR at' (RF l B z):=by intro _ _ s;cases s <;> kernel_rfl) (hE:∀ z,AKh C P g pk (Avh l z) cA cR at' (fun k=>u (RF l E z k)):=by intro _ _ _;kernel_rfl) (hL0:∀ s,Lp 0 s=none:=by intro _;kernel_rfl) (hL:∀ m s,Lp (m+1) s=RF l B (zv l) (Lp m) s:=by intro _ _;kernel_rfl) (hF:f=RF l E (zv l) (Lp AY):=by kernel_rfl):Q8 C P g cA cR (u f):=
 hF ▸ AfE (ATn l) hfn hinj hL0 hL (hB (zv l)) (hE (zv l)) AY
noncomputable def fy (u:T->A->Option R) (f:T) (cA:Cv (List (U C.El)) A) (cR:Cv (List (U C.El)) R) (l:List (Fk C P)) {fn:Func} (hfn:P.funcs[g]?=some fn) (at':S->ATo C) (B:Cu ((S->Option R)->S->Option R) l) (E:Cu ((S->Option R)->T) l) (Lp:Nat->S->Option R) (pk:List Nat:=[])
  (hinj:∀ s s',at' s=at' s'->s=s':=by (intro s s' h;cases s <;> cases s' <;> first | ((repeat first | cases ‹BQ› | cases ‹BU› | cases ‹Af› | cases ‹Bo› | cases ‹EG› | cases ‹CS› | cases ‹Ap› | cases ‹CV› | cases ‹Ah› | cases ‹DZ› | cases ‹DW› | cases ‹PO› | cases ‹D8› | cases ‹Bg› | cases ‹Ky› | cases ‹Ef› | cases ‹Kw› | cases ‹IL› | cases ‹Nl› | cases ‹IW› | cases ‹Jz› | cases ‹F6› | cases ‹Ct› | cases ‹Cr›);cases h;done) | ((repeat first | cases ‹BQ› | cases ‹BU› | cases ‹Af› | cases ‹Bo› | cases ‹EG› | cases ‹CS› | cases ‹Ap› | cases ‹CV› | cases ‹Ah› | cases ‹DZ› | cases ‹DW› | cases ‹PO› | cases ‹D8› | cases ‹Bg› | cases ‹Ky› | cases ‹Ef› | cases ‹Kw› | cases ‹IL› | cases ‹Nl› | cases ‹IW› | cases ‹Jz› | cases ‹F6› | cases ‹Ct› | cases ‹Cr›);cases h;rfl) | exact (AU8 h (by kernel_rfl)).elim))
  (hB:∀ z,AEh C P g fn pk (Avh l z) cR at' (RF l B z):=by intro _ _ s;cases s <;> kernel_rfl) (hE:∀ z,AKh C P g pk (Avh l z) cA cR at' (fun k=>u (RF l E z k)):=by intro _ _ _;kernel_rfl) (hL0:∀ s,Lp 0 s=none:=by intro _;kernel_rfl) (hL:∀ m s,Lp (m+1) s=RF l B (zv l) (Lp m) s:=by intro _ _;kernel_rfl) (hF:f=RF l E (zv l) (Lp AY):=by kernel_rfl):Fk C P:=fk u (ty u f cA cR l hfn at' B E Lp pk hinj hB hE hL0 hL hF)
end
abbrev AV (n:Int):Int:=IntKind.i64.wrap n
abbrev w8 (n:Int):Int:=IntKind.u8.wrap n
abbrev w32 (n:Int):Int:=IntKind.u32.wrap n
abbrev wu64 (n:Int):Int:=IntKind.u64.wrap n
end Go.Ev
