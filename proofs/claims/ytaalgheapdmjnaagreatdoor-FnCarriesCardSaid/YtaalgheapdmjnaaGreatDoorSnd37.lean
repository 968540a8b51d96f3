/- A context out of tables, checked by one evaluation. -/
import Derived.Test.YtaalgheapdmjnaaGreatDoorSnd36
namespace Go.Ev
open Go
structure Vd where
 T:Type
 d:T
def AHd:List (Nat×Vd)->Nat->Vd
 | [],_=>⟨Bool,false⟩
 | (j,x)::l,i=>match Nat.beq i j with | true=>x | false=>AHd l i
def Dv (tab:List (Nat×Vd)) (e:Nat):Type:=(AHd tab e).T
structure Dy (El:Nat->Type) where
 e:Nat
 c:Ve El e
section
variable {El:Nat->Type} (cs:List (L El)) (i:Nat)
abbrev AsM:Int:=(cs.getD i .junk).toInt
abbrev AsL:Bool:=(cs.getD i .junk).toBool
abbrev Atu:AA:=(cs.getD i .junk).toStr
abbrev AsO (e:Nat):List (El e):=(cs.getD i .junk).AcL e
end
def AYx (tab:List (Nat×Vd)) (e:Nat):Ve (Dv tab) e:={ sh:=[],enc:=fun _=>[],dec:=fun _=>(AHd tab e).d,z:=(AHd tab e).d,int?:=none }
def AHe {El:Nat->Type} (dflt:(e:Nat)->Ve El e):List (Dy El)->(e:Nat)->Ve El e
 | [],e=>dflt e
 | x::l,e=>if h:x.e=e then h ▸ x.c else AHe dflt l e
def mkCtx (els:List (Nat×Vd)) (KI:List (Nat×ZA)) (ents:List (Dy (Dv els))) (modes:List (Nat×List Mode')) (cuts:List (Nat×List (Nat×(List Nat×List Nat×List (Nat×Nat)×List (Nat×Nat×Nat))))) (tabs:List (Nat×(Nat×List Int))) (pm:Perm) (fns:List Nat):Ctx:=
 { El:=Dv els,ti:=fun t=>look KI t ⟨0,0,.other⟩,Ak:=AHe (AYx els) ents,mode:=fun g=>look modes g [],cuts:=fun f i=>(look ((look cuts f []).map fun p=>(p.1,some p.2)) i none),tab:=fun g=>look tabs g (0,[]),pm:=pm,fns:=fns }
section
variable {C:Ctx} {P:Program}
structure qW (C:Ctx) (e:Nat) (c:Ve C.El e):Prop where
 len:∀ x,(c.enc x).length=(C.ti e).size
 dec:∀ cs,fitAll c.sh cs=true->c.enc (c.dec cs)=cs
 fit:∀ x,fitAll c.sh (c.enc x)=true
 zero:(c.enc c.z).all Oa=true
 int:∀ (h:Int=C.El e) (k:IntKind),c.int?=some ⟨h⟩->(C.ti e).kind=.int k->∀ n:Int,c.enc (h ▸ n)=[.int k n]
theorem AoE {dflt:(e:Nat)->Ve C.El e} (e:Nat):∀ (ents:List (Dy C.El)),((∀ x,x ∈ ents->x.e≠e)->qW C e (dflt e))->(∀ x,x ∈ ents->qW C x.e x.c)->qW C e (AHe dflt ents e):=by
 intro ents;induction ents with
 | nil=>intro h _;exact h (fun x hx=>by simp at hx)
 | cons x l ih=>
  intro h1 h2;simp only [AHe];split;·grind
  ·rename_i he
   exact ih (fun h3=>h1 (fun y hy=>by
    grind)) (fun y hy=>h2 y (by simp [hy]))
theorem AII {cs:List (L C.El)} (h:fitAll [] cs=true):cs=[]:=by grind [fitAll]
theorem ACQ {s:Sh} {ss:List Sh} {cs:List (L C.El)} (h:fitAll (s::ss) cs=true):∃ l ls,cs=l::ls/\l.fits s=true/\fitAll ss ls=true:=by cases cs<;>grind [fitAll]
theorem AaE {k:IntKind} {ss:List Sh} {cs:List (L C.El)} (h:fitAll (.int k::ss) cs=true):∃ n ls,cs=.int k n::ls/\fitAll ss ls=true:=by
 obtain ⟨l,ls,rfl,h1,h2⟩:=ACQ h
 cases l <;> simp [L.fits] at h1;grind
theorem ARb {ss:List Sh} {cs:List (L C.El)} (h:fitAll (.bool::ss) cs=true):∃ n ls,cs=.bool n::ls/\fitAll ss ls=true:=by
 obtain ⟨l,ls,rfl,h1,h2⟩:=ACQ h
 cases l <;> simp [L.fits] at h1;grind
theorem AaF {ss:List Sh} {cs:List (L C.El)} (h:fitAll (.str::ss) cs=true):∃ n ls,cs=.str n::ls/\fitAll ss ls=true:=by
 obtain ⟨l,ls,rfl,h1,h2⟩:=ACQ h
 cases l <;> simp [L.fits] at h1;grind
theorem Aat {e:Nat} {ss:List Sh} {cs:List (L C.El)} (h:fitAll (.sl e::ss) cs=true):∃ (n:List (C.El e)) (ls:List (L C.El)),cs=.BH e n::ls/\fitAll ss ls=true:=by
 obtain ⟨l,ls,rfl,h1,h2⟩:=ACQ h
 cases l <;> simp [L.fits] at h1;grind
def Tup (El:Nat->Type):List Sh->Type
 | []=>Unit
 | .int _::s=>Int×Tup El s
 | .bool::s=>Bool×Tup El s
 | .str::s=>AA×Tup El s
 | .sl e::s=>List (El e)×Tup El s
def fB {El:Nat->Type}:(s:List Sh)->Tup El s->List (L El)
 | [],_=>[]
 | .int k::s,t=>.int k t.1::fB s t.2
 | .bool::s,t=>.bool t.1::fB s t.2
 | .str::s,t=>.str t.1::fB s t.2
 | .sl e::s,t=>.BH e t.1::fB s t.2
theorem rM:∀ (s:List Sh) (cs:List (L C.El)),fitAll s cs=true->∃ t:Tup C.El s,cs=fB s t
 | [],cs,h=>⟨(),AII h⟩
 | .int k::s,cs,h=>by obtain ⟨n,ls,rfl,h1⟩:=AaE h;obtain ⟨t,rfl⟩:=rM s ls h1;exact ⟨(n,t),rfl⟩
 | .bool::s,cs,h=>by obtain ⟨n,ls,rfl,h1⟩:=ARb h;obtain ⟨t,rfl⟩:=rM s ls h1;exact ⟨(n,t),rfl⟩
 | .str::s,cs,h=>by obtain ⟨n,ls,rfl,h1⟩:=AaF h;obtain ⟨t,rfl⟩:=rM s ls h1;exact ⟨(n,t),rfl⟩
 | .sl e::s,cs,h=>by obtain ⟨n,ls,rfl,h1⟩:=Aat h;obtain ⟨t,rfl⟩:=rM s ls h1;exact ⟨(n,t),rfl⟩
theorem cg {e:Nat} (c:Ve C.El e) (h1:∀ x,(c.enc x).length=(C.ti e).size:=by exact fun _=>rfl) (h2:∀ t,c.enc (c.dec (fB c.sh t))=fB c.sh t:=by exact fun _=>rfl) (h3:∀ x,fitAll c.sh (c.enc x)=true:=by exact fun _=>rfl) (h4:(c.enc c.z).all Oa=true:=by rfl)
  (h5:∀ (h:Int=C.El e) (k:IntKind),c.int?=some ⟨h⟩->(C.ti e).kind=.int k->∀ n:Int,c.enc (h ▸ n)=[.int k n]:=by intro _ _ hi hk _;first | (cases hi;done) | (cases hk;rfl)):qW C e c:=
 ⟨h1,fun cs h=>by obtain ⟨t,rfl⟩:=rM _ cs h;exact h2 t,h3,h4,h5⟩
def sH:Value->Value->Bool
 | .int k n,.int k' n'=>decide (k=k') && decide (n=n')
 | .bool a,.bool b=>a == b
 | .string s,.string t=>decide (s=t)
 | .slice none 0 0,.slice none 0 0=>true
 | .pointer none,.pointer none=>true
 | _,_=>false
theorem AYy {a b:Value} (h:sH a b=true):a=b:=by unfold sH at h;grind
def fC:List Value->List Value->Bool
 | [],[]=>true
 | a::l,b::r=>sH a b && fC l r
 | _,_=>false
theorem AQo:∀ {a b:List Value},fC a b=true->a=b:=by
 intro a;induction a with
 | nil=>grind [fC]
 | cons x a ih=>
  intro b h;cases b<;>grind [fC,AYy]
def AB6:List (Nat×Nat)->List (Nat×Nat)->Bool
 | [],[]=>true
 | a::l,b::r=>Nat.beq a.1 b.1 && Nat.beq a.2 b.2 && AB6 l r
 | _,_=>false
theorem AoF:∀ {a b:List (Nat×Nat)},AB6 a b=true->a=b:=by
 intro a;induction a with
 | nil=>grind [AB6]
 | cons x a ih=>
  intro b h;cases b<;>grind [AB6,EL]
def AQp (C:Ctx) (P:Program):ZB->Option TypeDesc->Bool
 | .bool,some .bool=>true
 | .int k,some (.int k')=>decide (k=k')
 | .str,some .string=>true
 | .ptr e,some (.pointer e')=>Nat.beq e e'
 | .sl e,some (.slice e')=>Nat.beq e e'
 | .st fs,some (.struct f)=>AB6 (f.toList.map fun x=>(x.type,x.offset)) fs && f.toList.all fun x=>match P.info? x.type with | some i=>Nat.beq i.size (C.ti x.type).size | none=>false
 | .arr n e,some (.array n' e')=>Nat.beq n n' && Nat.beq e e'
 | _,_=>false
theorem AoG {k:ZB} {d:Option TypeDesc} (h:AQp C P k d=true):AQq C P k d:=by
 unfold AQp at h;split at h;·rfl
 ·rw [of_decide_eq_true h];rfl
 ·rfl
 ·rw [EL h];rfl
 ·rw [EL h];rfl
 ·rw [Bool.and_eq_true] at h;refine ⟨_,rfl,AoF h.1,fun x hx=>?_⟩;grind [EL]
 ·rw [Bool.and_eq_true] at h;rw [EL h.1,EL h.2];rfl
 ·cases h
def AQr (C:Ctx) (t:Nat) (z:Value):ZB->Bool
 | .arr n e=>match z with
  | .agg cs=>fC cs.toList ((List.replicate n ((C.Ak e).enc (C.Ak e).z)).flatten.map lv)
  | _=>false
 | .st _=>match z with
  | .agg cs=>fC cs.toList ((zeroCells C 9 t).map lv) && (zeroCells C 9 t).all Oa
  | _=>false
 | _=>match zeroCells C 9 t with
  | [l]=>sH z (lv l) && Oa l
  | _=>false
def AQs:ZB->Bool
 | .other=>true
 | _=>false
def tyB (C:Ctx) (P:Program) (t:Nat):Bool:=
 AQp C P (C.ti t).kind (P.underlying t) &&
 (match P.info? t with
  | some i=>Nat.beq i.size (C.ti t).size && Nat.beq i.bytes (C.ti t).bytes && (match i.zero with | some z=>AQr C t z (C.ti t).kind | none=>false)
  | none=>false) &&
 (match (C.ti t).kind with | .arr n e=>Nat.beq (C.ti t).size (n*(C.ti e).size) | .st _=>true | _=>Nat.beq (C.ti t).size 1)
theorem AoH {l:L C.El} (h:Oa l=true):(lv l).cells = #[lv l]:=by cases l <;> first | rfl | simp [Oa] at h
theorem AoI {t:Nat} (h:tyB C P t=true):AYz C P t:=by
 unfold tyB at h;rw [Bool.and_eq_true,Bool.and_eq_true] at h;obtain ⟨⟨h1,h2⟩,h3⟩:=h
 refine ⟨AoG h1,?_,?_,?_⟩
 ·split at h2
  ·rename_i i hi;rw [Bool.and_eq_true,Bool.and_eq_true] at h2;obtain ⟨⟨h4,h5⟩,h6⟩:=h2
   refine ⟨i,hi,EL h4,EL h5,?_⟩;split at h6
   ·rename_i z hz;refine ⟨z,hz,?_⟩;clear h1 h3;generalize (C.ti t).kind=k at h6;have one:(match zeroCells C 9 t with | [l]=>sH z (lv l) && Oa l | _=>false)=true->z.cells = #[z]/\∃ l,zeroCells C 9 t=[l]/\z=lv l/\Oa l=true:=by grind [AYy,AoH]
    cases k with
    | arr n e=>
     simp only [AQr] at h6;grind [AQo]
    | st fs=>
     simp only [AQr] at h6;grind [AQo]
    | _=>exact one h6
   simp_all
  simp_all
 all_goals grind [EL]
def posB (C:Ctx) (P:Program) (e:Nat):Bool:=
 Nat.blt 0 (C.ti e).size && !(AQs (C.ti e).kind) && Nat.blt 0 (C.ti e).bytes && (match P.info? e with
  | some i=>match i.zero with | some z=>fC z.cells.toList (((C.Ak e).enc (C.Ak e).z).map lv) | none=>false
  | none=>false)
theorem AoJ {e:Nat} (h:posB C P e=true):0<(C.ti e).size/\(C.ti e).kind≠.other/\0<(C.ti e).bytes/\∃ i z,P.info? e=some i/\i.zero=some z/\z.cells.toList=((C.Ak e).enc (C.Ak e).z).map lv:=by
 unfold posB at h;rw [Bool.and_eq_true,Bool.and_eq_true,Bool.and_eq_true] at h;obtain ⟨⟨⟨h1,h2⟩,h3⟩,h4⟩:=h
 refine ⟨Nat.le_of_ble_eq_true h1,(fun he=>by rw [he] at h2;cases h2),Nat.le_of_ble_eq_true h3,?_⟩;grind [AQo]
def ctxB (C:Ctx) (P:Program) (KI:List (Nat×ZA)) (es:List Nat):Bool:=
 (KI.all fun p=>inB p.1 es && (AQs p.2.kind || (tyB C P p.1 && match p.2.kind with | .sl e=>posB C P e | .arr _ e=>posB C P e | _=>true))) &&
 (P.funcs.toList.all fun fn=> !(fn.name == "runtime.NumGoroutine")) && P.follows .mixedOrders
theorem AZ8 {els:List (Nat×Vd)} {KI:List (Nat×ZA)} {ents:List (Dy (Dv els))} {modes:List (Nat×List Mode')} {cuts:List (Nat×List (Nat×(List Nat×List Nat×List (Nat×Nat)×List (Nat×Nat×Nat))))} {tabs:List (Nat×(Nat×List Int))} {pm:Perm} {fns:List Nat}
  (hB:ctxB (mkCtx els KI ents modes cuts tabs pm fns) P KI (ents.map (·.e))=true) (Ex:∀ x,x ∈ ents->qW (mkCtx els KI ents modes cuts tabs pm fns) x.e x.c):EG (mkCtx els KI ents modes cuts tabs pm fns) P:=by
 unfold ctxB at hB;rw [Bool.and_eq_true,Bool.and_eq_true] at hB;obtain ⟨⟨h1,h2⟩,h3⟩:=hB
 have get:∀ t,((mkCtx els KI ents modes cuts tabs pm fns).ti t).kind≠.other->(t,(mkCtx els KI ents modes cuts tabs pm fns).ti t) ∈ KI:=fun t h=>fD (d:=(⟨0,0,.other⟩:ZA)) rfl (fun e=>h (by rw [e]))
 have G2:∀ k:ZB,k≠.other->AQs k=false:=fun k hk=>by cases k <;> first | rfl | grind
 refine ⟨fun t h=>?_,fun e=>?_,fun e h=>?_,h3,fun g fn hg=>?_⟩;·grind [AoI]
 ·have g:=AoE (C:=mkCtx els KI ents modes cuts tabs pm fns) (dflt:=AYx els) e ents (fun hno=>by
   have hsz:((mkCtx els KI ents modes cuts tabs pm fns).ti e)=⟨0,0,.other⟩:=AY0 (fun p hp' he=>by
    have:=List.all_eq_true.1 h1 p hp';rw [Bool.and_eq_true] at this;obtain ⟨x,hx,hxe⟩:=List.mem_map.1 (fE.1 this.1)
    exact hno x hx (by omega))
   exact ⟨fun x=>by rw [hsz];rfl,fun cs h=>(AII h).symm,fun _=>rfl,rfl,fun _ _ h=>by cases h⟩) Ex
  exact ⟨g.len,g.dec,g.fit,List.all_eq_true.1 g.zero,g.int⟩
 all_goals grind [AoJ]
theorem Aqt {fns:List Nat} {KI:List (Nat×ZA)} {els:List (Nat×Vd)} {ents:List (Dy (Dv els))} {modes:List (Nat×List Mode')} {cuts:List (Nat×List (Nat×(List Nat×List Nat×List (Nat×Nat)×List (Nat×Nat×Nat))))} {w0:World} {Ec:Nat->Nat->Prop}:JA (mkCtx els KI ents modes cuts [] Perm.nil fns) w0 Ec:=
 ⟨fun g i h=>by simp_all [mkCtx,look],fun g h=>absurd rfl h,fun i h=>absurd h (Nat.not_lt_zero _),fun h=>absurd rfl h⟩
end
end Go.Ev
