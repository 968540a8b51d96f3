/- A context out of tables, checked by one evaluation. -/
import Derived.Test.YtkbbicgglblfiaaGreatDoorSnd36
namespace Go.Ev
open Go
structure Ws where
 T:Type
 d:T
def AJ4:List (Nat×Ws)->Nat->Ws
 | [],_=>⟨Bool,false⟩
 | (j,x)::l,i=>match Nat.beq i j with | true=>x | false=>AJ4 l i
def EH (tab:List (Nat×Ws)) (e:Nat):Type:=(AJ4 tab e).T
structure EL (El:Nat->Type) where
 e:Nat
 c:Wu El e
section
variable {El:Nat->Type} (cs:List (L El)) (i:Nat)
abbrev AyS:Int:=(cs.getD i .junk).toInt
abbrev Axu:Bool:=(cs.getD i .junk).toBool
abbrev AxH:AA:=(cs.getD i .junk).toStr
abbrev Ay2 (e:Nat):List (El e):=(cs.getD i .junk).Afo e
end
def AcM (tab:List (Nat×Ws)) (e:Nat):Wu (EH tab) e:={ sh:=[],enc:=fun _=>[],dec:=fun _=>(AJ4 tab e).d,z:=(AJ4 tab e).d,int?:=none }
def AJ5 {El:Nat->Type} (dflt:(e:Nat)->Wu El e):List (EL El)->(e:Nat)->Wu El e
 | [],e=>dflt e
 | x::l,e=>if h:x.e=e then h ▸ x.c else AJ5 dflt l e
def mkCtx (els:List (Nat×Ws)) (Kz:List (Nat×aX)) (ents:List (EL (EH els))) (modes:List (Nat×List Mode')) (cuts:List (Nat×List (Nat×(List Nat×List Nat×List (Nat×Nat)×List (Nat×Nat×Nat))))) (tabs:List (Nat×(Nat×List Int))) (pm:Perm) (fns:List Nat):Ctx:=
 { El:=EH els,ti:=fun t=>look Kz t ⟨0,0,.other⟩,Aw:=AJ5 (AcM els) ents,mode:=fun g=>look modes g [],cuts:=fun f i=>(look ((look cuts f []).map fun p=>(p.1,some p.2)) i none),tab:=fun g=>look tabs g (0,[]),pm:=pm,fns:=fns }
section
variable {C:Ctx} {P:Program}
structure vK (C:Ctx) (e:Nat) (c:Wu C.El e):Prop where
 len:∀ x,(c.enc x).length=(C.ti e).size
 dec:∀ cs,fitAll c.sh cs=true->c.enc (c.dec cs)=cs
 fit:∀ x,fitAll c.sh (c.enc x)=true
 zero:(c.enc c.z).all PY=true
 int:∀ (h:Int=C.El e) (k:IntKind),c.int?=some ⟨h⟩->(C.ti e).kind=.int k->∀ n:Int,c.enc (h ▸ n)=[.int k n]
theorem AsX {dflt:(e:Nat)->Wu C.El e} (e:Nat):∀ (ents:List (EL C.El)),((∀ x,x ∈ ents->x.e≠e)->vK C e (dflt e))->(∀ x,x ∈ ents->vK C x.e x.c)->vK C e (AJ5 dflt ents e):=by
 intro ents;induction ents with
 | nil=>intro h _;exact h (fun x hx=>by simp at hx)
 | cons x l ih=>
  intro h1 h2;simp only [AJ5];split;·grind
  ·rename_i he
   exact ih (fun h3=>h1 (fun y hy=>by
    grind)) (fun y hy=>h2 y (by simp [hy]))
theorem AKi {cs:List (L C.El)} (h:fitAll [] cs=true):cs=[]:=by grind [fitAll]
theorem AEb {s:Sh} {ss:List Sh} {cs:List (L C.El)} (h:fitAll (s::ss) cs=true):∃ l ls,cs=l::ls/\l.fits s=true/\fitAll ss ls=true:=by cases cs<;>grind [fitAll]
theorem Adi {k:IntKind} {ss:List Sh} {cs:List (L C.El)} (h:fitAll (.int k::ss) cs=true):∃ n ls,cs=.int k n::ls/\fitAll ss ls=true:=by
 obtain ⟨l,ls,rfl,h1,h2⟩:=AEb h
 cases l <;> simp [L.fits] at h1;grind
theorem AUc {ss:List Sh} {cs:List (L C.El)} (h:fitAll (.bool::ss) cs=true):∃ n ls,cs=.bool n::ls/\fitAll ss ls=true:=by
 obtain ⟨l,ls,rfl,h1,h2⟩:=AEb h
 cases l <;> simp [L.fits] at h1;grind
theorem Adj {ss:List Sh} {cs:List (L C.El)} (h:fitAll (.str::ss) cs=true):∃ n ls,cs=.str n::ls/\fitAll ss ls=true:=by
 obtain ⟨l,ls,rfl,h1,h2⟩:=AEb h
 cases l <;> simp [L.fits] at h1;grind
theorem AeI {e:Nat} {ss:List Sh} {cs:List (L C.El)} (h:fitAll (.sl e::ss) cs=true):∃ (n:List (C.El e)) (ls:List (L C.El)),cs=.BG e n::ls/\fitAll ss ls=true:=by
 obtain ⟨l,ls,rfl,h1,h2⟩:=AEb h
 cases l <;> simp [L.fits] at h1;grind
def Tup (El:Nat->Type):List Sh->Type
 | []=>Unit
 | .int _::s=>Int×Tup El s
 | .bool::s=>Bool×Tup El s
 | .str::s=>AA×Tup El s
 | .sl e::s=>List (El e)×Tup El s
def jR {El:Nat->Type}:(s:List Sh)->Tup El s->List (L El)
 | [],_=>[]
 | .int k::s,t=>.int k t.1::jR s t.2
 | .bool::s,t=>.bool t.1::jR s t.2
 | .str::s,t=>.str t.1::jR s t.2
 | .sl e::s,t=>.BG e t.1::jR s t.2
theorem wJ:∀ (s:List Sh) (cs:List (L C.El)),fitAll s cs=true->∃ t:Tup C.El s,cs=jR s t
 | [],cs,h=>⟨(),AKi h⟩
 | .int k::s,cs,h=>by obtain ⟨n,ls,rfl,h1⟩:=Adi h;obtain ⟨t,rfl⟩:=wJ s ls h1;exact ⟨(n,t),rfl⟩
 | .bool::s,cs,h=>by obtain ⟨n,ls,rfl,h1⟩:=AUc h;obtain ⟨t,rfl⟩:=wJ s ls h1;exact ⟨(n,t),rfl⟩
 | .str::s,cs,h=>by obtain ⟨n,ls,rfl,h1⟩:=Adj h;obtain ⟨t,rfl⟩:=wJ s ls h1;exact ⟨(n,t),rfl⟩
 | .sl e::s,cs,h=>by obtain ⟨n,ls,rfl,h1⟩:=AeI h;obtain ⟨t,rfl⟩:=wJ s ls h1;exact ⟨(n,t),rfl⟩
theorem cg {e:Nat} (c:Wu C.El e) (h1:∀ x,(c.enc x).length=(C.ti e).size:=by exact fun _=>rfl) (h2:∀ t,c.enc (c.dec (jR c.sh t))=jR c.sh t:=by exact fun _=>rfl) (h3:∀ x,fitAll c.sh (c.enc x)=true:=by exact fun _=>rfl) (h4:(c.enc c.z).all PY=true:=by rfl)
  (h5:∀ (h:Int=C.El e) (k:IntKind),c.int?=some ⟨h⟩->(C.ti e).kind=.int k->∀ n:Int,c.enc (h ▸ n)=[.int k n]:=by intro _ _ hi hk _;first | (cases hi;done) | (cases hk;rfl)):vK C e c:=
 ⟨h1,fun cs h=>by obtain ⟨t,rfl⟩:=wJ _ cs h;exact h2 t,h3,h4,h5⟩
def wZ:Value->Value->Bool
 | .int k n,.int k' n'=>decide (k=k') && decide (n=n')
 | .bool a,.bool b=>a == b
 | .string s,.string t=>decide (s=t)
 | .slice none 0 0,.slice none 0 0=>true
 | .pointer none,.pointer none=>true
 | _,_=>false
theorem AcN {a b:Value} (h:wZ a b=true):a=b:=by unfold wZ at h;grind
def jS:List Value->List Value->Bool
 | [],[]=>true
 | a::l,b::r=>wZ a b && jS l r
 | _,_=>false
theorem ATp:∀ {a b:List Value},jS a b=true->a=b:=by
 intro a;induction a with
 | nil=>grind [jS]
 | cons x a ih=>
  intro b h;cases b<;>grind [jS,AcN]
def AEK:List (Nat×Nat)->List (Nat×Nat)->Bool
 | [],[]=>true
 | a::l,b::r=>Nat.beq a.1 b.1 && Nat.beq a.2 b.2 && AEK l r
 | _,_=>false
theorem AsY:∀ {a b:List (Nat×Nat)},AEK a b=true->a=b:=by
 intro a;induction a with
 | nil=>grind [AEK]
 | cons x a ih=>
  intro b h;cases b<;>grind [AEK,Ea]
def ATq (C:Ctx) (P:Program):aY->Option TypeDesc->Bool
 | .bool,some .bool=>true
 | .int k,some (.int k')=>decide (k=k')
 | .str,some .string=>true
 | .ptr e,some (.pointer e')=>Nat.beq e e'
 | .sl e,some (.slice e')=>Nat.beq e e'
 | .st fs,some (.struct f)=>AEK (f.toList.map fun x=>(x.type,x.offset)) fs && f.toList.all fun x=>match P.info? x.type with | some i=>Nat.beq i.size (C.ti x.type).size | none=>false
 | .arr n e,some (.array n' e')=>Nat.beq n n' && Nat.beq e e'
 | _,_=>false
theorem AsZ {k:aY} {d:Option TypeDesc} (h:ATq C P k d=true):ATr C P k d:=by
 unfold ATq at h;split at h;·rfl
 ·rw [of_decide_eq_true h];rfl
 ·rfl
 ·rw [Ea h];rfl
 ·rw [Ea h];rfl
 ·rw [Bool.and_eq_true] at h;refine ⟨_,rfl,AsY h.1,fun x hx=>?_⟩;grind [Ea]
 ·rw [Bool.and_eq_true] at h;rw [Ea h.1,Ea h.2];rfl
 ·cases h
def ATs (C:Ctx) (t:Nat) (z:Value):aY->Bool
 | .arr n e=>match z with
  | .agg cs=>jS cs.toList ((List.replicate n ((C.Aw e).enc (C.Aw e).z)).flatten.map lv)
  | _=>false
 | .st _=>match z with
  | .agg cs=>jS cs.toList ((zeroCells C 9 t).map lv) && (zeroCells C 9 t).all PY
  | _=>false
 | _=>match zeroCells C 9 t with
  | [l]=>wZ z (lv l) && PY l
  | _=>false
def ATt:aY->Bool
 | .other=>true
 | _=>false
def tyB (C:Ctx) (P:Program) (t:Nat):Bool:=
 ATq C P (C.ti t).kind (P.underlying t) &&
 (match P.info? t with
  | some i=>Nat.beq i.size (C.ti t).size && Nat.beq i.bytes (C.ti t).bytes && (match i.zero with | some z=>ATs C t z (C.ti t).kind | none=>false)
  | none=>false) &&
 (match (C.ti t).kind with | .arr n e=>Nat.beq (C.ti t).size (n*(C.ti e).size) | .st _=>true | _=>Nat.beq (C.ti t).size 1)
theorem Asa {l:L C.El} (h:PY l=true):(lv l).cells = #[lv l]:=by cases l <;> first | rfl | simp [PY] at h
theorem Asb {t:Nat} (h:tyB C P t=true):AcO C P t:=by
 unfold tyB at h;rw [Bool.and_eq_true,Bool.and_eq_true] at h;obtain ⟨⟨h1,h2⟩,h3⟩:=h
 refine ⟨AsZ h1,?_,?_,?_⟩
 ·split at h2
  ·rename_i i hi;rw [Bool.and_eq_true,Bool.and_eq_true] at h2;obtain ⟨⟨h4,h5⟩,h6⟩:=h2
   refine ⟨i,hi,Ea h4,Ea h5,?_⟩;split at h6
   ·rename_i z hz;refine ⟨z,hz,?_⟩;clear h1 h3;generalize (C.ti t).kind=k at h6;have one:(match zeroCells C 9 t with | [l]=>wZ z (lv l) && PY l | _=>false)=true->z.cells = #[z]/\∃ l,zeroCells C 9 t=[l]/\z=lv l/\PY l=true:=by grind [AcN,Asa]
    cases k with
    | arr n e=>
     simp only [ATs] at h6;grind [ATp]
    | st fs=>
     simp only [ATs] at h6;grind [ATp]
    | _=>exact one h6
   simp_all
  simp_all
 all_goals grind [Ea]
def posB (C:Ctx) (P:Program) (e:Nat):Bool:=
 Nat.blt 0 (C.ti e).size && !(ATt (C.ti e).kind) && Nat.blt 0 (C.ti e).bytes && (match P.info? e with
  | some i=>match i.zero with | some z=>jS z.cells.toList (((C.Aw e).enc (C.Aw e).z).map lv) | none=>false
  | none=>false)
theorem Asd {e:Nat} (h:posB C P e=true):0<(C.ti e).size/\(C.ti e).kind≠.other/\0<(C.ti e).bytes/\∃ i z,P.info? e=some i/\i.zero=some z/\z.cells.toList=((C.Aw e).enc (C.Aw e).z).map lv:=by
 unfold posB at h;rw [Bool.and_eq_true,Bool.and_eq_true,Bool.and_eq_true] at h;obtain ⟨⟨⟨h1,h2⟩,h3⟩,h4⟩:=h
 refine ⟨Nat.le_of_ble_eq_true h1,(fun he=>by rw [he] at h2;cases h2),Nat.le_of_ble_eq_true h3,?_⟩;grind [ATp]
def ctxB (C:Ctx) (P:Program) (Kz:List (Nat×aX)) (es:List Nat):Bool:=
 (Kz.all fun p=>inB p.1 es && (ATt p.2.kind || (tyB C P p.1 && match p.2.kind with | .sl e=>posB C P e | .arr _ e=>posB C P e | _=>true))) &&
 (P.funcs.toList.all fun fn=> !(fn.name == "runtime.NumGoroutine")) && P.follows .mixedOrders
theorem Adb {els:List (Nat×Ws)} {Kz:List (Nat×aX)} {ents:List (EL (EH els))} {modes:List (Nat×List Mode')} {cuts:List (Nat×List (Nat×(List Nat×List Nat×List (Nat×Nat)×List (Nat×Nat×Nat))))} {tabs:List (Nat×(Nat×List Int))} {pm:Perm} {fns:List Nat}
  (hB:ctxB (mkCtx els Kz ents modes cuts tabs pm fns) P Kz (ents.map (·.e))=true) (E9:∀ x,x ∈ ents->vK (mkCtx els Kz ents modes cuts tabs pm fns) x.e x.c):EW (mkCtx els Kz ents modes cuts tabs pm fns) P:=by
 unfold ctxB at hB;rw [Bool.and_eq_true,Bool.and_eq_true] at hB;obtain ⟨⟨h1,h2⟩,h3⟩:=hB
 have get:∀ t,((mkCtx els Kz ents modes cuts tabs pm fns).ti t).kind≠.other->(t,(mkCtx els Kz ents modes cuts tabs pm fns).ti t) ∈ Kz:=fun t h=>jT (d:=(⟨0,0,.other⟩:aX)) rfl (fun e=>h (by rw [e]))
 have HF:∀ k:aY,k≠.other->ATt k=false:=fun k hk=>by cases k <;> first | rfl | grind
 refine ⟨fun t h=>?_,fun e=>?_,fun e h=>?_,h3,fun g fn hg=>?_⟩;·grind [Asb]
 ·have g:=AsX (C:=mkCtx els Kz ents modes cuts tabs pm fns) (dflt:=AcM els) e ents (fun hno=>by
   have hsz:((mkCtx els Kz ents modes cuts tabs pm fns).ti e)=⟨0,0,.other⟩:=AcP (fun p hp' he=>by
    have:=List.all_eq_true.1 h1 p hp';rw [Bool.and_eq_true] at this;obtain ⟨x,hx,hxe⟩:=List.mem_map.1 (jU.1 this.1)
    exact hno x hx (by omega))
   exact ⟨fun x=>by rw [hsz];rfl,fun cs h=>(AKi h).symm,fun _=>rfl,rfl,fun _ _ h=>by cases h⟩) E9
  exact ⟨g.len,g.dec,g.fit,List.all_eq_true.1 g.zero,g.int⟩
 all_goals grind [Asd]
theorem AvS {fns:List Nat} {Kz:List (Nat×aX)} {els:List (Nat×Ws)} {ents:List (EL (EH els))} {modes:List (Nat×List Mode')} {cuts:List (Nat×List (Nat×(List Nat×List Nat×List (Nat×Nat)×List (Nat×Nat×Nat))))} {w0:World} {Avn:Nat->Nat->Prop}:JX (mkCtx els Kz ents modes cuts [] Perm.nil fns) w0 Avn:=
 ⟨fun g i h=>by simp_all [mkCtx,look],fun g h=>absurd rfl h,fun i h=>absurd h (Nat.not_lt_zero _),fun h=>absurd rfl h⟩
end
end Go.Ev
