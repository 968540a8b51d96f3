/- A context out of tables, checked by one evaluation. -/
import Derived.Test.YtpjfloaghpgpdaaGreatDoorSnd36
namespace Go.Ev
open Go
structure TyE where
 T:Type
 d:T
def ZI:List (Nat×TyE)→Nat→TyE
 | [],_=>⟨Bool,false⟩
 | (j,x)::l,i=>match Nat.beq i j with | true=>x | false=>ZI l i
def ElOf (tab:List (Nat×TyE)) (e:Nat):Type:=(ZI tab e).T
structure Ent (El:Nat→Type) where
 e:Nat
 c:Cod El e
def ZO (tab:List (Nat×TyE)) (e:Nat):Cod (ElOf tab) e:={ sh:=[],enc:=fun _=>[],dec:=fun _=>(ZI tab e).d,z:=(ZI tab e).d,int?:=none }
def BJ {El:Nat→Type} (dflt:(e:Nat)→Cod El e):List (Ent El)→(e:Nat)→Cod El e
 | [],e=>dflt e
 | x::l,e=>if h:x.e=e then h ▸ x.c else BJ dflt l e
def mkCtx (els:List (Nat×TyE)) (tis:List (Nat×TI)) (ents:List (Ent (ElOf els))) (modes:List (Nat×List Mode')) (cuts:List (Nat×List (Nat×(List Nat×List Nat×List (Nat×Nat)×List (Nat×Nat×Nat))))) (tabs:List (Nat×(Nat×List Int))) (pm:Perm) (fns:List Nat):Ctx:=
 { El:=ElOf els,ti:=fun t=>look tis t ⟨0,0,.other⟩,cod:=BJ (ZO els) ents,mode:=fun g=>look modes g [],cuts:=fun f i=>(look ((look cuts f []).map fun p=>(p.1,some p.2)) i none),tab:=fun g=>look tabs g (0,[]),pm:=pm,fns:=fns }
section
variable {C:Ctx} {P:Program}
structure CodGood (C:Ctx) (e:Nat) (c:Cod C.El e):Prop where
 len:∀ x,(c.enc x).length=(C.ti e).size
 dec:∀ cs,fitAll c.sh cs=true→c.enc (c.dec cs)=cs
 fit:∀ x,fitAll c.sh (c.enc x)=true
 zero:(c.enc c.z).all KC=true
 int:∀ (h:Int=C.El e) (k:IntKind),c.int?=some ⟨h⟩→(C.ti e).kind=.int k→∀ n:Int,c.enc (h ▸ n)=[.int k n]
theorem LW {dflt:(e:Nat)→Cod C.El e} (e:Nat):∀ (ents:List (Ent C.El)),((∀ x,x ∈ ents→x.e≠e)→CodGood C e (dflt e))→(∀ x,x ∈ ents→CodGood C x.e x.c)→CodGood C e (BJ dflt ents e):=by
 intro ents
 induction ents with
 | nil=>intro h _;exact h (fun x hx=>by simp at hx)
 | cons x l ih=>
  intro h1 h2
  simp only [BJ]
  split
  ·grind
  ·rename_i he
   exact ih (fun h3=>h1 (fun y hy=>by
    grind)) (fun y hy=>h2 y (by simp [hy]))
theorem fit_nil {cs:List (L C.El)} (h:fitAll [] cs=true):cs=[]:=by grind [fitAll]
theorem fit_cons {s:Sh} {ss:List Sh} {cs:List (L C.El)} (h:fitAll (s::ss) cs=true):∃ l ls,cs=l::ls∧l.fits s=true∧fitAll ss ls=true:=by
 cases cs<;>grind [fitAll]
theorem fit_int {k:IntKind} {ss:List Sh} {cs:List (L C.El)} (h:fitAll (.int k::ss) cs=true):∃ n ls,cs=.int k n::ls∧fitAll ss ls=true:=by
 obtain ⟨l,ls,rfl,h1,h2⟩:=fit_cons h
 cases l <;> simp [L.fits] at h1
 grind
theorem fit_bool {ss:List Sh} {cs:List (L C.El)} (h:fitAll (.bool::ss) cs=true):∃ n ls,cs=.bool n::ls∧fitAll ss ls=true:=by
 obtain ⟨l,ls,rfl,h1,h2⟩:=fit_cons h
 cases l <;> simp [L.fits] at h1
 grind
theorem fit_str {ss:List Sh} {cs:List (L C.El)} (h:fitAll (.str::ss) cs=true):∃ n ls,cs=.str n::ls∧fitAll ss ls=true:=by
 obtain ⟨l,ls,rfl,h1,h2⟩:=fit_cons h
 cases l <;> simp [L.fits] at h1
 grind
theorem fit_sl {e:Nat} {ss:List Sh} {cs:List (L C.El)} (h:fitAll (.sl e::ss) cs=true):∃ (n:List (C.El e)) (ls:List (L C.El)),cs=.rsl e n::ls∧fitAll ss ls=true:=by
 obtain ⟨l,ls,rfl,h1,h2⟩:=fit_cons h
 cases l <;> simp [L.fits] at h1
 grind
def eqV:Value→Value→Bool
 | .int k n,.int k' n'=>decide (k=k') && decide (n=n')
 | .bool a,.bool b=>a == b
 | .string s,.string t=>decide (s=t)
 | .slice none 0 0,.slice none 0 0=>true
 | .pointer none,.pointer none=>true
 | _,_=>false
theorem AP {a b:Value} (h:eqV a b=true):a=b:=by
 unfold eqV at h
 grind
def XE:List Value→List Value→Bool
 | [],[]=>true
 | a::l,b::r=>eqV a b && XE l r
 | _,_=>false
theorem GL:∀ {a b:List Value},XE a b=true→a=b:=by
 intro a
 induction a with
 | nil=>grind [XE]
 | cons x a ih=>
  intro b h
  cases b<;>grind [XE,AP]
def OG:List (Nat×Nat)→List (Nat×Nat)→Bool
 | [],[]=>true
 | a::l,b::r=>Nat.beq a.1 b.1 && Nat.beq a.2 b.2 && OG l r
 | _,_=>false
theorem MW:∀ {a b:List (Nat×Nat)},OG a b=true→a=b:=by
 intro a
 induction a with
 | nil=>grind [OG]
 | cons x a ih=>
  intro b h
  cases b<;>grind [OG,Nat.eq_of_beq_eq_true]
def IL (C:Ctx) (P:Program):TK→Option TypeDesc→Bool
 | .bool,some .bool=>true
 | .int k,some (.int k')=>decide (k=k')
 | .str,some .string=>true
 | .ptr e,some (.pointer e')=>Nat.beq e e'
 | .sl e,some (.slice e')=>Nat.beq e e'
 | .st fs,some (.struct f)=>OG (f.toList.map fun x=>(x.type,x.offset)) fs && f.toList.all fun x=>match P.info? x.type with | some i=>Nat.beq i.size (C.ti x.type).size | none=>false
 | .arr n e,some (.array n' e')=>Nat.beq n n' && Nat.beq e e'
 | _,_=>false
theorem NW {k:TK} {d:Option TypeDesc} (h:IL C P k d=true):AL C P k d:=by
 unfold IL at h
 split at h
 ·rfl
 ·rw [of_decide_eq_true h];rfl
 ·rfl
 ·rw [Nat.eq_of_beq_eq_true h];rfl
 ·rw [Nat.eq_of_beq_eq_true h];rfl
 ·rw [Bool.and_eq_true] at h
  refine ⟨_,rfl,MW h.1,fun x hx=>?_⟩
  grind [Nat.eq_of_beq_eq_true]
 ·rw [Bool.and_eq_true] at h
  rw [Nat.eq_of_beq_eq_true h.1,Nat.eq_of_beq_eq_true h.2];rfl
 ·cases h
def JL (C:Ctx) (t:Nat) (z:Value):TK→Bool
 | .arr n e=>match z with
  | .agg cs=>XE cs.toList ((List.replicate n ((C.cod e).enc (C.cod e).z)).flatten.map lv)
  | _=>false
 | .st _=>match z with
  | .agg cs=>XE cs.toList ((zeroCells C 9 t).map lv) && (zeroCells C 9 t).all KC
  | _=>false
 | _=>match zeroCells C 9 t with
  | [l]=>eqV z (lv l) && KC l
  | _=>false
def KL:TK→Bool
 | .other=>true
 | _=>false
def tyB (C:Ctx) (P:Program) (t:Nat):Bool:=
 IL C P (C.ti t).kind (P.underlying t) &&
 (match P.info? t with
  | some i=>Nat.beq i.size (C.ti t).size && Nat.beq i.bytes (C.ti t).bytes && (match i.zero with | some z=>JL C t z (C.ti t).kind | none=>false)
  | none=>false) &&
 (match (C.ti t).kind with | .arr n e=>Nat.beq (C.ti t).size (n*(C.ti e).size) | .st _=>true | _=>Nat.beq (C.ti t).size 1)
theorem OW {l:L C.El} (h:KC l=true):(lv l).cells = #[lv l]:=by cases l <;> first | rfl | simp [KC] at h
theorem PW {t:Nat} (h:tyB C P t=true):OO C P t:=by
 unfold tyB at h
 rw [Bool.and_eq_true,Bool.and_eq_true] at h
 obtain ⟨⟨h1,h2⟩,h3⟩:=h
 refine ⟨NW h1,?_,?_,?_⟩
 ·split at h2
  ·rename_i i hi
   rw [Bool.and_eq_true,Bool.and_eq_true] at h2
   obtain ⟨⟨h4,h5⟩,h6⟩:=h2
   refine ⟨i,hi,Nat.eq_of_beq_eq_true h4,Nat.eq_of_beq_eq_true h5,?_⟩
   split at h6
   ·rename_i z hz
    refine ⟨z,hz,?_⟩
    clear h1 h3
    generalize (C.ti t).kind=k at h6
    have one:(match zeroCells C 9 t with | [l]=>eqV z (lv l) && KC l | _=>false)=true→z.cells = #[z]∧∃ l,zeroCells C 9 t=[l]∧z=lv l∧KC l=true:=by
     grind [AP,OW]
    cases k with
    | arr n e=>
     simp only [JL] at h6
     grind [GL]
    | st fs=>
     simp only [JL] at h6
     grind [GL]
    | _=>exact one h6
   simp_all
  simp_all
 all_goals grind [Nat.eq_of_beq_eq_true]
def posB (C:Ctx) (P:Program) (e:Nat):Bool:=
 Nat.blt 0 (C.ti e).size && !(KL (C.ti e).kind) && Nat.blt 0 (C.ti e).bytes && (match P.info? e with
  | some i=>match i.zero with | some z=>XE z.cells.toList (((C.cod e).enc (C.cod e).z).map lv) | none=>false
  | none=>false)
theorem QW {e:Nat} (h:posB C P e=true):0<(C.ti e).size∧(C.ti e).kind≠.other∧0<(C.ti e).bytes∧∃ i z,P.info? e=some i∧i.zero=some z∧z.cells.toList=((C.cod e).enc (C.cod e).z).map lv:=by
 unfold posB at h
 rw [Bool.and_eq_true,Bool.and_eq_true,Bool.and_eq_true] at h
 obtain ⟨⟨⟨h1,h2⟩,h3⟩,h4⟩:=h
 refine ⟨Nat.le_of_ble_eq_true h1,(fun he=>by rw [he] at h2;cases h2),Nat.le_of_ble_eq_true h3,?_⟩
 grind [GL]
def ctxB (C:Ctx) (P:Program) (tis:List (Nat×TI)) (es:List Nat):Bool:=
 (tis.all fun p=>inB p.1 es && (KL p.2.kind || (tyB C P p.1 && match p.2.kind with | .sl e=>posB C P e | .arr _ e=>posB C P e | _=>true))) &&
 (P.funcs.toList.all fun fn=> !(fn.name == "runtime.NumGoroutine")) && P.follows .mixedOrders
theorem mkCtx_ok {els:List (Nat×TyE)} {tis:List (Nat×TI)} {ents:List (Ent (ElOf els))} {modes:List (Nat×List Mode')} {cuts:List (Nat×List (Nat×(List Nat×List Nat×List (Nat×Nat)×List (Nat×Nat×Nat))))} {tabs:List (Nat×(Nat×List Int))} {pm:Perm} {fns:List Nat}
  (hB:ctxB (mkCtx els tis ents modes cuts tabs pm fns) P tis (ents.map (·.e))=true) (hents:∀ x,x ∈ ents→CodGood (mkCtx els tis ents modes cuts tabs pm fns) x.e x.c):CtxOk (mkCtx els tis ents modes cuts tabs pm fns) P:=by
 unfold ctxB at hB
 rw [Bool.and_eq_true,Bool.and_eq_true] at hB
 obtain ⟨⟨h1,h2⟩,h3⟩:=hB
 have get:∀ t,((mkCtx els tis ents modes cuts tabs pm fns).ti t).kind≠.other→(t,(mkCtx els tis ents modes cuts tabs pm fns).ti t) ∈ tis:=fun t h=>TF (d:=(⟨0,0,.other⟩:TI)) rfl (fun e=>h (by rw [e]))
 have notO:∀ k:TK,k≠.other→KL k=false:=fun k hk=>by cases k <;> first | rfl | grind
 refine ⟨fun t h=>?_,fun e=>?_,fun e h=>?_,h3,fun g fn hg=>?_⟩
 ·grind [PW]
 ·have g:=LW (C:=mkCtx els tis ents modes cuts tabs pm fns) (dflt:=ZO els) e ents (fun hno=>by
   have hsz:((mkCtx els tis ents modes cuts tabs pm fns).ti e)=⟨0,0,.other⟩:=BP (fun p hp' he=>by
    have:=List.all_eq_true.1 h1 p hp'
    rw [Bool.and_eq_true] at this
    obtain ⟨x,hx,hxe⟩:=List.mem_map.1 (ZF.1 this.1)
    exact hno x hx (by omega))
   exact ⟨fun x=>by rw [hsz];rfl,fun cs h=>(fit_nil h).symm,fun _=>rfl,rfl,fun _ _ h=>by cases h⟩) hents
  exact ⟨g.len,g.dec,g.fit,List.all_eq_true.1 g.zero,g.int⟩
 all_goals grind [QW]
theorem FY {fns:List Nat} {tis:List (Nat×TI)} {els:List (Nat×TyE)} {ents:List (Ent (ElOf els))} {modes:List (Nat×List Mode')} {cuts:List (Nat×List (Nat×(List Nat×List Nat×List (Nat×Nat)×List (Nat×Nat×Nat))))} {w0:World} {Ec:Nat→Nat→Prop}:TabOk (mkCtx els tis ents modes cuts [] Perm.nil fns) w0 Ec:=
 ⟨fun g i h=>by simp_all [mkCtx,look],fun g h=>absurd rfl h,fun i h=>absurd h (Nat.not_lt_zero _),fun h=>absurd rfl h⟩
end
end Go.Ev
