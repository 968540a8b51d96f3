/- What the evaluator tells of plain operations is what the machine does. -/
import Derived.Test.YtkbbicgglblfiaaGreatDoorRep
import Derived.Deep.MidRow
import Derived.ChangeKeysEq
namespace Go.Ev
set_option linter.unusedVariables false
set_option linter.unusedSimpArgs false
open Go
def ATr (C:Ctx) (P:Program):aY->Option TypeDesc->Prop
 | .bool,d=>d=some .bool
 | .int k,d=>d=some (.int k)
 | .str,d=>d=some .string
 | .ptr e,d=>d=some (.pointer e)
 | .sl e,d=>d=some (.slice e)
 | .st fs,d=>∃ f:Array Field,d=some (.struct f)/\f.toList.map (fun x=>(x.type,x.offset))=fs/\∀ x ∈ f.toList,∃ i,P.info? x.type=some i/\i.size=(C.ti x.type).size
 | .arr n e,d=>d=some (.array n e)
 | .other,_=>True
def lv {El:Nat->Type}:L El->Value
 | .int k n=>.int k n
 | .bool b=>.bool b
 | .str s=>.string s
 | .Wq=>.pointer none
 | _=>.slice none 0 0
def PY {El:Nat->Type}:L El->Bool
 | .int _ _=>true
 | .bool _=>true
 | .str _=>true
 | .Wq=>true
 | .JI=>true
 | .BG _ []=>true
 | _=>false
structure AcO (C:Ctx) (P:Program) (t:Nat):Prop where
 und:ATr C P (C.ti t).kind (P.underlying t)
 info:∃ i,P.info? t=some i/\i.size=(C.ti t).size/\i.bytes=(C.ti t).bytes/\∃ z,i.zero=some z/\
  (match (C.ti t).kind with
   | .arr n e=>∃ cs:Array Value,z=.agg cs/\cs.toList=(List.replicate n ((C.Aw e).enc (C.Aw e).z)).flatten.map lv
   | .st _=>∃ cs:Array Value,z=.agg cs/\cs.toList=(zeroCells C 9 t).map lv/\∀ l ∈ zeroCells C 9 t,PY l=true
   | _=>z.cells = #[z]/\∃ l,zeroCells C 9 t=[l]/\z=lv l/\PY l=true)
 arr:(match (C.ti t).kind with | .arr n e=>(C.ti t).size=n*(C.ti e).size | _=>True)
 one:(match (C.ti t).kind with | .st _ | .arr _ _ | .other=>True | _=>(C.ti t).size=1)
structure Ph (C:Ctx) (e:Nat):Prop where
 len:∀ x,((C.Aw e).enc x).length=(C.ti e).size
 dec:∀ cs,fitAll (C.Aw e).sh cs=true->(C.Aw e).enc ((C.Aw e).dec cs)=cs
 fit:∀ x,fitAll (C.Aw e).sh ((C.Aw e).enc x)=true
 zero:∀ l ∈ (C.Aw e).enc (C.Aw e).z,PY l=true
 int:∀ (h:Int=C.El e) (k:IntKind),(C.Aw e).int?=some ⟨h⟩->(C.ti e).kind=.int k->∀ n:Int,(C.Aw e).enc (h ▸ n)=[.int k n]
structure EW (C:Ctx) (P:Program):Prop where
 ty:∀ t,(C.ti t).kind≠.other->AcO C P t
 Aw:∀ e,Ph C e
 pos:∀ e,(∃ t,(C.ti t).kind=.sl e\/∃ n,(C.ti t).kind=.arr n e)->0<(C.ti e).size/\(C.ti e).kind≠.other/\0<(C.ti e).bytes/\∃ i z,P.info? e=some i/\i.zero=some z/\z.cells.toList=((C.Aw e).enc (C.Aw e).z).map lv
 mixed:P.follows .mixedOrders=true
 Afp:∀ (g:Nat) (fn:Func),P.funcs[g]?=some fn->(fn.name == "runtime.NumGoroutine")=false
section
variable {C:Ctx} {P:Program} {hp:Hp C} {AB:At} {w:World} {ro Ai:Nat->Prop}
theorem AvZ (w:World) (ro:Nat->Prop) (e:Nat):Rep C w ro (.BG e []) (.slice none 0 0):=.none _ _ _
theorem AUQ (l:L C.El) (h:PY l=true):KA C hp AB w ro l (lv l):=by
 cases l <;> simp_all [PY,lv,KA];rename_i e xs;cases xs with
 | nil=>exact .none _ _ _
 | cons _ _=>simp at h
theorem Rep.jv {l:L C.El} {v:Value} (h:Rep C w ro l v):KA C hp AB w ro l v:=by
 cases h with
 | int=>rfl
 | bool=>rfl
 | str=>rfl
 | none=>exact .none _ _ _
 | BG e xs b off c V hb hl hc hr=>exact Rep.BG e xs b off c V hb hl hc hr
theorem Rep.mono {l:L C.El} {v:Value} (h:Rep C w ro l v) {ro':Nat->Prop} (hr:∀ b,ro b->ro' b):Rep C w ro' l v:=Rep.keep h hr (fun _ _=>rfl)
theorem KA.one {l:L C.El} {v:Value} (h:KA C hp AB w ro l v) (hj:YP C l=false):v.oneCell'=true/\v.cells = #[v]:=by
 cases l with
 | junk=>simp_all [YP]
 | int k n=>subst h;exact ⟨rfl,rfl⟩
 | bool b=>subst h;exact ⟨rfl,rfl⟩
 | str s=>subst h;exact ⟨rfl,rfl⟩
 | JI=>subst h;exact ⟨rfl,rfl⟩
 | Wq=>subst h;exact ⟨rfl,rfl⟩
 | PX g i=>subst h;exact ⟨rfl,rfl⟩
 | J4=>subst h;exact ⟨rfl,rfl⟩
 | TA i=>subst h;exact ⟨rfl,rfl⟩
 | fn f=>subst h;exact ⟨rfl,rfl⟩
 | Ns e xs=>exact h.elim
 | BG e xs=>cases h <;> exact ⟨rfl,rfl⟩
 | PW e x o=>obtain ⟨b,off,V,rfl,_⟩:=h;exact ⟨rfl,rfl⟩
 | ptr id o=>obtain ⟨_,b,off,_,rfl⟩:=h;exact ⟨rfl,rfl⟩
 | own id=>exact ⟨h.1,by cases v <;> first | rfl | cases h.1⟩
 | any=>exact ⟨h,by cases v <;> first | rfl | cases h⟩
 | sub id o len=>exact ⟨h.1,by cases v <;> first | rfl | cases h.1⟩
 | Ji id i o=>obtain ⟨⟨b,o',rfl⟩,_⟩:=h;exact ⟨rfl,rfl⟩
structure St (C:Ctx) (w0:World) (Avn:Nat->Nat->Prop) (n:Nat) (env:Env C) (hp:Hp C) (AB:At) (Ai:Nat->Prop) (a:Act) (w:World):Prop where
 mem:Mem C w0 Avn hp AB Ai w
 size:a.tmps.size=n
 defers:a.defers=[]
 env:∀ t,IB C hp AB w (BK C hp AB w) (look env t [.one .junk]) (a.tmps.getD t undef)
theorem AdJ (v:Value):KA C hp AB w ro (AKX C v) v:=by unfold AKX;grind [KA]
theorem Awr {w0:World} {Avn:Nat->Nat->Prop} {n:Nat} {env:Env C} {a:Act} (st:St C w0 Avn n env hp AB Ai a w) (x:Operand) :
  IB C hp AB w (BK C hp AB w) (CB C env x) (a.eval x):=by
 cases x with
 | tmp t=>exact st.env t
 | global g=>rfl
 | func f=>rfl
 | const v=>
  show IB C hp AB w _ (ofConst C v) v;unfold ofConst;split;·rename_i cs;refine ⟨cs,rfl,by simp,fun i l hl=>?_⟩;grind [AdJ]
  ·exact AdJ v
theorem Au7 {w0:World} {Avn:Nat->Nat->Prop} (hC:∀ e,Ph C e) (m:Mem C w0 Avn hp AB Ai w) {l:L C.El} {v:Value} {cs:List (L C.El)} {off:Nat}
  (h:KA C hp AB w (BK C hp AB w) l v) (hp':place C hp l=some (cs,off)) :
  ∃ b o,v=.pointer (some ⟨b,o+off,none⟩)/\∀ j l',cs[j]?=some l'->∃ u,w.cell? ⟨b,o+j,none⟩=some u/\KA C hp AB w (BK C hp AB w) l' u:=by
 have elem:∀ (e:Nat) (xs:List (C.El e)) (i b o:Nat) (Rr:Nat->Prop),i<xs.length->(∀ (j:Nat) (x:C.El e) (k:Nat) (l:L C.El),xs[j]?=some x->((C.Aw e).enc x)[k]?=some l->∃ v,w.cell? ⟨b,o+(j*(C.ti e).size+k),none⟩=some v/\Rep C w Rr l v)->(∀ b,Rr b->BK C hp AB w b)->
   ∀ j l',((C.Aw e).enc (xs.getD i (C.Aw e).z))[j]?=some l'->∃ u,w.cell? ⟨b,(o+i*(C.ti e).size)+j,none⟩=some u/\KA C hp AB w (BK C hp AB w) l' u:=by
  intro e xs i b o Rr hi hx hR j l' hl;have hg:xs[i]?=some (xs.getD i (C.Aw e).z):=by simp_all
  obtain ⟨v,h1,h2⟩:=hx i _ j l' hg hl
  exact ⟨v,by simp_all [Nat.add_assoc],(h2.mono hR).jv⟩
 have hfr:∀ b,Ai b->BK C hp AB w b:=fun b hb=>⟨(m.Ai b hb).1,(m.Ai b hb).2.1⟩
 cases l with
 | ptr id off'=>
  simp only [place] at hp';split at hp'
  ·rename_i cs' hl;simp only [Option.some.injEq,Prod.mk.injEq] at hp';obtain ⟨rfl,rfl⟩:=hp'
   obtain ⟨_,b,o,ha,rfl⟩:=h
   have ho:=m.obj id;grind [OA]
  simp_all
 | Ji id i off'=>
  obtain ⟨_,_,h⟩:=h
  have ho:=m.obj id;simp only [place] at hp';split at hp'
  ·rename_i e xs hl;simp only [Option.some.injEq,Prod.mk.injEq] at hp';obtain ⟨rfl,rfl⟩:=hp'
   simp only [hl] at h;obtain ⟨b,o,ha,hi,rfl⟩:=h
   simp only [OA,hl,ha] at ho;obtain ⟨rfl,cap,arr,fr,_,_,_,_,_,hc⟩:=ho
   exact ⟨b,0+i*(C.ti e).size,by simp,elem e xs i b 0 Ai hi (fun j x k l h1 h2=>by simp_all) hfr⟩
  ·rename_i e xs hl;simp only [Option.some.injEq,Prod.mk.injEq] at hp';obtain ⟨rfl,rfl⟩:=hp'
   simp only [hl] at h;obtain ⟨b,o,ha,hi,rfl⟩:=h
   simp only [OA,hl,ha] at ho;exact ⟨b,o+i*(C.ti e).size,by simp [Nat.add_assoc],elem e xs i b o _ hi (fun j x k l h1 h2=>(ho j x k l h1 h2).2) (fun _ h=>h.elim)⟩
  ·rename_i e xs hl;simp only [Option.some.injEq,Prod.mk.injEq] at hp';obtain ⟨rfl,rfl⟩:=hp'
   simp only [hl] at h;obtain ⟨b,o,ha,hi,rfl⟩:=h
   simp only [OA,hl] at ho;obtain ⟨b',o',ha',hc⟩:=ho
   rw [ha] at ha';cases ha';exact ⟨b,o+i*(C.ti e).size,by simp [Nat.add_assoc],elem e xs i b o _ hi (fun j x k l h1 h2=>(hc j x k l h1 h2).2) (fun _ h=>h.elim)⟩
  simp_all
 | PW e x off'=>
  simp only [place,Option.some.injEq,Prod.mk.injEq] at hp';obtain ⟨rfl,rfl⟩:=hp'
  obtain ⟨b,o,V,rfl,hb,hV⟩:=h
  exact ⟨b,o,rfl,fun j l' hj=>⟨V j,(hV j l' hj).1,(hV j l' hj).2.jv⟩⟩
 | _=>cases hp'
theorem Acw (cs:List (L C.El)):∀ off,wB C cs off=cs[off]?:=by
 induction cs with
 | nil=>simp [wB]
 | cons l ls ih=>intro off;cases off<;>simp_all [wB]
end
end Go.Ev
