/- What the evaluator tells of structs' building is what the machine does. -/
import Derived.Test.YtkbbicgglblfiaaGreatDoorSnd6
namespace Go.Ev
open Go
section
variable {C:Ctx} {P:Program} {hp:Hp C} {AB:At} {w:World} {Ai:Nat->Prop} {w0:World} {Avn:Nat->Nat->Prop} {n:Nat} {env:Env C} {a:Act}
variable {γ:Type} {K:Val C.El->Hp C->Option γ} {r:γ} {o:Oper} {AC:Nat->Nat} {call:Nat->List (U C.El)->(List (U C.El)->Option γ)->Option γ}
def Goes (R:L C.El->Value->Prop) (cs:List (L C.El)) (vs:List Value):Prop:=vs.length=cs.length/\∀ (i:Nat) (l:L C.El),cs[i]?=some l->∃ u,vs[i]?=some u/\R l u
theorem AUC (cs:List (L C.El)) (off:Nat) (ls:List (L C.El)):(setCells C cs off ls).length=cs.length:=by induction ls generalizing cs off<;>simp_all [setCells]
def TG (vs:List Value) (off:Nat):List Value->List Value
 | []=>vs
 | u::us=>TG (vs.set off u) (off+1) us
theorem Auu (vs:List Value) (off:Nat) (us:List Value):(TG vs off us).length=vs.length:=by induction us generalizing vs off<;>simp_all [TG]
theorem Goes.set {R:L C.El->Value->Prop} {cs:List (L C.El)} {vs:List Value} (h:Goes R cs vs) (off:Nat) {l:L C.El} {u:Value} (hr:R l u):Goes R (cs.set off l) (vs.set off u):=by
 refine ⟨by simp [h.1],fun i l' hl=>?_⟩;by_cases e:off=i
 ·subst e;have hlt:off<cs.length:=by simp_all [List.getElem?_eq_some_iff]
  rw [List.getElem?_set_self hlt] at hl;cases hl;exact ⟨u,by rw [List.getElem?_set_self (by rw [h.1];omega)],hr⟩
 ·rw [List.getElem?_set_ne e] at hl;rw [List.getElem?_set_ne e];exact h.2 i l' hl
theorem Goes.sets {R:L C.El->Value->Prop} {ls:List (L C.El)} {us:List Value} (h:Goes R ls us) {cs:List (L C.El)} {vs:List Value} (hc:Goes R cs vs) (off:Nat):Goes R (setCells C cs off ls) (TG vs off us):=by
 induction ls generalizing us cs vs off with
 | nil=>
  have:us=[]:=List.length_eq_zero_iff.1 (by simpa using h.1);subst this;exact hc
 | cons l ls ih=>
  cases us with
  | nil=>have:=h.1;simp_all
  | cons u us=>
   obtain ⟨u',h1,h2⟩:=h.2 0 l rfl
   simp at h1;subst h1;exact ih ⟨by have:=h.1;simp_all,fun i l' hl=>by simpa using h.2 (i+1) l' (by assumption)⟩ (hc.set off h2) (off+1)
theorem Auw (us:List Value) (off k:Nat) (arr:Array Value) :
  ((us.zipIdx k).foldl (fun cs (c,j)=>cs.setIfInBounds (off+j) c) arr).toList=TG arr.toList (off+k) us:=by
 induction us generalizing k arr with
 | nil=>rfl
 | cons u us ih=>
  simp only [List.zipIdx_cons,List.foldl_cons];rw [ih (k+1),Array.toList_setIfInBounds];rfl
theorem AdB (us:Array Value) (off:Nat) (arr:Array Value) :
  (us.zipIdx.foldl (fun cs (c,j)=>cs.setIfInBounds (off+j) c) arr).toList=TG arr.toList off us.toList:=by
 have:=Auw us.toList off 0 arr;grind [Array.toList_zipIdx]
theorem AzR.cells {ro:Nat->Prop} {u:U C.El} {v:Value} (h:AzR C hp AB w ro u v) (ha:U.TF C u=false) (hj:UR C (U.cells C u)=true):Goes (KA C hp AB w ro) (U.cells C u) v.cells.toList:=by
 cases u with
 | one l=>
  have hl:KA C hp AB w ro l v:=h;have hj':YP C l=false:=by grind [U.cells,UR]
  obtain ⟨_,h2⟩:=hl.one hj'
  rw [h2];refine ⟨rfl,fun i l' hl'=>?_⟩;grind [U.cells]
 | agg cs=>
  obtain ⟨arr,rfl,h1,h2⟩:=h
  refine ⟨by assumption,fun i l hl=>?_⟩;obtain ⟨u,h3,h4⟩:=h2 i l hl
  simp_all [Value.cells]
 | arr e xs=>simp_all [U.TF]
theorem AvX (st:St C w0 Avn n env hp AB Ai a w):∀ (ps:List (Nat×Operand)) (i:Nat) (x:Nat×Val C.El),(parts C env ps)[i]?=some x->∃ y,ps[i]?=some (x.1,y)/\IB C hp AB w (BK C hp AB w) x.2 (a.eval y):=by intro ps;induction ps<;>grind [parts,Awr]
theorem Aux (st:St C w0 Avn n env hp AB Ai a w) {fs:List (Nat×Nat)} {place:Nat->Option (Nat×Nat)} (hpl:∀ i f,fs[i]?=some f->place i=some (f.2,(C.ti f.1).size)) :
  ∀ (ps:List (Nat×Operand)) (cs cs':List (L C.El)) (arr:Array Value),jg C fs cs (parts C env ps)=some cs'->Goes (KA C hp AB w (BK C hp AB w)) cs arr.toList->
   ∃ arr':Array Value,Instr.fill place arr (ps.map fun (i,x)=>(i,a.eval x))=some arr'/\Goes (KA C hp AB w (BK C hp AB w)) cs' arr'.toList:=by
 intro ps;induction ps with
 | nil=>intro cs cs' arr h hg;simp [parts,jg] at h;subst h;exact ⟨arr,rfl,hg⟩
 | cons p ps ih=>
  intro cs cs' arr h hg;obtain ⟨i,y⟩:=p
  simp only [parts] at h;have hy:=Awr st y;generalize CB C env y=us at h hy;cases us with
  | nil=>grind [jg]
  | cons u us=>
   cases us with
   | cons _ _=>grind [jg]
   | nil=>
    simp only [jg] at h;split at h
    ·rename_i f hf;split at h
     ·rename_i h1 h2 h3 h4;have h1:=Ea h1;have h2:=Nat.le_of_ble_eq_true h2;have hc:=AzR.cells hy h3 h4;have hsz:(a.eval y).cells.size=(C.ti f.1).size:=by rw [<-h1,<-hc.1];simp
      have hle:f.2+(C.ti f.1).size<=arr.size:=by have:=hg.1;simp_all
      simp only [List.map_cons,Instr.fill,hpl i f hf];rw [if_neg (by simp_all)];refine ih _ _ _ h ?_;rw [AdB];exact hc.sets hg f.2
     ·cases h
    ·cases h
theorem Auy {α β:Type} {g:α->Sem β} (f:α->β):∀ (l:List α),(∀ x ∈ l,(g x).run P w=.ok (f x) w)->(l.mapM g).run P w=.ok (l.map f) w:=by intro l;induction l<;>simp_all
theorem AuI (hC:EW C P) (st:St C w0 Avn n env hp AB Ai a w) (t:TypeId) (ps:Array (Nat×Operand)) {fs:List (Nat×Nat)} (hk:(C.ti t).kind=.st fs) (ho:o.op=.build t ps) (h:ET C P AC call env hp o K r):Sound C P w0 Avn hp AB a w o K r:=by
 unfold ET at h;rw [ho] at h;simp only [Ci,hk] at h;split at h
 ·rename_i cs hcs;have hty:=hC.ty t (by simp_all);have hu:=hty.und;rw [hk] at hu;obtain ⟨fields,hf,hmap,hinfo⟩:=hu
  obtain ⟨i,hi,_,_,z,hz,hzz⟩:=hty.info
  rw [hk] at hzz;obtain ⟨zc,rfl,hzl,hpl⟩:=hzz
  have hzero:(zeroValue t).run P w=.ok (.agg zc) w:=by simp_all [zeroValue,typeInfo]
  have E1:(fields.mapM (fun (f:Field)=>do pure (f.offset,<-sizeOf f.type):Field->Sem (Nat×Nat))).run P w=.ok (fields.map fun f=>(f.offset,(C.ti f.type).size)) w:=by
   rw [Array.mapM_eq_mapM_toList,Sem.run_map,Auy (fun f:Field=>(f.offset,(C.ti f.type).size)) fields.toList (fun f hf'=>by
    obtain ⟨i,h1,h2⟩:=hinfo f hf'
    simp [sizeOf,typeInfo,h1,h2])]
   show Result.ok _ w=Result.ok _ w;congr 1;apply Array.ext';simp
  have E7:∀ (i:Nat) (f:Nat×Nat),fs[i]?=some f->(fields.map fun (f:Field)=>(f.offset,(C.ti f.type).size))[i]?=some (f.2,(C.ti f.1).size):=by grind
  have hg:Goes (KA C hp AB w (BK C hp AB w)) (zeroCells C 9 t) zc.toList:=by refine ⟨by simp_all,fun i l hl=>⟨lv l,by grind,AUQ l (hpl l (List.mem_of_getElem? hl))⟩⟩
  obtain ⟨arr',h1,h2⟩:=Aux st E7 ps.toList _ _ zc hcs hg
  have hparts:(ps.map fun (i,x)=>(i,a.eval x)).toList=ps.toList.map fun (i,x)=>(i,a.eval x):=by simp
  refine Sound.val st.mem h (v:=.agg arr') ?_ ⟨arr',rfl,by simpa using h2.1,fun i l hl=>by
   obtain ⟨u,h3,h4⟩:=h2.2 i l hl
   grind⟩
  simp only [execOp,ho,Instr.build,Sem.run_bind,hzero,Result.andThen_ok,run_underlying hf,E1,Value.cells,hparts,h1];rfl
 ·cases h
end
end Go.Ev
