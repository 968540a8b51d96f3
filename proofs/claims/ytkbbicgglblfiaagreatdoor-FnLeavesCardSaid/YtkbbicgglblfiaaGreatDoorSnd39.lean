/- What an argument of a law reads as is a plain value; a law's call. -/
import Derived.Test.YtkbbicgglblfiaaGreatDoorSnd38
import Derived.SizedLaws
import Derived.Deep.Slices
import Derived.ChangeArms
import Derived.ChangeMaps5
import Derived.WideShapes
import Derived.Carry
import Derived.Below
namespace Go.Ev
open Go Go.ChangeShapes Go.WideShapes Go.Deep
section
variable {C:Ctx} {P:Program} {t:TypeId}
def QN (C:Ctx) (P:Program) (t:TypeId) {α:Type} (enc:α->List (L C.El)) (G:α->Prop):Prop:=
 ∀ (H:Type) (enc':TypeId×Value->H) (w:World) (n:Nat) (cs:List Value) (x:DataW H×List MemPlace),
  DataW.trod enc' P w 0 (fun _=>true) true n t cs=some x->(∀ m ∈ DataW.weights P t x.1,m<=reachBytes)->∃ a:α,Goes (Rep C w (fun b=>b<w.heap.size)) (enc a) cs/\G a
def AKa (C:Ctx) (P:Program) (fs:List Field) (off:Nat) {α:Type} (enc:α->List (L C.El)) (sz:Nat) (G:α->Prop):Prop:=
 ∀ (H:Type) (enc':TypeId×Value->H) (w:World) (n:Nat) (cs:List Value) (xs:List (DataW H×List MemPlace)),
  cs.length=off+sz->xs.length=fs.length->
  (∀ (i:Nat) (f:Field),fs[i]?=some f->DataW.trod enc' P w 0 (fun _=>true) true n f.type ((cs.drop f.offset).take (P.cellsOf f.type))=xs[i]?)->
  (∀ m ∈ DataW.weightsEach P (fs.map (·.type)) (xs.map (·.1)),m<=reachBytes)->∃ a:α,Goes (Rep C w (fun b=>b<w.heap.size)) (enc a) (cs.drop off)/\G a
abbrev AfF:Bool->Prop:=fun _=>True
abbrev jm (k:IntKind):Int->Prop:=fun n=>(Lit.int k n).wf=true
abbrev Afq:AA->Prop:=fun s=>s.size<=140737488351232
abbrev AUh (B:Nat) {α:Type} (G:α->Prop):List α->Prop:=fun xs=>xs.length*B<=140737488351232/\∀ x ∈ xs,G x
abbrev AfG {α β:Type} (G:α->Prop) (G':β->Prop):α×β->Prop:=fun p=>G p.1/\G' p.2
abbrev Afr {α β:Type} (G:α->Prop) (g:β->α):β->Prop:=fun b=>G (g b)
theorem AEX {R:L C.El->Value->Prop} {l:L C.El} {v:Value} (h:R l v):Goes R [l] [v]:=⟨rfl,fun i l' hl=>by
 grind⟩
theorem Au9 {R:L C.El->Value->Prop} {a b:List (L C.El)} {x y:List Value} (h:Goes R a x) (k:Goes R b y):Goes R (a++b) (x++y):=by
 refine ⟨by simp [h.1,k.1],fun i l hl=>?_⟩;rcases Nat.lt_or_ge i a.length with hlt | hge
 ·rw [List.getElem?_append_left hlt] at hl;obtain ⟨u,h1,h2⟩:=h.2 i l hl
  grind
 ·rw [List.getElem?_append_right hge] at hl;obtain ⟨u,h1,h2⟩:=k.2 _ l hl
  exact ⟨u,by rw [List.getElem?_append_right (by rw [h.1];omega),h.1];exact h1,h2⟩
theorem AvH (ht:P.underlying t=some .bool):QN C P t (fun b=>[.bool b]) AfF:=by
 intro H enc w n cs x h _;obtain ⟨b,rfl,_⟩:=DataW.trod_bool ht h
 exact ⟨b,AEX (.bool b),trivial⟩
theorem AdU {k:IntKind} (ht:P.underlying t=some (.int k)):QN C P t (fun b=>[.int k b]) (jm k):=by
 intro H enc w n cs x h _;obtain ⟨b,rfl,_,hw⟩:=DataW.trod_int ht h
 exact ⟨b,AEX (.int k b),hw⟩
theorem AvE (ht:P.underlying t=some .string):QN C P t (fun b=>[.str b]) Afq:=by
 intro H enc w n cs x h hm;obtain ⟨s,rfl,rfl,_⟩:=DataW.trod_string ht h
 refine ⟨s,AEX (.str s),?_⟩;have:=hm s.data.toList.length (by simp [DataW.weights]);assumption
theorem AdL {α:Type} {p:Nat->α->Prop}:∀ n:Nat,(∀ i,i<n->∃ x,p i x)->∃ xs:List α,xs.length=n/\∀ i x,xs[i]?=some x->p i x
 | 0,_=>⟨[],rfl,fun i x h=>by simp at h⟩
 | n+1,h=>by
  obtain ⟨xs,hl,hx⟩:=AdL n (fun i hi=>h i (by omega))
  obtain ⟨y,hy⟩:=h n (by omega)
  refine ⟨xs++[y],by simp [hl],fun i x hi=>?_⟩;grind
theorem cell_spot {w:World} {a:Addr} {v:Value} (h:w.cell? a=some v):a.spot=none:=by simp only [World.cell?] at h;split at h;all_goals simp_all
theorem addr_add (b o k:Nat):(⟨b,o,none⟩:Addr).add k=⟨b,o+k,none⟩:=by simp [Addr.add]
theorem AdR {e:TypeId} {G:C.El e->Prop} {B:Nat} (hC:EW C P) (ht:P.underlying t=some (.slice e)) (hc:P.cellsOf e=(C.ti e).size) (hpos:0<(C.ti e).size) (hB:P.bytesOf e=B) (h:QN C P e (C.Aw e).enc G) :
  QN C P t (fun xs:List (C.El e)=>[.BG e xs]) (AUh B G):=by
 intro H enc w n cs x hx hm;rcases Go.Deep.open_slice ht hx with ⟨rfl,rfl⟩ | ⟨a,len,cap,m,n',D,Pl,rfl,_,hl,hcap,hmm,rfl,hi⟩
 ·exact ⟨[],AEX (.none _ _ _),by simp,fun x hx=>by cases hx⟩
 ·simp only [if_true] at hmm;subst hmm;have hw:∀ i,i<len->∀ z ∈ DataW.weights P e (D i),z<=reachBytes:=by
   intro i hil z hz;refine hm z ?_;simp only [DataW.weights,ht,List.mem_cons,List.mem_append];right;left;have:∀ (l:List (DataW H)),D i ∈ l->z ∈ DataW.weightsAll P e l:=by intro l;induction l<;>grind [DataW.weightsAll]
   grind
  obtain ⟨xs,hxl,hxs⟩:=AdL (p:=fun i y=>∃ c,w.cells? 0 (a.add (i*P.cellsOf e)) (P.cellsOf e)=some c/\Goes (Rep C w (fun b=>b<w.heap.size)) ((C.Aw e).enc y) c/\G y) len (fun i hil=>by
   obtain ⟨c,h1,h2⟩:=hi i (by omega)
   obtain ⟨y,h3,h4⟩:=h H enc w n' c _ h2 (hw i hil)
   grind)
  refine ⟨xs,AEX ?_,?_,?_⟩
  ·cases xs with
   | nil=>simp at hxl;subst hxl;exact .none _ _ _
   | cons y ys=>
    have cell:∀ (j:Nat) (x:C.El e) (i:Nat) (l:L C.El),(y::ys)[j]?=some x->((C.Aw e).enc x)[i]?=some l->∃ v,w.cell? ((a.add (j*(C.ti e).size)).add i)=some v/\Rep C w (fun b=>b<w.heap.size) l v:=by
     intro j x i l hj hl';obtain ⟨c,h1,h2,_⟩:=hxs j x hj
     obtain ⟨_,hcl,hcc⟩:=World.cells?_some h1
     obtain ⟨u,h3,h4⟩:=h2.2 i l hl'
     grind
    have hlen:=(hC.Aw e).len y;have h0:0<((C.Aw e).enc y).length:=by omega
    obtain ⟨v0,g1,_⟩:=cell 0 y 0 _ rfl (List.getElem?_eq_getElem h0)
    have hb:a.block<w.heap.size:=by simp_all [World.block_lt_of_cell?,Addr.add]
    have hsp:a.spot=none:=by grind [cell_spot,Addr.add]
    obtain ⟨b,off,sp⟩:=a
    grind [vY,addr_add]
  ·have:=hm ((((List.range len).map D).length+((List.range (m - len)).map fun j=>D (len+j)).length)*P.bytesOf e) (by grind [DataW.weights]);simp only [List.length_map,List.length_range,hB] at this;rw [hxl];exact Nat.le_trans (Nat.mul_le_mul_right _ (by omega)) this
  grind [List.mem_iff_getElem?]
theorem AvI {f:Field} {off:Nat} {α:Type} {enc:α->List (L C.El)} {sz:Nat} {G:α->Prop} (ho:f.offset=off) (hc:P.cellsOf f.type=sz) (h:QN C P f.type enc G):AKa C P [f] off enc sz G:=by
 intro H enc' w n cs xs hl hx hi hm;obtain ⟨x,rfl⟩:∃ x,xs=[x]:=by
  match xs,hx with
  | [x],_=>simp
 have h0:=hi 0 f rfl;rw [ho,hc,List.take_of_length_le (by simp_all)] at h0;exact h H enc' w n _ x h0 (fun m hm'=>hm m (by simp_all [DataW.weightsEach]))
theorem AvG {f:Field} {fs:List Field} {off:Nat} {α β:Type} {enc1:α->List (L C.El)} {enc2:β->List (L C.El)} {s1 s2:Nat} {G:α->Prop} {G':β->Prop} (ho:f.offset=off) (hc:P.cellsOf f.type=s1) (h:QN C P f.type enc1 G) (h':AKa C P fs (off+s1) enc2 s2 G') :
  AKa C P (f::fs) off (fun p:α×β=>enc1 p.1++enc2 p.2) (s1+s2) (AfG G G'):=by
 intro H enc' w n cs xs hl hx hi hm;obtain ⟨x,xs',rfl⟩:∃ x xs',xs=x::xs':=by
  match xs,hx with
  | x::xs',_=>simp
 have h0:=hi 0 f rfl;rw [ho,hc] at h0;obtain ⟨a,ha,hG⟩:=h H enc' w n _ x h0 (fun m hm'=>hm m (by simp_all [DataW.weightsEach]))
 obtain ⟨b,hb,hG'⟩:=h' H enc' w n cs xs' (by omega) (by simp_all) (fun i f' hf'=>by simpa using hi (i+1) f' (by assumption)) (fun m hm'=>hm m (by simp_all [DataW.weightsEach]))
 refine ⟨(a,b),?_,hG,hG'⟩;grind [Au9,List.drop_drop,List.take_append_drop]
theorem AvF {fs:Array Field} {fl:List Field} {α:Type} {enc:α->List (L C.El)} {sz:Nat} {G:α->Prop} (ht:P.underlying t=some (.struct fs)) (hfl:fs.toList=fl) (hz:P.cellsOf t=sz) (h:AKa C P fl 0 enc sz G):QN C P t enc G:=by
 intro H enc' w n cs x hx hm;obtain ⟨xs,n',_,rfl,hl,hlen,hi⟩:=DataW.trod_struct ht hx
 have h0:=h H enc' w n' cs xs (by omega) (by grind) (fun i f hf=>hi i f (by grind)) (fun m hm'=>hm m (by
  simp_all [DataW.weights]))
 assumption
theorem AvJ {α β:Type} {enc:α->List (L C.El)} {G:α->Prop} (g:β->α) (mk:α->β) (hg:∀ a,g (mk a)=a) (h:QN C P t enc G):QN C P t (fun b=>enc (g b)) (Afr G g):=by
 intro H enc' w n cs x hx hm;obtain ⟨a,ha,hG⟩:=h H enc' w n cs x hx hm
 exact ⟨mk a,by simp_all,by grind⟩
theorem AdQ {H:Type} {enc':TypeId×Value->H} {w:World} {α:Type} {enc:α->List (L C.El)} {G:α->Prop} {v:Value} {d:DataW H} {ps:List MemPlace} {ts:List TypeId} {ds:List (DataW H)} {j:Nat}
  (ho:QN C P t enc G) (hsz:(DataW.weightsEach P ts ds).all (·<=reachBytes)=true) (ht:ts[j]?=some t) (hd:ds[j]?=some d) (h:DataW.Trod enc' P w 0 (fun _=>true) true t v d ps) :
  ∃ a:α,Goes (Rep C w (fun b=>b<w.heap.size)) (enc a) v.cells.toList/\G a:=by
 obtain ⟨fuel,hf⟩:=h
 refine ho H enc' w fuel _ _ hf (fun m hm=>?_);have:=List.all_eq_true.1 hsz m (DataW.weights_mem_each ht hd m hm);simp_all
theorem Ada {H:Type} {enc:TypeId×Value->H} {w:World} {v:Value} {d:DataW H} {ps:List MemPlace} (h:DataW.Trod enc P w 0 (fun _=>true) true t v d ps):∀ x ∈ ps,x.block<w.heap.size:=by
 obtain ⟨m,hm⟩:=h
 exact DataW.trod_lt m _ _ _ hm
theorem AdY {w:World} {R:Nat->Prop} {hp:Hp C} {AB:At} {l:L C.El} {v:Value} (hv:v.cells = #[v]) (h:Goes (Rep C w R) [l] v.cells.toList):AzR C hp AB w R (.one l) v:=by
 rw [hv] at h;obtain ⟨u,h1,h2⟩:=h.2 0 l rfl
 simp at h1;subst h1;exact h2.jv
theorem AvN {w:World} {R:Nat->Prop} {hp:Hp C} {AB:At} {ls:List (L C.El)} {cs:Array Value} (h:Goes (Rep C w R) ls cs.toList):AzR C hp AB w R (.agg ls) (.agg cs):=by
 refine ⟨cs,rfl,by simpa using h.1,fun i l hl=>?_⟩;obtain ⟨u,h1,h2⟩:=h.2 i l hl
 exact ⟨u,by simp_all,h2.jv⟩
def wC (C:Ctx):List Mode'->List Nat->Bool
 | _,[]=>true
 | ms,t::ts=>(match VP C t,ms.headD .rd with | none,.rd=>true | _,_=>false) && wC C (ms.drop 1) ts
theorem AvA:∀ (ts:List Nat) (i:Nat) (ms:List Mode') (us:List (U C.El)),wC C ms ts=true->us.length=ts.length->
  ∃ env,enter C i ms ts us=some (env,[])/\∀ k,look env (i+k) [.one .junk]=((us[k]?).map fun u=>[u]).getD [.one .junk]:=by
 intro ts;induction ts with
 | nil=>
  intro i ms us _ hl;cases us with
  | nil=>exact ⟨[],rfl,fun k=>by rfl⟩
  | cons _ _=>simp at hl
 | cons t ts ih=>
  intro i ms us h hl;cases us with
  | nil=>simp at hl
  | cons u us=>
   simp only [wC,Bool.and_eq_true] at h;obtain ⟨h1,h2⟩:=h
   obtain ⟨env,h3,h4⟩:=ih (i+1) (ms.drop 1) us h2 (by simp_all)
   split at h1;·rename_i hp hm;refine ⟨(i,[u])::env,by simp_all [enter],fun k=>?_⟩;grind [AcZ]
   simp_all
theorem AvB {hp:Hp C}:∀ (ts:List Nat) (i:Nat) (ms:List Mode'),wC C ms ts=true->U7 C hp i ms ts=some ([],[]):=by intro ts;induction ts<;>grind [wC,U7]
theorem AdX (hC:EW C P) {g:Nat} {fn:Func} (hfn:P.funcs[g]?=some fn) {us:List (U C.El)} (hd:Does C P g us [.one (.bool true)]) {args:Array Value} {w:World} (hT:JX C w (IX C [] (fun _=>none))) {tb:Nat} (hrd:wC C (C.mode g) fn.params.toList=true)
  (hlen:us.length=fn.params.toList.length) (hsz:args.size=fn.params.size) (hrt:fn.resultTypes.toList=[tb]) (hkb:(C.ti tb).kind=.bool)
  (hrep:∀ (i:Nat) (u:U C.El),us[i]?=some u->AzR C [] (fun _=>none) w (fun b=>b<w.heap.size) u (args.getD i undef)) :
  Calls P g args w fun e w'=>e=.returned (.bool true)/\Go.RowKit.Below w.heap.size w w':=by
 obtain ⟨env,hen,hlk⟩:=AvA (C:=C) fn.params.toList 0 (C.mode g) us hrd hlen
 have B7:∀ id,¬ live C ([]:Hp C) id:=fun id h=>h
 have hro:∀ b,b<w.heap.size->BK C ([]:Hp C) (fun _=>none) w b:=fun b hb=>⟨hb,fun ⟨id,_,h,_⟩=>B7 id h⟩
 have m0:Mem C w (IX C [] (fun _=>none)) [] (fun _=>none) (fun _=>False) w:=
  ⟨fun id=>trivial,fun id _ _ _ _ h=>(B7 id h).elim,fun id _ _ h=>(B7 id h).elim,fun id _ _ h=>(B7 id h).elim,fun b hb=>hb.elim,⟨Ext.refl w,fun _ _ _=>rfl,fun _ _ _ _=>rfl⟩⟩
 have Fx:∀ b o,¬ IX C ([]:Hp C) (fun _=>none) b o:=fun b o ⟨i,off,h,_⟩=>B7 i h
 refine (hd.snd hC w (fun _=>none) args fn (env,[]) hfn hen m0 hT hsz (fun t=>?_)).mono ?_
 ·have h1:=hlk t;rw [Nat.zero_add] at h1;dsimp only;rw [h1];cases hu:us[t]? with
  | none=>trivial
  | some u=>exact AzR.keep (hrep t u hu) (UA.refl _ _) hro (fun _ _=>rfl) (Ext.refl w)
 ·rintro e w' ⟨v,rfl,hpc,AG,BW,us',r,q,mc,hv,hr,hq,_,hrs,_⟩;rw [AvB fn.params.toList 0 (C.mode g) hrd] at hq;cases hq;obtain ⟨r1,r2⟩:=r
  simp only [List.append_nil] at hrs;subst hrs;rw [hrt] at hr;have hv':v=.bool true:=by
   cases us' with
   | nil=>simp_all [Sv]
   | cons u us'=>
    cases us' with
    | cons _ _=>simp_all [Sv]
    | nil=>
     simp only [Sv,RQ,VP,hkb] at hr;cases u with
     | arr e xs=>simp at hr
     | one l=>
      cases l with
      | ptr id off=>grind [Ja,U.cells,L.fits]
      | bool b=>
       simp [Ja,U.cells,L.fits,U.like] at hr;obtain ⟨rfl,_⟩:=hr
       exact hv
      | _=>simp [Ja,U.cells,L.fits] at hr
     | agg cs=>
      grind [U.like]
  refine ⟨by rw [hv'],mc.frame.ext.os,mc.frame.ext.tape,mc.frame.ext.output,mc.frame.ext.size,fun k hk=>mc.frame.keep k hk (fun o=>Fx k o)⟩
end
end Go.Ev
