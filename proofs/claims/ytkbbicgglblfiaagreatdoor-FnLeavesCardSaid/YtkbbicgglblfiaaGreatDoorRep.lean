/- What the evaluator's values are in the machine's memory. -/
import Derived.Test.YtkbbicgglblfiaaGreatDoorEv
import Derived.Below
import Derived.Deep.MidRow
namespace Go.Ev
open Go
variable (C:Ctx)
inductive Rep (w:World) (ro:Nat->Prop):L C.El->Value->Prop
 | int (k:IntKind) (n:Int):Rep w ro (.int k n) (.int k n)
 | bool (b:Bool):Rep w ro (.bool b) (.bool b)
 | str (s:AA):Rep w ro (.str s) (.string s)
 | none (e:Nat) (A:Option Addr) (c:Nat):Rep w ro (.BG e []) (.slice A 0 c)
 | BG (e:Nat) (xs:List (C.El e)) (b off c:Nat) (V:Nat->Nat->Value):ro b->xs.length<=c->
   (∀ (j:Nat) (x:C.El e) (i:Nat) (l:L C.El),xs[j]?=some x->((C.Aw e).enc x)[i]?=some l->w.cell? ⟨b,off+(j*(C.ti e).size+i),Option.none⟩=some (V j i))->
   (∀ (j:Nat) (x:C.El e) (i:Nat) (l:L C.El),xs[j]?=some x->((C.Aw e).enc x)[i]?=some l->Rep w ro l (V j i))->
   Rep w ro (.BG e xs) (.slice (some ⟨b,off,Option.none⟩) xs.length c)
variable {C}
theorem YU {w w':World} {b o:Nat} (h:w'.heap[b]?=w.heap[b]?):w'.cell? ⟨b,o,none⟩=w.cell? ⟨b,o,none⟩:=by simp_all [World.cell?]
theorem AKY {w w':World} {b o:Nat} (h:w'.heap[b]?=w.heap[b]?):w'.frozen? ⟨b,o,none⟩=w.frozen? ⟨b,o,none⟩:=by simp_all [World.frozen?]
theorem Rep.keep {w w':World} {ro ro':Nat->Prop} {l:L C.El} {v:Value} (h:Rep C w ro l v) (hr:∀ b,ro b->ro' b) (hw:∀ b,ro b->w'.heap[b]?=w.heap[b]?):Rep C w' ro' l v:=by
 induction h with
 | int=>exact .int _ _
 | bool=>exact .bool _
 | str=>exact .str _
 | none=>exact .none _ _ _
 | BG e xs b off c V hb hl hc _ ih=>exact .BG e xs b off c V (hr b hb) hl (fun j x i l h1 h2=>by grind [YU]) ih
structure Ext (w w':World):Prop where
 os:w'.os=w.os
 tape:w'.tape=w.tape
 output:w'.output=w.output
 size:w.heap.size<=w'.heap.size
 shape:∀ (b:Nat) (arr:Array Value) (e:TypeId) (fr:Nat×Nat),w.heap[b]?=some (.cells arr e fr)->∃ arr':Array Value,w'.heap[b]?=some (.cells arr' e fr)/\arr'.size=arr.size
theorem Ext.refl (w:World):Ext w w:=⟨rfl,rfl,rfl,Nat.le_refl _,fun _ arr _ _ h=>⟨arr,h,rfl⟩⟩
theorem Ext.trans {w w1 w2:World} (h:Ext w w1) (k:Ext w1 w2):Ext w w2:=
 ⟨k.os.trans h.os,k.tape.trans h.tape,k.output.trans h.output,Nat.le_trans h.size k.size,fun b arr e fr hb=>by
  obtain ⟨arr1,h1,h2⟩:=h.shape b arr e fr hb
  obtain ⟨A9,h3,h4⟩:=k.shape b arr1 e fr h1
  simp_all⟩
abbrev At:=Nat->Option (Nat×Nat)
section
variable (C)
def live (hp:Hp C) (id:Nat):Prop:=match look hp id .dead with
 | .dead=>False
 | _=>True
def KA (hp:Hp C) (at':At) (w:World) (ro:Nat->Prop):L C.El->Value->Prop
 | .int k n,v=>v=.int k n
 | .bool b,v=>v=.bool b
 | .str s,v=>v=.string s
 | .BG e xs,v=>Rep C w ro (.BG e xs) v
 | .Ns _ _,_=>False
 | .own id,v=>v.oneCell'=true/\Bj hp id=true/\match look hp id .dead with
  | .sl e xs=>match at' id with
   | none=>v=.slice none 0 0
   | some (b,off)=>∃ (cap:Nat) (arr:Array Value) (fr:Nat×Nat),v=.slice (some ⟨b,off,none⟩) xs.length cap/\w.heap[b]?=some (.cells arr e fr)/\arr.size=cap*(C.ti e).size/\xs.length<=cap
  | .io _ xs=>match at' id with
   | none=>∃ (A:Option Addr) (c:Nat),v=.slice A 0 c/\xs=[]
   | some (b,off)=>∃ (cap:Nat),v=.slice (some ⟨b,off,none⟩) xs.length cap/\xs.length<=cap
  | _=>True
 | .sub id o len,v=>v.oneCell'=true/\Bj hp id=true/\match look hp id .dead with
  | .sl e xs=>match at' id with
   | none=>v=.slice none 0 0/\len=0/\o=0
   | some (b,off)=>∃ (cap:Nat) (arr:Array Value) (fr:Nat×Nat) (A:Option Addr),v=.slice A len (cap - o)/\o+len<=xs.length/\w.heap[b]?=some (.cells arr e fr)/\arr.size=cap*(C.ti e).size/\o<=cap/\
     (o<cap->A=some ⟨b,off+o*(C.ti e).size,none⟩)/\(o=cap->∃ a,A=some a)
  | _=>True
 | .JI,v=>v=.slice none 0 0
 | .ptr id o,v=>Bj hp id=true/\∃ (b off:Nat),at' id=some (b,off)/\v=.pointer (some ⟨b,off+o,none⟩)
 | .Ji id i o,v=>(∃ b o,v=.pointer (some ⟨b,o,none⟩))/\Bj hp id=true/\match look hp id .dead with
  | .sl e xs=>∃ (b off:Nat),at' id=some (b,off)/\i<xs.length/\v=.pointer (some ⟨b,off+(i*(C.ti e).size+o),none⟩)
  | .io e xs=>∃ (b off:Nat),at' id=some (b,off)/\i<xs.length/\v=.pointer (some ⟨b,off+(i*(C.ti e).size+o),none⟩)
  | .ar e xs=>∃ (b off:Nat),at' id=some (b,off)/\i<xs.length/\v=.pointer (some ⟨b,off+(i*(C.ti e).size+o),none⟩)
  | _=>True
 | .PW e x o,v=>∃ (b off:Nat) (V:Nat->Value),v=.pointer (some ⟨b,off+o,none⟩)/\ro b/\∀ (i:Nat) (l:L C.El),((C.Aw e).enc x)[i]?=some l->w.cell? ⟨b,off+i,none⟩=some (V i)/\Rep C w ro l (V i)
 | .PX g i,v=>v=.pointer (some ⟨g,i,none⟩)
 | .J4,v=>v=.slice C.pm.ca C.pm.cl.length C.pm.cc
 | .TA i,v=>v=.pointer (some ⟨C.pm.cb,C.pm.co+i,none⟩)
 | .Wq,v=>v=.pointer none
 | .fn f,v=>v=.func (.func f) #[] #[]
 | .any,v=>v.oneCell'=true
 | .junk,_=>True
def AzR (hp:Hp C) (at':At) (w:World) (ro:Nat->Prop):U C.El->Value->Prop
 | .one l,v=>KA C hp at' w ro l v
 | .agg cs,v=>∃ arr:Array Value,v=.agg arr/\arr.size=cs.length/\∀ (i:Nat) (l:L C.El),cs[i]?=some l->∃ u,arr[i]?=some u/\KA C hp at' w ro l u
 | .arr e xs,v=>∃ arr:Array Value,v=.agg arr/\arr.size=xs.length*(C.ti e).size/\∀ (j:Nat) (x:C.El e) (i:Nat) (l:L C.El),xs[j]?=some x->((C.Aw e).enc x)[i]?=some l->∃ u,arr[j*(C.ti e).size+i]?=some u/\Rep C w (fun _=>False) l u
def IB (hp:Hp C) (at':At) (w:World) (ro:Nat->Prop) (us:Val C.El) (v:Value):Prop:=
 match us with
 | [u]=>AzR C hp at' w ro u v
 | us=>∃ arr:Array Value,v=.tuple arr/\arr.size=us.length/\∀ (i:Nat) (u:U C.El),us[i]?=some u->∃ x,arr[i]?=some x/\AzR C hp at' w ro u x
def wr (hp:Hp C) (at':At) (b:Nat):Prop:=∃ id off,live C hp id/\at' id=some (b,off)
def BK (hp:Hp C) (at':At) (w:World) (b:Nat):Prop:=b<w.heap.size/\¬ wr C hp at' b
def OA (hp:Hp C) (at':At) (w:World) (Ai:Nat->Prop) (id:Nat):Prop:=
 match look hp id .dead with
 | .var cs=>∃ (b off:Nat),at' id=some (b,off)/\∀ (j:Nat) (l:L C.El),cs[j]?=some l->w.frozen? ⟨b,off+j,none⟩=false/\∃ v,w.cell? ⟨b,off+j,none⟩=some v/\KA C hp at' w (BK C hp at' w) l v
 | .sl e xs=>match at' id with
  | none=>xs=[]
  | some (b,off)=>off=0/\∃ (cap:Nat) (arr:Array Value) (fr:Nat×Nat),w.heap[b]?=some (.cells arr e fr)/\arr.size=cap*(C.ti e).size/\xs.length<=cap/\cap<=9223372036854775807/\(∀ o,o<arr.size->w.frozen? ⟨b,o,none⟩=false)/\
    ∀ (j:Nat) (x:C.El e) (i:Nat) (l:L C.El),xs[j]?=some x->((C.Aw e).enc x)[i]?=some l->∃ v,w.cell? ⟨b,j*(C.ti e).size+i,none⟩=some v/\Rep C w Ai l v
 | .io e xs=>match at' id with
  | none=>xs=[]
  | some (b,off)=>∀ (j:Nat) (x:C.El e) (i:Nat) (l:L C.El),xs[j]?=some x->((C.Aw e).enc x)[i]?=some l->w.frozen? ⟨b,off+(j*(C.ti e).size+i),none⟩=false/\∃ v,w.cell? ⟨b,off+(j*(C.ti e).size+i),none⟩=some v/\Rep C w (fun _=>False) l v
 | .ar e xs=>∃ (b off:Nat),at' id=some (b,off)/\∀ (j:Nat) (x:C.El e) (i:Nat) (l:L C.El),xs[j]?=some x->((C.Aw e).enc x)[i]?=some l->w.frozen? ⟨b,off+(j*(C.ti e).size+i),none⟩=false/\∃ v,w.cell? ⟨b,off+(j*(C.ti e).size+i),none⟩=some v/\Rep C w (fun _=>False) l v
 | .dead=>True
structure AKZ (w0 w:World) (Avn:Nat->Nat->Prop):Prop where
 ext:Ext w0 w
 keep:∀ b,b<w0.heap.size->(∀ o,¬ Avn b o)->w.heap[b]?=w0.heap[b]?
 cell:∀ b o,b<w0.heap.size->¬ Avn b o->w.cell? ⟨b,o,none⟩=w0.cell? ⟨b,o,none⟩
def VR (Avn:Nat->Nat->Prop) (b off:Nat):AxP C.El->Prop
 | .var cs=>∀ j,j<cs.length->Avn b (off+j)
 | .sl _ _=>∀ o,Avn b o
 | .io e xs=>(∀ j,j<xs.length*(C.ti e).size->Avn b (off+j))/\¬ Avn b (off+xs.length*(C.ti e).size)/\Avn b (off+xs.length*(C.ti e).size+1)
 | .ar e xs=>∀ j,j<xs.length*(C.ti e).size->Avn b (off+j)
 | .dead=>True
structure Mem (w0:World) (Avn:Nat->Nat->Prop) (hp:Hp C) (at':At) (Ai:Nat->Prop) (w:World):Prop where
 obj:∀ id,OA C hp at' w Ai id
 dist:∀ id id' b off off',live C hp id->live C hp id'->at' id=some (b,off)->at' id'=some (b,off')->id=id'
 lt:∀ id b off,live C hp id->at' id=some (b,off)->b<w.heap.size
 old:∀ id b off,live C hp id->at' id=some (b,off)->b<w0.heap.size->(∃ o,Avn b o)/\VR C Avn b off (look hp id .dead)
 Ai:∀ b,Ai b->b<w.heap.size/\¬ wr C hp at' b/\(b<w0.heap.size->∃ o,Avn b o)
 frame:AKZ w0 w Avn
end
section
variable {hp hp':Hp C} {AB at2:At} {w w':World} {ro ro':Nat->Prop}
def FU:AxP C.El->AxP C.El->Prop
 | _,.dead=>True
 | .var cs,.var cs'=>cs'.length=cs.length
 | .sl e xs,.sl e' xs'=>e'=e/\xs'.length=xs.length
 | .io e xs,.io e' xs'=>e'=e/\xs'.length=xs.length
 | .ar e xs,.ar e' xs'=>e'=e/\xs'.length=xs.length
 | _,_=>False
theorem VR.TB {Avn:Nat->Nat->Prop} {b off:Nat} {o o':AxP C.El} (h:VR C Avn b off o) (hs:FU o o'):VR C Avn b off o':=by
 cases o' with
 | dead=>trivial
 | var cs=>cases o <;> simp only [FU] at hs;simp_all [VR]
 | sl e xs=>cases o <;> simp only [FU] at hs;exact h
 | io e xs=>cases o <;> simp only [FU] at hs;grind [VR]
 | ar e xs=>cases o <;> simp only [FU] at hs;grind [VR]
theorem FU.refl (o:AxP C.El):FU o o:=by cases o <;> simp [FU]
structure UA (hp hp':Hp C) (AB at2:At):Prop where
 bound:∀ id,Bj hp id=true->Bj hp' id=true
 TB:∀ id,Bj hp id=true->FU (look hp id .dead) (look hp' id .dead)
 at_:∀ id,Bj hp id=true->at2 id=AB id
theorem UA.refl (hp:Hp C) (AB:At):UA hp hp AB AB:=⟨fun _ h=>h,fun _ _=>FU.refl _,fun _ _=>rfl⟩
theorem KA.keep {l:L C.El} {v:Value} (h:KA C hp AB w ro l v) (hs:UA hp hp' AB at2) (hr:∀ b,ro b->ro' b) (hw:∀ b,ro b->w'.heap[b]?=w.heap[b]?) (he:Ext w w') :
  KA C hp' at2 w' ro' l v:=by
 cases l with
 | int k n=>exact h
 | bool b=>exact h
 | str s=>exact h
 | Ns e xs=>exact h
 | JI=>exact h
 | PX g i=>exact h
 | J4=>exact h
 | TA i=>exact h
 | Wq=>exact h
 | fn f=>exact h
 | any=>exact h
 | junk=>trivial
 | BG e xs=>exact Rep.keep h hr hw
 | PW e x o=>
  obtain ⟨b,off,V,rfl,hb,hV⟩:=h
  exact ⟨b,off,V,rfl,hr b hb,fun i l hl=>⟨by grind [YU],Rep.keep (hV i l hl).2 hr hw⟩⟩
 | ptr id o=>
  obtain ⟨hb,b,off,ha,rfl⟩:=h
  exact ⟨hs.bound id hb,b,off,by rw [hs.at_ id hb];exact ha,rfl⟩
 | own id=>
  obtain ⟨ho,hb,h⟩:=h
  refine ⟨ho,hs.bound id hb,?_⟩;have Ao:=hs.TB id hb;have hat:=hs.at_ id hb;rw [hat];generalize look hp id .dead=o at h Ao;generalize look hp' id .dead=o' at Ao;cases o' with
  | dead=>trivial
  | var _=>trivial
  | ar _ _=>trivial
  | sl e' xs'=>
   cases o <;> simp only [FU] at Ao;obtain ⟨rfl,hl⟩:=Ao
   cases ha:AB id with
   | none=>simp_all
   | some p=>
    simp only [ha] at h ⊢;obtain ⟨cap,arr,fr,rfl,hh,hsz,hle⟩:=h
    obtain ⟨arr',h1,h2⟩:=he.shape _ _ _ _ hh
    simp_all
  | io e' xs'=>
   cases o <;> simp only [FU] at Ao;grind
 | sub id o len=>
  obtain ⟨ho,hb,h⟩:=h
  refine ⟨ho,hs.bound id hb,?_⟩;have Ao:=hs.TB id hb;have hat:=hs.at_ id hb;rw [hat];generalize look hp id .dead=ob at h Ao;generalize look hp' id .dead=ob' at Ao;cases ob' with
  | dead=>trivial
  | var _=>trivial
  | ar _ _=>trivial
  | io _ _=>trivial
  | sl e' xs'=>
   cases ob <;> simp only [FU] at Ao;obtain ⟨rfl,hl⟩:=Ao
   cases ha:AB id with
   | none=>simp_all
   | some p=>
    simp only [ha] at h ⊢;obtain ⟨cap,arr,fr,A,rfl,hle,hh,hsz,h1,h2,h3⟩:=h
    obtain ⟨arr',h4,h5⟩:=he.shape _ _ _ _ hh
    grind
 | Ji id i o=>
  obtain ⟨ho,hb,h⟩:=h
  refine ⟨ho,hs.bound id hb,?_⟩;have Ao:=hs.TB id hb;have hat:=hs.at_ id hb;generalize look hp id .dead=ob at h Ao;generalize look hp' id .dead=ob' at Ao;cases ob' with
  | dead=>trivial
  | var _=>trivial
  | ar e' xs'=>
   cases ob <;> simp only [FU] at Ao;grind
  | io e' xs'=>
   cases ob <;> simp only [FU] at Ao;grind
  | sl e' xs'=>
   cases ob <;> simp only [FU] at Ao;grind
theorem AzR.keep {u:U C.El} {v:Value} (h:AzR C hp AB w ro u v) (hs:UA hp hp' AB at2) (hr:∀ b,ro b->ro' b) (hw:∀ b,ro b->w'.heap[b]?=w.heap[b]?) (he:Ext w w') :
  AzR C hp' at2 w' ro' u v:=by
 cases u with
 | one l=>exact KA.keep h hs hr hw he
 | agg cs=>
  obtain ⟨arr,rfl,hn,hc⟩:=h
  refine ⟨arr,rfl,hn,fun i l hl=>?_⟩;grind [KA.keep]
 | arr e xs=>
  obtain ⟨arr,rfl,hn,hc⟩:=h
  refine ⟨arr,rfl,hn,fun j x i l hx hl=>?_⟩;obtain ⟨u,h1,h2⟩:=hc j x i l hx hl
  exact ⟨u,h1,Rep.keep h2 (fun _ h=>h) (fun _ h=>h.elim)⟩
theorem IB.keep {us:Val C.El} {v:Value} (h:IB C hp AB w ro us v) (hs:UA hp hp' AB at2) (hr:∀ b,ro b->ro' b) (hw:∀ b,ro b->w'.heap[b]?=w.heap[b]?) (he:Ext w w') :
  IB C hp' at2 w' ro' us v:=by
 unfold IB at h ⊢;grind [AzR.keep]
theorem Awb (id:Nat) (o:AxP C.El) (hp:Hp C):look ((id,o)::hp) id .dead=o:=by simp [look]
theorem Ax3 {id id':Nat} (h:id'≠id) (o:AxP C.El) (hp:Hp C):look ((id,o)::hp) id' .dead=look hp id' .dead:=by grind [Ea,look]
theorem UO (id:Nat) (o:AxP C.El) (hp:Hp C):Bj ((id,o)::hp) id=true:=by simp [Bj]
theorem VQ {id id':Nat} (o:AxP C.El) (hp:Hp C) (h:Bj hp id'=true):Bj ((id,o)::hp) id'=true:=by grind [Bj]
theorem vS {id:Nat} (h:live C hp id):Bj hp id=true:=by
 have:∀ hp:Hp C,Bj hp id=false->look hp id .dead=.dead:=by intro hp;induction hp<;>grind [Bj,look]
 grind [live]
def upd (a:At) (id:Nat) (p:Option (Nat×Nat)):At:=fun i=>if i=id then p else a i
theorem JK (a:At) (id:Nat) (p:Option (Nat×Nat)):upd a id p id=p:=by simp [upd]
theorem upd_ne {a:At} {id i:Nat} (p:Option (Nat×Nat)) (h:i≠id):upd a id p i=a i:=by simp [upd,h]
theorem OA.keep {Ai AH:Nat->Prop} {id:Nat} (h:OA C hp AB w Ai id) (hl:look hp' id .dead=look hp id .dead) (ha:at2 id=AB id) (hs:UA hp hp' AB at2)
  (hb:∀ b off,live C hp id->AB id=some (b,off)->w'.heap[b]?=w.heap[b]?) (hr:∀ b,BK C hp AB w b->BK C hp' at2 w' b/\w'.heap[b]?=w.heap[b]?)
  (hf:∀ b,Ai b->AH b/\w'.heap[b]?=w.heap[b]?) (he:Ext w w'):OA C hp' at2 w' AH id:=by
 unfold OA at h ⊢;rw [hl,ha];have hlv:look hp id .dead≠.dead->live C hp id:=by simp_all [live]
 generalize look hp id .dead=o at h hlv;cases o with
 | dead=>trivial
 | var cs=>
  grind [AKY,YU,KA.keep]
 | sl e xs=>
  have B9:=hlv (by simp);cases ha1:AB id with
  | none=>simp_all
  | some p=>
   obtain ⟨b,off⟩:=p
   simp only [ha1] at h ⊢;have hb':=hb b off B9 ha1;obtain ⟨h0,cap,arr,fr,h1,h2,h3,h4,h5,h6⟩:=h
   refine ⟨h0,cap,arr,fr,by simp_all,h2,h3,h4,fun o ho=>by grind [AKY],fun j x i l hx hl=>?_⟩;grind [YU,Rep.keep]
 | io e xs=>
  have B9:=hlv (by simp);cases ha1:AB id with
  | none=>simp_all
  | some p=>
   obtain ⟨b,off⟩:=p
   simp only [ha1] at h ⊢;have hb':=hb b off B9 ha1;intro j x i l hx hl;obtain ⟨h6,v,h7,h8⟩:=h j x i l hx hl
   exact ⟨by grind [AKY],v,by grind [YU],Rep.keep h8 (fun _ h=>h) (fun _ h=>h.elim)⟩
 | ar e xs=>
  have B9:=hlv (by simp);obtain ⟨b,off,ha1,h⟩:=h
  have hb':=hb b off B9 ha1;refine ⟨b,off,ha1,fun j x i l hx hl=>?_⟩;obtain ⟨h6,v,h7,h8⟩:=h j x i l hx hl
  exact ⟨by grind [AKY],v,by grind [YU],Rep.keep h8 (fun _ h=>h) (fun _ h=>h.elim)⟩
theorem AKZ.AUY {w0:World} {Avn:Nat->Nat->Prop} (h:AKZ w0 w Avn) (he:Ext w w') (hk:∀ b,b<w0.heap.size->(∀ o,¬ Avn b o)->w'.heap[b]?=w.heap[b]?)
  (hc:∀ b o,b<w0.heap.size->¬ Avn b o->w'.cell? ⟨b,o,none⟩=w.cell? ⟨b,o,none⟩):AKZ w0 w' Avn:=
 ⟨h.ext.trans he,fun b hb ho=>(hk b hb ho).trans (h.keep b hb ho),fun b o hb ho=>(hc b o hb ho).trans (h.cell b o hb ho)⟩
theorem Mem.new {w0:World} {Avn:Nat->Nat->Prop} {Ai:Nat->Prop} (h:Mem C w0 Avn hp AB Ai w) (id:Nat) (hid:Bj hp id=false) (o:AxP C.El) (p:Option (Nat×Nat))
  (hp0:∀ b off,p=some (b,off)->w.heap.size<=b/\b<w'.heap.size) (keep:∀ b,b<w.heap.size->w'.heap[b]?=w.heap[b]?) (ext:Ext w w')
  (ok:(∀ b,BK C hp AB w b->BK C ((id,o)::hp) (upd AB id p) w' b)->UA hp ((id,o)::hp) AB (upd AB id p)->OA C ((id,o)::hp) (upd AB id p) w' Ai id) :
  Mem C w0 Avn ((id,o)::hp) (upd AB id p) Ai w'/\UA hp ((id,o)::hp) AB (upd AB id p)/\(∀ b,BK C hp AB w b->BK C ((id,o)::hp) (upd AB id p) w' b/\w'.heap[b]?=w.heap[b]?):=by
 have hne:∀ i,Bj hp i=true->i≠id:=fun i hi e=>by simp_all
 have hst:UA hp ((id,o)::hp) AB (upd AB id p):=⟨fun i hi=>VQ o hp hi,fun i hi=>by simp_all [Ax3,FU.refl],fun i hi=>upd_ne p (hne i hi)⟩
 have hlive:∀ i,i≠id->(live C ((id,o)::hp) i↔live C hp i):=fun i hi=>by simp_all [live,Ax3]
 have hwr:∀ b,b<w.heap.size->wr C ((id,o)::hp) (upd AB id p) b->wr C hp AB b:=by
  rintro b hb ⟨i,off,h1,h2⟩;by_cases e:i=id;·grind [JK]
  ·rw [upd_ne p e] at h2;exact ⟨i,off,(hlive i e).1 h1,h2⟩
 have hro:∀ b,BK C hp AB w b->BK C ((id,o)::hp) (upd AB id p) w' b:=fun b hb=>⟨Nat.lt_of_lt_of_le hb.1 ext.size,fun hw=>hb.2 (hwr b hb.1 hw)⟩
 refine ⟨⟨fun i=>?_,?_,?_,?_,?_,?_⟩,hst,fun b hb=>⟨hro b hb,keep b hb.1⟩⟩
 ·by_cases e:i=id;·simp_all
  ·exact OA.keep (h.obj i) (Ax3 e o hp) (upd_ne p e) hst (fun b off hl ha=>keep b (h.lt i b off hl ha)) (fun b hb=>⟨hro b hb,keep b hb.1⟩) (fun b hb=>⟨hb,keep b (h.Ai b hb).1⟩) ext
 ·intro i i' b off off' hl hl' ha ha';by_cases e:i=id <;> by_cases e':i'=id;·omega
  ·subst e;rw [JK] at ha;rw [upd_ne p e'] at ha';have h1:=(hp0 b off ha).1;have h2:=h.lt i' b off' ((hlive i' e').1 hl') ha';omega
  ·subst e';rw [JK] at ha';rw [upd_ne p e] at ha;have h1:=(hp0 b off' ha').1;have h2:=h.lt i b off ((hlive i e).1 hl) ha;omega
  ·rw [upd_ne p e] at ha;rw [upd_ne p e'] at ha';exact h.dist i i' b off off' ((hlive i e).1 hl) ((hlive i' e').1 hl') ha ha'
 ·intro i b off hl ha;by_cases e:i=id;·simp_all [JK]
  ·rw [upd_ne p e] at ha;exact Nat.lt_of_lt_of_le (h.lt i b off ((hlive i e).1 hl) ha) ext.size
 ·intro i b off hl ha hb;by_cases e:i=id;·subst e;rw [JK] at ha;have h1:=(hp0 b off ha).1;have h2:=h.frame.ext.size;omega
  ·rw [upd_ne p e] at ha;rw [Ax3 e];exact h.old i b off ((hlive i e).1 hl) ha hb
 ·intro b hb;obtain ⟨h1,h2,h3⟩:=h.Ai b hb
  grind
 ·have h2:=h.frame.ext.size;exact h.frame.AUY ext (fun b hb _=>keep b (by omega)) (fun b o hb _=>YU (keep b (by omega)))
theorem Mem.set {w0:World} {Avn:Nat->Nat->Prop} {Ai:Nat->Prop} (h:Mem C w0 Avn hp AB Ai w) (id:Nat) (hid:Bj hp id=true) (o:AxP C.El) (Ao:FU (look hp id .dead) o) (hlo:live C hp id)
  (keep:∀ b,(∀ off,AB id≠some (b,off))->w'.heap[b]?=w.heap[b]?) (ext:Ext w w')
  (own:∀ b o off,AB id=some (b,off)->b<w0.heap.size->¬ Avn b o->w'.cell? ⟨b,o,none⟩=w.cell? ⟨b,o,none⟩)
  (ok:(∀ b,BK C hp AB w b->BK C ((id,o)::hp) AB w' b)->UA hp ((id,o)::hp) AB AB->OA C ((id,o)::hp) AB w' Ai id) :
  Mem C w0 Avn ((id,o)::hp) AB Ai w'/\UA hp ((id,o)::hp) AB AB/\(∀ b,BK C hp AB w b->BK C ((id,o)::hp) AB w' b/\w'.heap[b]?=w.heap[b]?):=by
 have hst:UA hp ((id,o)::hp) AB AB:=⟨fun i hi=>VQ o hp hi,fun i hi=>by
  grind [Awb,Ax3,FU.refl],fun i hi=>rfl⟩
 have hlive:∀ i,live C ((id,o)::hp) i->live C hp i:=fun i hi=>by grind [live,Ax3]
 have hwr:∀ b,wr C ((id,o)::hp) AB b->wr C hp AB b:=fun b ⟨i,off,h1,h2⟩=>⟨i,off,hlive i h1,h2⟩
 have hnot:∀ b,¬ wr C hp AB b->∀ off,AB id≠some (b,off):=fun b hb off e=>hb ⟨id,off,hlo,e⟩
 have hro:∀ b,BK C hp AB w b->BK C ((id,o)::hp) AB w' b:=fun b hb=>⟨Nat.lt_of_lt_of_le hb.1 ext.size,fun hw=>hb.2 (hwr b hw)⟩
 refine ⟨⟨fun i=>?_,?_,?_,?_,?_,?_⟩,hst,fun b hb=>⟨hro b hb,keep b (hnot b hb.2)⟩⟩
 ·by_cases e:i=id;·simp_all
  ·refine OA.keep (h.obj i) (Ax3 e o hp) rfl hst (fun b off hl ha=>keep b (fun off' ha'=>e (h.dist i id b off off' hl hlo ha ha'))) (fun b hb=>⟨hro b hb,keep b (hnot b hb.2)⟩) (fun b hb=>⟨hb,keep b (hnot b (h.Ai b hb).2.1)⟩) ext
 ·intro i i' b off off' hl hl' ha ha';exact h.dist i i' b off off' (hlive i hl) (hlive i' hl') ha ha'
 ·intro i b off hl ha;exact Nat.lt_of_lt_of_le (h.lt i b off (hlive i hl) ha) ext.size
 ·intro i b off hl ha hb;have:=h.old i b off (hlive i hl) ha hb;by_cases e:i=id;·subst e;rw [Awb];exact ⟨this.1,this.2.TB Ao⟩
  simp_all [Ax3]
 ·intro b hb;obtain ⟨h1,h2,h3⟩:=h.Ai b hb
  exact ⟨Nat.lt_of_lt_of_le h1 ext.size,fun hw=>h2 (hwr b hw),h3⟩
 ·refine h.frame.AUY ext (fun b hb Av=>keep b (fun off ha=>?_)) (fun b o hb Av=>?_)
  ·obtain ⟨o,ho⟩:=(h.old id b off hlo ha hb).1
   simp_all
  grind [YU]
theorem Mem.kill {w0:World} {Avn:Nat->Nat->Prop} {Ai:Nat->Prop} (h:Mem C w0 Avn hp AB Ai w) (id:Nat) (hid:Bj hp id=true) :
  Mem C w0 Avn ((id,.dead)::hp) AB (fun b=>Ai b\/(live C hp id/\∃ off,AB id=some (b,off))) w/\UA hp ((id,.dead)::hp) AB AB/\(∀ b,BK C hp AB w b->BK C ((id,.dead)::hp) AB w b):=by
 have hst:UA hp ((id,.dead)::hp) AB AB:=⟨fun i hi=>VQ _ hp hi,fun i hi=>by
  by_cases e:i=id;·subst e;rw [Awb];cases look hp i .dead <;> trivial
  simp_all [Ax3,FU.refl],fun i hi=>rfl⟩
 have hlive:∀ i,live C ((id,.dead)::hp) i->i≠id/\live C hp i:=fun i hi=>by grind [live,Awb,Ax3]
 have hwr:∀ b,wr C ((id,.dead)::hp) AB b->wr C hp AB b:=fun b ⟨i,off,h1,h2⟩=>⟨i,off,(hlive i h1).2,h2⟩
 have hro:∀ b,BK C hp AB w b->BK C ((id,.dead)::hp) AB w b:=fun b hb=>⟨hb.1,fun hw=>hb.2 (hwr b hw)⟩
 refine ⟨⟨fun i=>?_,?_,?_,?_,?_,h.frame⟩,hst,hro⟩
 ·by_cases e:i=id;·simp_all [OA,Awb]
  ·exact OA.keep (h.obj i) (Ax3 e _ hp) rfl hst (fun _ _ _ _=>rfl) (fun b hb=>⟨hro b hb,rfl⟩) (fun b hb=>⟨.inl hb,rfl⟩) (Ext.refl w)
 ·intro i i' b off off' hl hl' ha ha';exact h.dist i i' b off off' (hlive i hl).2 (hlive i' hl').2 ha ha'
 ·intro i b off hl ha;exact h.lt i b off (hlive i hl).2 ha
 ·intro i b off hl ha hb;rw [Ax3 (hlive i hl).1];exact h.old i b off (hlive i hl).2 ha hb
 ·intro b hb;rcases hb with hb | ⟨hl,off,ha⟩
  ·obtain ⟨h1,h2,h3⟩:=h.Ai b hb
   grind
  ·refine ⟨h.lt id b off hl ha,?_,fun hb=>(h.old id b off hl ha hb).1⟩;rintro ⟨i,off',h1,h2⟩;obtain ⟨hne,hl'⟩:=hlive i h1
   exact hne (h.dist i id b off' off hl' hl h2 ha)
theorem Mem.gen {w0:World} {Avn:Nat->Nat->Prop} {Ai AE:Nat->Prop} (h:Mem C w0 Avn hp AB Ai w) {T:Nat->Prop} (st:UA hp hp' AB at2) (ext:Ext w w')
  (hT:∀ b,T b->wr C hp AB b) (keep:∀ b,b<w.heap.size->¬ T b->w'.heap[b]?=w.heap[b]?) (hwr:∀ b,wr C hp' at2 b->w.heap.size<=b\/wr C hp AB b)
  (C8:∀ b,Ai b->AE b) (FO:∀ b,AE b->Ai b\/(b<w'.heap.size/\¬ wr C hp' at2 b/\(b<w0.heap.size->∃ o,Avn b o)))
  (obj:(∀ b,BK C hp AB w b->BK C hp' at2 w' b/\w'.heap[b]?=w.heap[b]?)->(∀ b,Ai b->w'.heap[b]?=w.heap[b]?)->∀ id,(look hp' id .dead=look hp id .dead/\at2 id=AB id/\(∀ b off,live C hp id->AB id=some (b,off)->¬ T b))\/OA C hp' at2 w' AE id)
  (dist:∀ id id' b off off',live C hp' id->live C hp' id'->at2 id=some (b,off)->at2 id'=some (b,off')->id=id')
  (lt:∀ id b off,live C hp' id->at2 id=some (b,off)->b<w'.heap.size)
  (old:∀ id b off,live C hp' id->at2 id=some (b,off)->b<w0.heap.size->(∃ o,Avn b o)/\VR C Avn b off (look hp' id .dead))
  (own:∀ b o,T b->b<w0.heap.size->¬ Avn b o->w'.cell? ⟨b,o,none⟩=w.cell? ⟨b,o,none⟩) :
  Mem C w0 Avn hp' at2 AE w'/\(∀ b,BK C hp AB w b->BK C hp' at2 w' b/\w'.heap[b]?=w.heap[b]?):=by
 have hro:∀ b,BK C hp AB w b->BK C hp' at2 w' b/\w'.heap[b]?=w.heap[b]?:=fun b hb=>
  ⟨⟨Nat.lt_of_lt_of_le hb.1 ext.size,fun hw=>(hwr b hw).elim (fun hge=>by have:=hb.1;omega) hb.2⟩,keep b hb.1 (fun CA=>hb.2 (hT b CA))⟩
 have hfk:∀ b,Ai b->w'.heap[b]?=w.heap[b]?:=fun b hb=>keep b (h.Ai b hb).1 (fun CA=>(h.Ai b hb).2.1 (hT b CA))
 refine ⟨⟨fun id=>?_,dist,lt,old,?_,?_⟩,hro⟩
 ·rcases obj hro hfk id with ⟨h1,h2,h3⟩ | hok
  ·exact OA.keep (h.obj id) h1 h2 st (fun b off hl ha=>keep b (h.lt id b off hl ha) (h3 b off hl ha)) hro (fun b hb=>⟨C8 b hb,hfk b hb⟩) ext
  omega
 ·intro b hb;rcases FO b hb with hb | hb
  ·obtain ⟨h1,h2,h3⟩:=h.Ai b hb
   grind
  omega
 ·have hsz:=h.frame.ext.size;refine h.frame.AUY ext (fun b hb Av=>keep b (by omega) (fun CA=>?_)) (fun b o hb Av=>?_)
  ·obtain ⟨id,off,hl,ha⟩:=hT b CA
   obtain ⟨⟨o,ho⟩,_⟩:=h.old id b off hl ha hb
   simp_all
  grind [YU]
theorem Mem.move {w0:World} {Avn:Nat->Nat->Prop} {Ai:Nat->Prop} (h:Mem C w0 Avn hp AB Ai w) {id id':Nat} {e:Nat} {xs xs':List (C.El e)} {b0 BB:Nat} (hl:look hp id .dead=.sl e xs) (hb:Bj hp id=true) (hid:Bj hp id'=false) (ha:AB id=some (b0,BB))
  (keep:∀ b,b≠b0->w'.heap[b]?=w.heap[b]?) (ext:Ext w w')
  (ok:UA hp ((id',.sl e xs')::(id,.dead)::hp) AB (upd AB id' (some (b0,BB)))->(∀ b,BK C hp AB w b->BK C ((id',.sl e xs')::(id,.dead)::hp) (upd AB id' (some (b0,BB))) w' b/\w'.heap[b]?=w.heap[b]?)->(∀ b,Ai b->w'.heap[b]?=w.heap[b]?)->
   OA C ((id',.sl e xs')::(id,.dead)::hp) (upd AB id' (some (b0,BB))) w' Ai id') :
  Mem C w0 Avn ((id',.sl e xs')::(id,.dead)::hp) (upd AB id' (some (b0,BB))) Ai w'/\UA hp ((id',.sl e xs')::(id,.dead)::hp) AB (upd AB id' (some (b0,BB)))/\
   (∀ b,BK C hp AB w b->BK C ((id',.sl e xs')::(id,.dead)::hp) (upd AB id' (some (b0,BB))) w' b/\w'.heap[b]?=w.heap[b]?):=by
 have hne:∀ i,Bj hp i=true->i≠id':=fun i hi e=>by simp_all
 have Br:live C hp id:=by simp_all [live]
 have st:UA hp ((id',.sl e xs')::(id,.dead)::hp) AB (upd AB id' (some (b0,BB))):=⟨fun i hi=>VQ _ _ (VQ _ _ hi),fun i hi=>by
  rw [Ax3 (hne i hi)];by_cases e1:i=id;·subst e1;rw [Awb];cases look hp i .dead <;> trivial
  simp_all [Ax3,FU.refl],fun i hi=>upd_ne _ (hne i hi)⟩
 have hlive:∀ i,live C ((id',.sl e xs')::(id,.dead)::hp) i->i=id'\/(i≠id'/\i≠id/\live C hp i):=fun i hi=>by grind [live,Ax3,Awb]
 have Hb:wr C hp AB b0:=⟨id,BB,Br,ha⟩
 obtain ⟨m,hro⟩:=Mem.gen (AE:=Ai) (T:=fun b=>b=b0) h st ext (fun b hb=>by simp_all) (fun b _ hb=>keep b hb)
  (fun b ⟨i,off,h1,h2⟩=>by
   rcases hlive i h1 with rfl | ⟨h3,_,h4⟩
   ·simp_all [JK]
   ·rw [upd_ne _ h3] at h2;exact .inr ⟨i,off,h4,h2⟩)
  (fun _ h=>h) (fun _ h=>.inl h)
  (fun hro hfk i=>by
   by_cases e1:i=id';·simp_all
   ·by_cases e2:i=id;·simp_all [OA,Ax3,Awb]
    ·left;exact ⟨by simp_all [Ax3],upd_ne _ e1,fun b off hl' ha' hb'=>by subst hb';exact e2 (h.dist i id _ off BB hl' Br ha' ha)⟩)
  (fun i i' b off off' h1 h2 h3 h4=>by
   rcases hlive i h1 with e1 | ⟨e1,e2,l1⟩ <;> rcases hlive i' h2 with e3 | ⟨e3,e4,l2⟩
   ·omega
   ·subst e1;rw [JK] at h3;cases h3;rw [upd_ne _ e3] at h4;exact absurd (h.dist i' id _ _ _ l2 Br h4 ha) e4
   ·subst e3;rw [JK] at h4;cases h4;rw [upd_ne _ e1] at h3;exact absurd (h.dist i id _ _ _ l1 Br h3 ha) e2
   ·rw [upd_ne _ e1] at h3;rw [upd_ne _ e3] at h4;exact h.dist i i' b off off' l1 l2 h3 h4)
  (fun i b off h1 h2=>by
   rcases hlive i h1 with rfl | ⟨e1,e2,l1⟩
   ·rw [JK] at h2;cases h2;exact Nat.lt_of_lt_of_le (h.lt id _ _ Br ha) ext.size
   ·rw [upd_ne _ e1] at h2;exact Nat.lt_of_lt_of_le (h.lt i b off l1 h2) ext.size)
  (fun i b off h1 h2 hlt=>by
   rcases hlive i h1 with rfl | ⟨e1,e2,l1⟩
   ·rw [JK] at h2;cases h2;have:=h.old id _ _ Br ha hlt;rw [hl] at this;rw [Awb];exact this
   ·rw [upd_ne _ e1] at h2;rw [Ax3 e1,Ax3 e2];exact h.old i b off l1 h2 hlt)
  (fun b o hb hlt Av=>by
   subst hb;have:=(h.old id _ _ Br ha hlt).2;rw [hl] at this;exact absurd (this o) Av)
 simp_all
end
end Go.Ev
