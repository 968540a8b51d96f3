/- What the evaluator tells of new objects is what the machine does. -/
import Derived.Test.YtkbbicgglblfiaaGreatDoorSnd7
namespace Go.Ev
set_option linter.unusedVariables false
set_option linter.unusedSimpArgs false
open Go
section
variable {C:Ctx} {P:Program} {hp:Hp C} {AB:At} {w w':World} {Ai:Nat->Prop} {w0:World} {Avn:Nat->Nat->Prop} {n:Nat} {env:Env C} {a:Act}
variable {γ:Type} {K:Val C.El->Hp C->Option γ} {r:γ} {o:Oper} {AC:Nat->Nat} {call:Nat->List (U C.El)->(List (U C.El)->Option γ)->Option γ}
structure NewAt (w w':World) (arr:Array Value) (e:TypeId) (fr:Nat×Nat):Prop where
 os:w'.os=w.os
 tape:w'.tape=w.tape
 output:w'.output=w.output
 size:w'.heap.size=w.heap.size+1
 old:∀ b,b<w.heap.size->w'.heap[b]?=w.heap[b]?
 get:w'.heap[w.heap.size]?=some (.cells arr e fr)
theorem NewAt.alloc (w:World) (arr:Array Value) (e:TypeId):NewAt w (w.alloc (.cells arr e)) arr e (0,0):=
 ⟨rfl,rfl,rfl,by simp,fun b hb=>heap_alloc_old w _ b hb,heap_alloc_new w _⟩
theorem NewAt.ext {arr:Array Value} {e:TypeId} {fr:Nat×Nat} (h:NewAt w w' arr e fr):Ext w w':=
 ⟨h.os,h.tape,h.output,by rw [h.size];omega,fun b arr' e' fr' hb=>by
  have hlt:b<w.heap.size:=by grind
  exact ⟨arr',by rw [h.old b hlt];exact hb,rfl⟩⟩
theorem NewAt.cell {arr:Array Value} {e:TypeId} {fr:Nat×Nat} (h:NewAt w w' arr e fr) (j:Nat):w'.cell? ⟨w.heap.size,j,none⟩=arr[j]?:=by simp [World.cell?,h.get]
theorem NewAt.frozen {arr:Array Value} {e:TypeId} {fr:Nat×Nat} (h:NewAt w w' arr e fr) (j:Nat) (hf:¬ (fr.1<=j/\j<fr.2)):w'.frozen? ⟨w.heap.size,j,none⟩=false:=by simp only [World.frozen?,h.get];simp_all
theorem After.fresh (m:Mem C w0 Avn hp AB Ai w) {id:Nat} (hid:Bj hp id=false) {ob:AxP C.El} {arr:Array Value} {e:TypeId} {fr:Nat×Nat} (hn:NewAt w w' arr e fr) {l:L C.El} {v:Value}
  (hok:(∀ b,BK C hp AB w b->BK C ((id,ob)::hp) (upd AB id (some (w.heap.size,0))) w' b)->UA hp ((id,ob)::hp) AB (upd AB id (some (w.heap.size,0)))->OA C ((id,ob)::hp) (upd AB id (some (w.heap.size,0))) w' Ai id)
  (hl:KA C ((id,ob)::hp) (upd AB id (some (w.heap.size,0))) w' (BK C ((id,ob)::hp) (upd AB id (some (w.heap.size,0))) w') l v) :
  After C w0 Avn hp AB w [.one l] [(id,ob)] v w':=by
 obtain ⟨h1,h2,h3⟩:=Mem.new m id hid ob (some (w.heap.size,0)) (fun b off h=>by cases h;exact ⟨Nat.le_refl _,by rw [hn.size];omega⟩) hn.old hn.ext hok
 exact ⟨_,_,h1,hl,h2,h3,hn.ext⟩
theorem After.var (m:Mem C w0 Avn hp AB Ai w) {id:Nat} (hid:Bj hp id=false) {cs:List (L C.El)} {arr:Array Value} {e:TypeId} (hn:NewAt w w' arr e (0,0)) (hg:Goes (KA C hp AB w (BK C hp AB w)) cs arr.toList) :
  After C w0 Avn hp AB w [.one (.ptr id 0)] [(id,.var cs)] (.pointer (some ⟨w.heap.size,0,none⟩)) w':=by
 refine After.fresh m hid hn (fun hro hst=>?_) ⟨UO _ _ _,w.heap.size,0,JK _ _ _,rfl⟩;unfold OA;rw [Awb,JK];refine ⟨w.heap.size,0,rfl,fun j l hl=>⟨by rw [Nat.zero_add];exact hn.frozen j (by simp),?_⟩⟩;obtain ⟨u,h1,h2⟩:=hg.2 j l hl
 exact ⟨u,by rw [Nat.zero_add,hn.cell];simp_all,KA.keep h2 hst hro (fun b hb=>hn.old b hb.1) hn.ext⟩
theorem After.arr (m:Mem C w0 Avn hp AB Ai w) {id e:Nat} (hid:Bj hp id=false) {xs:List (C.El e)} {arr:Array Value} {t:TypeId} (hn:NewAt w w' arr t (0,0))
  (hg:∀ (j:Nat) (x:C.El e) (i:Nat) (l:L C.El),xs[j]?=some x->((C.Aw e).enc x)[i]?=some l->∃ v,arr[j*(C.ti e).size+i]?=some v/\Rep C w (fun _=>False) l v) :
  After C w0 Avn hp AB w [.one (.ptr id 0)] [(id,.ar e xs)] (.pointer (some ⟨w.heap.size,0,none⟩)) w':=by
 refine After.fresh m hid hn (fun hro hst=>?_) ⟨UO _ _ _,w.heap.size,0,JK _ _ _,rfl⟩;unfold OA;rw [Awb,JK];refine ⟨w.heap.size,0,rfl,fun j x i l hx hl=>⟨by rw [Nat.zero_add];exact hn.frozen _ (by simp),?_⟩⟩;obtain ⟨u,h1,h2⟩:=hg j x i l hx hl
 exact ⟨u,by rw [Nat.zero_add,hn.cell];exact h1,h2.keep (fun _ h=>h) (fun _ h=>h.elim)⟩
theorem After.row (m:Mem C w0 Avn hp AB Ai w) {id e:Nat} (hid:Bj hp id=false) {xs:List (C.El e)} {arr:Array Value} {fr:Nat×Nat} {cap:Nat} (hn:NewAt w w' arr e fr) (hf:∀ j,j<arr.size->¬ (fr.1<=j/\j<fr.2))
  (hc:arr.size=cap*(C.ti e).size) (hle:xs.length<=cap) (hcap:cap<=9223372036854775807)
  (hg:∀ (j:Nat) (x:C.El e) (i:Nat) (l:L C.El),xs[j]?=some x->((C.Aw e).enc x)[i]?=some l->∃ v,arr[j*(C.ti e).size+i]?=some v/\Rep C w Ai l v) :
  After C w0 Avn hp AB w [.one (.own id)] [(id,.sl e xs)] (.slice (some ⟨w.heap.size,0,none⟩) xs.length cap) w':=by
 refine After.fresh m hid hn (fun hro hst=>?_) ⟨rfl,UO _ _ _,?_⟩
 ·unfold OA;rw [Awb,JK];refine ⟨rfl,cap,arr,fr,hn.get,hc,hle,hcap,fun j hj=>hn.frozen j (hf j hj),fun j x i l hx hl=>?_⟩;obtain ⟨u,h1,h2⟩:=hg j x i l hx hl
  exact ⟨u,by rw [hn.cell];exact h1,h2.keep (fun _ h=>h) (fun b h=>hn.old b (m.Ai b h).1)⟩
 ·rw [Awb,JK];exact ⟨cap,arr,fr,rfl,hn.get,hc,hle⟩
theorem QB {d:Nat} {x:Option γ} (h:fresh C hp d x none=some r):Bj hp (site d 0)=false/\x=some r:=by grind [fresh]
theorem After.then {w1:World} {h1:Hp C} {at2:At} {AE:Nat->Prop} (m2:Mem C w0 Avn (h1++hp) at2 AE w1) (st:UA hp (h1++hp) AB at2) (ro:∀ b,BK C hp AB w b->BK C (h1++hp) at2 w1 b/\w1.heap[b]?=w.heap[b]?) (ex:Ext w w1)
  {val:Val C.El} {h2:Hp C} {v:Value} {w2:World} (h:After C w0 Avn (h1++hp) at2 w1 val h2 v w2):After C w0 Avn hp AB w val (h2++h1) v w2:=by
 obtain ⟨at3,C7,m3,hv,BT,DH,GG⟩:=h
 rw [<-List.append_assoc] at m3 hv BT DH
 exact ⟨at3,C7,m3,hv,⟨fun i hi=>BT.bound i (st.bound i hi),fun i hi=>by
  have h1:=st.TB i hi;have h2:=BT.TB i (st.bound i hi);revert h1 h2;generalize look hp i .dead=o1;generalize look (h1++hp) i .dead=o2;generalize look (h2++h1++hp) i .dead=o3;intro h1 h2;cases o3 with
  | dead=>assumption
  | var _=>cases o2 <;> simp only [FU] at h2;cases o1 <;> simp only [FU] at h1 ⊢;omega
  | sl _ _=>cases o2 <;> simp only [FU] at h2;cases o1 <;> simp only [FU] at h1 ⊢;omega
  | io _ _=>cases o2 <;> simp only [FU] at h2;cases o1 <;> simp only [FU] at h1 ⊢;omega
  | ar _ _=>cases o2 <;> simp only [FU] at h2;cases o1 <;> simp only [FU] at h1 ⊢;omega,
  fun i hi=>(BT.at_ i (st.bound i hi)).trans (st.at_ i hi)⟩,fun b hb=>⟨(DH b (ro b hb).1).1,((DH b (ro b hb).1).2).trans (ro b hb).2⟩,ex.trans GG⟩
theorem replicate_zero {e:Nat} (hC:Ph C e) {zs:List Value} (hz:zs=((C.Aw e).enc (C.Aw e).z).map lv) {m:Nat} {arr:Array Value} (harr:∀ j i,j<m->i<(C.ti e).size->arr[j*(C.ti e).size+i]?=zs[i]?) (R:Nat->Prop) :
  ∀ (j:Nat) (x:C.El e) (i:Nat) (l:L C.El),(List.replicate m (C.Aw e).z)[j]?=some x->((C.Aw e).enc x)[i]?=some l->∃ v,arr[j*(C.ti e).size+i]?=some v/\Rep C w R l v:=by
 intro j x i l hx hl;have hj:j<m:=by simp_all [List.getElem?_eq_some_iff]
 have hxz:x=(C.Aw e).z:=by simp_all
 subst hxz;have hi:i<(C.ti e).size:=by rw [<-hC.len (C.Aw e).z];grind
 have hplain:=hC.zero l (List.mem_of_getElem? hl);have hfit:∀ (ss:List Sh) (ls:List (L C.El)) (i:Nat) (l:L C.El),fitAll ss ls=true->ls[i]?=some l->(match l with | .int _ _=>True | .bool _=>True | .str _=>True | .BG _ _=>True | _=>False):=by
  intro ss;induction ss with
  | nil=>grind [fitAll]
  | cons s ss ih=>intro ls i l h1 h2;cases ls with
   | nil=>simp at h2
   | cons l' ls=>
    simp only [fitAll] at h1;split at h1
    ·rename_i hf;cases i with
     | zero=>
      simp at h2;subst h2;cases s <;> cases l' <;> simp_all [L.fits]
     | succ i=>grind
    simp_all
 have hk:=hfit _ _ i l (hC.fit _) hl;refine ⟨lv l,by simp_all,?_⟩;cases l <;> simp only at hk <;> simp only [lv];·exact .int _ _
 ·exact .bool _
 ·exact .str _
 ·rename_i e' xs';cases xs' with
  | nil=>exact .none _ _ _
  | cons _ _=>simp_all [PY]
theorem AuG (hC:EW C P) (st:St C w0 Avn n env hp AB Ai a w) (t:TypeId) (ho:o.op=.alloc t) (h:ET C P AC call env hp o K r):Sound C P w0 Avn hp AB a w o K r:=by
 unfold ET at h;rw [ho] at h;simp only [Ci] at h;have go:∀ {z:Value} {i:TypeInfo} {val:Val C.El} {h':Hp C},P.info? t=some i->i.zero=some z->K val h'=some r->After C w0 Avn hp AB w val h' (.pointer (some ⟨w.heap.size,0,none⟩)) (w.alloc (.cells z.cells t))->Sound C P w0 Avn hp AB a w o K r:=by
  intro z i val h' hi hz hk ha next Q hn
  refine Avs ?_ (hn val h' _ _ hk ha);simp_all [execOp,Instr.alloc,zeroValue,typeInfo,newVar,newRow]
 cases hk:(C.ti t).kind with
 | other=>simp_all
 | arr m e=>
  simp only [hk] at h;obtain ⟨hb,h⟩:=QB h
  have hty:=hC.ty t (by simp_all);obtain ⟨i,hi,hs,_,z,hz,hzz⟩:=hty.info
  rw [hk] at hzz;obtain ⟨cs,rfl,hcs⟩:=hzz
  refine go hi hz h (After.arr st.mem hb (NewAt.alloc w _ _) ?_);refine replicate_zero (hC.Aw e) rfl (fun j i' hj hi'=>?_) _;have hfl:(List.replicate m ((C.Aw e).enc (C.Aw e).z)).flatten=(List.replicate m (C.Aw e).z).flatMap (C.Aw e).enc:=by simp [List.flatMap_def]
  rw [hfl] at hcs;have:(Value.cells (.agg cs))[j*(C.ti e).size+i']?=cs.toList[j*(C.ti e).size+i']?:=by simp [Value.cells]
  rw [this,hcs,List.getElem?_map,List.getElem?_map,flat_get _ _ (hC.Aw e).len _ j i' (C.Aw e).z (by simp [hj]) hi']
 | st fs=>
  simp only [hk] at h;obtain ⟨hb,h⟩:=QB h
  have hty:=hC.ty t (by simp_all);obtain ⟨i,hi,hs,_,z,hz,hzz⟩:=hty.info
  rw [hk] at hzz;obtain ⟨cs,rfl,hcs,hpl⟩:=hzz
  refine go hi hz h (After.var st.mem hb (NewAt.alloc w _ _) ⟨by grind [Value.cells],fun i l hl=>⟨lv l,by simp_all [Value.cells],AUQ l (hpl l (List.mem_of_getElem? hl))⟩⟩)
 | _=>
  simp only [hk] at h;obtain ⟨hb,h⟩:=QB h
  have hty:=hC.ty t (by simp_all);obtain ⟨i,hi,hs,_,z,hz,hzz⟩:=hty.info
  rw [hk] at hzz;obtain ⟨hzc,l,hl,hzl,hpl⟩:=hzz
  refine go hi hz h (After.var st.mem hb (NewAt.alloc w _ _) ?_);rw [hl,hzc]
  exact ⟨rfl,fun i l' hl'=>by
   grind [AUQ]⟩
end
end Go.Ev
