/- What the evaluator tells of appends is what the machine does. -/
import Derived.Test.YtkbbicgglblfiaaGreatDoorSnd13
namespace Go.Ev
open Go
section
variable {C:Ctx} {P:Program} {hp:Hp C} {AB:At} {w w':World} {Ai:Nat->Prop} {w0:World} {Avn:Nat->Nat->Prop} {n:Nat} {env:Env C} {a:Act}
variable {γ:Type} {K:Val C.El->Hp C->Option γ} {r:γ} {o:Oper} {AC:Nat->Nat} {call:Nat->List (U C.El)->(List (U C.El)->Option γ)->Option γ}
theorem Aul (m:Nat):∀ (k c:Nat),256<=c->c<=2*m->Builtin.growBy m k c<=2*m:=by intro k;induction k<;>grind [Builtin.growBy]
theorem Aum {need old:Nat} (h:old<need):Builtin.nextslicecap need old<=2*need:=by grind [Builtin.nextslicecap,Aul]
theorem YR (b:Nat):∀ (vs:List Value) (o:Nat) (w:World),(w.setCells b o vs).heap.size=w.heap.size/\(w.setCells b o vs).os=w.os/\(w.setCells b o vs).tape=w.tape/\(w.setCells b o vs).output=w.output/\
  (∀ k,k≠b->(w.setCells b o vs).heap[k]?=w.heap[k]?)/\(∀ (arr:Array Value) (e:TypeId) (fr:Nat×Nat),w.heap[b]?=some (.cells arr e fr)->∃ arr':Array Value,(w.setCells b o vs).heap[b]?=some (.cells arr' e fr)/\arr'.size=arr.size):=by
 intro vs;induction vs with
 | nil=>intro o w;exact ⟨rfl,rfl,rfl,rfl,fun _ _=>rfl,fun arr e fr h=>⟨arr,h,rfl⟩⟩
 | cons v vs ih=>
  intro o w;obtain ⟨h1,h2,h3,h4,h5,h6⟩:=ih (o+1) (w.setCell ⟨b,o,none⟩ v)
  grind [World.setCells,World.setCell]
theorem bC (b:Nat) (vs:List Value) (o:Nat) (w:World):Ext w (w.setCells b o vs):=by
 obtain ⟨h1,h2,h3,h4,h5,h6⟩:=YR b vs o w
 refine ⟨h2,h3,h4,by omega,fun k arr e fr h=>?_⟩;grind
theorem Axl.each {e:Nat} (hC:Ph C e) {R:Nat->Prop} {xs:List (C.El e)} {vs:List Value} (h:Axl C w R xs vs):∀ v ∈ vs,v.oneCell'=true:=by
 intro v hv;obtain ⟨k,hk,rfl⟩:=List.mem_iff_getElem.1 hv
 have hfl:k<(xs.flatMap (C.Aw e).enc).length:=by rw [AET _ _ hC.len,<-h.1];exact hk
 obtain ⟨j,i,x,hkk,hi,hx,hl⟩:=AUK _ _ hC.len xs k _ (List.getElem?_eq_getElem hfl)
 obtain ⟨v,h1,h2⟩:=h.2 j x i _ hx hl
 rw [<-hkk,List.getElem?_eq_getElem hk] at h1;cases h1;have key:∀ (l:L C.El) (v:Value),Rep C w R l v->v.oneCell'=true:=by intro l v h;cases h <;> rfl
 grind
section run
variable {tS Hv ty e sz m sLen sCap:Nat} {d:TypeDesc} {xv:Value} {vs:List Value} {i:TypeInfo}
theorem AUN (hu:P.underlying tS=some (.slice e)) (Ab:P.underlying Hv=some d) (hd:(∃ e',d=.slice e')\/d=.string) (hsz:(sizeOf e).run P w=.ok sz w) (hlen:(Builtin.lenOf xv).run P w=.ok m w)
  (hx:(Builtin.firstCells sz m xv).run P w=.ok vs.toArray w) (hle:sLen+m<=sCap) {b o:Nat} (hc:∀ j,j<vs.length->(w.cell? ⟨b,o+sLen*sz+j,none⟩).isSome=true) (hf:∀ j,j<vs.length->w.frozen? ⟨b,o+sLen*sz+j,none⟩=false) (h1:∀ v ∈ vs,v.oneCell'=true) :
  (Builtin.append_ #[tS,Hv] ty #[.slice (some ⟨b,o,none⟩) sLen sCap,xv]).run P w=.ok (.slice (some ⟨b,o,none⟩) (sLen+m) sCap) (w.setCells b (o+sLen*sz) vs):=by
 have hst:=run_storeCells_cells (P:=P) b (o+sLen*sz) vs 0 w (by omega) (by omega) h1;rw [Nat.add_zero] at hst;rcases hd with ⟨e',rfl⟩ | rfl
 ·simp [Builtin.append_,run_underlying hu,run_underlying Ab,hsz,hlen,hle,hx,Addr.add_mid,hst]
 ·simp [Builtin.append_,run_underlying hu,run_underlying Ab,hsz,hlen,hle,hx,Addr.add_mid,hst]
theorem Ac6 (hu:P.underlying tS=some (.slice e)) (Ab:P.underlying Hv=some d) (hd:(∃ e',d=.slice e')\/d=.string) (hsz:(sizeOf e).run P w=.ok sz w) (hlen:(Builtin.lenOf xv).run P w=.ok m w)
  (hx:(Builtin.firstCells sz m xv).run P w=.ok vs.toArray w) (hle:sLen+m<=sCap) :
  (Builtin.append_ #[tS,Hv] ty #[.slice none sLen sCap,xv]).run P w=.ok (.slice none (sLen+m) sCap) w:=by
 rcases hd with ⟨e',rfl⟩ | rfl
 ·simp [Builtin.append_,run_underlying hu,run_underlying Ab,hsz,hlen,hle,hx]
 ·simp [Builtin.append_,run_underlying hu,run_underlying Ab,hsz,hlen,hle,hx]
theorem AUM (hu:P.underlying tS=some (.slice e)) (Ab:P.underlying Hv=some d) (hd:(∃ e',d=.slice e')\/d=.string) (hsz:∀ w,(sizeOf e).run P w=.ok sz w) (hlen:(Builtin.lenOf xv).run P w=.ok m w) (hi:∀ w,(typeInfo e).run P w=.ok i w) (hb:0<i.bytes)
  (hx:(Builtin.firstCells sz m xv).run P w.drew=.ok vs.toArray w.drew) {base:Option Addr} {us:List Value} (hs:(Builtin.firstCells sz sLen (.slice base sLen sCap)).run P w.drew=.ok us.toArray w.drew) (hgt:sCap<sLen+m) (hroom:(sLen+m)*i.bytes<=140737488355328) {z:Value} (hz:∀ w,(zeroValue e).run P w=.ok z w) :
  ∃ cap,sLen+m<=cap/\cap<=9223372036854775807/\(Builtin.append_ #[tS,Hv] ty #[.slice base sLen sCap,xv]).run P w=.ok (.slice (some ⟨w.heap.size,0,none⟩) (sLen+m) cap) (w.drew.alloc (.cells (us.toArray++(vs.toArray++Builtin.zeroCells z.cells (cap - (sLen+m)))) e)):=by
 have HB:sLen+m<=140737488355328:=Nat.le_trans (Nat.le_mul_of_pos_right _ hb) hroom;refine ⟨(Question.appendCap (sLen+m) sCap e).cut (w.tape w.drawn (.appendCap (sLen+m) sCap e)),AUO _ _ _ _,Ac7 (by omega),?_⟩;have hfo:(Question.appendCap (sLen+m) sCap e).forced=false:=rfl;have hnot:¬ sLen+m<=sCap:=by omega
 have hnc:¬ Builtin.nextslicecap (sLen+m) sCap*i.bytes > 2 ^ 48:=by have h1:=Aum hgt;have h2:=Nat.mul_le_mul_right i.bytes h1;grind
 have hnb:¬ i.bytes=0:=by omega
 have hnew:∀ arr,(newRow e arr).run P w.drew=.ok ⟨w.heap.size,0,none⟩ (w.drew.alloc (.cells arr e)):=fun _=>rfl
 have hnc':¬ 281474976710656<Builtin.nextslicecap (sLen+m) sCap*i.bytes:=by omega
 rcases hd with ⟨e',rfl⟩ | rfl
 ·simp [Builtin.append_,run_underlying hu,run_underlying Ab,hsz,hlen,hnot,hi,hnb,hnc',hfo,hs,hx,hz,hnew]
 ·simp [Builtin.append_,run_underlying hu,run_underlying Ab,hsz,hlen,hnot,hi,hnb,hnc',hfo,hs,hx,hz,hnew]
end run
theorem Axl.append {e:Nat} (hC:Ph C e) {R:Nat->Prop} {xs ys:List (C.El e)} {us vs:List Value} (h:Axl C w R xs us) (k:Axl C w R ys vs):Axl C w R (xs++ys) (us++vs):=by
 refine ⟨by rw [List.length_append,List.length_append,h.1,k.1,Nat.add_mul],fun j x i l hx hl=>?_⟩;have hi:i<(C.ti e).size:=by rw [<-hC.len x];grind
 rcases Nat.lt_or_ge j xs.length with hlt | hge
 ·rw [List.getElem?_append_left hlt] at hx;obtain ⟨v,h1,h2⟩:=h.2 j x i l hx hl
  grind
 ·rw [List.getElem?_append_right hge] at hx;obtain ⟨v,h1,h2⟩:=k.2 _ x i l hx hl
  refine ⟨v,?_,h2⟩;have hm:xs.length*(C.ti e).size<=j*(C.ti e).size:=Nat.mul_le_mul_right _ hge;rw [List.getElem?_append_right (by rw [h.1];omega),h.1];grind [Nat.sub_mul]
theorem AKJ:∀ (ss:List Sh) (ls:List (L C.El)),Axz ss=true->fitAll ss ls=true->∀ l ∈ ls,∀ e xs,l≠.BG e xs:=by
 intro ss;induction ss with
 | nil=>grind [fitAll]
 | cons s ss ih=>intro ls hp h l hl;cases ls with
  | nil=>simp at hl
  | cons l' ls=>
   simp only [fitAll] at h;split at h
   ·rename_i hf;have hp':Axz ss=true/\∀ e,s≠.sl e:=by cases s <;> first | exact ⟨hp,fun _ h=>by cases h⟩ | cases hp
    rcases List.mem_cons.1 hl with rfl | hl
    ·intro e xs he;subst he;cases s <;> simp [L.fits] at hf;simp_all
    grind
   ·cases h
theorem Axl.plain {e:Nat} (hC:Ph C e) (hp:Axz (C.Aw e).sh=true) {R R':Nat->Prop} {xs:List (C.El e)} {vs:List Value} (h:Axl C w R xs vs):Axl C w R' xs vs:=by
 refine ⟨h.1,fun j x i l hx hl=>?_⟩;obtain ⟨v,h1,h2⟩:=h.2 j x i l hx hl
 have:=AKJ _ _ hp (hC.fit x) l (List.mem_of_getElem? hl);refine ⟨v,h1,?_⟩;cases h2 with
 | int=>exact .int _ _
 | bool=>exact .bool _
 | str=>exact .str _
 | none e A c=>grind
 | BG e xs=>grind
theorem Reads.drew {v:Value} {len:Nat} {vs:List Value} (h:Reads w v len vs):Reads w.drew v len vs:=by assumption
theorem Auk (hC:EW C P) (m:Mem C w0 Avn hp AB Ai w) {l:L C.El} {v:Value} {e:Nat} {ys:List (C.El e)} (hs:0<(C.ti e).size) (h:KA C hp AB w (BK C hp AB w) l v) (hr:jZ C hp e l=some ys) :
  ∃ vs,(∀ w,(Builtin.lenOf v).run P w=.ok ys.length w)/\(Builtin.firstCells (C.ti e).size ys.length v).run P w=.ok vs.toArray w/\(Builtin.firstCells (C.ti e).size ys.length v).run P w.drew=.ok vs.toArray w.drew/\Axl C w Ai ys vs:=by
 have gen:rowOf C hp e l=some ys->(∀ e xs,l≠.BG e xs)\/Axz (C.Aw e).sh=true->∃ vs,(∀ w,(Builtin.lenOf v).run P w=.ok ys.length w)/\(Builtin.firstCells (C.ti e).size ys.length v).run P w=.ok vs.toArray w/\(Builtin.firstCells (C.ti e).size ys.length v).run P w.drew=.ok vs.toArray w.drew/\Axl C w Ai ys vs:=by
  intro hr hpl;obtain ⟨vs,h1,h2⟩:=Ac8 hC m hs h hr
  have hrow:Axl C w Ai ys vs:=by
   rcases hpl with hne | hpl
   ·cases l <;> first | exact h2 | grind
   ·exact h2.plain (hC.Aw e) hpl
  refine ⟨vs,fun w=>?_,h1.first h2.1,h1.drew.first h2.1,hrow⟩;obtain ⟨A,cap,rfl,_⟩:=h1
  rfl
 cases l with
 | str s=>
  simp only [jZ] at hr;split at hr
  ·rename_i hh hi hk;cases hr;have hv:v=.string s:=h;subst hv;have hone:=(hC.ty e (by simp_all)).one;rw [hk] at hone;simp only at hone;have hrow:=Ac9 (w:=w) (hC.Aw e) hi hk hone s Ai;have hlen:(hh ▸ bytesOf s:List (C.El e)).length=s.size:=by grind [AUP]
   have hext:s.extract 0 s.size=s:=by simp
   refine ⟨_,fun w=>by rw [hlen];rfl,?_,?_,hrow⟩;·rw [hlen];simp [Builtin.firstCells];grind
   ·rw [hlen];simp [Builtin.firstCells];grind
  simp_all
 | BG e' xs=>
  simp only [jZ] at hr;split at hr;·rename_i hpl;exact gen hr (.inr hpl)
  simp_all
 | _=>exact gen hr (.inl (fun _ _ h=>by cases h))
end
end Go.Ev
