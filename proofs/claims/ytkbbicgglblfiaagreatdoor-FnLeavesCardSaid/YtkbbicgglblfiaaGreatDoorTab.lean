/- Tables that a program keeps, read out of what a row's condition tells of its variables. -/
import Derived.Test.YtkbbicgglblfiaaGreatDoorSnd39
import Derived.LaidMore
import Derived.OpenShut
import Derived.Carry
import Derived.ChangeOld
import Derived.ChangeVars
import Derived.MakeChecks
namespace Go.Ev
open Go
section
variable {P:Program} {W:World}
def AdM {H:Type} (l:List Int):DataW H:=.agg (l.map fun n=>.lit (.int .u32 n))
theorem AdN:∀ {laid:List (String×DataW Unit)} {ps:List MemPlace},DataW.LaidVars P W laid ps->∀ x,x ∈ laid->∃ g t cs fuel p,P.globalNamed x.1=some g/\(P.globals[g]?).map (·.type)=some t/\W.var? P x.1=some cs/\DataW.trod (fun _=>()) P W 0 (fun _=>true) false fuel t cs.toList=some (x.2,p)
 | [],_,_,x,hx=>by cases hx
 | (n,d)::r,_,h,x,hx=>by
  obtain ⟨g,t,cs,fuel,p,q,h1,h2,h3,h4,h5,_⟩:=h
  rcases List.mem_cons.1 hx with rfl | hx
  ·exact ⟨g,t,cs,fuel,p,h1,h2,h3,h4⟩
  ·exact AdN h5 x hx
theorem AdV {laid:List (String×DataW Unit)} {n:String} {g t e:Nat} {vals:List Int} (hp:(laid.all fun x=>x.2.handleName?.isNone)=true) (hm:(n,AdM vals) ∈ laid) (hg:P.globalNamed n=some g) (ht:(P.globals[g]?).map (·.type)=some t)
  (hu:P.underlying t=some (.array vals.length e)) (he:P.underlying e=some (.int .u32)) (hc:P.cellsOf e=1) (hl:laidMetH P laid W):∀ i,i<vals.length->W.cell? ⟨g,i,none⟩=some (.int .u32 (vals.getD i 0)):=by
 rw [MakeChecks.laidMetH_plain _ _ _ hp] at hl;obtain ⟨ps,hv,_,_⟩:=hl
 obtain ⟨g',t',cs,fuel,p,h1,h2,h3,h4⟩:=AdN hv _ hm
 obtain rfl:=Option.some.inj (hg.symm.trans h1);obtain rfl:=Option.some.inj (ht.symm.trans h2);intro i hi;obtain ⟨xs,m,_,hx,_,hlen,hel⟩:=DataW.trod_array hu h4
 have h0:=hel i hi;rw [hc,Nat.mul_one] at h0;have hi':i<xs.length:=by omega
 rw [List.getElem?_eq_getElem hi'] at h0;obtain ⟨k,e1,e2,_⟩:=DataW.trod_int he h0
 have hx1:=(Prod.mk.inj hx).1;simp only [AdM,DataW.agg.injEq] at hx1;have hk:k=vals.getD i 0:=by have:=congrArg (fun l=>l[i]?) hx1;grind
 have hcell:=World.var?_cell hg h3 i;rw [hcell];have e3:=congrArg (fun l=>l[0]?) e1;grind
theorem look_in {α:Type} {d:α}:∀ {l:List (Nat×α)} {g:Nat},(g,look l g d) ∈ l\/look l g d=d
 | [],g=>.inr rfl
 | (k,x)::l,g=>by
  unfold look;split;·rename_i h;have:=Ea h;subst this;exact .inl (List.mem_cons_self ..)
  ·rcases look_in (d:=d) (l:=l) (g:=g) with h | h
   ·exact .inl (List.mem_cons_of_mem _ h)
   ·exact .inr h
theorem Adl {Kz:List (Nat×aX)} {els:List (Nat×Ws)} {ents:List (EL (EH els))} {modes:List (Nat×List Mode')} {cuts:List (Nat×List (Nat×(List Nat×List Nat×List (Nat×Nat)×List (Nat×Nat×Nat))))} {tabs:List (Nat×(Nat×List Int))} {pm:Perm} {fns:List Nat}
  (h:∀ p,p ∈ tabs->∀ i,i<p.2.2.length->W.cell? ⟨p.1,i,none⟩=some (.int .u32 (p.2.2.getD i 0))) (h8:∀ i,i<pm.cl.length->W.cell? ⟨pm.cb,pm.co+i,none⟩=some (.int .u8 (pm.cl.getD i 0))):JX (mkCtx els Kz ents modes cuts tabs pm fns) W (IX (mkCtx els Kz ents modes cuts tabs pm fns) [] (fun _=>none)):=by
 refine ⟨fun g i hi=>?_,fun g _ o ⟨i,off,h,_⟩=>h,h8,fun _ o ⟨i,off,h,_⟩=>h⟩;have e:(mkCtx els Kz ents modes cuts tabs pm fns).tab g=look tabs g (0,[]):=rfl;rw [e] at hi ⊢;rcases look_in (d:=((0,[]):Nat×List Int)) (l:=tabs) (g:=g) with h1 | h1
 ·exact h _ h1 i hi
 simp_all
theorem AdZ {H:Type} {enc:TypeId×Value->H} {W':World} (hl:laidOutB P=true) (hb:Go.RowKit.Below W.heap.size W W') {n:String} {g t:Nat} (hg:P.globalNamed n=some g) (ht:(P.globals[g]?).map (·.type)=some t) (hr:P.readableRec t=true)
  (hs:t<P.types.size) {gs:List (DataW H)} {ps:List MemPlace} (h:DataW.TrodVars enc P W (fun _=>true) [n] gs ps) :
  ∃ d ps',gs=[d]/\DataW.TrodVars enc P W' (fun b=>decide (b<W.heap.size)) [n] [d] ps':=by
 have hlt:=h.lt;obtain ⟨g',t',cs,fuel,d,p,rfl,h1,h2,h3,h4,rfl⟩:=Go.ChangeShapes.trodVars_one h
 obtain rfl:=Option.some.inj (hg.symm.trans h1);obtain rfl:=Option.some.inj (ht.symm.trans h2);have hp:∀ x,x ∈ p->x.block<W.heap.size:=fun x hx=>hlt x (List.mem_append_right _ hx)
 have hv:W'.var? P n=some cs:=by
  have hgl:g<W.heap.size:=by grind [World.var?]
  simp only [World.var?,hg,AP] at h3 ⊢;rw [hb.block g hgl];exact h3
 exact ⟨d,_,rfl,Go.ChangeShapes.trodVars_mk1 hg ht hv (DataW.trod_stays (kids_book hl hr) (book_sized hr) (fun h=>by cases h) ⟨hs,book_self t⟩ h4 (fun x hx=>hb.same (hp x hx)) (fun x hx=>by simp_all))⟩
theorem AdS {C:Ctx} {w:World} {ro:Nat->Prop} {e:Nat} (hE:C.El e=Int) (henc:∀ x:C.El e,(C.Aw e).enc x=[.int .u8 (hE ▸ x)]) (hsz:(C.ti e).size=1) {xs:List (C.El e)} {v:Value} (h:Rep C w ro (.BG e xs) v) :
  ∃ pm:Perm,v=.slice pm.ca pm.cl.length pm.cc/\(∀ i,i<pm.cl.length->w.cell? ⟨pm.cb,pm.co+i,none⟩=some (.int .u8 (pm.cl.getD i 0)))/\pm.cl.length=xs.length:=by
 cases h with
 | none _ A c=>exact ⟨⟨A,c,0,0,[],fun h=>(h rfl).elim⟩,rfl,fun i hi=>absurd hi (Nat.not_lt_zero _),rfl⟩
 | BG _ _ b off c V hb hl hc hr=>
  refine ⟨⟨some ⟨b,off,none⟩,c,b,off,xs.map fun x=>(hE ▸ x:Int),fun _=>rfl⟩,by simp,fun i hi=>?_,by simp⟩;have hi':i<xs.length:=by simp_all
  have h1:xs[i]?=some xs[i]:=List.getElem?_eq_getElem hi';have h2:((C.Aw e).enc xs[i])[0]?=some (.int .u8 (hE ▸ xs[i])):=by simp_all
  have h3:=hc i _ 0 _ h1 h2;have h4:=hr i _ 0 _ h1 h2;rw [hsz,Nat.mul_one,Nat.add_zero] at h3;generalize hV:V i 0=u at h3 h4;cases h4;simp_all
end
end Go.Ev
