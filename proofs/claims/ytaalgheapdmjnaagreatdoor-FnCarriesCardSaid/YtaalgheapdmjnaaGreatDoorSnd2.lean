/- What the evaluator tells of plain operations is what the machine does: loads and parts; then operations that turn no memory. -/
import Derived.Test.YtaalgheapdmjnaaGreatDoorSnd1
namespace Go.Ev
set_option linter.unusedVariables false
set_option linter.unusedSimpArgs false
open Go
section
variable {C:Ctx} {P:Program} {hp:Hp C} {AB:At} {w:World} {ro Af:Nat->Prop}
theorem AHx (hC:EG C P) {t:Nat} (h:(C.ti t).kind≠.other) (w:World):(sizeOf t).run P w=.ok (C.ti t).size w:=by
 obtain ⟨i,h1,h2,_⟩:=(hC.ty t h).info
 simp_all [sizeOf,typeInfo]
theorem AqJ (hC:EG C P) {t:Nat} (h:(C.ti t).kind≠.other) (w:World):∃ i,(typeInfo t).run P w=.ok i w/\i.bytes=(C.ti t).bytes/\i.size=(C.ti t).size:=by
 obtain ⟨i,h1,h2,h3,_⟩:=(hC.ty t h).info
 simp_all [typeInfo]
theorem rC (hC:EG C P) {t:Nat} (h:(C.ti t).kind≠.other) (w:World):(isAgg t).run P w=.ok (ZK C t) w:=by
 have hu:=(hC.ty t h).und;unfold isAgg ZK;rw [Sem.run_bind];cases hk:(C.ti t).kind with
 | other=>simp_all
 | st fs=>
  rw [hk] at hu;obtain ⟨f,hf,_⟩:=hu
  simp_all [run_underlying]
 | bool=>rw [hk] at hu;rw [run_underlying hu];rfl
 | int k=>rw [hk] at hu;rw [run_underlying hu];rfl
 | str=>rw [hk] at hu;rw [run_underlying hu];rfl
 | ptr e=>rw [hk] at hu;rw [run_underlying hu];rfl
 | sl e=>rw [hk] at hu;rw [run_underlying hu];rfl
 | arr n e=>rw [hk] at hu;rw [run_underlying hu];rfl
theorem AZZ {b o:Nat} {cs:List (L C.El)} (hc:∀ j l',cs[j]?=some l'->∃ u,w.cell? ⟨b,o+j,none⟩=some u/\KA C hp AB w ro l' u) (off n:Nat) (hn:off+n<=cs.length) :
  ∃ vs:List Value,vs.length=n/\w.rangeAt b (o+off) vs/\∀ (j:Nat) (l':L C.El),((cs.drop off).take n)[j]?=some l'->∃ u:Value,vs[j]?=some u/\KA C hp AB w ro l' u:=by
 induction n generalizing off with
 | zero=>exact ⟨[],rfl,fun j v h=>by simp at h,fun j l' h=>by simp at h⟩
 | succ n ih=>
  obtain ⟨vs,h1,h2,h3⟩:=ih (off+1) (by omega)
  obtain ⟨u,hu,hr⟩:=hc off cs[off] (List.getElem?_eq_getElem (by omega))
  refine ⟨u::vs,by simp [h1],fun j v hj=>?_,fun j l' hj=>?_⟩
  ·cases j with
   | zero=>simp_all
   | succ j=>have:=h2 j v (by assumption);grind
  ·rw [List.drop_eq_getElem_cons (by omega),List.take_succ_cons] at hj;grind
theorem AZp {t:Nat} {cs:List (L C.El)} {off:Nat} {u:U C.El} (h:Oc C t cs off=some u):(C.ti t).kind≠.other:=by grind [Oc]
theorem AZq {t:Nat} {cs:List (L C.El)} {off:Nat} {u:U C.El} (h:Oc C t cs off=some u) :
  (ZK C t=true/\off+(C.ti t).size<=cs.length/\u=.agg ((cs.drop off).take (C.ti t).size)/\∃ fs,(C.ti t).kind=.st fs)\/(ZK C t=false/\∃ l,cs[off]?=some l/\u=.one l):=by
 unfold Oc at h;unfold ZK;cases hk:(C.ti t).kind <;> simp only [hk] at h ⊢
 case st fs=>
  left;split at h;·rename_i hle;cases h;exact ⟨trivial,Nat.le_of_ble_eq_true hle,rfl,fs,rfl⟩
  ·cases h
 all_goals grind [AZU]
theorem flat_get {α β:Type} (f:α->List β) (s:Nat) (hf:∀ x,(f x).length=s):∀ (xs:List α) (j i:Nat) (x:α),xs[j]?=some x->i<s->(xs.flatMap f)[j*s+i]?=(f x)[i]?:=by
 intro xs;induction xs with
 | nil=>simp
 | cons y ys ih=>
  intro j i x h hi;rw [List.flatMap_cons];cases j<;>grind
theorem ACF {α β:Type} (f:α->List β) (s:Nat) (hf:∀ x,(f x).length=s) (xs:List α):(xs.flatMap f).length=xs.length*s:=by induction xs<;>grind
theorem ARK {α β:Type} (f:α->List β) (s:Nat) (hf:∀ x,(f x).length=s) (xs:List α) (k:Nat) (l:β) (h:(xs.flatMap f)[k]?=some l):∃ j i x,k=j*s+i/\i<s/\xs[j]?=some x/\(f x)[i]?=some l:=by
 have hk:k<xs.length*s:=by grind [ACF]
 have hs:0<s:=by grind
 have hj:k / s<xs.length:=(Nat.div_lt_iff_lt_mul hs).2 hk;have e:k=k / s*s+k % s:=by simp [Nat.mul_comm,Nat.div_add_mod]
 refine ⟨k / s,k % s,xs[k / s],e,Nat.mod_lt _ hs,List.getElem?_eq_getElem hj,?_⟩;rw [<-flat_get f s hf xs (k / s) (k % s) _ (List.getElem?_eq_getElem hj) (Nat.mod_lt _ hs),<-e];exact h
theorem AHy {e:Nat} (hC:Oe C e) {xs:List (C.El e)} {b o:Nat} {R:Nat->Prop} (hc:∀ (j:Nat) (x:C.El e) (i:Nat) (l:L C.El),xs[j]?=some x->((C.Ak e).enc x)[i]?=some l->∃ v,w.cell? ⟨b,o+(j*(C.ti e).size+i),none⟩=some v/\Rep C w R l v) :
  ∃ vs:List Value,vs.length=xs.length*(C.ti e).size/\w.rangeAt b o vs/\∀ (j:Nat) (x:C.El e) (i:Nat) (l:L C.El),xs[j]?=some x->((C.Ak e).enc x)[i]?=some l->∃ u:Value,vs[j*(C.ti e).size+i]?=some u/\Rep C w R l u:=by
 have E6:∀ k l,(xs.flatMap (C.Ak e).enc)[k]?=some l->∃ v,w.cell? ⟨b,o+k,none⟩=some v/\Rep C w R l v:=by
  intro k l hk;obtain ⟨j,i,x,rfl,_,hx,hl⟩:=ARK _ _ hC.len xs k l hk
  simp_all
 have gen:∀ (fl:List (L C.El)) (o:Nat),(∀ k l,fl[k]?=some l->∃ v,w.cell? ⟨b,o+k,none⟩=some v/\Rep C w R l v)->∃ vs:List Value,vs.length=fl.length/\w.rangeAt b o vs/\∀ (k:Nat) (l:L C.El),fl[k]?=some l->∃ u:Value,vs[k]?=some u/\Rep C w R l u:=by
  intro fl;induction fl with
  | nil=>intro o _;exact ⟨[],rfl,fun j v h=>by simp at h,fun k l h=>by simp at h⟩
  | cons l ls ih=>
   intro o h;obtain ⟨vs,h1,h2,h3⟩:=ih (o+1) (fun k l' hk=>by have:=h (k+1) l' (by assumption);grind)
   obtain ⟨u,hu,hr⟩:=h 0 l rfl
   refine ⟨u::vs,by simp [h1],fun j v hj=>?_,fun k l' hk=>?_⟩
   ·cases j with
    | zero=>simp_all
    | succ j=>have:=h2 j v (by assumption);grind
   grind
 obtain ⟨vs,h1,h2,h3⟩:=gen _ o E6
 refine ⟨vs,by rw [h1,ACF _ _ hC.len],h2,fun j x i l hx hl=>?_⟩;have hi:i<(C.ti e).size:=by rw [<-hC.len x];grind
 exact h3 _ l (by rw [flat_get _ _ hC.len xs j i x hx hi];exact hl)
theorem AqX (hC:EG C P) {t:Nat} {cs:List (L C.El)} {off:Nat} {u:U C.El} (h:Oc C t cs off=some u) {b o:Nat}
  (hc:∀ j l',cs[j]?=some l'->∃ u,w.cell? ⟨b,o+j,none⟩=some u/\KA C hp AB w ro l' u) :
  ∃ v,(Instr.loadAt t (.pointer (some ⟨b,o+off,none⟩))).run P w=.ok v w/\Aun C hp AB w ro u v:=by
 have hk:=AZp h;rcases AZq h with ⟨ha,hle,rfl,fs,hfs⟩ | ⟨ha,l,hl,rfl⟩
 ·obtain ⟨vs,h1,h2,h3⟩:=AZZ hc off _ hle
  have hu:=(hC.ty t hk).und;rw [hfs] at hu;obtain ⟨f,hf,_⟩:=hu
  obtain ⟨i,hi,hs,_⟩:=(hC.ty t hk).info
  refine ⟨.agg vs.toArray,run_loadAt_mid w b (o+off) t vs _ h2 hf rfl (by simp_all),vs.toArray,rfl,by grind,fun i l hl=>?_⟩;simp_all
 ·obtain ⟨u,h1,h2⟩:=hc off l hl
  refine ⟨u,?_,h2⟩;simp [Instr.loadAt,Instr.sureAddr,loadVar,rC hC hk,ha,h1]
theorem ARU (hC:EG C P) {t:Nat} {cs:List (L C.El)} {off:Nat} {u:U C.El} (h:Oc C t cs off=some u) {arr:Array Value} (hn:arr.size=cs.length)
  (hc:∀ (i:Nat) (l:L C.El),cs[i]?=some l->∃ u,arr[i]?=some u/\KA C hp AB w ro l u) :
  ∃ v,(part t arr off).run P w=.ok v w/\Aun C hp AB w ro u v:=by
 have hk:=AZp h;rcases AZq h with ⟨ha,hle,rfl,_⟩ | ⟨ha,l,hl,rfl⟩
 ·refine ⟨.agg (arr.extract off (off+(C.ti t).size)),by simp [part,rC hC hk,ha,AHx hC hk],_,rfl,by grind,fun i l hl=>?_⟩;grind
 ·obtain ⟨u,h1,h2⟩:=hc off l hl
  exact ⟨u,by simp [part,rC hC hk,ha,h1],h2⟩
structure JA (C:Ctx) (w0:World) (Ec:Nat->Nat->Prop):Prop where
 cell:∀ g i,i<(C.tab g).2.length->w0.cell? ⟨g,i,none⟩=some (.int .u32 ((C.tab g).2.getD i 0))
 free:∀ g,(C.tab g).2≠[]->∀ o,¬ Ec g o
 AR1:∀ i,i<C.pm.cl.length->w0.cell? ⟨C.pm.cb,C.pm.co+i,none⟩=some (.int .u8 (C.pm.cl.getD i 0))
 AR2:C.pm.cl≠[]->∀ o,¬ Ec C.pm.cb o
theorem JA.AZP {w0:World} {Ec:Nat->Nat->Prop} (h:JA C w0 Ec) (m:Mem C w0 Ec hp AB Af w) (i:Nat) (hi:i<C.pm.cl.length) :
  w.cell? ⟨C.pm.cb,C.pm.co+i,none⟩=some (.int .u8 (C.pm.cl.getD i 0)):=by
 have h0:=h.AR1 i hi;have hb:C.pm.cb<w0.heap.size:=block_lt_of_cell h0;rw [m.frame.cell C.pm.cb (C.pm.co+i) hb (h.AR2 (fun e=>by simp_all) (C.pm.co+i))];exact h0
theorem JA.now {w0:World} {Ec:Nat->Nat->Prop} (h:JA C w0 Ec) (m:Mem C w0 Ec hp AB Af w) (g i:Nat) (hi:i<(C.tab g).2.length) :
  w.cell? ⟨g,i,none⟩=some (.int .u32 ((C.tab g).2.getD i 0)):=by
 have h0:=h.cell g i hi;have hb:g<w0.heap.size:=block_lt_of_cell h0;rw [m.frame.cell g i hb (h.free g (fun e=>by simp_all) i)];exact h0
theorem AQ1 {R:Type} {hp:Hp C} {t:Nat} {l:L C.El} {u:U C.El} {F:Hp C->R} {fail:R}:(match AH2 C hp t l u with | some h=>when (AH3 C hp t l u) (F h) fail | none=>fail)=(match AsK C hp t l u with | some h=>F h | none=>fail):=by
 have aux:∀ o:Option (Hp C),(match o with | some h=>when true (F h) fail | none=>fail)=(match o with | some h=>F h | none=>fail):=fun o=>by rfl
 cases hk:(C.ti t).kind with
 | arr m e2=>
  simp only [AH2,AH3,hk];cases l with
  | ptr id off=>
   simp only [AsK];cases look hp id .dead with
   | ar e xs=>
    simp only [hk];cases u with
    | arr e' ys=>
     simp only [cast];by_cases he:e'=e;·subst he;simp only [dite_true];cases Nat.beq off 0 <;> cases Nat.beq e2 e' <;> cases Nat.beq ys.length xs.length <;> cases Nat.beq m ys.length <;> rfl
     simp_all
    | _=>rfl
   | var cs=>
    rfl
   | _=>rfl
  | _=>first | rfl | exact aux _ | (simp only;exact aux _)
 | _=>
  simp_all [AH2,AH3]
theorem AHj {R:Type} {hp:Hp C} {t:Nat} {l:L C.El} {F:U C.El->R} {fail:R}:(match Ar3 C hp t l with | some u=>when (RZ C t l u) (F u) fail | none=>fail)=(match Nv C hp t l with | some u=>F u | none=>fail):=by
 have aux:∀ o:Option (U C.El),(match o with | some u=>when true (F u) fail | none=>fail)=(match o with | some u=>F u | none=>fail):=fun o=>by rfl
 cases hk:(C.ti t).kind with
 | arr n e'=>
  simp only [Ar3,Nv,RZ,hk];cases l with
  | ptr id off=>
   cases off with
   | zero=>
    simp only;cases look hp id .dead<;>grind [when]
   | succ _=>rfl
  | _=>rfl
 | int k=>
  cases k with
  | u32=>
   cases l with
   | OZ g i=>
    grind [Ar3,Nv,RZ,when]
   | _=>
    simp only [Ar3,RZ,hk];exact aux _
  | u8=>
   cases l with
   | RQ i=>
    grind [Ar3,Nv,RZ,when]
   | _=>
    simp only [Ar3,RZ,hk];exact aux _
  | _=>
   simp_all [Ar3,RZ]
 | _=>
  simp_all [Ar3,RZ]
theorem AqY {hp:Hp C} {t:Nat} {l:L C.El}:Nv C hp t l=(match Ar3 C hp t l with | some u=>when (RZ C t l u) (some u) none | none=>none):=by rw [AHj (F:=fun u=>some u) (fail:=(none:Option (U C.El)))];grind
theorem AH4 {env:Env C} {hp:Hp C}:∀ {l:List ResultVar},RH C env hp l=(match SN C env hp l with | some us=>when (SS C env hp l) (some us) none | none=>none)
 | []=>rfl
 | .tmp t::rs=>by simp only [RH,SN,SS,AH4 (l:=rs)];cases SS C env hp rs <;> cases SN C env hp rs <;> simp only [when,A8,Aw] <;> (generalize look env t [U.one L.junk]=v;match v with | []=>rfl | [_]=>rfl | _::_::_=>rfl)
 | .cell a t::rs=>by
  simp only [RH,SN,SS,AH4 (l:=rs)];generalize look env a [U.one L.junk]=v;match v with
  | []=>rfl
  | [.one l]=>
   simp only [AqY];cases hl:Ar3 C hp t l with
   | none=>rfl
   | some u=>cases hlo:RZ C t l u <;> cases SS C env hp rs <;> cases SN C env hp rs <;> simp only [hl,hlo,when,A8,Aw,Bool.and_true,Bool.and_false,Bool.true_and,Bool.false_and]
  | [.agg _]=>rfl
  | [.arr _ _]=>rfl
  | .one _::_::_=>rfl
  | .agg _::_::_=>rfl
  | .arr _ _::_::_=>rfl
theorem Aqz {R:Type} {env:Env C} {hp:Hp C} {l:List ResultVar} {F:List (U C.El)->R} {fail:R}:(match SN C env hp l with | some us=>when (SS C env hp l) (F us) fail | none=>fail)=(match RH C env hp l with | some us=>F us | none=>fail):=by
 rw [AH4];cases SN C env hp l with
 | none=>rfl
 | some us=>cases SS C env hp l <;> rfl
theorem AQu {R:Type} {f:Nat} {fn:Func} {env:Env C} {hp:Hp C} {ret:List (U C.El)->R} {fail:R}:finish C f fn env hp ret fail=(match RH C env hp fn.results.toList with
 | some us=>(match RI C hp fn.resultTypes.toList us,UE C hp 0 (C.mode f) fn.params.toList with
  | some r,some q=>match nodupB (ZF C 0 fn.params.toList++Ef (r.2++q.2)) with
   | true=>ret (r.1++q.1)
   | false=>fail
  | _,_=>fail)
 | none=>fail):=by
 unfold finish;rw [AH4];cases SN C env hp fn.results.toList with
 | none=>rfl
 | some us=>cases SS C env hp fn.results.toList <;> rfl
theorem AZS {w0:World} {Ec:Nat->Nat->Prop} (hC:EG C P) (hT:JA C w0 Ec) (m:Mem C w0 Ec hp AB Af w) {t:Nat} {l:L C.El} {v:Value} {u:U C.El}
  (h:KA C hp AB w (BD C hp AB w) l v) (hl:Nv C hp t l=some u):∃ x,(Instr.loadAt t v).run P w=.ok x w/\Aun C hp AB w (BD C hp AB w) u x:=by
 have gen:∀ {u},(match place C hp l with | some (cs,off)=>Oc C t cs off | none=>none)=some u->∃ x,(Instr.loadAt t v).run P w=.ok x w/\Aun C hp AB w (BD C hp AB w) u x:=by
  intro u hl;split at hl
  ·rename_i cs off hp';obtain ⟨b,o,rfl,hc⟩:=AqZ hC.Ak m h hp'
   exact AqX hC hl hc
  simp_all
 unfold Nv at hl;split at hl
 ·rename_i n e' hk;split at hl
  ·rename_i id;split at hl
   ·rename_i e xs ho;split at hl
    ·rename_i h1 h2;cases hl;have:=EL h1;subst this;have hn:=EL h2;obtain ⟨_,b,off,ha,rfl⟩:=h
     have hob:=m.obj id;simp only [OA,ho] at hob;obtain ⟨b',off',ha',hc⟩:=hob
     rw [ha] at ha';cases ha';have hkne:(C.ti t).kind≠.other:=by simp_all
     have hu:=(hC.ty t hkne).und;rw [hk] at hu;obtain ⟨i,hi,hs,hb,z,hz,hzz⟩:=(hC.ty t hkne).info
     have hsz:=(hC.ty t hkne).arr;rw [hk] at hsz;simp only at hsz;obtain ⟨vs,h3,h4,h5⟩:=AHy (hC.Ak e) (fun j x i l h1 h2=>(hc j x i l h1 h2).2)
     exact ⟨.agg vs.toArray,run_loadAt_mid w b _ t vs _ (by omega) hu rfl (by grind),vs.toArray,rfl,by omega,fun j x i l hx hl=>by
      grind⟩
    simp_all
   simp_all
  simp_all
 ·rename_i hk;split at hl
  ·rename_i g i;split at hl
   ·rename_i hi;cases hl;have hlt:i<(C.tab g).2.length:=Nat.le_of_ble_eq_true hi;have hv:v=.pointer (some ⟨g,i,none⟩):=h;subst hv;have hkne:(C.ti t).kind≠.other:=by simp_all
    refine ⟨_,?_,rfl⟩;simp [Instr.loadAt,Instr.sureAddr,loadVar,rC hC hkne,ZK,hk,hT.now m g i hlt]
   simp_all
  grind
 ·rename_i hk;split at hl
  ·rename_i i;split at hl
   ·rename_i hi;cases hl;have hlt:i<C.pm.cl.length:=Nat.le_of_ble_eq_true hi;have hv:v=.pointer (some ⟨C.pm.cb,C.pm.co+i,none⟩):=h;subst hv;have hkne:(C.ti t).kind≠.other:=by simp_all
    refine ⟨_,?_,rfl⟩;simp [Instr.loadAt,Instr.sureAddr,loadVar,rC hC hkne,ZK,hk,hT.AZP m i hlt]
   simp_all
  grind
 grind
end
end Go.Ev
