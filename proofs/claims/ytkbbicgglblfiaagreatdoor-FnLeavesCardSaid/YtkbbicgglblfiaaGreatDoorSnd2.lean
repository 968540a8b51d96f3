/- What the evaluator tells of plain operations is what the machine does: loads and parts; then operations that turn no memory. -/
import Derived.Test.YtkbbicgglblfiaaGreatDoorSnd1
namespace Go.Ev
set_option linter.unusedVariables false
set_option linter.unusedSimpArgs false
open Go
section
variable {C:Ctx} {P:Program} {hp:Hp C} {AB:At} {w:World} {ro Ai:Nat->Prop}
theorem AKP (hC:EW C P) {t:Nat} (h:(C.ti t).kind≠.other) (w:World):(sizeOf t).run P w=.ok (C.ti t).size w:=by
 obtain ⟨i,h1,h2,_⟩:=(hC.ty t h).info
 simp_all [sizeOf,typeInfo]
theorem Aur (hC:EW C P) {t:Nat} (h:(C.ti t).kind≠.other) (w:World):∃ i,(typeInfo t).run P w=.ok i w/\i.bytes=(C.ti t).bytes/\i.size=(C.ti t).size:=by
 obtain ⟨i,h1,h2,h3,_⟩:=(hC.ty t h).info
 simp_all [typeInfo]
theorem vk (hC:EW C P) {t:Nat} (h:(C.ti t).kind≠.other) (w:World):(isAgg t).run P w=.ok (bD C t) w:=by
 have hu:=(hC.ty t h).und;unfold isAgg bD;rw [Sem.run_bind];cases hk:(C.ti t).kind with
 | other=>simp_all
 | st fs=>
  rw [hk] at hu;obtain ⟨f,hf,_⟩:=hu
  simp_all [run_underlying]
 | bool=>rw [hk] at hu;rw [run_underlying hu];rfl
 | int k=>rw [hk] at hu;rw [run_underlying hu];rfl
 | str=>rw [hk] at hu;rw [run_underlying hu];rfl
 | ptr e=>rw [hk] at hu;rw [run_underlying hu];rfl
 | sl e=>rw [hk] at hu;rw [run_underlying hu];rfl
 | arr n e=>rw [hk] at hu;rw [run_underlying hu];rfl
theorem Ac1 {b o:Nat} {cs:List (L C.El)} (hc:∀ j l',cs[j]?=some l'->∃ u,w.cell? ⟨b,o+j,none⟩=some u/\KA C hp AB w ro l' u) (off n:Nat) (hn:off+n<=cs.length) :
  ∃ vs:List Value,vs.length=n/\w.rangeAt b (o+off) vs/\∀ (j:Nat) (l':L C.El),((cs.drop off).take n)[j]?=some l'->∃ u:Value,vs[j]?=some u/\KA C hp AB w ro l' u:=by
 induction n generalizing off with
 | zero=>exact ⟨[],rfl,fun j v h=>by simp at h,fun j l' h=>by simp at h⟩
 | succ n ih=>
  obtain ⟨vs,h1,h2,h3⟩:=ih (off+1) (by omega)
  obtain ⟨u,hu,hr⟩:=hc off cs[off] (List.getElem?_eq_getElem (by omega))
  refine ⟨u::vs,by simp [h1],fun j v hj=>?_,fun j l' hj=>?_⟩
  ·cases j with
   | zero=>simp_all
   | succ j=>have:=h2 j v (by assumption);grind
  ·rw [List.drop_eq_getElem_cons (by omega),List.take_succ_cons] at hj;grind
theorem AdH {t:Nat} {cs:List (L C.El)} {off:Nat} {u:U C.El} (h:Pg C t cs off=some u):(C.ti t).kind≠.other:=by grind [Pg]
theorem AdI {t:Nat} {cs:List (L C.El)} {off:Nat} {u:U C.El} (h:Pg C t cs off=some u) :
  (bD C t=true/\off+(C.ti t).size<=cs.length/\u=.agg ((cs.drop off).take (C.ti t).size)/\∃ fs,(C.ti t).kind=.st fs)\/(bD C t=false/\∃ l,cs[off]?=some l/\u=.one l):=by
 unfold Pg at h;unfold bD;cases hk:(C.ti t).kind <;> simp only [hk] at h ⊢
 case st fs=>
  left;split at h;·rename_i hle;cases h;exact ⟨trivial,Nat.le_of_ble_eq_true hle,rfl,fs,rfl⟩
  ·cases h
 all_goals grind [Acw]
theorem flat_get {α β:Type} (f:α->List β) (s:Nat) (hf:∀ x,(f x).length=s):∀ (xs:List α) (j i:Nat) (x:α),xs[j]?=some x->i<s->(xs.flatMap f)[j*s+i]?=(f x)[i]?:=by
 intro xs;induction xs with
 | nil=>simp
 | cons y ys ih=>
  intro j i x h hi;rw [List.flatMap_cons];cases j<;>grind
theorem AET {α β:Type} (f:α->List β) (s:Nat) (hf:∀ x,(f x).length=s) (xs:List α):(xs.flatMap f).length=xs.length*s:=by induction xs<;>grind
theorem AUK {α β:Type} (f:α->List β) (s:Nat) (hf:∀ x,(f x).length=s) (xs:List α) (k:Nat) (l:β) (h:(xs.flatMap f)[k]?=some l):∃ j i x,k=j*s+i/\i<s/\xs[j]?=some x/\(f x)[i]?=some l:=by
 have hk:k<xs.length*s:=by grind [AET]
 have hs:0<s:=by grind
 have hj:k / s<xs.length:=(Nat.div_lt_iff_lt_mul hs).2 hk;have e:k=k / s*s+k % s:=by simp [Nat.mul_comm,Nat.div_add_mod]
 refine ⟨k / s,k % s,xs[k / s],e,Nat.mod_lt _ hs,List.getElem?_eq_getElem hj,?_⟩;rw [<-flat_get f s hf xs (k / s) (k % s) _ (List.getElem?_eq_getElem hj) (Nat.mod_lt _ hs),<-e];exact h
theorem AKQ {e:Nat} (hC:Ph C e) {xs:List (C.El e)} {b o:Nat} {R:Nat->Prop} (hc:∀ (j:Nat) (x:C.El e) (i:Nat) (l:L C.El),xs[j]?=some x->((C.Aw e).enc x)[i]?=some l->∃ v,w.cell? ⟨b,o+(j*(C.ti e).size+i),none⟩=some v/\Rep C w R l v) :
  ∃ vs:List Value,vs.length=xs.length*(C.ti e).size/\w.rangeAt b o vs/\∀ (j:Nat) (x:C.El e) (i:Nat) (l:L C.El),xs[j]?=some x->((C.Aw e).enc x)[i]?=some l->∃ u:Value,vs[j*(C.ti e).size+i]?=some u/\Rep C w R l u:=by
 have FL:∀ k l,(xs.flatMap (C.Aw e).enc)[k]?=some l->∃ v,w.cell? ⟨b,o+k,none⟩=some v/\Rep C w R l v:=by
  intro k l hk;obtain ⟨j,i,x,rfl,_,hx,hl⟩:=AUK _ _ hC.len xs k l hk
  simp_all
 have gen:∀ (fl:List (L C.El)) (o:Nat),(∀ k l,fl[k]?=some l->∃ v,w.cell? ⟨b,o+k,none⟩=some v/\Rep C w R l v)->∃ vs:List Value,vs.length=fl.length/\w.rangeAt b o vs/\∀ (k:Nat) (l:L C.El),fl[k]?=some l->∃ u:Value,vs[k]?=some u/\Rep C w R l u:=by
  intro fl;induction fl with
  | nil=>intro o _;exact ⟨[],rfl,fun j v h=>by simp at h,fun k l h=>by simp at h⟩
  | cons l ls ih=>
   intro o h;obtain ⟨vs,h1,h2,h3⟩:=ih (o+1) (fun k l' hk=>by have:=h (k+1) l' (by assumption);grind)
   obtain ⟨u,hu,hr⟩:=h 0 l rfl
   refine ⟨u::vs,by simp [h1],fun j v hj=>?_,fun k l' hk=>?_⟩
   ·cases j with
    | zero=>simp_all
    | succ j=>have:=h2 j v (by assumption);grind
   grind
 obtain ⟨vs,h1,h2,h3⟩:=gen _ o FL
 refine ⟨vs,by rw [h1,AET _ _ hC.len],h2,fun j x i l hx hl=>?_⟩;have hi:i<(C.ti e).size:=by rw [<-hC.len x];grind
 exact h3 _ l (by rw [flat_get _ _ hC.len xs j i x hx hi];exact hl)
theorem Au5 (hC:EW C P) {t:Nat} {cs:List (L C.El)} {off:Nat} {u:U C.El} (h:Pg C t cs off=some u) {b o:Nat}
  (hc:∀ j l',cs[j]?=some l'->∃ u,w.cell? ⟨b,o+j,none⟩=some u/\KA C hp AB w ro l' u) :
  ∃ v,(Instr.loadAt t (.pointer (some ⟨b,o+off,none⟩))).run P w=.ok v w/\AzR C hp AB w ro u v:=by
 have hk:=AdH h;rcases AdI h with ⟨ha,hle,rfl,fs,hfs⟩ | ⟨ha,l,hl,rfl⟩
 ·obtain ⟨vs,h1,h2,h3⟩:=Ac1 hc off _ hle
  have hu:=(hC.ty t hk).und;rw [hfs] at hu;obtain ⟨f,hf,_⟩:=hu
  obtain ⟨i,hi,hs,_⟩:=(hC.ty t hk).info
  refine ⟨.agg vs.toArray,run_loadAt_mid w b (o+off) t vs _ h2 hf rfl (by simp_all),vs.toArray,rfl,by grind,fun i l hl=>?_⟩;simp_all
 ·obtain ⟨u,h1,h2⟩:=hc off l hl
  refine ⟨u,?_,h2⟩;simp [Instr.loadAt,Instr.sureAddr,loadVar,vk hC hk,ha,h1]
theorem AUT (hC:EW C P) {t:Nat} {cs:List (L C.El)} {off:Nat} {u:U C.El} (h:Pg C t cs off=some u) {arr:Array Value} (hn:arr.size=cs.length)
  (hc:∀ (i:Nat) (l:L C.El),cs[i]?=some l->∃ u,arr[i]?=some u/\KA C hp AB w ro l u) :
  ∃ v,(part t arr off).run P w=.ok v w/\AzR C hp AB w ro u v:=by
 have hk:=AdH h;rcases AdI h with ⟨ha,hle,rfl,_⟩ | ⟨ha,l,hl,rfl⟩
 ·refine ⟨.agg (arr.extract off (off+(C.ti t).size)),by simp [part,vk hC hk,ha,AKP hC hk],_,rfl,by grind,fun i l hl=>?_⟩;grind
 ·obtain ⟨u,h1,h2⟩:=hc off l hl
  exact ⟨u,by simp [part,vk hC hk,ha,h1],h2⟩
structure JX (C:Ctx) (w0:World) (Avn:Nat->Nat->Prop):Prop where
 cell:∀ g i,i<(C.tab g).2.length->w0.cell? ⟨g,i,none⟩=some (.int .u32 ((C.tab g).2.getD i 0))
 free:∀ g,(C.tab g).2≠[]->∀ o,¬ Avn g o
 AU9:∀ i,i<C.pm.cl.length->w0.cell? ⟨C.pm.cb,C.pm.co+i,none⟩=some (.int .u8 (C.pm.cl.getD i 0))
 AVA:C.pm.cl≠[]->∀ o,¬ Avn C.pm.cb o
theorem JX.Acp {w0:World} {Avn:Nat->Nat->Prop} (h:JX C w0 Avn) (m:Mem C w0 Avn hp AB Ai w) (i:Nat) (hi:i<C.pm.cl.length) :
  w.cell? ⟨C.pm.cb,C.pm.co+i,none⟩=some (.int .u8 (C.pm.cl.getD i 0)):=by
 have h0:=h.AU9 i hi;have hb:C.pm.cb<w0.heap.size:=block_lt_of_cell h0;rw [m.frame.cell C.pm.cb (C.pm.co+i) hb (h.AVA (fun e=>by simp_all) (C.pm.co+i))];exact h0
theorem JX.now {w0:World} {Avn:Nat->Nat->Prop} (h:JX C w0 Avn) (m:Mem C w0 Avn hp AB Ai w) (g i:Nat) (hi:i<(C.tab g).2.length) :
  w.cell? ⟨g,i,none⟩=some (.int .u32 ((C.tab g).2.getD i 0)):=by
 have h0:=h.cell g i hi;have hb:g<w0.heap.size:=block_lt_of_cell h0;rw [m.frame.cell g i hb (h.free g (fun e=>by simp_all) i)];exact h0
theorem AT3 {R:Type} {hp:Hp C} {t:Nat} {l:L C.El} {u:U C.El} {F:Hp C->R} {fail:R}:(match AKU C hp t l u with | some h=>when (AKV C hp t l u) (F h) fail | none=>fail)=(match Ayx C hp t l u with | some h=>F h | none=>fail):=by
 have aux:∀ o:Option (Hp C),(match o with | some h=>when true (F h) fail | none=>fail)=(match o with | some h=>F h | none=>fail):=fun o=>by rfl
 cases hk:(C.ti t).kind with
 | arr m e2=>
  simp only [AKU,AKV,hk];cases l with
  | ptr id off=>
   simp only [Ayx];cases look hp id .dead with
   | ar e xs=>
    simp only [hk];cases u with
    | arr e' ys=>
     simp only [cast];by_cases he:e'=e;·subst he;simp only [dite_true];cases Nat.beq off 0 <;> cases Nat.beq e2 e' <;> cases Nat.beq ys.length xs.length <;> cases Nat.beq m ys.length <;> rfl
     simp_all
    | _=>rfl
   | var cs=>
    rfl
   | _=>rfl
  | _=>first | rfl | exact aux _ | (simp only;exact aux _)
 | _=>
  simp_all [AKU,AKV]
theorem AKB {R:Type} {hp:Hp C} {t:Nat} {l:L C.El} {F:U C.El->R} {fail:R}:(match AwW C hp t l with | some u=>when (TJ C t l u) (F u) fail | none=>fail)=(match Og C hp t l with | some u=>F u | none=>fail):=by
 have aux:∀ o:Option (U C.El),(match o with | some u=>when true (F u) fail | none=>fail)=(match o with | some u=>F u | none=>fail):=fun o=>by rfl
 cases hk:(C.ti t).kind with
 | arr n e'=>
  simp only [AwW,Og,TJ,hk];cases l with
  | ptr id off=>
   cases off with
   | zero=>
    simp only;cases look hp id .dead<;>grind [when]
   | succ _=>rfl
  | _=>rfl
 | int k=>
  cases k with
  | u32=>
   cases l with
   | PX g i=>
    grind [AwW,Og,TJ,when]
   | _=>
    simp only [AwW,TJ,hk];exact aux _
  | u8=>
   cases l with
   | TA i=>
    grind [AwW,Og,TJ,when]
   | _=>
    simp only [AwW,TJ,hk];exact aux _
  | _=>
   simp_all [AwW,TJ]
 | _=>
  simp_all [AwW,TJ]
theorem Au6 {hp:Hp C} {t:Nat} {l:L C.El}:Og C hp t l=(match AwW C hp t l with | some u=>when (TJ C t l u) (some u) none | none=>none):=by rw [AKB (F:=fun u=>some u) (fail:=(none:Option (U C.El)))];grind
theorem AKW {env:Env C} {hp:Hp C}:∀ {l:List ResultVar},Sr C env hp l=(match UC C env hp l with | some us=>when (UF C env hp l) (some us) none | none=>none)
 | []=>rfl
 | .tmp t::rs=>by simp only [Sr,UC,UF,AKW (l:=rs)];cases UF C env hp rs <;> cases UC C env hp rs <;> simp only [when,Ar,Aq] <;> (generalize look env t [U.one L.junk]=v;match v with | []=>rfl | [_]=>rfl | _::_::_=>rfl)
 | .cell a t::rs=>by
  simp only [Sr,UC,UF,AKW (l:=rs)];generalize look env a [U.one L.junk]=v;match v with
  | []=>rfl
  | [.one l]=>
   simp only [Au6];cases hl:AwW C hp t l with
   | none=>rfl
   | some u=>cases hlo:TJ C t l u <;> cases UF C env hp rs <;> cases UC C env hp rs <;> simp only [hl,hlo,when,Ar,Aq,Bool.and_true,Bool.and_false,Bool.true_and,Bool.false_and]
  | [.agg _]=>rfl
  | [.arr _ _]=>rfl
  | .one _::_::_=>rfl
  | .agg _::_::_=>rfl
  | .arr _ _::_::_=>rfl
theorem AvY {R:Type} {env:Env C} {hp:Hp C} {l:List ResultVar} {F:List (U C.El)->R} {fail:R}:(match UC C env hp l with | some us=>when (UF C env hp l) (F us) fail | none=>fail)=(match Sr C env hp l with | some us=>F us | none=>fail):=by
 rw [AKW];cases UC C env hp l with
 | none=>rfl
 | some us=>cases UF C env hp l <;> rfl
theorem ATv {R:Type} {f:Nat} {fn:Func} {env:Env C} {hp:Hp C} {ret:List (U C.El)->R} {fail:R}:finish C f fn env hp ret fail=(match Sr C env hp fn.results.toList with
 | some us=>(match Sv C hp fn.resultTypes.toList us,U7 C hp 0 (C.mode f) fn.params.toList with
  | some r,some q=>match nodupB (aj C 0 fn.params.toList++E5 (r.2++q.2)) with
   | true=>ret (r.1++q.1)
   | false=>fail
  | _,_=>fail)
 | none=>fail):=by
 unfold finish;rw [AKW];cases UC C env hp fn.results.toList with
 | none=>rfl
 | some us=>cases UF C env hp fn.results.toList <;> rfl
theorem Acu {w0:World} {Avn:Nat->Nat->Prop} (hC:EW C P) (hT:JX C w0 Avn) (m:Mem C w0 Avn hp AB Ai w) {t:Nat} {l:L C.El} {v:Value} {u:U C.El}
  (h:KA C hp AB w (BK C hp AB w) l v) (hl:Og C hp t l=some u):∃ x,(Instr.loadAt t v).run P w=.ok x w/\AzR C hp AB w (BK C hp AB w) u x:=by
 have gen:∀ {u},(match place C hp l with | some (cs,off)=>Pg C t cs off | none=>none)=some u->∃ x,(Instr.loadAt t v).run P w=.ok x w/\AzR C hp AB w (BK C hp AB w) u x:=by
  intro u hl;split at hl
  ·rename_i cs off hp';obtain ⟨b,o,rfl,hc⟩:=Au7 hC.Aw m h hp'
   exact Au5 hC hl hc
  simp_all
 unfold Og at hl;split at hl
 ·rename_i n e' hk;split at hl
  ·rename_i id;split at hl
   ·rename_i e xs ho;split at hl
    ·rename_i h1 h2;cases hl;have:=Ea h1;subst this;have hn:=Ea h2;obtain ⟨_,b,off,ha,rfl⟩:=h
     have hob:=m.obj id;simp only [OA,ho] at hob;obtain ⟨b',off',ha',hc⟩:=hob
     rw [ha] at ha';cases ha';have hkne:(C.ti t).kind≠.other:=by simp_all
     have hu:=(hC.ty t hkne).und;rw [hk] at hu;obtain ⟨i,hi,hs,hb,z,hz,hzz⟩:=(hC.ty t hkne).info
     have hsz:=(hC.ty t hkne).arr;rw [hk] at hsz;simp only at hsz;obtain ⟨vs,h3,h4,h5⟩:=AKQ (hC.Aw e) (fun j x i l h1 h2=>(hc j x i l h1 h2).2)
     exact ⟨.agg vs.toArray,run_loadAt_mid w b _ t vs _ (by omega) hu rfl (by grind),vs.toArray,rfl,by omega,fun j x i l hx hl=>by
      grind⟩
    simp_all
   simp_all
  simp_all
 ·rename_i hk;split at hl
  ·rename_i g i;split at hl
   ·rename_i hi;cases hl;have hlt:i<(C.tab g).2.length:=Nat.le_of_ble_eq_true hi;have hv:v=.pointer (some ⟨g,i,none⟩):=h;subst hv;have hkne:(C.ti t).kind≠.other:=by simp_all
    refine ⟨_,?_,rfl⟩;simp [Instr.loadAt,Instr.sureAddr,loadVar,vk hC hkne,bD,hk,hT.now m g i hlt]
   simp_all
  grind
 ·rename_i hk;split at hl
  ·rename_i i;split at hl
   ·rename_i hi;cases hl;have hlt:i<C.pm.cl.length:=Nat.le_of_ble_eq_true hi;have hv:v=.pointer (some ⟨C.pm.cb,C.pm.co+i,none⟩):=h;subst hv;have hkne:(C.ti t).kind≠.other:=by simp_all
    refine ⟨_,?_,rfl⟩;simp [Instr.loadAt,Instr.sureAddr,loadVar,vk hC hkne,bD,hk,hT.Acp m i hlt]
   simp_all
  grind
 grind
end
end Go.Ev
