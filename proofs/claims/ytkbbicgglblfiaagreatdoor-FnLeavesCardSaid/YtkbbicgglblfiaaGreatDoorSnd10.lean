/- What the evaluator tells of rows that are built or made is what the machine does. -/
import Derived.Test.YtkbbicgglblfiaaGreatDoorSnd9
namespace Go.Ev
set_option linter.unusedVariables false
set_option linter.unusedSimpArgs false
open Go
section
variable {C:Ctx} {P:Program} {hp:Hp C} {AB:At} {w w':World} {Ai:Nat->Prop} {w0:World} {Avn:Nat->Nat->Prop} {n:Nat} {env:Env C} {a:Act}
variable {γ:Type} {K:Val C.El->Hp C->Option γ} {r:γ} {o:Oper} {AC:Nat->Nat} {call:Nat->List (U C.El)->(List (U C.El)->Option γ)->Option γ}
theorem Ac3 {ro:Nat->Prop}:∀ (ss:List Sh) (ls:List (L C.El)) (vs:List Value),Goes (jf C w ro) ls vs->fitAll ss (KN C ss ls)=true->Goes (Rep C w ro) (KN C ss ls) vs:=by
 intro ss;induction ss with
 | nil=>
  intro ls vs hg hf;cases ls with
  | nil=>
   have:vs=[]:=List.length_eq_zero_iff.1 (by simpa using hg.1);simp_all [KN,Goes.nil]
  | cons l ls=>simp_all [KN,fitAll]
 | cons s ss ih=>
  intro ls vs hg hf;cases ls with
  | nil=>
   simp_all [KN,fitAll]
  | cons l ls=>
   obtain ⟨v,vs',rfl,hv,hg'⟩:=Goes.cons_inv hg
   by_cases hn:∃ e,s=.sl e/\l=.JI
   ·obtain ⟨e,rfl,rfl⟩:=hn
    simp only [KN] at hf ⊢;simp only [fitAll] at hf;split at hf
    ·refine Goes.cons.2 ⟨?_,ih ls vs' hg' hf⟩;rcases hv with ⟨_,rfl⟩ | hv
     ·exact .none _ _ _
     ·cases hv
    simp_all
   ·have he:KN C (s::ss) (l::ls)=l::KN C ss ls:=by cases s <;> cases l <;> first | rfl | grind
    rw [he] at hf ⊢;simp only [fitAll] at hf;split at hf
    ·rename_i hfit;refine Goes.cons.2 ⟨?_,ih ls vs' hg' hf⟩;rcases hv with ⟨rfl,rfl⟩ | hv
     all_goals simp_all [L.fits]
    simp_all
theorem AvV (ss:List Sh):∀ ls:List (L C.El),(KN C ss ls).length=ls.length:=by
 induction ss with
 | nil=>intro ls;rfl
 | cons s ss ih=>intro ls;cases ls with
  | nil=>cases s <;> rfl
  | cons l ls=>
   by_cases hn:∃ e,s=.sl e/\l=.JI;·grind [KN]
   ·have he:KN C (s::ss) (l::ls)=l::KN C ss ls:=by cases s <;> cases l <;> first | rfl | grind
    simp_all
theorem Acz (us:List Value):∀ (vs:List Value) (off k:Nat),(off+us.length<=vs.length)->(TG vs off us)[k]?=if off<=k/\k<off+us.length then us[k - off]? else vs[k]?:=by induction us<;>grind [TG]
def Axl (C:Ctx) (w:World) (R:Nat->Prop) {e:Nat} (xs:List (C.El e)) (vs:List Value):Prop:=
 vs.length=xs.length*(C.ti e).size/\∀ (j:Nat) (x:C.El e) (i:Nat) (l:L C.El),xs[j]?=some x->((C.Aw e).enc x)[i]?=some l->∃ v:Value,vs[j*(C.ti e).size+i]?=some v/\Rep C w R l v
theorem Axl.mono {R R':Nat->Prop} {e:Nat} {xs:List (C.El e)} {vs:List Value} (h:Axl C w R xs vs) (hr:∀ b,R b->R' b):Axl C w R' xs vs:=
 ⟨h.1,fun j x i l h1 h2=>by obtain ⟨v,h3,h4⟩:=h.2 j x i l h1 h2;exact ⟨v,h3,h4.mono hr⟩⟩
theorem Axl.set {R:Nat->Prop} {e:Nat} (hC:Ph C e) {xs:List (C.El e)} {vs:List Value} (h:Axl C w R xs vs) {k:Nat} (hk:k<xs.length) {y:C.El e} {us:List Value} (hu:Goes (Rep C w R) ((C.Aw e).enc y) us) :
  Axl C w R (xs.set k y) (TG vs (k*(C.ti e).size) us):=by
 have Cp:us.length=(C.ti e).size:=by rw [hu.1,hC.len]
 have hfit:k*(C.ti e).size+us.length<=vs.length:=by rw [Cp,h.1,<-Nat.succ_mul];exact Nat.mul_le_mul_right _ hk
 refine ⟨by rw [Auu,h.1];simp,fun j x i l hx hl=>?_⟩;have hi:i<(C.ti e).size:=by rw [<-hC.len x];grind
 rw [Acz _ _ _ _ hfit,Cp];by_cases e1:k=j
 ·subst e1;rw [List.getElem?_set_self hk] at hx;cases hx;rw [if_pos (by omega)];obtain ⟨u,h1,h2⟩:=hu.2 i l hl
  simp_all
 ·rw [List.getElem?_set_ne e1] at hx;rw [if_neg];·exact h.2 j x i l hx hl
  ·rintro ⟨g1,g2⟩;rcases Nat.lt_or_gt_of_ne e1 with hlt | hgt
   ·have:(k+1)*(C.ti e).size<=j*(C.ti e).size:=Nat.mul_le_mul_right _ hlt;grind
   ·have:(j+1)*(C.ti e).size<=k*(C.ti e).size:=Nat.mul_le_mul_right _ hgt;grind
theorem Auv:∀ (ls:List (L C.El)) (dl:Hp C) (q:List (L C.El)×Hp C),freeze C hp dl ls=some q->UR C ls=true:=by
 intro ls;induction ls with
 | nil=>intro _ _ _;rfl
 | cons l ls ih=>
  intro dl q h;simp only [freeze] at h;grind [UR,YP]
theorem AUI {e:Nat} (hC:Ph C e) {ro:Nat->Prop} {place:Nat->Option (Nat×Nat)} (hpl:∀ i,place i=some (i*(C.ti e).size,(C.ti e).size)) :
  ∀ (ps:List (Nat×Operand)) (dl dl':Hp C) (Ai:Nat->Prop) (xs xs':List (C.El e)) (arr:Array Value),
   (∀ p ∈ ps,IB C (dl++hp) AB w ro (CB C env p.2) (a.eval p.2))->Mem C w0 Avn (dl++hp) AB Ai w->Axl C w Ai xs arr.toList->rowsOf C e hp dl xs (parts C env ps)=some (xs',dl')->
   ∃ (AE:Nat->Prop) (arr':Array Value),Instr.fill place arr (ps.map fun (i,x)=>(i,a.eval x))=some arr'/\Mem C w0 Avn (dl'++hp) AB AE w/\UA (dl++hp) (dl'++hp) AB AB/\(∀ b,BK C (dl++hp) AB w b->BK C (dl'++hp) AB w b)/\(∀ b,Ai b->AE b)/\Axl C w AE xs' arr'.toList/\xs'.length=xs.length:=by
 intro ps;induction ps with
 | nil=>
  intro dl dl' Ai xs xs' arr _ m hr h;simp only [parts,rowsOf,Option.some.injEq,Prod.mk.injEq] at h;obtain ⟨rfl,rfl⟩:=h
  exact ⟨Ai,arr,rfl,m,UA.refl _ _,fun _ h=>h,fun _ h=>h,hr,rfl⟩
 | cons p ps ih=>
  intro dl dl' Ai xs xs' arr hall m hr h;obtain ⟨i,y⟩:=p
  simp only [parts] at h;have hy:=hall (i,y) (by simp);simp only at hy;generalize CB C env y=us at h hy;cases us with
  | nil=>grind [rowsOf]
  | cons u us=>
   cases us with
   | cons _ _=>grind [rowsOf]
   | nil=>
    simp only [rowsOf] at h;split at h
    ·rename_i q hq harr hi;have hi:=Nat.le_of_ble_eq_true hi;split at h
     ·rename_i hfit;obtain ⟨ls',GF⟩:=q
      have hj:=Auv _ _ _ hq;have hgc:=AzR.cells hy harr hj;obtain ⟨Fw,g1,g2,g3,g4,g5⟩:=Ac2 _ _ _ _ _ _ m hgc hq
      have hrep:=Ac3 _ _ _ g5 hfit;have henc:=hC.dec _ hfit;rw [<-henc] at hrep;have hset:=(hr.mono g4).set hC hi hrep;have hlen:(a.eval y).cells.size=(C.ti e).size:=by have:=hrep.1;rw [hC.len] at this;omega
      simp only [List.map_cons,Instr.fill,hpl i];have hle:i*(C.ti e).size+(C.ti e).size<=arr.size:=by have:=hr.1;simp only [Array.length_toList] at this;rw [this,<-Nat.succ_mul];exact Nat.mul_le_mul_right _ hi
      rw [if_neg (by grind)]
      obtain ⟨AE,arr',k1,k2,k3,k4,k5,k6,k7⟩:=ih GF dl' Fw _ xs' _ (fun p hp'=>by
       have:=hall p (by simp [hp']);exact IB.keep this g2 (fun _ h=>h) (fun _ _=>rfl) (Ext.refl w)) g1 (by rw [AdB];exact hset) h
      grind [UA.trans]
     ·cases h
    ·cases h
theorem AvW (zero:Array Value) (m k:Nat) (hk:k<m) (hz:0<zero.size):((Array.range m).map (fun k=>zero[k % zero.size]!))[k]?=zero[k % zero.size]?:=by simp_all [Nat.mod_lt]
theorem AUH {e:Nat} (hC:Ph C e) (hs:0<(C.ti e).size) {z:Value} (hz:z.cells.toList=((C.Aw e).enc (C.Aw e).z).map lv) (m:Nat) (R:Nat->Prop) :
  Axl C w R (List.replicate m (C.Aw e).z) ((Array.range (m*(C.ti e).size)).map (fun k=>z.cells[k % z.cells.size]!)).toList:=by
 have hzs:z.cells.size=(C.ti e).size:=by rw [<-Array.length_toList,hz];simp [hC.len]
 refine ⟨by simp,?_⟩
 have:=replicate_zero (w:=w) hC hz (m:=m) (arr:=(Array.range (m*(C.ti e).size)).map (fun k=>z.cells[k % z.cells.size]!)) (fun j i hj hi=>by
  have hlt:j*(C.ti e).size+i<m*(C.ti e).size:=by have:(j+1)*(C.ti e).size<=m*(C.ti e).size:=Nat.mul_le_mul_right _ hj;grind
  grind [Nat.mul_comm,Nat.mul_add_mod,Nat.mod_eq_of_lt]) R
 grind
theorem AKL (hC:EW C P) {t e:Nat} (hk:(C.ti t).kind=.sl e\/∃ n,(C.ti t).kind=.arr n e):0<(C.ti e).size/\∃ z,(∀ w,(zeroValue e).run P w=.ok z w)/\z.cells.toList=((C.Aw e).enc (C.Aw e).z).map lv:=by
 obtain ⟨h1,h2,_,i,z,hi,hz,hzz⟩:=hC.pos e ⟨t,hk⟩
 simp_all [zeroValue,typeInfo]
theorem AuJ (hC:EW C P) (st:St C w0 Avn n env hp AB Ai a w) (t:TypeId) (m:Nat) (ps:Array (Nat×Operand)) (ho:o.op=.buildSlice t m ps) (h:ET C P AC call env hp o K r):Sound C P w0 Avn hp AB a w o K r:=by
 unfold ET at h;rw [ho] at h;simp only [Ci] at h;split at h
 ·rename_i e hk;split at h
  ·rename_i q hq;obtain ⟨h1,h⟩:=AyE h
   have h1:=Nat.le_of_ble_eq_true h1;obtain ⟨hb,h⟩:=QB h
   obtain ⟨hu,hs,hsz⟩:=AzX hC hk
   obtain ⟨_,z,hz,hzz⟩:=AKL hC (.inl hk)
   obtain ⟨xs',dl'⟩:=q
   have hrow:Axl C w Ai (List.replicate m (C.Aw e).z) ((Array.range (m*(C.ti e).size)).map (fun k=>z.cells[k % z.cells.size]!)).toList:=AUH (hC.Aw e) hs hzz m Ai;obtain ⟨AE,arr',g1,g2,g3,g4,g5,g6,g7⟩:=AUI (hC.Aw e) (place:=fun i=>some (i*(C.ti e).size,(C.ti e).size)) (fun _=>rfl) ps.toList [] dl' Ai _ xs' _ (fun p _=>Awr st p.2) st.mem hrow hq
   have hlen:xs'.length=m:=by grind
   have hsize:arr'.size=m*(C.ti e).size:=by have:=g6.1;grind
   have hm:m<=m*(C.ti e).size:=Nat.le_mul_of_pos_right _ hs;intro next Q hn
   have ha:=After.then g2 g3 (fun b hb=>⟨g4 b hb,rfl⟩) (Ext.refl w) (After.row (xs:=xs') (cap:=m) g2 hb (NewAt.alloc w arr' e) (fun j _=>by simp) hsize (by omega) (by omega) (fun j x i l h3 h4=>by
    obtain ⟨v,h5,h6⟩:=g6.2 j x i l h3 h4
    grind))
   rw [hlen] at ha;refine Avs ?_ (hn _ _ _ _ h ha);have hparts:(ps.map fun (i,x)=>(i,a.eval x)).toList=ps.toList.map fun (i,x)=>(i,a.eval x):=by simp
   have hnot:¬ m*(C.ti e).size > 2 ^ 24:=by omega
   by_cases h0:m*(C.ti e).size=0
   ·rw [h0] at g1;have r0:∀ f:Nat->Value,(Array.range 0).map f = #[]:=fun f=>Array.eq_empty_of_size_eq_zero (by simp)
    rw [r0] at g1;simp [execOp,ho,Instr.buildSlice,run_underlying hu,hsz,h0,hparts,r0,g1,newRow]
   ·simp [execOp,ho,Instr.buildSlice,run_underlying hu,hsz,h0,hnot,hz,hparts,g1,newRow]
  ·cases h
 ·cases h
end
end Go.Ev
