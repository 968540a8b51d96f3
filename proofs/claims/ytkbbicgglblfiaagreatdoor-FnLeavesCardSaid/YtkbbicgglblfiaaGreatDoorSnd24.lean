/- What is given to a callee, as the callee meets it. -/
import Derived.Test.YtkbbicgglblfiaaGreatDoorSnd23
namespace Go.Ev
open Go
section
variable {C:Ctx} {P:Program} {hp hp2:Hp C} {AB at2:At} {w w':World} {Ai:Nat->Prop} {w0:World} {Avn:Nat->Nat->Prop} {n:Nat} {env:Env C} {a:Act}
def TD (C:Ctx) (hp H:Hp C) (Z:List (Nat×Option (Nat×Nat))) (io:Bool) (l l2:L C.El):Prop:=
 (l2=l/\Same (C:=C) l)\/∃ i id e xs,l2=.own i/\(i,id) ∈ Z/\(i,(if io then AxP.io e xs else AxP.sl e xs)) ∈ H/\From C hp io l id e xs
def AER (C:Ctx) (hp H:Hp C) (Z:List (Nat×Option (Nat×Nat))) (id:Option (Nat×Nat)) (o:AxP C.El):Prop:=
 (∃ io l e xs,From C hp io l id e xs/\o=(if io then AxP.io e xs else AxP.sl e xs)/\Axz (C.Aw e).sh=true)\/
 (∃ j cs cs2 off,id=some (j,off)/\look hp j .dead=.var cs/\o=.var cs2/\off+cs2.length<=cs.length/\0<cs2.length/\∀ (k:Nat) (l2:L C.El),cs2[k]?=some l2->∃ l,cs[off+k]?=some l/\TD C hp H Z false l l2)
theorem AKG (mk:(e:Nat)->List (C.El e)->AxP C.El):∀ (base:Nat) (ls:List (L C.El)),(into C mk base ls).1.length=ls.length:=by
 intro base ls;induction ls generalizing base with
 | nil=>rfl
 | cons l ls ih=>cases l <;> simp [into,ih]
theorem YN {io pl:Bool}:∀ (ss:List Sh) (ls ls':List (L C.El)) (ids:List (Option (Nat×Nat))),Ja C hp io pl ss ls=some (ls',ids)->ls'.length=ls.length:=by intro ss ls ls' ids h;have:=(RP (fun e xs=>AxP.sl e xs) ss ls ls' ids 0 h).1;simp_all [AKG]
theorem jc {hp0:Hp C} {ids:List (Option (Nat×Nat))} {k i:Nat} {o:AxP C.El} (h:hp0[k]?=some (i,o)) (hk:k<ids.length):(i,ids.getD k none) ∈ (hp0.map (·.1)).zip ids:=by refine List.mem_of_getElem? (i:=k) ?_;simp_all [List.getElem?_zip_eq_some]
theorem AUF {io:Bool} {ss:List Sh} {ls ls':List (L C.El)} {ids:List (Option (Nat×Nat))} {base:Nat} (h:Ja C hp io true ss ls=some (ls',ids)) {H:Hp C} {Z:List (Nat×Option (Nat×Nat))}
  (hH:∀ x,x ∈ (into C (if io then AxP.io else AxP.sl) base ls').2->x ∈ H) (hZ:∀ x,x ∈ ((into C (if io then AxP.io else AxP.sl) base ls').2.map (·.1)).zip ids->x ∈ Z) :
  (∀ (k i:Nat) (o:AxP C.El),(into C (if io then AxP.io else AxP.sl) base ls').2[k]?=some (i,o)->AER C hp H Z (ids.getD k none) o)/\
  (∀ (k:Nat) (l2:L C.El),(into C (if io then AxP.io else AxP.sl) base ls').1[k]?=some l2->∃ l,ls[k]?=some l/\TD C hp H Z io l l2):=by
 obtain ⟨g1,g2,g3,g4⟩:=RP (if io then AxP.io else AxP.sl) ss ls ls' ids base h
 have hmk:∀ (e:Nat) (xs:List (C.El e)),(if io then AxP.io else AxP.sl:(e:Nat)->List (C.El e)->AxP C.El) e xs=(if io then AxP.io e xs else AxP.sl e xs):=by grind
 refine ⟨fun k i o hk=>?_,fun k l2 hk=>?_⟩
 ·have hlt:k<ids.length:=by grind
  obtain ⟨l,e,xs,_,h2,h3,h4⟩:=g3 k hlt
  rw [hk] at h2;cases h2;exact .inl ⟨io,l,e,xs,h3,hmk e xs,h4 rfl⟩
 ·obtain ⟨l,h1,h2⟩:=g4 k l2 hk
  refine ⟨l,h1,?_⟩;rcases h2 with h2 | ⟨j,e,xs,h3,h4,h5,h6⟩
  ·exact .inl h2
  ·right;grind [jc]
def wu (C:Ctx) (hp H:Hp C) (Z:List (Nat×Option (Nat×Nat))) (io:Bool):U C.El->U C.El->Prop
 | .one l,.one l2=>TD C hp H Z io l l2
 | .agg cs,.agg cs2=>cs2.length=cs.length/\∀ (k:Nat) (l2:L C.El),cs2[k]?=some l2->∃ l,cs[k]?=some l/\TD C hp H Z io l l2
 | _,_=>False
def AKH (C:Ctx) (hp AF H:Hp C) (Z:List (Nat×Option (Nat×Nat))) (i:Nat) (u:U C.El) (v2:Val C.El):Prop:=
 (∃ id off cs2 cs,u=.one (.ptr id off)/\v2=[.one (.ptr i 0)]/\(i,some (id,off)) ∈ Z/\(i,.var cs2) ∈ H/\look hp id .dead=.var cs/\off+cs2.length<=cs.length/\0<cs2.length/\∀ (k:Nat) (l2:L C.El),cs2[k]?=some l2->∃ l,cs[off+k]?=some l/\TD C hp H Z false l l2)\/
 (∃ io u2,v2=[u2]/\U.TF C u=false/\wu C hp H Z io u u2)\/
 ((∃ e xs,u=.arr e xs/\v2=[.arr e xs])\/∃ f,u=.one (.fn f)/\v2=[.one (.fn f)])\/
 (∃ t r,U.TF C u=false/\SB C AF (RQ C 9 t) (U.cells C u)=some r/\v2=[U.like C u r])
theorem vW {α β:Type} {a1 a2:List α} {b1 b2:List β} (h:a1.length=b1.length):(a1++a2).zip (b1++b2)=a1.zip b1++a2.zip b2:=List.zip_append h
theorem U.AvT {l:L C.El} {cs:List (L C.El)} (h:cs.length=1):∃ l2,cs=[l2]/\U.like C (.one l) cs=.one l2:=by
 match cs,h with
 | [l2],_=>exact ⟨l2,rfl,rfl⟩
theorem Ath {α:Type} {l1 l2:List (Option α)} {k:Nat} (h:k<l1.length):(l1++l2).getD k none=l1.getD k none:=by simp_all [List.getElem?_append_left]
theorem Ati {α:Type} {l1 l2:List (Option α)} {k:Nat} (h:l1.length<=k):(l1++l2).getD k none=l2.getD (k - l1.length) none:=by simp_all [List.getElem?_append_right]
theorem vX {u:U C.El} (ha:U.TF C u=false) {r:List (L C.El)} (h:r.length=(U.cells C u).length) (r2:List (L C.El)):U.cells C (U.like C u r)=r/\U.like C (U.like C u r) r2=U.like C u r2:=by
 cases u with
 | one l=>match r,h with
  | [l2],_=>exact ⟨rfl,rfl⟩
 | agg cs=>exact ⟨rfl,rfl⟩
 | arr e xs=>cases ha
theorem AUE {H:Hp C} {Z:List (Nat×Option (Nat×Nat))} {io:Bool} {u:U C.El} (ha:U.TF C u=false) {r2:List (L C.El)} (h:r2.length=(U.cells C u).length) (hc:∀ (k:Nat) (l2:L C.El),r2[k]?=some l2->∃ l,(U.cells C u)[k]?=some l/\TD C hp H Z io l l2) :
  wu C hp H Z io u (U.like C u r2):=by
 cases u with
 | one l=>match r2,h,hc with
  | [l2],_,hc=>
   obtain ⟨l',h1,h2⟩:=hc 0 l2 rfl
   simp [U.cells] at h1;subst h1;exact h2
 | agg cs=>exact ⟨h,hc⟩
 | arr e xs=>cases ha
theorem AKC {AF:Hp C}:∀ (ts:List Nat) (i:Nat) (ms:List Mode') (vs:List (Val C.El)) (gs:List (Option (U C.El))) (ids:List (Option (Nat×Nat))) (us:List (U C.El)) (q:Env C×Hp C) (H:Hp C) (Z:List (Nat×Option (Nat×Nat))),
  give C hp ms ts vs=some (gs,ids)->hand C AF gs ts vs=some us->enter C i ms ts us=some q->(∀ x,x ∈ q.2->x ∈ H)->(∀ x,x ∈ (q.2.map (·.1)).zip ids->x ∈ Z)->
  q.2.length=ids.length/\(∀ (k i':Nat) (o:AxP C.El),q.2[k]?=some (i',o)->AER C hp H Z (ids.getD k none) o)/\
  (∀ p,p<ts.length->∃ u,vs[p]?=some [u]/\AKH C hp AF H Z (site (i+p) 0) u (look q.1 (i+p) [.one .junk])):=by
 intro ts;induction ts with
 | nil=>
  grind [give,enter]
 | cons t ts ih=>
  intro i ms vs gs ids us q H Z hg hh he hH hZ;match vs,hg with
  | [u]::vs,hg=>
   simp only [give] at hg;split at hg;·cases hg
   ·rename_i q0 hq0;obtain ⟨gs0,Ax⟩:=q0
    have tail:∀ (g:Option (U C.El)) (u2:U C.El) (AJ:List (U C.El)) (q1:Env C×Hp C) (v2:Val C.El) (o1:Hp C) (Bu:List (Option (Nat×Nat))),gs=g::gs0->ids=Bu++Ax->hand C AF gs0 ts vs=some AJ->enter C (i+1) (ms.drop 1) ts AJ=some q1->q=((i,v2)::q1.1,o1++q1.2)->o1.length=Bu.length->
      ((∀ x,x ∈ o1->x ∈ H)->(∀ x,x ∈ (o1.map (·.1)).zip Bu->x ∈ Z)->(∀ (k i':Nat) (o:AxP C.El),o1[k]?=some (i',o)->AER C hp H Z (Bu.getD k none) o)/\AKH C hp AF H Z (site i 0) u v2)->
      q.2.length=ids.length/\(∀ (k i':Nat) (o:AxP C.El),q.2[k]?=some (i',o)->AER C hp H Z (ids.getD k none) o)/\
      (∀ p,p<(t::ts).length->∃ u',([u]::vs)[p]?=some [u']/\AKH C hp AF H Z (site (i+p) 0) u' (look q.1 (i+p) [.one .junk])):=by
     intro g u2 AJ q1 v2 o1 Bu e1 e2 e3 e4 e5 e6 e7;subst e2;subst e5;have hz:((o1++q1.2).map (·.1)).zip (Bu++Ax)=(o1.map (·.1)).zip Bu++(q1.2.map (·.1)).zip Ax:=by grind
     obtain ⟨k1,k2,k3⟩:=ih (i+1) (ms.drop 1) vs gs0 Ax AJ q1 H Z hq0 e3 e4 (fun x hx=>hH x (by simp [hx])) (fun x hx=>hZ x (by grind))
     obtain ⟨k4,k5⟩:=e7 (fun x hx=>hH x (by simp [hx])) (fun x hx=>hZ x (by grind))
     refine ⟨by grind,fun k i' o hk=>?_,fun p hp'=>?_⟩;·grind
     ·cases p with
      | zero=>
       refine ⟨u,rfl,?_⟩;have:look ((i,v2)::q1.1) (i+0) [.one .junk]=v2:=by simp [look]
       grind
      | succ p=>
       obtain ⟨u',k6,k7⟩:=k3 p (by grind)
       grind [look,Ea]
    cases hpt:VP C t with
    | some e=>
     simp only [hpt] at hg;split at hg
     ·rename_i id off;split at hg
      ·rename_i cs hl;split at hg
       ·rename_i r hsz hx;simp only [Option.some.injEq,Prod.mk.injEq] at hg;obtain ⟨rfl,rfl⟩:=hg
        rw [Bool.and_eq_true] at hsz;have hle:=Nat.le_of_ble_eq_true hsz.1;have hpos:0<(C.ti e).size:=Nat.le_of_ble_eq_true hsz.2;obtain ⟨r1,r2⟩:=r
        simp only [hand] at hh;split at hh;·cases hh
        ·rename_i AJ Ay;cases hh;simp only [enter] at he;split at he
         ·rename_i q1 hq1;simp only [hpt] at he;cases he;have hlen:=YN _ _ _ _ hx;have hlen2:(into C .sl (site i 1) r1).1.length=(C.ti e).size:=by grind [AKG]
          have hin:=RP (fun e xs=>AxP.sl e xs) _ _ _ _ (site i 1) hx;refine tail _ (.agg r1) AJ q1 _ ((site i 0,.var (into C .sl (site i 1) r1).1)::(into C .sl (site i 1) r1).2) (some (id,off)::r2) rfl (by simp) Ay hq1 rfl (by grind) (fun hH' B5=>?_);obtain ⟨m1,m2⟩:=AUF (io:=false) (H:=H) (Z:=Z) (base:=site i 1) hx (fun x hx'=>hH' x (by grind)) (fun x hx'=>B5 x (by simp only [Bool.false_eq_true,if_false] at hx';simp [hx']))
          simp only [Bool.false_eq_true,if_false] at m1 m2;have hcell:∀ (k:Nat) (l2:L C.El),(into C .sl (site i 1) r1).1[k]?=some l2->∃ l,cs[off+k]?=some l/\TD C hp H Z false l l2:=fun k l2 hk=>by grind
          refine ⟨fun k i' o hk=>?_,.inl ⟨id,off,_,cs,rfl,rfl,B5 _ (by simp),hH' _ (by simp),hl,by omega,by omega,hcell⟩⟩;cases k with
          | zero=>
           simp only [List.getElem?_cons_zero,Option.some.injEq,Prod.mk.injEq] at hk;obtain ⟨rfl,rfl⟩:=hk
           exact .inr ⟨id,cs,_,off,rfl,hl,rfl,by omega,by omega,hcell⟩
          | succ k=>grind
         grind
       grind
      grind
     grind
    | none=>
     simp only [hpt] at hg;cases hm:ms.headD .rd with
     | rd=>
      simp only [hm,Option.some.injEq,Prod.mk.injEq] at hg;obtain ⟨rfl,rfl⟩:=hg
      simp only [hand] at hh;split at hh;·cases hh
      ·rename_i AJ Ay;split at hh
       ·rename_i e xs;cases hh;simp only [enter] at he;split at he;·rename_i q1 hq1;simp only [hpt,hm] at he;cases he;exact tail _ (.arr e xs) AJ q1 _ [] [] rfl rfl Ay hq1 rfl rfl (fun _ _=>⟨fun k i' o hk=>by simp at hk,.inr (.inr (.inl (.inl ⟨e,xs,rfl,rfl⟩)))⟩)
        grind
       ·rename_i f;cases hh;simp only [enter] at he;split at he;·rename_i q1 hq1;simp only [hpt,hm] at he;cases he;exact tail _ (.one (.fn f)) AJ q1 _ [] [] rfl rfl Ay hq1 rfl rfl (fun _ _=>⟨fun k i' o hk=>by simp at hk,.inr (.inr (.inl (.inr ⟨f,rfl,rfl⟩)))⟩)
        grind
       ·rename_i hne hne2;split at hh
        ·rename_i r hr;cases hh;simp only [enter] at he;split at he;·rename_i q1 hq1;simp only [hpt,hm] at he;cases he;exact tail _ (U.like C u r) AJ q1 _ [] [] rfl rfl Ay hq1 rfl rfl (fun _ _=>⟨fun k i' o hk=>by simp at hk,.inr (.inr (.inr ⟨t,r,by cases u <;> first | rfl | grind,hr,rfl⟩))⟩)
         grind
        grind
     | io=>
      simp only [hm] at hg;split at hg
      ·rename_i r ha hx;simp only [Option.some.injEq,Prod.mk.injEq] at hg;obtain ⟨rfl,rfl⟩:=hg
       obtain ⟨r1,r2⟩:=r
       have hlen:=YN _ _ _ _ hx;simp only [hand] at hh;split at hh;·cases hh
       ·rename_i AJ Ay;cases hh;simp only [enter] at he;split at he
        ·rename_i q1 hq1;simp only [hpt,hm] at he;cases he;have hin:=RP (fun e xs=>AxP.io e xs) _ _ _ _ (site i 1) hx;obtain ⟨hc1,hc2⟩:=vX ha hlen (into C .io (site i 1) r1).1
         refine tail _ (U.like C u r1) AJ q1 [U.like C (U.like C u r1) (into C .io (site i 1) r1).1] (into C .io (site i 1) r1).2 r2 rfl rfl Ay hq1 (by rw [hc1]) (by grind) (fun hH' B5=>?_);obtain ⟨m1,m2⟩:=AUF (io:=true) (H:=H) (Z:=Z) (base:=site i 1) hx (fun x hx'=>hH' x (by assumption)) (fun x hx'=>B5 x (by assumption))
         simp only [if_true] at m1 m2;refine ⟨m1,.inr (.inl ⟨true,U.like C u (into C .io (site i 1) r1).1,by rw [hc2],ha,AUE ha (by grind) m2⟩)⟩
        grind
      grind
     | mv=>
      simp only [hm] at hg;split at hg
      ·rename_i r ha hx;simp only [Option.some.injEq,Prod.mk.injEq] at hg;obtain ⟨rfl,rfl⟩:=hg
       obtain ⟨r1,r2⟩:=r
       have hlen:=YN _ _ _ _ hx;simp only [hand] at hh;split at hh;·cases hh
       ·rename_i AJ Ay;cases hh;simp only [enter] at he;split at he
        ·rename_i q1 hq1;simp only [hpt,hm] at he;cases he;have hin:=RP (fun e xs=>AxP.sl e xs) _ _ _ _ (site i 1) hx;obtain ⟨hc1,hc2⟩:=vX ha hlen (into C .sl (site i 1) r1).1
         refine tail _ (U.like C u r1) AJ q1 [U.like C (U.like C u r1) (into C .sl (site i 1) r1).1] (into C .sl (site i 1) r1).2 r2 rfl rfl Ay hq1 (by rw [hc1]) (by grind) (fun hH' B5=>?_);obtain ⟨m1,m2⟩:=AUF (io:=false) (H:=H) (Z:=Z) (base:=site i 1) hx (fun x hx'=>hH' x (by assumption)) (fun x hx'=>B5 x (by assumption))
         simp only [Bool.false_eq_true,if_false] at m1 m2;refine ⟨m1,.inr (.inl ⟨false,U.like C u (into C .sl (site i 1) r1).1,by rw [hc2],ha,AUE ha (by grind) m2⟩)⟩
        grind
      grind
end
end Go.Ev
