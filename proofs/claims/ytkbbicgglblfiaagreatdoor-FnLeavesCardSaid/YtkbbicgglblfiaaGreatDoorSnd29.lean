/- What comes back from a callee: what was written through. -/
import Derived.Test.YtkbbicgglblfiaaGreatDoorSnd28
namespace Go.Ev
open Go
section
variable {C:Ctx} {P:Program} {hp AF hpc:Hp C} {AB:At} {w:World} {Ai:Nat->Prop} {w0:World} {Avn:Nat->Nat->Prop}
theorem AUD (a b:List (Option (Nat×Nat))):E5 (a++b)=E5 a++E5 b:=by
 induction a with
 | nil=>rfl
 | cons x a ih=>cases x <;> simp [E5,ih]
theorem Atg:∀ (ss:List Sh) (ls ls':List (L C.El)) (ids:List (Option (Nat×Nat))) (base:Nat) (rs:List (L C.El)) (h:Hp C),Ja C hp true true ss ls=some (ls',ids)->jd C hpc base ss=some rs->Axw C hp ls rs=some h->
  (h.map (·.1)).Sublist (E5 ids)/\∀ x,x ∈ h->∃ k e xs ys,Sh.sl e ∈ ss/\k<ids.length/\ids.getD k none=some (x.1,0)/\(into C .io base ls').2[k]?=some (base+k,.io e ys)/\look hpc (base+k) .dead=.io e xs/\((look hp x.1 .dead=.sl e ys/\x.2=.sl e xs)\/(look hp x.1 .dead=.io e ys/\x.2=.io e xs)):=by
 intro ss;induction ss with
 | nil=>
  intro ls ls' ids base rs h h1 h2 h3;cases ls with
  | cons _ _=>simp [Ja] at h1
  | nil=>
   simp only [jd,Option.some.injEq] at h2;subst h2;simp only [Axw,Option.some.injEq] at h3;subst h3;exact ⟨by simp,fun x hx=>by simp at hx⟩
 | cons s ss ih=>
  intro ls ls' ids base rs h h1 h2 h3;cases ls with
  | nil=>simp [Ja] at h1
  | cons l ls=>
   simp only [Ja] at h1;split at h1;·cases h1
   ·rename_i r hr;obtain ⟨r1,r2⟩:=r
    cases s with
    | sl e=>
     simp only [jd] at h2;split at h2
     ·rename_i e' xs' r' hlk hr';split at h2
      ·rename_i xs hc;obtain ⟨rfl,rfl⟩:=Awd hc
       simp only [Option.some.injEq] at h2;subst h2
       have tail:∀ (x:Nat×AxP C.El) (ys:List (C.El e')) (id:Option (Nat×Nat)),(∃ k e xs ys,Sh.sl e ∈ ss/\k<r2.length/\r2.getD k none=some (x.1,0)/\(into C .io (base+1) r1).2[k]?=some (base+1+k,.io e ys)/\look hpc (base+1+k) .dead=.io e xs/\((look hp x.1 .dead=.sl e ys/\x.2=.sl e xs)\/(look hp x.1 .dead=.io e ys/\x.2=.io e xs)))->
         ∃ k e xs ys',Sh.sl e ∈ (Sh.sl e'::ss)/\k<(id::r2).length/\(id::r2).getD k none=some (x.1,0)/\(into C .io base (.Ns e' ys::r1)).2[k]?=some (base+k,.io e ys')/\look hpc (base+k) .dead=.io e xs/\((look hp x.1 .dead=.sl e ys'/\x.2=.sl e xs)\/(look hp x.1 .dead=.io e ys'/\x.2=.io e xs)):=by
        rintro x ys id ⟨k,e,xs,ys',g0,g1,g2,g3,g4,g5⟩;refine ⟨k+1,e,xs,ys',by simp [g0],by simpa using g1,by simpa using g2,?_,by rw [show base+(k+1)=base+1+k by omega];exact g4,g5⟩;simp only [into,List.getElem?_cons_succ];rw [g3,show base+1+k=base+(k+1) by omega]
       have head:∀ {id:Nat} {ys:List (C.El e')} {o:AxP C.El} {ht:Hp C},ls'=.Ns e' ys::r1->ids=some (id,0)::r2->Axw C hp ls r'=some ht->h=(id,o)::ht->((look hp id .dead=.sl e' ys/\o=.sl e' xs')\/(look hp id .dead=.io e' ys/\o=.io e' xs'))->
         (h.map (·.1)).Sublist (E5 ids)/\∀ x,x ∈ h->∃ k e xs ys,Sh.sl e ∈ (Sh.sl e'::ss)/\k<ids.length/\ids.getD k none=some (x.1,0)/\(into C .io base ls').2[k]?=some (base+k,.io e ys)/\look hpc (base+k) .dead=.io e xs/\((look hp x.1 .dead=.sl e ys/\x.2=.sl e xs)\/(look hp x.1 .dead=.io e ys/\x.2=.io e xs)):=by
        intro id ys o ht e1 e2 e3 e4 e5;subst e1;subst e2;subst e4;obtain ⟨g1,g2⟩:=ih ls r1 r2 (base+1) r' ht hr hr' e3
        refine ⟨by simpa [E5] using g1,fun x hx=>?_⟩;rcases List.mem_cons.1 hx with rfl | hm
        ·exact ⟨0,e',xs',ys,by simp,by simp,by simp,by simp [into],hlk,e5⟩
        ·exact tail x ys _ (g2 x hm)
       simp only at h1;split at h1
       ·rename_i id hpl;simp only [Axw] at h3;split at h1
        ·rename_i e2 ys hl;split at h1
         ·rename_i ys2 hc2;obtain ⟨rfl,rfl⟩:=Awd hc2
          simp only [Option.some.injEq,Prod.mk.injEq] at h1;rw [hl] at h3;split at h3
          ·rename_i e3 ys3 r3 hl3 hr3;cases hl3;split at h3;·cases h3;exact head h1.1.symm h1.2.symm hr3 rfl (.inl ⟨hl,rfl⟩)
           ·cases h3
          ·rename_i e3 ys3 r3 hl3 hr3;cases hl3
          ·cases h3
         ·cases h1
        ·rename_i e2 ys hl;split at h1
         ·rename_i ys2 _ hc2;obtain ⟨rfl,rfl⟩:=Awd hc2
          simp only [Option.some.injEq,Prod.mk.injEq] at h1;rw [hl] at h3;split at h3;·rename_i e3 ys3 r3 hl3 hr3;cases hl3
          ·rename_i e3 ys3 r3 hl3 hr3;cases hl3;split at h3;·cases h3;exact head h1.1.symm h1.2.symm hr3 rfl (.inr ⟨hl,rfl⟩)
           ·cases h3
          ·cases h3
         ·cases h1
        ·cases h1
       ·simp only [Axw] at h3;simp only [Option.some.injEq,Prod.mk.injEq] at h1;obtain ⟨rfl,rfl⟩:=h1
        obtain ⟨g1,g2⟩:=ih ls r1 r2 (base+1) r' h hr hr' h3
        exact ⟨by simpa [E5] using g1,fun x hx=>tail x [] _ (g2 x hx)⟩
       ·cases h1
       ·cases h1
      ·cases h2
     ·cases h2
    | _=>
     simp only at h1;split at h1
     ·rename_i hf;simp only [Option.some.injEq,Prod.mk.injEq] at h1;obtain ⟨rfl,rfl⟩:=h1
      simp only [jd] at h2;split at h2
      ·rename_i r' hr';simp only [Option.some.injEq] at h2;subst h2;have hin:into C AxP.io base (l::r1)=(l::(into C AxP.io base r1).1,(into C AxP.io base r1).2):=by cases l <;> first | rfl | simp [L.fits] at hf
       have hb:Axw C hp (l::ls) (.junk::r')=Axw C hp ls r':=by cases l <;> first | rfl | simp [L.fits] at hf
       rw [hb] at h3;rw [hin];obtain ⟨g1,g2⟩:=ih ls r1 r2 base r' h hr hr' h3
       exact ⟨g1,fun x hx=>by
        obtain ⟨k,e,xs,ys,g3,g4⟩:=g2 x hx
        exact ⟨k,e,xs,ys,by simp [g3],g4⟩⟩
      ·cases h2
     ·cases h1
def Acn (C:Ctx) (hp hpc H:Hp C) (Z Z0:List (Nat×Option (Nat×Nat))) (Q:Hp C) (x:Nat×AxP C.El):Prop:=
 (∃ j off cs2 old BC ce,(j,some (x.1,off)) ∈ Z0/\(j,.var ce) ∈ Q/\look hp x.1 .dead=.var old/\x.2=.var (setCells C old off cs2)/\look hpc j .dead=.var BC/\cs2.length=BC.length/\ce.length=cs2.length/\off+cs2.length<=old.length/\∀ (k:Nat) (l2:L C.El),cs2[k]?=some l2->∃ l,BC[k]?=some l/\TD C hpc H Z false l l2)\/
 (∃ j e xs ys,(∃ t,(C.ti t).kind=.sl e)/\(j,some (x.1,0)) ∈ Z0/\(j,.io e ys) ∈ Q/\look hpc j .dead=.io e xs/\((look hp x.1 .dead=.sl e ys/\x.2=.sl e xs)\/(look hp x.1 .dead=.io e ys/\x.2=.io e xs)))
theorem Acl (d:Nat):∀ (ts:List Nat) (i n:Nat) (ms:List Mode') (vs:List (Val C.El)) (gs:List (Option (U C.El))) (ids:List (Option (Nat×Nat))) (us:List (U C.El)) (qe:Env C×Hp C) (q1:List (U C.El)) (q2:List (Option (Nat×Nat))) (h:Hp C×Hp C) (H Q:Hp C) (Z Z0:List (Nat×Option (Nat×Nat))),
  give C hp ms ts vs=some (gs,ids)->hand C AF gs ts vs=some us->enter C i ms ts us=some qe->U7 C hpc i ms ts=some (q1,q2)->back C hp d n ms ts vs q1=some h->
  (∀ x,x ∈ h.2->x ∈ H)->(∀ x,x ∈ (h.2.map (·.1)).zip q2->x ∈ Z)->(∀ x,x ∈ qe.2->x ∈ Q)->(∀ x,x ∈ (qe.2.map (·.1)).zip ids->x ∈ Z0)->
  h.2.length=q2.length/\(∀ (k i':Nat) (o:AxP C.El),h.2[k]?=some (i',o)->AEQ C hpc H Z (q2.getD k none) o)/\(h.1.map (·.1)).Sublist (E5 ids)/\∀ x,x ∈ h.1->Acn C hp hpc H Z Z0 Q x:=by
 intro ts;induction ts with
 | nil=>
  intro i n ms vs gs ids us qe q1 q2 h H Q Z Z0 hg hh he ho hb _ _ _ _;cases vs with
  | cons _ _=>simp [give] at hg
  | nil=>
   simp only [U7,Option.some.injEq,Prod.mk.injEq] at ho;obtain ⟨rfl,rfl⟩:=ho
   simp only [back,Option.some.injEq] at hb;subst hb;exact ⟨rfl,fun k i' o h=>by simp at h,by simp,fun x hx=>by simp at hx⟩
 | cons t ts ih=>
  intro i n ms vs gs ids us qe q1 q2 h H Q Z Z0 hg hh he ho hb hH hZ hQ A7;match vs,hg with
  | [u]::vs,hg=>
   simp only [give] at hg;split at hg;·cases hg
   ·rename_i q0 hq0;obtain ⟨gs0,Ax⟩:=q0
    simp only [U7] at ho;split at ho;·cases ho
    ·rename_i G0 hqo;obtain ⟨Ck,Bp⟩:=G0
     cases hpt:VP C t with
     | some e=>
      simp only [hpt] at hg ho;split at hg
      ·rename_i id off;split at hg
       ·rename_i cs hl;split at hg
        ·rename_i r hsz hx;simp only [Option.some.injEq,Prod.mk.injEq] at hg;obtain ⟨rfl,rfl⟩:=hg
         rw [Bool.and_eq_true] at hsz;have hle:=Nat.le_of_ble_eq_true hsz.1;obtain ⟨r1,r2⟩:=r
         split at ho
         ·rename_i BC hlc;split at ho
          ·rename_i rr hrr;obtain ⟨Cl,Ek⟩:=rr
           simp only [Option.some.injEq,Prod.mk.injEq] at ho;obtain ⟨rfl,rfl⟩:=ho
           simp only [back,hpt,hl] at hb;split at hb
           ·rename_i hlen;have hlen:=Ea hlen;split at hb
            ·rename_i qb DG;cases hb;simp only [hand] at hh;split at hh;·cases hh
             ·rename_i AJ Ay;cases hh;simp only [enter] at he;split at he
              ·rename_i A5 Bt;simp only [hpt] at he;cases he;have hin:=RP (fun e xs=>AxP.sl e xs) _ _ _ _ (site i 1) hx;have hin2:=RP (fun e xs=>AxP.sl e xs) _ _ _ _ (site d n) hrr;have hlr:=YN _ _ _ _ hrr;have hl1:=YN _ _ _ _ hx;have hz0:(((site i 0,AxP.var (into C .sl (site i 1) r1).1)::((into C .sl (site i 1) r1).2++A5.2)).map (·.1)).zip (some (id,off)::(r2++Ax))=(site i 0,some (id,off))::(((into C .sl (site i 1) r1).2.map (·.1)).zip r2++(A5.2.map (·.1)).zip Ax):=by simp only [List.map_cons,List.zip_cons_cons,List.map_append];rw [vW (by simpa using hin.2.1)]
               have A7:∀ x,x ∈ (((site i 0,AxP.var (into C .sl (site i 1) r1).1)::((into C .sl (site i 1) r1).2++A5.2)).map (·.1)).zip (some (id,off)::(r2++Ax))->x ∈ Z0:=A7;rw [hz0] at A7;have hQ:∀ x,x ∈ ((site i 0,AxP.var (into C .sl (site i 1) r1).1)::((into C .sl (site i 1) r1).2++A5.2))->x ∈ Q:=hQ;have hz:(((into C .sl (site d n) Cl).2++qb.2).map (·.1)).zip (Ek++Bp)=((into C .sl (site d n) Cl).2.map (·.1)).zip Ek++(qb.2.map (·.1)).zip Bp:=by rw [List.map_append,vW (by simpa using hin2.2.1)]
               simp only [hz] at hZ;obtain ⟨k1,k2,k3,k4⟩:=ih (i+1) _ (ms.drop 1) vs gs0 Ax AJ A5 Ck Bp qb H Q Z Z0 hq0 Ay Bt hqo DG (fun x hx=>hH x (by simp [hx])) (fun x hx=>hZ x (List.mem_append_right _ hx)) (fun x hx=>hQ x (by simp [hx])) (fun x hx=>A7 x (List.mem_cons_of_mem _ (List.mem_append_right _ hx)))
               obtain ⟨b1,b2,b3⟩:=wF (H:=H) (Z:=Z) (base:=site d n) hrr (fun x hx=>hH x (by simp [hx])) (fun x hx=>hZ x (List.mem_append_left _ hx))
               have hlen2:(into C AxP.sl (site d n) Cl).1.length=(C.ti e).size:=by rw [AKG];exact hlen
               refine ⟨by simp [k1,b1],fun k i' o hk=>?_,?_,fun x hx=>?_⟩
               ·rcases Nat.lt_or_ge k (into C AxP.sl (site d n) Cl).2.length with hlt | hge
                ·rw [List.getElem?_append_left hlt] at hk;rw [Ath (by rw [<-b1];exact hlt)];exact b2 k i' o hk
                ·rw [List.getElem?_append_right hge] at hk;rw [Ati (by rw [<-b1];exact hge),<-b1];exact k2 _ i' o hk
               ·simp only [List.map_cons,E5,AUD];exact .cons_cons _ (k3.trans (List.sublist_append_right _ _))
               ·rcases List.mem_cons.1 hx with rfl | hm
                ·refine .inl ⟨site i 0,off,_,cs,BC,_,A7 _ (by simp),hQ _ (List.mem_cons_self ..),hl,rfl,hlc,by rw [hlen2,<-hlen,hlr],?_,by rw [hlen2];exact hle,b3⟩;rw [hlen2,AKG,hl1];simp;omega
                ·exact k4 x hm
              ·cases he
            ·cases hb
           ·cases hb
          ·cases ho
         ·cases ho
        ·cases hg
       ·cases hg
      ·cases hg
     | none=>
      simp only [hpt] at hg ho;cases hm:ms.headD .rd with
      | rd=>
       simp only [hm,Option.some.injEq,Prod.mk.injEq] at hg ho;obtain ⟨rfl,rfl⟩:=hg
       obtain ⟨rfl,rfl⟩:=ho
       simp only [back,hpt,hm] at hb;simp only [hand] at hh;split at hh;·cases hh
       ·rename_i AJ Ay;have step:∀ (v:U C.El),us=v::AJ->h.2.length=Bp.length/\(∀ (k i':Nat) (o:AxP C.El),h.2[k]?=some (i',o)->AEQ C hpc H Z (Bp.getD k none) o)/\(h.1.map (·.1)).Sublist (E5 Ax)/\∀ x,x ∈ h.1->Acn C hp hpc H Z Z0 Q x:=by
         intro v e1;subst e1;simp only [enter] at he;split at he;·rename_i A5 Bt;simp only [hpt,hm] at he;cases he;exact ih (i+1) n (ms.drop 1) vs gs0 Ax AJ A5 Ck Bp h H Q Z Z0 hq0 Ay Bt hqo hb hH hZ hQ A7
         ·cases he
        split at hh;·cases hh;exact step _ rfl
        ·cases hh;exact step _ rfl
        ·split at hh;·cases hh;exact step _ rfl
         ·cases hh
      | io=>
       simp only [hm] at hg ho;split at hg
       ·rename_i r ha hx;simp only [Option.some.injEq,Prod.mk.injEq] at hg;obtain ⟨rfl,rfl⟩:=hg
        obtain ⟨r1,r2⟩:=r
        split at ho
        ·rename_i rc hrc;simp only [Option.some.injEq,Prod.mk.injEq] at ho;obtain ⟨rfl,rfl⟩:=ho
         simp only [back,hpt,hm] at hb;split at hb
         ·rename_i hi qb hhi DG;cases hb;simp only [hand] at hh;split at hh;·cases hh
          ·rename_i AJ Ay;cases hh;simp only [enter] at he;split at he
           ·rename_i A5 Bt;simp only [hpt,hm] at he;cases he;have hlen:=YN _ _ _ _ hx;obtain ⟨hc1,hc2⟩:=vX ha hlen []
            have hin:=RP (fun e xs=>AxP.io e xs) _ _ _ _ (site i 1) hx;simp only [hc1] at hQ A7;have hz0:(((into C .io (site i 1) r1).2++A5.2).map (·.1)).zip (r2++Ax)=((into C .io (site i 1) r1).2.map (·.1)).zip r2++(A5.2.map (·.1)).zip Ax:=by rw [List.map_append,vW (by simpa using hin.2.1)]
            simp only [hz0] at A7;obtain ⟨k1,k2,k3,k4⟩:=ih (i+1) _ (ms.drop 1) vs gs0 Ax AJ A5 Ck Bp qb H Q Z Z0 hq0 Ay Bt hqo DG hH hZ (fun x hx=>hQ x (by simp [hx])) (fun x hx=>A7 x (List.mem_append_right _ hx))
            obtain ⟨g1,g2⟩:=Atg (hpc:=hpc) _ _ _ _ (site i 1) rc hi hx hrc (by simpa [U.cells] using hhi)
            refine ⟨k1,k2,?_,fun x hx'=>?_⟩;·simp only [List.map_append,AUD];exact g1.append k3
            ·rcases List.mem_append.1 hx' with hm' | hm'
             ·obtain ⟨k,e,xs,ys,m0,m1,m2,m3,m4,m5⟩:=g2 x hm'
              refine .inr ⟨site i 1+k,e,xs,ys,Aco 9 t e m0,?_,hQ _ (List.mem_append_left _ (List.mem_of_getElem? m3)),m4,m5⟩;have:=jc m3 m1;rw [m2] at this;exact A7 _ (List.mem_append_left _ this)
             ·exact k4 x hm'
           ·cases he
         ·cases hb
        ·cases ho
       ·cases hg
      | mv=>
       simp only [hm] at hg ho;split at hg
       ·rename_i r ha hx;simp only [Option.some.injEq,Prod.mk.injEq] at hg ho;obtain ⟨rfl,rfl⟩:=hg
        obtain ⟨rfl,rfl⟩:=ho
        obtain ⟨r1,r2⟩:=r
        simp only [back,hpt,hm] at hb;simp only [hand] at hh;split at hh;·cases hh
        ·rename_i AJ Ay;cases hh;simp only [enter] at he;split at he
         ·rename_i A5 Bt;simp only [hpt,hm] at he;cases he;have hlen:=YN _ _ _ _ hx;obtain ⟨hc1,hc2⟩:=vX ha hlen []
          have hin:=RP (fun e xs=>AxP.sl e xs) _ _ _ _ (site i 1) hx;simp only [hc1] at hQ A7;have hz0:(((into C .sl (site i 1) r1).2++A5.2).map (·.1)).zip (r2++Ax)=((into C .sl (site i 1) r1).2.map (·.1)).zip r2++(A5.2.map (·.1)).zip Ax:=by rw [List.map_append,vW (by simpa using hin.2.1)]
          simp only [hz0] at A7;obtain ⟨k1,k2,k3,k4⟩:=ih (i+1) _ (ms.drop 1) vs gs0 Ax AJ A5 Ck Bp h H Q Z Z0 hq0 Ay Bt hqo hb hH hZ (fun x hx=>hQ x (by simp [hx])) (fun x hx=>A7 x (List.mem_append_right _ hx))
          refine ⟨k1,k2,?_,k4⟩;rw [AUD];exact k3.trans (List.sublist_append_right _ _)
         ·cases he
       ·cases hg
end
end Go.Ev
