/- The plain law of FnPlans: whatever the arguments, it answers true. Conditions: what is read is in reach. Part 2 of 3. -/
import Derived.Test.YtpjfloaghpgpdaaGreatDoorPureFnPlansa
namespace Go.Proofs.YtpjfloaghpgpdaaGreatDoor.G
open Go Go.Ev
set_option linter.unusedVariables false
set_option linter.unusedSimpArgs false
set_option linter.unusedSectionVars false
variable [PC]
theorem DBd {last:Int} {x:SThing}:∀ {xs:List SThing} {p:Int},rise last p xs=true→x ∈ xs→Ic xs x.fId=some x:=by
 intro xs
 induction xs with
 | nil=>simp
 | cons y ys ih=>
  intro p h hx
  obtain ⟨h1,h2,h3,h4⟩:=Tt.1 h
  rw [Ic,List.find?_cons]
  rcases List.mem_cons.1 hx with rfl | hx
  ·simp
  ·have:=Y7 h4 x hx
   rw [show (y.fId == x.fId)=false by grind]
   exact ih h4 hx
theorem XBD {b:SBook} {r:SRec} (h:(Xa b r).2=true):((Xa b r).1.fThings=b.fThings∧(Xa b r).1.fLast=b.fLast)∨(∃ o,Ic b.fThings r.fThing.fId=some o∧grown o r.fThing=true∧(Xa b r).1.fThings=putAt b.fThings r.fThing∧(Xa b r).1.fLast=b.fLast)∨((Xa b r).1.fThings=b.fThings++[r.fThing]∧(Xa b r).1.fLast=b.fLast+1)∨(r.fKind=4∧(Xa b r).1.fThings=without b.fThings r.fNum∧(Xa b r).1.fLast=b.fLast):=by
 have h2:=(A8 h).2.1
 rw [Xa] at h ⊢
 cases hc:(!(Jg b) || (!(WZ r).2 || decide (b.fCount≥10000)))
 all_goals grind [PAZ,Z7]
def keeps (x y:SThing):Prop:=y.fKind=x.fKind∧y.fValue=x.fValue∧(x.fHidden=true→y.fHidden=true)∧(x.fFixed=true→y.fFixed=true)∧x.fNext≤y.fNext
theorem EBd (x:SThing):keeps x x:=⟨rfl,rfl,id,id,Int.le_refl _⟩
theorem FBd {x y:SThing} (h:grown x y=true):keeps x y:=by
 simp only [grown,Bool.and_eq_true,beq_iff_eq,decide_eq_true_eq] at h
 obtain ⟨h1,h2,_,_,h5,h6,h7⟩:=h
 refine ⟨h1,Yi h2,fun e=>?_,fun e=>?_,h5⟩
 all_goals simp_all
theorem GBd {b:SBook} {r:SRec} (h:(Xa b r).2=true) {x:SThing} (hx:x ∈ b.fThings):(Ic (Xa b r).1.fThings x.fId=none∧r.fKind=4∧r.fNum=x.fId)∨∃ y,Ic (Xa b r).1.fThings x.fId=some y∧keeps x y:=by
 grind [A8,Vh,DBd,Xa,Ic,EBd,XBD,FBd,putAt,Sv,gtF,without]
theorem YBD {f:Nat→Int} {n:Nat} (h:∀ i,0<i→i<n→f (i - 1)<f i):∀ d i,i+d+1<n→f i<f (i+d+1):=by
 intro d
 induction d<;>grind
abbrev Xv (ls:List SLive):Prop:=ls.Pairwise fun a b=>a.fId<b.fId
abbrev AscS (ls:List SSession):Prop:=ls.Pairwise fun a b=>a.fId<b.fId
theorem ZBD {b:SBox}:∀ {j i:Nat},Yt b j i=true→∀ k,i≤k→k<i+j→U2 b k=true:=by
 intro j
 induction j<;>grind [Yt]
theorem HBd {b:SBox}:∀ {j i:Nat},(∀ k,i≤k→k<i+j→U2 b k=true)→Yt b j i=true:=by
 intro j
 induction j<;>grind [Yt]
def HAC (ts:List SThing) (v:SLive):Prop:=∃ x,Ic ts v.fId=some x∧x.fKind=2∧0≤v.fNext∧v.fNext≤x.fNext
theorem XA2 {b:SBox} {i:Nat}:U2 b i=true↔HAC b.fBook.fThings (b.fLives.getD i ⟨0,0⟩)∧(i=0∨(b.fLives.getD (i - 1) ⟨0,0⟩).fId<(b.fLives.getD i ⟨0,0⟩).fId):=by
 grind [U2,HAC,Aa]
theorem YA2 {b:SBox}:L8 b=true↔(∀ v ∈ b.fLives,HAC b.fBook.fThings v)∧Xv b.fLives:=by
 constructor
 ·intro h
  have ha:∀ i,i<b.fLives.length→U2 b i=true:=fun i hi=>ZBD h i (Nat.zero_le _) (by omega)
  refine ⟨fun v hv=>?_,List.pairwise_iff_getElem.2 fun i j hi hj hij=>?_⟩
  ·grind [List.mem_iff_getElem,XA2]
  ·have:=YBD (f:=fun i=>(b.fLives.getD i ⟨0,0⟩).fId) (n:=b.fLives.length) (fun i h0 hi=>(XA2.1 (ha i hi)).2.resolve_left (by omega)) (j - i - 1) i (by omega)
   grind
 ·rintro ⟨h1,h2⟩
  refine HBd fun i _ hi=>XA2.2 ?_
  grind [List.pairwise_iff_getElem]
theorem ZA2 {b:SBox}:Fq b b.fSessions.length 0=true↔(∀ s ∈ b.fSessions,1≤s.fId∧s.fId≤b.fOpened)∧AscS b.fSessions:=by
 have mk:∀ {j i:Nat},Fq b j i=true↔∀ k,i≤k→k<i+j→VAF b k=true:=by
  intro j
  induction j<;>grind [Fq]
 have at_:∀ {i:Nat},VAF b i=true↔(1≤(b.fSessions.getD i ⟨0,false⟩).fId∧(b.fSessions.getD i ⟨0,false⟩).fId≤b.fOpened)∧(i=0∨(b.fSessions.getD (i - 1) ⟨0,false⟩).fId<(b.fSessions.getD i ⟨0,false⟩).fId):=by
  simp [VAF,Aa]
 rw [mk]
 constructor
 ·intro h
  have ha:∀ i,i<b.fSessions.length→_:=fun i hi=>at_.1 (h i (Nat.zero_le _) (by omega))
  refine ⟨fun v hv=>?_,List.pairwise_iff_getElem.2 fun i j hi hj hij=>?_⟩
  ·grind [List.mem_iff_getElem]
  ·have:=YBD (f:=fun i=>(b.fSessions.getD i ⟨0,false⟩).fId) (n:=b.fSessions.length) (fun i h0 hi=>(ha i hi).2.resolve_left (by omega)) (j - i - 1) i (by omega)
   rw [show i+(j - i - 1)+1=j by omega] at this
   simp_all
 ·rintro ⟨h1,h2⟩ i _ hi
  have hi:i<b.fSessions.length:=by omega
  refine at_.2 ?_
  rw [getD_at hi]
  refine ⟨h1 _ (List.getElem_mem hi),?_⟩
  by_cases h0:i=0
  ·omega
  ·refine .inr ?_
   have hj:i - 1<b.fSessions.length:=by omega
   rw [getD_at hj]
   grind [List.pairwise_iff_getElem]
theorem ABE {last:Int}:∀ {ts:List SThing} {p:Int} {vs:List SLive},rise last p ts=true→Xv vs→(∀ v ∈ vs,∃ x ∈ ts,x.fId=v.fId)→vs.length≤ts.length:=by
 intro ts
 induction ts with
 | nil=>
  intro p vs _ _ h
  cases vs<;>grind [List.mem_cons_self]
 | cons t ts ih=>
  intro p vs hr ha h
  obtain ⟨_,_,_,hr2⟩:=Tt.1 hr
  have hin:=Y7 hr2
  cases vs<;>grind [List.pairwise_cons,List.mem_cons_self]
def N8:List SLive→Int→Int→List SLive
 | [],id,n=>[⟨id,n⟩]
 | v::vs,id,n=>if v.fId=id then ⟨id,n⟩::vs else if v.fId<id then v::N8 vs id n else ⟨id,n⟩::v::vs
theorem BBE (id n:Int):∀ {ls:List SLive},Xv ls→ls.filter (fun v=>decide (v.fId<id))++(⟨id,n⟩::ls.filter fun v=>decide (v.fId > id))=N8 ls id n
 | [],_=>rfl
 | v::vs,h=>by
  obtain ⟨hv,hs⟩:=List.pairwise_cons.1 h
  have ih:=BBE id n hs
  rw [N8,List.filter_cons,List.filter_cons]
  have big:∀ {p:SLive→Bool},(∀ w ∈ vs,p w=true)→vs.filter p=vs:=List.filter_eq_self.2
  by_cases h1:v.fId=id
  ·rw [if_pos h1,decide_eq_false (by omega),decide_eq_false (by omega),List.filter_eq_nil_iff.2 fun w hw=>by have:=hv w hw;rw [decide_eq_true_eq];omega,List.filter_eq_self.2 fun w hw=>by have:=hv w hw;rw [decide_eq_true_eq];omega];rfl
  ·rw [if_neg h1]
   by_cases h2:v.fId<id
   ·rw [if_pos h2,decide_eq_true h2,decide_eq_false (by omega),←ih];rfl
   ·rw [if_neg h2,decide_eq_false h2,decide_eq_true (by omega),List.filter_eq_nil_iff.2 fun w hw=>by have:=hv w hw;rw [decide_eq_true_eq];omega,List.filter_eq_self.2 fun w hw=>by have:=hv w hw;rw [decide_eq_true_eq];omega];rfl
theorem AA3 {id n:Int}:∀ {ls:List SLive},Xv ls→∀ v ∈ N8 ls id n,v=⟨id,n⟩∨(v ∈ ls∧v.fId≠id)
 | [],_,v,hv=>.inl (List.mem_singleton.1 hv)
 | w::vs,h,v,hv=>by
  obtain ⟨hw,hs⟩:=List.pairwise_cons.1 h
  rw [N8] at hv
  split at hv
  ·rename_i h1
   rcases List.mem_cons.1 hv with e | hm
   ·exact .inl e
   ·have:=hw v hm;exact .inr ⟨List.mem_cons_of_mem _ hm,by omega⟩
  ·rename_i h1
   split at hv
   ·rcases List.mem_cons.1 hv with rfl | hm
    ·exact .inr ⟨List.mem_cons_self ..,h1⟩
    ·rcases AA3 hs v hm with e | ⟨e1,e2⟩
     ·exact .inl e
     ·exact .inr ⟨List.mem_cons_of_mem _ e1,e2⟩
   ·rename_i h2
    rcases List.mem_cons.1 hv with e | hm
    ·exact .inl e
    ·rcases List.mem_cons.1 hm with rfl | hm
     ·exact .inr ⟨List.mem_cons_self ..,h1⟩
     ·have:=hw v hm;exact .inr ⟨List.mem_cons_of_mem _ hm,by omega⟩
theorem CBE {id n:Int}:∀ {ls:List SLive},Xv ls→Xv (N8 ls id n)
 | [],_=>List.pairwise_singleton _ _
 | w::vs,h=>by
  obtain ⟨hw,hs⟩:=List.pairwise_cons.1 h
  rw [N8]
  split
  ·rename_i h1
   exact List.pairwise_cons.2 ⟨fun v hv=>by have:=hw v hv;show id<v.fId;omega,hs⟩
  ·rename_i h1
   split
   ·rename_i h2
    refine List.pairwise_cons.2 ⟨fun v hv=>?_,CBE hs⟩
    rcases AA3 hs v hv with rfl | ⟨e1,_⟩
    ·exact h2
    ·exact hw v e1
   ·rename_i h2
    refine List.pairwise_cons.2 ⟨fun v hv=>?_,h⟩
    rcases List.mem_cons.1 hv with rfl | hv
    ·show id<v.fId;omega
    ·have:=hw v hv;show id<v.fId;omega
theorem DBE {d:SDisk} (h0:d.fFiles.length≤140737488351232):TAK d=some (Tf d):=by
 rw [TAK,WAu,mk,Tf]
 have key:∀ (j i m:Nat),i+j=d.fFiles.length→SAK (m+j+1) (.c0 d.fFiles (d.fFiles.length:Int) (i:Int) d)=some (decide ((d.fFiles.length:Int)≤30) && Dq (H8 d.fFiles i) (d.fFiles.drop i)):=by
  intro j
  induction j with
  | zero=>
   grind [SAK,UAf,Dq]
  | succ j ih=>
   intro i m h
   have hi:i<d.fFiles.length:=by omega
   have e:w64 ((i:Int)+1)=((i+1:Nat):Int):=by grind [w64_id]
   have h2:=ih (i+1) m (by omega)
   have fls:∀ b:Bool,(b && false)=false:=fun b=>by simp
   rw [show m+(j+1)+1=(m+j+1)+1 by omega,SAK]
   simp only [UAf,mk,e,Int.toNat_natCast,getD_at hi,Yh,Option.bind_some]
   rw [TB (by simp_all),TB (by simp_all),YBB hi,Bq,h2]
   cases hn:KZ (d.fFiles[i].fName.size:Int) 1 8
   ·simp
   cases decide ((d.fFiles[i].fText.size:Int) > 20000)
   ·cases KZ d.fFiles[i].fKept 0 (d.fFiles[i].fText.size:Int)
    ·simp
    ·by_cases hz:i=0
     ·grind [Aa,H8,PAj]
     ·obtain ⟨i',rfl⟩:∃ q,i=q+1:=⟨i - 1,by omega⟩
      grind [w64_id,OA1]
   simp
 obtain ⟨m,hm⟩:=gm (n:=d.fFiles.length) (by omega)
 rw [hm]
 exact key d.fFiles.length 0 m (by omega)
theorem EBE:VAK=some Qc:=by
 rw [VAK,KAv,mk,Xr (by decide),Option.bind_some,show (32:Int)=((32:Nat):Int) from rfl,TAj (by omega),Option.bind_some];rfl
theorem IBd {a b:List SThing} (h0:a.length≤140737488351232):EAg a b=some (Zt a b):=by
 rw [EAg,LAv]
 by_cases hl:a.length=b.length
 ·have key:∀ (j i m:Nat),i+j=a.length→WAK (m+j+1) (.c0 a b (a.length:Int) (i:Int))=some (Zt (a.drop i) (b.drop i)):=by
   intro j
   induction j with
   | zero=>
    intro i m h
    obtain rfl:i=a.length:=by omega
    rw [WAK]
    simp only [DAg,mk]
    rw [PY (by simp),List.drop_length,hl,List.drop_length];rfl
   | succ j ih=>
    intro i m h
    have hi:i<a.length:=by omega
    have hi2:i<b.length:=by omega
    have e:w64 ((i:Int)+1)=((i+1:Nat):Int):=by grind [w64_id]
    rw [show m+(j+1)+1=(m+j+1)+1 by omega,WAK]
    simp only [DAg,mk,e,Int.toNat_natCast,getD_at hi,getD_at hi2,OBD,ih (i+1) m (by omega)]
    grind [drop_at,Zt]
  obtain ⟨m,hm⟩:=gm (n:=a.length) (by omega)
  rw [PY (by simp_all),hm]
  exact key a.length 0 m (by omega)
 grind [PBD]
theorem FBE {a b:SBook} (h0:a.fThings.length≤140737488351232):ZAU a b=some (Gy a b):=by
 rw [ZAU,MAv,mk,IBd h0,Gy]
 grind
theorem GBE {d:SDisk} {n:ByteArray} (h0:d.fFiles.length≤140737488351232):BAV d n=some (Ut d n):=by
 have key:∀ (j i m:Nat),i+j=d.fFiles.length→XAK (m+j+1) (.c0 n d.fFiles (d.fFiles.length:Int) (i:Int))=some (match Uf (d.fFiles.drop i) n i with | some j=>(j:Int) | none=> -1):=by
  intro j
  induction j with
  | zero=>
   intro i m h
   obtain rfl:i=d.fFiles.length:=by omega
   rw [XAK]
   simp only [FAg,mk]
   rw [PY (by simp),List.drop_length];rfl
  | succ j ih=>
   intro i m h
   have hi:i<d.fFiles.length:=by omega
   have e:w64 ((i:Int)+1)=((i+1:Nat):Int):=by grind [w64_id]
   grind [XAK,FAg,Int.toNat_natCast,drop_at,Uf]
 obtain ⟨m,hm⟩:=gm (n:=d.fFiles.length) (by omega)
 rw [BAV,NAv,mk,hm,Ut]
 exact key d.fFiles.length 0 m (by omega)
theorem JBd {d:SDisk} {n:ByteArray} (h0:d.fFiles.length≤140737488351232):GAg d n=some (Yg d n):=by
 rw [GAg,OAv,mk,GBE h0,Option.bind_some,Ut,Yg]
 cases h:Uf d.fFiles n 0 with
 | none=>rfl
 | some j=>
  have:=SAZ h
  simp_all [PY]
theorem KBd {s:Int} (h:R32 s):an s 1=s % 2:=by
 obtain ⟨h1,h2⟩:=h
 obtain ⟨n,rfl⟩:∃ n:Nat,s=(n:Int):=⟨s.toNat,by omega⟩
 unfold an
 show w32 (((BitVec.ofInt 32 (n:Int) &&& BitVec.ofInt 32 1).toNat:Nat):Int)=_
 grind [Ot]
theorem LBd (t:ByteArray) (i:Nat) (hi:i<t.size) (ht:t.size≤140737488351232):∀ (j k m:Nat) (s:Int),k+j=8→R32 s→Rz (m+j+1) (.c1 s t (i:Int) (k:Int))=Rz m (.c0 (SAF j s) t ((i+1:Nat):Int)):=by
 intro j
 induction j with
 | zero=>
  intro k m s hk hs
  have e:w64 ((i:Int)+1)=((i+1:Nat):Int):=by grind [w64_id]
  rw [Rz]
  simp only [YAK,mk,e]
  rw [PY (by simp_all)]
  rfl
 | succ j ih=>
  intro k m s hk hs
  have e:w64 ((k:Int)+1)=((k+1:Nat):Int):=by grind [w64_id]
  have h2:Int.fdiv s (2 ^ (Min.min (1:Int).toNat (IntKind.bits IntKind.u32)))=s / 2:=Int.fdiv_eq_ediv_of_nonneg _ (by decide)
  rw [show m+(j+1)+1=(m+j+1)+1 by omega,Rz]
  simp only [YAK,mk,e,h2,XA0,KBd hs,Vx]
  rw [TB (by grind),SAF]
  by_cases h:s % 2=1
  ·rw [TB (by simp [h]),ih (k+1) m _ (by omega) (VAM _ _),RAF,if_pos h]
  ·rw [PY (by simp [h]),ih (k+1) m _ (by omega) (by grind [R32]),RAF,if_neg h]
theorem MBd {t:ByteArray} {s:Int} (ht:t.size≤140737488351232):JAg s t=some (BAN s (bs t)):=by
 have hl:=bs_len t
 have key:∀ (j i m:Nat) (s:Int),i+j=t.size→Rz (m+10*j+1) (.c0 s t (i:Int))=some (BAN s ((bs t).drop i)):=by
  intro j
  induction j with
  | zero=>
   intro i m s h
   rw [Rz]
   simp only [YAK,mk]
   rw [PY (by simp_all),List.drop_of_length_le (by omega)];rfl
  | succ j ih=>
   intro i m s h
   have hb:=En (Uh t) i
   rw [show m+10*(j+1)+1=(m+10*j+1)+8+1+1 by omega,Rz]
   simp only [YAK,mk,Vx]
   rw [TB (by grind),TB (by grind),Xz (by omega),Ot (by omega) (by omega)]
   have h1:=LBd t i (by omega) ht 8 0 (m+10*j+1) (xr s ((bs t).getD i 0)) (by omega) (VAM _ _)
   rw [show ((0:Nat):Int)=0 from rfl] at h1
   rw [h1,ih (i+1) m _ (by omega),drop_at (by omega:i<(bs t).length),getD_at (by omega)]
   rfl
 obtain ⟨m,hm⟩:∃ m,gas=m+10*t.size+1:=⟨gas - (10*t.size+1),by have:=gas_lt (n:=10*t.size+1) (by omega);omega⟩
 rw [JAg,PAv,hm]
 have:=key t.size 0 m s (by omega)
 assumption
theorem HBE {t:ByteArray} (ht:t.size≤140737488351232):ZAK t=some (Y0 (bs t)):=by
 rw [ZAK,QAv,MBd ht];rfl
theorem NBd {f:ByteArray} (hf:f.size≤140737488351232):HAV f=some (Zr f):=by
 rw [HAV,RAv,mk,Zr]
 by_cases h0:20000<f.size
 ·grind
 ·rw [PY (by grind),PY (by grind)]
  have key:∀ (j a m:Nat) (out:List ByteArray),a≤f.size→f.size<a+j→out.length≤a→GAV (m+j+1) (.c0 f (a:Int) out)=some (out++(Aj j f a).1,((Aj j f a).2:Int)):=by
   intro j
   induction j with
   | zero=>omega
   | succ j ih=>
    intro a m out ha hj ho
    rw [show m+(j+1)+1=(m+j+1)+1 by omega,GAV]
    simp only [SAv,mk,Aj]
    rw [RBC hf ha,Option.bind_some]
    rcases XAZ hf ha with h | ⟨v,h,hv0,hv1,hA⟩
    ·rw [show Xo f a=none by rw [Xo,h];rfl,h]
     rw [List.append_nil];rfl
    ·have hp:=Qv v
     have hsz:=hA.size.resolve_left (by grind)
     obtain ⟨R,hR⟩:∃ R,R=Xo f a:=⟨_,rfl⟩
     have hn0:=hR
     rw [Xo,h] at hn0
     rw [h]
     generalize hq:a+(SN v).length=q at hsz hn0
     simp only [Bool.not_true,cond_false,Yh,Option.bind_some]
     cases hr:KZ v 1 9000
     ·grind
     ·rw [hr] at hn0
      simp only [Bool.not_true,cond_false,Bool.true_and] at hn0 ⊢
      rw [w64_id (n:=(f.size:Int) - (q:Int)) (by omega) (by omega),w64_id (n:=(f.size:Int) - (q:Int) - 4) (by omega) (by omega),w64_id (n:=(q:Int)+4) (by omega) (by omega),w64_id (n:=(q:Int)+4+v) (by omega) (by omega)]
      by_cases h3:v > (f.size:Int) - (q:Int) - 4
      ·grind
      ·have e2:((q:Int)+4).toNat=q+4:=by omega
       have e3:((q:Int)+4+v).toNat=q+4+v.toNat:=by omega
       have hxs:(f.extract (q+4) (q+4+v.toNat)).size=v.toNat:=by grind [ByteArray.size_extract]
       rw [decide_eq_true (by omega:v≤(f.size:Int) - (q:Int) - 4),e2,e3,Int.toNat_natCast,Bool.true_and] at hn0
       rw [PY (by simp_all),TB (by grind),TB (by simp;omega),e2,e3,Int.toNat_natCast,HBE (by omega),Option.bind_some,UAj (AAC _),Option.bind_some,D8,YZ (X7 (AAC _))]
       grind
  obtain ⟨m,hm⟩:∃ m,gas=m+(f.size+1)+1:=⟨gas - (f.size+2),by have:=gas_lt (n:=f.size+2) (by omega);omega⟩
  rw [hm,show (0:Int)=((0:Nat):Int) from rfl,key (f.size+1) 0 m [] (by omega) (by omega) (Nat.le_refl _)]
  rfl
theorem OBd {n:Int}:JAV n=some (bif KZ n 0 1000000000 then (ofBytes (SN n),true) else (⟨#[]⟩,false)):=by
 simp only [JAV,TAv,mk,Yh,Option.bind_some]
 grind [Aa,DAC]
theorem IBE {s:ByteArray} {x:Int} (hs:s.size≤140737488351232):CAL s x=some (ofBytes (Pn x (bs s))):=by
 have hl:=bs_len s
 have key:=loopN (A:=Unit) (n:=(bs s).length) (Lp:=BAL) (st:=fun i _=>.c0 x ((bs s).length:Int) (i:Int) (((bs s).take i).map (fun b=>xb b x)++(bs s).drop i)) (Inv:=fun _ _=>True) (out:=fun _ _=>some (ofBytes (Pn x (bs s))))
  (fun m _ _=>by
   rw [BAL]
   simp only [LAg,mk]
   rw [PY (by simp),List.take_length,List.drop_length,List.append_nil];rfl)
  (fun m i _ hi _=>.inr ⟨(),by
   have e:w64 ((i:Int)+1)=((i+1:Nat):Int):=by grind [w64_id]
   have hlen:(((bs s).take i).map (fun b=>xb b x)++(bs s).drop i).length=(bs s).length:=by grind
   grind [BAL,LAg,Int.toNat_natCast,NBY,xb],trivial,rfl⟩)
 rw [CAL,VAv,mk,TB (by grind),TAM]
 exact key gas 0 () (Nat.zero_le _) (gas_lt (by omega)) trivial
theorem PBd {k:ByteArray} (h:k.size≤64):bs (k++ofBytes (List.replicate (64 - k.size) 0))=Ak (bs k):=by
 rw [Ue,YZ (fun x hx=>by grind),Ak,bs_len]
theorem QBd {K:ByteArray} (h:K.size=64) {s:ByteArray}:Ob (ofBytes (Pn 92 (bs K))++Ob (ofBytes (Pn 54 (bs K))++s))=ofBytes (Rt (Pn 92 (bs K)++Rt (Pn 54 (bs K)++bs s))):=by
 rw [Ob,Ue,JAj,Ue,YZ (MAj _ _),YZ (MAj _ _)]
theorem JBE {k s:ByteArray} (hk:k.size≤900000000) (hs:s.size≤900000000):DAL k s=some (mac k s):=by
 have fin:∀ {K:ByteArray} {m:Int},K.size≤64→m=((64 - K.size:Nat):Int)→∀ (f:Option ByteArray),f=some (ofBytes (Rt (Pn 92 (Ak (bs K))++Rt (Pn 54 (Ak (bs K))++bs s))))→
   ((DAB m).bind fun r1=>bif decide (K.size+r1.size≤9223372036854775807) then (CAL (K++r1) 92).bind fun r2=>(CAL (K++r1) 54).bind fun r3=>bif decide (r3.size+s.size≤9223372036854775807) then (Yj (r3++s)).bind fun r4=>bif decide (r2.size+r4.size≤9223372036854775807) then (Yj (r2++r4)).bind fun r5=>some r5 else none else none else none)=f:=by
  intro K m hK hm f hf
  have h64:(K++ofBytes (List.replicate (64 - K.size) 0)).size=64:=by simp_all [ofBytes_size]
  subst hm
  have x1:=LAj 92 (Ak (bs K))
  have x2:=LAj 54 (Ak (bs K))
  have x3:(Ak (bs K)).length=64:=by simp_all [Ak,bs_len]
  have hb:=PBd hK
  have hf2:=QBd h64 (s:=s)
  rw [hb] at hf2
  rw [TAj (by omega),Option.bind_some,TB (by simp_all),IBE (by omega),Option.bind_some,IBE (by omega),Option.bind_some,hb]
  grind [ofBytes_size,Xr,Ig]
 rw [DAL,WAv,mk]
 grind [Xr,Ig,mac,F8,E8,bs_len,JAj,w64_id]
theorem KBE {k:ByteArray} {num n:Int} (hk:k.size≤900000000):MAV k num n=some (ZAB k num n):=by
 rw [MAV,XAv,mk,OBd,Option.bind_some,ZAB,maskOk]
 cases h:KZ num 0 1000000000
 ·rfl
 ·rw [Aa] at h
  rw [cond_true,PY (by rfl),Yh,Option.bind_some]
  cases h2:KZ n 0 8000
  ·rfl
  ·rw [Aa] at h2
   rw [PY (by rfl),Bool.and_self,cond_true]
   have hv:=Zi (n:=num) (by omega)
   have hvb:=U0 h.1
   have key:=loopN (A:=Unit) (n:=(n.toNat+31) / 32) (Lp:=EAL) (st:=fun i _=>.c0 k n (ofBytes (SN num)) (ofBytes (XAB (bs k) (SN num) i)) (i:Int)) (Inv:=fun _ _=>True) (out:=fun _ _=>some (ofBytes (Ur (bs k) (SN num) n.toNat),true))
    (fun m _ _=>by
     rw [EAL]
     simp only [MAg,mk]
     rw [PY (by grind [ofBytes_size,YAB]),TB (by grind [ofBytes_size,YAB])]
     refine congrArg (fun x=>some (x,true)) (Yi ?_)
     rw [Dn,YZ (JBB _ _ _),YZ (QAZ _ _ _),Ur,List.drop_zero])
    (fun m i _ hi _=>.inr ⟨(),by
     have e:w64 ((i:Int)+1)=((i+1:Nat):Int):=by grind [w64_id]
     have h9:(⟨#[109]⟩:ByteArray).size=1:=rfl
     grind [EAL,MAg,ofBytes_size,YAB,Il,JBE,KBB,ofBytes,XAB,bs,Yi,Ue,YZ],trivial,rfl⟩)
   exact key gas 0 () (Nat.zero_le _) (gas_lt (by omega)) trivial
theorem LBE {k s:ByteArray} {num:Int} (hk:k.size≤900000000) (hn:0≤num∧num≤1000000000) (hs:s.size≤800000000):NAV k num s=some (ofBytes (Vr (bs k) num (bs s))):=by
 have hv:=Zi (n:=num) (by omega)
 have h9:(⟨#[116]⟩:ByteArray).size=1:=rfl
 have e:bs (⟨#[116]⟩:ByteArray)=[116]:=rfl
 have h16:(16:Int).toNat=16:=rfl
 rw [NAV,YAv,mk,DAC (by omega),Option.bind_some,TB (by grind [ofBytes_size]),TB (by grind [ofBytes_size])]
 rw [JBE hk (by grind [ofBytes_size]),Option.bind_some,TB (by rfl)]
 refine congrArg some (Yi ?_)
 rw [Dn,GBB,h16,YZ (X0 _ _ _),Ue,Ue,e,YZ (U0 hn.1),Vr,List.drop_zero,List.append_assoc]
 rfl
theorem MBE {a b:ByteArray} (ha:a.size≤140737488351232) (h:a.size≤b.size):PAV a b=some (ofBytes (Jj (bs a) (bs b))):=by
 have hl:=bs_len a
 have hl2:=bs_len b
 have key:=loopN (A:=Unit) (n:=(bs a).length) (Lp:=FAL) (st:=fun i _=>.c0 b ((bs a).length:Int) (i:Int) (List.zipWith xb ((bs a).take i) ((bs b).take i)++(bs a).drop i)) (Inv:=fun _ _=>True) (out:=fun _ _=>some (ofBytes (Jj (bs a) (bs b))))
  (fun m _ _=>by
   grind [FAL,NAg,Jj,MA1])
  (fun m i _ hi _=>.inr ⟨(),by
   have e:w64 ((i:Int)+1)=((i+1:Nat):Int):=by grind [w64_id]
   have hlen:(List.zipWith xb ((bs a).take i) ((bs b).take i)++(bs a).drop i).length=(bs a).length:=by grind
   grind [FAL,NAg,Int.toNat_natCast,LA1,Xz,LBB],trivial,rfl⟩)
 rw [PAV,ZAv,mk,TB (by grind),TAM]
 exact key gas 0 () (Nat.zero_le _) (gas_lt (by omega)) trivial
theorem NBE (t:ByteArray) {n:Nat} (h:t.size=n+16):bs (t.extract 0 n)=(bs t).take (t.size - 16)∧bs (t.extract n t.size)=(bs t).drop (t.size - 16):=by
 grind [Dn,bs_len]
theorem OBE {k t:ByteArray} {num:Int} (hk:k.size≤900000000) (ht:t.size≤800000000):GAL k num t=some (Jb k num t):=by
 rw [GAL,AAw,mk,Jb]
 have hw:w64 ((t.size:Int) - 16)=(t.size:Int) - 16:=w64_id (by omega) (by omega)
 rw [hw]
 by_cases h:t.size<16
 ·grind
 ·obtain ⟨n,hn⟩:∃ n,t.size=n+16:=⟨t.size - 16,by omega⟩
  obtain ⟨e1,e2⟩:=NBE t hn
  have hz:(t.size:Int) - 16=(n:Int):=by omega
  have hb:=bs_len t
  rw [PY (by simp_all),KBE hk,Option.bind_some,ZAB,hz,show decide ((t.size:Int)<16)=false by grind,Bool.false_or]
  cases hm:maskOk num n
  ·rfl
  ·have h':=AAN.1 hm
   have hml:=Dy (bs k) (SN num) n
   have hes:(t.extract 0 n).size=n:=by simp_all
   rw [Bool.not_true,cond_false,cond_true,PY (by rfl),Int.toNat_natCast,TB (by grind),LBE hk h'.1 (by omega),Option.bind_some,TB (by grind),D8,YZ (X0 _ _ _),e1,e2]
   cases hc:(Vr (bs k) num ((bs t).take (t.size - 16)) == (bs t).drop (t.size - 16))
   ·rfl
   ·rw [Bool.not_true,cond_false,TB (by grind),MBE (by omega) (by simp_all [ofBytes_size]),Option.bind_some,YZ (QAZ _ _ _),e1,cond_true,show t.size - 16=n by omega]
theorem RBd {t:ByteArray} (h:t.size≤140737488351232):UAV t=some (frameT t):=by
 rw [UAV,HAw,mk,Yh,Option.bind_some,frameT]
 cases h1:KZ (t.size:Int) 1 9000
 ·rfl
 ·rw [Aa] at h1
  have:=Zi (n:=(t.size:Int)) (by omega)
  rw [PY (by rfl),DAC (by omega),Option.bind_some,HBE h,Option.bind_some,UAj (AAC _),Option.bind_some,TB (by grind [ofBytes_size,four])]
  rw [TB (by grind [ofBytes_size,four]),SBB,cond_true]
theorem SBd {k file:ByteArray} (hk:k.size≤900000000) (hf:file.size≤140737488351232):VAg k file=some (Jk k file):=by
 obtain ⟨u1,u2,_,_⟩:=JAk (file:=file)
 rw [VAg,IAw,mk,NBd hf,Option.bind_some,Jk]
 generalize (Zr file).1=l at u1 u2
 have key:∀ (j i m:Nat) (e:Int) (out:List SRec),i+j=l.length→0≤e→e≤30000*i→out.length≤i→KAL (m+j+1) (.c0 k e (l.length:Int) (i:Int) out l)=some (out++(Ik k ((i:Int)+1) (l.drop i)).1,e+(Ik k ((i:Int)+1) (l.drop i)).2):=by
  intro j
  induction j with
  | zero=>
   grind [KAL,UAg,Ik]
  | succ j ih=>
   intro i m e out h he he2 ho
   have hi:i<l.length:=by omega
   have hz:=u1 _ (List.getElem_mem hi)
   have ew:w64 ((i:Int)+1)=((i+1:Nat):Int):=by grind [w64_id]
   have hoz:=YAZ k l[i] ((i+1:Nat):Int)
   have hfz:=TBB (t:=l[i]) (by omega)
   rw [show m+(j+1)+1=(m+j+1)+1 by omega,KAL]
   simp only [UAg,mk,ew,Int.toNat_natCast,getD_at hi]
   rw [TB (by simp_all),TB (by simp_all),OBE hk (by omega),Option.bind_some,CBD (by omega),Option.bind_some,drop_at hi,Ik,show ((i:Int)+1)=((i+1:Nat):Int) from rfl]
   cases (Jb k ((i+1:Nat):Int) l[i]).2
   ·simp
   ·rw [PY (by rfl),Bool.true_and]
    cases (Oj (Jb k ((i+1:Nat):Int) l[i]).1).2
    ·simp
    ·have h2:=ih (i+1) m (e+((frameT l[i]).1.size:Int)) (out++[(Oj (Jb k ((i+1:Nat):Int) l[i]).1).1]) (by omega) (by omega) (by omega) (by simp_all)
     grind [RBd,w64_id]
 obtain ⟨m,hm⟩:=gm (n:=l.length) (by omega)
 have h0:=key l.length 0 m 0 [] (by omega) (by omega) (by omega) (Nat.le_refl _)
 simp_all
theorem PBE {b:SBook} {l:List SRec} (hb:b.fThings.length≤2932031007317) (hl:l.length≤140737488351232) (hr:∀ r ∈ l,r.fNum≤9223372036854775807):UAE b l=some (Vb b l):=by
 have key:∀ (j i m:Nat) (b:SBook),i+j=l.length→b.fThings.length≤2932031007317→NAL (m+j+1) (.c0 l (l.length:Int) (i:Int) ⟨#[]⟩ 0 0 ⟨#[]⟩ 0 b.fWord b.fTries b.fLast b.fChain b.fCount [] b.fThings)=some (Vb b (l.drop i)):=by
  intro j
  induction j with
  | zero=>
   intro i m b h hb
   obtain rfl:i=l.length:=by omega
   rw [NAL]
   simp only [AAh,mk]
   rw [PY (by simp),List.drop_length];rfl
  | succ j ih=>
   intro i m b h hb
   have hi:i<l.length:=by omega
   have e:w64 ((i:Int)+1)=((i+1:Nat):Int):=by grind [w64_id]
   rw [show m+(j+1)+1=(m+j+1)+1 by omega,NAL]
   simp only [AAh,mk,e,Int.toNat_natCast,getD_at hi]
   rw [TB (by simp_all),TB (by simp_all),CBd (by grind) (hr _ (List.getElem_mem hi)),Option.bind_some,drop_at hi,Vb]
   cases h2:(Xa b l[i]).2
   ·rfl
   ·have h3:=TA1 h2
    rw [PY (by rfl),cond_true]
    exact ih (i+1) m (Xa b l[i]).1 (by omega) (by omega)
 obtain ⟨m,hm⟩:=gm (n:=l.length) (by omega)
 rw [UAE,PAw,mk,WBD hb,Option.bind_some,hm]
 exact key l.length 0 m b (by omega) hb
theorem TBd {k:ByteArray} {d:SDisk} (hk:k.size≤900000000) (hd:d.fFiles.length≤140737488351232) (hf:∀ f ∈ d.fFiles,f.fText.size≤140737488351232):BAW k d=some (Xe k d):=by
 have hfs:(Yg d La).1.size≤140737488351232:=JA2 hf
 obtain ⟨r1,r2⟩:=FBD k (Yg d La).1
 have hl:=GBD k (Yg d La).1
 rw [BAW,QAw,mk,show (⟨#[98,111,111,107]⟩:ByteArray)=La from rfl,show (⟨#[98,111,111,107,43]⟩:ByteArray)=nNew from rfl,JBd hd,Option.bind_some,SBd hk hfs,Option.bind_some,EBE,Option.bind_some,PBE (Nat.zero_le _) (by omega) (EBc _ _),Option.bind_some,DBE hd,Option.bind_some,GBE hd,Xe]
 cases Tf d
 ·rfl
 cases (Vb Qc (Jk k (Yg d La).1).1).2
 ·rfl
 grind
theorem BA3 {b:SBook} {t:Int} (h:b.fThings.length≤140737488351232):VAE b t=some (match Ic b.fThings t with | some x=>(x,true) | none=>(UAB,false)):=by
 have hp:=ZBA t b.fThings 0
 simp only [VAE,RAw,mk,WA2 h,Option.bind_some]
 cases hq:Gn b.fThings t 0 with
 | none=>rw [hq] at hp;simp only at hp ⊢;rw [hp];rfl
 | some j=>
  grind
theorem UBd {b:SBox} (hl:b.fLives.length≤140737488351232) (ht:b.fBook.fThings.length≤140737488351232):DAW b=some (L8 b):=by
 have key:∀ (j i m:Nat),i+j=b.fLives.length→OAL (m+j+1) (.c0 b.fLives (b.fLives.length:Int) (i:Int) b)=some (Yt b j i):=by
  intro j
  induction j with
  | zero=>
   intro i m hi
   rw [OAL];simp only [BAh,mk]
   rw [PY (by simp_all)];rfl
  | succ j ih=>
   intro i m hi
   have hw:w64 ((i:Int)+1)=((i+1:Nat):Int):=by grind [w64_id]
   have d1:decide ((i:Int)<(b.fLives.length:Int))=true:=decide_eq_true (by omega)
   have d0:decide ((0:Int)≤(i:Int))=true:=decide_eq_true (by omega)
   rw [aj m j,OAL]
   simp only [BAh,mk,BA3 ht,Yh,Option.bind_some,d0,d1,Bool.and_self,cond_true,Int.toNat_natCast,hw,ih (i+1) m (by omega),Yt,U2]
   grind [w64_id,Int.toNat_natCast]
 obtain ⟨m,hm⟩:=gm (n:=b.fLives.length) (by omega)
 rw [DAW,TAw,mk,hm]
 exact key b.fLives.length 0 m (Nat.zero_add _)
theorem CA3 {b:SBox} (hd:b.fDisk.fFiles.length≤140737488351232) (hf:∀ f ∈ b.fDisk.fFiles,f.fText.size≤140737488351232) (ht:b.fBook.fThings.length≤140737488351232) (hs:b.fSessions.length≤140737488351232) (hl:b.fLives.length≤140737488351232):FAB b=some (Au b):=by
 rw [FAB,UAw,mk,DBE hd,Yh,Au]
 simp only [Option.bind_some,bne]
 cases hz:(b.fKey.size:Int) == 32
 ·rfl
 have hk:b.fKey.size≤900000000:=by grind
 obtain ⟨l1,l2⟩:=QA2 b.fKey b.fDisk
 have key:b.fUp=true→∀ (j i m:Nat),i+j=b.fSessions.length→i≤3→PAL (m+j+1) (.c0 b.fSessions (b.fSessions.length:Int) (i:Int) b)=some (decide ((b.fSessions.length:Int)≤3) && (Fq b j i && GAC b)):=by
  intro hup j
  induction j with
  | zero=>
   intro i m hi h3
   rw [PAL];simp only [FAW,mk]
   rw [PY (by simp_all),GAC,hup,decide_eq_true (by omega:(b.fSessions.length:Int)≤3)]
   simp only [TBd hk hd hf,FBE (show (Xe b.fKey b.fDisk).1.fThings.length≤140737488351232 by omega),VBD ht,UBd hl ht,Option.bind_some]
   cases (Xe b.fKey b.fDisk).2.2 <;> cases ((Xe b.fKey b.fDisk).2.1.length:Int) == 0 <;> cases Jg b.fBook <;> cases Gy (Xe b.fKey b.fDisk).1 b.fBook <;> rfl
  | succ j ih=>
   intro i m hi h3
   have hw:w64 ((i:Int)+1)=((i+1:Nat):Int):=by grind [w64_id]
   have d1:decide ((i:Int)<(b.fSessions.length:Int))=true:=decide_eq_true (by omega)
   have d0:decide ((0:Int)≤(i:Int))=true:=decide_eq_true (by omega)
   rw [aj m j,PAL]
   by_cases h4:i=3
   ·simp_all [FAW,mk,decide_eq_false]
   have d3:decide ((i:Int)≥3)=false:=decide_eq_false (by omega)
   simp only [FAW,mk,Yh,Option.bind_some,d0,d1,d3,Bool.and_self,cond_true,cond_false,Int.toNat_natCast,hw,ih (i+1) m (by omega) (by omega),Fq,VAF]
   cases KZ (b.fSessions.getD i ⟨0,false⟩).fId 1 b.fOpened
   all_goals grind [w64_id,decide,Int.toNat_natCast]
 cases hdk:Tf b.fDisk
 ·rfl
 cases ho:KZ b.fOpened 0 1000
 ·simp
 cases hup:b.fUp
 ·rw [GAC,hup]
  simp only [EBE,FBE ht,Option.bind_some,Bool.not_false,Bool.not_true,cond_true,cond_false,Bool.true_and]
  cases hn:(b.fSessions.length:Int) == 0
  ·simp
  ·have hn0:b.fSessions.length=0:=by simp_all
   rw [hn0]
   grind [Fq]
 ·obtain ⟨m,hm⟩:=gm (n:=b.fSessions.length) (by omega)
  have h0:=key hup b.fSessions.length 0 m (Nat.zero_add _) (by omega)
  simp_all
def Gq (c:SCall):Bool:=KZ c.fOp 1 13 && KZ c.fSession 0 1000 && KZ c.fThing 0 1000 && KZ c.fKind 0 3 && decide ((c.fText.size:Int)≤1000)
theorem QBE (c:SCall):LAU c=some (Gq c):=by
 simp only [LAU,QAu,mk,Rf,Option.bind_some,Gq]
 grind
theorem RBE (c:SCall):QAL c=some (Gq c):=by
 simp only [QAL,VAw,mk,Yh,Option.bind_some,Gq]
 grind
def Y2:List SSession→Int→Nat→Option Nat
 | [],_,_=>none
 | l::ls,t,i=>if l.fId == t then some i else Y2 ls t (i+1)
theorem SBE {t:Int}:∀ {ls:List SSession} {i j:Nat},Y2 ls t i=some j→i≤j∧j<i+ls.length:=by
 intro ls
 induction ls<;>grind [Y2]
def Gs (b:SBox) (t:Int):Int:=match Y2 b.fSessions t 0 with | some j=>(j:Int) | none=> -1
theorem VBd {b:SBox} {t:Int} (h:b.fSessions.length≤140737488351232):DAh b t=some (Gs b t):=by
 have key:∀ (j i m:Nat),i+j=b.fSessions.length→RAL (m+j+1) (.c0 t b.fSessions (b.fSessions.length:Int) (i:Int))=some (match Y2 (b.fSessions.drop i) t i with | some j=>(j:Int) | none=> -1):=by
  intro j
  induction j with
  | zero=>
   intro i m hi
   rw [RAL];simp only [CAh,mk]
   rw [PY (by simp_all),List.drop_of_length_le (by omega)];rfl
  | succ j ih=>
   intro i m hi
   have hil:i<b.fSessions.length:=by omega
   have hw:w64 ((i:Int)+1)=((i+1:Nat):Int):=by grind [w64_id]
   grind [RAL,CAh,Int.toNat_natCast,drop_at,Y2]
 obtain ⟨m,hm⟩:=gm (n:=b.fSessions.length) (by omega)
 rw [DAh,YAw,mk,hm]
 exact key b.fSessions.length 0 m (Nat.zero_add _)
def JAN (n:Int):ByteArray:=[(⟨#[]⟩:ByteArray),⟨#[102,117,108,108]⟩,⟨#[115,101,115,115,105,111,110]⟩,⟨#[108,111,99,107,101,100]⟩,⟨#[119,111,114,100]⟩,⟨#[111,117,116]⟩,⟨#[119,114,111,110,103]⟩,⟨#[110,111,110,101]⟩,⟨#[112,111,108,105,99,121]⟩,⟨#[100,111,119,110]⟩].getD n.toNat ⟨#[]⟩
def Nk (n:Int):List SRec×Int×ByteArray:=([],n,JAN n)
theorem Js {n:Int} (h:0≤n∧n<10):GAB n=some (Nk n):=by
 rw [GAB,WAw,mk,TB (by simp_all)];rfl
noncomputable def KAN (b:SBox) (c:SCall):List SRec×Int×ByteArray:=
 bif decide (b.fBook.fTries≥3) then Nk 3
 else bif !((Ob c.fText).toList == b.fBook.fWord.toList) then ([⟨2,⟨#[]⟩,b.fBook.fTries+1,⟨0,0,false,false,false,false,⟨#[]⟩,0⟩⟩],4,JAN 4)
 else bif b.fBook.fTries == 0 then ([],0,⟨#[]⟩) else ([⟨2,⟨#[]⟩,0,⟨0,0,false,false,false,false,⟨#[]⟩,0⟩⟩],0,⟨#[]⟩)
theorem WBd {b:SBox} {c:SCall} (ht:0≤b.fBook.fTries) (hc:c.fText.size≤1000000000):EAh b c=some (KAN b c):=by
 rw [EAh,ZAw,mk,KAN]
 simp only [Js (n:=3) (by decide),Js (n:=4) (by decide),Xr hc,Option.bind_some]
 by_cases h:b.fBook.fTries≥3
 ·simp_all
 ·rw [decide_eq_false h,w64_id (by omega) (by omega)]
  cases !((Ob c.fText).toList == b.fBook.fWord.toList) <;> cases b.fBook.fTries == 0 <;> rfl
theorem Good.pOk {k:ByteArray} {l:List SRec} {b:SBox} (g:Good k l b):FAB b=some true:=by
 have hs:=g.small
 have h1:=hs.1
 have h2:=g.tng
 have h3:=g.ses.1
 have h4:=g.liv.2
 rw [CA3 (by omega) (fun f hf=>by have:=hs.2 f hf;omega) (by omega) (by omega) (by omega),g.ok]
theorem TBE {c:SCall} (h:Gq c=true):c.fText.size≤1000:=by
 grind [Gq]
def defaults (kind:Int) (data:ByteArray):SThing×Bool:=
 bif kind == 1 then (⟨0,kind,true,false,false,true,Ob data,0⟩,true)
 else bif kind == 2 then (⟨0,kind,true,false,true,false,Ob data,0⟩,true)
 else bif kind == 3 then (bif decide ((data.size:Int)≤100) then (⟨0,kind,false,false,false,false,data,0⟩,true) else (⟨0,0,false,false,false,false,⟨#[]⟩,0⟩,false))
 else (⟨0,0,false,false,false,false,⟨#[]⟩,0⟩,false)
theorem YBd (kind:Int) {data:ByteArray} (h:data.size≤1000000000):UAd kind data=some (defaults kind data):=by
 simp only [UAd,NAq,mk,Hl h,Option.bind_some,defaults]
 grind
theorem ZBd (kind:Int) {data:ByteArray} (h:data.size≤1000000000):FAh kind data=some (defaults kind data):=by
 simp only [FAh,AAx,mk,Xr h,Option.bind_some,defaults]
 grind
def b1 (n:Int):ByteArray:=ofBytes [n]
theorem Vf (n:Int):(b1 n).size=1:=by rfl
def Cb (s:ByteArray):ByteArray:=(Ob s).extract 0 4
theorem Hy (s:ByteArray):(Cb s).size=4:=by rfl
def Ih (leaf chain:Int):Nat→Int→ByteArray→ByteArray
 | 0,_,x=>x
 | n+1,f,x=>Ih leaf chain n (f+1) (Cb (b1 leaf++b1 chain++b1 f++x))
theorem ABe {leaf chain:Int}:∀ (n:Nat) (f:Int) (x:ByteArray),x.size=4→(Ih leaf chain n f x).size=4:=by
 intro n
 induction n with
 | zero=>intro f x h;exact h
 | succ n ih=>intro f x h;exact ih _ _ (Hy _)
theorem WAF (leaf chain:Int) (f:Int) (x:ByteArray):∀ n:Nat,Ih leaf chain (n+1) f x=Cb (b1 leaf++b1 chain++b1 (f+n)++Ih leaf chain n f x):=by
 intro n
 induction n generalizing f x<;>grind [Ih]
def XAF:ByteArray:=⟨#[111]⟩
def YAF:ByteArray:=⟨#[110]⟩
def keyAt (seed:ByteArray) (leaf c:Int):ByteArray:=Cb (seed++b1 leaf++b1 c++XAF)
def Zg (seed:ByteArray) (leaf:Int) (n:Nat):List ByteArray:=(List.range n).map fun c:Nat=>keyAt seed leaf (c:Int)
def Xc:List ByteArray→ByteArray
 | []=>⟨#[]⟩
 | x::xs=>x++Xc xs
theorem BBe (s:ByteArray):(⟨#[]⟩:ByteArray)++s=s:=Yi (by rfl)
theorem LAN (s:ByteArray):s++(⟨#[]⟩:ByteArray)=s:=Yi (by simp [Ue,OBW])
theorem EAa (a b c:ByteArray):a++b++c=a++(b++c):=Yi (by simp [Ue])
theorem RAk (a b:List ByteArray):Xc (a++b)=Xc a++Xc b:=by
 induction a<;>simp_all [BBe,Xc,EAa]
theorem J3 {l:List ByteArray} {n:Nat} (h:∀ x ∈ l,x.size=n):(Xc l).size=l.length*n:=by
 induction l with
 | nil=>simp [Xc];rfl
 | cons x xs ih=>grind [Xc]
def Qk (level place:Int) (a b:ByteArray):ByteArray:=Cb (b1 level++b1 place++a++b++YAF)
theorem nbq (a b:Nat):Nat.beq a b=decide (a=b):=by
 grind [Nat.eq_of_beq_eq_true,Nat.beq_refl]
theorem FAa {s:ByteArray} (h:s.size≤1000000000):Nr s=some (Cb s):=by
 rw [Nr,LAx,mk,Xr h,Option.bind_some,Ig,TB (by rfl)];rfl
theorem UBE {s:ByteArray} {leaf:Int} (hl:0≤leaf∧leaf≤255) (hs:s.size≤100000):TAL s leaf=some (Zg s leaf 10):=by
 have key:∀ (j i m:Nat),i+j=10→WAE (m+j+1) (.c0 s leaf (i:Int) (Zg s leaf i))=some (Zg s leaf 10):=by
  intro j
  induction j with
  | zero=>
   grind [WAE,NAh]
  | succ j ih=>
   intro i m hi
   have hw:w64 ((i:Int)+1)=((i+1:Nat):Int):=by grind [w64_id]
   have ho:(Zg s leaf i).length=i:=by simp [Zg]
   have hm:Zg s leaf i++[keyAt s leaf (i:Int)]=Zg s leaf (i+1):=by simp [Zg,List.range_succ]
   rw [aj m j,WAE]
   simp only [NAh,mk,hw]
   rw [TB (by grind),Il hl.1 hl.2,Option.bind_some]
   show (bif decide (s.size+(b1 leaf).size≤_) then _ else _)=_
   rw [TB (by grind [Vf]),Il (by omega) (by omega),Option.bind_some]
   show (bif decide ((s++b1 leaf).size+(b1 (i:Int)).size≤_) then _ else _)=_
   rw [TB (by grind [Vf])]
   show (bif decide ((s++b1 leaf++b1 (i:Int)).size+XAF.size≤_) then _ else _)=_
   have hO:XAF.size=1:=rfl
   rw [TB (by grind [Vf])]
   show (Nr (s++b1 leaf++b1 (i:Int)++XAF)).bind _=_
   rw [FAa (by grind [Vf]),Option.bind_some,ho,TB (by grind)]
   show WAE (m+j+1) (.c0 s leaf ((i+1:Nat):Int) (Zg s leaf i++[keyAt s leaf (i:Int)]))=_
   rw [hm]
   exact ih (i+1) m (by omega)
 obtain ⟨m,hm⟩:∃ m,gas=m+10+1:=⟨gas - 11,by rfl⟩
 rw [TAL,MAx,hm]
 exact key 10 0 m rfl
theorem VBE {x:ByteArray} {leaf chain:Int} {f n:Nat} (hl:0≤leaf∧leaf≤255) (hc:0≤chain∧chain≤255) (hn:n≤15) (hf:f+n≤255) (hx:x.size≤100000):N7 x leaf chain (f:Int) (n:Int)=some (Ih leaf chain n f x):=by
 have hs:∀ i,(Ih leaf chain i f x).size≤100000:=fun i=>by
  cases i with
  | zero=>exact hx
  | succ i=>simp [WAF,Hy]
 have key:∀ (j i m:Nat),i+j=n→UAL (m+j+1) (.c0 (Ih leaf chain i f x) leaf chain (f:Int) (n:Int) (i:Int))=some (Ih leaf chain n f x):=by
  intro j
  induction j with
  | zero=>
   grind [UAL,QAh]
  | succ j ih=>
   intro i m hi
   have hw:w64 ((i:Int)+1)=((i+1:Nat):Int):=by grind [w64_id]
   have hsi:=hs i
   have hm:=WAF leaf chain f x i
   rw [aj m j,UAL]
   simp only [QAh,mk,hw]
   rw [TB (by grind),Il hl.1 hl.2,Option.bind_some,Il hc.1 hc.2,Option.bind_some,w64_id (by omega) (by omega),Il (by omega) (by omega)]
   grind [b1,Vf,Ih,FAa]
 obtain ⟨m,hm⟩:=gm (n:=n) (by omega)
 have hi:(ite ((15:Int)<(n:Int)) 15 (n:Int))=(n:Int):=if_neg (by omega)
 rw [N7,PAx,hi,hm]
 exact key n 0 m (Nat.zero_add _)
def Rn (keys:List ByteArray) (leaf:Int) (n:Nat):List ByteArray:=(List.range n).map fun c:Nat=>Ih leaf (c:Int) 15 0 (keys.getD c ⟨#[]⟩)
theorem SAk {keys:List ByteArray} {leaf:Int} {n:Nat}:∀ x ∈ Rn keys leaf n,x.size=4:=fun x hx=>by
 grind [Rn,WAF,Hy]
theorem TAk (keys:List ByteArray) (leaf:Int) (n:Nat):(Rn keys leaf n).length=n:=by simp [Rn]
def O8 (keys:List ByteArray) (leaf:Int):ByteArray:=Cb (Xc (Rn keys leaf 10))
theorem DBe {keys:List ByteArray} {leaf:Int} (hk:keys.length=10) (hl:0≤leaf∧leaf≤255) (hs:∀ x ∈ keys,x.size≤100000):RAW keys leaf=some (O8 keys leaf):=by
 have key:∀ (j i m:Nat),i+j=10→JAB (m+j+1) (.c0 leaf 321 322 (Xc (Rn keys leaf i)) keys ((keys.length:Nat):Int) (i:Int))=some (O8 keys leaf):=by
  intro j
  induction j with
  | zero=>
   intro i m hi
   obtain rfl:i=10:=by omega
   have hz:=J3 (SAk (keys:=keys) (leaf:=leaf) (n:=10))
   rw [TAk] at hz
   rw [JAB];simp only [RAh,mk]
   rw [hk,PY (by rfl),FAa (by omega)];rfl
  | succ j ih=>
   intro i m hi
   have hlt:i<keys.length:=by omega
   have hw:=w_up (i:=i) (by omega)
   have hz:=J3 (SAk (keys:=keys) (leaf:=leaf) (n:=i))
   rw [TAk] at hz
   have hc:=WAF leaf (i:Int) 0 keys[i] 14
   have hc2:(Ih leaf (i:Int) 15 0 keys[i]).size=4:=by rw [hc];exact Hy _
   have hm:Xc (Rn keys leaf i)++Ih leaf (i:Int) 15 0 keys[i]=Xc (Rn keys leaf (i+1)):=by
    rw [Rn,Rn,List.range_succ,List.map_append,RAk,List.map_cons,List.map_nil,Xc,Xc,LAN,getD_at hlt]
   rw [aj m j,JAB]
   simp only [RAh,mk,hw,Int.toNat_natCast,getD_at hlt]
   rw [cond_d (by omega),cond_in (by omega)]
   simp only [nbq,Nat.reduceEqDiff,decide_true,decide_false,cond_true,cond_false,OAh,NAx,PAh,OAx,Option.bind_some]
   have hch:=VBE (x:=keys[i]) (leaf:=leaf) (chain:=(i:Int)) (f:=0) (n:=15) hl (by omega) (Nat.le_refl _) (by omega) (hs _ (List.getElem_mem hlt))
   rw [show N7 keys[i] leaf (i:Int) 0 15=_ from hch,Option.bind_some]
   show (bif decide ((Xc (Rn keys leaf i)).size+(Ih leaf (i:Int) 15 0 keys[i]).size≤_) then JAB (m+j+1) (.c0 leaf 321 322 (Xc (Rn keys leaf i)++Ih leaf (i:Int) 15 0 keys[i]) keys ((keys.length:Nat):Int) ((i+1:Nat):Int)) else none)=_
   rw [cond_d (by rw [hc2];omega),hm]
   exact ih (i+1) m (by omega)
 obtain ⟨m,hm⟩:=gm (n:=10) (by omega)
 rw [RAW,SAx,mk,RAx,QAx,mk,PY (by rw [hk];rfl),hm]
 show (JAB (m+10+1) (.c0 leaf 321 322 (Xc (Rn keys leaf 0)) keys ((keys.length:Nat):Int) ((0:Nat):Int))).bind _=_
 rw [key 10 0 m rfl];rfl
theorem EBe (keys:List ByteArray) (leaf:Int):(O8 keys leaf).size=4:=Hy _
def Tn (s:ByteArray) (n:Nat):List ByteArray:=(List.range n).map fun l:Nat=>O8 (Zg s (l:Int) 10) (l:Int)
theorem GAa (s:ByteArray) (leaf:Int) (n:Nat):(Zg s leaf n).length=n:=by simp [Zg]
theorem HAa {s:ByteArray} {leaf:Int} {n:Nat}:∀ x ∈ Zg s leaf n,x.size=4:=fun x hx=>by
 rw [Zg,List.mem_map] at hx
 obtain ⟨c,_,rfl⟩:=hx
 rfl
theorem WBE {s:ByteArray} (hs:s.size≤100000):TAW s=some (Tn s 4):=by
 have key:∀ (j i m:Nat),i+j=4→VAL (m+j+1) (.c0 s (i:Int) (Tn s i))=some (Tn s 4):=by
  intro j
  induction j with
  | zero=>
   grind [VAL,SAh]
  | succ j ih=>
   intro i m hi
   have hw:w64 ((i:Int)+1)=((i+1:Nat):Int):=by grind [w64_id]
   have ho:(Tn s i).length=i:=by simp [Tn]
   have hm:Tn s i++[O8 (Zg s (i:Int) 10) (i:Int)]=Tn s (i+1):=by simp [Tn,List.range_succ]
   rw [aj m j,VAL]
   simp only [SAh,mk,hw]
   rw [TB (by grind),UBE (by omega) hs,Option.bind_some,DBe (GAa _ _ _) (by omega) (fun x hx=>by grind [HAa]),Option.bind_some,ho,TB (by grind),hm]
   exact ih (i+1) m (by omega)
 obtain ⟨m,hm⟩:∃ m,gas=m+4+1:=⟨gas - 5,by rfl⟩
 rw [TAW,TAx,hm]
 exact key 4 0 m rfl
theorem DA3 {level place:Int} {a b:ByteArray} (hl:0≤level∧level≤255) (hp:0≤place∧place≤255) (ha:a.size≤100000) (hb:b.size≤100000):KAB level place a b=some (Qk level place a b):=by
 have hN:YAF.size=1:=rfl
 rw [KAB,UAx,mk,Il hl.1 hl.2,Option.bind_some,Il hp.1 hp.2,Option.bind_some]
 show (bif decide ((b1 level).size+(b1 place).size≤_) then _ else _)=_
 rw [TB (by rfl)]
 show (bif decide ((b1 level++b1 place).size+a.size≤_) then _ else _)=_
 rw [TB (by grind [Vf])]
 show (bif decide ((b1 level++b1 place++a).size+b.size≤_) then _ else _)=_
 rw [TB (by grind [Vf])]
 show (bif decide ((b1 level++b1 place++a++b).size+YAF.size≤_) then _ else _)=_
 rw [TB (by grind [Vf])]
 show (Nr (b1 level++b1 place++a++b++YAF)).bind _=_
 rw [FAa (by grind [Vf])];rfl
theorem O3 (level place:Int) (a b:ByteArray):(Qk level place a b).size=4:=Hy _
theorem XBE {lv:Int} {a b c d:ByteArray} (hl:0≤lv∧lv≤255) (ha:a.size≤100000) (hb:b.size≤100000) (hc:c.size≤100000) (hd:d.size≤100000):O7 lv [a,b,c,d]=some [Qk lv 0 a b,Qk lv 1 c d]:=by
 obtain ⟨m,hm⟩:∃ m,gas=m+1+1+1:=⟨gas - 3,rfl⟩
 rw [O7,TAh,hm,LAB]
 simp only [VAW,mk]
 rw [TB (by rfl),TB (by rfl),TB (by rfl)]
 show (KAB lv 0 a b).bind _=_
 rw [DA3 hl (by omega) ha hb,Option.bind_some,TB (by rfl),LAB]
 simp only [VAW,mk]
 rw [TB (by rfl),TB (by rfl),TB (by rfl)]
 show (KAB lv 1 c d).bind _=_
 rw [DA3 hl (by omega) hc hd,Option.bind_some,TB (by rfl),LAB]
 rfl
theorem YBE {lv:Int} {a b:ByteArray} (hl:0≤lv∧lv≤255) (ha:a.size≤100000) (hb:b.size≤100000):O7 lv [a,b]=some [Qk lv 0 a b]:=by
 obtain ⟨m,hm⟩:∃ m,gas=m+1+1:=⟨gas - 2,rfl⟩
 rw [O7,TAh,hm,LAB]
 simp only [VAW,mk]
 rw [TB (by rfl),TB (by rfl),TB (by rfl)]
 show (KAB lv 0 a b).bind _=_
 rw [DA3 hl (by omega) ha hb,Option.bind_some,TB (by rfl),LAB]
 rfl
def EA3 (a b c d:ByteArray):ByteArray:=Qk 2 0 (Qk 1 0 a b) (Qk 1 1 c d)
theorem FBe {a b c d:ByteArray} (ha:a.size≤100000) (hb:b.size≤100000) (hc:c.size≤100000) (hd:d.size≤100000):VAh [a,b,c,d]=some (EA3 a b c d):=by
 obtain ⟨m,hm⟩:∃ m,gas=m+1+1+1:=⟨gas - 3,rfl⟩
 have n1:=O3 1 0 a b
 have n2:=O3 1 1 c d
 rw [VAh,VAx,mk,PY (by rfl),hm,WAL]
 simp only [UAh,mk]
 rw [TB (by rfl),XBE (by omega) ha hb hc hd,Option.bind_some,show w64 (1+1)=2 by rfl,WAL]
 simp only [UAh,mk]
 rw [TB (by rfl),YBE (by omega) (by omega) (by omega),Option.bind_some,WAL]
 rfl
def Eu (s:ByteArray) (l:Int):ByteArray:=O8 (Zg s l 10) l
theorem Rk (s:ByteArray) (l:Int):(Eu s l).size=4:=EBe _ _
theorem UAk (s:ByteArray):Tn s 4=[Eu s 0,Eu s 1,Eu s 2,Eu s 3]:=rfl
def U3 (s:ByteArray):ByteArray:=EA3 (Eu s 0) (Eu s 1) (Eu s 2) (Eu s 3)
theorem VAk (s:ByteArray):(U3 s).size=4:=O3 _ _ _ _
theorem ZBE {s:ByteArray} (hs:s.size≤100000):XAL s=some (U3 s):=by
 rw [XAL,WAx,mk,WBE hs,Option.bind_some,UAk,FBe (by simp [Rk]) (by simp [Rk]) (by simp [Rk]) (by simp [Rk])];rfl
theorem GBe {b:Int} (h:0≤b∧b≤255):w64 (Int.fdiv b (2 ^ (Min.min (4:Int).toNat (IntKind.bits IntKind.u8))))=b / 16:=by
 grind [IntKind.bits,w64_id]
theorem HBe {b:Int} (h:0≤b∧b≤255):w64 (w8 (((BitVec.toNat ((BitVec.ofInt (IntKind.bits IntKind.u8) b) &&& (BitVec.ofInt (IntKind.bits IntKind.u8) 15))):Nat):Int))=b % 16:=by
 obtain ⟨n,rfl⟩:∃ n:Nat,b=(n:Int):=⟨b.toNat,by omega⟩
 have e:(BitVec.ofInt (IntKind.bits IntKind.u8) (n:Int) &&& BitVec.ofInt (IntKind.bits IntKind.u8) 15).toNat=n % 16:=by
  show (BitVec.ofInt 8 (n:Int) &&& BitVec.ofInt 8 15).toNat=_
  rw [BitVec.toNat_and,BitVec.ofInt_natCast,BitVec.toNat_ofNat,Nat.mod_eq_of_lt (by omega),show (BitVec.ofInt 8 15).toNat=2 ^ 4 - 1 by decide,Nat.and_two_pow_sub_one_eq_mod]
 grind [w8_id,w64_id]
def Zd:List Int→List Int
 | []=>[]
 | b::bs=>b / 16::b % 16::Zd bs
theorem ABF (a b:List Int):Zd (a++b)=Zd a++Zd b:=by
 induction a<;>simp_all [Zd]
theorem IAa (a:List Int):(Zd a).length=2*a.length:=by
 induction a<;>grind [Zd]
theorem WAk {a:List Int} (h:He a):∀ d ∈ Zd a,0≤d∧d≤15:=by
 induction a with
 | nil=>intro d hd;cases hd
 | cons x xs ih=>
  intro d hd
  have hx:=h x (List.mem_cons_self ..)
  rw [Zd,List.mem_cons,List.mem_cons] at hd
  rcases hd with rfl | rfl | hd
  ·omega
  ·omega
  ·exact ih (fun y hy=>h y (List.mem_cons_of_mem _ hy)) d hd
def Zh:List Int→Int
 | []=>0
 | d::ds=>15 - d+Zh ds
theorem BBF (a b:List Int):Zh (a++b)=Zh a+Zh b:=by
 induction a<;>grind [Zh]
theorem JAa {a:List Int} (h:∀ d ∈ a,0≤d∧d≤15):0≤Zh a∧Zh a≤15*(a.length:Int):=by
 induction a with
 | nil=>exact ⟨Int.le_refl _,Int.le_refl _⟩
 | cons x xs ih=>
  have hx:=h x (List.mem_cons_self ..)
  have:=ih (fun y hy=>h y (List.mem_cons_of_mem _ hy))
  grind [Zh]
def Gu (m:ByteArray):List Int:=Zd (bs (Cb m))++[Zh (Zd (bs (Cb m))) / 16,Zh (Zd (bs (Cb m))) % 16]
theorem CBF (m:ByteArray):(Gu m).length=10∧∀ d ∈ Gu m,0≤d∧d≤15:=by
 have h1:=WAk (Uh (Cb m))
 have h2:=IAa (bs (Cb m))
 have h3:=JAa h1
 grind [bs_len,Hy,Gu]
theorem IBe {s:ByteArray} (hs:s.size≤1000000000):YAW s=some (Gu s):=by
 have hz:=Hy s
 have hin:=WAk (Uh (Cb s))
 have hln:=IAa (bs (Cb s))
 rw [bs_len,hz] at hln
 have loop2:∀ (j i m:Nat),i+j=8→P7 (m+j+1) (.c1 (Zh ((Zd (bs (Cb s))).take i)) ((8:Nat):Int) (i:Int) (Zd (bs (Cb s))))=some (Gu s):=by
  intro j
  induction j with
  | zero=>
   intro i m hi
   obtain rfl:i=8:=by omega
   have h3:=JAa hin
   rw [List.take_of_length_le (by omega),P7];simp only [YAL,mk]
   rw [PY (by rfl),TB (by simp_all),Int.tdiv_eq_ediv_of_nonneg h3.1,Int.tmod_eq_emod_of_nonneg h3.1,w64_id (by omega) (by omega)];rfl
  | succ j ih=>
   intro i m hi
   have hlt:i<(Zd (bs (Cb s))).length:=by omega
   have hw:w64 ((i:Int)+1)=((i+1:Nat):Int):=by grind [w64_id]
   have h3:=JAa (a:=(Zd (bs (Cb s))).take i) (fun d hd=>hin d (List.mem_of_mem_take hd))
   have h4:=hin _ (List.getElem_mem hlt)
   have hl:((Zd (bs (Cb s))).take i).length≤8:=by grind
   have hm:Zh ((Zd (bs (Cb s))).take i)+(15 - (Zd (bs (Cb s)))[i])=Zh ((Zd (bs (Cb s))).take (i+1)):=by
    rw [take_at hlt,BBF,Zh,Zh];omega
   rw [aj m j,P7]
   grind [YAL,Int.toNat_natCast,w64_id]
 have loop1:∀ (j i m:Nat),i+j=4→P7 (m+9+j+1) (.c0 0 (Cb s) (i:Int) (Zd ((bs (Cb s)).take i)))=some (Gu s):=by
  intro j
  induction j with
  | zero=>
   intro i m hi
   obtain rfl:i=4:=by omega
   rw [P7];simp only [YAL,mk]
   rw [PY (by rfl),List.take_of_length_le (by grind [bs_len]),hln]
   exact loop2 8 0 m rfl
  | succ j ih=>
   intro i m hi
   have hlt:i<(Cb s).size:=by omega
   have hlt2:i<(bs (Cb s)).length:=by grind [bs_len]
   have hw:w64 ((i:Int)+1)=((i+1:Nat):Int):=by grind [w64_id]
   have hb:=Ux (Cb s) (i:Int)
   have hl:(Zd ((bs (Cb s)).take i)).length≤8:=by grind [IAa]
   have hm:Zd ((bs (Cb s)).take i)++[bt (Cb s) (i:Int) / 16,bt (Cb s) (i:Int) % 16]=Zd ((bs (Cb s)).take (i+1)):=by
    rw [take_at hlt2,ABF,SAM hlt];rfl
   rw [show m+9+(j+1)+1=(m+9+j+1)+1 from rfl,P7]
   simp only [YAL,mk,hw,GBe hb,HBe hb]
   rw [TB (by grind),TB (by grind),TB (by grind),TB (by grind),hm]
   exact ih (i+1) m (by omega)
 obtain ⟨m,hm⟩:∃ m,gas=m+9+4+1:=⟨gas - 14,by rfl⟩
 rw [YAW,XAx,FAa hs,Option.bind_some,hm]
 exact loop1 4 0 m rfl
def Un (keys:List ByteArray) (leaf:Int) (ds:List Int) (n:Nat):List ByteArray:=(List.range n).map fun c:Nat=>Ih leaf (c:Int) (ds.getD c 0).toNat 0 (keys.getD c ⟨#[]⟩)
theorem JBe {x:ByteArray} {leaf d:Int} {i:Nat} (hl:0≤leaf∧leaf≤255) (hi:i<10) (hx:x.size≤100000) (hd:0≤d∧d≤15):N7 x leaf (i:Int) 0 d=some (Ih leaf (i:Int) d.toNat 0 x):=by
 obtain ⟨n,rfl⟩:∃ n:Nat,d=(n:Int):=⟨d.toNat,by omega⟩
 rw [Int.toNat_natCast]
 exact VBE (f:=0) (n:=n) hl (by omega) (by omega) (by omega) hx
theorem KBe {keys:List ByteArray} {leaf:Int} {s:ByteArray} (hk:keys.length=10) (hl:0≤leaf∧leaf≤255) (hs:∀ x ∈ keys,x.size≤100000) (hm:s.size≤1000000000):XAh keys leaf s=some (Un keys leaf (Gu s) 10):=by
 obtain ⟨d1,d2⟩:=CBF s
 have hdig:=IBe hm
 generalize Gu s=D at d1 d2 hdig
 have key:∀ (j i m:Nat),i+j=10→ZAL (m+j+1) (.c0 leaf keys ((keys.length:Nat):Int) (i:Int) D (Un keys leaf D i))=some (Un keys leaf D 10):=by
  intro j
  induction j with
  | zero=>
   grind [ZAL,WAh]
  | succ j ih=>
   intro i m hi
   have hlt:i<keys.length:=by omega
   have hlt2:i<D.length:=by omega
   have hw:w64 ((i:Int)+1)=((i+1:Nat):Int):=by grind [w64_id]
   have hd:=d2 _ (List.getElem_mem hlt2)
   have ho:(Un keys leaf D i).length=i:=by simp [Un]
   have hstep:Un keys leaf D i++[Ih leaf (i:Int) D[i].toNat 0 keys[i]]=Un keys leaf D (i+1):=by
    grind [Un,List.range_succ]
   have hch:=JBe hl (show i<10 by omega) (hs _ (List.getElem_mem hlt)) hd
   grind [ZAL,WAh,Int.toNat_natCast]
 obtain ⟨m,hm2⟩:∃ m,gas=m+10+1:=⟨gas - 11,by rfl⟩
 rw [XAh,YAx,mk,PY (by simp_all),hdig,Option.bind_some,hm2]
 exact key 10 0 m rfl
def MAN (a b c d:ByteArray) (leaf:Int):List ByteArray:=
 if leaf=0 then [b,Qk 1 1 c d] else if leaf=1 then [a,Qk 1 1 c d] else if leaf=2 then [d,Qk 1 0 a b] else [c,Qk 1 0 a b]
theorem XAk {a b c d:ByteArray} {m:Nat} {leaf sib up:Int} (ha:a.size≤100000) (hb:b.size≤100000) (hc:c.size≤100000) (hd:d.size≤100000) (hs:w64 (((BitVec.toNat ((BitVec.ofInt (IntKind.bits IntKind.i64) leaf) ^^^ (BitVec.ofInt (IntKind.bits IntKind.i64) 1))):Nat):Int)=sib) (h0:0≤sib∧sib<4) (hu:w64 (leaf.tdiv 2)=up) :
  MAB (m+1) (.c0 [a,b,c,d] leaf 1 [])=MAB m (.c1 up 2 [Qk 1 0 a b,Qk 1 1 c d] [[a,b,c,d].getD sib.toNat ⟨#[]⟩]):=by
 simp_all [MAB,YAh,mk,XBE,w64_id]
theorem YAk {a b x:ByteArray} {m:Nat} {leaf sib:Int} (ha:a.size≤100000) (hb:b.size≤100000) (hs:w64 (((BitVec.toNat ((BitVec.ofInt (IntKind.bits IntKind.i64) leaf) ^^^ (BitVec.ofInt (IntKind.bits IntKind.i64) 1))):Nat):Int)=sib) (h0:0≤sib∧sib<2) :
  MAB (m+1+1) (.c1 leaf 2 [a,b] [x])=some [x,[a,b].getD sib.toNat ⟨#[]⟩]:=by
 simp_all [MAB,YAh,mk,YBE]
theorem LBe {a b c d:ByteArray} {leaf:Int} (hl:0≤leaf∧leaf≤3) (ha:a.size≤100000) (hb:b.size≤100000) (hc:c.size≤100000) (hd:d.size≤100000):ZAh [a,b,c,d] leaf=some (MAN a b c d leaf):=by
 obtain ⟨m,hm⟩:∃ m,gas=m+1+1+1:=⟨gas - 3,rfl⟩
 have n1:=O3 1 0 a b
 have n2:=O3 1 1 c d
 rw [ZAh,ZAx,mk,PY (by rfl),Yh,Option.bind_some,Aa.2 hl,Bool.not_true,cond_false,hm]
 have h4:leaf=0∨leaf=1∨leaf=2∨leaf=3:=by omega
 rcases h4 with rfl | rfl | rfl | rfl
 ·rw [XAk (sib:=1) (up:=0) ha hb hc hd (by decide) (by omega) (by decide),YAk (sib:=1) (by omega) (by omega) (by decide) (by omega)];rfl
 ·rw [XAk (sib:=0) (up:=0) ha hb hc hd (by decide) (by omega) (by decide),YAk (sib:=1) (by omega) (by omega) (by decide) (by omega)];rfl
 ·rw [XAk (sib:=3) (up:=1) ha hb hc hd (by decide) (by omega) (by decide),YAk (sib:=0) (by omega) (by omega) (by decide) (by omega)];rfl
 ·rw [XAk (sib:=2) (up:=1) ha hb hc hd (by decide) (by omega) (by decide),YAk (sib:=0) (by omega) (by omega) (by decide) (by omega)];rfl
theorem MBe {a b c d:ByteArray} {leaf:Int} (ha:a.size=4) (hb:b.size=4) (hc:c.size=4) (hd:d.size=4):(MAN a b c d leaf).length=2∧∀ x ∈ MAN a b c d leaf,x.size=4:=by
 grind [MAN,O3]
def NAN (s:ByteArray) (leaf:Int) (m:ByteArray):SSig:=⟨leaf,Un (Zg s leaf 10) leaf (Gu m) 10,MAN (Eu s 0) (Eu s 1) (Eu s 2) (Eu s 3) leaf⟩
theorem DBF {s m:ByteArray} {leaf:Int} (hl:0≤leaf∧leaf≤3) (hs:s.size≤100000) (hm:m.size≤1000000000):AAM s leaf m=some (NAN s leaf m,true):=by
 rw [AAM,AAy,mk,Yh,Option.bind_some,Aa.2 hl,Bool.not_true,cond_false,UBE (by omega) hs,Option.bind_some,KBe (GAa _ _ _) (by omega) (fun x hx=>by grind [HAa]) hm,Option.bind_some,WBE hs,Option.bind_some,UAk,LBe hl (by simp [Rk]) (by simp [Rk]) (by simp [Rk]) (by simp [Rk])];rfl
structure V3 (s:SSig):Prop where
 leaf:0≤s.fLeaf∧s.fLeaf≤3
 once:s.fOnce.length=10∧∀ x ∈ s.fOnce,x.size=4
 path:s.fPath.length=2∧∀ x ∈ s.fPath,x.size=4
theorem NBe {keys:List ByteArray} {leaf:Int} {ds:List Int} {n:Nat} (hk:keys.length=n) (h:∀ x ∈ keys,x.size=4):(Un keys leaf ds n).length=n∧∀ x ∈ Un keys leaf ds n,x.size=4:=by
 grind [Un,ABe]
theorem ZAk {s m:ByteArray} {leaf:Int} (hl:0≤leaf∧leaf≤3):V3 (NAN s leaf m):=⟨hl,NBe (GAa _ _ _) HAa,MBe (Rk _ _) (Rk _ _) (Rk _ _) (Rk _ _)⟩
theorem EBF {l:List ByteArray} {n:Nat} (h:l.length=n) (hs:∀ x ∈ l,x.size=4) (hn:n≤1000):BAi l (n:Int)=some true:=by
 have key:∀ (j i m:Nat),i+j=l.length→CAX (m+j+1) (.c0 l (n:Int) l ((l.length:Nat):Int) (i:Int))=some true:=by
  intro j
  induction j<;>grind [CAX,DAy,w64_id]
 obtain ⟨m,hm⟩:=gm (n:=l.length) (by omega)
 rw [BAi,CAy,mk,hm]
 exact key l.length 0 m (Nat.zero_add _)
theorem OBe {s:SSig} (h:V3 s):DAX s=some true:=by
 rw [DAX,EAy,mk,Yh,Option.bind_some,Aa.2 h.leaf,cond_true]
 have h1:=EBF h.once.1 h.once.2 (by omega)
 have h2:=EBF h.path.1 h.path.2 (by omega)
 simp_all
def P8 (s:SSig):ByteArray:=b1 s.fLeaf++Xc s.fOnce++Xc s.fPath
theorem AAl {s:SSig} (h:V3 s):(P8 s).size=49:=by
 rw [P8,ByteArray.size_append,ByteArray.size_append,Vf,J3 h.once.2,J3 h.path.2,h.once.1,h.path.1]
theorem FBF {s:SSig} (h:V3 s):CAi s=some (P8 s,true):=by
 obtain ⟨l1,s1⟩:=h.once
 obtain ⟨l2,s2⟩:=h.path
 have pre:∀ {l:List ByteArray} {i:Nat} (hlt:i<l.length),Xc (l.take i)++l[i]=Xc (l.take (i+1)):=fun {l i} hlt=>by
  grind [take_at,RAk,Xc,LAN]
 have psz:∀ {l:List ByteArray} (i:Nat),(∀ x ∈ l,x.size=4)→l.length≤10→(Xc (l.take i)).size≤40:=fun {l} i hs hl=>by
  rw [J3 (fun x hx=>hs x (List.mem_of_mem_take hx)),List.length_take];omega
 have hO:=J3 s1
 have loop2:∀ (j i m:Nat),i+j=s.fPath.length→Q7 (m+j+1) (.c1 (b1 s.fLeaf++Xc s.fOnce++Xc (s.fPath.take i)) s.fPath ((s.fPath.length:Nat):Int) (i:Int))=some (P8 s,true):=by
  intro j
  induction j with
  | zero=>
   intro i m hi
   rw [Q7];simp only [BAM,mk]
   rw [PY (by simp_all),List.take_of_length_le (by omega)];rfl
  | succ j ih=>
   intro i m hi
   have hlt:i<s.fPath.length:=by omega
   have hw:w64 ((i:Int)+1)=((i+1:Nat):Int):=by grind [w64_id]
   have hz:=psz i s2 (by omega)
   rw [aj m j,Q7]
   simp only [BAM,mk,hw,Int.toNat_natCast,getD_at hlt]
   rw [TB (by grind),TB (by grind),TB (by grind [Vf]),EAa (b1 s.fLeaf++Xc s.fOnce),pre hlt]
   exact ih (i+1) m (by omega)
 have loop1:∀ (j i m:Nat),i+j=s.fOnce.length→Q7 (m+3+j+1) (.c0 (b1 s.fLeaf++Xc (s.fOnce.take i)) s.fOnce ((s.fOnce.length:Nat):Int) (i:Int) s)=some (P8 s,true):=by
  intro j
  induction j with
  | zero=>
   intro i m hi
   rw [Q7];simp only [BAM,mk]
   rw [PY (by simp_all),List.take_of_length_le (by omega)]
   have h0:=loop2 s.fPath.length 0 m (Nat.zero_add _)
   simp_all [Xc,LAN]
  | succ j ih=>
   intro i m hi
   have hlt:i<s.fOnce.length:=by omega
   have hw:w64 ((i:Int)+1)=((i+1:Nat):Int):=by grind [w64_id]
   have hz:=psz i s1 (by omega)
   rw [show m+3+(j+1)+1=(m+3+j+1)+1 from rfl,Q7]
   simp only [BAM,mk,hw,Int.toNat_natCast,getD_at hlt]
   rw [TB (by grind),TB (by grind),TB (by grind [Vf]),EAa (b1 s.fLeaf),pre hlt]
   exact ih (i+1) m (by omega)
 obtain ⟨m,hm⟩:∃ m,gas=m+3+s.fOnce.length+1:=⟨gas - (3+s.fOnce.length+1),by have:=gas_lt (n:=3+s.fOnce.length+1) (by omega);omega⟩
 rw [CAi,FAy,mk,OBe h,Option.bind_some,Bool.not_true,cond_false,Il h.leaf.1 (by have:=h.leaf.2;omega),Option.bind_some,hm]
 have h0:=loop1 s.fOnce.length 0 m (Nat.zero_add _)
 assumption
def OAN:ByteArray:=⟨#[108]⟩
def ZAF:ByteArray:=⟨#[116]⟩
def Hu (s:ByteArray) (i:Int):ByteArray:=s++b1 (i / 4)++OAN
def Iu (s:ByteArray) (i:Int) (m:ByteArray):SHyper:=⟨NAN (s++ZAF) (i / 4) (U3 (Hu s i)),U3 (Hu s i),NAN (Hu s i) (i % 4) m⟩
theorem PBe {s m:ByteArray} {i:Int} (hi:0≤i∧i≤15) (hs:s.size≤90000) (hm:m.size≤1000000000):AAi s i m=some (Iu s i m,true):=by
 have hL:OAN.size=1:=rfl
 have hT:ZAF.size=1:=rfl
 have hlow:(Hu s i).size=s.size+2:=by simp_all [Hu,Vf]
 have e1:w64 (i.tdiv 4)=i / 4:=by grind [w64_id]
 have e2:i.tmod 4=i % 4:=Int.tmod_eq_emod_of_nonneg hi.1
 rw [AAi,BAy,mk,Yh,Option.bind_some,Aa.2 hi,Bool.not_true,cond_false,e1,e2,Il (by omega) (by omega),Option.bind_some]
 show (bif decide (s.size+(b1 (i / 4)).size≤_) then _ else _)=_
 rw [TB (by grind [Vf])]
 show (bif decide ((s++b1 (i / 4)).size+OAN.size≤_) then (XAL (Hu s i)).bind (fun r2=>(AAM (Hu s i) (i % 4) m).bind fun r3=>bif decide (s.size+ZAF.size≤9223372036854775807) then (AAM (s++ZAF) (i / 4) r2).bind fun r4=>some ((⟨r4.1,r2,r3.1⟩:SHyper),true) else none) else none)=_
 rw [TB (by grind [Vf]),ZBE (by omega),Option.bind_some,DBF (by omega) (by omega) hm,Option.bind_some,TB (by grind),DBF (by omega) (by grind) (by simp [VAk])];rfl
def FA3 (h:SHyper):ByteArray:=P8 h.fTop++h.fRoot++P8 h.fLow
theorem QBe {s m:ByteArray} {i:Int} (hi:0≤i∧i≤15):EAi (Iu s i m)=some (FA3 (Iu s i m),true):=by
 have h1:V3 (Iu s i m).fTop:=ZAk (by omega)
 have h2:V3 (Iu s i m).fLow:=ZAk (by omega)
 have h3:(Iu s i m).fRoot.size=4:=VAk _
 have z1:=AAl h1
 have z2:=AAl h2
 rw [EAi,GAy,mk,FBF h1,Option.bind_some,FBF h2,Option.bind_some]
 dsimp only
 rw [Bool.not_true,cond_false,cond_false,PY (by simp_all),TB (by simp_all),TB (by simp_all)];rfl
theorem RBe {b:SBox} {t:Int} (h:b.fLives.length≤140737488351232):LAh b t=some (atV b t):=by
 have key:∀ (j i m:Nat),i+j=b.fLives.length→SAL (m+j+1) (.c0 t b.fLives (b.fLives.length:Int) (i:Int))=some (match Du (b.fLives.drop i) t i with | some j=>(j:Int) | none=> -1):=by
  intro j
  induction j with
  | zero=>
   intro i m hi
   rw [SAL];simp only [KAh,mk]
   rw [PY (by simp_all),List.drop_of_length_le (by omega)];rfl
  | succ j ih=>
   intro i m hi
   have hil:i<b.fLives.length:=by omega
   have hw:w64 ((i:Int)+1)=((i+1:Nat):Int):=by grind [w64_id]
   grind [SAL,KAh,Int.toNat_natCast,drop_at,Du]
 obtain ⟨m,hm⟩:=gm (n:=b.fLives.length) (by omega)
 rw [LAh,JAx,mk,hm]
 exact key b.fLives.length 0 m (Nat.zero_add _)
theorem SBe {b:SBox} {t:Int} (h:b.fLives.length≤140737488351232) (ht:b.fBook.fThings.length≤140737488351232):MAh b t=some (Wv b t):=by
 rw [MAh,KAx,mk,BA3 ht,Option.bind_some,Wv]
 cases hx:Ic b.fBook.fThings t with
 | none=>rfl
 | some x=>
  have hid:x.fId=t:=by have:=List.find?_some hx;simp_all
  simp only [RBe h,bne,atV,Cm,hid,Option.bind_some]
  cases x.fKind == 2
  ·rfl
  ·cases hp:Du b.fLives t 0 with
   | none=>rfl
   | some j=>
    have hj:=(VA2 hp).2
    grind
def zT:SThing:=⟨0,0,false,false,false,false,⟨#[]⟩,0⟩
def X3 (x:SThing) (h f:Bool):SThing×Bool:=bif Za x && ((h || !x.fHidden) && (f || !x.fFixed)) then (⟨x.fId,x.fKind,h,f,x.fSigns,x.fWraps,x.fValue,x.fNext⟩,true) else (zT,false)
def Bj (x:SThing) (d:Int):Bool:=Za x && (bif d == 1 then !x.fHidden else bif d == 2 then !x.fFixed && !(x.fKind == 2) else bif d == 3 then x.fSigns else bif d == 4 then x.fWraps else d == 5)
theorem TBe (x:SThing) (d:Int):JAh x d=some (Bj x d):=by
 rw [JAh,IAx,mk,AAa,Option.bind_some,Bj,bne]
 grind
def Q8 (x:SThing):SRec:=⟨3,⟨#[]⟩,0,x⟩
def newX (b:SBox) (c:SCall) (x:SThing):SThing:=⟨b.fBook.fLast+1,x.fKind,x.fHidden || c.fHidden,x.fFixed || c.fFixed,x.fSigns,x.fWraps,x.fValue,x.fNext⟩
def BAl (x:SThing):SThing:=⟨x.fId,x.fKind,x.fHidden,x.fFixed,x.fSigns,x.fWraps,x.fValue,ite (16<x.fNext+3) 16 (x.fNext+3)⟩
def Ju (l:List Int):List Int:=(SN (l.length:Int)++l)++List.replicate ((16 - (SN (l.length:Int)++l).length % 16) % 16) 0
theorem GA3 {l:List Int} (h:He l):He (Ju l):=by
 intro x hx
 simp only [Ju,List.mem_append,List.mem_replicate] at hx
 rcases hx with (hx | hx) | hx
 ·exact U0 (by omega) x hx
 ·exact h x hx
 ·omega
theorem HA3 {l:List Int} (h:l.length≤1000000000):(Ju l).length≤l.length+25∧(Ju l).length % 16=0:=by
 grind [Zi,Ju]
def PAN (k s:ByteArray):ByteArray×Bool:=bif decide ((s.size:Int) > 400) then (⟨#[]⟩,false) else Wh k 0 (ofBytes (Ju (bs s)))
noncomputable def Ku (text:ByteArray) (a:Nat):ByteArray×Int×Bool:=
 bif !(Ve text a).2.2 || (decide ((Ve text a).1 > 20000) || decide ((Ve text a).1 > (text.size:Int) - (Ve text a).2.1)) then (⟨#[]⟩,0,false)
 else (text.extract (Ve text a).2.1.toNat ((Ve text a).2.1+(Ve text a).1).toNat,(Ve text a).2.1+(Ve text a).1,true)
noncomputable def Yv (k t:ByteArray):ByteArray×Bool:=
 bif !(Jb k 0 t).2 || (!(Ku (Jb k 0 t).1 0).2.2 || (decide (((Ku (Jb k 0 t).1 0).1.size:Int) > 400) || !(Ju (bs (Ku (Jb k 0 t).1 0).1) == bs (Jb k 0 t).1))) then (⟨#[]⟩,false)
 else ((Ku (Jb k 0 t).1 0).1,true)
def nrt (l h x:Nat):Nat:=Nat.add (Nat.div x l) (Nat.mul (Nat.mod x l) h)
def UBe (x:Nat):Nat:=Nat.xor (Nat.xor (nrt 64 67108864 x) (nrt 2048 2097152 x)) (nrt 33554432 128 x)
def nx (e f g h k w:Nat):Nat:=Nat.mod (Nat.add (Nat.add (Nat.add (Nat.add h (UBe e)) (Nat.xor (Nat.land e f) (Nat.land (Nat.sub 4294967295 e) g))) k) w) 4294967296
def QAN:Nat→Nat→List Int
 | 0,_=>[]
 | k+1,n=>if n=0 then [] else QAN k (n / 10)++[48+((n % 10:Nat):Int)]
def CAl (n:Nat):List Int:=if n=0 then [48] else QAN 20 n
theorem VBe {n:Nat} (h:n<10000):XAI (n:Int)=some (ofBytes (CAl n)):=by
 have ob:∀ a b:List Int,ofBytes a++ofBytes b=ofBytes (a++b):=fun a b=>by
  apply ByteArray.ext
  simp [ofBytes]
 have key:∀ (k:Nat) (n m:Nat) (l:List Int),n<10 ^ k→n<10000→l.length+k≤100→ZAQ (m+k+1) (.c0 (n:Int) false (ofBytes l))=some (ofBytes (QAN k n++l)):=by
  intro k
  induction k with
  | zero=>
   intro n m l h0 _ _
   obtain rfl:n=0:=by omega
   rfl
  | succ k ih=>
   intro n m l h0 h1 hl
   rw [aj m k,ZAQ]
   simp only [KAq,mk]
   by_cases hn:n=0
   ·subst hn;rfl
   ·have e1:(n:Int).tmod 10=((n % 10:Nat):Int):=by rfl
    have e2:(n:Int).tdiv 10=((n / 10:Nat):Int):=by rfl
    rw [TB (by simp_all),e1,e2,PY (by rfl),QAd,IAq,mk,TB (by grind),w64_id (by omega) (by omega),w8_id (by omega) (by omega),Option.bind_some,TB (by grind [ofBytes_size]),w64_id (by omega) (by omega),ob]
    rw [ih (n / 10) m _ (Nat.div_lt_of_lt_mul (by omega)) (by omega) (by grind),QAN,if_neg hn,List.append_assoc]
 rw [XAI,JAq,mk,CAl]
 by_cases hn:n=0
 ·subst hn;rfl
 ·rw [PY (by simp_all),if_neg hn,show decide ((n:Int)<0)=false from decide_eq_false (by omega)]
  obtain ⟨m,hm⟩:∃ m,gas=m+20+1:=⟨gas - 21,by rfl⟩
  rw [hm]
  have:=key 20 n m [] (by omega) h (Nat.le_of_ble_eq_true rfl)
  rw [List.append_nil] at this
  exact this
theorem Hq {n:Nat} (h:n<18446744073709551616):wu64 (n:Int)=(n:Int):=by
 grind [IntKind.wrap,IntKind.signed,IntKind.bits]
theorem GBF (n:Nat):wu64 (n:Int)=((n % 18446744073709551616:Nat):Int):=by
 rfl
theorem KAa {n:Nat} (h:n<18446744073709551616):(BitVec.ofInt (IntKind.bits IntKind.u64) (n:Int)).toNat=n:=by
 show (BitVec.ofInt 64 (n:Int)).toNat=n
 simp_all
theorem Iq {a b:Nat} (ha:a<18446744073709551616) (hb:b<18446744073709551616):wu64 (((BitVec.toNat ((BitVec.ofInt (IntKind.bits IntKind.u64) (a:Int)) ^^^ (BitVec.ofInt (IntKind.bits IntKind.u64) (b:Int)))):Nat):Int)=((a ^^^ b:Nat):Int):=by
 rw [BitVec.toNat_xor,KAa ha,KAa hb,Hq (Nat.xor_lt_two_pow (n:=64) ha hb)]
theorem n64 {a b:Nat} (ha:a<18446744073709551616) (hb:b<18446744073709551616):wu64 (((BitVec.toNat ((BitVec.ofInt (IntKind.bits IntKind.u64) (a:Int)) &&& (BitVec.ofInt (IntKind.bits IntKind.u64) (b:Int)))):Nat):Int)=((a &&& b:Nat):Int):=by
 grind [KAa,Hq,Nat.and_le_left]
theorem o64 {a b:Nat} (ha:a<18446744073709551616) (hb:b<18446744073709551616):wu64 (((BitVec.toNat ((BitVec.ofInt (IntKind.bits IntKind.u64) (a:Int)) ||| (BitVec.ofInt (IntKind.bits IntKind.u64) (b:Int)))):Nat):Int)=((a ||| b:Nat):Int):=by
 rw [BitVec.toNat_or,KAa ha,KAa hb,Hq (Nat.or_lt_two_pow (n:=64) ha hb)]
theorem m64:(ite ((IntKind.signed IntKind.u64)=true) (-(1:Int)) (IntKind.max IntKind.u64))=((18446744073709551615:Nat):Int):=by decide
theorem WBe {a:Nat} (h:a<18446744073709551616):18446744073709551615 ^^^ a=18446744073709551615 - a:=by
 have h1:(BitVec.allOnes 64 ^^^ BitVec.ofNat 64 a).toNat=(~~~ (BitVec.ofNat 64 a)).toNat:=by rfl
 simp_all [Nat.mod_eq_of_lt]
theorem XBe {a:Nat} (h:a<18446744073709551616):wu64 (18446744073709551615 - (a:Int))=((18446744073709551615 - a:Nat):Int):=by
 grind [Hq]
theorem xlt {a b:Nat} (ha:a<18446744073709551616) (hb:b<18446744073709551616):a ^^^ b<18446744073709551616:=Nat.xor_lt_two_pow (n:=64) ha hb
theorem nlt {a b:Nat} (ha:a<18446744073709551616):a &&& b<18446744073709551616:=Nat.lt_of_le_of_lt Nat.and_le_left ha
def Cj (n x:Nat):Nat:=(x*2 ^ n) % 18446744073709551616+x / 2 ^ (64 - n)
theorem IBF {n x:Nat} (hn:n<64):(x*2 ^ n) % 18446744073709551616=(x % 2 ^ (64 - n))*2 ^ n:=by
 have e:18446744073709551616=2 ^ (64 - n)*2 ^ n:=by rw [←Nat.pow_add,show 64 - n+n=64 by omega]
 rw [e,Nat.mul_mod_mul_right]
theorem JBF {n x:Nat} (hn:n<64) (h:x<18446744073709551616):x / 2 ^ (64 - n)<2 ^ n:=by
 rw [Nat.div_lt_iff_lt_mul (Nat.two_pow_pos _),←Nat.pow_add,show n+(64 - n)=64 by omega];exact h
theorem SAN {n x:Nat} (hn:n<64) (h:x<18446744073709551616):Cj n x<18446744073709551616:=by
 have h1:=JBF hn h
 have h2:x % 2 ^ (64 - n)<2 ^ (64 - n):=Nat.mod_lt _ (Nat.two_pow_pos _)
 have e:2 ^ (64 - n)*2 ^ n=18446744073709551616:=by rw [←Nat.pow_add,show 64 - n+n=64 by omega]
 rw [Cj,IBF hn]
 have h3:(x % 2 ^ (64 - n)+1)*2 ^ n≤2 ^ (64 - n)*2 ^ n:=Nat.mul_le_mul_right _ h2
 grind
theorem YBe {n x:Nat} (hn:n<64) (h:x<18446744073709551616):((x*2 ^ n) % 18446744073709551616) ||| (x / 2 ^ (64 - n))=Cj n x:=by
 rw [Cj,IBF hn]
 have:=Nat.shiftLeft_add_eq_or_of_lt (JBF hn h) (x % 2 ^ (64 - n))
 simp_all [Nat.shiftLeft_eq]
theorem KBF {x:Nat} (h:x<18446744073709551616):Cj 0 x=x:=by
 simp_all [Cj,Nat.div_eq_of_lt]
def Oa {A:Type} (f:Nat→A→A):Nat→Nat→A→A
 | 0,_,a=>a
 | j+1,i,a=>Oa f j (i+1) (f i a)
theorem Tc {S A R:Type} {Lp:Nat→S→Option R} {st:Nat→A→S} {f:Nat→A→A} {P:Nat→A→Prop} {n:Nat} (K:Nat) (step:∀ m i a,i<n→P i a→Lp (m+K) (st i a)=Lp m (st (i+1) (f i a))∧P (i+1) (f i a)):∀ j i m a,i+j=n→P i a→Lp (m+j*K) (st i a)=Lp m (st n (Oa f j i a))∧P n (Oa f j i a):=by
 intro j
 induction j with
 | zero=>(intro i m a h hp;rw [Nat.zero_mul];have:i=n:=by omega);subst this;exact ⟨rfl,hp⟩
 | succ j ih=>
  intro i m a h hp
  obtain ⟨h1,h2⟩:=step (m+j*K) i a (by omega) hp
  obtain ⟨h3,h4⟩:=ih (i+1) m (f i a) (by omega) h2
  exact ⟨by rw [Nat.succ_mul,←Nat.add_assoc,h1,h3];rfl,h4⟩
def up (l:List Nat):List Int:=l.map fun (n:Nat)=>(n:Int)
theorem Ia (l:List Nat):(up l).length=l.length:=by simp [up]
theorem Je (l:List Nat) (i:Nat):(up l).getD i 0=((l.getD i 0:Nat):Int):=by
 grind [up]
theorem Jh (l:List Nat) (i n:Nat):(up l).set i (n:Int)=up (l.set i n):=by simp [up]
def Em (l:List Nat):Prop:=∀ x ∈ l,x<18446744073709551616
theorem Em.get {l:List Nat} (h:Em l) (i:Nat):l.getD i 0<18446744073709551616:=by
 rw [List.getD_eq_getElem?_getD]
 cases hx:l[i]? with
 | none=>decide
 | some x=>exact h x (List.mem_of_getElem? hx)
theorem Em.set {l:List Nat} (h:Em l) (i:Nat) {n:Nat} (hn:n<18446744073709551616):Em (l.set i n):=fun x hx=>by
 rcases List.mem_or_eq_of_mem_set hx with h1 | rfl
 ·exact h x h1
 omega
theorem Fa {l:List Nat} {i:Nat} (h:i<l.length):(decide (0≤(i:Int)) && decide ((i:Int)<((up l).length:Int)))=true:=by
 simp_all [Ia]
theorem LBF (n:Nat):Em (List.replicate n 0):=fun x hx=>by grind
theorem Y3 (n:Nat):up (List.replicate n 0)=List.replicate n 0:=by simp [up]
def Ll (a:List Nat) (x:Nat):Nat:=(((a.getD x 0 ^^^ a.getD (x+5) 0) ^^^ a.getD (x+10) 0) ^^^ a.getD (x+15) 0) ^^^ a.getD (x+20) 0
def dN (a:List Nat) (x:Nat):Nat:=Ll a ((x+4) % 5) ^^^ Cj 1 (Ll a ((x+1) % 5))
def Zv (a:List Nat) (i:Nat):Nat:=a.getD i 0 ^^^ dN a (i % 5)
def Lu:List Nat:=[0,1,62,28,27,36,44,6,55,20,3,10,43,25,39,41,45,15,21,8,18,2,61,56,14]
def piF (v:Nat→Nat→Nat):List Nat:=(List.range 25).map fun p=>v (Lu.getD ((p % 5+3*(p / 5)) % 5+5*(p % 5)) 0) ((p % 5+3*(p / 5)) % 5+5*(p % 5))
def Jq (b:List Nat) (i:Nat):Nat:=b.getD i 0 ^^^ ((18446744073709551615 - b.getD ((i % 5+1) % 5+5*(i / 5)) 0) &&& b.getD ((i % 5+2) % 5+5*(i / 5)) 0)
def Kq (a:List Nat):List Nat:=piF fun n q=>Cj n (Zv a q)
def UAN (a:List Nat) (c:Nat):List Nat:=let o:=(List.range 25).map (Jq (Kq a));o.set 0 (o.getD 0 0 ^^^ c)
def I4:List Nat:=[1,32898,9223372036854808714,9223372039002292224,32907,2147483649,9223372039002292353,9223372036854808585,138,136,2147516425,2147483658,2147516555,9223372036854775947,9223372036854808713,9223372036854808579,9223372036854808578,9223372036854775936,32778,9223372039002259466,9223372039002292353,9223372036854808704,2147483649,9223372039002292232]
def LAa (a:List Nat):List Nat:=Oa (fun i a=>UAN a (I4.getD i 0)) 24 0 a
def Xf (l:List Nat):Prop:=l.length=25∧Em l
theorem J4 {a:List Nat} (h:Em a) (x:Nat):Ll a x<18446744073709551616:=xlt (xlt (xlt (xlt (h.get _) (h.get _)) (h.get _)) (h.get _)) (h.get _)
theorem MBF {a:List Nat} (h:Em a) (x:Nat):dN a x<18446744073709551616:=xlt (J4 h _) (SAN (by decide) (J4 h _))
theorem KA3 {a:List Nat} (h:Em a) (x:Nat):Zv a x<18446744073709551616:=xlt (h.get _) (MBF h _)
theorem NBF (q:Nat):Lu.getD q 0<64:=by
 rw [List.getD_eq_getElem?_getD]
 cases hx:Lu[q]? with
 | none=>decide
 | some x=>
  have h:∀ x ∈ Lu,x<64:=by decide
  exact h x (List.mem_of_getElem? hx)
theorem MAa (i:Nat):I4.getD i 0<18446744073709551616:=by
 rw [List.getD_eq_getElem?_getD]
 cases hx:I4[i]? with
 | none=>decide
 | some x=>
  have h:∀ x ∈ I4,x<18446744073709551616:=by decide
  exact h x (List.mem_of_getElem? hx)
theorem DAl {a:List Nat} (h:Em a):Xf (Kq a):=by
 refine ⟨by rfl,fun x hx=>?_⟩
 grind [Kq,piF,SAN,NBF,KA3]
theorem ZBe {b:List Nat} (h:Em b) (i:Nat):Jq b i<18446744073709551616:=xlt (h.get _) (nlt (by omega))
theorem LA3 {b:List Nat} (h:Em b):Xf ((List.range 25).map (Jq b)):=by
 refine ⟨by rfl,fun x hx=>?_⟩
 grind [ZBe]
theorem MA3 {a:List Nat} (h:Em a) {c:Nat} (hc:c<18446744073709551616):Xf (UAN a c):=by
 have h1:=LA3 (DAl h).2
 refine ⟨by rfl,h1.2.set 0 (xlt (h1.2.get _) hc)⟩
theorem NA3 {a:List Nat} (h:Xf a):Xf (LAa a):=by
 have:∀ j i a,Xf a→Xf (Oa (fun i a=>UAN a (I4.getD i 0)) j i a):=by
  intro j
  induction j with
  | zero=>intro i a h;exact h
  | succ j ih=>intro i a h;exact ih _ _ (MA3 h.2 (MAa i))
 exact this 24 0 a h
theorem NAa {f:Nat→Nat} {n i:Nat} (h:i<n):((List.range n).map f).getD i 0=f i:=by
 simp_all
theorem ABf (v:Nat→Nat):Oa (fun x o=>o.set x (v x)) 5 0 [0,0,0,0,0]=(List.range 5).map v:=by rfl
theorem BBf (v:Nat→Nat):Oa (fun x o=>Oa (fun y o=>o.set (x+5*y) (v (x+5*y))) 5 0 o) 5 0 (List.replicate 25 0)=(List.range 25).map v:=by kernel_rfl
theorem CBf (v:Nat→Nat):Oa (fun y o=>Oa (fun x o=>o.set (x+5*y) (v (x+5*y))) 5 0 o) 5 0 (List.replicate 25 0)=(List.range 25).map v:=by kernel_rfl
theorem DBf (v:Nat→Nat→Nat):Oa (fun x o=>Oa (fun y o=>o.set (y+5*((2*x+3*y) % 5)) (v (Lu.getD (x+5*y) 0) (x+5*y))) 5 0 o) 5 0 (List.replicate 25 0)=piF v:=by kernel_rfl
theorem EBf (v:Nat→Nat→Nat):(Oa (fun t (s:Nat×Nat×List Nat)=>(s.2.1,(2*s.1+3*s.2.1) % 5,s.2.2.set (s.2.1+5*((2*s.1+3*s.2.1) % 5)) (v ((t+1)*(t+2) / 2 % 64) (s.1+5*s.2.1)))) 24 0 (1,0,[v 0 0,0,0,0,0,0,0,0,0,0,0,0,0,0,0,0,0,0,0,0,0,0,0,0,0])).2.2=piF v:=by kernel_rfl
theorem wn {n:Nat} (h:n<9223372036854775807):w64 (n:Int)=(n:Int):=w64_id (by omega) (by omega)
theorem FBf {a b:Int} {x y:Nat} (ha:a=(x:Int)) (hb:b=(y:Int)) (hx:x<18446744073709551616) (hy:y<18446744073709551616):wu64 (((BitVec.toNat ((BitVec.ofInt (IntKind.bits IntKind.u64) a) ^^^ (BitVec.ofInt (IntKind.bits IntKind.u64) b))):Nat):Int)=((x ^^^ y:Nat):Int):=by grind [Iq]
theorem OBF {v:List Nat} {i n:Nat} (h:v.length=5):(v.set i n).length=5:=by simp_all
theorem AAG {v:List Nat} {i n:Nat} (h:v.length=25):(v.set i n).length=25:=by simp_all
theorem PBF (v:Nat→Nat):∀ (t pre:List Nat),Oa (fun i o=>o.set i (v i)) t.length pre.length (pre++t)=pre++(List.range' pre.length t.length).map v
 | [],pre=>by rfl
 | x::t,pre=>by
  have e:(pre++x::t).set pre.length (v pre.length)=(pre++[v pre.length])++t:=by simp
  have ih:=PBF v t (pre++[v pre.length])
  rw [List.length_append,List.length_singleton] at ih
  rw [List.length_cons,Oa,e,ih,List.range'_succ,List.map_cons,List.append_assoc];rfl
theorem OAa {v:Nat→Nat} {l:List Nat} {n:Nat} (h:l.length=n):Oa (fun i o=>o.set i (v i)) n 0 l=(List.range n).map v:=by
 have:=PBF v l []
 simp_all [List.range_eq_range']
def Zb (s:ByteArray) (i:Nat):Nat:=if h:i<s.size then (s[i]'h).toNat else 0
theorem Nu (s:ByteArray) (i:Nat):bt s (i:Int)=((Zb s i:Nat):Int):=by
 grind [bt,Zb]
theorem U8 (s:ByteArray) (i:Nat):Zb s i<256:=by
 grind [Zb,UInt8.toNat_lt]
def Nq (g:Nat→Nat) (k:Nat):Nat:=Oa (fun j x=>x*256+g (8*k+(7 - j))) 8 0 0
theorem EAl (g:Nat→Nat) (k:Nat):Nq g k=g (8*k)+256*g (8*k+1)+65536*g (8*k+2)+16777216*g (8*k+3)+4294967296*g (8*k+4)+1099511627776*g (8*k+5)+281474976710656*g (8*k+6)+72057594037927936*g (8*k+7):=by
 have h:Nq g k=(((((((0*256+g (8*k+7))*256+g (8*k+6))*256+g (8*k+5))*256+g (8*k+4))*256+g (8*k+3))*256+g (8*k+2))*256+g (8*k+1))*256+g (8*k):=rfl
 omega
theorem OA3 {g:Nat→Nat} (hg:∀ i,g i<256) (k:Nat):Nq g k<18446744073709551616:=by
 grind [EAl]
theorem GBf {x y b c:Nat} (hb:b<256) (hc:c<256):(x*256+b) ^^^ (y*256+c)=(x ^^^ y)*256+(b ^^^ c):=by
 have h1:((x*256+b) ^^^ (y*256+c)) % 2 ^ 8=b ^^^ c:=by
  rw [Nat.xor_mod_two_pow]
  grind
 have h2:((x*256+b) ^^^ (y*256+c)) / 2 ^ 8=x ^^^ y:=by
  rw [Nat.xor_div_two_pow]
  grind
 omega
theorem HBf {g h:Nat→Nat} (hg:∀ i,g i<256) (hh:∀ i,h i<256) (k:Nat):Nq (fun i=>g i ^^^ h i) k=Nq g k ^^^ Nq h k:=by
 have key:∀ j i x y,Oa (fun j x=>x*256+(g (8*k+(7 - j)) ^^^ h (8*k+(7 - j)))) j i (x ^^^ y)=Oa (fun j x=>x*256+g (8*k+(7 - j))) j i x ^^^ Oa (fun j x=>x*256+h (8*k+(7 - j))) j i y:=by
  intro j
  induction j<;>grind [Oa,GBf]
 exact key 8 0 0 0
theorem PA3 {g h:Nat→Nat} {k:Nat} (e:∀ i,i<8→g (8*k+i)=h (8*k+i)):Nq g k=Nq h k:=by
 have e0:=e 0 (by omega)
 simp_all [EAl]
def O4 (a:List Nat) (p:Nat):Nat:=a.getD (p / 8) 0 / 2 ^ (8*(p % 8)) % 256
def Oq (a:List Nat):List Nat:=(List.range 200).map (O4 a)
theorem QBF (a:List Nat) (p:Nat):O4 a p<256:=Nat.mod_lt _ (by decide)
theorem RBF {a:List Nat} (ha:Em a) (k:Nat):Nq (O4 a) k=a.getD k 0:=by
 have hk:=ha.get k
 have d:∀ j,j<8→O4 a (8*k+j)=a.getD k 0 / 2 ^ (8*j) % 256:=fun j hj=>by grind [O4]
 have d0:=d 0 (by omega)
 grind [EAl]
def Uk (g:Nat→Nat) (n:Nat):List Nat:=(List.range n).map (Nq g)
theorem SBF {g:Nat→Nat} (hg:∀ i,g i<256):Xf (Uk g 25):=by
 refine ⟨by rfl,fun x hx=>?_⟩
 grind [Uk,OA3]
theorem IBf {g:Nat→Nat} (hg:∀ i,g i<256) (n:Nat):Em (Uk g n):=fun x hx=>by
 grind [Uk,OA3]
theorem FAl {l:List Nat} (hl:∀ x ∈ l,x<256) {i:Nat} (hi:i<l.length):Zb (ofBytes (up l)) i=l.getD i 0:=by
 grind [ofBytes,up,ofBytes_size,Zb,List.getElem_mem,ByteArray.getElem_eq_getElem_data,UInt8.toNat_ofNat']
theorem GAl {a b:List Nat} (ha:a.length=b.length) (h:∀ k,k<b.length→a.getD k 0=b.getD k 0):a=b:=by
 grind [List.ext_getElem]
theorem VAN (v:Nat→Nat):∀ (j i:Nat) (o:List Nat),Oa (fun i o=>o++[v i]) j i o=o++(List.range' i j).map v
 | 0,i,o=>by simp [Oa]
 | j+1,i,o=>by rw [Oa,VAN v j (i+1),List.range'_succ,List.map_cons,List.append_assoc];rfl
theorem PAa (v:Nat→Nat) (n:Nat):Oa (fun i o=>o++[v i]) n 0 []=(List.range n).map v:=by simp [VAN,List.range_eq_range']
def BAG (s:ByteArray):ByteArray:=ofBytes (up (Oq (LAa (Uk (Zb s) 25))))
theorem JBf (a:List Nat):(Oq a).length=200:=by rfl
theorem TBF (a:List Nat):∀ x ∈ Oq a,x<256:=fun x hx=>by
 grind [Oq,QBF]
theorem UBF (s:ByteArray):(BAG s).size=200:=by rfl
def Md (s:ByteArray):List Nat:=s.data.toList.map fun b=>b.toNat
theorem CAG (s:ByteArray):bytesOf s=up (Md s):=by simp [bytesOf,up,Md]
theorem KBf (s:ByteArray):∀ x ∈ Md s,x<256:=fun x hx=>by
 grind [Md,UInt8.toNat_lt]
theorem EAG (s:ByteArray):(Md s).length=s.size:=by simp [Md]
theorem LBf {l:List Nat} (h:∀ x ∈ l,x<256):Md (ofBytes (up l))=l:=by
 simp only [Md,ofBytes,up,List.map_map,List.toList_toArray]
 conv=>rhs;rw [←List.map_id l]
 grind [List.map_congr_left,UInt8.toNat_ofNat']
def Pj (l:List Nat):List Nat:=l++(List.range' 0 ((168 - l.length % 168) % 168)).map fun _=>0
theorem QA3 (l:List Nat):(Pj l).length=l.length+(168 - l.length % 168) % 168:=by simp [Pj]
def Ae (s:ByteArray) (f:Nat):List Nat:=let l:=Pj (Md s++[f]);l.set (l.length - 1) (l.getD (l.length - 1) 0 ^^^ 128)
theorem RA3 {l:List Nat} (h:∀ x ∈ l,x<256):∀ x ∈ Pj l,x<256:=fun x hx=>by
 grind [Pj]
def B8 (l:List Nat):Prop:=∀ x ∈ l,x<256
theorem B8.get {l:List Nat} (h:B8 l) (i:Nat):l.getD i 0<256:=by
 rw [List.getD_eq_getElem?_getD]
 cases hx:l[i]? with
 | none=>decide
 | some x=>exact h x (List.mem_of_getElem? hx)
theorem B8.set {l:List Nat} (h:B8 l) (i:Nat) {n:Nat} (hn:n<256):B8 (l.set i n):=fun x hx=>by
 rcases List.mem_or_eq_of_mem_set hx with h1 | rfl
 ·exact h x h1
 omega
theorem SA3 {a b:Nat} (ha:a<256) (hb:b<256):a ^^^ b<256:=Nat.xor_lt_two_pow (n:=8) ha hb
theorem TA3 (s:ByteArray) {f:Nat} (hf:f<256):B8 (Md s++[f]):=fun x hx=>by
 rw [List.mem_append,List.mem_singleton] at hx
 rcases hx with h1 | rfl
 ·exact KBf s x h1
 omega
theorem VBF (s:ByteArray) {f:Nat} (hf:f<256):B8 (Ae s f):=by
 have h:B8 (Pj (Md s++[f])):=RA3 (TA3 s hf)
 exact h.set _ (SA3 (h.get _) (by decide))
theorem WBF (s:ByteArray) (f:Nat):∃ q,(Ae s f).length=168*q∧168*q≤s.size+168:=by
 have h:(Ae s f).length=(Pj (Md s++[f])).length:=List.length_set
 rw [QA3,List.length_append,List.length_singleton,EAG] at h
 exact ⟨(s.size+1+(168 - (s.size+1) % 168) % 168) / 168,by omega,by omega⟩
def FAG (st:List Nat) (g:Nat→Nat):List Nat:=(List.range 25).map fun k=>if k<21 then st.getD k 0 ^^^ Nq g k else st.getD k 0
theorem XBF {st:List Nat} (h:Xf st) {g:Nat→Nat} (hg:∀ i,g i<256):Xf (FAG st g):=by
 refine ⟨by rfl,fun x hx=>?_⟩
 rw [FAG,List.mem_map] at hx
 obtain ⟨k,_,rfl⟩:=hx
 split
 ·exact xlt (h.2.get _) (OA3 hg k)
 ·exact h.2.get _
def WAN (b:List Nat) (p:Nat) (st:List Nat):List Nat:=LAa (FAG st fun i=>b.getD (168*p+i) 0)
def XAN (s:ByteArray) (f:Nat):List Nat:=Oa (WAN (Ae s f)) ((Ae s f).length / 168) 0 (List.replicate 25 0)
def YAN (s:ByteArray) (f:Nat):ByteArray:=ofBytes (up (Oq (XAN s f)))
theorem MBf (s:ByteArray) (f:Nat):(YAN s f).size=200:=by rfl
theorem UA3:Xf (List.replicate 25 0):=⟨List.length_replicate,LBF 25⟩
theorem bv8 {n:Nat} (h:n<256):(BitVec.ofInt (IntKind.bits IntKind.u8) (n:Int)).toNat=n:=by
 show (BitVec.ofInt 8 (n:Int)).toNat=n
 simp_all
theorem x8 {a b:Nat} (ha:a<256) (hb:b<256):w8 (((BitVec.toNat ((BitVec.ofInt (IntKind.bits IntKind.u8) (a:Int)) ^^^ (BitVec.ofInt (IntKind.bits IntKind.u8) (b:Int)))):Nat):Int)=((a ^^^ b:Nat):Int):=by
 grind [SA3,bv8,w8_id]
theorem HAl {A:Type} {f:Nat→A→A} {P:A→Prop} (h:∀ i a,P a→P (f i a)):∀ j i a,P a→P (Oa f j i a)
 | 0,_,_,hp=>hp
 | j+1,i,a,hp=>HAl h j (i+1) _ (h i a hp)
theorem VA3 {b:List Nat} (hb:B8 b) {p:Nat} {st:List Nat} (h:Xf st):Xf (WAN b p st):=NA3 (XBF h fun _=>hb.get _)
theorem getD_set_ne {l:List Nat} {i k n:Nat} (h:k≠i):(l.set i n).getD k 0=l.getD k 0:=by grind
theorem Wn (l:List Nat) (n:Nat):up l++[(n:Int)]=up (l++[n]):=by simp [up]
def Ah (S:ByteArray):Nat→ByteArray
 | 0=>S
 | n+1=>BAG (Ah S n)
theorem GAG {S:ByteArray} (h:S.size=200):∀ n,(Ah S n).size=200
 | 0=>h
 | _+1=>UBF _
def strm (S:ByteArray) (k:Nat):Nat:=Zb (Ah S (k / 168)) (k % 168)
theorem HAG (S:ByteArray) (k:Nat):strm S k<256:=U8 _ _
def Gm (S:ByteArray) (p:Nat) (x:SStream):Prop:=∃ q a:Nat,x=⟨Ah S q,(a:Int)⟩∧168*q+a=p∧a≤168
def Xb (S:ByteArray) (p n:Nat):List Nat:=(List.range' p n).map (strm S)
theorem NBf (S:ByteArray) (p n:Nat):B8 (Xb S p n):=fun x hx=>by
 grind [Xb,HAG]
theorem IAl (S:ByteArray) (p n:Nat):(Xb S p n).length=n:=by simp [Xb]
theorem ZBF (S:ByteArray) (p a b:Nat):Xb S p a++Xb S (p+a) b=Xb S p (a+b):=by grind [Xb,List.range'_append_1]
theorem OBf (s:ByteArray) (i:Nat):(Md s).getD i 0=Zb s i:=by
 unfold Zb
 split
 ·rename_i h
  rw [getD_at (by simp_all [EAG])]
  simp only [Md,List.getElem_map,Array.getElem_toList];rfl
 simp_all [EAG]
theorem PBf (s:ByteArray):ofBytes (up (Md s))=s:=by
 apply ByteArray.ext
 grind [ofBytes,up,Md,UInt8.ofNat_toNat]
theorem QBf (a b:List Nat):ofBytes (up a)++ofBytes (up b)=ofBytes (up (a++b)):=by
 apply ByteArray.ext
 simp [ofBytes,up]
theorem chunk {S:ByteArray} (hS:S.size=200) {q a k:Nat} (h:a+k≤168):Md ((Ah S q).extract a (a+k))=Xb S (168*q+a) k:=by
 have hz:=GAG hS q
 have hlen:(Md ((Ah S q).extract a (a+k))).length=k:=by grind [EAG,ByteArray.size_extract]
 refine GAl (by grind [IAl]) fun i hi=>?_
 grind [OBf,Xb,List.length_map,strm,Zb,ByteArray.size_extract,ByteArray.getElem_extract]
def sd (s:ByteArray):ByteArray:=YAN s 31
theorem JAl (s:ByteArray):(sd s).size=200:=MBf _ _
theorem KAl (s:ByteArray):Gm (sd s) 0 ⟨sd s,0⟩:=⟨0,0,rfl,rfl,by omega⟩
theorem and1 {n:Nat} (h:n<9223372036854775808):w64 (((BitVec.toNat ((BitVec.ofInt (IntKind.bits IntKind.i64) (n:Int)) &&& (BitVec.ofInt (IntKind.bits IntKind.i64) 1))):Nat):Int)=((n % 2:Nat):Int):=by
 grind [IntKind.bits,wn]
def Ya (l:List Nat):Prop:=l.length=256∧∀ x ∈ l,x<3329
theorem Ya.get {l:List Nat} (h:Ya l) (i:Nat):l.getD i 0<3329:=by
 rw [List.getD_eq_getElem?_getD]
 cases hx:l[i]? with
 | none=>decide
 | some x=>exact h.2 x (List.mem_of_getElem? hx)
theorem Ya.set {l:List Nat} (h:Ya l) (i:Nat) {n:Nat} (hn:n<3329):Ya (l.set i n):=⟨by rw [List.length_set,h.1],fun x hx=>by
 rcases List.mem_or_eq_of_mem_set hx with h1 | rfl
 ·exact h.2 x h1
 omega⟩
theorem WA3 {f:Nat→Nat} (h:∀ i,f i<3329):Ya ((List.range 256).map f):=⟨by rw [List.length_map,List.length_range],fun x hx=>by
 grind⟩
def smV (b:Nat):Nat:=(b % 2+b / 2 % 2+3329 - b / 4 % 2 - b / 8 % 2) % 3329
def ABG (s:ByteArray):List Nat:=(List.range 256).map fun i=>smV (Zb s (i / 2) / 2 ^ (4*(i % 2)))
theorem RBf (s:ByteArray):Ya (ABG s):=WA3 fun i=>Nat.mod_lt _ (by decide)
def Yf (n:Nat):ByteArray:=ofBytes [(n:Int)]
def Qj (seed:ByteArray) (n:Nat):List Nat:=ABG (ofBytes (up (Xb (sd (seed++Yf n)) 0 128)))
theorem ZAN (seed:ByteArray) (n:Nat):Ya (Qj seed n):=RBf _
def pwF:Nat→Nat→Nat→Nat→Nat
 | 0,_,_,o=>o
 | k+1,b,e,o=>if e=0 then o else pwF k (b*b % 3329) (e / 2) (if e % 2=1 then o*b % 3329 else o)
def KAC (e:Nat):Nat:=pwF 10 17 e 1
theorem BBG:∀ (k b e o:Nat),o<3329→pwF k b e o<3329
 | 0,_,_,_,h=>h
 | k+1,b,e,o,h=>by
  rw [pwF]
  split
  ·exact h
  ·refine BBG k _ _ _ ?_
   split
   ·exact Nat.mod_lt _ (by decide)
   ·exact h
theorem LAl (e:Nat):KAC e<3329:=BBG _ _ _ _ (by decide)
theorem IAG {a b:Nat} (ha:a<3329) (hb:b<3329):(w64 ((a:Int)*(b:Int))).tmod 3329=((a*b % 3329:Nat):Int):=by
 have h:a*b<3329*3329:=Nat.mul_lt_mul'' ha hb
 rw [show (a:Int)*(b:Int)=((a*b:Nat):Int) from (Int.natCast_mul a b).symm,wn (by omega)];rfl
def t7 (n:Nat):Nat:=Oa (fun i o=>2*o+n / 2 ^ i % 2) 7 0 0
theorem MAl (n:Nat):t7 n<128:=by
 have h:∀ j i o,o<2 ^ i→Oa (fun i o=>2*o+n / 2 ^ i % 2) j i o<2 ^ (i+j):=by
  intro j
  induction j<;>grind [Oa]
 exact h 7 0 0 (by decide)
def bfQ (z size j:Nat) (o:List Nat):List Nat:=(o.set (j+size) ((o.getD j 0+3329 - z*o.getD (j+size) 0 % 3329) % 3329)).set j ((o.getD j 0+z*o.getD (j+size) 0 % 3329) % 3329)
theorem XA3 {o:List Nat} (h:Ya o) (z size j:Nat):Ya (bfQ z size j o):=(h.set _ (Nat.mod_lt _ (by decide))).set _ (Nat.mod_lt _ (by decide))
def NAl (k0 size i:Nat) (o:List Nat):List Nat:=Oa (fun j o=>bfQ (KAC (t7 (k0+i))) size (2*size*i+j) o) size 0 o
def U4 (k0 size c:Nat) (o:List Nat):List Nat:=Oa (NAl k0 size) c 0 o
theorem YA3 {o:List Nat} (h:Ya o) (k0 size i:Nat):Ya (NAl k0 size i o):=HAl (P:=Ya) (fun _ _ h=>XA3 h _ _ _) _ _ _ h
theorem Nl {o:List Nat} (h:Ya o) (k0 size c:Nat):Ya (U4 k0 size c o):=HAl (P:=Ya) (fun _ _ h=>YA3 h _ _ _) _ _ _ h
def BAO (o:List Nat):List Nat:=U4 64 2 64 (U4 32 4 32 (U4 16 8 16 (U4 8 16 8 (U4 4 32 4 (U4 2 64 2 (U4 1 128 1 o))))))
theorem SBf {o:List Nat} (h:Ya o):Ya (BAO o):=Nl (Nl (Nl (Nl (Nl (Nl (Nl h _ _ _) _ _ _) _ _ _) _ _ _) _ _ _) _ _ _) _ _ _
def Yo (a b:List Nat) (p:Nat):Nat:=if p % 2=0 then (a.getD p 0*b.getD p 0+a.getD (p+1) 0*b.getD (p+1) 0 % 3329*KAC (2*t7 (p / 2)+1)) % 3329 else (a.getD (p - 1) 0*b.getD p 0+a.getD p 0*b.getD (p - 1) 0) % 3329
def mulL (a b:List Nat):List Nat:=(List.range 256).map (Yo a b)
theorem TBf (a b:List Nat) (p:Nat):Yo a b p<3329:=by
 grind [Yo]
theorem OAl (a b:List Nat):Ya (mulL a b):=WA3 fun _=>TBf _ _ _
theorem CBG (a b:List Nat) (i:Nat):Yo a b (2*i)=(a.getD (2*i) 0*b.getD (2*i) 0+a.getD (2*i+1) 0*b.getD (2*i+1) 0 % 3329*KAC (2*t7 i+1)) % 3329:=by
 simp [Yo]
theorem DBG (a b:List Nat) (i:Nat):Yo a b (2*i+1)=(a.getD (2*i) 0*b.getD (2*i+1) 0+a.getD (2*i+1) 0*b.getD (2*i) 0) % 3329:=by
 simp [Yo]
theorem EBG (v:Nat→Nat):∀ (j i:Nat) (o:List Nat),Oa (fun i o=>(o.set (2*i) (v (2*i))).set (2*i+1) (v (2*i+1))) j i o=Oa (fun p o=>o.set p (v p)) (2*j) (2*i) o
 | 0,_,_=>rfl
 | j+1,i,o=>by rw [Oa,EBG v j (i+1),show 2*(j+1)=2*j+1+1 by omega,Oa,Oa];rfl
theorem FBG (v:Nat→Nat):∀ (j i:Nat) (o:List Nat),Oa (fun i o=>o++[v (2*i),v (2*i+1)]) j i o=Oa (fun p o=>o++[v p]) (2*j) (2*i) o
 | 0,_,_=>rfl
 | j+1,i,o=>by rw [Oa,FBG v j (i+1),show 2*(j+1)=2*j+1+1 by omega,Oa,Oa,List.append_assoc];rfl
theorem LAC {a b:Nat} (ha:a<3329) (hb:b<3329):w64 ((a:Int)*(b:Int))=((a*b:Nat):Int):=by
 have h:a*b<3329*3329:=Nat.mul_lt_mul'' ha hb
 rw [show (a:Int)*(b:Int)=((a*b:Nat):Int) from (Int.natCast_mul _ _).symm,wn (by omega)]
theorem mul_lt {a b:Nat} (ha:a<3329) (hb:b<3329):a*b<11082241:=Nat.mul_lt_mul'' ha hb
def JAG (a b:List Nat):List Nat:=(List.range 256).map fun i=>(a.getD i 0+b.getD i 0) % 3329
theorem PAl (a b:List Nat):Ya (JAG a b):=WA3 fun _=>Nat.mod_lt _ (by decide)
def QAl (a0 a1 b0 b1:List Nat):List Nat:=JAG (JAG (List.replicate 256 0) (mulL a0 b0)) (mulL a1 b1)
theorem GBG (a0 a1 b0 b1:List Nat):Ya (QAl a0 a1 b0 b1):=PAl _ _
theorem HBG:Ya (List.replicate 256 0):=⟨List.length_replicate,fun x hx=>by grind⟩
def Ye (S:ByteArray) (k:Nat):Nat:=strm S (3*k)+256*(strm S (3*k+1) % 16)
def Rj (S:ByteArray) (k:Nat):Nat:=strm S (3*k+1) / 16+16*strm S (3*k+2)
def Ou (x:Nat) (o:List Nat):List Nat:=if x<3329∧o.length<256 then o++[x] else o
def Ai (S:ByteArray) (k:Nat) (o:List Nat):List Nat:=Ou (Rj S k) (Ou (Ye S k) o)
def NAC (S:ByteArray):Nat→Nat→List Nat→List Nat
 | 0,_,o=>o
 | j+1,k,o=>if o.length<256 then NAC S j (k+1) (Ai S k o) else o
def Lh (o:List Nat):List Nat:=o++List.replicate (256 - o.length) 0
def UQ (o:List Nat):Prop:=o.length≤256∧∀ x ∈ o,x<3329
theorem IBG {x:Nat} {o:List Nat} (h:UQ o):UQ (Ou x o):=by
 rw [Ou]
 split
 ·rename_i hc
  refine ⟨by grind,fun y hy=>?_⟩
  rw [List.mem_append,List.mem_singleton] at hy
  rcases hy with h1 | rfl
  ·exact h.2 y h1
  omega
 omega
theorem V4 {S:ByteArray} {k:Nat} {o:List Nat} (h:UQ o):UQ (Ai S k o):=IBG (IBG h)
theorem JBG (S:ByteArray):∀ (j k:Nat) (o:List Nat),UQ o→UQ (NAC S j k o)
 | 0,_,_,h=>h
 | j+1,k,o,h=>by
  rw [NAC]
  split
  ·exact JBG S j (k+1) _ (V4 h)
  ·exact h
theorem UBf {o:List Nat} (h:UQ o):Ya (Lh o):=⟨by rw [Lh,List.length_append,List.length_replicate];have:=h.1;omega,fun x hx=>by
 rw [Lh,List.mem_append] at hx
 rcases hx with h1 | h1
 ·exact h.2 x h1
 grind⟩
theorem VBf {o:List Nat} {x:Nat} (h:o.length<256):(Lh o).set o.length x=Lh (o++[x]):=by
 rw [Lh,Lh,List.set_append_right _ _ (Nat.le_refl _),Nat.sub_self,show 256 - o.length=(256 - (o++[x]).length)+1 by grind,List.replicate_succ,List.append_assoc];rfl
def Ef (seed:ByteArray) (i j:Nat):List Nat:=Lh (NAC (sd ((seed++Yf i)++Yf j)) 4000 0 [])
theorem RAl (seed:ByteArray) (i j:Nat):Ya (Ef seed i j):=UBf (JBG _ _ _ _ ⟨Nat.zero_le _,fun _ h=>by cases h⟩)
theorem V8 (S:ByteArray) {p n i:Nat} (h:i<n):Zb (ofBytes (up (Xb S p n))) i=strm S (p+i):=by
 rw [FAl (NBf S p n) (by simp_all [IAl]),Xb,getD_at (by simp_all),List.getElem_map,List.getElem_range',Nat.one_mul]
def Ci (l:List Nat) (p:Nat):Nat:=if p % 3=0 then l.getD (2*(p / 3)) 0 % 256 else if p % 3=1 then l.getD (2*(p / 3)) 0 / 256+l.getD (2*(p / 3)+1) 0 % 16*16 else l.getD (2*(p / 3)+1) 0 / 16
def Jm (l:List Nat):ByteArray:=ofBytes (up ((List.range 384).map (Ci l)))
theorem Qu (l:List Nat):(Jm l).size=384:=by rw [Jm,ofBytes_size,Ia,List.length_map,List.length_range]
theorem KBG (l:List Nat) (q:Nat):Ci l (3*q)=l.getD (2*q) 0 % 256:=by simp [Ci]
theorem LBG (l:List Nat) (q:Nat):Ci l (3*q+1)=l.getD (2*q) 0 / 256+l.getD (2*q+1) 0 % 16*16:=by grind [Ci]
theorem MBG (l:List Nat) (q:Nat):Ci l (3*q+2)=l.getD (2*q+1) 0 / 16:=by grind [Ci]
theorem NBG (v:Nat→Nat):∀ (j i:Nat) (o:List Nat),Oa (fun i o=>o++[v (3*i)]++[v (3*i+1)]++[v (3*i+2)]) j i o=Oa (fun p o=>o++[v p]) (3*j) (3*i) o
 | 0,_,_=>rfl
 | j+1,i,o=>by rw [Oa,NBG v j (i+1),show 3*(j+1)=3*j+1+1+1 by omega,Oa,Oa,Oa];rfl
def Di (seed:ByteArray):ByteArray:=Ob (Ob seed++⟨#[114]⟩)
def Ei (seed:ByteArray):ByteArray:=Ob (Ob seed++⟨#[115]⟩)
def pS (seed:ByteArray) (i:Nat):List Nat:=BAO (Qj (Ei seed) i)
theorem OAC (seed:ByteArray) (i:Nat):Ya (pS seed i):=SBf (ZAN _ _)
def KAG (seed:ByteArray) (i:Nat):List Nat:=QAl (Ef (Di seed) 0 i) (Ef (Di seed) 1 i) (pS seed 0) (pS seed 1)
def pT (seed:ByteArray) (i:Nat):List Nat:=JAG (KAG seed i) (pS seed (2+i))
theorem OBG (seed:ByteArray) (i:Nat):Ya (pT seed i):=PAl _ _
def Ru (seed:ByteArray):ByteArray:=((⟨#[]⟩++Jm (pT seed 0))++Jm (pT seed 1))++Di seed
def Ls (seed:ByteArray):ByteArray:=(((⟨#[]⟩++Jm (pS seed 0))++Jm (pS seed 1))++Ru seed++Ob (Ru seed))++Ob (Ob seed++⟨#[122]⟩)
theorem PBG (seed:ByteArray):(Ru seed).size=800:=by
 have h:(⟨#[]⟩:ByteArray).size=0:=rfl
 simp_all [Ru,Qu,Di,Ig]
noncomputable def QAa (x:SThing):ByteArray:=bif Za x then (bif x.fKind == 1 then Ru x.fValue else bif x.fKind == 2 then U3 (x.fValue++⟨#[116]⟩) else ⟨#[]⟩) else ⟨#[]⟩
theorem CAO {x:SThing} (h:Za x=true) (hk:x.fKind=1∨x.fKind=2):x.fValue.size=32:=by
 grind [Za]
def X4 (n:Int):ByteArray:=ofBytes (CAl n.toNat)
theorem QBG:∀ (k n:Nat),(QAN k n).length≤k
 | 0,_=>Nat.le_refl _
 | k+1,n=>by
  rw [QAN]
  split
  ·exact Nat.zero_le _
  ·rw [List.length_append,List.length_singleton]
   have:=QBG k (n / 10)
   omega
theorem RBG (n:Int):(X4 n).size≤20:=by
 grind [X4,ofBytes_size,CAl,QBG]
noncomputable def LAG (t:ByteArray):SThing×Bool:=(Tz t).getD (UAB,false)
theorem ZA3 {t:ByteArray} (h:t.size≤140737488351232):Tz t=some (LAG t)∧L6 t=some (LAG t)∧EAk t (LAG t):=by
 grind [SBb,LAG]
theorem AA4 (k t:ByteArray):(Yv k t).1.size≤400:=by
 unfold Yv
 cases (Jb k 0 t).2
 ·exact Nat.zero_le _
 cases (Ku (Jb k 0 t).1 0).2.2
 ·exact Nat.zero_le _
 by_cases h3:((Ku (Jb k 0 t).1 0).1.size:Int) > 400
 ·rw [decide_eq_true h3];exact Nat.zero_le _
 ·rw [decide_eq_false h3]
  cases Ju (bs (Ku (Jb k 0 t).1 0).1) == bs (Jb k 0 t).1
  ·exact Nat.zero_le _
  grind
def Vk (b:SBox):ByteArray:=Ob (⟨#[111,117,116]⟩++b.fKey)
def SBG (x:SThing):SThing:=⟨0,x.fKind,x.fHidden,x.fFixed,false,x.fWraps,x.fValue,0⟩
def BA4 (n:Int):SRec:=⟨4,⟨#[]⟩,n,⟨0,0,false,false,false,false,⟨#[]⟩,0⟩⟩
abbrev PT:=List SRec×Int×ByteArray
def PAC (b:SBox) (c:SCall) (x:SThing) (ok:Bool):PT:=
 bif !ok then Nk 6 else bif decide ((b.fBook.fThings.length:Int)≥8) then Nk 1 else bif decide (b.fBook.fLast≥1000) then Nk 1 else ([Q8 (newX b c x)],0,X4 (b.fBook.fLast+1))
def SAl (b:SBox) (c:SCall):SThing×Bool:=defaults c.fKind (bif c.fKind == 2 then X4 (b.fBook.fLast+1)++⟨#[32]⟩++c.fText else c.fText)
noncomputable def inX (b:SBox) (c:SCall):SThing×Bool:=LAG (Yv (Vk b) c.fText).1
def UAl (b:SBox) (c:SCall):PT:=PAC b c (SAl b c).1 (SAl b c).2
noncomputable def RAa (b:SBox) (c:SCall):PT:=PAC b c (SBG (inX b c).1) ((Yv (Vk b) c.fText).2 && (inX b c).2)
def DAO (b:SBox) (c:SCall) (x:SThing):PT:=
 bif decide (Cm b x≥16) then Nk 1 else (bif Cm b x != x.fNext then [] else [Q8 (BAl x)],0,FA3 (Iu x.fValue (Cm b x) c.fText))
noncomputable def MAG (tk:ByteArray→ByteArray×Bool) (b:SBox) (c:SCall) (x:SThing):PT:=
 bif c.fOp == 6 then (bif Bj x 1 then ([],0,x.fValue) else Nk 8)
 else bif c.fOp == 5 then (bif Bj x 3 then DAO b c x else Nk 8)
 else bif c.fOp == 10 then (bif Bj x 2 then ([],0,(PAN (Vk b) (Gf x).1).1) else Nk 8)
 else bif c.fOp == 12 then (bif Bj x 4 then (bif !(tk (Ls x.fValue)).2 then Nk 6 else ([],0,(tk (Ls x.fValue)).1)) else Nk 8)
 else bif c.fOp == 8 then (bif (X3 x c.fHidden c.fFixed).2 then ([Q8 (X3 x c.fHidden c.fFixed).1],0,⟨#[]⟩) else Nk 8)
 else bif c.fOp == 7 then ([],0,QAa x)
 else bif c.fOp == 9 then ([BA4 x.fId],0,⟨#[]⟩) else Nk 8
noncomputable def Zf (tk:ByteArray→ByteArray×Bool) (b:SBox) (c:SCall):PT:=
 bif c.fOp == 1 then (bif decide ((b.fSessions.length:Int)≥3) then Nk 1 else bif decide (b.fOpened≥1000) then Nk 1 else ([],0,X4 (b.fOpened+1)))
 else bif decide (Gs b c.fSession<0) then Nk 2
 else bif c.fOp == 13 then ([],0,⟨#[]⟩)
 else bif c.fOp == 2 then KAN b c
 else bif !(b.fSessions.getD (Gs b c.fSession).toNat ⟨0,false⟩).fIn then Nk 5
 else bif c.fOp == 3 then (bif decide ((c.fText.size:Int) > 20) then Nk 6 else ([Xh c.fText],0,⟨#[]⟩))
 else bif c.fOp == 4 then UAl b c
 else bif c.fOp == 11 then RAa b c
 else match Ic b.fBook.fThings c.fThing with
  | none=>Nk 7
  | some x=>MAG tk b c x
structure PB (b:SBox):Prop where
 key:b.fKey.size=32
 Jl:Jg b.fBook=true
 ses:b.fSessions.length≤3
 opn:0≤b.fOpened∧b.fOpened≤1000
 liv:L8 b=true
 lln:b.fLives.length≤140737488351232
theorem PB.things {b:SBox} (h:PB b):b.fBook.fThings.length≤8:=(Vh.1 h.Jl).2.2.2.1
theorem PB.last {b:SBox} (h:PB b):0≤b.fBook.fLast∧b.fBook.fLast≤1000:=(Vh.1 h.Jl).2.2.2.2.1
theorem Good.pb {k:ByteArray} {l:List SRec} {b:SBox} (g:Good k l b):PB b:=⟨by rw [g.key,g.ksz],g.Jl,g.ses.1,g.opn,g.liv.1,by have:=g.liv.2;omega⟩
theorem WBf {t:Int}:∀ {ls:List SLive} {i j:Nat},Du ls t i=some j→(ls.getD (j - i) ⟨0,0⟩).fId=t:=by
 intro ls
 induction ls with
 | nil=>intro i j h;cases h
 | cons f fs ih=>
  intro i j h
  rw [Du] at h
  split at h
  ·simp_all
  ·have h2:=ih h
   have h3:=(VA2 h).1
   grind
theorem CA4 {b:SBox} {x:SThing} (h:L8 b=true) (hx:Ic b.fBook.fThings x.fId=some x) (hn:0≤x.fNext):0≤Cm b x∧Cm b x≤x.fNext:=by
 rw [Cm]
 cases hp:Du b.fLives x.fId 0 with
 | none=>simp_all
 | some j=>
  have h1:=VA2 hp
  have h2:=WBf hp
  have h3:=ZBD h j h1.1 h1.2
  simp_all [U2,Aa]
theorem X8 {xs:List SThing} {t:Int} {x:SThing} (h:Ic xs t=some x):x.fId=t∧x ∈ xs:=by
 grind [Ic]
theorem DA4 {x:SThing} (h:Bj x 3=true):Za x=true∧x.fKind=2∧x.fSigns=true:=by
 grind [Bj,Za]
theorem TBG {x:SThing} (h:Bj x 4=true):Za x=true∧x.fKind=1:=by
 grind [Bj,Za]
theorem EA4 {b:SBox} (h:b.fKey.size=32):AAE b=some (Vk b):=by
 have h3:(⟨#[111,117,116]⟩:ByteArray).size=3:=rfl
 rw [AAE,AAq,mk,TB (by simp_all),Hl (by simp_all)];rfl
theorem FA4 {k s:ByteArray} (hk:k.size≤900000000):BAE k s=some (PAN k s):=by
 rw [BAE,CAq,mk,PAN]
 by_cases h:400<s.size
 ·grind
 ·have h2:=HA3 (l:=bs s) (by grind [bs_len])
  have hl:=bs_len s
  have h1:=Zi (n:=(s.size:Int)) (by omega)
  have hz:(ofBytes (SN (s.size:Int))++s).size=(SN (s.size:Int)++bs s).length:=by simp_all [ofBytes_size]
  have hlen:(SN (s.size:Int)++bs s).length=(SN (s.size:Int)).length+s.size:=by simp_all
  rw [PY (by grind),PY (by grind),O0 (by omega),Option.bind_some,TB (by grind),TB (by grind)]
  rw [TAM,Ue,YZ (U0 (by omega))]
  generalize hb:SN (s.size:Int)++bs s=B at hz hlen
  have key:∀ (j i m:Nat),i+j=(16 - B.length % 16) % 16→VAI (m+j+1) (.c0 k (B++List.replicate i 0))=some (Wh k 0 (ofBytes (Ju (bs s)))):=by
   intro j
   induction j with
   | zero=>
    grind [Ju,VAI,PAd,PBB,ofBytes_size]
   | succ j ih=>
    intro i m hi
    have e:(B++List.replicate i (0:Int))++[0]=B++List.replicate (i+1) 0:=by simp [List.replicate_succ']
    grind [VAI,PAd]
  obtain ⟨m,hm⟩:∃ m,gas=m+(16 - B.length % 16) % 16+1:=⟨gas - ((16 - B.length % 16) % 16+1),by have:=gas_lt (n:=(16 - B.length % 16) % 16+1) (by omega);omega⟩
  have h0:=key ((16 - B.length % 16) % 16) 0 m (by omega)
  simp_all
def VAl (c:SCall):Bool:=(c.fOp == 0) && ((c.fSession == 0) && ((c.fThing == 0) && ((c.fKind == 0) && (((ByteArray.toList c.fText) == (ByteArray.toList (⟨#[]⟩:ByteArray))) && ((c.fHidden == false) && ((c.fFixed == false) && true))))))
theorem XBf (c:SCall):RAu c=some (VAl c):=rfl
def SAa (e:SEvent):Bool:=decide ((e.fLeft.length:Int)≤30) && (Gq e.fCall || (e.fRise && VAl e.fCall))
theorem YBf (e:SEvent):MAU e=some (SAa e):=by
 simp only [MAU,SAu,mk,QBE,XBf,Option.bind_some,SAa]
 grind
structure BSz (b:SBox):Prop where
 d:b.fDisk.fFiles.length*40≤140737488355328
 t:b.fBook.fThings.length≤2932031007317
 s:b.fSessions.length≤3
 l:b.fLives.length≤8
 o:0≤b.fOpened∧b.fOpened≤1000
theorem Good.bsz {k:ByteArray} {l:List SRec} {b:SBox} (g:Good k l b):BSz b:=⟨by have:=g.small.1;omega,by have:=g.tng;omega,g.ses.1,g.liv.2,g.opn⟩
def delS (ls:List SSession) (id:Int):List SSession:=ls.filter fun s=>s.fId != id
def inS (ls:List SSession) (id:Int):List SSession:=ls.map fun s=>⟨s.fId,s.fIn || s.fId == id⟩
def UAa (ls:List SLive) (id:Int):List SLive:=ls.filter fun v=>v.fId != id
def EAO (b:SBox) (S:List SSession):SBox:=⟨b.fKey,b.fUp,b.fDisk,b.fBook,S,b.fLives,b.fOpened⟩
def Y8 (b:SBox) (V:List SLive):SBox:=⟨b.fKey,b.fUp,b.fDisk,b.fBook,b.fSessions,V,b.fOpened⟩
def WAl (b:SBox) (c:SCall) (leaf:Int):SBox:=match Ic b.fBook.fThings c.fThing with
 | some x=>bif x.fKind == 2 && (decide (leaf≥0) && decide (leaf<x.fNext)) then Y8 b (N8 b.fLives x.fId (leaf+1)) else b
 | none=>b
def QAC (b:SBox) (c:SCall) (code leaf:Int):SBox:=
 bif code != 0 then b
 else bif c.fOp == 1 then ⟨b.fKey,b.fUp,b.fDisk,b.fBook,b.fSessions++[⟨b.fOpened+1,false⟩],b.fLives,b.fOpened+1⟩
 else bif c.fOp == 13 then EAO b (delS b.fSessions c.fSession)
 else bif c.fOp == 2 then EAO b (inS b.fSessions c.fSession)
 else bif c.fOp == 5 then WAl b c leaf
 else bif c.fOp == 9 then Y8 b (UAa b.fLives c.fThing)
 else b
noncomputable def UBG (b:SBox) (r:SRec):Bool×SBox:=
 bif !(Aq b.fKey b.fBook.fCount r).2 || (!(Xa b.fBook r).2 || decide ((Oi b.fDisk (Aq b.fKey b.fBook.fCount r).1 0).2<((Aq b.fKey b.fBook.fCount r).1.length:Int))) then (false,b)
 else (true,⟨b.fKey,b.fUp,(Oi b.fDisk (Aq b.fKey b.fBook.fCount r).1 0).1,(Xa b.fBook r).1,b.fSessions,b.fLives,b.fOpened⟩)
theorem VBG {x:SThing} (h:Za x=true):(WZ (Q8 x)).2=true:=by
 grind [WZ,Q8,Gf,Xg]
noncomputable def Cc (k w:ByteArray):SLife:=⟨(Yr k w).1,[],[],[],[Xh w]⟩
def WBG (l:SLife) (c:Int) (s:ByteArray):SLife:=⟨l.fBox,l.fCodes++[c],l.fReplies++[s],l.fGives,l.fDone⟩
def Ns (F:ByteArray) (n:Int) (zs:List Int):Int:=ite (n > (match zs with | []=>0 | z::_=>ite ((ite ((F.size:Int)<z) (F.size:Int) z) > 0) (ite ((F.size:Int)<z) (F.size:Int) z) 0)) n (match zs with | []=>0 | z::_=>ite ((ite ((F.size:Int)<z) (F.size:Int) z) > 0) (ite ((F.size:Int)<z) (F.size:Int) z) 0)
theorem ZBf {F:ByteArray} {n:Int} (zs:List Int) (h:0≤n∧n≤(F.size:Int)):n≤Ns F n zs∧Ns F n zs≤(F.size:Int):=by
 unfold Ns
 grind
def NAG (F:ByteArray) (n:Int) (zs:List Int):SDisk:=dk (F.extract 0 (Ns F n zs).toNat) (Ns F n zs)
structure Down (k:ByteArray) (l:List SRec) (b:SBox):Prop where
 ksz:k.size=32
 len:1≤l.length∧l.length≤50
 book:(Vb Qc l).2=true
 box:∃ X:ByteArray,b=⟨k,false,dk X X.size,Qc,[],[],0⟩∧X.size≤16700∧∃ (l2:List SRec) (K:Nat),l2.length≤50∧(Vb Qc l2).2=true∧K≤(Ua (tx k 1 l2)).length∧bs X=(Ua (tx k 1 l2)).take K∧l=l2.take (whole (tx k 1 l2) K)
theorem ABg {k:ByteArray} {l:List SRec} (hl:l.length≤50):(Ua (tx k 1 l)).length≤334*l.length:=by
 have h:=KAk k _ (CAa k l 1 (by omega) (by omega))
 simp_all [FAC]
noncomputable def XAl (b:SBox):SBox×Bool:=
 bif b.fUp || !Au b then (RA1,false)
 else bif !(Xe b.fKey b.fDisk).2.2 || decide ((Oi b.fDisk (Xe b.fKey b.fDisk).2.1 0).2<((Xe b.fKey b.fDisk).2.1.length:Int)) then (RA1,false)
 else (⟨b.fKey,true,(Oi b.fDisk (Xe b.fKey b.fDisk).2.1 0).1,(Xe b.fKey b.fDisk).1,[],[],0⟩,true)
theorem BBg {k:ByteArray} {d:SDisk} (hf:∀ f ∈ d.fFiles,f.fText.size≤140737488351232):∀ a ∈ (Xe k d).2.1,a.fText.size≤140737488351232:=by
 have h0:=JA2 (n:=La) hf
 intro a
 rw [Xe]
 cases (!(Tf d) || !(Vb Qc (Jk k (Yg d La).1).1).2)
 ·rw [cond_false]
  show a ∈ _++_→_
  rw [List.mem_append]
  rintro (h | h)
  ·cases hc:decide (Ut d nNew≥0) <;> rw [hc] at h
   ·cases h
   ·rw [List.mem_singleton.1 h];exact Nat.zero_le _
  ·cases hc:(Jk k (Yg d La).1).2 == ((Yg d La).1.size:Int) <;> rw [hc] at h
   ·simp only [cond_false,List.mem_cons,List.not_mem_nil,or_false] at h
    rcases h with rfl | rfl | rfl
    ·grind [ByteArray.size_extract]
    ·exact Nat.zero_le _
    ·exact Nat.zero_le _
   ·cases h
 simp
structure LS (k:ByteArray) (l:List SRec) (cs:List Int) (L:SLife):Prop where
 good:Good k l L.fBox
 codes:L.fCodes=cs
 few:cs.length≤60∧L.fReplies.length=cs.length∧L.fGives.length≤60∧L.fDone.length≤60
def VAa (n:Int):SRec:=⟨2,⟨#[]⟩,n,⟨0,0,false,false,false,false,⟨#[]⟩,0⟩⟩
theorem Good.XBG {k:ByteArray} {l:List SRec} {b:SBox} (g:Good k l b) {S:List SSession} {o:Int} (hS:S.length≤3) (hs:Fq ⟨b.fKey,b.fUp,b.fDisk,b.fBook,S,b.fLives,o⟩ S.length 0=true) (ho:0≤o∧o≤1000):Good k l ⟨b.fKey,b.fUp,b.fDisk,b.fBook,S,b.fLives,o⟩:=
 ⟨g.ksz,g.key,g.up,g.disk,g.len,g.book,⟨hS,hs⟩,ho,⟨(YBc (b:=b) (c:=⟨b.fKey,b.fUp,b.fDisk,b.fBook,S,b.fLives,o⟩) rfl rfl _ _).trans g.liv.1,g.liv.2⟩⟩
theorem CBg {n:Int} (h:0≤n∧n≤3):(WZ (VAa n)).2=true:=by
 grind [WZ,VAa,Aa,Vg,Xg]
theorem DBg {b:SBook} (hb:Jg b=true) (hc:b.fCount<10000) {n:Int} (h:0≤n∧n≤3):Xa b (VAa n)=(⟨b.fWord,n,b.fThings,b.fLast,Ob (b.fChain++(WZ (VAa n)).1),b.fCount+1⟩,true):=by
 rw [Xa,hb,CBg h,decide_eq_false (by omega:¬ b.fCount≥10000)];rfl
theorem EBg {k w:ByteArray} (hk:k.size=32) (hw:w.size≤20):LS k [Xh w] [] (Cc k w)∧(Cc k w).fBox.fSessions=[]∧(Cc k w).fBox.fOpened=0∧(Cc k w).fBox.fLives=[]∧(Cc k w).fBox.fBook.fTries=0∧(Cc k w).fBox.fBook.fWord=Ob w∧(Cc k w).fBox.fBook.fThings=[]∧(Cc k w).fBox.fBook.fLast=0:=by
 obtain ⟨h1,h2,h3,h4,h5,h6⟩:=UA2 hk hw
 have he:Xa Qc (Xh w)=(⟨Ob w,0,[],0,Ob (Qc.fChain++(WZ (Xh w)).1),0+1⟩,true):=by
  rw [Xa,SA1,show (WZ (Xh w)).2=true by rw [VAj],show decide (Qc.fCount≥10000)=false from rfl];rfl
 rw [he] at h6
 refine ⟨⟨h2,rfl,⟨Nat.zero_le _,rfl,Nat.zero_le _,Nat.le_of_ble_eq_true rfl⟩⟩,h3,h5,h4,?_,?_,?_,?_⟩
 all_goals grind [Cc]
theorem YBG {b:SBook} {r:SRec} (h:(Xa b r).2=true) {v:SLive} (hv:HAC b.fThings v):(r.fKind=4∧r.fNum=v.fId)∨HAC (Xa b r).1.fThings v:=by
 obtain ⟨x,h1,h2,h3,h4⟩:=hv
 obtain ⟨e1,e2⟩:=X8 h1
 rcases GBd h e2 with ⟨_,k1,k2⟩ | ⟨y,k1,k2,_,_,_,k3⟩
 ·omega
 ·rw [e1] at k1;exact .inr ⟨y,k1,by omega,h3,by omega⟩
noncomputable def OAG (b:SBox) (r:SRec):SBox:=⟨b.fKey,b.fUp,(Oi b.fDisk (Aq b.fKey b.fBook.fCount r).1 0).1,(Xa b.fBook r).1,b.fSessions,b.fLives,b.fOpened⟩
theorem ZBG {k:ByteArray} {l:List SRec} {b:SBox} {r:SRec} (g:Good k l b) (hl:l.length<50) (hr:(Xa b.fBook r).2=true) :
  UBG b r=(true,OAG b r)∧∀ V,(∀ v ∈ V,HAC (Xa b.fBook r).1.fThings v)→Xv V→Good k (l++[r]) (Y8 (OAG b r) V):=by
 obtain ⟨F,h1,h2⟩:=g.disk
 obtain ⟨T,t1,t2⟩:=PA2 (k:=k) (r:=r) (i:=l.length) (A8 hr).2.1 (by omega)
 have hlen:(l++[r]).length=l.length+1:=by simp
 have hat:(l++[r])[l.length]'(by omega)=r:=by simp
 obtain ⟨E,e1,e2⟩:=TBc (k:=k) (T:=T) (l:=l++[r]) (i:=l.length) (d:=b.fDisk) (by omega) (by omega) (.inr ⟨F,h1,by simp_all⟩) (by simp_all)
 rw [List.take_of_length_le (by omega)] at e2
 refine ⟨?_,fun V hV ha=>?_⟩
 ·rw [UBG,OAG,g.key,g.cnt,t1]
  dsimp only
  rw [e1,hr];rfl
 ·have hd:(Oi b.fDisk (Aq b.fKey b.fBook.fCount r).1 0).1=dk E E.size:=by
   rw [g.key,g.cnt,t1]
   simp_all
  have hb:=Vh.1 (A8 hr).2.2.2.1
  have hf:=ABE hb.2.2.2.2.2.2 ha fun v hv=>by
   obtain ⟨x,hx,_⟩:=hV v hv
   exact ⟨x,(X8 hx).2,(X8 hx).1⟩
  refine ⟨g.ksz,g.key,g.up,⟨E,hd,e2⟩,⟨by omega,by omega⟩,?_,⟨g.ses.1,?_⟩,g.opn,YA2.2 ⟨hV,ha⟩,?_⟩
  ·rw [UA1,g.book]
   dsimp only
   rw [cond_true,Vb,hr];rfl
  ·exact (SBD (b:=b) (c:=Y8 (OAG b r) V) rfl rfl _ _).trans g.ses.2
  ·show V.length≤8
   omega
theorem Good.lives {k:ByteArray} {l:List SRec} {b:SBox} (g:Good k l b):(∀ v ∈ b.fLives,HAC b.fBook.fThings v)∧Xv b.fLives:=YA2.1 g.liv.1
theorem Good.ABH {k:ByteArray} {l:List SRec} {b:SBox} (g:Good k l b):(∀ s ∈ b.fSessions,1≤s.fId∧s.fId≤b.fOpened)∧AscS b.fSessions:=ZA2.1 g.ses.2
theorem FBg {b:SBook} {y:SThing} (hb:Jg b=true) (hc:b.fCount<10000) (hy:Za y=true) (h8:b.fThings.length<8) (hid:y.fId=b.fLast+1):(Xa b (Q8 y)).2=true:=by
 have hn:=(CBB (x:=y) (Vh.1 hb).2.2.2.2.2.2 (by omega)).2
 grind [Z7,Xa,Q8,VBG]
theorem BBH {b:SBook} {x y:SThing} (hb:Jg b=true) (hc:b.fCount<10000) (hy:Za y=true) (hx:Ic b.fThings y.fId=some x) (hg:grown x y=true):(Xa b (Q8 y)).2=true:=by
 grind [Z7,Xa,Q8,VBG]
theorem GBg {b:SBook} {x:SThing} (hb:Jg b=true) (hc:b.fCount<10000) (hx:Ic b.fThings x.fId=some x) (hok:Za x=true):(Xa b (BA4 x.fId)).2=true:=by
 obtain ⟨_,_,i1,i2,_⟩:=Uo hok
 grind [WZ,BA4,Aa,Vg,Xg,Xa]
theorem HBg {b:SBook} (hb:Jg b=true) (hc:b.fCount<10000) (w:ByteArray):(Xa b (Xh w)).2=true:=by
 rw [Xa,hb,VAj,decide_eq_false (by omega:¬ b.fCount≥10000)];rfl
def PAG (x:SThing):SThing:=⟨1,x.fKind,x.fHidden,x.fFixed,x.fSigns,x.fWraps,x.fValue,x.fNext⟩
theorem IBg {b:SBox} {c:SCall} {x:SThing} (hl:0≤b.fBook.fLast∧b.fBook.fLast<1000) (h:Za (PAG x)=true):Za (newX b c x)=true:=by
 have h1:KZ (b.fBook.fLast+1) 1 1000=true:=Aa.2 (by omega)
 rw [Za] at h ⊢
 rw [show KZ (newX b c x).fId 1 1000=true from h1]
 exact h
theorem CBH (x:Int) (h f s w:Bool) (k:Int) (hk:k=1∧s=false∨k=2∧w=false) (d:ByteArray) (hd:d.size=32):Za (PAG ⟨x,k,h,f,s,w,d,0⟩)=true:=by
 rw [Za,PAG]
 dsimp only
 rw [hd]
 rcases hk with ⟨rfl,rfl⟩ | ⟨rfl,rfl⟩
 all_goals rfl
theorem JBg {kind:Int} {d:ByteArray} (h:(defaults kind d).2=true):Za (PAG (defaults kind d).1)=true:=by
 rw [defaults] at h ⊢
 by_cases h1:kind=1
 ·grind [CBH,Ig]
 ·rw [beq_eq_false_iff_ne.2 h1,cond_false] at h ⊢
  by_cases h2:kind=2
  ·grind [CBH,Ig]
  ·rw [beq_eq_false_iff_ne.2 h2,cond_false] at h ⊢
   by_cases h3:kind=3
   ·subst h3
    rw [show ((3:Int) == 3)=true from rfl,cond_true] at h ⊢
    by_cases hz:(d.size:Int)≤100
    ·rw [decide_eq_true hz,cond_true]
     rw [Za,PAG]
     dsimp only
     rw [decide_eq_true hz];rfl
    simp_all
   grind
theorem KBg {x:SThing} (h:Za x=true):Za (PAG (SBG x))=true:=by
 rw [Za] at h ⊢
 simp only [Bool.and_eq_true] at h
 obtain ⟨⟨⟨⟨⟨_,h2⟩,_⟩,_⟩,h5⟩,h6⟩:=h
 show (KZ 1 1 1000 && KZ x.fKind 1 3 && KZ 0 0 16 && ((x.fKind == 2) || (((0:Int) == 0) && !false)) && ((x.fKind == 1) || !x.fWraps) && (bif x.fKind == 3 then decide ((x.fValue.size:Int)≤100) else (x.fValue.size:Int) == 32))=true
 grind [KZ]
theorem LBg {t:ByteArray} (h:t.size≤140737488351232) (hr:(LAG t).2=true):Za (LAG t).1=true:=by
 rcases (ZA3 h).2.2 with ⟨_,h2⟩ | h2
 all_goals simp_all [DA2]
theorem DBH {x:SThing} {n:Int} (h:x.fNext≤n) (hi fi:Bool) (h1:(hi || !x.fHidden)=true) (h2:(fi || !x.fFixed)=true):grown x ⟨x.fId,x.fKind,hi,fi,x.fSigns,x.fWraps,x.fValue,n⟩=true:=by
 simp_all [grown]
structure EBH (b:SBox) (c:SCall) (code:Int) (r:SRec):Prop where
 num:r.fNum≤9223372036854775807
 ent:(Xa b.fBook r).2=true
 gone:r.fKind=4→c.fOp=9∧r.fNum=c.fThing∧code=0
 code:code≠0→r.fKind=2
def FAO (b:SBox) (c:SCall) (p:PT):Prop:=p.1=[]∨∃ r,p.1=[r]∧EBH b c p.2.1 r
theorem Xn {b:SBox} {c:SCall} {n:Int}:FAO b c (Nk n):=.inl rfl
theorem FBH {k:ByteArray} {l:List SRec} {b:SBox} {c:SCall} {x:SThing} {ok:Bool} (g:Good k l b) (h:ok=true→Za (PAG x)=true):FAO b c (PAC b c x ok):=by
 rw [PAC]
 cases ok
 ·exact Xn
 rw [Bool.not_true,cond_false]
 have hl:=g.pb.last
 have hn:=g.cnt
 have h50:=g.len.2
 by_cases h8:(b.fBook.fThings.length:Int)≥8
 ·simp_all [Xn]
 by_cases h1:b.fBook.fLast≥1000
 ·simp_all [Xn]
 ·rw [decide_eq_false h8,decide_eq_false h1]
  exact .inr ⟨_,rfl,by show (0:Int)≤_;omega,FBg g.Jl (by omega) (IBg (by omega) (h rfl)) (by omega) rfl,fun h=>absurd h (by show ¬ (3:Int)=4;decide),fun h=>absurd rfl h⟩
theorem Good.thing {k:ByteArray} {l:List SRec} {b:SBox} (g:Good k l b) {x:SThing} (hx:x ∈ b.fBook.fThings):Za x=true:=(Y7 (Vh.1 g.Jl).2.2.2.2.2.2 x hx).2.2
theorem MBg {tk:ByteArray→ByteArray×Bool} {k:ByteArray} {l:List SRec} {b:SBox} {c:SCall} {x:SThing} (g:Good k l b) (hx:Ic b.fBook.fThings c.fThing=some x):FAO b c (MAG tk b c x):=by
 obtain ⟨e1,e2⟩:=X8 hx
 have hok:=g.thing e2
 have hx':Ic b.fBook.fThings x.fId=some x:=by simp_all
 have hn:=g.cnt
 have h50:=g.len.2
 obtain ⟨_,_,_,_,n0,n1,_⟩:=Uo hok
 rw [MAG]
 cases c.fOp == 6
 ·cases c.fOp == 5
  ·cases c.fOp == 10
   ·cases c.fOp == 12
    ·cases c.fOp == 8
     ·cases c.fOp == 7
      ·cases h9:c.fOp == 9
       ·exact Xn
       ·obtain ⟨i1,i2⟩:=(Uo hok).2.2
        exact .inr ⟨_,rfl,by show x.fId≤_;omega,GBg g.Jl (by omega) hx' hok,fun _=>⟨beq_iff_eq.1 h9,e1,rfl⟩,fun h=>absurd rfl h⟩
      ·exact .inl rfl
     ·rw [cond_true]
      cases hc:(X3 x c.fHidden c.fFixed).2
      ·exact Xn
      ·rw [X3] at hc ⊢
       cases hq:Za x && ((c.fHidden || !x.fHidden) && (c.fFixed || !x.fFixed))
       ·grind
       ·simp only [Bool.and_eq_true] at hq
        have hy:Za ⟨x.fId,x.fKind,c.fHidden,c.fFixed,x.fSigns,x.fWraps,x.fValue,x.fNext⟩=true:=hok
        exact .inr ⟨_,rfl,by show (0:Int)≤_;omega,BBH g.Jl (by omega) hy hx' (DBH (Int.le_refl _) _ _ hq.2.1 hq.2.2),fun h=>absurd h (by show ¬ (3:Int)=4;decide),fun h=>absurd rfl h⟩
    ·rw [cond_true]
     cases Bj x 4
     ·exact Xn
     ·rw [cond_true]
      cases (tk (Ls x.fValue)).2
      ·exact Xn
      ·exact .inl rfl
   ·rw [cond_true]
    cases Bj x 2
    ·exact Xn
    ·exact .inl rfl
  ·rw [cond_true]
   cases hm:Bj x 3
   ·exact Xn
   ·obtain ⟨_,h2,h3⟩:=DA4 hm
    rw [cond_true,DAO]
    by_cases h16:Cm b x≥16
    ·simp_all [Xn]
    ·rw [decide_eq_false h16,cond_false]
     cases Cm b x != x.fNext
     ·have hnx:x.fNext≤ite (16<x.fNext+3) 16 (x.fNext+3)∧ite (16<x.fNext+3) 16 (x.fNext+3)≤16:=by omega
      have hy:Za (BAl x)=true:=by
       grind [BAl,Aa,Za]
      exact .inr ⟨_,rfl,by show (0:Int)≤_;omega,BBH g.Jl (by omega) hy hx' (DBH hnx.1 _ _ (by simp) (by simp)),fun h=>absurd h (by show ¬ (3:Int)=4;decide),fun h=>absurd rfl h⟩
     ·exact .inl rfl
 ·rw [cond_true]
  cases Bj x 1
  ·exact Xn
  ·exact .inl rfl
theorem YAl {tk:ByteArray→ByteArray×Bool} {k:ByteArray} {l:List SRec} {b:SBox} {c:SCall} (g:Good k l b):FAO b c (Zf tk b c):=by
 have hn:=g.cnt
 have h50:=g.len.2
 obtain ⟨t1,t2⟩:=(Vh.1 g.Jl).2.2.1
 rw [Zf]
 cases c.fOp == 1
 ·rw [cond_false]
  by_cases ha:Gs b c.fSession<0
  ·simp_all [Xn]
  rw [decide_eq_false ha,cond_false]
  cases c.fOp == 13
  ·rw [cond_false]
   cases c.fOp == 2
   ·rw [cond_false]
    cases (b.fSessions.getD (Gs b c.fSession).toNat ⟨0,false⟩).fIn
    ·exact Xn
    rw [Bool.not_true,cond_false]
    cases c.fOp == 3
    ·rw [cond_false]
     cases c.fOp == 4
     ·rw [cond_false]
      cases c.fOp == 11
      ·grind [Xn,MBg]
      ·refine FBH g fun h=>KBg (LBg (by grind [AA4]) ?_)
       rw [Bool.and_eq_true] at h
       exact h.2
     ·exact FBH g JBg
    ·rw [cond_true]
     cases decide ((c.fText.size:Int) > 20)
     ·exact .inr ⟨_,rfl,by show (0:Int)≤_;omega,HBg g.Jl (by omega) _,fun h=>absurd h (by show ¬ (1:Int)=4;decide),fun h=>absurd rfl h⟩
     simp [Xn]
   ·rw [cond_true,KAN]
    have go:∀ n:Int,0≤n∧n≤3→∀ code,EBH b c code (VAa n):=fun n h code=>⟨by show n≤_;omega,by rw [DBg g.Jl (by omega) h],fun h=>absurd h (by show ¬ (2:Int)=4;decide),fun _=>rfl⟩
    by_cases h3:b.fBook.fTries≥3
    ·simp_all [Xn]
    rw [decide_eq_false h3,cond_false]
    cases (Ob c.fText).toList == b.fBook.fWord.toList
    ·exact .inr ⟨_,rfl,go _ (by omega) _⟩
    ·cases b.fBook.fTries == 0
     ·exact .inr ⟨_,rfl,go 0 (by omega) _⟩
     ·exact .inl rfl
  ·exact .inl rfl
 ·rw [cond_true]
  cases decide ((b.fSessions.length:Int)≥3) <;> cases decide (b.fOpened≥1000) <;> first | exact Xn | exact .inl rfl
theorem Good.GBH {k:ByteArray} {l:List SRec} {b:SBox} (g:Good k l b) {S:List SSession} (hS:S.length≤3) (h1:∀ s ∈ S,1≤s.fId∧s.fId≤b.fOpened) (h2:AscS S):Good k l (EAO b S):=
 g.XBG hS ((ZA2 (b:=EAO b S)).2 ⟨h1,h2⟩) g.opn
theorem Good.NBg {k:ByteArray} {l:List SRec} {b:SBox} (g:Good k l b) {V:List SLive} (hV:V.length≤8) (hs:L8 (Y8 b V)=true):Good k l (Y8 b V):=⟨g.ksz,g.key,g.up,g.disk,g.len,g.book,⟨g.ses.1,(SBD (b:=b) (c:=Y8 b V) rfl rfl _ _).trans g.ses.2⟩,g.opn,⟨hs,hV⟩⟩
theorem Good.HBH {k:ByteArray} {l:List SRec} {b:SBox} (g:Good k l b) {V:List SLive} (h1:∀ v ∈ V,HAC b.fBook.fThings v) (h2:Xv V):Good k l (Y8 b V):=by
 have hb:=Vh.1 g.Jl
 have hf:=ABE hb.2.2.2.2.2.2 h2 fun v hv=>by
  obtain ⟨x,hx,_⟩:=h1 v hv
  exact ⟨x,(X8 hx).2,(X8 hx).1⟩
 exact g.NBg (by omega) ((YA2 (b:=Y8 b V)).2 ⟨h1,h2⟩)
theorem IBH {k:ByteArray} {l:List SRec} {b:SBox} {c:SCall} {code leaf:Int} (g:Good k l b) (ho:code=0→c.fOp=1→b.fSessions.length<3∧b.fOpened<1000):Good k l (QAC b c code leaf):=by
 obtain ⟨v1,v2⟩:=g.lives
 obtain ⟨s1,s2⟩:=g.ABH
 have hs:=g.ses.1
 rw [QAC]
 cases hc:code != 0
 ·rw [cond_false]
  have hc:code=0:=by simp_all
  cases h1:c.fOp == 1
  ·rw [cond_false]
   cases c.fOp == 13
   ·rw [cond_false]
    cases c.fOp == 2
    ·rw [cond_false]
     cases c.fOp == 5
     ·rw [cond_false]
      cases c.fOp == 9
      ·exact g
      ·exact g.HBH (fun v hv=>v1 v (List.mem_filter.1 hv).1) (v2.filter _)
     ·rw [cond_true,WAl]
      cases hx:Ic b.fBook.fThings c.fThing with
      | none=>exact g
      | some x=>
       dsimp only
       cases hq:x.fKind == 2 && (decide (leaf≥0) && decide (leaf<x.fNext))
       ·exact g
       ·simp only [Bool.and_eq_true,decide_eq_true_eq,beq_iff_eq] at hq
        refine g.HBH (fun v hv=>?_) (CBE v2)
        rcases AA3 v2 v hv with rfl | ⟨e,_⟩
        ·exact ⟨x,by rw [(X8 hx).1];exact hx,hq.1,by grind,by grind⟩
        simp_all
    ·refine g.GBH (by simp_all [inS]) (fun s h=>?_) ?_
     ·obtain ⟨t,ht,rfl⟩:=List.mem_map.1 h
      simp_all
     ·exact List.pairwise_map.2 s2
   ·exact g.GBH (Nat.le_trans (List.length_filter_le _ _) hs) (fun s h=>s1 s (List.mem_filter.1 h).1) (s2.filter _)
  ·obtain ⟨o1,o2⟩:=ho hc (beq_iff_eq.1 h1)
   have h3:=g.opn
   refine g.XBG (S:=b.fSessions++[⟨b.fOpened+1,false⟩]) (o:=b.fOpened+1) (by grind) ((ZA2 (b:=⟨b.fKey,b.fUp,b.fDisk,b.fBook,b.fSessions++[⟨b.fOpened+1,false⟩],b.fLives,b.fOpened+1⟩)).2 ⟨fun s h=>?_,?_⟩) (by omega)
   all_goals grind
 ·exact g
theorem OBg {tk:ByteArray→ByteArray×Bool} {b:SBox} {c:SCall} (h:(Zf tk b c).2.1=0) (ho:c.fOp=1):b.fSessions.length<3∧b.fOpened<1000:=by
 rw [Zf,ho,show ((1:Int) == 1)=true from rfl,cond_true] at h
 by_cases h1:(b.fSessions.length:Int)≥3
 ·rw [decide_eq_true h1] at h;exact absurd h (by show ¬ (1:Int)=0;decide)
 by_cases h2:b.fOpened≥1000
 ·rw [decide_eq_false h1,decide_eq_true h2] at h;exact absurd h (by show ¬ (1:Int)=0;decide)
 ·omega
noncomputable def RAC (b:SBox) (c:SCall) (p:PT):SBox:=QAC (match p.1 with | []=>b | r::_=>OAG b r) c p.2.1 (Wv b c.fThing)
theorem PBg {tk:ByteArray→ByteArray×Bool} {k:ByteArray} {l:List SRec} {b:SBox} {c:SCall} (g:Good k l b) (hl:l.length<50):Good k (l++(Zf tk b c).1) (RAC b c (Zf tk b c)):=by
 have hop:=OBg (tk:=tk) (b:=b) (c:=c)
 rw [RAC]
 generalize hp:Zf tk b c=p at hop
 have hk:FAO b c p:=by grind [YAl]
 rcases hk with h0 | ⟨r,h1,h2⟩
 ·simp_all [IBH]
 ·rw [h1]
  dsimp only
  obtain ⟨v1,v2⟩:=g.lives
  have e:=(ZBG g hl h2.ent).2
  by_cases h4:r.fKind=4
  ·obtain ⟨o1,o2,o3⟩:=h2.gone h4
   rw [QAC,o1,o3]
   refine e (UAa b.fLives c.fThing) (fun v hv=>?_) (v2.filter _)
   obtain ⟨q1,q2⟩:=List.mem_filter.1 hv
   rcases YBG h2.ent (v1 v q1) with ⟨_,q3⟩ | q3
   all_goals simp_all
  ·refine IBH (e b.fLives (fun v hv=>?_) v2) hop
   rcases YBG h2.ent (v1 v hv) with ⟨q3,_⟩ | q3
   all_goals omega
structure Dec (b:SBox):Prop where
 last:IAB (b.fBook.fLast+1)=some (X4 (b.fBook.fLast+1))
 opn:IAB (b.fOpened+1)=some (X4 (b.fOpened+1))
theorem JBH {b:SBox} {c:SCall} {x:SThing} {ok:Bool} (h:PB b) (hd:Dec b):IAW b c x ok=some (PAC b c x ok):=by
 have hl:=h.last
 rw [IAW,BAx,mk,PAC,newX,w64_id (by omega) (by omega),hd.last]
 simp only [Js (n:=6) (by decide),Js (n:=1) (by decide),Option.bind_some]
 cases ok <;> cases decide ((b.fBook.fThings.length:Int)≥8) <;> cases decide (b.fBook.fLast≥1000) <;> cases x.fHidden <;> cases x.fFixed <;> rfl
theorem QBg {b:SBox} {c:SCall} (h:PB b) (hd:Dec b) (hc:c.fText.size≤1000):GAh b c=some (UAl b c):=by
 have hl:=h.last
 have hz:=RBG (b.fBook.fLast+1)
 have h1:(⟨#[32]⟩:ByteArray).size=1:=rfl
 rw [GAh,CAx,mk,UAl,SAl,w64_id (by omega) (by omega),hd.last]
 grind [ZBd,JBH]
theorem KBH {b:SBox} (h:b.fKey.size=32):JAW b=some (Vk b):=by
 have h3:(⟨#[111,117,116]⟩:ByteArray).size=3:=rfl
 rw [JAW,DAx,mk,TB (by simp_all),Xr (by simp_all)];rfl
theorem LBH {s:ByteArray} (h:s.size≤1000000000):KAW s=some (ofBytes (Ju (bs s))):=by
 have h1:=Zi (n:=(s.size:Int)) (by omega)
 have hl:=bs_len s
 have hz:(ofBytes (SN (s.size:Int))++s).size=(SN (s.size:Int)++bs s).length:=by simp_all [ofBytes_size]
 have hlen:(SN (s.size:Int)++bs s).length=(SN (s.size:Int)).length+s.size:=by simp_all
 rw [KAW,EAx,mk,DAC (by omega),Option.bind_some,TB (by grind),hz]
 have e:(w64 (16 - (((SN (s.size:Int)++bs s).length:Int).tmod 16))).tmod 16=(((16 - (SN (s.size:Int)++bs s).length % 16) % 16:Nat):Int):=by
  grind [w64_id]
 rw [e,TAj (by omega),Option.bind_some,TB (by grind [ofBytes_size])]
 refine congrArg some (Yi ?_)
 rw [Ue,Ue,YZ (U0 (by omega)),YZ (fun x hx=>by grind),YZ (GA3 (Uh s)),Ju,hl]
theorem RBg {text:ByteArray} {a:Nat} (hs:text.size≤140737488351232) (ha:a≤text.size):I7 text a=some (Ku text a):=by
 have hx:=XAZ hs ha
 rw [I7,QAV,mk,RBC hs ha,Option.bind_some,Ku]
 rcases hx with hx | ⟨v,hx,h0,h1,hA⟩
 ·rw [hx];rfl
 grind [w64_id,SN]
theorem SBg {k t:ByteArray} (hk:k.size≤900000000) (ht:t.size≤800000000):HAh k t=some (Yv k t):=by
 have hz:=YAZ k t 0
 have hr0:=RBg (text:=(Jb k 0 t).1) (a:=0) (by omega) (Nat.zero_le _)
 rw [show ((0:Nat):Int)=0 from rfl] at hr0
 rw [HAh,FAx,mk,OBE hk ht,Option.bind_some,hr0,Option.bind_some,Yv]
 cases (Jb k 0 t).2
 ·rfl
 ·rw [PY (by rfl)]
  cases (Ku (Jb k 0 t).1 0).2.2
  ·rfl
  ·rw [PY (by rfl)]
   by_cases h:400<(Ku (Jb k 0 t).1 0).1.size
   ·grind
   ·have e:decide (((Ku (Jb k 0 t).1 0).1.size:Int) > 400)=false:=decide_eq_false (by omega)
    rw [e,cond_false,LBH (by omega),Option.bind_some,D8,YZ (GA3 (Uh _))]
    grind
theorem TBg (x:SThing):GAx x=some ⟨0,x.fKind,x.fHidden,x.fFixed,false,x.fWraps,x.fValue,0⟩:=rfl
theorem UBg {b:SBox} {c:SCall} (h:PB b) (hd:Dec b) (hc:c.fText.size≤1000):IAh b c=some (RAa b c):=by
 have hz:=AA4 (Vk b) c.fText
 have hr:=(ZA3 (t:=(Yv (Vk b) c.fText).1) (by omega)).1
 have hk:(Vk b).size≤900000000:=by simp [Vk,Ig]
 rw [IAh,HAx,mk,RAa,inX]
 simp only [KBH h.key,SBg hk (show c.fText.size≤800000000 by omega),hr,TBg,JBH h hd,Option.bind_some]
 cases (Yv (Vk b) c.fText).2 <;> rfl
theorem VBg {b:SBox} {c:SCall} {x:SThing} (h:PB b) (hc:c.fText.size≤1000) (hx:Ic b.fBook.fThings x.fId=some x) (hm:Bj x 3=true):FAi b c x=some (DAO b c x):=by
 obtain ⟨h1,h2,h3⟩:=DA4 hm
 obtain ⟨_,_,_,_,n0,n1,_⟩:=Uo h1
 have hv:=CAO h1 (.inr h2)
 have ht:=h.things
 have hl:=CA4 h.liv hx n0
 have hleaf:Wv b x.fId=Cm b x:=by simp_all [Wv]
 rw [FAi,HAy,mk,DAO,SBe h.lln (by omega),Option.bind_some,hleaf]
 by_cases h16:Cm b x≥16
 ·simp_all [Js]
 ·rw [decide_eq_false h16,cond_false,cond_false,PBe (by omega) (by omega) (by omega),Option.bind_some,QBe (by omega),Option.bind_some,w64_id (n:=x.fNext+3) (by omega) (by omega)]
  cases Cm b x != x.fNext <;> rfl
theorem WBg {k s:ByteArray} {num:Int} (hk:k.size≤900000000) (hs:s.size≤800000000):HAi k num s=some (Wh k num s):=by
 rw [HAi,IAy,mk,KBE hk,Option.bind_some,ZAB,Wh]
 cases h:maskOk num s.size
 ·rfl
 ·have h':=AAN.1 h
  have hm:=Dy (bs k) (SN num) ((s.size:Int).toNat)
  have hl:=bs_len s
  rw [cond_true,cond_true,PY (by rfl),MBE (by omega) (by simp_all [ofBytes_size]),Option.bind_some,YZ (QAZ _ _ _)]
  have hx:(Jj (bs s) (Ur (bs k) (SN num) (s.size:Int).toNat)).length=s.size:=by simp_all [QAF]
  rw [LBE hk h'.1 (by simp_all [ofBytes_size]),Option.bind_some,YZ (G8 _ _),TB (by grind [ofBytes_size,ZAM])]
  refine congrArg (fun x=>some (x,true)) (Yi ?_)
  rw [Ue,YZ (G8 _ _),YZ (X0 _ _ _),YZ (fun x hx=>by
   rcases List.mem_append.1 hx with hx | hx
   ·exact G8 _ _ x hx
   ·exact X0 _ _ _ x hx),Qn,hl]
  rfl
theorem XBg {k s:ByteArray} (hk:k.size≤900000000):IAi k s=some (PAN k s):=by
 rw [IAi,JAy,mk,PAN]
 grind [HA3,bs_len,LBH,WBg,ofBytes_size]
def Y4 (g:Nat→Nat) (k:Nat):Nat→Nat
 | 0=>0
 | c+1=>Y4 g k c+g (8*k+c)*2 ^ (8*c)
theorem IA4 {g:Nat→Nat} (hg:∀ i,g i<256) (k:Nat):∀ c,Y4 g k c<2 ^ (8*c)
 | 0=>Nat.two_pow_pos _
 | c+1=>by
  have h1:=IA4 hg k c
  have h2:=hg (8*k+c)
  have h3:(g (8*k+c)+1)*2 ^ (8*c)≤256*2 ^ (8*c):=Nat.mul_le_mul_right _ h2
  grind [Y4]
theorem YBg (g:Nat→Nat) (k:Nat):Y4 g k 8=Nq g k:=by
 rw [EAl]
 simp only [Y4,Nat.reduceMul,Nat.reducePow,Nat.add_zero,Nat.mul_one]
 omega
theorem ZBg {s:ByteArray} (h:s.size=200):JAi s=some (up (Uk (Zb s) 25)):=by
 have hp:∀ i,i≤64→2 ^ i≤18446744073709551616:=fun i hi=>Nat.pow_le_pow_right (n:=2) (by decide) hi
 have c2:∀ k:Nat,(2:Int) ^ k=((2 ^ k:Nat):Int):=fun k=>by rfl
 have s1:=Tc (Lp:=CAM) (st:=fun i o=>.c0 s (i:Int) (up (List.replicate 25 0)) (up o)) (f:=fun i o=>o.set (i / 8) (o.getD (i / 8) 0 ||| Zb s i*2 ^ (8*(i % 8)))) (P:=fun i o=>o.length=25∧∀ k,k<25→o.getD k 0=Y4 (Zb s) k (min 8 (i - 8*k))) (n:=200) 1 (fun m i o hi ho=>by
  obtain ⟨hol,hok⟩:=ho
  have hd:i / 8<25:=by omega
  have hv:=hok (i / 8) hd
  rw [show min 8 (i - 8*(i / 8))=i % 8 by omega] at hv
  have hb:=U8 s i
  have hpl:=IA4 (U8 s) (i / 8) (i % 8)
  have hor:Y4 (Zb s) (i / 8) (i % 8) ||| Zb s i*2 ^ (8*(i % 8))=Y4 (Zb s) (i / 8) (i % 8+1):=by
   have:=Nat.shiftLeft_add_eq_or_of_lt hpl (Zb s i)
   grind [Nat.shiftLeft_eq,Y4]
  have hlt:=IA4 (U8 s) (i / 8) (i % 8+1)
  have h64:=hp (8*(i % 8+1)) (by omega)
  have hbp:Zb s i*2 ^ (8*(i % 8))<18446744073709551616:=by
   grind [Y4]
  refine ⟨?_,AAG hol,fun k hk=>?_⟩
  ·have w1:w64 ((i:Int)+1)=((i+1:Nat):Int):=wn (n:=i+1) (by omega)
   have e1:w64 ((i:Int).tdiv 8)=((i / 8:Nat):Int):=wn (n:=i / 8) (by omega)
   have e2:(i:Int).tmod 8=((i % 8:Nat):Int):=rfl
   have e3:w64 (8*((i % 8:Nat):Int))=((8*(i % 8):Nat):Int):=wn (n:=8*(i % 8)) (by omega)
   have e4:Min.min (8*(i % 8)) (IntKind.bits IntKind.u64)=8*(i % 8):=Nat.min_eq_left (by show 8*(i % 8)≤64;omega)
   have e5:wu64 ((Zb s i:Nat):Int)=((Zb s i:Nat):Int):=Hq (by omega)
   have e6:wu64 (((Zb s i:Nat):Int)*((2 ^ (8*(i % 8)):Nat):Int))=((Zb s i*2 ^ (8*(i % 8)):Nat):Int):=Hq (n:=Zb s i*2 ^ (8*(i % 8))) hbp
   have hb2:Nat.beq 25 (up o).length=true:=by simp_all [Ia]
   rw [CAM]
   simp only [LAy,mk,w1,e1,e2,e3,Int.toNat_natCast,e4,c2,Nu,e5,e6,Je]
   rw [hv,o64 (Nat.lt_of_lt_of_le hpl (hp _ (by omega))) hbp,Jh,TB (by grind),hb2,Fa (l:=o) (by omega),TB (a:=_) (by rfl),TB (by rfl),TB (by grind),TB (by rfl)];rfl
  grind)
 obtain ⟨m,hm⟩:∃ m,gas=m+1+200*1:=⟨gas - 201,by rfl⟩
 rw [JAi,KAy,mk,hm]
 obtain ⟨a1,a2,a3⟩:=s1 200 0 (m+1) (List.replicate 25 0) (by omega) ⟨rfl,fun k hk=>by
  rw [show min 8 (0 - 8*k)=0 by omega,List.getD_eq_getElem?_getD,List.getElem?_replicate];split <;> rfl⟩
 refine a1.trans ?_
 have hfin:Oa (fun i o=>o.set (i / 8) (o.getD (i / 8) 0 ||| Zb s i*2 ^ (8*(i % 8)))) 200 0 (List.replicate 25 0)=Uk (Zb s) 25:=by
  refine GAl (by assumption) fun k hk=>?_
  rw [Uk,List.length_map,List.length_range] at hk
  rw [a3 k hk,Uk,NAa hk,←YBg,show min 8 (200 - 8*k)=8 by omega]
 rw [hfin,CAM]
 rfl
theorem MBH {x n:Nat} (hx:x<18446744073709551616) (hn:n<64):NAB (x:Int) (n:Int)=some ((Cj n x:Nat):Int):=by
 have e0:wu64 (((BitVec.toNat ((BitVec.ofInt (IntKind.bits IntKind.u64) (wu64 (n:Int))) &&& (BitVec.ofInt (IntKind.bits IntKind.u64) 63))):Nat):Int)=(n:Int):=by
  rw [Hq (n:=n) (by omega)]
  refine (n64 (a:=n) (b:=63) (by omega) (by decide)).trans ?_
  rw [show (63:Nat)=2 ^ 6 - 1 from rfl,Nat.and_two_pow_sub_one_eq_mod,Nat.mod_eq_of_lt (by omega)]
 have e1:wu64 (64 - (n:Int))=((64 - n:Nat):Int):=by
  grind [Hq]
 have e2:Min.min (n:Int).toNat (IntKind.bits IntKind.u64)=n:=by rw [Int.toNat_natCast];exact Nat.min_eq_left (by show n≤64;omega)
 have e3:Min.min ((64 - n:Nat):Int).toNat (IntKind.bits IntKind.u64)=64 - n:=by rw [Int.toNat_natCast];exact Nat.min_eq_left (by show 64 - n≤64;omega)
 have c:∀ k:Nat,(2:Int) ^ k=((2 ^ k:Nat):Int):=fun k=>by rfl
 have e4:wu64 ((x:Int)*((2 ^ n:Nat):Int))=(((x*2 ^ n) % 18446744073709551616:Nat):Int):=GBF (x*2 ^ n)
 have e5:Int.fdiv (x:Int) ((2 ^ (64 - n):Nat):Int)=((x / 2 ^ (64 - n):Nat):Int):=by
  grind
 rw [NAB,MAy,mk,e0,e1,e2,e3,c,c,e4,e5,TB (by rfl),o64 (Nat.mod_lt _ (by decide)) (Nat.lt_of_le_of_lt (Nat.div_le_self _ _) hx),YBe hn hx]
theorem ABh (a:List Nat):Oa (fun i c=>c.set (i % 5) (c.getD (i % 5) 0 ^^^ a.getD i 0)) 25 0 [0,0,0,0,0]=(List.range 5).map (Ll a):=by
 have h:Oa (fun i c=>c.set (i % 5) (c.getD (i % 5) 0 ^^^ a.getD i 0)) 25 0 [0,0,0,0,0]=(List.range 5).map fun x=>((((0 ^^^ a.getD x 0) ^^^ a.getD (x+5) 0) ^^^ a.getD (x+10) 0) ^^^ a.getD (x+15) 0) ^^^ a.getD (x+20) 0:=by kernel_rfl
 rw [h]
 refine List.map_congr_left fun x _=>?_
 rw [Nat.zero_xor];rfl
theorem BBh {a:List Nat} (ha:Xf a):IAX (up a)=some (up ((List.range 25).map (Zv a))):=by
 obtain ⟨hl,hw⟩:=ha
 have w1:∀ i:Nat,i<30→w64 ((i:Int)+1)=((i+1:Nat):Int):=fun i h=>wn (n:=i+1) (by omega)
 have hb:Nat.beq 25 (up a).length=true:=by simp_all [Ia]
 have s1:=Tc (Lp:=U7) (st:=fun i c=>.c0 (up a) (i:Int) (up a) (up (List.replicate 25 0)) (up c)) (f:=fun i c=>c.set (i % 5) (c.getD (i % 5) 0 ^^^ a.getD i 0)) (P:=fun _ c=>c.length=5∧Em c) (n:=25) 1 (fun m i c hi hc=>by
  refine ⟨?_,OBF hc.1,hc.2.set _ (xlt (hc.2.get _) (hw.get _))⟩
  have e:(i:Int).tmod 5=((i % 5:Nat):Int):=rfl
  have h5:i % 5<5:=Nat.mod_lt _ (by decide)
  have hcl:=hc.1
  have hb5:Nat.beq 5 (up c).length=true:=by simp_all [Ia]
  rw [U7]
  simp only [HAX,mk,w1 i (by omega),e,Int.toNat_natCast,Je]
  rw [TB (by grind),hb,cond_true,TB (Fa (by omega)),hb5,cond_true,TB (Fa (by omega)),cond_true,Iq (hc.2.get _) (hw.get _),Jh]
  first | rfl | (rw [TB (Fa (by omega))]))
 have hc:((List.range 5).map (Ll a)).length=5:=by rfl
 have hb5:Nat.beq 5 (up ((List.range 5).map (Ll a))).length=true:=by rfl
 have s2:=Tc (Lp:=U7) (st:=fun i b=>.c1 (i:Int) (up b) (up (List.replicate 25 0)) (up ((List.range 5).map (Ll a)))) (f:=fun i b=>b.set i (Zv a i)) (P:=fun i b=>b.length=25∧∀ k,i≤k→b.getD k 0=a.getD k 0) (n:=25) 1 (fun m i b hi hb=>by
  obtain ⟨hbl,hbk⟩:=hb
  refine ⟨?_,AAG hbl,fun k hk=>by grind⟩
  have h5:i % 5<5:=Nat.mod_lt _ (by decide)
  have e:(i:Int).tmod 5=((i % 5:Nat):Int):=rfl
  have e4:w64 (((i % 5:Nat):Int)+4)=((i % 5+4:Nat):Int):=wn (n:=i % 5+4) (by omega)
  have e1:w64 (((i % 5:Nat):Int)+1)=((i % 5+1:Nat):Int):=wn (n:=i % 5+1) (by omega)
  have e2:((i % 5+4:Nat):Int).tmod 5=(((i % 5+4) % 5:Nat):Int):=rfl
  have e3:((i % 5+1:Nat):Int).tmod 5=(((i % 5+1) % 5:Nat):Int):=rfl
  have h4:(i % 5+4) % 5<5:=Nat.mod_lt _ (by decide)
  have h1:(i % 5+1) % 5<5:=Nat.mod_lt _ (by decide)
  have hb25:Nat.beq 25 (up b).length=true:=by simp_all [Ia]
  have hr:NAB ((Ll a ((i % 5+1) % 5):Nat):Int) 1=some ((Cj 1 (Ll a ((i % 5+1) % 5)):Nat):Int):=MBH (n:=1) (J4 hw _) (by decide)
  have hv:a.getD i 0 ^^^ (Ll a ((i % 5+4) % 5) ^^^ Cj 1 (Ll a ((i % 5+1) % 5)))=Zv a i:=rfl
  rw [U7]
  simp only [HAX,mk,w1 i (by omega),e,e4,e1,e2,e3,Int.toNat_natCast,Je]
  rw [hbk i (Nat.le_refl _),NAa h1,NAa h4,hr,Option.bind_some,Iq (J4 hw _) (SAN (by decide) (J4 hw _)),Iq (hw.get _) (xlt (J4 hw _) (SAN (by decide) (J4 hw _))),hv,Jh,TB (by grind),hb25,hb5,Fa (l:=b) (by omega),Fa (l:=(List.range 5).map (Ll a)) (by omega),Fa (l:=(List.range 5).map (Ll a)) (by omega)];rfl)
 obtain ⟨m,hm⟩:∃ m,gas=m+1+25*1+1+25*1:=⟨gas - 52,rfl⟩
 rw [IAX,NAy,mk,hm,hb,cond_true]
 refine (s1 25 0 (m+1+25*1+1) [0,0,0,0,0] rfl ⟨rfl,LBF 5⟩).1.trans ?_
 rw [ABh,U7]
 simp only [HAX,mk]
 rw [PY (by rfl)]
 refine (s2 25 0 (m+1) a rfl ⟨hl,fun _ _=>rfl⟩).1.trans ?_
 rw [OAa hl,U7]
 rfl
theorem CBh {a:List Nat} (ha:Xf a):KAX (up a)=some (up (piF fun n q=>Cj n (a.getD q 0))):=by
 obtain ⟨hl,hw⟩:=ha
 have ww:∀ n:Nat,n<1000→w64 (n:Int)=(n:Int):=fun n h=>wn (by omega)
 have hb:Nat.beq 25 (up a).length=true:=by simp_all [Ia]
 have s:=Tc (Lp:=DAM) (st:=fun t (s:Nat×Nat×List Nat)=>.c0 (s.1:Int) (s.2.1:Int) (t:Int) (up a) (up (List.replicate 25 0)) (up s.2.2)) (f:=fun t s=>(s.2.1,(2*s.1+3*s.2.1) % 5,s.2.2.set (s.2.1+5*((2*s.1+3*s.2.1) % 5)) (Cj ((t+1)*(t+2) / 2 % 64) (a.getD (s.1+5*s.2.1) 0)))) (P:=fun _ s=>s.1<5∧s.2.1<5∧s.2.2.length=25) (n:=24) 1 (fun m t s ht hs=>by
  obtain ⟨x,y,o⟩:=s
  obtain ⟨hx,hy,ho⟩:=hs
  dsimp only at hx hy ho ⊢
  have hz:(2*x+3*y) % 5<5:=Nat.mod_lt _ (by decide)
  refine ⟨?_,hy,hz,AAG ho⟩
  have hb2:Nat.beq 25 (up o).length=true:=by simp_all [Ia]
  have e1:w64 (5*(y:Int))=((5*y:Nat):Int):=ww (5*y) (by omega)
  have e2:w64 ((x:Int)+((5*y:Nat):Int))=((x+5*y:Nat):Int):=ww (x+5*y) (by omega)
  have e3:w64 (2*(x:Int))=((2*x:Nat):Int):=ww (2*x) (by omega)
  have e4:w64 (3*(y:Int))=((3*y:Nat):Int):=ww (3*y) (by omega)
  have e5:w64 (((2*x:Nat):Int)+((3*y:Nat):Int))=((2*x+3*y:Nat):Int):=ww (2*x+3*y) (by omega)
  have e6:((2*x+3*y:Nat):Int).tmod 5=(((2*x+3*y) % 5:Nat):Int):=rfl
  have e7:w64 (5*(((2*x+3*y) % 5:Nat):Int))=((5*((2*x+3*y) % 5):Nat):Int):=ww (5*((2*x+3*y) % 5)) (by omega)
  have e8:w64 ((y:Int)+((5*((2*x+3*y) % 5):Nat):Int))=((y+5*((2*x+3*y) % 5):Nat):Int):=ww (y+5*((2*x+3*y) % 5)) (by omega)
  have f1:w64 ((t:Int)+1)=((t+1:Nat):Int):=ww (t+1) (by omega)
  have f2:w64 ((t:Int)+2)=((t+2:Nat):Int):=ww (t+2) (by omega)
  have f3:w64 (((t+1:Nat):Int)*((t+2:Nat):Int))=(((t+1)*(t+2):Nat):Int):=ww ((t+1)*(t+2)) (Nat.lt_of_le_of_lt (Nat.mul_le_mul (show t+1≤24 by omega) (show t+2≤25 by omega)) (by decide))
  have hq:(t+1)*(t+2) / 2<1000:=Nat.lt_of_le_of_lt (Nat.div_le_self _ _) (Nat.lt_of_le_of_lt (Nat.mul_le_mul (show t+1≤24 by omega) (show t+2≤25 by omega)) (by decide))
  have f4:(((t+1)*(t+2):Nat):Int).tdiv 2=(((t+1)*(t+2) / 2:Nat):Int):=rfl
  have f5:w64 (((t+1)*(t+2) / 2:Nat):Int)=(((t+1)*(t+2) / 2:Nat):Int):=ww _ hq
  have f6:(((t+1)*(t+2) / 2:Nat):Int).tmod 64=(((t+1)*(t+2) / 2 % 64:Nat):Int):=rfl
  rw [DAM]
  simp only [PAy,mk,e1,e2,e3,e4,e5,e6,e7,e8,f1,f2,f3,f4,f5,f6,Int.toNat_natCast,Je]
  rw [MBH (hw.get _) (Nat.mod_lt _ (by decide)),Option.bind_some,Jh,TB (by grind),hb,hb2,Fa (l:=a) (by omega),Fa (l:=o) (by omega)];rfl)
 obtain ⟨m,hm⟩:∃ m,gas=m+1+24*1:=⟨gas - 25,rfl⟩
 rw [KAX,OAy,mk,hm,hb,cond_true,TB (by simp_all [Ia]),show (0:Int).toNat=0 from rfl,Je]
 have h0:Cj 0 (a.getD 0 0)=a.getD 0 0:=KBF (hw.get _)
 have e:=EBf (fun n q=>Cj n (a.getD q 0))
 rw [h0] at e
 refine (s 24 0 (m+1) (1,0,[a.getD 0 0,0,0,0,0,0,0,0,0,0,0,0,0,0,0,0,0,0,0,0,0,0,0,0,0]) rfl ⟨show 1<5 by decide,show 0<5 by decide,rfl⟩).1.trans ?_
 rw [e,DAM]
 rfl
theorem DBh {b:List Nat} (hb:Xf b):MAX (up b)=some (up ((List.range 25).map (Jq b))):=by
 have ww:∀ n:Nat,n<1000→w64 (n:Int)=(n:Int):=fun n h=>wn (by omega)
 have hbl:=hb.1
 have hb1:Nat.beq 25 (up b).length=true:=by simp_all [Ia]
 have si:∀ y:Nat,y<5→∀ (m:Nat) (o:List Nat),o.length=25→_:=fun y hy=>fun m o ho=>(Tc (Lp:=OAB) (st:=fun x o=>.c1 (y:Int) (y:Int) (x:Int) (up b) (up (List.replicate 25 0)) (up o)) (f:=fun x o=>o.set (x+5*y) (Jq b (x+5*y))) (P:=fun _ o=>o.length=25) (n:=5) 1 (fun m x o hx ho=>by
  refine ⟨?_,AAG ho⟩
  have e1:w64 (5*(y:Int))=((5*y:Nat):Int):=ww (5*y) (by omega)
  have e2:w64 ((x:Int)+((5*y:Nat):Int))=((x+5*y:Nat):Int):=ww (x+5*y) (by omega)
  have e3:w64 ((x:Int)+1)=((x+1:Nat):Int):=ww (x+1) (by omega)
  have e4:w64 ((x:Int)+2)=((x+2:Nat):Int):=ww (x+2) (by omega)
  have e5:((x+1:Nat):Int).tmod 5=(((x+1) % 5:Nat):Int):=rfl
  have e6:((x+2:Nat):Int).tmod 5=(((x+2) % 5:Nat):Int):=rfl
  have h1:(x+1) % 5<5:=Nat.mod_lt _ (by decide)
  have h2:(x+2) % 5<5:=Nat.mod_lt _ (by decide)
  have e7:w64 ((((x+1) % 5:Nat):Int)+((5*y:Nat):Int))=(((x+1) % 5+5*y:Nat):Int):=ww ((x+1) % 5+5*y) (by omega)
  have e8:w64 ((((x+2) % 5:Nat):Int)+((5*y:Nat):Int))=(((x+2) % 5+5*y:Nat):Int):=ww ((x+2) % 5+5*y) (by omega)
  have hv:b.getD (x+5*y) 0 ^^^ ((18446744073709551615 - b.getD ((x+1) % 5+5*y) 0) &&& b.getD ((x+2) % 5+5*y) 0)=Jq b (x+5*y):=by rw [Jq,show (x+5*y) % 5=x by omega,show (x+5*y) / 5=y by omega]
  have hb2:Nat.beq 25 (up o).length=true:=by simp_all [Ia]
  rw [OAB]
  simp only [KAi,mk,e1,e2,e3,e4,e5,e6,e7,e8,Int.toNat_natCast,Je,m64]
  rw [Iq (by decide) (hb.2.get _),WBe (hb.2.get _),n64 (by omega) (hb.2.get _),Iq (hb.2.get _) (nlt (by omega)),hv,Jh,TB (by grind),hb1,hb2,Fa (l:=b) (by omega),Fa (l:=b) (by omega),Fa (l:=b) (by omega),Fa (l:=o) (by omega)];rfl) 5 0 m o rfl ho)
 have s:=Tc (Lp:=OAB) (st:=fun y o=>.c0 (y:Int) (up b) (up (List.replicate 25 0)) (up o)) (f:=fun y o=>Oa (fun x o=>o.set (x+5*y) (Jq b (x+5*y))) 5 0 o) (P:=fun _ o=>o.length=25) (n:=5) 7 (fun m y o hy ho=>by
  obtain ⟨i1,i2⟩:=si y hy (m+1) o ho
  refine ⟨?_,i2⟩
  have w1:w64 ((y:Int)+1)=((y+1:Nat):Int):=ww (y+1) (by omega)
  grind [OAB,KAi])
 obtain ⟨m,hm⟩:∃ m,gas=m+1+5*7:=⟨gas - 36,rfl⟩
 rw [MAX,QAy,mk,hm]
 refine (s 5 0 (m+1) (List.replicate 25 0) rfl rfl).1.trans ?_
 rw [CBf,OAB]
 rfl
theorem EBh:∀ {i:Nat},i<24→LAi (i:Int)=some ((I4.getD i 0:Nat):Int)
 | 0,_=>by kernel_rfl
 | 1,_=>by kernel_rfl
 | 2,_=>by kernel_rfl
 | 3,_=>by kernel_rfl
 | 4,_=>by kernel_rfl
 | 5,_=>by kernel_rfl
 | 6,_=>by kernel_rfl
 | 7,_=>by kernel_rfl
 | 8,_=>by kernel_rfl
 | 9,_=>by kernel_rfl
 | 10,_=>by kernel_rfl
 | 11,_=>by kernel_rfl
 | 12,_=>by kernel_rfl
 | 13,_=>by kernel_rfl
 | 14,_=>by kernel_rfl
 | 15,_=>by kernel_rfl
 | 16,_=>by kernel_rfl
 | 17,_=>by kernel_rfl
 | 18,_=>by kernel_rfl
 | 19,_=>by kernel_rfl
 | 20,_=>by kernel_rfl
 | 21,_=>by kernel_rfl
 | 22,_=>by kernel_rfl
 | 23,_=>by kernel_rfl
 | i+24,h=>absurd h (by omega)
theorem FBh (a:List Nat):(piF fun n q=>Cj n (((List.range 25).map (Zv a)).getD q 0))=Kq a:=by
 rfl
theorem GBh {a:List Nat} (ha:Xf a):MAi (up a)=some (up (LAa a)):=by
 have s:=Tc (Lp:=QAX) (st:=fun i a=>.c0 (i:Int) (up a) (up (List.replicate 25 0))) (f:=fun i a=>UAN a (I4.getD i 0)) (P:=fun _ a=>Xf a) (n:=24) 1 (fun m i a hi ha=>by
  refine ⟨?_,MA3 ha.2 (MAa i)⟩
  have w1:w64 ((i:Int)+1)=((i+1:Nat):Int):=wn (n:=i+1) (by omega)
  have hb:Nat.beq 25 (up a).length=true:=by rw [Ia,ha.1];rfl
  have hth:Xf ((List.range 25).map (Zv a)):=⟨by rfl,fun x hx=>by
   rw [List.mem_map] at hx
   obtain ⟨p,_,rfl⟩:=hx
   exact KA3 ha.2 _⟩
  have hch:=LA3 (DAl ha.2).2
  have hb2:Nat.beq 25 (up ((List.range 25).map (Jq (Kq a)))).length=true:=by rfl
  have hb3:Nat.beq (up ((List.range 25).map (Jq (Kq a)))).length (up a).length=true:=by assumption
  rw [QAX]
  simp only [VAy,mk,w1]
  rw [TB (by grind),hb,cond_true,BBh ha,Option.bind_some,CBh hth,Option.bind_some,FBh,DBh (DAl ha.2),Option.bind_some,hb3,hb2,EBh (by omega),Option.bind_some,show (0:Int).toNat=0 from rfl,Je,FBf rfl rfl (hch.2.get _) (MAa i),Jh,show (decide ((0:Int)≤(0:Int)) && decide (0<((up ((List.range 25).map (Jq (Kq a)))).length:Int)))=true from Fa (i:=0) (by simp)];rfl)
 obtain ⟨m,hm⟩:∃ m,gas=m+1+24*1:=⟨gas - 25,rfl⟩
 rw [MAi,UAy,mk,hm]
 refine (s 24 0 (m+1) a rfl ha).1.trans ?_
 rfl
theorem HBh {a:List Nat} (ha:Xf a):NAi (up a)=some (ofBytes (up (Oq a))):=by
 have c2:∀ k:Nat,(2:Int) ^ k=((2 ^ k:Nat):Int):=fun k=>by rfl
 have hb:Nat.beq 25 (up a).length=true:=by rw [Ia,ha.1];rfl
 have hal:=ha.1
 have s1:=Tc (Lp:=EAM) (st:=fun i o=>.c0 ((200:Nat):Int) (i:Int) (up a) (up o)) (f:=fun i o=>o.set i (O4 a i)) (P:=fun _ o=>o.length=200) (n:=200) 1 (fun m i o hi ho=>by
  refine ⟨?_,by simp_all⟩
  have w1:w64 ((i:Int)+1)=((i+1:Nat):Int):=wn (n:=i+1) (by omega)
  have e1:w64 ((i:Int).tdiv 8)=((i / 8:Nat):Int):=wn (n:=i / 8) (by omega)
  have e2:(i:Int).tmod 8=((i % 8:Nat):Int):=rfl
  have e3:w64 (8*((i % 8:Nat):Int))=((8*(i % 8):Nat):Int):=wn (n:=8*(i % 8)) (by omega)
  have e4:Min.min (8*(i % 8)) (IntKind.bits IntKind.u64)=8*(i % 8):=Nat.min_eq_left (by show 8*(i % 8)≤64;omega)
  have e5:w8 (Int.fdiv ((a.getD (i / 8) 0:Nat):Int) ((2 ^ (8*(i % 8)):Nat):Int))=((O4 a i:Nat):Int):=by
   rw [w8_mod,Int.fdiv_eq_ediv_of_nonneg _ (Int.natCast_nonneg _)];rfl
  rw [EAM]
  simp only [XAy,mk,w1,e1,e2,e3,Int.toNat_natCast,e4,c2,Je]
  rw [e5,Jh,TB (by grind),hb,Fa (l:=a) (by omega),TB (a:=_) (by rfl),TB (by rfl),TB (by rfl),TB (Fa (by omega))])
 obtain ⟨m,hm⟩:∃ m,gas=m+1+200*1:=⟨gas - 201,by rfl⟩
 rw [NAi,WAy,mk,hm,show (200:Int).toNat=200 from rfl,List.length_replicate,←Y3]
 refine (s1 200 0 (m+1) (List.replicate 200 0) (by omega) List.length_replicate).1.trans ?_
 rw [OAa (v:=O4 a) List.length_replicate,EAM]
 rfl
theorem NBH {s:ByteArray} (h:s.size=200):XAE s=some (BAG s):=by
 have hl:=SBF (U8 s)
 rw [XAE,YAy,mk,PY (by simp_all),ZBg h,Option.bind_some,GBh hl,Option.bind_some,HBh (NA3 hl)];rfl
theorem IBh {s:ByteArray} {f:Nat} (hs:s.size≤2000) (hf:f<256):TAX s 168 (f:Int)=some (YAN s f):=by
 obtain ⟨q,hq,hq2⟩:=WBF s f
 have hbuf:=VBF s hf
 have sp:=Tc (Lp:=Wp) (st:=fun i l=>.c0 168 (up l)) (f:=fun _ l=>l++[0]) (P:=fun i l=>l.length=s.size+1+i) (n:=(168 - (s.size+1) % 168) % 168) 1 (fun m i l hi hl=>by
  grind [Wp,PAB,Ia,Wn])
 have si:∀ (p:Nat) (st:List Nat),p<q→Xf st→∀ m,∃ v,v.length=200∧B8 v∧Uk (Zb (ofBytes (up v))) 25=FAG st (fun i=>(Ae s f).getD (168*p+i) 0)∧Wp (m+168*1) (.c2 168 ((168*p:Nat):Int) 168 ((0:Nat):Int) (up (Ae s f)) (up (Oq st)))=Wp m (.c2 168 ((168*p:Nat):Int) 168 ((168:Nat):Int) (up (Ae s f)) (up v)):=by
  intro p st hp hst m
  have hk8:B8 (Oq st):=TBF st
  obtain ⟨a1,a2,a3,a4⟩:=Tc (Lp:=Wp) (st:=fun i v=>.c2 168 ((168*p:Nat):Int) 168 (i:Int) (up (Ae s f)) (up v)) (f:=fun i v=>v.set i (v.getD i 0 ^^^ (Ae s f).getD (168*p+i) 0)) (P:=fun i v=>v.length=200∧B8 v∧∀ k,k<200→v.getD k 0=if k<i then O4 st k ^^^ (Ae s f).getD (168*p+k) 0 else O4 st k) (n:=168) 1 (fun m i v hi hv=>by
   obtain ⟨v1,v2,v3⟩:=hv
   refine ⟨?_,by simp_all,v2.set _ (SA3 (v2.get _) (hbuf.get _)),fun k hk=>?_⟩
   ·have w1:w64 ((i:Int)+1)=((i+1:Nat):Int):=wn (n:=i+1) (by omega)
    have e1:w64 (((168*p:Nat):Int)+(i:Int))=((168*p+i:Nat):Int):=wn (n:=168*p+i) (by omega)
    rw [Wp]
    simp only [PAB,mk,w1,e1,Int.toNat_natCast,Je]
    rw [x8 (v2.get _) (hbuf.get _),Jh,TB (by grind),TB (Fa (by omega)),TB (Fa (by omega)),TB (Fa (by omega))]
   grind) 168 0 m (Oq st) (by omega) ⟨JBf st,hk8,fun k hk=>by simp_all [Oq]⟩
  refine ⟨_,a2,a3,?_,a1⟩
  generalize Oa (fun i v=>v.set i (v.getD i 0 ^^^ (Ae s f).getD (168*p+i) 0)) 168 0 (Oq st)=v at a2 a3 a4
  refine List.map_congr_left fun k hk=>?_
  have hk:=List.mem_range.1 hk
  by_cases h21:k<21
  ·rw [if_pos h21,←RBF hst.2,←HBf (QBF st) (fun _=>hbuf.get _)]
   refine PA3 fun i hi=>?_
   have h8:8*k+i<168:=by omega
   rw [FAl a3 (by omega),a4 _ (by omega),if_pos h8]
  ·rw [if_neg h21,←RBF hst.2]
   refine PA3 fun i hi=>?_
   have h8:¬ 8*k+i<168:=by omega
   rw [FAl a3 (by omega),a4 _ (by omega),if_neg h8]
 have so:=Tc (Lp:=Wp) (st:=fun p st=>.c1 168 ((168*p:Nat):Int) (up (Ae s f)) (up (Oq st))) (f:=WAN (Ae s f)) (P:=fun _ st=>Xf st) (n:=q) 170 (fun m p st hp hst=>by
  refine ⟨?_,VA3 hbuf hst⟩
  have e1:w64 (((168*p:Nat):Int)+168)=((168*(p+1):Nat):Int):=by rw [show ((168*p:Nat):Int)+168=((168*(p+1):Nat):Int) by omega];exact wn (n:=168*(p+1)) (by omega)
  obtain ⟨v,v1,v2,v3,v4⟩:=si p st hp hst (m+1)
  have hvs:(ofBytes (up v)).size=200:=by grind [ofBytes_size,Ia]
  have hps:=UBF (ofBytes (up v))
  rw [show m+170=(m+1)+168*1+1 by omega,Wp]
  simp only [PAB,mk]
  rw [TB (by simp_all [Ia])]
  refine v4.trans ?_
  rw [Wp]
  simp only [PAB,mk,e1]
  rw [PY (by rfl),NBH hvs,Option.bind_some,TB (by rfl),BAG,v3,CAG,LBf (TBF _)];rfl)
 have hpad:(168 - (s.size+1) % 168) % 168<168:=Nat.mod_lt _ (by decide)
 have hl1:(Md s++[f]).length=s.size+1:=by simp [EAG]
 obtain ⟨m,hm⟩:∃ m,gas=(m+1+q*170)+1+((168 - (s.size+1) % 168) % 168)*1:=⟨gas - (1+q*170+1+(168 - (s.size+1) % 168) % 168),by have:=gas_lt (n:=1+q*170+1+(168 - (s.size+1) % 168) % 168) (by omega);omega⟩
 have hzs:(bytesOf s).length=s.size:=by simp_all [CAG,Ia]
 rw [TAX,ZAy,mk,hm,TB (by grind),TB (by grind),CAG,Wn]
 refine (sp ((168 - (s.size+1) % 168) % 168) 0 _ (Md s++[f]) (by omega) hl1).1.trans ?_
 have hpl:Oa (fun _ l=>l++[0]) ((168 - (s.size+1) % 168) % 168) 0 (Md s++[f])=Pj (Md s++[f]):=by simp_all [VAN,Pj]
 have hp8:B8 (Pj (Md s++[f])):=RA3 (TA3 s hf)
 have hplen:=QA3 (Md s++[f])
 rw [hl1] at hplen
 have e2:((up (Pj (Md s++[f]))).length:Int).tmod 168=(((up (Pj (Md s++[f]))).length % 168:Nat):Int):=rfl
 have e3:w64 (((up (Pj (Md s++[f]))).length:Int) - 1)=(((Pj (Md s++[f])).length - 1:Nat):Int):=by
  grind [Ia,wn]
 have hz0:Oq (List.replicate 25 0)=List.replicate 200 0:=by kernel_rfl
 rw [hpl,Wp]
 simp only [PAB,mk,e2,e3,Int.toNat_natCast,Je]
 rw [TB (by rfl),PY (by grind [Ia]),TB (Fa (by omega)),TB (Fa (by omega)),show (128:Int)=((128:Nat):Int) from rfl,x8 (hp8.get _) (by decide),Jh,show (200:Int).toNat=200 from rfl,←Y3,←hz0]
 show Wp (m+1+q*170) (.c1 168 0 (up (Ae s f)) (up (Oq (List.replicate 25 0))))=_
 refine (so q 0 (m+1) (List.replicate 25 0) (by omega) UA3).1.trans ?_
 have hfin:Oa (WAN (Ae s f)) q 0 (List.replicate 25 0)=XAN s f:=by simp_all [XAN]
 rw [hfin,Wp]
 simp only [PAB,mk]
 rw [PY (by simp_all [Ia])];rfl
theorem OBH {s:ByteArray} (h:s.size≤2000):FAM s=some ⟨sd s,0⟩:=by
 have e:TAX s 168 31=some (YAN s 31):=IBh (f:=31) h (by decide)
 rw [FAM,AAz,e];rfl
theorem PBH {S:ByteArray} {p n:Nat} {x:SStream} (hS:S.size=200) (h:Gm S p x) (hn:n≤4000):∃ x',YAE x (n:Int)=some (x',ofBytes (up (Xb S p n)))∧Gm S (p+n) x':=by
 have key:∀ (r m:Nat) (x:SStream) (v:SStream) (o:List Nat),n - o.length=r→r<m→o.length≤n→Gm S (p+o.length) x→∃ x',GAM m (.c0 (n:Int) (ofBytes (up o)) x v)=some (x',ofBytes (up (o++Xb S (p+o.length) (n - o.length))))∧Gm S (p+n) x':=by
  intro r
  induction r using Nat.strongRecOn with
  | ind r ih=>
  intro m x v o hr hm ho hx
  obtain ⟨m,rfl⟩:∃ m',m=m'+1:=⟨m - 1,by omega⟩
  have hos:(ofBytes (up o)).size=o.length:=by rw [ofBytes_size,Ia]
  rw [GAM]
  simp only [CAz,mk]
  by_cases hlt:o.length<n
  ·have en:w64 ((n:Int) - ((ofBytes (up o)).size:Int))=((n - o.length:Nat):Int):=by
    grind [wn]
   rw [TB (by simp_all)]
   have go:∀ (q a k:Nat),168*q+a=p+o.length→a+k≤168→0<k→k≤n - o.length→∃ x',GAM m (.c0 (n:Int) (ofBytes (up o)++(Ah S q).extract a (a+k)) ⟨Ah S q,((a+k:Nat):Int)⟩ v)=some (x',ofBytes (up (o++Xb S (p+o.length) (n - o.length))))∧Gm S (p+n) x':=by
    intro q a k h1 h2 h3 h4
    rw [←PBf ((Ah S q).extract a (a+k)),chunk hS h2,QBf,h1]
    have hl:(o++Xb S (p+o.length) k).length=o.length+k:=by simp [IAl]
    obtain ⟨x',e1,e2⟩:=ih (n - (o.length+k)) (by omega) m ⟨Ah S q,((a+k:Nat):Int)⟩ v (o++Xb S (p+o.length) k) (by rw [hl]) (by omega) (by omega) ⟨q,a+k,rfl,by omega,h2⟩
    refine ⟨x',?_,e2⟩
    rw [e1,hl,List.append_assoc,←Nat.add_assoc,ZBF,show k+(n - (o.length+k))=n - o.length by omega]
   obtain ⟨q,a,rfl,ha,ha2⟩:=hx
   have hz:=GAG hS q
   have hz2:=GAG hS (q+1)
   have big:∀ (T:ByteArray) (i j:Nat),T.size=200→decide ((ofBytes (up o)).size+(T.extract i j).size≤9223372036854775807)=true:=fun T i j hT=>by
    grind [ByteArray.size_extract]
   dsimp only
   by_cases h168:a=168
   ·subst h168
    rw [TB (by rfl),NBH hz,Option.bind_some,show BAG (Ah S q)=Ah S (q+1) from rfl,en,show w64 ((168:Int) - (0:Int))=168 by decide]
    by_cases hk:168<n - o.length
    ·have b1:=big (Ah S (q+1)) 0 (0+168) hz2
     rw [if_pos (show (168:Int)<((n - o.length:Nat):Int) by omega),show w64 (0+168)=((0+168:Nat):Int) by decide,show (0:Int).toNat=0 from rfl,Int.toNat_natCast,TB (by rw [Bool.and_eq_true,Bool.and_eq_true,decide_eq_true_eq,decide_eq_true_eq,decide_eq_true_eq];omega),b1,cond_true]
     exact go (q+1) 0 168 (by omega) (by omega) (by omega) (by omega)
    ·have e0:w64 (0+((n - o.length:Nat):Int))=((0+(n - o.length):Nat):Int):=by grind
     have b1:=big (Ah S (q+1)) 0 (0+(n - o.length)) hz2
     rw [if_neg (show ¬ (168:Int)<((n - o.length:Nat):Int) by omega),e0,show (0:Int).toNat=0 from rfl,Int.toNat_natCast,TB (by grind),b1,cond_true]
     exact go (q+1) 0 (n - o.length) (by omega) (by omega) (by omega) (Nat.le_refl _)
   ·have ea:w64 (168 - (a:Int))=((168 - a:Nat):Int):=by grind [wn]
    rw [PY (by grind),en,ea,Int.toNat_natCast]
    by_cases hk:168 - a<n - o.length
    ·have e0:w64 ((a:Int)+((168 - a:Nat):Int))=((a+(168 - a):Nat):Int):=wn (n:=a+(168 - a)) (by omega)
     have b1:=big (Ah S q) a (a+(168 - a)) hz
     rw [if_pos (show ((168 - a:Nat):Int)<((n - o.length:Nat):Int) by omega),e0,Int.toNat_natCast,TB (by grind),b1,cond_true]
     grind
    ·have e0:w64 ((a:Int)+((n - o.length:Nat):Int))=((a+(n - o.length):Nat):Int):=wn (n:=a+(n - o.length)) (by omega)
     have b1:=big (Ah S q) a (a+(n - o.length)) hz
     rw [if_neg (show ¬ ((168 - a:Nat):Int)<((n - o.length:Nat):Int) by omega),e0,Int.toNat_natCast,TB (by grind),b1,cond_true]
     grind
  grind [Xb]
 obtain ⟨q,a,rfl,ha,ha2⟩:=h
 have h1:=GAG hS q
 have hi1:KZ ((n:Nat):Int) 0 4000=true:=Aa.2 (by omega)
 have hi2:KZ ((a:Nat):Int) 0 168=true:=Aa.2 (by omega)
 rw [YAE,BAz,mk,Yh,Option.bind_some,hi1,Bool.not_true,cond_false,PY (by simp_all),Yh,Option.bind_some,hi2,Bool.not_true,cond_false]
 obtain ⟨x',e1,e2⟩:=key n gas ⟨Ah S q,(a:Int)⟩ ⟨⟨#[]⟩,0⟩ [] (by rfl) (gas_lt (by omega)) (Nat.zero_le _) ⟨q,a,rfl,ha,ha2⟩
 exact ⟨x',e1,e2⟩
theorem JBh {s:ByteArray} {n:Nat} (h:s.size≤2000) (hn:n≤4000):HAM s (n:Int)=some (ofBytes (up (Xb (sd s) 0 n)),true):=by
 obtain ⟨x',e,_⟩:=PBH (n:=n) (JAl s) (KAl s) hn
 rw [HAM,DAz,mk,Yh,Option.bind_some,Aa.2 (by omega),Bool.not_true,cond_false,OBH h,Option.bind_some,e];rfl
theorem QAG {n:Int}:Kt n=some (n % 3329):=by
 have h:(w64 ((n.tmod 3329)+3329)).tmod 3329=n % 3329:=by
  grind [w64_id]
 rw [Kt,EAz,mk,h]
theorem QBH {seed:ByteArray} {n:Nat} (h:seed.size≤1000) (hn:n<256):XAX seed (n:Int)=some (up (Qj seed n)):=by
 have h1:Xi (n:Int)=some (Yf n):=Il (by omega) (by omega)
 have hz:(Yf n).size=1:=by rfl
 have h2:=JBh (s:=seed++Yf n) (n:=128) (by grind) (by omega)
 have hs:(ofBytes (up (Xb (sd (seed++Yf n)) 0 128))).size=128:=by rfl
 have h2:HAM (seed++Yf n) 128=_:=h2
 rw [XAX,FAz,mk,h1,Option.bind_some,TB (by grind),h2,Option.bind_some]
 dsimp only
 rw [Qj]
 generalize ofBytes (up (Xb (sd (seed++Yf n)) 0 128))=s at hs
 have c2:∀ k:Nat,(2:Int) ^ k=((2 ^ k:Nat):Int):=fun k=>by rfl
 have sl:=Tc (Lp:=IAM) (st:=fun i o=>.c0 s ((256:Nat):Int) (i:Int) (up o)) (f:=fun i o=>o.set i (smV (Zb s (i / 2) / 2 ^ (4*(i % 2))))) (P:=fun _ o=>o.length=256) (n:=256) 1 (fun m i o hi ho=>by
  refine ⟨?_,by simp_all⟩
  have hb:=U8 s (i / 2)
  have w1:w64 ((i:Int)+1)=((i+1:Nat):Int):=wn (n:=i+1) (by omega)
  have e1:w64 ((i:Int).tdiv 2)=((i / 2:Nat):Int):=wn (n:=i / 2) (by omega)
  have e2:(i:Int).tmod 2=((i % 2:Nat):Int):=rfl
  have e3:w64 (4*((i % 2:Nat):Int))=((4*(i % 2):Nat):Int):=wn (n:=4*(i % 2)) (by omega)
  have e4:Min.min (4*(i % 2)) (IntKind.bits IntKind.u8)=4*(i % 2):=Nat.min_eq_left (by show 4*(i % 2)≤8;omega)
  have fd:∀ (a k:Nat),Int.fdiv (a:Int) ((2 ^ k:Nat):Int)=((a / 2 ^ k:Nat):Int):=fun a k=>by grind
  have hb2:Zb s (i / 2) / 2 ^ (4*(i % 2))<256:=Nat.lt_of_le_of_lt (Nat.div_le_self _ _) hb
  have m1:Min.min (1:Int).toNat (IntKind.bits IntKind.i64)=1:=by decide
  have m2:Min.min (2:Int).toNat (IntKind.bits IntKind.i64)=2:=by decide
  have m3:Min.min (3:Int).toNat (IntKind.bits IntKind.i64)=3:=by decide
  rw [IAM]
  simp only [GAz,mk,w1,e1,e2,e3,Int.toNat_natCast,e4,Nu,m1,m2,m3,c2,fd]
  generalize Zb s (i / 2) / 2 ^ (4*(i % 2))=b at hb2
  have hd:∀ k,b / 2 ^ k≤b:=fun k=>Nat.div_le_self _ _
  have d1:=hd 1
  have d2:=hd 2
  have d3:=hd 3
  rw [wn (n:=b) (by omega)]
  simp only [fd]
  rw [and1 (n:=b) (by omega),and1 (n:=b / 2 ^ 1) (by omega),and1 (n:=b / 2 ^ 2) (by omega),and1 (n:=b / 2 ^ 3) (by omega),show b / 2 ^ 1=b / 2 from rfl,show b / 2 ^ 2=b / 4 from rfl,show b / 2 ^ 3=b / 8 from rfl,w64_id (n:=((b % 2:Nat):Int)+((b / 2 % 2:Nat):Int)) (by omega) (by omega),w64_id (n:=((b % 2:Nat):Int)+((b / 2 % 2:Nat):Int) - ((b / 4 % 2:Nat):Int)) (by omega) (by omega),w64_id (n:=((b % 2:Nat):Int)+((b / 2 % 2:Nat):Int) - ((b / 4 % 2:Nat):Int) - ((b / 8 % 2:Nat):Int)) (by omega) (by omega),QAG,Option.bind_some,show (((b % 2:Nat):Int)+((b / 2 % 2:Nat):Int) - ((b / 4 % 2:Nat):Int) - ((b / 8 % 2:Nat):Int)) % 3329=((smV b:Nat):Int) by rw [smV];omega,Jh,TB (by grind),cond_in (by omega),TB (by rfl),TB (Fa (by omega))])
 obtain ⟨m,hm⟩:∃ m,gas=m+1+256*1:=⟨gas - 257,by rfl⟩
 rw [hm,show (256:Int).toNat=256 from rfl,List.length_replicate,←Y3]
 refine (sl 256 0 (m+1) (List.replicate 256 0) (by omega) List.length_replicate).1.trans ?_
 rw [OAa (v:=fun i=>smV (Zb s (i / 2) / 2 ^ (4*(i % 2)))) List.length_replicate,IAM]
 rfl
theorem RBH {seed:ByteArray} {f:Nat} (h:seed.size≤1000) (hf:f<255):ZAE seed (f:Int)=some [up (Qj seed f),up (Qj seed (f+1))]:=by
 have e0:w64 ((f:Int)+0)=(f:Int):=by grind [wn]
 have e1:w64 ((f:Int)+1)=((f+1:Nat):Int):=wn (n:=f+1) (by omega)
 have w0:w64 (0+1)=1:=by decide
 have w1:w64 (1+1)=2:=by decide
 obtain ⟨m,hm⟩:∃ m,gas=m+3:=⟨gas - 3,rfl⟩
 rw [ZAE,HAz,hm]
 rw [ZAX];simp only [OAi,mk];rw [TB (by rfl),e0,QBH h (by omega),Option.bind_some,TB (by rfl),w0]
 rw [ZAX];simp only [OAi,mk];rw [TB (by rfl),e1,QBH h (by omega),Option.bind_some,TB (by rfl),w1]
 rfl
theorem GAO {l:List Nat} (h:Ya l):Uz (up l)=some true:=by
 have hl:=h.1
 have s:=Tc (Lp:=JAM) (st:=fun i (_:Unit)=>.c0 (up l) (up l) ((up l).length:Int) (i:Int)) (f:=fun _ a=>a) (P:=fun _ _=>True) (n:=256) 1 (fun m i _ hi _=>by
  refine ⟨?_,trivial⟩
  have w1:w64 ((i:Int)+1)=((i+1:Nat):Int):=wn (n:=i+1) (by omega)
  have hq:=h.get i
  grind [JAM,PAi,Int.toNat_natCast,Je,Ia,Yh,Aa])
 obtain ⟨m,hm⟩:∃ m,gas=m+1+256*1:=⟨gas - 257,by rfl⟩
 rw [Uz,IAz,mk,hm]
 refine (s 256 0 (m+1) () (by omega) trivial).1.trans ?_
 simp_all [JAM,PAi,mk,Ia]
theorem KBh {l:List Int} (h:l.length≤1000):BAY l=some l:=by
 rw [BAY,JAz,mk,TB (by grind)]
theorem SBH {n:Nat} (h:n<128):AAF (n:Int)=some ((t7 n:Nat):Int):=by
 have c2:∀ k:Nat,(2:Int) ^ k=((2 ^ k:Nat):Int):=fun k=>by rfl
 have fd:∀ (a k:Nat),Int.fdiv (a:Int) ((2 ^ k:Nat):Int)=((a / 2 ^ k:Nat):Int):=fun a k=>by grind
 have s:=Tc (Lp:=EAY) (st:=fun i (o:Nat)=>.c0 (n:Int) (o:Int) (i:Int)) (f:=fun i o=>2*o+n / 2 ^ i % 2) (P:=fun i o=>o<2 ^ i) (n:=7) 1 (fun m i o hi ho=>by
  have hp:2 ^ (i+1)≤2 ^ 7:=Nat.pow_le_pow_right (by decide) hi
  have hlt:2*o+n / 2 ^ i % 2<2 ^ (i+1):=by omega
  refine ⟨?_,hlt⟩
  have hd:n / 2 ^ i≤n:=Nat.div_le_self _ _
  have hp7:(2:Nat) ^ 7=128:=rfl
  have w1:w64 ((i:Int)+1)=((i+1:Nat):Int):=wn (n:=i+1) (by omega)
  have m1:Min.min i (IntKind.bits IntKind.i64)=i:=Nat.min_eq_left (by show i≤64;omega)
  have e3:w64 (2*(o:Int))=((2*o:Nat):Int):=wn (n:=2*o) (by omega)
  have e4:w64 (((2*o:Nat):Int)+((n / 2 ^ i % 2:Nat):Int))=((2*o+n / 2 ^ i % 2:Nat):Int):=wn (n:=2*o+n / 2 ^ i % 2) (by omega)
  rw [EAY]
  simp only [LAz,mk,w1,Int.toNat_natCast,m1,c2,fd,e3]
  rw [and1 (n:=n / 2 ^ i) (by omega),e4,TB (by grind),TB (by rfl)])
 obtain ⟨m,hm⟩:∃ m,gas=m+1+7*1:=⟨gas - 8,rfl⟩
 rw [AAF,KAz,hm]
 refine (s 7 0 (m+1) 0 (by omega) (by decide)).1.trans ?_
 rfl
theorem TBH {e:Nat} (he:e<1024):BAF 17 (e:Int)=some ((KAC e:Nat):Int):=by
 have key:∀ (k b e o m:Nat),e<2 ^ k→b<3329→o<3329→e<1024→GAY (m+k+1) (.c0 (b:Int) (e:Int) (o:Int))=some ((pwF k b e o:Nat):Int):=by
  intro k
  induction k with
  | zero=>
   intro b e o m h _ _ _
   obtain rfl:e=0:=by omega
   rfl
  | succ k ih=>
   intro b e o m h hb ho he
   rw [aj m k,GAY,pwF]
   simp only [NAz,mk]
   by_cases h0:e=0
   ·simp_all
   ·have e1:w64 ((e:Int).tdiv 2)=((e / 2:Nat):Int):=wn (n:=e / 2) (by omega)
    have e2:(e:Int).tmod 2=((e % 2:Nat):Int):=rfl
    rw [TB (by grind),e1,e2,IAG hb hb,IAG ho hb,if_neg h0]
    have hk:e / 2<2 ^ k:=by omega
    by_cases h1:e % 2=1
    ·rw [if_pos h1,h1,TB (by rfl)]
     exact ih _ _ _ _ hk (Nat.mod_lt _ (by decide)) (Nat.mod_lt _ (by decide)) (by omega)
    ·rw [if_neg h1,PY (by simp_all)]
     exact ih _ _ _ _ hk (Nat.mod_lt _ (by decide)) ho (by omega)
 obtain ⟨m,hm⟩:∃ m,gas=m+10+1:=⟨gas - 11,rfl⟩
 rw [BAF,MAz,Yh,Option.bind_some,Aa.2 (by omega),Bool.not_true,cond_false,QAG,Option.bind_some,hm]
 exact key 10 17 e 1 m he (by decide) (by decide) he
theorem LBh {p:List Nat} (h:Ya p):DAF (up p)=some (up (BAO p)):=by
 have inner:∀ (k size start z:Nat) (m:Nat) (o:List Nat),0<size→start+2*size≤256→z<3329→Ya o→Qr (m+size*1) (.c2 (k:Int) (size:Int) (start:Int) (z:Int) (start:Int) (up o))=Qr m (.c2 (k:Int) (size:Int) (start:Int) (z:Int) ((start+size:Nat):Int) (up (Oa (fun j o=>bfQ z size (start+j) o) size 0 o))):=fun k size start z m o hs hst hz ho=>(Tc (Lp:=Qr) (st:=fun j o=>.c2 (k:Int) (size:Int) (start:Int) (z:Int) ((start+j:Nat):Int) (up o)) (f:=fun j o=>bfQ z size (start+j) o) (P:=fun _ o=>Ya o) (n:=size) 1 (fun m j o hj ho=>by
  refine ⟨?_,XA3 ho _ _ _⟩
  have hl:=ho.1
  have h1:=ho.get (start+j)
  have h2:=ho.get (start+j+size)
  have e1:w64 (((start+j:Nat):Int)+1)=((start+(j+1):Nat):Int):=wn (n:=start+(j+1)) (by omega)
  have e2:w64 (((start+j:Nat):Int)+(size:Int))=((start+j+size:Nat):Int):=wn (n:=start+j+size) (by omega)
  have e3:w64 ((start:Int)+(size:Int))=((start+size:Nat):Int):=wn (n:=start+size) (by omega)
  have hzb:z*o.getD (start+j+size) 0<3329*3329:=Nat.mul_lt_mul'' hz h2
  have e4:w64 ((z:Int)*((o.getD (start+j+size) 0:Nat):Int))=((z*o.getD (start+j+size) 0:Nat):Int):=by rw [show (z:Int)*((o.getD (start+j+size) 0:Nat):Int)=((z*o.getD (start+j+size) 0:Nat):Int) from (Int.natCast_mul _ _).symm];exact wn (by omega)
  rw [Qr]
  simp only [CAF,mk,e1,e2,e3,Int.toNat_natCast,Je,e4]
  have e5:w64 (((o.getD (start+j) 0:Nat):Int)+((z*o.getD (start+j+size) 0:Nat):Int)) % 3329=(((o.getD (start+j) 0+z*o.getD (start+j+size) 0 % 3329) % 3329:Nat):Int):=by
   grind [w64_id]
  have e6:w64 (((o.getD (start+j) 0:Nat):Int) - ((z*o.getD (start+j+size) 0:Nat):Int)) % 3329=(((o.getD (start+j) 0+3329 - z*o.getD (start+j+size) 0 % 3329) % 3329:Nat):Int):=by
   grind [w64_id]
  rw [QAG,Option.bind_some,QAG,Option.bind_some,e5,e6,Jh,Jh,TB (by simp_all),TB (Fa (by omega)),TB (Fa (by omega)),TB (Fa (by omega)),TB (Fa (by omega)),TB (Fa (by grind)),List.set_comm _ _ (show start+j≠start+j+size by omega)];rfl) size 0 m o (by omega) ho).1
 have level:∀ (k0 size c:Nat) (m:Nat) (o:List Nat),1<size→size*c=128→k0=c→Ya o→Qr (m+1+c*(size+2)+1) (.c0 (k0:Int) (size:Int) (up o))=Qr m (.c0 ((k0+c:Nat):Int) ((size / 2:Nat):Int) (up (U4 k0 size c o))):=by
  intro k0 size c m o hs hc hk ho
  have hsc:size≤128∧c≤64:=by
   refine ⟨Nat.le_of_dvd (by decide) ⟨c,hc.symm⟩,?_⟩
   have h2:2*c≤size*c:=Nat.mul_le_mul_right c hs
   omega
  have s:=Tc (Lp:=Qr) (st:=fun i o=>.c1 ((k0+i:Nat):Int) (size:Int) ((2*size*i:Nat):Int) (up o)) (f:=NAl k0 size) (P:=fun _ o=>Ya o) (n:=c) (size+2) (fun m i o hi ho=>by
   refine ⟨?_,YA3 ho _ _ _⟩
   have hb:size*(i+1)≤size*c:=Nat.mul_le_mul_left size hi
   have hb2:2*size*i=2*(size*i):=Nat.mul_assoc 2 size i
   have hb3:2*size*(i+1)=2*size*i+2*size:=Nat.mul_succ _ _
   rw [Nat.mul_succ] at hb
   have e1:w64 (((k0+i:Nat):Int)+1)=((k0+(i+1):Nat):Int):=wn (n:=k0+(i+1)) (by omega)
   have e2:w64 (2*(size:Int))=((2*size:Nat):Int):=wn (n:=2*size) (by omega)
   have e3:w64 (((2*size*i:Nat):Int)+((2*size:Nat):Int))=((2*size*(i+1):Nat):Int):=by grind [wn]
   have e4:w64 (((2*size*i:Nat):Int)+(size:Int))=((2*size*i+size:Nat):Int):=wn (n:=2*size*i+size) (by omega)
   have h7:=MAl (k0+i)
   rw [show m+(size+2)=m+1+size*1+1 by omega,Qr]
   simp only [CAF,mk,e1]
   rw [TB (by grind),SBH (n:=k0+i) (by omega),Option.bind_some,TBH (e:=t7 (k0+i)) (by omega),Option.bind_some]
   refine (inner (k0+(i+1)) size (2*size*i) _ (m+1) o (by omega) (by omega) (LAl _) ho).trans ?_
   rw [Qr]
   simp only [CAF,mk,e2,e3,e4]
   rw [PY (by simp)];rfl)
  rw [Qr]
  simp only [CAF,mk]
  rw [TB (by grind)]
  refine (s c 0 (m+1) o (by omega) ho).1.trans ?_
  have hb2:2*size*c=256:=by grind
  have e5:w64 ((size:Int).tdiv 2)=((size / 2:Nat):Int):=wn (n:=size / 2) (by omega)
  rw [Qr]
  simp only [CAF,mk,e5]
  rw [PY (by simp_all)];rfl
 have hl:=h.1
 obtain ⟨m,hm⟩:∃ m,gas=m+1+1+64*(2+2)+1+1+32*(4+2)+1+1+16*(8+2)+1+1+8*(16+2)+1+1+4*(32+2)+1+1+2*(64+2)+1+1+1*(128+2)+1:=⟨gas - 1165,by rfl⟩
 rw [DAF,OAz,mk,GAO h,Option.bind_some,Bool.not_true,cond_false,KBh (by grind [Ia]),Option.bind_some,hm]
 have o1:=Nl h 1 128 1
 have o2:=Nl o1 2 64 2
 have o3:=Nl o2 4 32 4
 have o4:=Nl o3 8 16 8
 have o5:=Nl o4 16 8 16
 have o6:=Nl o5 32 4 32
 refine (level 1 128 1 _ p (by omega) rfl rfl h).trans ?_
 refine (level 2 64 2 _ _ (by omega) rfl rfl o1).trans ?_
 refine (level 4 32 4 _ _ (by omega) rfl rfl o2).trans ?_
 refine (level 8 16 8 _ _ (by omega) rfl rfl o3).trans ?_
 refine (level 16 8 16 _ _ (by omega) rfl rfl o4).trans ?_
 refine (level 32 4 32 _ _ (by omega) rfl rfl o5).trans ?_
 refine (level 64 2 64 (m+1) _ (by omega) rfl rfl o6).trans ?_
 rfl
theorem UBH {a b:List Nat} (ha:Ya a) (hb:Ya b):EAF [up a,up b]=some [up (BAO a),up (BAO b)]:=by
 have w0:w64 (0+1)=1:=by decide
 have w1:w64 (1+1)=2:=by decide
 obtain ⟨m,hm⟩:∃ m,gas=m+3:=⟨gas - 3,rfl⟩
 rw [EAF,PAz,hm]
 grind [RAi,QAz,LBh]
theorem VBH {seed:ByteArray} {i j:Nat} (h:seed.size≤1000) (hi:i<256) (hj:j<256):FAF seed (i:Int) (j:Int)=some (up (Ef seed i j)):=by
 have h1:Xi (i:Int)=some (Yf i):=Il (by omega) (by omega)
 have h2:Xi (j:Int)=some (Yf j):=Il (by omega) (by omega)
 have hz:∀ n,(Yf n).size=1:=fun n=>by rfl
 have hz1:=hz i
 have hz2:=hz j
 have hsz:((seed++Yf i)++Yf j).size=seed.size+2:=by simp_all
 rw [FAF,RAz,mk,h1,Option.bind_some,TB (by grind),h2,Option.bind_some,TB (by grind),OBH (by omega),Option.bind_some,Ef]
 generalize hS:sd ((seed++Yf i)++Yf j)=S
 have hSz:S.size=200:=by grind [JAl]
 have inner:∀ (k:Nat) (x:SStream) (m:Nat) (o:List Nat),k<4000→o.length<256→Pv (m+3) (.c1 (o.length:Int) (k:Int) 2 0 x (up (Lh o)) [((Ye S k:Nat):Int),((Rj S k:Nat):Int)])=Pv m (.c0 (((Ai S k o).length:Nat):Int) ((k+1:Nat):Int) x (up (Lh (Ai S k o)))):=by
  intro k x m o hk ho
  have one:∀ (v:Nat) (m:Nat) (o:List Nat) (u:Int) (y:Nat),(u=0∧y=Ye S k∨u=1∧y=Rj S k)→o.length≤256→Pv (m+1) (.c1 (o.length:Int) (k:Int) 2 u x (up (Lh o)) [((Ye S k:Nat):Int),((Rj S k:Nat):Int)])=Pv m (.c1 (((Ou y o).length:Nat):Int) (k:Int) 2 (u+1) x (up (Lh (Ou y o))) [((Ye S k:Nat):Int),((Rj S k:Nat):Int)]):=by
   intro v m o u y hu ho
   have hg:([((Ye S k:Nat):Int),((Rj S k:Nat):Int)]:List Int).getD u.toNat 0=(y:Int):=by grind
   have hc:(decide (0≤u) && decide (u<(([((Ye S k:Nat):Int),((Rj S k:Nat):Int)]:List Int).length:Int)))=true:=by grind
   have hu2:u<2∧w64 (u+1)=u+1:=by rcases hu with ⟨rfl,rfl⟩ | ⟨rfl,rfl⟩ <;> decide
   have hw:w64 ((o.length:Int)+1)=((o.length+1:Nat):Int):=wn (n:=o.length+1) (by omega)
   have hpl:(Lh o).length=256:=by simp_all [Lh]
   rw [Pv]
   simp only [KAM,mk]
   rw [TB (by simp_all),hc,cond_true,hg,hu2.2,hw,Ou]
   by_cases h1:y<3329
   ·rw [TB (by grind)]
    by_cases h2:o.length<256
    ·rw [TB (by grind),TB (Fa (by omega)),Int.toNat_natCast,Jh,VBf h2,if_pos ⟨h1,h2⟩,List.length_append,List.length_singleton]
    grind
   grind
  have hl1:(Ou (Ye S k) o).length≤256:=by
   grind [Ou]
  have hw:w64 ((k:Int)+1)=((k+1:Nat):Int):=wn (n:=k+1) (by omega)
  refine (one 0 (m+2) o 0 _ (.inl ⟨rfl,rfl⟩) (by omega)).trans ?_
  refine (one 0 (m+1) _ (0+1) _ (.inr ⟨rfl,rfl⟩) hl1).trans ?_
  rw [Pv]
  simp only [KAM,mk,hw]
  rfl
 have key:∀ (r k:Nat) (m:Nat) (x:SStream) (o:List Nat),k+r=4000→UQ o→Gm S (3*k) x→Pv (m+r*4+1) (.c0 (o.length:Int) (k:Int) x (up (Lh o)))=some (up (Lh (NAC S r k o))):=by
  intro r
  induction r with
  | zero=>
   intro k m x o hk ho hx
   rw [Pv]
   simp only [KAM,mk]
   rw [PY (by simp_all)];rfl
  | succ r ih=>
   intro k m x o hk ho hx
   rw [show m+(r+1)*4+1=(m+r*4+1)+3+1 by omega,Pv,NAC]
   simp only [KAM,mk]
   rw [TB (by grind)]
   by_cases hlt:o.length<256
   ·obtain ⟨x',e,hx'⟩:=PBH (n:=3) hSz hx (by omega)
    have e:YAE x 3=_:=e
    have hs3:(ofBytes (up (Xb S (3*k) 3))).size=3:=by rfl
    have t0:bt (ofBytes (up (Xb S (3*k) 3))) 0=((strm S (3*k):Nat):Int):=by grind [Nu,V8]
    have t1:bt (ofBytes (up (Xb S (3*k) 3))) 1=((strm S (3*k+1):Nat):Int):=by grind [Nu,V8]
    have t2:bt (ofBytes (up (Xb S (3*k) 3))) 2=((strm S (3*k+2):Nat):Int):=by rw [show (2:Int)=((2:Nat):Int) from rfl,Nu,V8 S (by omega)]
    have l0:=HAG S (3*k)
    have l1:=HAG S (3*k+1)
    have l2:=HAG S (3*k+2)
    have va:w64 (((strm S (3*k):Nat):Int)+w64 (((strm S (3*k+1):Nat):Int).tmod 16*256))=((Ye S k:Nat):Int):=by
     grind [w64_id,Ye]
    have vb:w64 (w64 (((strm S (3*k+1):Nat):Int).tdiv 16)+w64 (16*((strm S (3*k+2):Nat):Int)))=((Rj S k:Nat):Int):=by
     grind [w64_id,Rj]
    rw [TB (by grind),e,Option.bind_some]
    dsimp only
    rw [t0,t1,t2,wn (n:=strm S (3*k)) (by omega),wn (n:=strm S (3*k+1)) (by omega),wn (n:=strm S (3*k+2)) (by omega),va,vb,TB (by rfl),TB (by rfl),TB (by rfl),if_pos hlt]
    refine (inner k x' (m+r*4+1) o (by omega) hlt).trans ?_
    exact ih (k+1) m x' _ (by omega) (V4 ho) (by omega)
   grind
 obtain ⟨m,hm⟩:∃ m,gas=m+4000*4+1:=⟨gas - 16001,by rfl⟩
 rw [hm,show (256:Int).toNat=256 from rfl,←Y3]
 refine key 4000 0 m ⟨S,0⟩ [] (by omega) ⟨Nat.zero_le _,fun _ h=>by cases h⟩ ?_
 grind [KAl]
theorem WBH {rho:ByteArray} {i:Nat} (h:rho.size≤1000) (hi:i<256):GAF rho (i:Int) false=some [up (Ef rho 0 i),up (Ef rho 1 i)]:=by
 have u0:FAF rho 0 (i:Int)=some (up (Ef rho 0 i)):=VBH (i:=0) (j:=i) h (by decide) hi
 have u1:FAF rho 1 (i:Int)=some (up (Ef rho 1 i)):=VBH (i:=1) (j:=i) h (by decide) hi
 have w0:w64 (0+1)=1:=by decide
 have w1:w64 (1+1)=2:=by decide
 obtain ⟨m,hm⟩:∃ m,gas=m+3:=⟨gas - 3,rfl⟩
 simp_all [GAF,SAz,SAi,TAz,mk]
theorem XBH {a b:List Nat} (ha:Ya a) (hb:Ya b):OAY (up a) (up b)=some (up (mulL a b)):=by
 have hal:=ha.1
 have hbl:=hb.1
 have s:=Tc (Lp:=LAM) (st:=fun i o=>.c0 (up a) (up b) (i:Int) (up o)) (f:=fun i o=>(o.set (2*i) (Yo a b (2*i))).set (2*i+1) (Yo a b (2*i+1))) (P:=fun _ o=>o.length=256) (n:=128) 1 (fun m i o hi ho=>by
  refine ⟨?_,by simp_all⟩
  have h7:=MAl i
  have w1:w64 ((i:Int)+1)=((i+1:Nat):Int):=wn (n:=i+1) (by omega)
  have e1:w64 (2*(i:Int))=((2*i:Nat):Int):=wn (n:=2*i) (by omega)
  have e2:w64 (((2*i:Nat):Int)+1)=((2*i+1:Nat):Int):=wn (n:=2*i+1) (by omega)
  have e3:w64 (2*((t7 i:Nat):Int))=((2*t7 i:Nat):Int):=wn (n:=2*t7 i) (by omega)
  have e4:w64 (((2*t7 i:Nat):Int)+1)=((2*t7 i+1:Nat):Int):=wn (n:=2*t7 i+1) (by omega)
  have g:=LAl (2*t7 i+1)
  have a0:=ha.get (2*i)
  have a1:=ha.get (2*i+1)
  have b0:=hb.get (2*i)
  have b1:=hb.get (2*i+1)
  have p00:=mul_lt a0 b0
  have p11:=mul_lt a1 b1
  have p01:=mul_lt a0 b1
  have p10:=mul_lt a1 b0
  have hm:a.getD (2*i+1) 0*b.getD (2*i+1) 0 % 3329<3329:=Nat.mod_lt _ (by decide)
  have pg:=mul_lt hm g
  rw [LAM]
  simp only [VAz,mk,w1,e1,e2,Int.toNat_natCast,Je]
  rw [TB (by grind),SBH (by omega),Option.bind_some,e3,e4,TBH (by omega),Option.bind_some,IAG a1 b1,LAC hm g,LAC a0 b0,LAC a0 b1,LAC a1 b0,QAG,Option.bind_some,QAG,Option.bind_some]
  have v1:(w64 (((a.getD (2*i) 0*b.getD (2*i) 0:Nat):Int)+((a.getD (2*i+1) 0*b.getD (2*i+1) 0 % 3329*KAC (2*t7 i+1):Nat):Int))) % 3329=((Yo a b (2*i):Nat):Int):=by
   grind [CBG,wn]
  have v2:(w64 (((a.getD (2*i) 0*b.getD (2*i+1) 0:Nat):Int)+((a.getD (2*i+1) 0*b.getD (2*i) 0:Nat):Int))) % 3329=((Yo a b (2*i+1):Nat):Int):=by
   grind [DBG,wn]
  rw [v1,v2,Jh,Jh,TB (Fa (by omega)),TB (Fa (by omega)),TB (Fa (by omega)),TB (Fa (by omega)),TB (Fa (by omega)),TB (Fa (by grind))])
 obtain ⟨m,hm⟩:∃ m,gas=m+1+128*1:=⟨gas - 129,by rfl⟩
 rw [OAY,UAz,mk,GAO ha,Option.bind_some,Bool.not_true,cond_false,GAO hb,Option.bind_some,Bool.not_true,cond_false,hm,show (256:Int).toNat=256 from rfl,←Y3]
 refine (s 128 0 (m+1) (List.replicate 256 0) (by omega) List.length_replicate).1.trans ?_
 rw [EBG,show 2*128=256 from rfl,Nat.mul_zero,OAa (v:=Yo a b) List.length_replicate,LAM]
 rfl
theorem JA4 {a b:List Nat} (ha:Ya a) (hb:Ya b):Vz (up a) (up b)=some (up (JAG a b)):=by
 have hal:=ha.1
 have hbl:=hb.1
 have hn:VAi (up a) (up b) 180=some (up (JAG a b)):=by
  have s:=Tc (Lp:=MAM) (st:=fun i o=>.c0 (up a) (up b) 180 ((256:Nat):Int) (i:Int) (up o)) (f:=fun i o=>o.set i ((a.getD i 0+b.getD i 0) % 3329)) (P:=fun _ o=>o.length=256) (n:=256) 1 (fun m i o hi ho=>by
   refine ⟨?_,by rw [List.length_set,ho]⟩
   have w1:w64 ((i:Int)+1)=((i+1:Nat):Int):=wn (n:=i+1) (by omega)
   have a0:=ha.get i
   have b0:=hb.get i
   have v:(w64 (((a.getD i 0:Nat):Int)+((b.getD i 0:Nat):Int))) % 3329=(((a.getD i 0+b.getD i 0) % 3329:Nat):Int):=by rw [←Int.natCast_add,wn (by omega)];rfl
   rw [MAM]
   simp only [UAi,mk,w1,Int.toNat_natCast,Je]
   rw [cond_d (by omega),TB (Fa (by omega)),TB (Fa (by omega)),TB (by rfl),TAi,WAz,mk,Option.bind_some,QAG,Option.bind_some,v,Jh,TB (Fa (by omega))])
  obtain ⟨m,hm⟩:∃ m,gas=m+1+256*1:=⟨gas - 257,by have:=gas_lt (n:=257) (by omega);omega⟩
  rw [VAi,YAz,mk,GAO ha,Option.bind_some,Bool.not_true,cond_false,GAO hb,Option.bind_some,Bool.not_true,cond_false,hm,show (256:Int).toNat=256 from rfl,List.length_replicate,←Y3]
  refine (s 256 0 (m+1) (List.replicate 256 0) (by omega) List.length_replicate).1.trans ?_
  rw [OAa (v:=fun i=>(a.getD i 0+b.getD i 0) % 3329) List.length_replicate,MAM]
  simp only [UAi,mk]
  rw [cond_n (by omega)];rfl
 rw [Vz,ZAz,mk,hn];rfl
theorem MBh {a0 a1 b0 b1:List Nat} (ha0:Ya a0) (ha1:Ya a1) (hb0:Ya b0) (hb1:Ya b1):QAB [up a0,up a1] [up b0,up b1]=some (up (QAl a0 a1 b0 b1)):=by
 obtain ⟨m,hm⟩:∃ m,gas=m+1+1+1:=⟨gas - 3,rfl⟩
 rw [QAB,AA0,mk,hm,show (256:Int).toNat=256 from rfl,←Y3,NAM]
 simp only [WAi,mk]
 rw [TB (by rfl),TB (by rfl),TB (by rfl),show ([up a0,up a1]:List (List Int)).getD (0:Int).toNat []=up a0 from rfl,show ([up b0,up b1]:List (List Int)).getD (0:Int).toNat []=up b0 from rfl,XBH ha0 hb0,Option.bind_some,JA4 HBG (OAl _ _),Option.bind_some,show w64 (0+1)=1 by decide,NAM]
 simp only [WAi,mk]
 rw [TB (by rfl),TB (by rfl),TB (by rfl),show ([up a0,up a1]:List (List Int)).getD (1:Int).toNat []=up a1 from rfl,show ([up b0,up b1]:List (List Int)).getD (1:Int).toNat []=up b1 from rfl,XBH ha1 hb1,Option.bind_some,JA4 (PAl _ _) (OAl _ _),Option.bind_some,show w64 (1+1)=2 by decide,NAM]
 rfl
def Gi (l:List Nat) (t:Nat):Nat:=l.getD (t / 12) 0 / 2 ^ (t % 12) % 2
def Iy (l:List Nat) (p:Nat):Nat→Nat
 | 0=>0
 | c+1=>Iy l p c+Gi l (8*p+c)*2 ^ c
theorem KA4 (l:List Nat) (p:Nat):∀ c,Iy l p c<2 ^ c
 | 0=>Nat.two_pow_pos _
 | c+1=>by
  have h1:=KA4 l p c
  have h2:Gi l (8*p+c)<2:=Nat.mod_lt _ (by decide)
  have h3:(Gi l (8*p+c)+1)*2 ^ c≤2*2 ^ c:=Nat.mul_le_mul_right _ h2
  grind [Iy]
theorem NBh {l:List Nat} (h:Ya l) (p:Nat):Iy l p 8=Ci l p:=by
 have hx:=h.get (2*(p / 3))
 have hy:=h.get (2*(p / 3)+1)
 have e:Iy l p 8=Gi l (8*p)+Gi l (8*p+1)*2+Gi l (8*p+2)*4+Gi l (8*p+3)*8+Gi l (8*p+4)*16+Gi l (8*p+5)*32+Gi l (8*p+6)*64+Gi l (8*p+7)*128:=by
  simp [Iy]
 have hp:p=3*(p / 3)+p % 3:=by omega
 generalize hq:p / 3=q at hp hx hy
 have h3:p % 3<3:=Nat.mod_lt _ (by decide)
 have b:∀ t i k,t=12*i+k→k<12→Gi l t=l.getD i 0 / 2 ^ k % 2:=fun t i k h1 h2=>by rw [Gi,show t / 12=i by omega,show t % 12=k by omega]
 rcases (show p % 3=0∨p % 3=1∨p % 3=2 by omega) with h0 | h0 | h0
 ·rw [h0] at hp
  subst hp
  rw [e,Nat.add_zero,KBG,b _ (2*q) 0 (by omega) (by omega),b _ (2*q) 1 (by omega) (by omega),b _ (2*q) 2 (by omega) (by omega),b _ (2*q) 3 (by omega) (by omega),b _ (2*q) 4 (by omega) (by omega),b _ (2*q) 5 (by omega) (by omega),b _ (2*q) 6 (by omega) (by omega),b _ (2*q) 7 (by omega) (by omega)]
  omega
 ·rw [h0] at hp
  subst hp
  rw [e,LBG,b _ (2*q) 8 (by omega) (by omega),b _ (2*q) 9 (by omega) (by omega),b _ (2*q) 10 (by omega) (by omega),b _ (2*q) 11 (by omega) (by omega),b _ (2*q+1) 0 (by omega) (by omega),b _ (2*q+1) 1 (by omega) (by omega),b _ (2*q+1) 2 (by omega) (by omega),b _ (2*q+1) 3 (by omega) (by omega)]
  omega
 ·rw [h0] at hp
  subst hp
  rw [e,MBG,b _ (2*q+1) 4 (by omega) (by omega),b _ (2*q+1) 5 (by omega) (by omega),b _ (2*q+1) 6 (by omega) (by omega),b _ (2*q+1) 7 (by omega) (by omega),b _ (2*q+1) 8 (by omega) (by omega),b _ (2*q+1) 9 (by omega) (by omega),b _ (2*q+1) 10 (by omega) (by omega),b _ (2*q+1) 11 (by omega) (by omega)]
  omega
theorem o8 {a b:Nat} (ha:a<256) (hb:b<256):w8 (((BitVec.toNat ((BitVec.ofInt (IntKind.bits IntKind.u8) (a:Int)) ||| (BitVec.ofInt (IntKind.bits IntKind.u8) (b:Int)))):Nat):Int)=((a ||| b:Nat):Int):=by
 have h:a ||| b<256:=Nat.or_lt_two_pow (n:=8) ha hb
 grind [bv8,w8_id]
def LA4 (l:List Nat) (t:Nat) (o:List Nat):Prop:=o.length=384∧∀ p,p<384→o.getD p 0=Iy l p (min 8 (t - 8*p))
theorem OBh {l:List Nat} (h:Ya l):UAY (up l) 12=some (Jm l):=by
 have hl:=h.1
 have c2:∀ k:Nat,(2:Int) ^ k=((2 ^ k:Nat):Int):=fun k=>by rfl
 have fd:∀ (a k:Nat),Int.fdiv (a:Int) ((2 ^ k:Nat):Int)=((a / 2 ^ k:Nat):Int):=fun a k=>by grind
 have inner:∀ (i:Nat),i<256→∀ (m:Nat) (o:List Nat),LA4 l (12*i) o→_:=fun i hi m o ho=>Tc (Lp:=RAB) (st:=fun k o=>.c1 12 (i:Int) ((l.getD i 0:Nat):Int) (up l) ((256:Nat):Int) (i:Int) 12 (k:Int) (up o)) (f:=fun k o=>o.set ((12*i+k) / 8) (o.getD ((12*i+k) / 8) 0 ||| Gi l (12*i+k)*2 ^ ((12*i+k) % 8))) (P:=fun k o=>LA4 l (12*i+k) o) (n:=12) 1 (fun m k o hk ho=>by
  obtain ⟨hol,hok⟩:=ho
  have hx:=h.get i
  have hbit:Gi l (12*i+k)=l.getD i 0 / 2 ^ k % 2:=by grind [Gi]
  have hw1:w64 ((i:Int)*12)=((12*i:Nat):Int):=by grind [wn]
  have hw2:w64 (((12*i:Nat):Int)+(k:Int))=((12*i+k:Nat):Int):=wn (n:=12*i+k) (by omega)
  obtain ⟨t,ht⟩:∃ t,t=12*i+k:=⟨_,rfl⟩
  rw [←ht] at hbit hw2 hok ⊢
  have hd:t / 8<384:=by omega
  have hv:=hok (t / 8) hd
  rw [show min 8 (t - 8*(t / 8))=t % 8 by omega] at hv
  have hpl:=KA4 l (t / 8) (t % 8)
  have hor:Iy l (t / 8) (t % 8) ||| Gi l t*2 ^ (t % 8)=Iy l (t / 8) (t % 8+1):=by
   have:=Nat.shiftLeft_add_eq_or_of_lt hpl (Gi l t)
   grind [Nat.shiftLeft_eq,Iy]
  have hlt:=KA4 l (t / 8) (t % 8+1)
  have h8:2 ^ (t % 8+1)≤2 ^ 8:=Nat.pow_le_pow_right (by decide) (by omega)
  have h80:2 ^ (t % 8)≤2 ^ 8:=Nat.pow_le_pow_right (by decide) (by omega)
  have h256:(2:Nat) ^ 8=256:=rfl
  have hbp:Gi l t*2 ^ (t % 8)<256:=by
   grind [Iy]
  have hb2:Gi l t<2:=Nat.mod_lt _ (by decide)
  refine ⟨?_,by simp_all,fun p hp=>?_⟩
  ·have w1:w64 ((k:Int)+1)=((k+1:Nat):Int):=wn (n:=k+1) (by omega)
   have e1:w64 ((t:Int).tdiv 8)=((t / 8:Nat):Int):=wn (n:=t / 8) (by omega)
   have e2:(t:Int).tmod 8=((t % 8:Nat):Int):=rfl
   have e3:Min.min (t % 8) (IntKind.bits IntKind.u8)=t % 8:=Nat.min_eq_left (by show t % 8≤8;omega)
   have e4:Min.min k (IntKind.bits IntKind.i64)=k:=Nat.min_eq_left (by show k≤64;omega)
   have hdv:l.getD i 0 / 2 ^ k≤l.getD i 0:=Nat.div_le_self _ _
   rw [RAB]
   simp only [XAi,mk,w1,hw1,hw2,e1,e2,Int.toNat_natCast,e3,e4,c2,fd,Je]
   rw [and1 (n:=l.getD i 0 / 2 ^ k) (by omega),←hbit,w8_id (n:=((Gi l t:Nat):Int)) (by omega) (by omega),←Int.natCast_mul,w8_id (n:=((Gi l t*2 ^ (t % 8):Nat):Int)) (by omega) (by omega),hv,o8 (by omega) hbp,Jh,TB (by grind),TB (Fa (by omega)),TB (by rfl),TB (by rfl),TB (Fa (by omega))]
  grind) 12 0 m o (by omega) ho
 have so:=Tc (Lp:=RAB) (st:=fun i o=>.c0 12 (up l) ((256:Nat):Int) (i:Int) (up o)) (f:=fun i o=>Oa (fun k o=>o.set ((12*i+k) / 8) (o.getD ((12*i+k) / 8) 0 ||| Gi l (12*i+k)*2 ^ ((12*i+k) % 8))) 12 0 o) (P:=fun i o=>LA4 l (12*i) o) (n:=256) 14 (fun m i o hi ho=>by
  obtain ⟨i1,i2⟩:=inner i hi (m+1) o ho
  refine ⟨?_,i2⟩
  have w1:w64 ((i:Int)+1)=((i+1:Nat):Int):=wn (n:=i+1) (by omega)
  grind [RAB,XAi,Int.toNat_natCast,Je,Fa])
 obtain ⟨m,hm⟩:∃ m,gas=m+1+256*14:=⟨gas - 3585,by rfl⟩
 have hz:(w64 ((w64 ((w64 (((256:Nat):Int)*12))+7)).tdiv 8))=384:=by decide
 rw [UAY,BA0,mk,Ia,hl,hz,hm,TB (by decide),show (384:Int).toNat=384 from rfl,←Y3]
 obtain ⟨a1,a2,a3⟩:=so 256 0 (m+1) (List.replicate 384 0) (by omega) ⟨List.length_replicate,fun p hp=>by
  rw [show min 8 (12*0 - 8*p)=0 by omega,List.getD_eq_getElem?_getD,List.getElem?_replicate];split <;> rfl⟩
 refine a1.trans ?_
 generalize Oa (fun i o=>Oa (fun k o=>o.set ((12*i+k) / 8) (o.getD ((12*i+k) / 8) 0 ||| Gi l (12*i+k)*2 ^ ((12*i+k) % 8))) 12 0 o) 256 0 (List.replicate 384 0)=o at a2 a3
 have hfin:o=(List.range 384).map (Ci l):=GAl (by rw [a2,List.length_map,List.length_range]) fun p hp=>by
  grind [NBh]
 rw [hfin,RAB]
 rfl
theorem YBH {l:List Nat} (h:Ya l):HAF (up l)=some (Jm l):=by
 simp_all [HAF,CA0,mk,GAO,OBh]
theorem ZBH {seed:ByteArray} (h:seed.size=32):YAY seed=some (⟨Ru seed,Ls seed⟩,true):=by
 have z0:(⟨#[]⟩:ByteArray).size=0:=rfl
 have z1:(⟨#[114]⟩:ByteArray).size=1:=rfl
 have z2:(⟨#[115]⟩:ByteArray).size=1:=rfl
 have z3:(⟨#[122]⟩:ByteArray).size=1:=rfl
 have hd:=Ig seed
 have hrs:(Di seed).size=32:=Ig _
 have hss:(Ei seed).size=32:=Ig _
 have hps:=PBG seed
 have hr:Yj (Ob seed++⟨#[114]⟩)=some (Di seed):=Xr (by simp_all)
 have hs:Yj (Ob seed++⟨#[115]⟩)=some (Ei seed):=Xr (by simp_all)
 have hzz:Yj (Ob seed++⟨#[122]⟩)=some (Ob (Ob seed++⟨#[122]⟩)):=Xr (by simp_all)
 have hpp:Yj (Ru seed)=some (Ob (Ru seed)):=Xr (by omega)
 have m0:ZAE (Ei seed) 0=some [up (Qj (Ei seed) 0),up (Qj (Ei seed) 1)]:=RBH (f:=0) (by omega) (by decide)
 have m2:ZAE (Ei seed) 2=some [up (Qj (Ei seed) 2),up (Qj (Ei seed) 3)]:=RBH (f:=2) (by omega) (by decide)
 have n0:EAF [up (Qj (Ei seed) 0),up (Qj (Ei seed) 1)]=some [up (pS seed 0),up (pS seed 1)]:=UBH (ZAN _ _) (ZAN _ _)
 have n2:EAF [up (Qj (Ei seed) 2),up (Qj (Ei seed) 3)]=some [up (pS seed 2),up (pS seed 3)]:=UBH (ZAN _ _) (ZAN _ _)
 have r0:GAF (Di seed) 0 false=some [up (Ef (Di seed) 0 0),up (Ef (Di seed) 1 0)]:=WBH (i:=0) (by omega) (by decide)
 have r1:GAF (Di seed) 1 false=some [up (Ef (Di seed) 0 1),up (Ef (Di seed) 1 1)]:=WBH (i:=1) (by omega) (by decide)
 have b0:∀ i,HAF (up (pS seed i))=some (Jm (pS seed i)):=fun i=>YBH (OAC _ _)
 have d0:∀ i,QAB [up (Ef (Di seed) 0 i),up (Ef (Di seed) 1 i)] [up (pS seed 0),up (pS seed 1)]=some (up (KAG seed i)):=fun i=>MBh (RAl _ _ _) (RAl _ _ _) (OAC _ _) (OAC _ _)
 have a0:∀ i,Vz (up (KAG seed i)) (up (pS seed (2+i)))=some (up (pT seed i)):=fun i=>JA4 (GBG _ _ _ _) (OAC _ _)
 have a00:Vz (up (KAG seed 0)) (up (pS seed 2))=some (up (pT seed 0)):=a0 0
 have a01:Vz (up (KAG seed 1)) (up (pS seed 3))=some (up (pT seed 1)):=a0 1
 have t0:∀ i,HAF (up (pT seed i))=some (Jm (pT seed i)):=fun i=>YBH (OBG _ _)
 have g0:∀ a b:List Int,([a,b]:List (List Int)).getD (0:Int).toNat []=a:=fun _ _=>rfl
 have g1:∀ a b:List Int,([a,b]:List (List Int)).getD (1:Int).toNat []=b:=fun _ _=>rfl
 have w0:w64 (0+1)=1:=by decide
 have w1:w64 (1+1)=2:=by decide
 obtain ⟨m,hm⟩:∃ m,gas=m+3:=⟨gas - 3,rfl⟩
 rw [YAY,DA0,mk,PY (by simp_all),Xr (by omega),Option.bind_some,TB (by rfl),hr,Option.bind_some,TB (by rfl),hs,Option.bind_some,m0,Option.bind_some,n0,Option.bind_some,m2,Option.bind_some,n2,Option.bind_some,hm]
 rw [OAM];simp only [XAY,mk]
 rw [TB (by rfl),r0,Option.bind_some,d0,Option.bind_some,TB (by rfl),g0,a00,Option.bind_some,t0,Option.bind_some,TB (by rfl),TB (by rfl),g0,b0,Option.bind_some,TB (by rfl),w0]
 rw [OAM];simp only [XAY,mk]
 rw [TB (by rfl),r1,Option.bind_some,d0,Option.bind_some,TB (by rfl),g1,a01,Option.bind_some,t0,Option.bind_some,TB (by simp_all [Qu]),TB (by rfl),g1,b0,Option.bind_some,TB (by simp_all [Qu]),w1]
 rw [OAM];simp only [XAY,mk]
 rw [PY (by rfl),TB (by simp_all [Qu])]
 rw [show ((⟨#[]⟩:ByteArray)++Jm (pT seed 0)++Jm (pT seed 1))++Di seed=Ru seed from rfl,TB (by simp_all [Qu]),hpp,Option.bind_some,TB (by simp_all [Ig,Qu]),TB (by rfl),hzz,Option.bind_some,TB (by simp_all [Ig,Qu])]
 rfl
theorem PBh {s t:ByteArray} (h:t.size≠768):PAM s t=some (⟨#[]⟩,false):=by
 rw [PAM,OA0,mk,NA0,MA0,mk,LA0,JA0,mk,show ((t.size:Int) != 768)=true from bne_iff_ne.2 (by omega)]
 simp
theorem QBh (x:SThing) (h f:Bool):YAi x h f=some (X3 x h f):=by
 rw [YAi,PA0,mk,AAa,Option.bind_some,X3]
 cases Za x <;> cases x.fHidden <;> cases x.fFixed <;> cases h <;> cases f <;> rfl
theorem RBh {s:ByteArray} (hs:s.size≤1000):ZAi s=some (U3 (s++⟨#[116]⟩)):=by
 have z:(⟨#[116]⟩:ByteArray).size=1:=rfl
 rw [ZAi,QA0,mk,TB (by grind),ZBE (by grind)];rfl
theorem SBh (x:SThing):AAj x=some (QAa x):=by
 rw [AAj,RA0,mk,AAa,Option.bind_some,QAa]
 grind [ZBH,CAO,RBh]
theorem TBh {tk:ByteArray→ByteArray×Bool} {b:SBox} {c:SCall} {x:SThing} (h:PB b) (hc:c.fText.size≤1000) (hx:Ic b.fBook.fThings x.fId=some x) (htk:c.fOp=12→∀ v:ByteArray,v.size=32→PAM (Ls v) c.fText=some (tk (Ls v))):BAj b c x=some (MAG tk b c x):=by
 have hk:(Vk b).size≤900000000:=by simp [Vk,Ig]
 rw [BAj,SA0,mk,MAG]
 simp only [Js (n:=8) (by decide),Js (n:=6) (by decide),TBe,IAk,KBH h.key,XBg hk,QBh,SBh,Option.bind_some]
 cases c.fOp == 6
 ·cases c.fOp == 5
  ·cases c.fOp == 10
   ·cases h12:c.fOp == 12
    ·cases c.fOp == 8
     ·cases c.fOp == 7
      ·cases c.fOp == 9 <;> rfl
      ·rfl
     ·rw [cond_true,cond_true]
      cases (X3 x c.fHidden c.fFixed).2 <;> rfl
    grind [TBG,CAO,ZBH]
   grind
  grind [VBg]
 grind
theorem UBh {tk:ByteArray→ByteArray×Bool} {b:SBox} {c:SCall} (h:PB b) (hd:Dec b) (hok:FAB b=some true) (hu:b.fUp=true) (hc:Gq c=true) (hn:b.fBook.fCount<10000) (htk:c.fOp=12→∀ v:ByteArray,v.size=32→PAM (Ls v) c.fText=some (tk (Ls v))):V7 b c=some (Zf tk b c):=by
 have hs:=h.ses
 have ht:=h.things
 have ho:=h.opn
 have hz:=TBE hc
 have h5:=(Vh.1 h.Jl).2.2.1.1
 rw [V7,CAj,mk,Zf,hok,Option.bind_some,hu,RBE,hc,VBd (by omega)]
 simp only [Js (n:=9) (by decide),Js (n:=1) (by decide),Js (n:=2) (by decide),Js (n:=5) (by decide),Js (n:=6) (by decide),Js (n:=7) (by decide),Option.bind_some,Bool.not_true,cond_false]
 rw [PY (by simp_all),w64_id (n:=b.fOpened+1) (by omega) (by omega),hd.opn]
 cases c.fOp == 1
 ·rw [cond_false,cond_false]
  by_cases ha:Gs b c.fSession<0
  ·simp_all
  ·rw [decide_eq_false ha,cond_false,cond_false]
   have hlt:Gs b c.fSession<(b.fSessions.length:Int):=by
    rw [Gs] at ha ⊢
    cases hp:Y2 b.fSessions c.fSession 0 with
    | none=>simp_all
    | some j=>have:=(SBE hp).2;simp_all
   cases c.fOp == 13
   ·rw [cond_false,cond_false]
    cases c.fOp == 2
    ·rw [cond_false,cond_false,TB (by simp_all)]
     cases (b.fSessions.getD (Gs b c.fSession).toNat ⟨0,false⟩).fIn
     ·rfl
     ·rw [Bool.not_true,cond_false,cond_false]
      cases c.fOp == 3
      ·grind [BA3,Ic,TBh,UBg,QBg]
      ·rw [cond_true,cond_true,Xr (by omega)]
       cases decide ((c.fText.size:Int) > 20) <;> rfl
    grind [WBd]
   ·rfl
 grind
end Go.Proofs.YtpjfloaghpgpdaaGreatDoor.G
