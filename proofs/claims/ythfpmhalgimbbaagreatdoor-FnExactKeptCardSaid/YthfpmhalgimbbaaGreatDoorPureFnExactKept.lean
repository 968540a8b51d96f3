/- The plain law of FnExactKept: whatever the arguments, it answers true. Conditions: what is read is in reach. Part 2 of 2. -/
import Derived.Test.YthfpmhalgimbbaaGreatDoorPureFnExactKepta
namespace Go.Proofs.YthfpmhalgimbbaaGreatDoor.G
open Go Go.Ev
set_option linter.unusedVariables false
set_option linter.unusedSimpArgs false
theorem EAf {file:ByteArray} {a:Nat} (hs:file.size≤140737488351232) (ha:a≤file.size) {p:ByteArray×Nat} (h:Ya file a=some p):p.2=a+(frameT p.1).1.size∧p.2≤file.size:=by
 rcases CAB hs ha with h1 | ⟨v,q,_,hq,hq2,hv1,hv2,h3,_,_,h1⟩
 ·rw [h1] at h;cases h
 ·rw [h1] at h
  cases h
  have hz:(file.extract (q+4) (q+4+v.toNat)).size=v.toNat:=by rw [ByteArray.size_extract];omega
  have hin:FN ((file.extract (q+4) (q+4+v.toNat)).size:Int) 1 9000=true:=by rw [hz,SX];omega
  refine ⟨?_,h3⟩
  show q+4+v.toNat=a+(frameT (file.extract (q+4) (q+4+v.toNat))).1.size
  rw [frameT,hin,cond_true,ofBytes_size,Og,List.length_append,List.length_append,bs_len,hz,show ((v.toNat:Nat):Int)=v by omega]
  have:(four (XZ (bs (file.extract (q+4) (q+4+v.toNat))))).length=4:=rfl
  omega
theorem FAf (k:ByteArray) {file:ByteArray} (hs:file.size≤140737488351232):∀ (j a:Nat) (i:Int),a≤file.size→0≤(VY k i (KY j file a).1).2∧(a:Int)+(VY k i (KY j file a).1).2≤(file.size:Int):=by
 intro j
 induction j with
 | zero=>intro a i ha;exact ⟨Int.le_refl 0,by show (a:Int)+0≤_;omega⟩
 | succ j ih=>
  intro a i ha
  rw [KY]
  cases h:Ya file a with
  | none=>exact ⟨Int.le_refl 0,by show (a:Int)+0≤_;omega⟩
  | some p=>
   obtain ⟨h1,h2⟩:=EAf hs ha h
   obtain ⟨h3,h4⟩:=ih p.2 (i+1) h2
   simp only [VY]
   cases (QX k i p.1).2 && (PY (QX k i p.1).1).2
   ·exact ⟨Int.le_refl 0,by show (a:Int)+0≤_;omega⟩
   ·rw [cond_true]
    exact ⟨by simp only;omega,by simp only;omega⟩
theorem WAT (k file:ByteArray):0≤(ZX k file).2∧(ZX k file).2≤(file.size:Int):=by
 rw [ZX,Za]
 by_cases h:(file.size:Int) > 20000
 ·rw [decide_eq_true h];exact ⟨Int.le_refl 0,by show (0:Int)≤_;omega⟩
 ·rw [decide_eq_false h,cond_false]
  have h2:=FAf k (file:=file) (by omega) (file.size+1) 0 1 (Nat.zero_le _)
  exact ⟨h2.1,by have:=h2.2;show (VY k 1 (KY (file.size+1) file 0).1).2≤_;omega⟩
theorem XAT {d:SDisk} {n:ByteArray} {B:Nat} (hf:∀ f ∈ d.fFiles,f.fText.size≤B):(CV d n).1.size≤B:=by
 rw [CV]
 cases h:Ib d.fFiles n 0 with
 | none=>exact Nat.zero_le _
 | some j=>
  have h1:=(AAM h).2
  show ((d.fFiles.getD j YAT).fText).size≤B
  rw [getD_at (by omega)]
  exact hf _ (List.getElem_mem _)
def PX:ByteArray:=⟨#[98,111,111,107]⟩
def nNew:ByteArray:=⟨#[98,111,111,107,43]⟩
noncomputable def Dc (k:ByteArray) (d:SDisk):SBook×List SAct×Bool:=
 bif !(Pg d) || !(IY AZ (ZX k (CV d PX).1).1).2 then (Dn,[],false)
 else ((IY AZ (ZX k (CV d PX).1).1).1,(bif decide (Jb d nNew≥0) then [⟨4,nNew,⟨#[]⟩,⟨#[]⟩⟩] else [])++(bif (ZX k (CV d PX).1).2 == ((CV d PX).1.size:Int) then [] else [⟨1,nNew,(CV d PX).1.extract 0 (ZX k (CV d PX).1).2.toNat,⟨#[]⟩⟩,⟨2,nNew,⟨#[]⟩,⟨#[]⟩⟩,⟨3,nNew,⟨#[]⟩,PX⟩]),true)
theorem GAf (k:ByteArray):∀ (fs:List ByteArray) (i:Int),(∀ f ∈ fs,f.size≤20000)→∀ r ∈ (VY k i fs).1,r.fNum≤9223372036854775807:=by
 intro fs
 induction fs with
 | nil=>intro i _ r hr;cases hr
 | cons f fs ih=>
  intro i hf r hr
  rw [VY] at hr
  cases h:(QX k i f).2 && (PY (QX k i f).1).2
  ·rw [h] at hr;cases hr
  ·rw [h,cond_true] at hr
   rcases List.mem_cons.1 hr with rfl | hr
   ·have hz:=BAM k f i
    have hfz:=hf f (List.mem_cons_self ..)
    rcases HAf (t:=(QX k i f).1) (by omega) with ⟨_,h2⟩ | h2
    ·have h3:(TT (PY (QX k i f).1).1).2=true:=by rw [h2]
     rcases DAB h3 with ⟨hk,_⟩ | ⟨hk,hc⟩ | ⟨hk,_⟩ | ⟨hk,hc⟩
     ·rw [TT,hk] at h3
      simp only [show ((1:Int) == 1)=true from rfl,cond_true] at h3
      cases hc:(((PY (QX k i f).1).1.fText.size:Int) == 32 && (PY (QX k i f).1).1.fNum == 0 && JY (PY (QX k i f).1).1.fThing)
      ·rw [hc] at h3;cases h3
      ·rw [Bool.and_eq_true,Bool.and_eq_true,beq_iff_eq,beq_iff_eq] at hc;omega
     ·omega
     ·rw [TT,hk] at h3
      simp only [show ((3:Int) == 1)=false from rfl,show ((3:Int) == 2)=false from rfl,show ((3:Int) == 3)=true from rfl,cond_true,cond_false] at h3
      cases hc:((CY (PY (QX k i f).1).1.fThing).2 && GY (PY (QX k i f).1).1.fText && (PY (QX k i f).1).1.fNum == 0)
      ·rw [hc] at h3;cases h3
      ·rw [Bool.and_eq_true,beq_iff_eq] at hc;omega
     ·omega
    ·rw [h2];exact (by decide:(0:Int)≤9223372036854775807)
   ·exact ih (i+1) (fun f hf2=>hf f (List.mem_cons_of_mem _ hf2)) r hr
theorem IAf (k file:ByteArray):∀ r ∈ (ZX k file).1,r.fNum≤9223372036854775807:=GAf k _ _ (EAB (file:=file)).1
theorem ZAT (k file:ByteArray):(ZX k file).1.length≤20000:=Nat.le_trans (JAf k _ _) (EAB (file:=file)).2.1
theorem KAf {k:ByteArray} {d:SDisk} (hk:k.size≤900000000) (hd:d.fFiles.length≤140737488351232) (hf:∀ f ∈ d.fFiles,f.fText.size≤140737488351232):Yv k d=some (Dc k d):=by
 have hfs:(CV d PX).1.size≤140737488351232:=XAT hf
 obtain ⟨r1,r2⟩:=WAT k (CV d PX).1
 have hl:=ZAT k (CV d PX).1
 rw [Yv,VAI,LAf,Option.bind_some,Dc]
 cases Pg d
 ·rfl
 rw [NM (by rfl),show (⟨#[98,111,111,107]⟩:ByteArray)=PX from rfl,show (⟨#[98,111,111,107,43]⟩:ByteArray)=nNew from rfl,MAf hd,Option.bind_some,NAf hk hfs,Option.bind_some,AAU,Option.bind_some,BAU (Nat.zero_le _) (by omega),Option.bind_some,CAU hd]
 cases (IY AZ (ZX k (CV d PX).1).1).2
 ·rfl
 simp only [Option.bind_some,Bool.not_true,Bool.or_self,cond_false]
 by_cases he:(ZX k (CV d PX).1).2=((CV d PX).1.size:Int)
 ·rw [decide_eq_false (by omega:¬ (ZX k (CV d PX).1).2<((CV d PX).1.size:Int)),show ((ZX k (CV d PX).1).2 == ((CV d PX).1.size:Int))=true by rw [beq_iff_eq];exact he]
  cases decide (Jb d nNew≥0) <;> rfl
 ·rw [decide_eq_true (by omega:(ZX k (CV d PX).1).2<((CV d PX).1.size:Int)),show ((ZX k (CV d PX).1).2 == ((CV d PX).1.size:Int))=false by rw [beq_eq_false_iff_ne];exact he,cond_true,cond_true]
  have hg:(decide (0≤(ZX k (CV d PX).1).2) && decide ((ZX k (CV d PX).1).2≤((CV d PX).1.size:Int)))=true:=by rw [Bool.and_eq_true,decide_eq_true_eq,decide_eq_true_eq];exact ⟨r1,r2⟩
  simp only [hg,cond_true]
  cases decide (Jb d nNew≥0) <;> rfl
theorem GAn (b:SBook) (r:SRec):(LY b r).1.fThings.length≤8:=by
 cases h:(LY b r).2
 ·have:(LY b r).1=Dn:=by
   rw [LY] at h ⊢
   cases hc:(!(EZ b) || (!(TT r).2 || decide (b.fCount≥10000)))
   ·rw [hc] at h
    simp only [cond_false] at h ⊢
    cases h1:r.fKind == 1
    ·rw [h1] at h
     simp only [cond_false] at h ⊢
     cases h2:r.fKind == 2
     ·rw [h2] at h
      simp only [cond_false] at h ⊢
      cases h3:r.fKind == 3
      ·rw [h3] at h
       simp only [cond_false] at h ⊢
       cases ht:WY b.fThings r.fNum with
       | none=>rfl
       | some x=>rw [ht] at h;cases h
      ·rw [h3] at h
       simp only [cond_true] at h ⊢
       cases ht:Xj b r.fThing with
       | none=>rfl
       | some x=>rw [ht] at h;cases h
     ·rw [h2] at h;cases h
    ·rw [h1] at h;cases h
   ·rfl
  rw [this];exact Nat.zero_le _
 ·exact FAB h
theorem CAM {b:SBook} {l:List SRec} (h:b.fThings.length≤2932031007317):(IY b l).1.fThings.length≤2932031007317:=by
 induction l generalizing b with
 | nil=>exact h
 | cons r rs ih=>
  rw [IY]
  cases h3:(LY b r).2
  ·exact Nat.zero_le _
  ·have:=FAB h3
   exact ih (by omega)
theorem HAn (k:ByteArray) (d:SDisk):(Dc k d).1.fThings.length≤2932031007317∧(Dc k d).2.1.length≤4:=by
 rw [Dc]
 cases (!(Pg d) || !(IY AZ (ZX k (CV d PX).1).1).2)
 ·refine ⟨CAM (Nat.zero_le _),?_⟩
  rw [cond_false]
  show List.length (_++_)≤4
  rw [List.length_append]
  cases decide (Jb d nNew≥0) <;> cases (ZX k (CV d PX).1).2 == ((CV d PX).1.size:Int) <;> simp
 ·exact ⟨Nat.zero_le _,Nat.zero_le _⟩
noncomputable def GAB (l:SLife):Bool:=(IY AZ l.fDone).2 && (bif l.fBox.fUp then Qg (IY AZ l.fDone).1 l.fBox.fBook else (Dc l.fBox.fKey l.fBox.fDisk).2.2 && Qg (IY AZ l.fDone).1 (Dc l.fBox.fKey l.fBox.fDisk).1)
theorem OAf {l:SLife} (hk:l.fBox.fKey.size≤900000000) (hd:l.fBox.fDisk.fFiles.length≤140737488351232) (hf:∀ f ∈ l.fBox.fDisk.fFiles,f.fText.size≤140737488351232) (hl:l.fDone.length≤140737488351232):Wp l=some (GAB l):=by
 have hn:=CAM (b:=AZ) (l:=l.fDone) (Nat.zero_le _)
 rw [Wp,WAI,AAU,Option.bind_some,BAU (Nat.zero_le _) hl,Option.bind_some,GAB]
 simp only [PAf (show (IY AZ l.fDone).1.fThings.length≤140737488351232 by omega),KAf hk hd hf,Option.bind_some]
 cases (IY AZ l.fDone).2
 ·rfl
 cases l.fBox.fUp
 ·cases (Dc l.fBox.fKey l.fBox.fDisk).2.2 <;> rfl
 ·rfl
theorem DAU:Fj=some AZ:=by
 rw [Fj,SAJ,Oz (by decide),Option.bind_some,show (32:Int)=((32:Nat):Int) from rfl,DAM (by omega),Option.bind_some];rfl
theorem EAU {b:SBook} (h:b.fThings.length≤2932031007317):Ye b=some b:=by
 rw [Ye,TAJ,TB (by simp;omega)]
def IAB (b:SBook):Bool:=(b.fWord.size:Int) == 32 && ((b.fChain.size:Int) == 32 && (FN b.fTries 0 3 && (decide ((b.fThings.length:Int)≤8) && (FN b.fLast 0 1000 && FN b.fCount 0 10000))))
theorem QAf {b:SBook} (hb:b.fThings.length≤140737488351232):∀ m i,i≤b.fThings.length→b.fThings.length - i<m→Vm m (.c0 b.fThings b.fThings.length i b)=some (rise b.fLast (Ja b.fThings i) (b.fThings.drop i) && IAB b):=fun m i h1 h2=>
 loopN (A:=Unit) (n:=b.fThings.length) (Lp:=Vm) (st:=fun i _=>.c0 b.fThings b.fThings.length i b) (Inv:=fun _ _=>True) (out:=fun i _=>some (rise b.fLast (Ja b.fThings i) (b.fThings.drop i) && IAB b))
  (fun m _ _=>by
   simp only [Vm,CAA,Ic,Option.bind_some,IAB]
   rw [show decide ((b.fThings.length:Int)<(b.fThings.length:Int))=false from decide_eq_false (by omega),List.drop_of_length_le (Nat.le_refl _)]
   cases (b.fWord.size:Int) == 32 <;> cases (b.fChain.size:Int) == 32 <;> cases FN b.fTries 0 3 <;> cases decide ((b.fThings.length:Int)≤8) <;> cases FN b.fLast 0 1000 <;> rfl)
  (fun m i _ hi _=>by
   have hw:w64 ((i:Int)+1)=((i+1:Nat):Int):=by rw [w64_id (by omega) (by omega)];rfl
   simp only [FAU hi]
   simp only [Vm,CAA,Int.toNat_natCast,getD_at hi,GAU,Option.bind_some,hw]
   rw [show decide ((i:Int)<(b.fThings.length:Int))=true from decide_eq_true (by omega),show decide ((0:Int)≤(i:Int))=true from decide_eq_true (by omega)]
   simp only [Bool.and_self,cond_true]
   cases h1:FY b.fThings[i]
   ·exact .inl rfl
   ·cases h2:decide (b.fThings[i].fId > b.fLast)
    ·by_cases h0:i=0
     ·subst h0
      refine .inr ⟨(),rfl,trivial,?_⟩
      rw [show decide (Ja b.fThings 0≥b.fThings[0].fId)=false from decide_eq_false (by have:=(Ud h1).2.2.1;simp only [Ja];omega)]
      rfl
     ·obtain ⟨j,rfl⟩:∃ j,i=j+1:=⟨i - 1,by omega⟩
      have hj:w64 (((j+1:Nat):Int) - 1)=(j:Int):=by rw [w64_id (by omega) (by omega)];omega
      have hjl:j<b.fThings.length:=by omega
      rw [EAM hjl]
      simp only [hj,Int.toNat_natCast,getD_at hjl,Bool.not_true,Bool.not_false,cond_false,Bool.true_and]
      rw [show decide (((j+1:Nat):Int) > 0)=true from decide_eq_true (by omega),show decide ((0:Int)≤(j:Int))=true from decide_eq_true (by omega),show decide ((j:Int)<(b.fThings.length:Int))=true from decide_eq_true (by omega)]
      simp only [Bool.and_self,cond_true]
      cases h3:decide (b.fThings[j].fId≥b.fThings[j+1].fId)
      ·exact .inr ⟨(),rfl,trivial,rfl⟩
      ·exact .inl rfl
    ·exact .inl rfl) m i () h1 h2 trivial
theorem RAf {b:SBook} (hb:b.fThings.length≤140737488351232):Qx b=some (EZ b):=by
 have h0:=QAf hb gas 0 (Nat.zero_le _) (gas_lt (by omega))
 simp only [Qx,HAK]
 refine h0.trans (congrArg some ?_)
 simp only [EZ,IAB,List.drop_zero,Ja]
 cases rise b.fLast 0 b.fThings <;> simp
theorem SAf (x y:SThing):Ux x y=some (grown x y):=by
 rw [Ux,JAK,grown,Yj,show decide (y.fNext≥x.fNext)=decide (x.fNext≤y.fNext) from rfl]
 cases (y.fKind == x.fKind) <;> cases (bs y.fValue == bs x.fValue) <;> cases y.fSigns <;> cases x.fSigns <;> cases y.fWraps <;> cases x.fWraps <;> cases decide (x.fNext≤y.fNext) <;> cases y.fHidden <;> cases x.fHidden <;> cases y.fFixed <;> cases x.fFixed <;> rfl
theorem TAf {b:SBook} {x:SThing} (hb:EZ b=true) (hx:x.fId≤1000):Vx b x=some (match Xj b x with
 | some p=>(true,⟨b.fWord,b.fTries,p.1,p.2,b.fChain,b.fCount⟩)
 | none=>(false,b)):=by
 obtain ⟨b1,b2,b3,b4,b5,b6,b7⟩:=Jc.1 hb
 rw [Vx,LAK,HAU (by omega),Option.bind_some,Xj]
 rcases FAM (xs:=b.fThings) (id:=x.fId) with ⟨o,j,t1,t2,t3,t4,t5⟩ | ⟨t1,t2⟩
 ·have hg:∀ z,b.fThings.getD j z=o:=fun z=>by rw [List.getD,t4];rfl
  have hs:=(GAM b7 t2).1
  rw [Nat.sub_zero] at hs
  rw [t1,t2]
  simp only [Int.toNat_natCast,hg,SAf,Option.bind_some,hs]
  rw [TB (by simp),TB (by simp;omega)]
  cases grown o x
  ·rfl
  ·rw [NM (by rfl),TB (by simp;omega)];rfl
 ·rw [t1,t2]
  simp only
  have hw:w64 (b.fLast+1)=b.fLast+1:=w64_id (by omega) (by omega)
  rw [NM (by rfl),hw]
  cases h1:(x.fId != b.fLast+1)
  ·by_cases h2:(b.fThings.length:Int)≥8
   ·rw [decide_eq_true h2];rfl
   ·rw [decide_eq_false h2,cond_false,cond_false,TB (by simp;omega)];rfl
  ·rfl
theorem UAf {b:SBook} {r:SRec} (hb:b.fThings.length≤140737488351232) (hr:r.fNum≤9223372036854775807):Jj b r=some (LY b r):=by
 rw [Jj,MAK,Ug hr,Option.bind_some,RAf hb,Option.bind_some,LY]
 cases h1:EZ b
 ·rfl
 cases h2:(TT r).2
 ·rfl
 by_cases h3:b.fCount≥10000
 ·rw [decide_eq_true h3];rfl
 obtain ⟨b1,b2,b3,b4,b5,b6,b7⟩:=Jc.1 h1
 have hz:=IAU r
 have hw:w64 (b.fCount+1)=b.fCount+1:=w64_id (by omega) (by omega)
 have hdig:=Oz (s:=b.fChain++(TT r).1) (by rw [ByteArray.size_append];omega)
 have hsz:decide (b.fChain.size+(TT r).1.size≤9223372036854775807)=true:=by rw [decide_eq_true_eq];omega
 simp only [decide_eq_false h3,Bool.not_true,Bool.or_self,cond_false,EAU (show b.fThings.length≤2932031007317 by omega),hdig,hsz,hw,Option.bind_some,cond_true]
 rcases DAB h2 with ⟨hk,hc⟩ | ⟨hk,hc⟩ | ⟨hk,hc⟩ | ⟨hk,hc⟩
 ·rw [hk];rfl
 ·rw [hk];rfl
 ·rw [hk]
  simp only [show ((3:Int) == 1)=false from rfl,show ((3:Int) == 2)=false from rfl,show ((3:Int) == 3)=true from rfl,cond_true,cond_false]
  rw [TAf h1 (Ud hc).2.2.2.1,Option.bind_some]
  cases Xj b r.fThing with
  | none=>rfl
  | some p=>simp only [Bool.not_true,cond_false,hw]
 ·rw [hk]
  simp only [show ((4:Int) == 1)=false from rfl,show ((4:Int) == 2)=false from rfl,show ((4:Int) == 3)=false from rfl,show ((4:Int) == 4)=true from rfl,cond_true,cond_false]
  rw [HAU hb,Option.bind_some]
  rcases FAM (xs:=b.fThings) (id:=r.fNum) with ⟨o,j,t1,t2,t3,t4,t5⟩ | ⟨t1,t2⟩
  ·have hs:=(GAM (x:=⟨r.fNum,0,false,false,false,false,⟨#[]⟩,0⟩) b7 t2).2
   rw [Nat.sub_zero] at hs
   simp only at hs
   rw [t1,t2]
   simp only [Int.toNat_natCast]
   have e:w64 ((j:Int)+1)=((j+1:Nat):Int):=by rw [w64_id (by omega) (by omega)];rfl
   simp only [e,Int.toNat_natCast,List.drop_zero,List.take_length,hs]
   rw [NM (by simp),TB (by simp;omega),TB (by rw [List.length_take,decide_eq_true_eq];omega),TB (by simp;omega),TB (by rw [List.length_take,List.length_drop,decide_eq_true_eq];omega)]
  ·rw [t1,t2];rfl
theorem JAU {b:SBook} {l:List SRec} (hb:b.fThings.length≤2932031007317) (hl:l.length≤140737488351232) (hr:∀ r ∈ l,r.fNum≤9223372036854775807):Lj b l=some (IY b l):=by
 have key:∀ (j i m:Nat) (b:SBook),i+j=l.length→b.fThings.length≤2932031007317→Xx (m+j+1) (.c0 l (l.length:Int) (i:Int) ⟨#[]⟩ 0 0 ⟨#[]⟩ 0 b.fWord b.fTries b.fLast b.fChain b.fCount [] b.fThings)=some (IY b (l.drop i)):=by
  intro j
  induction j with
  | zero=>
   intro i m b h hb
   obtain rfl:i=l.length:=by omega
   rw [Xx]
   simp only [HAA]
   rw [NM (by simp),List.drop_length];rfl
  | succ j ih=>
   intro i m b h hb
   have hi:i<l.length:=by omega
   have e:w64 ((i:Int)+1)=((i+1:Nat):Int):=by rw [w64_id (by omega) (by omega)];rfl
   rw [show m+(j+1)+1=(m+j+1)+1 by omega,Xx]
   simp only [HAA,e,Int.toNat_natCast,getD_at hi]
   rw [TB (by simp;omega),TB (by simp;omega),UAf (by show b.fThings.length≤_;omega) (hr _ (List.getElem_mem hi)),Option.bind_some,drop_at hi,IY]
   cases h2:(LY b l[i]).2
   ·rfl
   ·have h3:=FAB h2
    rw [NM (by rfl),cond_true]
    exact ih (i+1) m (LY b l[i]).1 (by omega) (by omega)
 obtain ⟨m,hm⟩:∃ m,gas=m+l.length+1:=⟨gas - (l.length+1),by have:=gas_lt (n:=l.length+1) (by omega);omega⟩
 rw [Lj,NAK,EAU hb,Option.bind_some,hm]
 exact key l.length 0 m b (by omega) hb
theorem VAf {a b:List SThing} (h0:a.length≤140737488351232):Dy a b=some (MZ a b):=by
 rw [Dy,PAK]
 by_cases hl:a.length=b.length
 ·have key:∀ (j i m:Nat),i+j=a.length→Zx (m+j+1) (.c0 a b (a.length:Int) (i:Int))=some (MZ (a.drop i) (b.drop i)):=by
   intro j
   induction j with
   | zero=>
    intro i m h
    obtain rfl:i=a.length:=by omega
    rw [Zx]
    simp only [IAA]
    rw [NM (by simp),List.drop_length,hl,List.drop_length];rfl
   | succ j ih=>
    intro i m h
    have hi:i<a.length:=by omega
    have hi2:i<b.length:=by omega
    have e:w64 ((i:Int)+1)=((i+1:Nat):Int):=by rw [w64_id (by omega) (by omega)];rfl
    rw [show m+(j+1)+1=(m+j+1)+1 by omega,Zx]
    simp only [IAA,e,Int.toNat_natCast,getD_at hi,getD_at hi2,KAU,ih (i+1) m (by omega)]
    rw [TB (by simp;omega),TB (by simp;omega),TB (by simp;omega),drop_at hi,drop_at hi2,MZ]
    cases En a[i] b[i] <;> rfl
  obtain ⟨m,hm⟩:∃ m,gas=m+a.length+1:=⟨gas - (a.length+1),by have:=gas_lt (n:=a.length+1) (by omega);omega⟩
  rw [NM (by simp;omega),hm]
  exact key a.length 0 m (by omega)
 ·rw [TB (by simp;omega),LAU hl]
theorem WAf {a b:SBook} (h0:a.fThings.length≤140737488351232):Ey a b=some (Qg a b):=by
 rw [Ey,RAK,VAf h0,Qg]
 cases a.fWord.toList == b.fWord.toList <;> cases a.fTries == b.fTries <;> cases MZ a.fThings b.fThings <;> cases a.fLast == b.fLast <;> cases a.fChain.toList == b.fChain.toList <;> rfl
theorem MAU {d:SDisk} {n:ByteArray} (h0:d.fFiles.length≤140737488351232):Nj d n=some (Jb d n):=by
 have key:∀ (j i m:Nat),i+j=d.fFiles.length→Hy (m+j+1) (.c0 n d.fFiles (d.fFiles.length:Int) (i:Int))=some (match Ib (d.fFiles.drop i) n i with | some j=>(j:Int) | none=> -1):=by
  intro j
  induction j with
  | zero=>
   intro i m h
   obtain rfl:i=d.fFiles.length:=by omega
   rw [Hy]
   simp only [KAA]
   rw [NM (by simp),List.drop_length];rfl
  | succ j ih=>
   intro i m h
   have hi:i<d.fFiles.length:=by omega
   have e:w64 ((i:Int)+1)=((i+1:Nat):Int):=by rw [w64_id (by omega) (by omega)];rfl
   rw [show m+(j+1)+1=(m+j+1)+1 by omega,Hy]
   simp only [KAA,e,Int.toNat_natCast,getD_at hi,ih (i+1) m (by omega)]
   rw [TB (by simp;omega),TB (by simp;omega),drop_at hi,Ib]
   cases d.fFiles[i].fName.toList == n.toList <;> rfl
 obtain ⟨m,hm⟩:∃ m,gas=m+d.fFiles.length+1:=⟨gas - (d.fFiles.length+1),by have:=gas_lt (n:=d.fFiles.length+1) (by omega);omega⟩
 rw [Nj,SAK,hm,Jb]
 exact key d.fFiles.length 0 m (by omega)
theorem XAf {d:SDisk} {n:ByteArray} (h0:d.fFiles.length≤140737488351232):Iy d n=some (CV d n):=by
 rw [Iy,UAK,MAU h0,Option.bind_some,Jb,CV]
 cases h:Ib d.fFiles n 0 with
 | none=>rfl
 | some j=>
  have:=AAM h
  simp only [Int.toNat_natCast]
  rw [NM (by simp),TB (by simp;omega)];rfl
theorem YAf {s:Int} (h:R32 s):an s 1=s % 2:=by
 obtain ⟨h1,h2⟩:=h
 obtain ⟨n,rfl⟩:∃ n:Nat,s=(n:Int):=⟨s.toNat,by omega⟩
 unfold an
 show w32 (((BitVec.ofInt 32 (n:Int) &&& BitVec.ofInt 32 1).toNat:Nat):Int)=_
 rw [BitVec.ofInt_natCast,show BitVec.ofInt 32 1=BitVec.ofNat 32 1 from rfl,BitVec.toNat_and,BitVec.toNat_ofNat,BitVec.toNat_ofNat,Nat.mod_eq_of_lt (by omega:n<2 ^ 32),show 1 % 2 ^ 32=1 from rfl,Nat.and_one_is_mod,YZ (by omega) (by omega)]
 omega
theorem ZAf (t:ByteArray) (i:Nat) (hi:i<t.size) (ht:t.size≤140737488351232):∀ (j k m:Nat) (s:Int),k+j=8→R32 s→Bf (m+j+1) (.c1 s t (i:Int) (k:Int))=Bf m (.c0 (Zj j s) t ((i+1:Nat):Int)):=by
 intro j
 induction j with
 | zero=>
  intro k m s hk hs
  have e:w64 ((i:Int)+1)=((i+1:Nat):Int):=by rw [w64_id (by omega) (by omega)];rfl
  rw [Bf]
  simp only [Zm,e]
  rw [NM (by simp;omega)]
  rfl
 | succ j ih=>
  intro k m s hk hs
  have e:w64 ((k:Int)+1)=((k+1:Nat):Int):=by rw [w64_id (by omega) (by omega)];rfl
  have h2:Int.fdiv s (2 ^ (Min.min (1:Int).toNat (IntKind.bits IntKind.u32)))=s / 2:=Int.fdiv_eq_ediv_of_nonneg _ (by decide)
  rw [show m+(j+1)+1=(m+j+1)+1 by omega,Bf]
  simp only [Zm,e,h2,HAM,YAf hs,Lc]
  rw [TB (by simp;omega),Zj]
  by_cases h:s % 2=1
  ·rw [TB (by simp [h]),ih (k+1) m _ (by omega) (Gn _ _),Ak,if_pos h]
  ·rw [NM (by simp [h]),ih (k+1) m _ (by omega) (by unfold R32 at *;omega),Ak,if_neg h]
theorem AAg {t:ByteArray} {s:Int} (ht:t.size≤140737488351232):Py s t=some (Pn s (bs t)):=by
 have hl:=bs_len t
 have key:∀ (j i m:Nat) (s:Int),i+j=t.size→Bf (m+10*j+1) (.c0 s t (i:Int))=some (Pn s ((bs t).drop i)):=by
  intro j
  induction j with
  | zero=>
   intro i m s h
   rw [Bf]
   simp only [Zm]
   rw [NM (by simp;omega),List.drop_of_length_le (by omega)];rfl
  | succ j ih=>
   intro i m s h
   have hb:=FZ (Nb t) i
   rw [show m+10*(j+1)+1=(m+10*j+1)+8+1+1 by omega,Bf]
   simp only [Zm,Lc]
   rw [TB (by simp;omega),TB (by simp;omega),Mc (by omega),YZ (by omega) (by omega)]
   have h1:=ZAf t i (by omega) ht 8 0 (m+10*j+1) (xr s ((bs t).getD i 0)) (by omega) (Gn _ _)
   rw [show ((0:Nat):Int)=0 from rfl] at h1
   rw [h1,ih (i+1) m _ (by omega),drop_at (by omega:i<(bs t).length),getD_at (by omega)]
   rfl
 obtain ⟨m,hm⟩:∃ m,gas=m+10*t.size+1:=⟨gas - (10*t.size+1),by have:=gas_lt (n:=10*t.size+1) (by omega);omega⟩
 rw [Py,WAK,hm]
 have:=key t.size 0 m s (by omega)
 rw [List.drop_zero] at this
 exact this
theorem NAU {t:ByteArray} (ht:t.size≤140737488351232):Df t=some (XZ (bs t)):=by
 rw [Df,XAK,AAg ht];rfl
theorem BAg {f:ByteArray} (hf:f.size≤140737488351232):Pj f=some (Za f):=by
 rw [Pj,ZAK,Za]
 by_cases h0:20000<f.size
 ·rw [TB (by simp;omega),TB (by simp;omega)]
 ·rw [NM (by simp;omega),NM (by simp;omega)]
  have key:∀ (j a m:Nat) (out:List ByteArray),a≤f.size→f.size<a+j→out.length≤a→OAA (m+j+1) (.c0 f (a:Int) out)=some (out++(KY j f a).1,((KY j f a).2:Int)):=by
   intro j
   induction j with
   | zero=>intro a m out ha hj;omega
   | succ j ih=>
    intro a m out ha hj ho
    rw [show m+(j+1)+1=(m+j+1)+1 by omega,OAA]
    simp only [AAL,KY]
    rw [CAg hf ha,Option.bind_some]
    rcases IAM hf ha with h | ⟨v,h,hv0,hv1,hA⟩
    ·rw [show Ya f a=none by rw [Ya,h];rfl,h]
     rw [List.append_nil];rfl
    ·have hp:=Nc v
     have hsz:=hA.size.resolve_left (by intro h;rw [h] at hp;simp at hp)
     obtain ⟨R,hR⟩:∃ R,R=Ya f a:=⟨_,rfl⟩
     have hn0:=hR
     rw [Ya,h] at hn0
     rw [h]
     generalize hq:a+(IK v).length=q at hsz hn0
     simp only [Bool.not_true,cond_false,Ic,Option.bind_some]
     cases hr:FN v 1 9000
     ·rw [hr] at hn0
      have hn1:R=none:=hn0
      rw [←hR,hn1,List.append_nil];rfl
     ·rw [hr] at hn0
      simp only [Bool.not_true,cond_false,Bool.true_and] at hn0 ⊢
      rw [w64_id (n:=(f.size:Int) - (q:Int)) (by omega) (by omega),w64_id (n:=(f.size:Int) - (q:Int) - 4) (by omega) (by omega),w64_id (n:=(q:Int)+4) (by omega) (by omega),w64_id (n:=(q:Int)+4+v) (by omega) (by omega)]
      by_cases h3:v > (f.size:Int) - (q:Int) - 4
      ·rw [TB (by simp;omega)]
       rw [decide_eq_false (by omega:¬ v≤(f.size:Int) - (q:Int) - 4)] at hn0
       have hn1:R=none:=hn0
       rw [←hR,hn1,List.append_nil]
      ·have e2:((q:Int)+4).toNat=q+4:=by omega
       have e3:((q:Int)+4+v).toNat=q+4+v.toNat:=by omega
       have hxs:(f.extract (q+4) (q+4+v.toNat)).size=v.toNat:=by rw [ByteArray.size_extract];omega
       rw [decide_eq_true (by omega:v≤(f.size:Int) - (q:Int) - 4),e2,e3,Int.toNat_natCast,Bool.true_and] at hn0
       rw [NM (by simp;omega),TB (by simp;omega),TB (by simp;omega),e2,e3,Int.toNat_natCast,NAU (by omega),Option.bind_some,JAB (Qn _),Option.bind_some,Yj,SN (Dk (Qn _))]
       cases hc:(bs (f.extract q (q+4)) == four (XZ (bs (f.extract (q+4) (q+4+v.toNat)))))
       ·rw [hc] at hn0
        have hn1:R=none:=hn0
        rw [←hR,hn1,List.append_nil];rfl
       ·rw [hc] at hn0
        have hn1:R=some (f.extract (q+4) (q+4+v.toNat),q+4+v.toNat):=hn0
        rw [←hR,hn1,NM (by rfl),TB (by simp;omega),show (q:Int)+4+v=((q+4+v.toNat:Nat):Int) by omega,ih (q+4+v.toNat) m _ (by omega) (by omega) (by simp;omega)]
        simp
  obtain ⟨m,hm⟩:∃ m,gas=m+(f.size+1)+1:=⟨gas - (f.size+2),by have:=gas_lt (n:=f.size+2) (by omega);omega⟩
  rw [hm,show (0:Int)=((0:Nat):Int) from rfl,key (f.size+1) 0 m [] (by omega) (by omega) (Nat.le_refl _)]
  rfl
theorem DAg {t:ByteArray} (h:t.size≤140737488351232):Wj t=some (frameT t):=by
 rw [Wj,RAL,Ic,Option.bind_some,frameT]
 cases h1:FN (t.size:Int) 1 9000
 ·rfl
 ·rw [SX] at h1
  have:=GZ (n:=(t.size:Int)) (by omega)
  rw [NM (by rfl),Ik (by omega),Option.bind_some,NAU h,Option.bind_some,JAB (Qn _),Option.bind_some,TB (by rw [ofBytes_size,ofBytes_size,decide_eq_true_eq];have:(four (XZ (bs t))).length=4:=rfl;omega)]
  rw [TB (by rw [ByteArray.size_append,ofBytes_size,ofBytes_size,decide_eq_true_eq];have:(four (XZ (bs t))).length=4:=rfl;omega),OAU,cond_true]
theorem EAg {k file:ByteArray} (hk:k.size≤900000000) (hf:file.size≤140737488351232):Hz k file=some (ZX k file):=by
 obtain ⟨u1,u2,_,_⟩:=EAB (file:=file)
 rw [Hz,TAL,BAg hf,Option.bind_some,ZX]
 generalize (Za file).1=l at u1 u2
 have key:∀ (j i m:Nat) (e:Int) (out:List SRec),i+j=l.length→0≤e→e≤30000*i→out.length≤i→Gz (m+j+1) (.c0 k e (l.length:Int) (i:Int) out l)=some (out++(VY k ((i:Int)+1) (l.drop i)).1,e+(VY k ((i:Int)+1) (l.drop i)).2):=by
  intro j
  induction j with
  | zero=>
   intro i m e out h he he2 ho
   obtain rfl:i=l.length:=by omega
   rw [Gz]
   simp only [AAB]
   rw [NM (by simp),List.drop_length,VY,List.append_nil,Int.add_zero]
  | succ j ih=>
   intro i m e out h he he2 ho
   have hi:i<l.length:=by omega
   have hz:=u1 _ (List.getElem_mem hi)
   have ew:w64 ((i:Int)+1)=((i+1:Nat):Int):=by rw [w64_id (by omega) (by omega)];rfl
   have hoz:=BAM k l[i] ((i+1:Nat):Int)
   have hfz:=PAU (t:=l[i]) (by omega)
   rw [show m+(j+1)+1=(m+j+1)+1 by omega,Gz]
   simp only [AAB,ew,Int.toNat_natCast,getD_at hi]
   rw [TB (by simp;omega),TB (by simp;omega),FAg hk (by omega),Option.bind_some,GAg (by omega),Option.bind_some,drop_at hi,VY,show ((i:Int)+1)=((i+1:Nat):Int) from rfl]
   cases (QX k ((i+1:Nat):Int) l[i]).2
   ·rw [Bool.false_and,cond_false,List.append_nil,Int.add_zero];rfl
   ·rw [NM (by rfl),Bool.true_and]
    cases (PY (QX k ((i+1:Nat):Int) l[i]).1).2
    ·rw [cond_false,List.append_nil,Int.add_zero];rfl
    ·have h2:=ih (i+1) m (e+((frameT l[i]).1.size:Int)) (out++[(PY (QX k ((i+1:Nat):Int) l[i]).1).1]) (by omega) (by omega) (by omega) (by simp;omega)
     simp only [Bool.not_true,cond_false,cond_true]
     rw [TB (by simp;omega),DAg (by omega),Option.bind_some,w64_id (by omega) (by omega),h2,List.append_assoc,Int.add_assoc]
     rfl
 obtain ⟨m,hm⟩:∃ m,gas=m+l.length+1:=⟨gas - (l.length+1),by have:=gas_lt (n:=l.length+1) (by omega);omega⟩
 have h0:=key l.length 0 m 0 [] (by omega) (by omega) (by omega) (Nat.le_refl _)
 rw [List.nil_append,Int.zero_add,List.drop_zero] at h0
 rw [hm]
 exact h0
theorem HAg {d:SDisk} (h0:d.fFiles.length≤140737488351232):Kz d=some (Pg d):=by
 rw [Kz,VAL,Pg]
 have key:∀ (j i m:Nat),i+j=d.fFiles.length→Jz (m+j+1) (.c0 d.fFiles (d.fFiles.length:Int) (i:Int) d)=some (decide ((d.fFiles.length:Int)≤30) && Vg (Gf d.fFiles i) (d.fFiles.drop i)):=by
  intro j
  induction j with
  | zero=>
   intro i m h
   obtain rfl:i=d.fFiles.length:=by omega
   rw [Jz]
   simp only [BAB]
   rw [NM (by simp),List.drop_length,Vg,Bool.and_true]
  | succ j ih=>
   intro i m h
   have hi:i<d.fFiles.length:=by omega
   have e:w64 ((i:Int)+1)=((i+1:Nat):Int):=by rw [w64_id (by omega) (by omega)];rfl
   have h2:=ih (i+1) m (by omega)
   have fls:∀ b:Bool,(b && false)=false:=fun b=>by cases b <;> rfl
   rw [show m+(j+1)+1=(m+j+1)+1 by omega,Jz]
   simp only [BAB,e,Int.toNat_natCast,getD_at hi,Ic,Option.bind_some]
   rw [TB (by simp;omega),TB (by simp;omega),QAU hi,fOk,h2]
   cases hn:FN (d.fFiles[i].fName.size:Int) 1 8
   ·rw [Bool.false_and,Bool.false_and,fls];rfl
   cases decide ((d.fFiles[i].fText.size:Int) > 20000)
   ·cases FN d.fFiles[i].fKept 0 (d.fFiles[i].fText.size:Int)
    ·simp only [Bool.and_false,Bool.false_and];rfl
    ·by_cases hz:i=0
     ·subst hz
      rw [SX] at hn
      rw [show Gf d.fFiles 0=⟨#[]⟩ from rfl,RAU (by omega)];rfl
     ·obtain ⟨i',rfl⟩:∃ q,i=q+1:=⟨i - 1,by omega⟩
      have e2:w64 (((i'+1:Nat):Int) - 1)=(i':Int):=by rw [w64_id (by omega) (by omega)];omega
      rw [e2,Int.toNat_natCast,getD_at (show i'<d.fFiles.length by omega),JAM (i:=i') (by omega),NM (by rfl),NM (by rfl),NM (by rfl),TB (by simp;try omega),TB (by simp;try omega)]
      cases Op.bytesLess d.fFiles[i'].fName.toList d.fFiles[i'+1].fName.toList
      ·simp only [Bool.and_false,Bool.false_and];rfl
      ·rfl
   ·simp only [Bool.and_false,Bool.false_and,Bool.not_true];rfl
 obtain ⟨m,hm⟩:∃ m,gas=m+d.fFiles.length+1:=⟨gas - (d.fFiles.length+1),by have:=gas_lt (n:=d.fFiles.length+1) (by omega);omega⟩
 rw [hm]
 exact key d.fFiles.length 0 m (by omega)
theorem IAg {k:ByteArray} {d:SDisk} (hk:k.size≤900000000) (hd:d.fFiles.length≤140737488351232) (hf:∀ f ∈ d.fFiles,f.fText.size≤140737488351232):Nz k d=some (Dc k d):=by
 have hfs:(CV d PX).1.size≤140737488351232:=XAT hf
 obtain ⟨r1,r2⟩:=WAT k (CV d PX).1
 have hl:=ZAT k (CV d PX).1
 rw [Nz,XAL,show (⟨#[98,111,111,107]⟩:ByteArray)=PX from rfl,show (⟨#[98,111,111,107,43]⟩:ByteArray)=nNew from rfl,XAf hd,Option.bind_some,EAg hk hfs,Option.bind_some,DAU,Option.bind_some,JAU (Nat.zero_le _) (by omega) (IAf _ _),Option.bind_some,HAg hd,Option.bind_some,MAU hd,Dc]
 cases Pg d
 ·rfl
 cases (IY AZ (ZX k (CV d PX).1).1).2
 ·rfl
 simp only [Option.bind_some,Bool.not_true,Bool.or_self,cond_false]
 by_cases he:(ZX k (CV d PX).1).2=((CV d PX).1.size:Int)
 ·rw [show ((ZX k (CV d PX).1).2 == ((CV d PX).1.size:Int))=true by rw [beq_iff_eq];exact he]
  cases decide (Jb d nNew≥0) <;> rfl
 ·rw [show ((ZX k (CV d PX).1).2 == ((CV d PX).1.size:Int))=false by rw [beq_eq_false_iff_ne];exact he,cond_false,cond_false]
  have hg:(decide (0≤(ZX k (CV d PX).1).2) && decide ((ZX k (CV d PX).1).2≤((CV d PX).1.size:Int)))=true:=by rw [Bool.and_eq_true,decide_eq_true_eq,decide_eq_true_eq];exact ⟨r1,r2⟩
  simp only [hg,cond_true]
  cases decide (Jb d nNew≥0) <;> rfl
theorem JAg {l:SLife} (hk:l.fBox.fKey.size≤900000000) (hd:l.fBox.fDisk.fFiles.length≤140737488351232) (hf:∀ f ∈ l.fBox.fDisk.fFiles,f.fText.size≤140737488351232) (hl:l.fDone.length≤140737488351232) (hr:∀ r ∈ l.fDone,r.fNum≤9223372036854775807):Xp l=some (GAB l):=by
 have hn:=CAM (b:=AZ) (l:=l.fDone) (Nat.zero_le _)
 rw [Xp,YAL,DAU,Option.bind_some,JAU (Nat.zero_le _) hl hr,Option.bind_some,GAB]
 simp only [WAf (show (IY AZ l.fDone).1.fThings.length≤140737488351232 by omega),IAg hk hd hf,Option.bind_some]
 cases (IY AZ l.fDone).2
 ·rfl
 cases l.fBox.fUp
 ·cases (Dc l.fBox.fKey l.fBox.fDisk).2.2 <;> rfl
 ·rfl
theorem KAg (a:SFile)  : Ah a a=some true:=by
 simp [Ah,ZAL]
theorem LAg {a:(List SFile)} (h:a.length≤140737488351232):Jo a a=some true:=by
 have h0:a.length≤140737488351232:=h
 have key:∀ m i,i≤a.length→a.length - i<m→Gl m (.c0 a a i)=some true:=fun m i h1 h2=>
  loopN (A:=Unit) (n:=a.length) (Lp:=Gl) (st:=fun i _=>.c0 a a i) (Inv:=fun _ _=>True) (out:=fun _ _=>some true)
   (fun m _ _=>by simp [Gl,U1])
   (fun m i _ hi _=>.inr ⟨(),by
    have hw:w64 ((i:Int)+1)=((i+1:Nat):Int):=by rw [w64_id (by omega) (by omega)];rfl
    simp only [Gl,U1,Int.toNat_natCast,hw,KAg _,getD_at hi,Option.bind_some]
    simp [hi],trivial,rfl⟩) m i () h1 h2 trivial
 have h0:=key gas 0 (Nat.zero_le _) (gas_lt (by omega))
 unfold Jo JAC
 simp only [bne_self_eq_false,cond_false]
 exact h0
theorem MAg {a:SDisk} (h:a.fFiles.length≤140737488351232):Ko a a=some true:=by
 simp [Ko,LAC,LAg h]
theorem SAU (a:SThing)  : Fe a a=some true:=by
 simp [Fe,NAC]
theorem NAg {a:(List SThing)} (h:a.length≤140737488351232):Qo a a=some true:=by
 have h0:a.length≤140737488351232:=h
 have key:∀ m i,i≤a.length→a.length - i<m→Hl m (.c0 a a i)=some true:=fun m i h1 h2=>
  loopN (A:=Unit) (n:=a.length) (Lp:=Hl) (st:=fun i _=>.c0 a a i) (Inv:=fun _ _=>True) (out:=fun _ _=>some true)
   (fun m _ _=>by simp [Hl,Y1])
   (fun m i _ hi _=>.inr ⟨(),by
    have hw:w64 ((i:Int)+1)=((i+1:Nat):Int):=by rw [w64_id (by omega) (by omega)];rfl
    simp only [Hl,Y1,Int.toNat_natCast,hw,SAU _,getD_at hi,Option.bind_some]
    simp [hi],trivial,rfl⟩) m i () h1 h2 trivial
 have h0:=key gas 0 (Nat.zero_le _) (gas_lt (by omega))
 unfold Qo QAC
 simp only [bne_self_eq_false,cond_false]
 exact h0
theorem OAg {a:SBook} (h:a.fThings.length≤140737488351232):Ro a a=some true:=by
 simp [Ro,SAC,NAg h]
theorem PAg (a:SSession)  : Bh a a=some true:=by
 simp [Bh,UAC]
theorem QAg {a:(List SSession)} (h:a.length≤140737488351232):Vo a a=some true:=by
 have h0:a.length≤140737488351232:=h
 have key:∀ m i,i≤a.length→a.length - i<m→Il m (.c0 a a i)=some true:=fun m i h1 h2=>
  loopN (A:=Unit) (n:=a.length) (Lp:=Il) (st:=fun i _=>.c0 a a i) (Inv:=fun _ _=>True) (out:=fun _ _=>some true)
   (fun m _ _=>by simp [Il,Y2])
   (fun m i _ hi _=>.inr ⟨(),by
    have hw:w64 ((i:Int)+1)=((i+1:Nat):Int):=by rw [w64_id (by omega) (by omega)];rfl
    simp only [Il,Y2,Int.toNat_natCast,hw,PAg _,getD_at hi,Option.bind_some]
    simp [hi],trivial,rfl⟩) m i () h1 h2 trivial
 have h0:=key gas 0 (Nat.zero_le _) (gas_lt (by omega))
 unfold Vo WAC
 simp only [bne_self_eq_false,cond_false]
 exact h0
theorem RAg (a:SLive)  : Dh a a=some true:=by
 simp [Dh,XAC]
theorem SAg {a:(List SLive)} (h:a.length≤140737488351232):Yo a a=some true:=by
 have h0:a.length≤140737488351232:=h
 have key:∀ m i,i≤a.length→a.length - i<m→Jl m (.c0 a a i)=some true:=fun m i h1 h2=>
  loopN (A:=Unit) (n:=a.length) (Lp:=Jl) (st:=fun i _=>.c0 a a i) (Inv:=fun _ _=>True) (out:=fun _ _=>some true)
   (fun m _ _=>by simp [Jl,O3])
   (fun m i _ hi _=>.inr ⟨(),by
    have hw:w64 ((i:Int)+1)=((i+1:Nat):Int):=by rw [w64_id (by omega) (by omega)];rfl
    simp only [Jl,O3,Int.toNat_natCast,hw,RAg _,getD_at hi,Option.bind_some]
    simp [hi],trivial,rfl⟩) m i () h1 h2 trivial
 have h0:=key gas 0 (Nat.zero_le _) (gas_lt (by omega))
 unfold Yo ZAC
 simp only [bne_self_eq_false,cond_false]
 exact h0
theorem TAg {a:SBox} (h:(a.fDisk.fFiles.length≤140737488351232)∧(a.fBook.fThings.length≤140737488351232)∧(a.fSessions.length≤140737488351232)∧(a.fLives.length≤140737488351232)):Zo a a=some true:=by
 simp [Zo,CAD,MAg (h.1),OAg (h.2.1),QAg (h.2.2.1),SAg (h.2.2.2)]
theorem UAg {a:(List Int)} (h:a.length≤140737488351232):Dp a a=some true:=by
 have h0:a.length≤140737488351232:=h
 have key:∀ m i,i≤a.length→a.length - i<m→Ll m (.c0 a a i)=some true:=fun m i h1 h2=>
  loopN (A:=Unit) (n:=a.length) (Lp:=Ll) (st:=fun i _=>.c0 a a i) (Inv:=fun _ _=>True) (out:=fun _ _=>some true)
   (fun m _ _=>by simp [Ll,U3])
   (fun m i _ hi _=>.inr ⟨(),by
    have hw:w64 ((i:Int)+1)=((i+1:Nat):Int):=by rw [w64_id (by omega) (by omega)];rfl
    simp only [Ll,U3,Int.toNat_natCast,hw]
    simp [hi],trivial,rfl⟩) m i () h1 h2 trivial
 have h0:=key gas 0 (Nat.zero_le _) (gas_lt (by omega))
 unfold Dp EAD
 simp only [bne_self_eq_false,cond_false]
 exact h0
theorem VAg {a:(List ByteArray)} (h:a.length≤140737488351232):Fp a a=some true:=by
 have h0:a.length≤140737488351232:=h
 have key:∀ m i,i≤a.length→a.length - i<m→Nl m (.c0 a a i)=some true:=fun m i h1 h2=>
  loopN (A:=Unit) (n:=a.length) (Lp:=Nl) (st:=fun i _=>.c0 a a i) (Inv:=fun _ _=>True) (out:=fun _ _=>some true)
   (fun m _ _=>by simp [Nl,V3])
   (fun m i _ hi _=>.inr ⟨(),by
    have hw:w64 ((i:Int)+1)=((i+1:Nat):Int):=by rw [w64_id (by omega) (by omega)];rfl
    simp only [Nl,V3,Int.toNat_natCast,hw]
    simp [hi],trivial,rfl⟩) m i () h1 h2 trivial
 have h0:=key gas 0 (Nat.zero_le _) (gas_lt (by omega))
 unfold Fp GAD
 simp only [bne_self_eq_false,cond_false]
 exact h0
theorem WAg (a:SGiven)  : Eh a a=some true:=by
 simp [Eh,IAD]
theorem XAg {a:(List SGiven)} (h:a.length≤140737488351232):Ip a a=some true:=by
 have h0:a.length≤140737488351232:=h
 have key:∀ m i,i≤a.length→a.length - i<m→Ol m (.c0 a a i)=some true:=fun m i h1 h2=>
  loopN (A:=Unit) (n:=a.length) (Lp:=Ol) (st:=fun i _=>.c0 a a i) (Inv:=fun _ _=>True) (out:=fun _ _=>some true)
   (fun m _ _=>by simp [Ol,Y3])
   (fun m i _ hi _=>.inr ⟨(),by
    have hw:w64 ((i:Int)+1)=((i+1:Nat):Int):=by rw [w64_id (by omega) (by omega)];rfl
    simp only [Ol,Y3,Int.toNat_natCast,hw,WAg _,getD_at hi,Option.bind_some]
    simp [hi],trivial,rfl⟩) m i () h1 h2 trivial
 have h0:=key gas 0 (Nat.zero_le _) (gas_lt (by omega))
 unfold Ip KAD
 simp only [bne_self_eq_false,cond_false]
 exact h0
theorem YAg (a:SRec)  : Fh a a=some true:=by
 simp [Fh,LAD,SAU _]
theorem ZAg {a:(List SRec)} (h:a.length≤140737488351232):Np a a=some true:=by
 have h0:a.length≤140737488351232:=h
 have key:∀ m i,i≤a.length→a.length - i<m→Ql m (.c0 a a i)=some true:=fun m i h1 h2=>
  loopN (A:=Unit) (n:=a.length) (Lp:=Ql) (st:=fun i _=>.c0 a a i) (Inv:=fun _ _=>True) (out:=fun _ _=>some true)
   (fun m _ _=>by simp [Ql,J4])
   (fun m i _ hi _=>.inr ⟨(),by
    have hw:w64 ((i:Int)+1)=((i+1:Nat):Int):=by rw [w64_id (by omega) (by omega)];rfl
    simp only [Ql,J4,Int.toNat_natCast,hw,YAg _,getD_at hi,Option.bind_some]
    simp [hi],trivial,rfl⟩) m i () h1 h2 trivial
 have h0:=key gas 0 (Nat.zero_le _) (gas_lt (by omega))
 unfold Np NAD
 simp only [bne_self_eq_false,cond_false]
 exact h0
theorem AAh {a:SLife} (h:((a.fBox.fDisk.fFiles.length≤140737488351232)∧(a.fBox.fBook.fThings.length≤140737488351232)∧(a.fBox.fSessions.length≤140737488351232)∧(a.fBox.fLives.length≤140737488351232))∧(a.fCodes.length≤140737488351232)∧(a.fReplies.length≤140737488351232)∧(a.fGives.length≤140737488351232)∧(a.fDone.length≤140737488351232)):Qp a a=some true:=by
 simp [Qp,PAD,TAg (h.1),UAg (h.2.1),VAg (h.2.2.1),XAg (h.2.2.2.1),ZAg (h.2.2.2.2)]
theorem BAh {a:SBox} (h:1048576<a.fKey.size) (h2:a.fKey.size≤140737488351232):Jh a 1048576=some (-1):=by
 rw [Jh,D5,w64_id (by omega) (by omega),TB (by simp;omega)]
theorem CAh {a:SLife} (h:1048576<a.fBox.fKey.size) (h2:a.fBox.fKey.size≤140737488351232):Gh a 1048576=some (-1):=by
 rw [Gh,O5,BAh h h2];rfl
theorem law_FnExactKept (x0:SLife) (g0:GSLife x0):laws_FnExactKept x0=some true:=by
 by_cases hk:1048576<x0.fBox.fKey.size
 ·rw [laws_FnExactKept,O4,CAh hk (by have:x0.fBox.fKey.size≤140737488351232:=g0.1.1;omega)];rfl
 obtain ⟨r,hr⟩:=DAh g0 1048576
 have h1:x0.fBox.fDisk.fFiles.length*40≤140737488351232:=g0.1.2.2.1.1
 have h2:x0.fBox.fBook.fThings.length*48≤140737488351232:=g0.1.2.2.2.1.2.2.1.1
 have h3:x0.fBox.fSessions.length*16≤140737488351232:=g0.1.2.2.2.2.1.1
 have h4:x0.fBox.fLives.length*16≤140737488351232:=g0.1.2.2.2.2.2.1.1
 have h5:x0.fCodes.length*8≤140737488351232:=g0.2.1.1
 have h6:x0.fReplies.length*16≤140737488351232:=g0.2.2.1.1
 have h7:x0.fGives.length*24≤140737488351232:=g0.2.2.2.1.1
 have h8:x0.fDone.length*80≤140737488351232:=g0.2.2.2.2.1
 have hf:∀ f ∈ x0.fBox.fDisk.fFiles,f.fText.size≤140737488351232:=fun f hf=>(g0.1.2.2.1.2 f hf).2.1
 have hn:∀ r ∈ x0.fDone,r.fNum≤9223372036854775807:=fun r hr=>(gint (g0.2.2.2.2.2 r hr).2.2.1).2
 have e1:=AAh (a:=x0) ⟨⟨by omega,by omega,by omega,by omega⟩,by omega,by omega,by omega,by omega⟩
 simp only [laws_FnExactKept,O4,hr,Option.bind_some,EAh g0,OAf (l:=x0) (by omega) (by omega) hf (by omega),JAg (l:=x0) (by omega) (by omega) hf (by omega) hn,e1,beq_self_eq_true,Bool.not_true,cond_false]
 cases decide (r<0) <;> rfl
end Go.Proofs.YthfpmhalgimbbaaGreatDoor.G
