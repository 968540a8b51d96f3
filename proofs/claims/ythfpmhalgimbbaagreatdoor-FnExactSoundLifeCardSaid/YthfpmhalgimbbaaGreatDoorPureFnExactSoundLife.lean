/- The plain law of FnExactSoundLife: whatever the arguments, it answers true. Conditions: what is read is in reach. Part 2 of 2. -/
import Derived.Test.YthfpmhalgimbbaaGreatDoorPureFnExactSoundLifea
namespace Go.Proofs.YthfpmhalgimbbaaGreatDoor.G
open Go Go.Ev
set_option linter.unusedVariables false
set_option linter.unusedSimpArgs false
theorem HAR {text:ByteArray} (x:SRec):∃ r,(bif !(TT x).2 then some (NZ,false) else bif !((ByteArray.toList (TT x).1) == (ByteArray.toList text)) then some (NZ,false) else some (x,true))=some r∧Xq text r:=Yq x false
theorem YAl {text:ByteArray} (hs:text.size≤140737488351232):∃ r,Va text=some r∧Xq text r:=by
 simp only [Va,Ej]
 rw [toList_inj]
 by_cases he:text=⟨#[]⟩
 ·rw [decide_eq_true he];exact ⟨_,rfl,.inr rfl⟩
 ·have hz:0<text.size:=by
   rcases Nat.eq_zero_or_pos text.size with h | h
   ·exact absurd (Ia (List.eq_nil_of_length_eq_zero (by rw [bs_len];exact h)):text=⟨#[]⟩) he
   ·exact h
  rw [decide_eq_false he,show decide ((0:Int)<(text.size:Int))=true from decide_eq_true (by omega),show decide ((1:Int)≤(text.size:Int))=true from decide_eq_true (by omega)]
  have hb:=Eh text 0
  rw [w64_id (n:=bt text 0) (by omega) (by omega)]
  obtain ⟨⟨t,tb⟩,e1,_⟩:=QAa (text:=text.extract (1:Int).toNat text.size) (by rw [ByteArray.size_extract];omega)
  obtain ⟨⟨v,q,ok⟩,e2,hR⟩:=IAR (a:=1) hs hz
  have hv:v≤1000000000:=by
   rcases hR with h | ⟨v',_,h,_,h1,_⟩
   ·have:=congrArg Prod.fst h;simp only [Ld] at this;omega
   ·have:=congrArg Prod.fst h;simp only at this;omega
  rw [e1,show TY text (1:Int)=_ from e2]
  simp only [Option.bind_some,cond_false,cond_true,Bool.and_self]
  cases bt text 0 == 1
  ·simp only [cond_false]
   cases bt text 0 == 3
   ·simp only [cond_false]
    rw [Ii (by simp only;omega)]
    exact HAR _
   ·simp only [cond_true]
    rw [Ii (by simp only;omega)]
    exact HAR _
  ·simp only [cond_true]
   rw [Ii (by simp only;omega)]
   exact HAR _
theorem ZAl {text:ByteArray} {x:SRec} (hs:text.size≤140737488351232) (h:TT x=(text,true)):Va text=some (x,true):=by
 have hne:∀ (k:Int) (s:ByteArray),(decide (ofBytes [k]++s=⟨#[]⟩))=false:=fun k s=>decide_eq_false fun h=>by
  have:=congrArg ByteArray.size h
  rw [ba_append_size,ofBytes_size] at this
  simp only [List.length_singleton] at this
  have h0:(⟨#[]⟩:ByteArray).size=0:=rfl
  omega
 have hd:∀ (k:Int) (s:ByteArray),decide ((0:Int)<((ofBytes [k]++s).size:Int))=true∧decide ((1:Int)≤((ofBytes [k]++s).size:Int))=true:=fun k s=>by
  rw [ba_append_size,ofBytes_size];simp only [List.length_singleton]
  exact ⟨decide_eq_true (by omega),decide_eq_true (by omega)⟩
 have hk:∀ (k:Int) (s:ByteArray),0≤k→k≤255→w64 (bt (ofBytes [k]++s) 0)=k:=fun k s h0 h1=>by
  rw [(Qm (k:=k) (s:=s) h0 h1).left.head.2 |> fun e=>(show bt (ofBytes [k]++s) 0=k from e),w64_id (by omega) (by omega)]
 rcases RAa h with ⟨s,rfl,hz,rfl⟩ | ⟨n,rfl,h0,h1,rfl⟩ | ⟨t,s,rfl,ht,rfl⟩ | ⟨n,rfl,h0,h1,rfl⟩
 ·have h':TT ⟨1,s,0,⟨(0:Int),(0:Int),false,false,false,false,(⟨#[]⟩:ByteArray),(0:Int)⟩⟩=_:=h
  simp only [Va,Ej,hk 1 s (by omega) (by omega),hd,JAR,Ii (r:=⟨1,s,0,⟨(0:Int),(0:Int),false,false,false,false,(⟨#[]⟩:ByteArray),(0:Int)⟩⟩) (by simp only;omega),h',Option.bind_some,toList_inj,hne]
  simp [NZ]
 ·have hA:=Qm (k:=2) (s:=ofBytes (IK n)) (by omega) (by omega)
  rw [SN (Md n h0)] at hA
  have e1:=P8 hs (by omega) (by omega) hA.right
  simp only [List.length_singleton,Nat.zero_add] at e1
  have e2:TY (ofBytes [2]++ofBytes (IK n)) (1:Int)=_:=e1
  have h':TT ⟨2,⟨#[]⟩,n,⟨(0:Int),(0:Int),false,false,false,false,(⟨#[]⟩:ByteArray),(0:Int)⟩⟩=_:=h
  simp only [Va,Ej,hk 2 _ (by omega) (by omega),hd,e2,Option.bind_some,Ii (r:=⟨2,⟨#[]⟩,n,⟨(0:Int),(0:Int),false,false,false,false,(⟨#[]⟩:ByteArray),(0:Int)⟩⟩) (by simp only;omega),h',toList_inj,hne]
  simp [NZ]
 ·have hsz:s.size≤140737488351232:=by rw [ba_append_size] at hs;omega
  have e1:=SAa hsz ht
  have h':TT ⟨3,⟨#[]⟩,0,t⟩=_:=h
  simp only [Va,Ej,hk 3 s (by omega) (by omega),hd,JAR,e1,Option.bind_some,Ii (r:=⟨3,⟨#[]⟩,0,t⟩) (by simp only;omega),h',toList_inj,hne]
  simp [NZ]
 ·have hA:=Qm (k:=4) (s:=ofBytes (IK n)) (by omega) (by omega)
  rw [SN (Md n (by omega))] at hA
  have e1:=P8 hs (by omega) (by omega) hA.right
  simp only [List.length_singleton,Nat.zero_add] at e1
  have e2:TY (ofBytes [4]++ofBytes (IK n)) (1:Int)=_:=e1
  have h':TT ⟨4,⟨#[]⟩,n,⟨(0:Int),(0:Int),false,false,false,false,(⟨#[]⟩:ByteArray),(0:Int)⟩⟩=_:=h
  simp only [Va,Ej,hk 4 _ (by omega) (by omega),hd,e2,Option.bind_some,Ii (r:=⟨4,⟨#[]⟩,n,⟨(0:Int),(0:Int),false,false,false,false,(⟨#[]⟩:ByteArray),(0:Int)⟩⟩) (by simp only;omega),h',toList_inj,hne]
  simp [NZ]
theorem AAm {text:ByteArray} (hs:text.size≤140737488351232):∃ r,Fa text=some r∧Va text=some r∧Xq text r:=by
 obtain ⟨r,hr,h⟩:=KAR hs
 obtain ⟨q,hq,h'⟩:=YAl hs
 rcases h with ⟨h1,h2⟩ | h
 ·have:=ZAl hs h2
  refine ⟨r,hr,?_,.inl ⟨h1,h2⟩⟩
  rw [this];congr 1;exact Prod.ext rfl h1.symm
 ·rcases h' with ⟨h1,h2⟩ | h'
  ·have:=BAm hs h2
   rw [hr] at this
   injection this with this
   rw [h] at this
   exact Bool.noConfusion (congrArg Prod.snd this)
  ·exact ⟨r,hr,by rw [hq,h',h],.inr h⟩
noncomputable def RY (t:ByteArray):SRec×Bool:=(Fa t).getD (⟨0,⟨#[]⟩,0,⟨0,0,false,false,false,false,⟨#[]⟩,0⟩⟩,false)
theorem CAm {t:ByteArray} (h:t.size≤140737488351232):Fa t=some (RY t):=by
 obtain ⟨r,h1,_⟩:=KAR h
 rw [RY,h1];rfl
theorem DAm {t:ByteArray} (h:t.size≤140737488351232):Va t=some (RY t):=by
 obtain ⟨r,h1,h2,_⟩:=AAm h
 rw [RY,h1,h2];rfl
theorem EAm {t:ByteArray} (h:t.size≤140737488351232):Xq t (RY t):=by
 obtain ⟨r,h1,h2⟩:=KAR h
 rw [RY,h1];exact h2
noncomputable def DZ (k:ByteArray):Int→List ByteArray→List SRec×Int
 | _,[]=>([],0)
 | i,f::fs=>bif (RX k i f).2 && (RY (RX k i f).1).2 then ((RY (RX k i f).1).1::(DZ k (i+1) fs).1,((frameT f).1.size:Int)+(DZ k (i+1) fs).2) else ([],0)
noncomputable def CY (k file:ByteArray):List SRec×Int:=DZ k 1 (Ob file).1
theorem FAm {file:ByteArray} (hs:file.size≤140737488351232):∀ (j a:Nat),a≤file.size→(∀ f ∈ (OY j file a).1,f.size≤file.size)∧(OY j file a).1.length+a≤file.size∧(OY j file a).2≤file.size:=by
 intro j
 induction j with
 | zero=>intro a ha;exact ⟨fun f hf=>(by cases hf),by simpa [OY] using ha,ha⟩
 | succ j ih=>
  intro a ha
  rw [OY]
  rcases OAF hs ha with h | ⟨v,q,_,hq,_,_,_,h3,_,_,h⟩
  ·rw [h];exact ⟨fun f hf=>(by cases hf),by simpa using ha,ha⟩
  ·rw [h]
   obtain ⟨i1,i2,i3⟩:=ih (q+4+v.toNat) h3
   refine ⟨fun f hf=>?_,?_,i3⟩
   ·rcases List.mem_cons.1 hf with rfl | hf
    ·show (file.extract (q+4) (q+4+v.toNat)).size≤file.size
     rw [ByteArray.size_extract];omega
    ·exact i1 f hf
   ·show (_::(OY j file (q+4+v.toNat)).1).length+a≤file.size
    rw [List.length_cons];omega
theorem PAF {file:ByteArray}:(∀ f ∈ (Ob file).1,f.size≤20000)∧(Ob file).1.length≤20000∧0≤(Ob file).2∧(Ob file).2≤(file.size:Int):=by
 rw [Ob]
 by_cases h:(file.size:Int) > 20000
 ·rw [decide_eq_true h]
  exact ⟨fun f hf=>(by cases hf),(by decide:0≤20000),Int.le_refl 0,by show (0:Int)≤_;omega⟩
 ·rw [decide_eq_false h]
  obtain ⟨h1,h2,h3⟩:=FAm (file:=file) (by omega) (file.size+1) 0 (Nat.zero_le _)
  exact ⟨fun f hf=>by have:=h1 f hf;omega,by show (OY (file.size+1) file 0).1.length≤20000;omega,by show (0:Int)≤((OY (file.size+1) file 0).2:Int);omega,by show ((OY (file.size+1) file 0).2:Int)≤_;omega⟩
theorem GAm (k:ByteArray):∀ (fs:List ByteArray) (i:Int),(DZ k i fs).1.length≤fs.length:=by
 intro fs
 induction fs with
 | nil=>intro i;exact Nat.le_refl _
 | cons f fs ih=>
  intro i
  rw [DZ]
  cases (RX k i f).2 && (RY (RX k i f).1).2
  ·exact Nat.zero_le _
  ·rw [cond_true,List.length_cons,List.length_cons];have:=ih (i+1);omega
theorem HAm {k file:ByteArray} (hk:k.size≤900000000) (hf:file.size≤140737488351232):J5 k file=some (CY k file):=by
 obtain ⟨u1,u2,_,_⟩:=PAF (file:=file)
 rw [J5,ZAO,IAm hf,Option.bind_some,CY]
 generalize (Ob file).1=l at u1 u2
 have key:∀ (j i m:Nat) (e:Int) (out:List SRec),i+j=l.length→0≤e→e≤30000*i→out.length≤i→I5 (m+j+1) (.c0 k e (i:Int) out l)=some (out++(DZ k ((i:Int)+1) (l.drop i)).1,e+(DZ k ((i:Int)+1) (l.drop i)).2):=by
  intro j
  induction j with
  | zero=>
   intro i m e out h he he2 ho
   obtain rfl:i=l.length:=by omega
   rw [I5]
   simp only [QAE]
   rw [NM (by simp),List.drop_length,DZ,List.append_nil,Int.add_zero]
  | succ j ih=>
   intro i m e out h he he2 ho
   have hi:i<l.length:=by omega
   have hz:=u1 _ (List.getElem_mem hi)
   have ew:w64 ((i:Int)+1)=((i+1:Nat):Int):=by rw [w64_id (by omega) (by omega)];rfl
   have hoz:=LAR k l[i] ((i+1:Nat):Int)
   have hfz:=TAa (t:=l[i]) (by omega)
   rw [show m+(j+1)+1=(m+j+1)+1 by omega,I5]
   simp only [QAE,ew,Int.toNat_natCast,getD_at hi]
   rw [TB (by simp;omega),TB (by simp;omega),JAm hk (by omega),Option.bind_some,CAm (by omega),Option.bind_some,drop_at hi,DZ,show ((i:Int)+1)=((i+1:Nat):Int) from rfl]
   cases (RX k ((i+1:Nat):Int) l[i]).2
   ·rw [Bool.false_and,cond_false,List.append_nil,Int.add_zero];rfl
   ·rw [NM (by rfl),Bool.true_and]
    cases (RY (RX k ((i+1:Nat):Int) l[i]).1).2
    ·rw [cond_false,List.append_nil,Int.add_zero];rfl
    ·have h2:=ih (i+1) m (e+((frameT l[i]).1.size:Int)) (out++[(RY (RX k ((i+1:Nat):Int) l[i]).1).1]) (by omega) (by omega) (by omega) (by simp;omega)
     simp only [Bool.not_true,cond_false,cond_true]
     rw [TB (by simp;omega),TB (by simp;omega),UAa (by omega),Option.bind_some,w64_id (by omega) (by omega),h2,List.append_assoc,Int.add_assoc]
     rfl
 obtain ⟨m,hm⟩:∃ m,gas=m+l.length+1:=⟨gas - (l.length+1),by have:=gas_lt (n:=l.length+1) (by omega);omega⟩
 have h0:=key l.length 0 m 0 [] (by omega) (by omega) (by omega) (Nat.le_refl _)
 rw [List.nil_append,Int.zero_add,List.drop_zero] at h0
 rw [hm]
 exact h0
theorem PAu:XY HY=true:=Qd.2 ⟨Fh _,by rw [HY,ofBytes_size];rfl,(by decide:(0:Int)≤0∧(0:Int)≤3),(by decide:0≤8),(by decide:(0:Int)≤0∧(0:Int)≤1000),(by decide:(0:Int)≤0∧(0:Int)≤10000),rfl⟩
theorem KAm {file:ByteArray} {a:Nat} (hs:file.size≤140737488351232) (ha:a≤file.size) {p:ByteArray×Nat} (h:Qb file a=some p):p.2=a+(frameT p.1).1.size∧p.2≤file.size:=by
 rcases OAF hs ha with h1 | ⟨v,q,_,hq,hq2,hv1,hv2,h3,_,_,h1⟩
 ·rw [h1] at h;cases h
 ·rw [h1] at h
  cases h
  have hz:(file.extract (q+4) (q+4+v.toNat)).size=v.toNat:=by rw [ByteArray.size_extract];omega
  have hin:FN ((file.extract (q+4) (q+4+v.toNat)).size:Int) 1 9000=true:=by rw [hz,WX];omega
  refine ⟨?_,h3⟩
  show q+4+v.toNat=a+(frameT (file.extract (q+4) (q+4+v.toNat))).1.size
  rw [frameT,hin,cond_true,ofBytes_size,Ji,List.length_append,List.length_append,bs_len,hz,show ((v.toNat:Nat):Int)=v by omega]
  have:(four (Ja (bs (file.extract (q+4) (q+4+v.toNat))))).length=4:=rfl
  omega
theorem LAm (k:ByteArray) {file:ByteArray} (hs:file.size≤140737488351232):∀ (j a:Nat) (i:Int),a≤file.size→0≤(DZ k i (OY j file a).1).2∧(a:Int)+(DZ k i (OY j file a).1).2≤(file.size:Int):=by
 intro j
 induction j with
 | zero=>intro a i ha;exact ⟨Int.le_refl 0,by show (a:Int)+0≤_;omega⟩
 | succ j ih=>
  intro a i ha
  rw [OY]
  cases h:Qb file a with
  | none=>exact ⟨Int.le_refl 0,by show (a:Int)+0≤_;omega⟩
  | some p=>
   obtain ⟨h1,h2⟩:=KAm hs ha h
   obtain ⟨h3,h4⟩:=ih p.2 (i+1) h2
   simp only [DZ]
   cases (RX k i p.1).2 && (RY (RX k i p.1).1).2
   ·exact ⟨Int.le_refl 0,by show (a:Int)+0≤_;omega⟩
   ·rw [cond_true]
    exact ⟨by simp only;omega,by simp only;omega⟩
theorem VAa (k file:ByteArray):0≤(CY k file).2∧(CY k file).2≤(file.size:Int):=by
 rw [CY,Ob]
 by_cases h:(file.size:Int) > 20000
 ·rw [decide_eq_true h];exact ⟨Int.le_refl 0,by show (0:Int)≤_;omega⟩
 ·rw [decide_eq_false h,cond_false]
  have h2:=LAm k (file:=file) (by omega) (file.size+1) 0 1 (Nat.zero_le _)
  exact ⟨h2.1,by have:=h2.2;show (DZ k 1 (OY (file.size+1) file 0).1).2≤_;omega⟩
theorem WAa {d:SDisk} {n:ByteArray} {B:Nat} (hf:∀ f ∈ d.fFiles,f.fText.size≤B):(CV d n).1.size≤B:=by
 rw [CV]
 cases h:Zb d.fFiles n 0 with
 | none=>exact Nat.zero_le _
 | some j=>
  have h1:=(MAR h).2
  show ((d.fFiles.getD j XAa).fText).size≤B
  rw [getD_at (by omega)]
  exact hf _ (List.getElem_mem _)
def PX:ByteArray:=⟨#[98,111,111,107]⟩
def nNew:ByteArray:=⟨#[98,111,111,107,43]⟩
noncomputable def SY (k:ByteArray) (d:SDisk):SBook×List SAct×Bool:=
 bif !(Td d) || !(LY HY (CY k (CV d PX).1).1).2 then (Zq,[],false)
 else ((LY HY (CY k (CV d PX).1).1).1,(bif decide (Ac d nNew≥0) then [⟨4,nNew,⟨#[]⟩,⟨#[]⟩⟩] else [])++(bif (CY k (CV d PX).1).2 == ((CV d PX).1.size:Int) then [] else [⟨1,nNew,(CV d PX).1.extract 0 (CY k (CV d PX).1).2.toNat,⟨#[]⟩⟩,⟨2,nNew,⟨#[]⟩,⟨#[]⟩⟩,⟨3,nNew,⟨#[]⟩,PX⟩]),true)
theorem MAm (k:ByteArray):∀ (fs:List ByteArray) (i:Int),(∀ f ∈ fs,f.size≤20000)→∀ r ∈ (DZ k i fs).1,r.fNum≤9223372036854775807:=by
 intro fs
 induction fs with
 | nil=>intro i _ r hr;cases hr
 | cons f fs ih=>
  intro i hf r hr
  rw [DZ] at hr
  cases h:(RX k i f).2 && (RY (RX k i f).1).2
  ·rw [h] at hr;cases hr
  ·rw [h,cond_true] at hr
   rcases List.mem_cons.1 hr with rfl | hr
   ·have hz:=LAR k f i
    have hfz:=hf f (List.mem_cons_self ..)
    rcases EAm (t:=(RX k i f).1) (by omega) with ⟨_,h2⟩ | h2
    ·have h3:(TT (RY (RX k i f).1).1).2=true:=by rw [h2]
     rcases QAF h3 with ⟨hk,_⟩ | ⟨hk,hc⟩ | ⟨hk,_⟩ | ⟨hk,hc⟩
     ·rw [TT,hk] at h3
      simp only [show ((1:Int) == 1)=true from rfl,cond_true] at h3
      cases hc:(((RY (RX k i f).1).1.fText.size:Int) == 32 && (RY (RX k i f).1).1.fNum == 0 && NY (RY (RX k i f).1).1.fThing)
      ·rw [hc] at h3;cases h3
      ·rw [Bool.and_eq_true,Bool.and_eq_true,beq_iff_eq,beq_iff_eq] at hc;omega
     ·omega
     ·rw [TT,hk] at h3
      simp only [show ((3:Int) == 1)=false from rfl,show ((3:Int) == 2)=false from rfl,show ((3:Int) == 3)=true from rfl,cond_true,cond_false] at h3
      cases hc:((DY (RY (RX k i f).1).1.fThing).2 && JY (RY (RX k i f).1).1.fText && (RY (RX k i f).1).1.fNum == 0)
      ·rw [hc] at h3;cases h3
      ·rw [Bool.and_eq_true,beq_iff_eq] at hc;omega
     ·omega
    ·rw [h2];exact (by decide:(0:Int)≤9223372036854775807)
   ·exact ih (i+1) (fun f hf2=>hf f (List.mem_cons_of_mem _ hf2)) r hr
theorem NAm (k file:ByteArray):∀ r ∈ (CY k file).1,r.fNum≤9223372036854775807:=MAm k _ _ (PAF (file:=file)).1
theorem YAa (k file:ByteArray):(CY k file).1.length≤20000:=Nat.le_trans (GAm k _ _) (PAF (file:=file)).2.1
theorem ZAa {k:ByteArray} {d:SDisk} (hk:k.size≤900000000) (hd:d.fFiles.length≤140737488351232) (hf:∀ f ∈ d.fFiles,f.fText.size≤140737488351232):Vg k d=some (SY k d):=by
 have hfs:(CV d PX).1.size≤140737488351232:=WAa hf
 obtain ⟨r1,r2⟩:=VAa k (CV d PX).1
 have hl:=YAa k (CV d PX).1
 rw [Vg,AAP,AAb,Option.bind_some,SY]
 cases Td d
 ·rfl
 rw [NM (by rfl),show (⟨#[98,111,111,107]⟩:ByteArray)=PX from rfl,show (⟨#[98,111,111,107,43]⟩:ByteArray)=nNew from rfl,OAm hd,Option.bind_some,HAm hk hfs,Option.bind_some,RAF,Option.bind_some,BAb (Nat.zero_le _) (by omega),Option.bind_some,CAb hd]
 cases (LY HY (CY k (CV d PX).1).1).2
 ·rfl
 simp only [Option.bind_some,Bool.not_true,Bool.or_self,cond_false]
 by_cases he:(CY k (CV d PX).1).2=((CV d PX).1.size:Int)
 ·rw [decide_eq_false (by omega:¬ (CY k (CV d PX).1).2<((CV d PX).1.size:Int)),show ((CY k (CV d PX).1).2 == ((CV d PX).1.size:Int))=true by rw [beq_iff_eq];exact he]
  cases decide (Ac d nNew≥0) <;> rfl
 ·rw [decide_eq_true (by omega:(CY k (CV d PX).1).2<((CV d PX).1.size:Int)),show ((CY k (CV d PX).1).2 == ((CV d PX).1.size:Int))=false by rw [beq_eq_false_iff_ne];exact he,cond_true,cond_true]
  have hg:(decide (0≤(CY k (CV d PX).1).2) && decide ((CY k (CV d PX).1).2≤((CV d PX).1.size:Int)))=true:=by rw [Bool.and_eq_true,decide_eq_true_eq,decide_eq_true_eq];exact ⟨r1,r2⟩
  simp only [hg,cond_true]
  cases decide (Ac d nNew≥0) <;> rfl
theorem QAu (b:SBook) (r:SRec):(YX b r).1.fThings.length≤8:=by
 cases h:(YX b r).2
 ·have:(YX b r).1=Zq:=by
   rw [YX] at h ⊢
   cases hc:(!(XY b) || (!(TT r).2 || decide (b.fCount≥10000)))
   ·rw [hc] at h
    simp only [cond_false] at h ⊢
    cases h1:r.fKind == 1
    ·rw [h1] at h
     simp only [cond_false] at h ⊢
     cases h2:r.fKind == 2
     ·rw [h2] at h
      simp only [cond_false] at h ⊢
      cases h3:r.fKind == 3
      ·rw [h3] at h
       simp only [cond_false] at h ⊢
       cases ht:IY b.fThings r.fNum with
       | none=>rfl
       | some x=>rw [ht] at h;cases h
      ·rw [h3] at h
       simp only [cond_true] at h ⊢
       cases ht:Sm b r.fThing with
       | none=>rfl
       | some x=>rw [ht] at h;cases h
     ·rw [h2] at h;cases h
    ·rw [h1] at h;cases h
   ·rfl
  rw [this];exact Nat.zero_le _
 ·exact Ar h
theorem NAR {b:SBook} {l:List SRec} (h:b.fThings.length≤2932031007317):(LY b l).1.fThings.length≤2932031007317:=by
 induction l generalizing b with
 | nil=>exact h
 | cons r rs ih=>
  rw [LY]
  cases h3:(YX b r).2
  ·exact Nat.zero_le _
  ·have:=Ar h3
   exact ih (by omega)
theorem DAb (k:ByteArray) (d:SDisk):(SY k d).1.fThings.length≤2932031007317∧(SY k d).2.1.length≤4:=by
 rw [SY]
 cases (!(Td d) || !(LY HY (CY k (CV d PX).1).1).2)
 ·refine ⟨NAR (Nat.zero_le _),?_⟩
  rw [cond_false]
  show List.length (_++_)≤4
  rw [List.length_append]
  cases decide (Ac d nNew≥0) <;> cases (CY k (CV d PX).1).2 == ((CV d PX).1.size:Int) <;> simp
 ·exact ⟨Nat.zero_le _,Nat.zero_le _⟩
noncomputable def Um (l:SLife):Bool:=(LY HY l.fDone).2 && (bif l.fBox.fUp then Bc (LY HY l.fDone).1 l.fBox.fBook else (SY l.fBox.fKey l.fBox.fDisk).2.2 && Bc (LY HY l.fDone).1 (SY l.fBox.fKey l.fBox.fDisk).1)
theorem PAm {l:SLife} (hk:l.fBox.fKey.size≤900000000) (hd:l.fBox.fDisk.fFiles.length≤140737488351232) (hf:∀ f ∈ l.fBox.fDisk.fFiles,f.fText.size≤140737488351232) (hl:l.fDone.length≤140737488351232):Em l=some (Um l):=by
 have hn:=NAR (b:=HY) (l:=l.fDone) (Nat.zero_le _)
 rw [Em,CAP,RAF,Option.bind_some,BAb (Nat.zero_le _) hl,Option.bind_some,Um]
 simp only [OAR (show (LY HY l.fDone).1.fThings.length≤140737488351232 by omega),ZAa hk hd hf,Option.bind_some]
 cases (LY HY l.fDone).2
 ·rfl
 cases l.fBox.fUp
 ·cases (SY l.fBox.fKey l.fBox.fDisk).2.2 <;> rfl
 ·rfl
def stay (x y:SThing):Bool:=x.fKind == y.fKind && ((bs x.fValue == bs y.fValue) && ((!x.fHidden || y.fHidden) && ((!x.fFixed || y.fFixed) && !decide (y.fNext<x.fNext))))
def Vm (n:List SThing) (x:SThing):Bool:=match IY n x.fId with | some y=>stay x y | none=>true
def Ue (b:SBook):List SRec→Bool
 | []=>true
 | r::rs=>(YX b r).2 && (b.fThings.all (Vm (YX b r).1.fThings) && Ue (YX b r).1 rs)
theorem QAm (l:List SRec) (b n:SBook) (i:Nat) (hi:i<l.length) (hl:l.length≤140737488351232) (hb:b.fThings.length≤1000) (hn:n.fThings.length≤1000):∀ (j k m:Nat),k+j=b.fThings.length→
  Xg (m+j+1) (.c1 l (i:Int) (k:Int) b.fWord b.fTries b.fLast b.fChain b.fCount n.fWord n.fTries n.fLast n.fChain n.fCount b.fThings n.fThings)=bif (b.fThings.drop k).all (Vm n.fThings) then Xg m (.c0 l ((i+1:Nat):Int) n.fWord n.fTries n.fLast n.fChain n.fCount n.fThings) else some false:=by
 intro j
 induction j with
 | zero=>
  intro k m h
  obtain rfl:k=b.fThings.length:=by omega
  have e:w64 ((i:Int)+1)=((i+1:Nat):Int):=by rw [w64_id (by omega) (by omega)];rfl
  rw [Xg]
  simp only [Jq,e]
  rw [NM (by simp),List.drop_length];rfl
 | succ j ih=>
  intro k m h
  have hk:k<b.fThings.length:=by omega
  have e:w64 ((k:Int)+1)=((k+1:Nat):Int):=by rw [w64_id (by omega) (by omega)];rfl
  have h2:=ih (k+1) m (by omega)
  rw [show m+(j+1)+1=(m+j+1)+1 by omega,Xg]
  simp only [Jq,e,Int.toNat_natCast,getD_at hk]
  rw [TB (by simp;omega),TB (by simp;omega),SAF (b:=⟨n.fWord,n.fTries,n.fThings,n.fLast,n.fChain,n.fCount⟩) (by show n.fThings.length≤_;omega),Option.bind_some,drop_at hk,List.all_cons,Vm,h2]
  cases ht:IY n.fThings b.fThings[k].fId with
  | none=>rfl
  | some y=>
   simp only [cond_true,stay,Gh,bne]
   cases b.fThings[k].fKind == y.fKind <;> cases bs b.fThings[k].fValue == bs y.fValue <;> cases b.fThings[k].fHidden <;> cases y.fHidden <;> cases b.fThings[k].fFixed <;> cases y.fFixed <;> cases decide (y.fNext<b.fThings[k].fNext) <;> rfl
theorem RAm {l:List SRec} (hl:l.length≤140737488351232):Gm l=some (Ue HY l):=by
 have key:∀ (j i m:Nat) (b:SBook),i+j=l.length→b.fThings.length≤8→Xg (m+12*j+1) (.c0 l (i:Int) b.fWord b.fTries b.fLast b.fChain b.fCount b.fThings)=some (Ue b (l.drop i)):=by
  intro j
  induction j with
  | zero=>
   intro i m b h hb
   obtain rfl:i=l.length:=by omega
   rw [Xg]
   simp only [Jq]
   rw [NM (by simp),List.drop_length];rfl
  | succ j ih=>
   intro i m b h hb
   have hi:i<l.length:=by omega
   rw [show m+12*(j+1)+1=(((m+10 - b.fThings.length)+12*j+1)+b.fThings.length+1)+1 by omega,Xg]
   simp only [Jq,Int.toNat_natCast,getD_at hi]
   rw [TB (by simp;omega),TB (by simp;omega),EAb (b:=b) (by omega),Option.bind_some,drop_at hi,Ue]
   cases h2:(YX b l[i]).2
   ·rfl
   ·have h3:=Ar h2
    rw [NM (by rfl)]
    have h4:=QAm l b (YX b l[i]).1 i hi hl (by omega) (by omega) b.fThings.length 0 ((m+10 - b.fThings.length)+12*j+1) (by omega)
    rw [show ((0:Nat):Int)=0 from rfl,List.drop_zero] at h4
    rw [h4,ih (i+1) _ (YX b l[i]).1 (by omega) h3]
    cases b.fThings.all (Vm (YX b l[i]).1.fThings) <;> rfl
 obtain ⟨m,hm⟩:∃ m,gas=m+12*l.length+1:=⟨gas - (12*l.length+1),by have:=gas_lt (n:=12*l.length+1) (by omega);omega⟩
 rw [Gm,DAP,RAF,Option.bind_some,hm]
 exact key l.length 0 m HY (by omega) (Nat.zero_le _)
def PAR (b:SBox) (i:Nat):Bool:=match IY b.fBook.fThings (b.fLives.getD i ⟨0,0⟩).fId with
 | some x=>x.fKind == 2 && (FN (b.fLives.getD i ⟨0,0⟩).fNext 0 x.fNext && (i == 0 || !decide ((b.fLives.getD (i - 1) ⟨0,0⟩).fId≥(b.fLives.getD i ⟨0,0⟩).fId)))
 | none=>false
def Hr (b:SBox):Nat→Nat→Bool
 | 0,_=>true
 | j+1,i=>PAR b i && Hr b j (i+1)
def QAR (b:SBox):Bool:=Hr b b.fLives.length 0
theorem SAm {b:SBox} (hl:b.fLives.length≤140737488351232) (ht:b.fBook.fThings.length≤140737488351232):Jm b=some (QAR b):=by
 have key:∀ (j i m:Nat),i+j=b.fLives.length→U5 (m+j+1) (.c0 (i:Int) b)=some (Hr b j i):=by
  intro j
  induction j with
  | zero=>
   intro i m hi
   rw [U5];simp only [UAE]
   rw [NM (by simp;omega)];rfl
  | succ j ih=>
   intro i m hi
   have hw:w64 ((i:Int)+1)=((i+1:Nat):Int):=by rw [w64_id (by omega) (by omega)];rfl
   have d1:decide ((i:Int)<(b.fLives.length:Int))=true:=decide_eq_true (by omega)
   have d0:decide ((0:Int)≤(i:Int))=true:=decide_eq_true (by omega)
   rw [show m+(j+1)+1=(m+j+1)+1 from rfl,U5]
   simp only [UAE,SAF ht,La,Option.bind_some,d0,d1,Bool.and_self,cond_true,Int.toNat_natCast,hw,ih (i+1) m (by omega),Hr,PAR]
   cases IY b.fBook.fThings (b.fLives.getD i ⟨0,0⟩).fId with
   | none=>rfl
   | some x=>
    simp only [bne]
    cases x.fKind == 2
    ·rfl
    cases FN (b.fLives.getD i ⟨0,0⟩).fNext 0 x.fNext
    ·rfl
    by_cases h0:i=0
    ·subst h0;rfl
    ·obtain ⟨k,rfl⟩:∃ k,i=k+1:=⟨i - 1,by omega⟩
     have hk:w64 (((k+1:Nat):Int) - 1)=(k:Int):=by rw [w64_id (by omega) (by omega)];omega
     rw [show decide (((k+1:Nat):Int) > 0)=true from decide_eq_true (by omega)]
     simp only [hk,Int.toNat_natCast,show decide ((0:Int)≤(k:Int))=true from decide_eq_true (by omega),show decide ((k:Int)<(b.fLives.length:Int))=true from decide_eq_true (by omega),Bool.and_self,cond_true,Nat.add_sub_cancel]
     cases decide ((b.fLives.getD k ⟨0,0⟩).fId≥(b.fLives.getD (k+1) ⟨0,0⟩).fId) <;> rfl
 obtain ⟨m,hm⟩:∃ m,gas=m+b.fLives.length+1:=⟨gas - (b.fLives.length+1),by have:=gas_lt (n:=b.fLives.length) (by omega);omega⟩
 rw [Jm,EAP,hm]
 exact key b.fLives.length 0 m (Nat.zero_add _)
def RAR (b:SBox) (i:Nat):Bool:=FN (b.fSessions.getD i ⟨0,false⟩).fId 1 b.fOpened && (i == 0 || !decide ((b.fSessions.getD (i - 1) ⟨0,false⟩).fId≥(b.fSessions.getD i ⟨0,false⟩).fId))
def Xm (b:SBox):Nat→Nat→Bool
 | 0,_=>true
 | j+1,i=>RAR b i && Xm b j (i+1)
noncomputable def Ir (b:SBox):Bool:=bif b.fUp then (SY b.fKey b.fDisk).2.2 && (((SY b.fKey b.fDisk).2.1.length:Int) == 0 && (XY b.fBook && (Bc (SY b.fKey b.fDisk).1 b.fBook && QAR b)))
 else (b.fSessions.length:Int) == 0 && ((b.fLives.length:Int) == 0 && Bc b.fBook HY)
noncomputable def Q8 (b:SBox):Bool:=(b.fKey.size:Int) == 32 && (Td b.fDisk && (decide ((b.fSessions.length:Int)≤3) && (FN b.fOpened 0 1000 && (Xm b b.fSessions.length 0 && Ir b))))
theorem TAm {b:SBox} (hd:b.fDisk.fFiles.length≤140737488351232) (hf:∀ f ∈ b.fDisk.fFiles,f.fText.size≤140737488351232) (ht:b.fBook.fThings.length≤140737488351232) (hs:b.fSessions.length≤140737488351232) (hl:b.fLives.length≤140737488351232):Lm b=some (Q8 b):=by
 rw [Lm,FAP,AAb,La,Q8]
 simp only [Option.bind_some,bne]
 cases hz:(b.fKey.size:Int) == 32
 ·rfl
 have hk:b.fKey.size≤900000000:=by rw [beq_iff_eq] at hz;omega
 obtain ⟨l1,l2⟩:=DAb b.fKey b.fDisk
 have key:∀ (j i m:Nat),i+j=b.fSessions.length→X5 (m+j+1) (.c0 (i:Int) b)=some (Xm b j i && Ir b):=by
  intro j
  induction j with
  | zero=>
   intro i m hi
   rw [X5];simp only [WAE]
   rw [NM (by simp;omega),Ir]
   simp only [RAF,ZAa hk hd hf,OAR ht,OAR (show (SY b.fKey b.fDisk).1.fThings.length≤140737488351232 by omega),Ym ht,SAm hl ht,Option.bind_some]
   cases b.fUp
   ·cases (b.fSessions.length:Int) == 0 <;> cases (b.fLives.length:Int) == 0 <;> rfl
   ·cases (SY b.fKey b.fDisk).2.2 <;> cases ((SY b.fKey b.fDisk).2.1.length:Int) == 0 <;> cases XY b.fBook <;> cases Bc (SY b.fKey b.fDisk).1 b.fBook <;> rfl
  | succ j ih=>
   intro i m hi
   have hw:w64 ((i:Int)+1)=((i+1:Nat):Int):=by rw [w64_id (by omega) (by omega)];rfl
   have d1:decide ((i:Int)<(b.fSessions.length:Int))=true:=decide_eq_true (by omega)
   have d0:decide ((0:Int)≤(i:Int))=true:=decide_eq_true (by omega)
   rw [show m+(j+1)+1=(m+j+1)+1 from rfl,X5]
   simp only [WAE,La,Option.bind_some,d0,d1,Bool.and_self,cond_true,Int.toNat_natCast,hw,ih (i+1) m (by omega),Xm,RAR]
   cases FN (b.fSessions.getD i ⟨0,false⟩).fId 1 b.fOpened
   ·rfl
   by_cases h0:i=0
   ·subst h0;rfl
   ·obtain ⟨k,rfl⟩:∃ k,i=k+1:=⟨i - 1,by omega⟩
    have hk:w64 (((k+1:Nat):Int) - 1)=(k:Int):=by rw [w64_id (by omega) (by omega)];omega
    rw [show decide (((k+1:Nat):Int) > 0)=true from decide_eq_true (by omega)]
    simp only [hk,Int.toNat_natCast,show decide ((0:Int)≤(k:Int))=true from decide_eq_true (by omega),show decide ((k:Int)<(b.fSessions.length:Int))=true from decide_eq_true (by omega),Bool.and_self,cond_true,Nat.add_sub_cancel]
    cases decide ((b.fSessions.getD k ⟨0,false⟩).fId≥(b.fSessions.getD (k+1) ⟨0,false⟩).fId) <;> rfl
 obtain ⟨m,hm⟩:∃ m,gas=m+b.fSessions.length+1:=⟨gas - (b.fSessions.length+1),by have:=gas_lt (n:=b.fSessions.length) (by omega);omega⟩
 have h0:=key b.fSessions.length 0 m (Nat.zero_add _)
 rw [hm,show ((0:Int))=((0:Nat):Int) from rfl,h0]
 cases Td b.fDisk
 ·rfl
 by_cases h3:(b.fSessions.length:Int)≤3
 ·rw [decide_eq_true h3,decide_eq_false (by omega:¬ (b.fSessions.length:Int) > 3)]
  cases FN b.fOpened ((0:Nat):Int) 1000 <;> rfl
 ·rw [decide_eq_false h3,decide_eq_true (by omega:(b.fSessions.length:Int) > 3)];rfl
def Jr (l:SLife):Nat→Nat→Bool
 | 0,_=>true
 | j+1,i=> !decide ((l.fGives.getD i ⟨0,0,0⟩).fLeaf≥Ve l.fDone (l.fGives.getD i ⟨0,0,0⟩).fThing l.fDone.length 0 0) && Jr l j (i+1)
noncomputable def U8 (l:SLife):Bool:=ZY (Ub l.fGives) l.fGives.length 0 && (ZY (Cc l.fGives) l.fGives.length 0 && (Um l && (Ue HY l.fDone && Q8 l.fBox)))
noncomputable def FAb (l:SLife):Bool:=Jr l l.fGives.length 0 && U8 l
theorem UAm {l:SLife} (hk:l.fBox.fKey.size≤900000000) (hd:l.fBox.fDisk.fFiles.length≤140737488351232) (hf:∀ f ∈ l.fBox.fDisk.fFiles,f.fText.size≤140737488351232) (ht:l.fBox.fBook.fThings.length≤140737488351232) (hs:l.fBox.fSessions.length≤140737488351232) (hv:l.fBox.fLives.length≤140737488351232) (hg:l.fGives.length*24≤140737488351232) (hl:l.fDone.length≤140737488351232):Aw l=some (FAb l):=by
 have key:∀ (j i m:Nat),i+j=l.fGives.length→Z5 (m+j+1) (.c0 (i:Int) l)=some (Jr l j i && U8 l):=by
  intro j
  induction j with
  | zero=>
   intro i m hi
   rw [Z5];simp only [XAE,VAm (show l.fGives.length≤140737488351232 by omega),WAm (show l.fGives.length≤140737488351232 by omega),PAm hk hd hf hl,RAm hl,TAm hd hf ht hs hv,Option.bind_some]
   rw [NM (by simp;omega),U8]
   cases ZY (Ub l.fGives) l.fGives.length 0 <;> cases ZY (Cc l.fGives) l.fGives.length 0 <;> cases Um l <;> cases Ue HY l.fDone <;> rfl
  | succ j ih=>
   intro i m hi
   have hw:w64 ((i:Int)+1)=((i+1:Nat):Int):=by rw [w64_id (by omega) (by omega)];rfl
   have d1:decide ((i:Int)<(l.fGives.length:Int))=true:=decide_eq_true (by omega)
   have d0:decide ((0:Int)≤(i:Int))=true:=decide_eq_true (by omega)
   rw [show m+(j+1)+1=(m+j+1)+1 from rfl,Z5]
   simp only [XAE,d0,d1,Bool.and_self,cond_true,Int.toNat_natCast,hw,ih (i+1) m (by omega),XAm hl,Option.bind_some,Jr]
   cases decide ((l.fGives.getD i ⟨0,0,0⟩).fLeaf≥Ve l.fDone (l.fGives.getD i ⟨0,0,0⟩).fThing l.fDone.length 0 0) <;> rfl
 obtain ⟨m,hm⟩:∃ m,gas=m+l.fGives.length+1:=⟨gas - (l.fGives.length+1),by have:=gas_lt (n:=l.fGives.length+1) (by omega);omega⟩
 rw [Aw,HAP,hm]
 exact key l.fGives.length 0 m (Nat.zero_add _)
theorem YAm {l:List SRec} {t:Int} (hl:l.length≤140737488351232):Qj l t=some (Ve l t l.length 0 0):=by
 have key:∀ (j i m:Nat) (n:Int),i+j=l.length→F6 (m+j+1) (.c0 t n l (l.length:Int) (i:Int))=some (Ve l t j i n):=by
  intro j
  induction j with
  | zero=>
   intro i m n hi
   rw [F6];simp only [YAE]
   rw [NM (by simp;omega)];rfl
  | succ j ih=>
   intro i m n hi
   have hw:w64 ((i:Int)+1)=((i+1:Nat):Int):=by rw [w64_id (by omega) (by omega)];rfl
   have d1:decide ((i:Int)<(l.length:Int))=true:=decide_eq_true (by omega)
   have d0:decide ((0:Int)≤(i:Int))=true:=decide_eq_true (by omega)
   rw [show m+(j+1)+1=(m+j+1)+1 from rfl,F6]
   simp only [YAE,d0,d1,Bool.and_self,cond_true,Int.toNat_natCast,hw,ih (i+1) m _ (by omega),Ve]
   cases (l.getD i ⟨0,⟨#[]⟩,0,⟨0,0,false,false,false,false,⟨#[]⟩,0⟩⟩).fKind == 3 <;> cases (l.getD i ⟨0,⟨#[]⟩,0,⟨0,0,false,false,false,false,⟨#[]⟩,0⟩⟩).fThing.fId == t <;> rfl
 obtain ⟨m,hm⟩:∃ m,gas=m+l.length+1:=⟨gas - (l.length+1),by have:=gas_lt (n:=l.length+1) (by omega);omega⟩
 rw [Qj,IAP,hm]
 exact key l.length 0 m 0 (Nat.zero_add _)
theorem ZAm {l:List SGiven} (hl:l.length≤140737488351232):Rj l=some (ZY (Ub l) l.length 0):=by
 have inner:∀ (j k i F:Nat),k+j=i→i<l.length→Yg (F+j+1) (.c1 l l (l.length:Int) (i:Int) (l.take i) (i:Int) (k:Int) (l.getD i ⟨0,0,0⟩))=bif Na (Ub l i) j k then some false else Yg F (.c0 l l (l.length:Int) ((i+1:Nat):Int)):=by
  intro j
  induction j with
  | zero=>
   intro k i F hk hi
   have hw:w64 ((i:Int)+1)=((i+1:Nat):Int):=by rw [w64_id (by omega) (by omega)];rfl
   rw [Yg];simp only [Kq,hw]
   rw [NM (by simp;omega)];rfl
  | succ j ih=>
   intro k i F hk hi
   have hw:w64 ((k:Int)+1)=((k+1:Nat):Int):=by rw [w64_id (by omega) (by omega)];rfl
   have ht:(l.take i).length=i:=by rw [List.length_take];omega
   have hg:(l.take i).getD k ⟨0,0,0⟩=l.getD k ⟨0,0,0⟩:=by simp [List.getD,List.getElem?_take,show k<i by omega]
   rw [show F+(j+1)+1=(F+j+1)+1 from rfl,Yg]
   simp only [Kq,hw,ih (k+1) i F (by omega) hi,Int.toNat_natCast,ht,hg,show decide ((k:Int)<(i:Int))=true from decide_eq_true (by omega),show decide ((0:Int)≤(k:Int))=true from decide_eq_true (by omega),Bool.and_self,cond_true,Na,Ub]
   cases (l.getD i ⟨0,0,0⟩).fThing == (l.getD k ⟨0,0,0⟩).fThing <;> cases (l.getD i ⟨0,0,0⟩).fLeaf == (l.getD k ⟨0,0,0⟩).fLeaf <;> rfl
 have outer:∀ (j i m:Nat),i+j=l.length→Yg (m+j*(l.length+2)+1) (.c0 l l (l.length:Int) (i:Int))=some (ZY (Ub l) j i):=by
  intro j
  induction j with
  | zero=>
   intro i m hi
   rw [Yg];simp only [Kq]
   rw [NM (by simp;omega)];rfl
  | succ j ih=>
   intro i m hi
   have ht:(l.take i).length=i:=by rw [List.length_take];omega
   rw [show m+(j+1)*(l.length+2)+1=((m+(l.length - i)+j*(l.length+2)+1)+i+1)+1 by rw [Nat.succ_mul];omega,Yg]
   simp only [Kq,Int.toNat_natCast,List.drop_zero,ht]
   rw [TB (by simp;omega),TB (by simp;omega),TB (by simp;omega)]
   refine (inner i 0 i _ (by omega) (by omega)).trans ?_
   rw [ih (i+1) _ (by omega),ZY]
   cases Na (Ub l i) i 0 <;> rfl
 obtain ⟨m,hm⟩:∃ m,gas=m+l.length*(l.length+2)+1:=⟨gas - (l.length*(l.length+2)+1),by have:=gas_lt2 (TAF hl);omega⟩
 rw [Rj,JAP,hm]
 exact outer l.length 0 m (Nat.zero_add _)
def leafs (xs:List SGiven) (t:Int):List Int:=(xs.filter fun g=>g.fThing == t).map (·.fLeaf)
theorem AAn (x:SGiven) (xs:List SGiven) (t:Int):leafs (x::xs) t=(if (x.fThing == t)=true then [x.fLeaf] else [])++leafs xs t:=by
 unfold leafs;rw [List.filter_cons];split <;> simp
theorem BAn {a:List SGiven} {t:Int} (h:a.length*24≤140737488355328):Oq a t=some (leafs a t):=by
 have key:∀ m i out,i≤a.length→a.length - i<m→out.length≤i→Nq m (.c0 t a a.length i out)=some (out++leafs (a.drop i) t):=fun m i out h1 h2 h3=>
  loopN (A:=List Int) (n:=a.length) (Lp:=Nq) (st:=fun i out=>.c0 t a a.length i out) (Inv:=fun i out=>out.length≤i) (out:=fun i out=>some (out++leafs (a.drop i) t))
   (fun m out _=>by simp [Nq,AAF,leafs])
   (fun m i out hi ho=>by
    have hw:w64 ((i:Int)+1)=((i+1:Nat):Int):=by rw [w64_id (by omega) (by omega)];rfl
    have hb:(out.length+1)*8≤140737488355328:=by omega
    simp only [Nq,AAF,Int.toNat_natCast,getD_at hi,hw,drop_at hi,AAn]
    cases a[i].fThing == t
    ·exact .inr ⟨out,by simp [hi],by omega,by simp⟩
    ·exact .inr ⟨out++[a[i].fLeaf],by simp [hi,hb],by simp;omega,by simp⟩) m i out h1 h2 h3
 have h0:=key gas 0 [] (Nat.zero_le _) (gas_lt (by omega)) (Nat.le_refl _)
 exact h0
def Oi (l:List Int):Nat→Nat→Bool
 | 0,_=>true
 | j+1,k=> !decide (l.getD (k - 1) 0≥l.getD k 0) && Oi l j (k+1)
def V8 (l:List SGiven) (t:Int):Bool:=Oi (leafs l t) ((leafs l t).length - 1) 1
def Kr (l:List SGiven):Nat→Nat→Bool
 | 0,_=>true
 | j+1,i=>V8 l (l.getD i ⟨0,0,0⟩).fThing && Kr l j (i+1)
theorem CAn {p:Nat→Bool}:∀ {j k:Nat},Na p j k=true↔∃ x,k≤x∧x<k+j∧p x=true:=by
 intro j
 induction j with
 | zero=>intro k;exact ⟨fun h=>by simp [Na] at h,fun ⟨x,h1,h2,_⟩=>by omega⟩
 | succ j ih=>
  intro k
  rw [Na,Bool.or_eq_true,ih]
  constructor
  ·rintro (h | ⟨x,h1,h2,h3⟩)
   ·exact ⟨k,Nat.le_refl _,by omega,h⟩
   ·exact ⟨x,by omega,by omega,h3⟩
  ·rintro ⟨x,h1,h2,h3⟩
   by_cases h:x=k
   ·subst h;exact .inl h3
   ·exact .inr ⟨x,by omega,by omega,h3⟩
theorem DAn {p:Nat→Nat→Bool}:∀ {j i:Nat},ZY p j i=true↔∀ y,i≤y→y<i+j→∀ x,x<y→p y x=false:=by
 intro j
 induction j with
 | zero=>intro i;exact ⟨fun _ y h1 h2=>by omega,fun _=>rfl⟩
 | succ j ih=>
  intro i
  rw [ZY,Bool.and_eq_true,ih]
  have ha:(!Na (p i) i 0)=true↔∀ x,x<i→p i x=false:=by
   rw [Bool.not_eq_true',←Bool.not_eq_true,CAn]
   constructor
   ·intro h x hx
    cases hp:p i x
    ·rfl
    ·exact (h ⟨x,Nat.zero_le _,by omega,hp⟩).elim
   ·rintro h ⟨x,_,h2,h3⟩
    rw [h x (by omega)] at h3;cases h3
  rw [ha]
  constructor
  ·rintro ⟨h1,h2⟩ y hy1 hy2
   by_cases h:y=i
   ·subst h;exact h1
   ·exact h2 y (by omega) (by omega)
  ·intro h
   exact ⟨h i (Nat.le_refl _) (by omega),fun y h1 h2=>h y (by omega) (by omega)⟩
theorem EAn {l:List SGiven}:∀ {j i:Nat},Kr l j i=true↔∀ y,i≤y→y<i+j→V8 l (l.getD y ⟨0,0,0⟩).fThing=true:=by
 intro j
 induction j with
 | zero=>intro i;exact ⟨fun _ y h1 h2=>by omega,fun _=>rfl⟩
 | succ j ih=>
  intro i
  rw [Kr,Bool.and_eq_true,ih]
  constructor
  ·rintro ⟨h1,h2⟩ y hy1 hy2
   by_cases h:y=i
   ·subst h;exact h1
   ·exact h2 y (by omega) (by omega)
  ·intro h
   exact ⟨h i (Nat.le_refl _) (by omega),fun y h1 h2=>h y (by omega) (by omega)⟩
theorem FAn {l:List Int}:∀ {j k:Nat},Oi l j k=true↔∀ x,k≤x→x<k+j→l.getD (x - 1) 0<l.getD x 0:=by
 intro j
 induction j with
 | zero=>intro i;exact ⟨fun _ y h1 h2=>by omega,fun _=>rfl⟩
 | succ j ih=>
  intro k
  rw [Oi,Bool.and_eq_true,ih,Bool.not_eq_true',decide_eq_false_iff_not]
  constructor
  ·rintro ⟨h1,h2⟩ y hy1 hy2
   by_cases h:y=k
   ·subst h;omega
   ·exact h2 y (by omega) (by omega)
  ·intro h
   have:=h k (Nat.le_refl _) (by omega)
   exact ⟨by omega,fun y h1 h2=>h y (by omega) (by omega)⟩
theorem GAn {l:List Int}:Oi l (l.length - 1) 1=true↔l.Pairwise (· < ·):=by
 rw [FAn,List.pairwise_iff_getElem]
 constructor
 ·intro h a b ha hb hab
  induction b with
  | zero=>omega
  | succ b ih=>
   have h1:=h (b+1) (by omega) (by omega)
   rw [Nat.add_sub_cancel,getD_at (show b<l.length by omega),getD_at hb] at h1
   by_cases he:a=b
   ·subst he;exact h1
   ·have:=ih (by omega) (by omega);omega
 ·intro h x h1 h2
  have:=h (x - 1) x (by omega) (by omega) (by omega)
  rwa [getD_at (show x - 1<l.length by omega),getD_at (show x<l.length by omega)]
theorem GAb {l:List SGiven} {t:Int}:V8 l t=true↔∀ y x (hy:y<l.length) (hx:x<y),l[y].fThing=t→(l[x]'(by omega)).fThing=t→(l[x]'(by omega)).fLeaf<l[y].fLeaf:=by
 rw [V8,GAn,leafs,List.pairwise_map,List.pairwise_filter,List.pairwise_iff_getElem]
 constructor
 ·intro h y x hy hx h1 h2
  exact h x y (by omega) hy hx (by rw [beq_iff_eq];exact h2) (by rw [beq_iff_eq];exact h1)
 ·intro h x y hx hy hxy h1 h2
  rw [beq_iff_eq] at h1 h2
  exact h y x hy hxy h2 h1
theorem HAn (l:List SGiven):Kr l l.length 0=ZY (Cc l) l.length 0:=by
 rw [Bool.eq_iff_iff,EAn,DAn]
 constructor
 ·intro h y _ hy x hx
  have hy':y<l.length:=by omega
  have h1:=GAb.1 (h y (Nat.zero_le _) hy) y x hy' hx
  rw [getD_at hy'] at h1
  rw [Cc,getD_at hy',getD_at (show x<l.length by omega)]
  cases ht:l[y].fThing == (l[x]'(by omega)).fThing
  ·rfl
  ·rw [beq_iff_eq] at ht
   have:=h1 rfl ht.symm
   rw [Bool.true_and,decide_eq_false_iff_not];omega
 ·intro h i _ hi
  rw [GAb]
  intro y x hy hx h1 h2
  have h3:=h y (Nat.zero_le _) (by omega) x hx
  rw [Cc,getD_at hy,getD_at (show x<l.length by omega),h1,h2,beq_self_eq_true,Bool.true_and,decide_eq_false_iff_not] at h3
  omega
theorem IAn (l:List SGiven) (t:Int):(leafs l t).length≤l.length:=by
 rw [leafs,List.length_map];exact List.length_filter_le _ _
theorem JAn {l:List SGiven} (hl:l.length*24≤140737488351232):Sj l=some (ZY (Cc l) l.length 0):=by
 have inner:∀ (j k i F:Nat) (lf:List Int),lf.length - k=j→1≤k→k≤140737488351232→i<l.length→lf.length≤l.length→Zg (F+j+1) (.c1 l (k:Int) l (l.length:Int) (i:Int) lf)=bif Oi lf j k then Zg F (.c0 l l (l.length:Int) ((i+1:Nat):Int)) else some false:=by
  intro j
  induction j with
  | zero=>
   intro k i F lf hk h1 h2 hi hf
   have hw:w64 ((i:Int)+1)=((i+1:Nat):Int):=by rw [w64_id (by omega) (by omega)];rfl
   rw [Zg];simp only [Pq,hw]
   rw [NM (by simp;omega)];rfl
  | succ j ih=>
   intro k i F lf hk h1 h2 hi hf
   obtain ⟨q,rfl⟩:∃ q,k=q+1:=⟨k - 1,by omega⟩
   have hw:w64 (((q+1:Nat):Int)+1)=((q+1+1:Nat):Int):=by rw [w64_id (by omega) (by omega)];rfl
   have hq:w64 (((q+1:Nat):Int) - 1)=(q:Int):=by rw [w64_id (by omega) (by omega)];omega
   rw [show F+(j+1)+1=(F+j+1)+1 from rfl,Zg]
   simp only [Pq,hw,hq,ih (q+1+1) i F lf (by omega) (by omega) (by omega) hi hf,Int.toNat_natCast,show decide (((q+1:Nat):Int)<(lf.length:Int))=true from decide_eq_true (by omega),show decide ((0:Int)≤(q:Int))=true from decide_eq_true (by omega),show decide ((q:Int)<(lf.length:Int))=true from decide_eq_true (by omega),show decide ((0:Int)≤((q+1:Nat):Int))=true from decide_eq_true (by omega),Bool.and_self,cond_true,Oi,Nat.add_sub_cancel]
   cases decide (lf.getD q 0≥lf.getD (q+1) 0) <;> rfl
 have outer:∀ (j i m:Nat),i+j=l.length→Zg (m+j*(l.length+2)+1) (.c0 l l (l.length:Int) (i:Int))=some (Kr l j i):=by
  intro j
  induction j with
  | zero=>
   intro i m hi
   rw [Zg];simp only [Pq]
   rw [NM (by simp;omega)];rfl
  | succ j ih=>
   intro i m hi
   have hlf:=IAn l (l.getD i ⟨0,0,0⟩).fThing
   rw [show m+(j+1)*(l.length+2)+1=((m+(l.length+1 - ((leafs l (l.getD i ⟨0,0,0⟩).fThing).length - 1))+j*(l.length+2))+((leafs l (l.getD i ⟨0,0,0⟩).fThing).length - 1)+1)+1 by rw [Nat.succ_mul];omega,Zg]
   simp only [Pq,Int.toNat_natCast,BAn (show l.length*24≤140737488355328 by omega),Option.bind_some]
   rw [TB (by simp;omega),TB (by simp;omega)]
   refine (inner _ 1 i _ _ rfl (Nat.le_refl _) (by omega) (by omega) hlf).trans ?_
   rw [Kr,V8]
   cases Oi (leafs l (l.getD i ⟨0,0,0⟩).fThing) ((leafs l (l.getD i ⟨0,0,0⟩).fThing).length - 1) 1
   ·rfl
   ·rw [cond_true,show m+(l.length+1 - ((leafs l (l.getD i ⟨0,0,0⟩).fThing).length - 1))+j*(l.length+2)=(m+(l.length - ((leafs l (l.getD i ⟨0,0,0⟩).fThing).length - 1)))+j*(l.length+2)+1 by omega,ih (i+1) _ (by omega),Bool.true_and]
 obtain ⟨m,hm⟩:∃ m,gas=m+l.length*(l.length+2)+1:=⟨gas - (l.length*(l.length+2)+1),by have:=gas_lt2 (TAF (n:=l.length) (by omega));omega⟩
 rw [Sj,KAP,hm,←HAn]
 exact outer l.length 0 m (Nat.zero_add _)
theorem UAF:XZ=some HY:=by
 rw [XZ,DAQ,X8 (by decide),Option.bind_some,show (32:Int)=((32:Nat):Int) from rfl,SAR (by omega),Option.bind_some];rfl
theorem HAb {b:SBook} (h:b.fThings.length≤2932031007317):Ah b=some b:=by
 rw [Ah,EAQ,TB (by simp;omega)]
def VAF (b:SBook):Bool:=(b.fWord.size:Int) == 32 && ((b.fChain.size:Int) == 32 && (FN b.fTries 0 3 && (decide ((b.fThings.length:Int)≤8) && (FN b.fLast 0 1000 && FN b.fCount 0 10000))))
theorem KAn {b:SBook} (hb:b.fThings.length≤140737488351232):∀ m i,i≤b.fThings.length→b.fThings.length - i<m→Tq m (.c0 b.fThings b.fThings.length i b)=some (rise b.fLast (Ya b.fThings i) (b.fThings.drop i) && VAF b):=fun m i h1 h2=>
 loopN (A:=Unit) (n:=b.fThings.length) (Lp:=Tq) (st:=fun i _=>.c0 b.fThings b.fThings.length i b) (Inv:=fun _ _=>True) (out:=fun i _=>some (rise b.fLast (Ya b.fThings i) (b.fThings.drop i) && VAF b))
  (fun m _ _=>by
   simp only [Tq,IAF,Za,Option.bind_some,VAF]
   rw [show decide ((b.fThings.length:Int)<(b.fThings.length:Int))=false from decide_eq_false (by omega),List.drop_of_length_le (Nat.le_refl _)]
   cases (b.fWord.size:Int) == 32 <;> cases (b.fChain.size:Int) == 32 <;> cases FN b.fTries 0 3 <;> cases decide ((b.fThings.length:Int)≤8) <;> cases FN b.fLast 0 1000 <;> rfl)
  (fun m i _ hi _=>by
   have hw:w64 ((i:Int)+1)=((i+1:Nat):Int):=by rw [w64_id (by omega) (by omega)];rfl
   simp only [IAb hi]
   simp only [Tq,IAF,Int.toNat_natCast,getD_at hi,JAb,Option.bind_some,hw]
   rw [show decide ((i:Int)<(b.fThings.length:Int))=true from decide_eq_true (by omega),show decide ((0:Int)≤(i:Int))=true from decide_eq_true (by omega)]
   simp only [Bool.and_self,cond_true]
   cases h1:GY b.fThings[i]
   ·exact .inl rfl
   ·cases h2:decide (b.fThings[i].fId > b.fLast)
    ·by_cases h0:i=0
     ·subst h0
      refine .inr ⟨(),rfl,trivial,?_⟩
      rw [show decide (Ya b.fThings 0≥b.fThings[0].fId)=false from decide_eq_false (by have:=(Xe h1).2.2.1;simp only [Ya];omega)]
      rfl
     ·obtain ⟨j,rfl⟩:∃ j,i=j+1:=⟨i - 1,by omega⟩
      have hj:w64 (((j+1:Nat):Int) - 1)=(j:Int):=by rw [w64_id (by omega) (by omega)];omega
      have hjl:j<b.fThings.length:=by omega
      rw [TAR hjl]
      simp only [hj,Int.toNat_natCast,getD_at hjl,Bool.not_true,Bool.not_false,cond_false,Bool.true_and]
      rw [show decide (((j+1:Nat):Int) > 0)=true from decide_eq_true (by omega),show decide ((0:Int)≤(j:Int))=true from decide_eq_true (by omega),show decide ((j:Int)<(b.fThings.length:Int))=true from decide_eq_true (by omega)]
      simp only [Bool.and_self,cond_true]
      cases h3:decide (b.fThings[j].fId≥b.fThings[j+1].fId)
      ·exact .inr ⟨(),rfl,trivial,rfl⟩
      ·exact .inl rfl
    ·exact .inl rfl) m i () h1 h2 trivial
theorem KAb {b:SBook} (hb:b.fThings.length≤140737488351232):Xf b=some (XY b):=by
 have h0:=KAn hb gas 0 (Nat.zero_le _) (gas_lt (by omega))
 simp only [Xf,QAQ]
 refine h0.trans (congrArg some ?_)
 simp only [XY,VAF,List.drop_zero,Ya]
 cases rise b.fLast 0 b.fThings <;> simp
theorem LAn (x y:SThing):Y7 x y=some (grown x y):=by
 rw [Y7,SAQ,grown,Gh,show decide (y.fNext≥x.fNext)=decide (x.fNext≤y.fNext) from rfl]
 cases (y.fKind == x.fKind) <;> cases (bs y.fValue == bs x.fValue) <;> cases y.fSigns <;> cases x.fSigns <;> cases y.fWraps <;> cases x.fWraps <;> cases decide (x.fNext≤y.fNext) <;> cases y.fHidden <;> cases x.fHidden <;> cases y.fFixed <;> cases x.fFixed <;> rfl
theorem MAn {b:SBook} {x:SThing} (hb:XY b=true) (hx:x.fId≤1000):Z7 b x=some (match Sm b x with
 | some p=>(true,⟨b.fWord,b.fTries,p.1,p.2,b.fChain,b.fCount⟩)
 | none=>(false,b)):=by
 obtain ⟨b1,b2,b3,b4,b5,b6,b7⟩:=Qd.1 hb
 rw [Z7,UAQ,UAR (by omega),Option.bind_some,Sm]
 rcases WAR (xs:=b.fThings) (id:=x.fId) with ⟨o,j,t1,t2,t3,t4,t5⟩ | ⟨t1,t2⟩
 ·have hg:∀ z,b.fThings.getD j z=o:=fun z=>by rw [List.getD,t4];rfl
  have hs:=(XAR b7 t2).1
  rw [Nat.sub_zero] at hs
  rw [t1,t2]
  simp only [Int.toNat_natCast,hg,LAn,Option.bind_some,hs]
  rw [TB (by simp),TB (by simp;omega)]
  cases grown o x
  ·rfl
  ·rw [NM (by rfl),TB (by simp;omega)];rfl
 ·rw [t1,t2]
  simp only
  have hw:w64 (b.fLast+1)=b.fLast+1:=w64_id (by omega) (by omega)
  rw [NM (by rfl),hw]
  cases h1:(x.fId != b.fLast+1)
  ·by_cases h2:(b.fThings.length:Int)≥8
   ·rw [decide_eq_true h2];rfl
   ·rw [decide_eq_false h2,cond_false,cond_false,TB (by simp;omega)];rfl
  ·rfl
theorem LAb {b:SBook} {r:SRec} (hb:b.fThings.length≤140737488351232) (hr:r.fNum≤9223372036854775807):Oc b r=some (YX b r):=by
 rw [Oc,VAQ,Ii hr,Option.bind_some,KAb hb,Option.bind_some,YX]
 cases h1:XY b
 ·rfl
 cases h2:(TT r).2
 ·rfl
 by_cases h3:b.fCount≥10000
 ·rw [decide_eq_true h3];rfl
 obtain ⟨b1,b2,b3,b4,b5,b6,b7⟩:=Qd.1 h1
 have hz:=MAb r
 have hw:w64 (b.fCount+1)=b.fCount+1:=w64_id (by omega) (by omega)
 have hdig:=X8 (s:=b.fChain++(TT r).1) (by rw [ByteArray.size_append];omega)
 have hsz:decide (b.fChain.size+(TT r).1.size≤9223372036854775807)=true:=by rw [decide_eq_true_eq];omega
 simp only [decide_eq_false h3,Bool.not_true,Bool.or_self,cond_false,HAb (show b.fThings.length≤2932031007317 by omega),hdig,hsz,hw,Option.bind_some,cond_true]
 rcases QAF h2 with ⟨hk,hc⟩ | ⟨hk,hc⟩ | ⟨hk,hc⟩ | ⟨hk,hc⟩
 ·rw [hk];rfl
 ·rw [hk];rfl
 ·rw [hk]
  simp only [show ((3:Int) == 1)=false from rfl,show ((3:Int) == 2)=false from rfl,show ((3:Int) == 3)=true from rfl,cond_true,cond_false]
  rw [MAn h1 (Xe hc).2.2.2.1,Option.bind_some]
  cases Sm b r.fThing with
  | none=>rfl
  | some p=>simp only [Bool.not_true,cond_false,hw]
 ·rw [hk]
  simp only [show ((4:Int) == 1)=false from rfl,show ((4:Int) == 2)=false from rfl,show ((4:Int) == 3)=false from rfl,show ((4:Int) == 4)=true from rfl,cond_true,cond_false]
  rw [UAR hb,Option.bind_some]
  rcases WAR (xs:=b.fThings) (id:=r.fNum) with ⟨o,j,t1,t2,t3,t4,t5⟩ | ⟨t1,t2⟩
  ·have hs:=(XAR (x:=⟨r.fNum,0,false,false,false,false,⟨#[]⟩,0⟩) b7 t2).2
   rw [Nat.sub_zero] at hs
   simp only at hs
   rw [t1,t2]
   simp only [Int.toNat_natCast]
   have e:w64 ((j:Int)+1)=((j+1:Nat):Int):=by rw [w64_id (by omega) (by omega)];rfl
   simp only [e,Int.toNat_natCast,List.drop_zero,List.take_length,hs]
   rw [NM (by simp),TB (by simp;omega),TB (by rw [List.length_take,decide_eq_true_eq];omega),TB (by simp;omega),TB (by rw [List.length_take,List.length_drop,decide_eq_true_eq];omega)]
  ·rw [t1,t2];rfl
theorem NAb {b:SBook} {l:List SRec} (hb:b.fThings.length≤2932031007317) (hl:l.length≤140737488351232) (hr:∀ r ∈ l,r.fNum≤9223372036854775807):Ij b l=some (LY b l):=by
 have key:∀ (j i m:Nat) (b:SBook),i+j=l.length→b.fThings.length≤2932031007317→D8 (m+j+1) (.c0 l (l.length:Int) (i:Int) ⟨#[]⟩ 0 0 ⟨#[]⟩ 0 b.fWord b.fTries b.fLast b.fChain b.fCount [] b.fThings)=some (LY b (l.drop i)):=by
  intro j
  induction j with
  | zero=>
   intro i m b h hb
   obtain rfl:i=l.length:=by omega
   rw [D8]
   simp only [KAF]
   rw [NM (by simp),List.drop_length];rfl
  | succ j ih=>
   intro i m b h hb
   have hi:i<l.length:=by omega
   have e:w64 ((i:Int)+1)=((i+1:Nat):Int):=by rw [w64_id (by omega) (by omega)];rfl
   rw [show m+(j+1)+1=(m+j+1)+1 by omega,D8]
   simp only [KAF,e,Int.toNat_natCast,getD_at hi]
   rw [TB (by simp;omega),TB (by simp;omega),LAb (by show b.fThings.length≤_;omega) (hr _ (List.getElem_mem hi)),Option.bind_some,drop_at hi,LY]
   cases h2:(YX b l[i]).2
   ·rfl
   ·have h3:=Ar h2
    rw [NM (by rfl),cond_true]
    exact ih (i+1) m (YX b l[i]).1 (by omega) (by omega)
 obtain ⟨m,hm⟩:∃ m,gas=m+l.length+1:=⟨gas - (l.length+1),by have:=gas_lt (n:=l.length+1) (by omega);omega⟩
 rw [Ij,WAQ,HAb hb,Option.bind_some,hm]
 exact key l.length 0 m b (by omega) hb
theorem NAn {a b:List SThing} (h0:a.length≤140737488351232):G8 a b=some (RZ a b):=by
 rw [G8,YAQ]
 by_cases hl:a.length=b.length
 ·have key:∀ (j i m:Nat),i+j=a.length→F8 (m+j+1) (.c0 a b (a.length:Int) (i:Int))=some (RZ (a.drop i) (b.drop i)):=by
   intro j
   induction j with
   | zero=>
    intro i m h
    obtain rfl:i=a.length:=by omega
    rw [F8]
    simp only [LAF]
    rw [NM (by simp),List.drop_length,hl,List.drop_length];rfl
   | succ j ih=>
    intro i m h
    have hi:i<a.length:=by omega
    have hi2:i<b.length:=by omega
    have e:w64 ((i:Int)+1)=((i+1:Nat):Int):=by rw [w64_id (by omega) (by omega)];rfl
    rw [show m+(j+1)+1=(m+j+1)+1 by omega,F8]
    simp only [LAF,e,Int.toNat_natCast,getD_at hi,getD_at hi2,OAb,ih (i+1) m (by omega)]
    rw [TB (by simp;omega),TB (by simp;omega),TB (by simp;omega),drop_at hi,drop_at hi2,RZ]
    cases Lr a[i] b[i] <;> rfl
  obtain ⟨m,hm⟩:∃ m,gas=m+a.length+1:=⟨gas - (a.length+1),by have:=gas_lt (n:=a.length+1) (by omega);omega⟩
  rw [NM (by simp;omega),hm]
  exact key a.length 0 m (by omega)
 ·rw [TB (by simp;omega),PAb hl]
theorem YAR {a b:SBook} (h0:a.fThings.length≤140737488351232):Uf a b=some (Bc a b):=by
 rw [Uf,ZAQ,NAn h0,Bc]
 cases a.fWord.toList == b.fWord.toList <;> cases a.fTries == b.fTries <;> cases RZ a.fThings b.fThings <;> cases a.fLast == b.fLast <;> cases a.fChain.toList == b.fChain.toList <;> rfl
theorem QAb {d:SDisk} {n:ByteArray} (h0:d.fFiles.length≤140737488351232):Jj d n=some (Ac d n):=by
 have key:∀ (j i m:Nat),i+j=d.fFiles.length→I8 (m+j+1) (.c0 n d.fFiles (d.fFiles.length:Int) (i:Int))=some (match Zb (d.fFiles.drop i) n i with | some j=>(j:Int) | none=> -1):=by
  intro j
  induction j with
  | zero=>
   intro i m h
   obtain rfl:i=d.fFiles.length:=by omega
   rw [I8]
   simp only [MAF]
   rw [NM (by simp),List.drop_length];rfl
  | succ j ih=>
   intro i m h
   have hi:i<d.fFiles.length:=by omega
   have e:w64 ((i:Int)+1)=((i+1:Nat):Int):=by rw [w64_id (by omega) (by omega)];rfl
   rw [show m+(j+1)+1=(m+j+1)+1 by omega,I8]
   simp only [MAF,e,Int.toNat_natCast,getD_at hi,ih (i+1) m (by omega)]
   rw [TB (by simp;omega),TB (by simp;omega),drop_at hi,Zb]
   cases d.fFiles[i].fName.toList == n.toList <;> rfl
 obtain ⟨m,hm⟩:∃ m,gas=m+d.fFiles.length+1:=⟨gas - (d.fFiles.length+1),by have:=gas_lt (n:=d.fFiles.length+1) (by omega);omega⟩
 rw [Jj,AAR,hm,Ac]
 exact key d.fFiles.length 0 m (by omega)
theorem OAn {d:SDisk} {n:ByteArray} (h0:d.fFiles.length≤140737488351232):Au d n=some (CV d n):=by
 rw [Au,CAR,QAb h0,Option.bind_some,Ac,CV]
 cases h:Zb d.fFiles n 0 with
 | none=>rfl
 | some j=>
  have:=MAR h
  simp only [Int.toNat_natCast]
  rw [NM (by simp),TB (by simp;omega)];rfl
theorem PAn {s:Int} (h:R32 s):an s 1=s % 2:=by
 obtain ⟨h1,h2⟩:=h
 obtain ⟨n,rfl⟩:∃ n:Nat,s=(n:Int):=⟨s.toNat,by omega⟩
 unfold an
 show w32 (((BitVec.ofInt 32 (n:Int) &&& BitVec.ofInt 32 1).toNat:Nat):Int)=_
 rw [BitVec.ofInt_natCast,show BitVec.ofInt 32 1=BitVec.ofNat 32 1 from rfl,BitVec.toNat_and,BitVec.toNat_ofNat,BitVec.toNat_ofNat,Nat.mod_eq_of_lt (by omega:n<2 ^ 32),show 1 % 2 ^ 32=1 from rfl,Nat.and_one_is_mod,Oa (by omega) (by omega)]
 omega
theorem QAn (t:ByteArray) (i:Nat) (hi:i<t.size) (ht:t.size≤140737488351232):∀ (j k m:Nat) (s:Int),k+j=8→R32 s→Dh (m+j+1) (.c1 s t (i:Int) (k:Int))=Dh m (.c0 (Zm j s) t ((i+1:Nat):Int)):=by
 intro j
 induction j with
 | zero=>
  intro k m s hk hs
  have e:w64 ((i:Int)+1)=((i+1:Nat):Int):=by rw [w64_id (by omega) (by omega)];rfl
  rw [Dh]
  simp only [Wq,e]
  rw [NM (by simp;omega)]
  rfl
 | succ j ih=>
  intro k m s hk hs
  have e:w64 ((k:Int)+1)=((k+1:Nat):Int):=by rw [w64_id (by omega) (by omega)];rfl
  have h2:Int.fdiv s (2 ^ (Min.min (1:Int).toNat (IntKind.bits IntKind.u32)))=s / 2:=Int.fdiv_eq_ediv_of_nonneg _ (by decide)
  rw [show m+(j+1)+1=(m+j+1)+1 by omega,Dh]
  simp only [Wq,e,h2,ZAR,PAn hs,Ud]
  rw [TB (by simp;omega),Zm]
  by_cases h:s % 2=1
  ·rw [TB (by simp [h]),ih (k+1) m _ (by omega) (Nr _ _),Dn,if_pos h]
  ·rw [NM (by simp [h]),ih (k+1) m _ (by omega) (by unfold R32 at *;omega),Dn,if_neg h]
theorem RAn {t:ByteArray} {s:Int} (ht:t.size≤140737488351232):O8 s t=some (Qr s (bs t)):=by
 have hl:=bs_len t
 have key:∀ (j i m:Nat) (s:Int),i+j=t.size→Dh (m+10*j+1) (.c0 s t (i:Int))=some (Qr s ((bs t).drop i)):=by
  intro j
  induction j with
  | zero=>
   intro i m s h
   rw [Dh]
   simp only [Wq]
   rw [NM (by simp;omega),List.drop_of_length_le (by omega)];rfl
  | succ j ih=>
   intro i m s h
   have hb:=OZ (Dc t) i
   rw [show m+10*(j+1)+1=(m+10*j+1)+8+1+1 by omega,Dh]
   simp only [Wq,Ud]
   rw [TB (by simp;omega),TB (by simp;omega),Vd (by omega),Oa (by omega) (by omega)]
   have h1:=QAn t i (by omega) ht 8 0 (m+10*j+1) (xr s ((bs t).getD i 0)) (by omega) (Nr _ _)
   rw [show ((0:Nat):Int)=0 from rfl] at h1
   rw [h1,ih (i+1) m _ (by omega),drop_at (by omega:i<(bs t).length),getD_at (by omega)]
   rfl
 obtain ⟨m,hm⟩:∃ m,gas=m+10*t.size+1:=⟨gas - (10*t.size+1),by have:=gas_lt (n:=10*t.size+1) (by omega);omega⟩
 rw [O8,EAR,hm]
 have:=key t.size 0 m s (by omega)
 rw [List.drop_zero] at this
 exact this
theorem RAb {t:ByteArray} (ht:t.size≤140737488351232):Hf t=some (Ja (bs t)):=by
 rw [Hf,GAR,RAn ht];rfl
theorem SAn {f:ByteArray} (hf:f.size≤140737488351232):Wi f=some (Ob f):=by
 rw [Wi,XAG,Ob]
 by_cases h0:20000<f.size
 ·rw [TB (by simp;omega),TB (by simp;omega)]
 ·rw [NM (by simp;omega),NM (by simp;omega)]
  have key:∀ (j a m:Nat) (out:List ByteArray),a≤f.size→f.size<a+j→out.length≤a→S9 (m+j+1) (.c0 f (a:Int) out)=some (out++(OY j f a).1,((OY j f a).2:Int)):=by
   intro j
   induction j with
   | zero=>intro a m out ha hj;omega
   | succ j ih=>
    intro a m out ha hj ho
    rw [show m+(j+1)+1=(m+j+1)+1 by omega,S9]
    simp only [YAG,OY]
    rw [TAn hf ha,Option.bind_some]
    rcases AAS hf ha with h | ⟨v,h,hv0,hv1,hA⟩
    ·rw [show Qb f a=none by rw [Qb,h];rfl,h]
     rw [List.append_nil];rfl
    ·have hp:=Xd v
     have hsz:=hA.size.resolve_left (by intro h;rw [h] at hp;simp at hp)
     obtain ⟨R,hR⟩:∃ R,R=Qb f a:=⟨_,rfl⟩
     have hn0:=hR
     rw [Qb,h] at hn0
     rw [h]
     generalize hq:a+(IK v).length=q at hsz hn0
     simp only [Bool.not_true,cond_false,Za,Option.bind_some]
     cases hr:FN v 1 9000
     ·rw [hr] at hn0
      have hn1:R=none:=hn0
      rw [←hR,hn1,List.append_nil];rfl
     ·rw [hr] at hn0
      simp only [Bool.not_true,cond_false,Bool.true_and] at hn0 ⊢
      rw [w64_id (n:=(f.size:Int) - (q:Int)) (by omega) (by omega),w64_id (n:=(f.size:Int) - (q:Int) - 4) (by omega) (by omega),w64_id (n:=(q:Int)+4) (by omega) (by omega),w64_id (n:=(q:Int)+4+v) (by omega) (by omega)]
      by_cases h3:v > (f.size:Int) - (q:Int) - 4
      ·rw [TB (by simp;omega)]
       rw [decide_eq_false (by omega:¬ v≤(f.size:Int) - (q:Int) - 4)] at hn0
       have hn1:R=none:=hn0
       rw [←hR,hn1,List.append_nil]
      ·have e2:((q:Int)+4).toNat=q+4:=by omega
       have e3:((q:Int)+4+v).toNat=q+4+v.toNat:=by omega
       have hxs:(f.extract (q+4) (q+4+v.toNat)).size=v.toNat:=by rw [ByteArray.size_extract];omega
       rw [decide_eq_true (by omega:v≤(f.size:Int) - (q:Int) - 4),e2,e3,Int.toNat_natCast,Bool.true_and] at hn0
       rw [NM (by simp;omega),TB (by simp;omega),TB (by simp;omega),e2,e3,Int.toNat_natCast,RAb (by omega),Option.bind_some,WAF (Sr _),Option.bind_some,Gh,SN (En (Sr _))]
       cases hc:(bs (f.extract q (q+4)) == four (Ja (bs (f.extract (q+4) (q+4+v.toNat)))))
       ·rw [hc] at hn0
        have hn1:R=none:=hn0
        rw [←hR,hn1,List.append_nil];rfl
       ·rw [hc] at hn0
        have hn1:R=some (f.extract (q+4) (q+4+v.toNat),q+4+v.toNat):=hn0
        rw [←hR,hn1,NM (by rfl),TB (by simp;omega),show (q:Int)+4+v=((q+4+v.toNat:Nat):Int) by omega,ih (q+4+v.toNat) m _ (by omega) (by omega) (by simp;omega)]
        simp
  obtain ⟨m,hm⟩:∃ m,gas=m+(f.size+1)+1:=⟨gas - (f.size+2),by have:=gas_lt (n:=f.size+2) (by omega);omega⟩
  rw [hm,show (0:Int)=((0:Nat):Int) from rfl,key (f.size+1) 0 m [] (by omega) (by omega) (Nat.le_refl _)]
  rfl
theorem UAn {t:ByteArray} (h:t.size≤140737488351232):Gj t=some (frameT t):=by
 rw [Gj,WAH,Za,Option.bind_some,frameT]
 cases h1:FN (t.size:Int) 1 9000
 ·rfl
 ·rw [WX] at h1
  have:=PZ (n:=(t.size:Int)) (by omega)
  rw [NM (by rfl),Gn (by omega),Option.bind_some,RAb h,Option.bind_some,WAF (Sr _),Option.bind_some,TB (by rw [ofBytes_size,ofBytes_size,decide_eq_true_eq];have:(four (Ja (bs t))).length=4:=rfl;omega)]
  rw [TB (by rw [ByteArray.size_append,ofBytes_size,ofBytes_size,decide_eq_true_eq];have:(four (Ja (bs t))).length=4:=rfl;omega),SAb,cond_true]
theorem VAn {k file:ByteArray} (hk:k.size≤900000000) (hf:file.size≤140737488351232):Ut k file=some (CY k file):=by
 obtain ⟨u1,u2,_,_⟩:=PAF (file:=file)
 rw [Ut,YAH,SAn hf,Option.bind_some,CY]
 generalize (Ob file).1=l at u1 u2
 have key:∀ (j i m:Nat) (e:Int) (out:List SRec),i+j=l.length→0≤e→e≤30000*i→out.length≤i→Tt (m+j+1) (.c0 k e (l.length:Int) (i:Int) out l)=some (out++(DZ k ((i:Int)+1) (l.drop i)).1,e+(DZ k ((i:Int)+1) (l.drop i)).2):=by
  intro j
  induction j with
  | zero=>
   intro i m e out h he he2 ho
   obtain rfl:i=l.length:=by omega
   rw [Tt]
   simp only [KAA]
   rw [NM (by simp),List.drop_length,DZ,List.append_nil,Int.add_zero]
  | succ j ih=>
   intro i m e out h he he2 ho
   have hi:i<l.length:=by omega
   have hz:=u1 _ (List.getElem_mem hi)
   have ew:w64 ((i:Int)+1)=((i+1:Nat):Int):=by rw [w64_id (by omega) (by omega)];rfl
   have hoz:=LAR k l[i] ((i+1:Nat):Int)
   have hfz:=TAa (t:=l[i]) (by omega)
   rw [show m+(j+1)+1=(m+j+1)+1 by omega,Tt]
   simp only [KAA,ew,Int.toNat_natCast,getD_at hi]
   rw [TB (by simp;omega),TB (by simp;omega),WAn hk (by omega),Option.bind_some,DAm (by omega),Option.bind_some,drop_at hi,DZ,show ((i:Int)+1)=((i+1:Nat):Int) from rfl]
   cases (RX k ((i+1:Nat):Int) l[i]).2
   ·rw [Bool.false_and,cond_false,List.append_nil,Int.add_zero];rfl
   ·rw [NM (by rfl),Bool.true_and]
    cases (RY (RX k ((i+1:Nat):Int) l[i]).1).2
    ·rw [cond_false,List.append_nil,Int.add_zero];rfl
    ·have h2:=ih (i+1) m (e+((frameT l[i]).1.size:Int)) (out++[(RY (RX k ((i+1:Nat):Int) l[i]).1).1]) (by omega) (by omega) (by omega) (by simp;omega)
     simp only [Bool.not_true,cond_false,cond_true]
     rw [TB (by simp;omega),UAn (by omega),Option.bind_some,w64_id (by omega) (by omega),h2,List.append_assoc,Int.add_assoc]
     rfl
 obtain ⟨m,hm⟩:∃ m,gas=m+l.length+1:=⟨gas - (l.length+1),by have:=gas_lt (n:=l.length+1) (by omega);omega⟩
 have h0:=key l.length 0 m 0 [] (by omega) (by omega) (by omega) (Nat.le_refl _)
 rw [List.nil_append,Int.zero_add,List.drop_zero] at h0
 rw [hm]
 exact h0
theorem TAb {d:SDisk} (h0:d.fFiles.length≤140737488351232):Rf d=some (Td d):=by
 rw [Rf,ZAH,Td]
 have key:∀ (j i m:Nat),i+j=d.fFiles.length→Yt (m+j+1) (.c0 d.fFiles (d.fFiles.length:Int) (i:Int) d)=some (decide ((d.fFiles.length:Int)≤30) && Qi (Ih d.fFiles i) (d.fFiles.drop i)):=by
  intro j
  induction j with
  | zero=>
   intro i m h
   obtain rfl:i=d.fFiles.length:=by omega
   rw [Yt]
   simp only [LAA]
   rw [NM (by simp),List.drop_length,Qi,Bool.and_true]
  | succ j ih=>
   intro i m h
   have hi:i<d.fFiles.length:=by omega
   have e:w64 ((i:Int)+1)=((i+1:Nat):Int):=by rw [w64_id (by omega) (by omega)];rfl
   have h2:=ih (i+1) m (by omega)
   have fls:∀ b:Bool,(b && false)=false:=fun b=>by cases b <;> rfl
   rw [show m+(j+1)+1=(m+j+1)+1 by omega,Yt]
   simp only [LAA,e,Int.toNat_natCast,getD_at hi,Za,Option.bind_some]
   rw [TB (by simp;omega),TB (by simp;omega),UAb hi,fOk,h2]
   cases hn:FN (d.fFiles[i].fName.size:Int) 1 8
   ·rw [Bool.false_and,Bool.false_and,fls];rfl
   cases decide ((d.fFiles[i].fText.size:Int) > 20000)
   ·cases FN d.fFiles[i].fKept 0 (d.fFiles[i].fText.size:Int)
    ·simp only [Bool.and_false,Bool.false_and];rfl
    ·by_cases hz:i=0
     ·subst hz
      rw [WX] at hn
      rw [show Ih d.fFiles 0=⟨#[]⟩ from rfl,VAb (by omega)];rfl
     ·obtain ⟨i',rfl⟩:∃ q,i=q+1:=⟨i - 1,by omega⟩
      have e2:w64 (((i'+1:Nat):Int) - 1)=(i':Int):=by rw [w64_id (by omega) (by omega)];omega
      rw [e2,Int.toNat_natCast,getD_at (show i'<d.fFiles.length by omega),BAS (i:=i') (by omega),NM (by rfl),NM (by rfl),NM (by rfl),TB (by simp;try omega),TB (by simp;try omega)]
      cases Op.bytesLess d.fFiles[i'].fName.toList d.fFiles[i'+1].fName.toList
      ·simp only [Bool.and_false,Bool.false_and];rfl
      ·rfl
   ·simp only [Bool.and_false,Bool.false_and,Bool.not_true];rfl
 obtain ⟨m,hm⟩:∃ m,gas=m+d.fFiles.length+1:=⟨gas - (d.fFiles.length+1),by have:=gas_lt (n:=d.fFiles.length+1) (by omega);omega⟩
 rw [hm]
 exact key d.fFiles.length 0 m (by omega)
theorem WAb {k:ByteArray} {d:SDisk} (hk:k.size≤900000000) (hd:d.fFiles.length≤140737488351232) (hf:∀ f ∈ d.fFiles,f.fText.size≤140737488351232):Tf k d=some (SY k d):=by
 have hfs:(CV d PX).1.size≤140737488351232:=WAa hf
 obtain ⟨r1,r2⟩:=VAa k (CV d PX).1
 have hl:=YAa k (CV d PX).1
 rw [Tf,BAI,show (⟨#[98,111,111,107]⟩:ByteArray)=PX from rfl,show (⟨#[98,111,111,107,43]⟩:ByteArray)=nNew from rfl,OAn hd,Option.bind_some,VAn hk hfs,Option.bind_some,UAF,Option.bind_some,NAb (Nat.zero_le _) (by omega) (NAm _ _),Option.bind_some,TAb hd,Option.bind_some,QAb hd,SY]
 cases Td d
 ·rfl
 cases (LY HY (CY k (CV d PX).1).1).2
 ·rfl
 simp only [Option.bind_some,Bool.not_true,Bool.or_self,cond_false]
 by_cases he:(CY k (CV d PX).1).2=((CV d PX).1.size:Int)
 ·rw [show ((CY k (CV d PX).1).2 == ((CV d PX).1.size:Int))=true by rw [beq_iff_eq];exact he]
  cases decide (Ac d nNew≥0) <;> rfl
 ·rw [show ((CY k (CV d PX).1).2 == ((CV d PX).1.size:Int))=false by rw [beq_eq_false_iff_ne];exact he,cond_false,cond_false]
  have hg:(decide (0≤(CY k (CV d PX).1).2) && decide ((CY k (CV d PX).1).2≤((CV d PX).1.size:Int)))=true:=by rw [Bool.and_eq_true,decide_eq_true_eq,decide_eq_true_eq];exact ⟨r1,r2⟩
  simp only [hg,cond_true]
  cases decide (Ac d nNew≥0) <;> rfl
theorem XAn {l:SLife} (hk:l.fBox.fKey.size≤900000000) (hd:l.fBox.fDisk.fFiles.length≤140737488351232) (hf:∀ f ∈ l.fBox.fDisk.fFiles,f.fText.size≤140737488351232) (hl:l.fDone.length≤140737488351232) (hr:∀ r ∈ l.fDone,r.fNum≤9223372036854775807):Lj l=some (Um l):=by
 have hn:=NAR (b:=HY) (l:=l.fDone) (Nat.zero_le _)
 rw [Lj,EAI,UAF,Option.bind_some,NAb (Nat.zero_le _) hl hr,Option.bind_some,Um]
 simp only [YAR (show (LY HY l.fDone).1.fThings.length≤140737488351232 by omega),WAb hk hd hf,Option.bind_some]
 cases (LY HY l.fDone).2
 ·rfl
 cases l.fBox.fUp
 ·cases (SY l.fBox.fKey l.fBox.fDisk).2.2 <;> rfl
 ·rfl
theorem XAb {b:SBook} {t:Int} (h:b.fThings.length≤140737488351232):Nc b t=some (match IY b.fThings t with | some x=>(x,true) | none=>(Pn,false)):=by
 have hp:=YAb t b.fThings 0
 simp only [Nc,GAI,UAR h,Option.bind_some]
 cases hq:IZ b.fThings t 0 with
 | none=>rw [hq] at hp;simp only at hp ⊢;rw [hp];rfl
 | some j=>
  rw [hq] at hp
  simp only [Nat.sub_zero,Nat.zero_add] at hp ⊢
  obtain ⟨_,h1,h2⟩:=hp
  rw [h2,List.getElem?_eq_getElem h1]
  simp only [Int.toNat_natCast,getD_at h1]
  rw [show (decide ((j:Int)<0))=false from decide_eq_false (by omega),show (decide ((0:Int)≤(j:Int)))=true from decide_eq_true (by omega),show (decide ((j:Int)<(b.fThings.length:Int)))=true from decide_eq_true (by omega)]
  rfl
theorem YAn (x y:SThing):(y.fKind == x.fKind)=(x.fKind == y.fKind)∧(bs y.fValue == bs x.fValue)=(bs x.fValue == bs y.fValue):=by
 constructor <;> (rw [Bool.eq_iff_iff,beq_iff_eq,beq_iff_eq];exact ⟨Eq.symm,Eq.symm⟩)
theorem ZAn (l:List SRec) (b n:SBook) (i:Nat) (hi:i<l.length) (hl:l.length≤140737488351232) (hb:b.fThings.length≤1000) (hn:n.fThings.length≤1000):∀ (j k m:Nat),k+j=b.fThings.length→
  Vf (m+j+1) (.c1 l (l.length:Int) (i:Int) (b.fThings.length:Int) (k:Int) b.fWord b.fTries b.fLast b.fChain b.fCount n.fWord n.fTries n.fLast n.fChain n.fCount b.fThings n.fThings)=bif (b.fThings.drop k).all (Vm n.fThings) then Vf m (.c0 l (l.length:Int) ((i+1:Nat):Int) n.fWord n.fTries n.fLast n.fChain n.fCount n.fThings) else some false:=by
 intro j
 induction j with
 | zero=>
  intro k m h
  obtain rfl:k=b.fThings.length:=by omega
  have e:w64 ((i:Int)+1)=((i+1:Nat):Int):=by rw [w64_id (by omega) (by omega)];rfl
  rw [Vf]
  simp only [Ro,e]
  rw [NM (by simp),List.drop_length];rfl
 | succ j ih=>
  intro k m h
  have hk:k<b.fThings.length:=by omega
  have e:w64 ((k:Int)+1)=((k+1:Nat):Int):=by rw [w64_id (by omega) (by omega)];rfl
  have h2:=ih (k+1) m (by omega)
  rw [show m+(j+1)+1=(m+j+1)+1 by omega,Vf]
  simp only [Ro,e,Int.toNat_natCast,getD_at hk]
  rw [TB (by simp;omega),TB (by simp;omega),XAb (b:=⟨n.fWord,n.fTries,n.fThings,n.fLast,n.fChain,n.fCount⟩) (by show n.fThings.length≤_;omega),Option.bind_some,drop_at hk,List.all_cons,Vm,h2]
  cases ht:IY n.fThings b.fThings[k].fId with
  | none=>rfl
  | some y=>
   obtain ⟨s1,s2⟩:=YAn b.fThings[k] y
   simp only [cond_true,stay,Gh,bne,s1,s2]
   cases b.fThings[k].fKind == y.fKind <;> cases bs b.fThings[k].fValue == bs y.fValue <;> cases b.fThings[k].fHidden <;> cases y.fHidden <;> cases b.fThings[k].fFixed <;> cases y.fFixed <;> cases decide (y.fNext<b.fThings[k].fNext) <;> rfl
theorem AAo {l:List SRec} (hl:l.length≤140737488351232) (hr:∀ r ∈ l,r.fNum≤9223372036854775807):Nj l=some (Ue HY l):=by
 have key:∀ (j i m:Nat) (b:SBook),i+j=l.length→b.fThings.length≤8→Vf (m+12*j+1) (.c0 l (l.length:Int) (i:Int) b.fWord b.fTries b.fLast b.fChain b.fCount b.fThings)=some (Ue b (l.drop i)):=by
  intro j
  induction j with
  | zero=>
   intro i m b h hb
   obtain rfl:i=l.length:=by omega
   rw [Vf]
   simp only [Ro]
   rw [NM (by simp),List.drop_length];rfl
  | succ j ih=>
   intro i m b h hb
   have hi:i<l.length:=by omega
   rw [show m+12*(j+1)+1=(((m+10 - b.fThings.length)+12*j+1)+b.fThings.length+1)+1 by omega,Vf]
   simp only [Ro,Int.toNat_natCast,getD_at hi]
   rw [TB (by simp;omega),TB (by simp;omega),LAb (b:=b) (by omega) (hr _ (List.getElem_mem hi)),Option.bind_some,drop_at hi,Ue]
   cases h2:(YX b l[i]).2
   ·rfl
   ·have h3:=Ar h2
    rw [NM (by rfl)]
    have h4:=ZAn l b (YX b l[i]).1 i hi hl (by omega) (by omega) b.fThings.length 0 ((m+10 - b.fThings.length)+12*j+1) (by omega)
    rw [show ((0:Nat):Int)=0 from rfl,List.drop_zero] at h4
    rw [h4,ih (i+1) _ (YX b l[i]).1 (by omega) h3]
    cases b.fThings.all (Vm (YX b l[i]).1.fThings) <;> rfl
 obtain ⟨m,hm⟩:∃ m,gas=m+12*l.length+1:=⟨gas - (12*l.length+1),by have:=gas_lt (n:=12*l.length+1) (by omega);omega⟩
 rw [Nj,JAI,UAF,Option.bind_some,hm]
 exact key l.length 0 m HY (by omega) (Nat.zero_le _)
theorem BAo {b:SBox} (hl:b.fLives.length≤140737488351232) (ht:b.fBook.fThings.length≤140737488351232):Oj b=some (QAR b):=by
 have key:∀ (j i m:Nat),i+j=b.fLives.length→Iu (m+j+1) (.c0 b.fLives (b.fLives.length:Int) (i:Int) b)=some (Hr b j i):=by
  intro j
  induction j with
  | zero=>
   intro i m hi
   rw [Iu];simp only [UAA]
   rw [NM (by simp;omega)];rfl
  | succ j ih=>
   intro i m hi
   have hw:w64 ((i:Int)+1)=((i+1:Nat):Int):=by rw [w64_id (by omega) (by omega)];rfl
   have d1:decide ((i:Int)<(b.fLives.length:Int))=true:=decide_eq_true (by omega)
   have d0:decide ((0:Int)≤(i:Int))=true:=decide_eq_true (by omega)
   rw [show m+(j+1)+1=(m+j+1)+1 from rfl,Iu]
   simp only [UAA,XAb ht,Za,Option.bind_some,d0,d1,Bool.and_self,cond_true,Int.toNat_natCast,hw,ih (i+1) m (by omega),Hr,PAR]
   cases IY b.fBook.fThings (b.fLives.getD i ⟨0,0⟩).fId with
   | none=>rfl
   | some x=>
    simp only [bne]
    cases x.fKind == 2
    ·rfl
    cases FN (b.fLives.getD i ⟨0,0⟩).fNext 0 x.fNext
    ·rfl
    by_cases h0:i=0
    ·subst h0;rfl
    ·obtain ⟨k,rfl⟩:∃ k,i=k+1:=⟨i - 1,by omega⟩
     have hk:w64 (((k+1:Nat):Int) - 1)=(k:Int):=by rw [w64_id (by omega) (by omega)];omega
     rw [show decide (((k+1:Nat):Int) > 0)=true from decide_eq_true (by omega)]
     simp only [hk,Int.toNat_natCast,show decide ((0:Int)≤(k:Int))=true from decide_eq_true (by omega),show decide ((k:Int)<(b.fLives.length:Int))=true from decide_eq_true (by omega),Bool.and_self,cond_true,Nat.add_sub_cancel]
     cases decide ((b.fLives.getD k ⟨0,0⟩).fId≥(b.fLives.getD (k+1) ⟨0,0⟩).fId) <;> rfl
 obtain ⟨m,hm⟩:∃ m,gas=m+b.fLives.length+1:=⟨gas - (b.fLives.length+1),by have:=gas_lt (n:=b.fLives.length) (by omega);omega⟩
 rw [Oj,KAI,hm]
 exact key b.fLives.length 0 m (Nat.zero_add _)
theorem CAo {b:SBox} (hd:b.fDisk.fFiles.length≤140737488351232) (hf:∀ f ∈ b.fDisk.fFiles,f.fText.size≤140737488351232) (ht:b.fBook.fThings.length≤140737488351232) (hs:b.fSessions.length≤140737488351232) (hl:b.fLives.length≤140737488351232):Pj b=some (Q8 b):=by
 rw [Pj,LAI,TAb hd,Za,Q8]
 simp only [Option.bind_some,bne]
 cases hz:(b.fKey.size:Int) == 32
 ·rfl
 have hk:b.fKey.size≤900000000:=by rw [beq_iff_eq] at hz;omega
 obtain ⟨l1,l2⟩:=DAb b.fKey b.fDisk
 have key:b.fUp=true→∀ (j i m:Nat),i+j=b.fSessions.length→i≤3→Nu (m+j+1) (.c0 b.fSessions (b.fSessions.length:Int) (i:Int) b)=some (decide ((b.fSessions.length:Int)≤3) && (Xm b j i && Ir b)):=by
  intro hup j
  induction j with
  | zero=>
   intro i m hi h3
   rw [Nu];simp only [Lu]
   rw [NM (by simp;omega),Ir,hup,decide_eq_true (by omega:(b.fSessions.length:Int)≤3)]
   simp only [WAb hk hd hf,YAR (show (SY b.fKey b.fDisk).1.fThings.length≤140737488351232 by omega),KAb ht,BAo hl ht,Option.bind_some]
   cases (SY b.fKey b.fDisk).2.2 <;> cases ((SY b.fKey b.fDisk).2.1.length:Int) == 0 <;> cases XY b.fBook <;> cases Bc (SY b.fKey b.fDisk).1 b.fBook <;> rfl
  | succ j ih=>
   intro i m hi h3
   have hw:w64 ((i:Int)+1)=((i+1:Nat):Int):=by rw [w64_id (by omega) (by omega)];rfl
   have d1:decide ((i:Int)<(b.fSessions.length:Int))=true:=decide_eq_true (by omega)
   have d0:decide ((0:Int)≤(i:Int))=true:=decide_eq_true (by omega)
   rw [show m+(j+1)+1=(m+j+1)+1 from rfl,Nu]
   by_cases h4:i=3
   ·simp only [Lu,d0,d1,Bool.and_self,cond_true]
    rw [decide_eq_true (by omega:(i:Int)≥3),decide_eq_false (by omega:¬ (b.fSessions.length:Int)≤3)];rfl
   have d3:decide ((i:Int)≥3)=false:=decide_eq_false (by omega)
   simp only [Lu,Za,Option.bind_some,d0,d1,d3,Bool.and_self,cond_true,cond_false,Int.toNat_natCast,hw,ih (i+1) m (by omega) (by omega),Xm,RAR]
   cases FN (b.fSessions.getD i ⟨0,false⟩).fId 1 b.fOpened
   ·simp
   by_cases h0:i=0
   ·subst h0;simp
   ·obtain ⟨k,rfl⟩:∃ k,i=k+1:=⟨i - 1,by omega⟩
    have hk:w64 (((k+1:Nat):Int) - 1)=(k:Int):=by rw [w64_id (by omega) (by omega)];omega
    rw [show decide (((k+1:Nat):Int) > 0)=true from decide_eq_true (by omega)]
    simp only [hk,Int.toNat_natCast,show decide ((0:Int)≤(k:Int))=true from decide_eq_true (by omega),show decide ((k:Int)<(b.fSessions.length:Int))=true from decide_eq_true (by omega),Bool.and_self,cond_true,Nat.add_sub_cancel]
    cases decide ((b.fSessions.getD k ⟨0,false⟩).fId≥(b.fSessions.getD (k+1) ⟨0,false⟩).fId) <;> simp
 cases hdk:Td b.fDisk
 ·rfl
 cases ho:FN b.fOpened 0 1000
 ·simp
 cases hup:b.fUp
 ·rw [Ir,hup]
  simp only [UAF,YAR ht,Option.bind_some,Bool.not_false,Bool.not_true,cond_true,cond_false,Bool.true_and]
  cases hn:(b.fSessions.length:Int) == 0
  ·simp
  ·have hn0:b.fSessions.length=0:=by rw [beq_iff_eq] at hn;omega
   rw [hn0]
   cases (b.fLives.length:Int) == 0 <;> simp [Xm]
 ·obtain ⟨m,hm⟩:∃ m,gas=m+b.fSessions.length+1:=⟨gas - (b.fSessions.length+1),by have:=gas_lt (n:=b.fSessions.length) (by omega);omega⟩
  have h0:=key hup b.fSessions.length 0 m (Nat.zero_add _) (by omega)
  simp only [Bool.not_true,cond_false,Bool.true_and]
  rw [hm]
  exact h0
theorem DAo {l:SLife} (hk:l.fBox.fKey.size≤900000000) (hd:l.fBox.fDisk.fFiles.length≤140737488351232) (hf:∀ f ∈ l.fBox.fDisk.fFiles,f.fText.size≤140737488351232) (ht:l.fBox.fBook.fThings.length≤140737488351232) (hs:l.fBox.fSessions.length≤140737488351232) (hv:l.fBox.fLives.length≤140737488351232) (hg:l.fGives.length*24≤140737488351232) (hl:l.fDone.length≤140737488351232) (hr:∀ r ∈ l.fDone,r.fNum≤9223372036854775807):Ru l=some (FAb l):=by
 have key:∀ (j i m:Nat),i+j=l.fGives.length→Qu (m+j+1) (.c0 l.fGives (l.fGives.length:Int) (i:Int) l)=some (Jr l j i && U8 l):=by
  intro j
  induction j with
  | zero=>
   intro i m hi
   rw [Qu];simp only [ZAA,ZAm (show l.fGives.length≤140737488351232 by omega),JAn hg,XAn hk hd hf hl hr,AAo hl hr,CAo hd hf ht hs hv,Option.bind_some]
   rw [NM (by simp;omega),U8]
   cases ZY (Ub l.fGives) l.fGives.length 0 <;> cases ZY (Cc l.fGives) l.fGives.length 0 <;> cases Um l <;> cases Ue HY l.fDone <;> rfl
  | succ j ih=>
   intro i m hi
   have hw:w64 ((i:Int)+1)=((i+1:Nat):Int):=by rw [w64_id (by omega) (by omega)];rfl
   have d1:decide ((i:Int)<(l.fGives.length:Int))=true:=decide_eq_true (by omega)
   have d0:decide ((0:Int)≤(i:Int))=true:=decide_eq_true (by omega)
   rw [show m+(j+1)+1=(m+j+1)+1 from rfl,Qu]
   simp only [ZAA,d0,d1,Bool.and_self,cond_true,Int.toNat_natCast,hw,ih (i+1) m (by omega),YAm hl,Option.bind_some,Jr]
   cases decide ((l.fGives.getD i ⟨0,0,0⟩).fLeaf≥Ve l.fDone (l.fGives.getD i ⟨0,0,0⟩).fThing l.fDone.length 0 0) <;> rfl
 obtain ⟨m,hm⟩:∃ m,gas=m+l.fGives.length+1:=⟨gas - (l.fGives.length+1),by have:=gas_lt (n:=l.fGives.length+1) (by omega);omega⟩
 rw [Ru,OAI,hm]
 exact key l.fGives.length 0 m (Nat.zero_add _)
theorem EAo (a:SFile)  : Tj a a=some true:=by
 simp [Tj,PAI]
theorem FAo {a:(List SFile)} (h:a.length≤140737488351232):Vu a a=some true:=by
 have h0:a.length≤140737488351232:=h
 have key:∀ m i,i≤a.length→a.length - i<m→Uo m (.c0 a a i)=some true:=fun m i h1 h2=>
  loopN (A:=Unit) (n:=a.length) (Lp:=Uo) (st:=fun i _=>.c0 a a i) (Inv:=fun _ _=>True) (out:=fun _ _=>some true)
   (fun m _ _=>by simp [Uo,BAB])
   (fun m i _ hi _=>.inr ⟨(),by
    have hw:w64 ((i:Int)+1)=((i+1:Nat):Int):=by rw [w64_id (by omega) (by omega)];rfl
    simp only [Uo,BAB,Int.toNat_natCast,hw,EAo _,getD_at hi,Option.bind_some]
    simp [hi],trivial,rfl⟩) m i () h1 h2 trivial
 have h0:=key gas 0 (Nat.zero_le _) (gas_lt (by omega))
 unfold Vu RAI
 simp only [bne_self_eq_false,cond_false]
 exact h0
theorem GAo {a:SDisk} (h:a.fFiles.length≤140737488351232):Wu a a=some true:=by
 simp [Wu,TAI,FAo h]
theorem ZAb (a:SThing)  : Yf a a=some true:=by
 simp [Yf,UAI]
theorem HAo {a:(List SThing)} (h:a.length≤140737488351232):Zu a a=some true:=by
 have h0:a.length≤140737488351232:=h
 have key:∀ m i,i≤a.length→a.length - i<m→Vo m (.c0 a a i)=some true:=fun m i h1 h2=>
  loopN (A:=Unit) (n:=a.length) (Lp:=Vo) (st:=fun i _=>.c0 a a i) (Inv:=fun _ _=>True) (out:=fun _ _=>some true)
   (fun m _ _=>by simp [Vo,CAB])
   (fun m i _ hi _=>.inr ⟨(),by
    have hw:w64 ((i:Int)+1)=((i+1:Nat):Int):=by rw [w64_id (by omega) (by omega)];rfl
    simp only [Vo,CAB,Int.toNat_natCast,hw,ZAb _,getD_at hi,Option.bind_some]
    simp [hi],trivial,rfl⟩) m i () h1 h2 trivial
 have h0:=key gas 0 (Nat.zero_le _) (gas_lt (by omega))
 unfold Zu XAI
 simp only [bne_self_eq_false,cond_false]
 exact h0
theorem IAo {a:SBook} (h:a.fThings.length≤140737488351232):Bv a a=some true:=by
 simp [Bv,ZAI,HAo h]
theorem JAo (a:SSession)  : Uj a a=some true:=by
 simp [Uj,AAJ]
theorem KAo {a:(List SSession)} (h:a.length≤140737488351232):Fv a a=some true:=by
 have h0:a.length≤140737488351232:=h
 have key:∀ m i,i≤a.length→a.length - i<m→Xo m (.c0 a a i)=some true:=fun m i h1 h2=>
  loopN (A:=Unit) (n:=a.length) (Lp:=Xo) (st:=fun i _=>.c0 a a i) (Inv:=fun _ _=>True) (out:=fun _ _=>some true)
   (fun m _ _=>by simp [Xo,EAB])
   (fun m i _ hi _=>.inr ⟨(),by
    have hw:w64 ((i:Int)+1)=((i+1:Nat):Int):=by rw [w64_id (by omega) (by omega)];rfl
    simp only [Xo,EAB,Int.toNat_natCast,hw,JAo _,getD_at hi,Option.bind_some]
    simp [hi],trivial,rfl⟩) m i () h1 h2 trivial
 have h0:=key gas 0 (Nat.zero_le _) (gas_lt (by omega))
 unfold Fv CAJ
 simp only [bne_self_eq_false,cond_false]
 exact h0
theorem LAo (a:SLive)  : Vj a a=some true:=by
 simp [Vj,DAJ]
theorem MAo {a:(List SLive)} (h:a.length≤140737488351232):Jv a a=some true:=by
 have h0:a.length≤140737488351232:=h
 have key:∀ m i,i≤a.length→a.length - i<m→Yo m (.c0 a a i)=some true:=fun m i h1 h2=>
  loopN (A:=Unit) (n:=a.length) (Lp:=Yo) (st:=fun i _=>.c0 a a i) (Inv:=fun _ _=>True) (out:=fun _ _=>some true)
   (fun m _ _=>by simp [Yo,GAB])
   (fun m i _ hi _=>.inr ⟨(),by
    have hw:w64 ((i:Int)+1)=((i+1:Nat):Int):=by rw [w64_id (by omega) (by omega)];rfl
    simp only [Yo,GAB,Int.toNat_natCast,hw,LAo _,getD_at hi,Option.bind_some]
    simp [hi],trivial,rfl⟩) m i () h1 h2 trivial
 have h0:=key gas 0 (Nat.zero_le _) (gas_lt (by omega))
 unfold Jv FAJ
 simp only [bne_self_eq_false,cond_false]
 exact h0
theorem NAo {a:SBox} (h:(a.fDisk.fFiles.length≤140737488351232)∧(a.fBook.fThings.length≤140737488351232)∧(a.fSessions.length≤140737488351232)∧(a.fLives.length≤140737488351232)):Kv a a=some true:=by
 simp [Kv,HAJ,GAo (h.1),IAo (h.2.1),KAo (h.2.2.1),MAo (h.2.2.2)]
theorem OAo {a:(List Int)} (h:a.length≤140737488351232):Ov a a=some true:=by
 have h0:a.length≤140737488351232:=h
 have key:∀ m i,i≤a.length→a.length - i<m→Zo m (.c0 a a i)=some true:=fun m i h1 h2=>
  loopN (A:=Unit) (n:=a.length) (Lp:=Zo) (st:=fun i _=>.c0 a a i) (Inv:=fun _ _=>True) (out:=fun _ _=>some true)
   (fun m _ _=>by simp [Zo,IAB])
   (fun m i _ hi _=>.inr ⟨(),by
    have hw:w64 ((i:Int)+1)=((i+1:Nat):Int):=by rw [w64_id (by omega) (by omega)];rfl
    simp only [Zo,IAB,Int.toNat_natCast,hw]
    simp [hi],trivial,rfl⟩) m i () h1 h2 trivial
 have h0:=key gas 0 (Nat.zero_le _) (gas_lt (by omega))
 unfold Ov JAJ
 simp only [bne_self_eq_false,cond_false]
 exact h0
theorem PAo {a:(List ByteArray)} (h:a.length≤140737488351232):Qv a a=some true:=by
 have h0:a.length≤140737488351232:=h
 have key:∀ m i,i≤a.length→a.length - i<m→Ap m (.c0 a a i)=some true:=fun m i h1 h2=>
  loopN (A:=Unit) (n:=a.length) (Lp:=Ap) (st:=fun i _=>.c0 a a i) (Inv:=fun _ _=>True) (out:=fun _ _=>some true)
   (fun m _ _=>by simp [Ap,JAB])
   (fun m i _ hi _=>.inr ⟨(),by
    have hw:w64 ((i:Int)+1)=((i+1:Nat):Int):=by rw [w64_id (by omega) (by omega)];rfl
    simp only [Ap,JAB,Int.toNat_natCast,hw]
    simp [hi],trivial,rfl⟩) m i () h1 h2 trivial
 have h0:=key gas 0 (Nat.zero_le _) (gas_lt (by omega))
 unfold Qv LAJ
 simp only [bne_self_eq_false,cond_false]
 exact h0
theorem QAo (a:SGiven)  : Wj a a=some true:=by
 simp [Wj,MAJ]
theorem RAo {a:(List SGiven)} (h:a.length≤140737488351232):Tv a a=some true:=by
 have h0:a.length≤140737488351232:=h
 have key:∀ m i,i≤a.length→a.length - i<m→Dp m (.c0 a a i)=some true:=fun m i h1 h2=>
  loopN (A:=Unit) (n:=a.length) (Lp:=Dp) (st:=fun i _=>.c0 a a i) (Inv:=fun _ _=>True) (out:=fun _ _=>some true)
   (fun m _ _=>by simp [Dp,LAB])
   (fun m i _ hi _=>.inr ⟨(),by
    have hw:w64 ((i:Int)+1)=((i+1:Nat):Int):=by rw [w64_id (by omega) (by omega)];rfl
    simp only [Dp,LAB,Int.toNat_natCast,hw,QAo _,getD_at hi,Option.bind_some]
    simp [hi],trivial,rfl⟩) m i () h1 h2 trivial
 have h0:=key gas 0 (Nat.zero_le _) (gas_lt (by omega))
 unfold Tv OAJ
 simp only [bne_self_eq_false,cond_false]
 exact h0
theorem SAo (a:SRec)  : Xj a a=some true:=by
 simp [Xj,PAJ,ZAb _]
theorem TAo {a:(List SRec)} (h:a.length≤140737488351232):Xv a a=some true:=by
 have h0:a.length≤140737488351232:=h
 have key:∀ m i,i≤a.length→a.length - i<m→Ep m (.c0 a a i)=some true:=fun m i h1 h2=>
  loopN (A:=Unit) (n:=a.length) (Lp:=Ep) (st:=fun i _=>.c0 a a i) (Inv:=fun _ _=>True) (out:=fun _ _=>some true)
   (fun m _ _=>by simp [Ep,NAB])
   (fun m i _ hi _=>.inr ⟨(),by
    have hw:w64 ((i:Int)+1)=((i+1:Nat):Int):=by rw [w64_id (by omega) (by omega)];rfl
    simp only [Ep,NAB,Int.toNat_natCast,hw,SAo _,getD_at hi,Option.bind_some]
    simp [hi],trivial,rfl⟩) m i () h1 h2 trivial
 have h0:=key gas 0 (Nat.zero_le _) (gas_lt (by omega))
 unfold Xv RAJ
 simp only [bne_self_eq_false,cond_false]
 exact h0
theorem UAo {a:SLife} (h:((a.fBox.fDisk.fFiles.length≤140737488351232)∧(a.fBox.fBook.fThings.length≤140737488351232)∧(a.fBox.fSessions.length≤140737488351232)∧(a.fBox.fLives.length≤140737488351232))∧(a.fCodes.length≤140737488351232)∧(a.fReplies.length≤140737488351232)∧(a.fGives.length≤140737488351232)∧(a.fDone.length≤140737488351232)):Yv a a=some true:=by
 simp [Yv,TAJ,NAo (h.1),OAo (h.2.1),PAo (h.2.2.1),RAo (h.2.2.2.1),TAo (h.2.2.2.2)]
theorem VAo {a:SBox} (h:1048576<a.fKey.size) (h2:a.fKey.size≤140737488351232):Ak a 1048576=some (-1):=by
 rw [Ak,UAB,w64_id (by omega) (by omega),TB (by simp;omega)]
theorem WAo {a:SLife} (h:1048576<a.fBox.fKey.size) (h2:a.fBox.fKey.size≤140737488351232):Yj a 1048576=some (-1):=by
 rw [Yj,AAC,VAo h h2];rfl
theorem law_FnExactSoundLife (x0:SLife) (g0:GSLife x0):laws_FnExactSoundLife x0=some true:=by
 by_cases hk:1048576<x0.fBox.fKey.size
 ·rw [laws_FnExactSoundLife,OAB,WAo hk (by have:x0.fBox.fKey.size≤140737488351232:=g0.1.1;omega)];rfl
 obtain ⟨r,hr⟩:=XAo g0 1048576
 have h1:x0.fBox.fDisk.fFiles.length*40≤140737488351232:=g0.1.2.2.1.1
 have h2:x0.fBox.fBook.fThings.length*48≤140737488351232:=g0.1.2.2.2.1.2.2.1.1
 have h3:x0.fBox.fSessions.length*16≤140737488351232:=g0.1.2.2.2.2.1.1
 have h4:x0.fBox.fLives.length*16≤140737488351232:=g0.1.2.2.2.2.2.1.1
 have h5:x0.fCodes.length*8≤140737488351232:=g0.2.1.1
 have h6:x0.fReplies.length*16≤140737488351232:=g0.2.2.1.1
 have h7:x0.fGives.length*24≤140737488351232:=g0.2.2.2.1.1
 have h8:x0.fDone.length*80≤140737488351232:=g0.2.2.2.2.1
 have hf:∀ f ∈ x0.fBox.fDisk.fFiles,f.fText.size≤140737488351232:=fun f hf=>(g0.1.2.2.1.2 f hf).2.1
 have hn:∀ r ∈ x0.fDone,r.fNum≤9223372036854775807:=fun r hr=>(gint (g0.2.2.2.2.2 r hr).2.2.1).2
 have e1:=UAo (a:=x0) ⟨⟨by omega,by omega,by omega,by omega⟩,by omega,by omega,by omega,by omega⟩
 simp only [laws_FnExactSoundLife,OAB,hr,Option.bind_some,YAo g0,UAm (l:=x0) (by omega) (by omega) hf (by omega) (by omega) (by omega) h7 (by omega),DAo (l:=x0) (by omega) (by omega) hf (by omega) (by omega) (by omega) h7 (by omega) hn,e1,beq_self_eq_true,Bool.not_true,cond_false]
 cases decide (r<0) <;> rfl
end Go.Proofs.YthfpmhalgimbbaaGreatDoor.G
