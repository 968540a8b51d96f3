/- The plain law of FnExactRise: whatever the arguments, it answers true. Conditions: what is read is in reach. Part 2 of 2. -/
import Derived.Test.YthfpmhalgimbbaaGreatDoorPureFnExactRisea
namespace Go.Proofs.YthfpmhalgimbbaaGreatDoor.G
open Go Go.Ev
set_option linter.unusedVariables false
set_option linter.unusedSimpArgs false
theorem NAt (b:SBook) (r:SRec):(TY b r).1.fThings.length≤8:=by
 cases h:(TY b r).2
 ·have:(TY b r).1=Fq:=by
   rw [TY] at h ⊢
   cases hc:(!(IZ b) || (!(CV r).2 || decide (b.fCount≥10000)))
   ·rw [hc] at h
    simp only [cond_false] at h ⊢
    cases h1:r.fKind == 1
    ·rw [h1] at h
     simp only [cond_false] at h ⊢
     cases h2:r.fKind == 2
     ·rw [h2] at h
      simp only [cond_false] at h ⊢
      cases h3:r.fKind == 3
      ·rw [h3] at h
       simp only [cond_false] at h ⊢
       cases ht:UY b.fThings r.fNum with
       | none=>rfl
       | some x=>rw [ht] at h;cases h
      ·rw [h3] at h
       simp only [cond_true] at h ⊢
       cases ht:Om b r.fThing with
       | none=>rfl
       | some x=>rw [ht] at h;cases h
     ·rw [h2] at h;cases h
    ·rw [h1] at h;cases h
   ·rfl
  rw [this];exact Nat.zero_le _
 ·exact PAE h
theorem MAk {b:SBook} {l:List SRec} (h:b.fThings.length≤2932031007317):(QZ b l).1.fThings.length≤2932031007317:=by
 induction l generalizing b with
 | nil=>exact h
 | cons r rs ih=>
  rw [QZ]
  cases h3:(TY b r).2
  ·exact Nat.zero_le _
  ·have:=PAE h3
   exact ih (by omega)
theorem H8 (k:ByteArray) (d:SDisk):(ZX k d).1.fThings.length≤2932031007317∧(ZX k d).2.1.length≤4:=by
 rw [ZX]
 cases (!(GY d) || !(QZ He (HY k (TT d WX).1).1).2)
 ·refine ⟨MAk (Nat.zero_le _),?_⟩
  rw [cond_false]
  show List.length (_++_)≤4
  rw [List.length_append]
  cases decide (AZ d nNew≥0) <;> cases (HY k (TT d WX).1).2 == ((TT d WX).1.size:Int) <;> simp
 ·exact ⟨Nat.zero_le _,Nat.zero_le _⟩
def IAQ (b:SBox) (i:Nat):Bool:=FN (b.fSessions.getD i ⟨0,false⟩).fId 1 b.fOpened && (i == 0 || !decide ((b.fSessions.getD (i - 1) ⟨0,false⟩).fId≥(b.fSessions.getD i ⟨0,false⟩).fId))
def Pm (b:SBox):Nat→Nat→Bool
 | 0,_=>true
 | j+1,i=>IAQ b i && Pm b j (i+1)
noncomputable def Gq (b:SBox):Bool:=bif b.fUp then (ZX b.fKey b.fDisk).2.2 && (((ZX b.fKey b.fDisk).2.1.length:Int) == 0 && (IZ b.fBook && (Yf (ZX b.fKey b.fDisk).1 b.fBook && JAQ b)))
 else (b.fSessions.length:Int) == 0 && ((b.fLives.length:Int) == 0 && Yf b.fBook He)
noncomputable def Xi (b:SBox):Bool:=(b.fKey.size:Int) == 32 && (GY b.fDisk && (decide ((b.fSessions.length:Int)≤3) && (FN b.fOpened 0 1000 && (Pm b b.fSessions.length 0 && Gq b))))
theorem NAk {b:SBox} (hd:b.fDisk.fFiles.length≤140737488351232) (hf:∀ f ∈ b.fDisk.fFiles,f.fText.size≤140737488351232) (ht:b.fBook.fThings.length≤140737488351232) (hs:b.fSessions.length≤140737488351232) (hl:b.fLives.length≤140737488351232):I4 b=some (Xi b):=by
 rw [I4,LAN,KAQ,Eb,Xi]
 simp only [Option.bind_some,bne]
 cases hz:(b.fKey.size:Int) == 32
 ·rfl
 have hk:b.fKey.size≤900000000:=by rw [beq_iff_eq] at hz;omega
 obtain ⟨l1,l2⟩:=H8 b.fKey b.fDisk
 have key:∀ (j i m:Nat),i+j=b.fSessions.length→Y3 (m+j+1) (.c0 (i:Int) b)=some (Pm b j i && Gq b):=by
  intro j
  induction j with
  | zero=>
   intro i m hi
   rw [Y3];simp only [GAD]
   rw [NM (by simp;omega),Gq]
   simp only [UAY,VAY hk hd hf,XAY ht,XAY (show (ZX b.fKey b.fDisk).1.fThings.length≤140737488351232 by omega),Qm ht,OAk hl ht,Option.bind_some]
   cases b.fUp
   ·cases (b.fSessions.length:Int) == 0 <;> cases (b.fLives.length:Int) == 0 <;> rfl
   ·cases (ZX b.fKey b.fDisk).2.2 <;> cases ((ZX b.fKey b.fDisk).2.1.length:Int) == 0 <;> cases IZ b.fBook <;> cases Yf (ZX b.fKey b.fDisk).1 b.fBook <;> rfl
  | succ j ih=>
   intro i m hi
   have hw:w64 ((i:Int)+1)=((i+1:Nat):Int):=by rw [w64_id (by omega) (by omega)];rfl
   have d1:decide ((i:Int)<(b.fSessions.length:Int))=true:=decide_eq_true (by omega)
   have d0:decide ((0:Int)≤(i:Int))=true:=decide_eq_true (by omega)
   rw [show m+(j+1)+1=(m+j+1)+1 from rfl,Y3]
   simp only [GAD,Eb,Option.bind_some,d0,d1,Bool.and_self,cond_true,Int.toNat_natCast,hw,ih (i+1) m (by omega),Pm,IAQ]
   cases FN (b.fSessions.getD i ⟨0,false⟩).fId 1 b.fOpened
   ·rfl
   by_cases h0:i=0
   ·subst h0;rfl
   ·obtain ⟨k,rfl⟩:∃ k,i=k+1:=⟨i - 1,by omega⟩
    have hk:w64 (((k+1:Nat):Int) - 1)=(k:Int):=by rw [w64_id (by omega) (by omega)];omega
    rw [show decide (((k+1:Nat):Int) > 0)=true from decide_eq_true (by omega)]
    simp only [hk,Int.toNat_natCast,show decide ((0:Int)≤(k:Int))=true from decide_eq_true (by omega),show decide ((k:Int)<(b.fSessions.length:Int))=true from decide_eq_true (by omega),Bool.and_self,cond_true,Nat.add_sub_cancel]
    cases decide ((b.fSessions.getD k ⟨0,false⟩).fId≥(b.fSessions.getD (k+1) ⟨0,false⟩).fId) <;> rfl
 obtain ⟨m,hm⟩:∃ m,gas=m+b.fSessions.length+1:=⟨gas - (b.fSessions.length+1),by have:=gas_lt (n:=b.fSessions.length) (by omega);omega⟩
 have h0:=key b.fSessions.length 0 m (Nat.zero_add _)
 rw [hm,show ((0:Int))=((0:Nat):Int) from rfl,h0]
 cases GY b.fDisk
 ·rfl
 by_cases h3:(b.fSessions.length:Int)≤3
 ·rw [decide_eq_true h3,decide_eq_false (by omega:¬ (b.fSessions.length:Int) > 3)]
  cases FN b.fOpened ((0:Nat):Int) 1000 <;> rfl
 ·rw [decide_eq_false h3,decide_eq_true (by omega:(b.fSessions.length:Int) > 3)];rfl
theorem YAY:∀ l:List UInt8,Op.bytesLess l l=false:=by
 intro l
 induction l with
 | nil=>rfl
 | cons x l ih=>simp [Op.bytesLess,ih]
theorem LAQ:∀ {a b c:List UInt8},Op.bytesLess a b=true→Op.bytesLess b c=true→Op.bytesLess a c=true:=by
 intro a
 induction a with
 | nil=>
  intro b c h1 h2
  cases c with
  | nil=>cases b <;> simp [Op.bytesLess] at h2
  | cons=>rfl
 | cons x a ih=>
  intro b c h1 h2
  cases b with
  | nil=>simp [Op.bytesLess] at h1
  | cons y b=>
   cases c with
   | nil=>simp [Op.bytesLess] at h2
   | cons z c=>
    simp only [Op.bytesLess,Bool.or_eq_true,Bool.and_eq_true,decide_eq_true_eq,beq_iff_eq] at h1 h2 ⊢
    rcases h1 with h1 | ⟨rfl,h1⟩ <;> rcases h2 with h2 | ⟨rfl,h2⟩
    ·exact .inl (UInt8.lt_trans h1 h2)
    ·exact .inl h1
    ·exact .inl h2
    ·exact .inr ⟨rfl,ih h1 h2⟩
theorem PAk:∀ {a b:List UInt8},Op.bytesLess a b=false→a≠b→Op.bytesLess b a=true:=by
 intro a
 induction a with
 | nil=>
  intro b h1 h2
  cases b with
  | nil=>exact absurd rfl h2
  | cons=>simp [Op.bytesLess] at h1
 | cons x a ih=>
  intro b h1 h2
  cases b with
  | nil=>rfl
  | cons y b=>
   simp only [Op.bytesLess,Bool.or_eq_false_iff,decide_eq_false_iff_not,Bool.and_eq_false_iff,beq_eq_false_iff_ne] at h1
   simp only [Op.bytesLess,Bool.or_eq_true,Bool.and_eq_true,decide_eq_true_eq,beq_iff_eq]
   obtain ⟨h3,h4⟩:=h1
   by_cases he:x=y
   ·subst he
    refine .inr ⟨rfl,ih (h4.resolve_left (fun h=>h rfl)) (fun h=>h2 (by rw [h]))⟩
   ·refine .inl (UInt8.lt_of_le_of_ne (UInt8.not_lt.1 h3) (Ne.symm he))
theorem MAQ {a b:List UInt8} (h:Op.bytesLess a b=true):Op.bytesLess b a=false:=by
 cases h2:Op.bytesLess b a
 ·rfl
 ·have:=LAQ h h2
  rw [YAY] at this;cases this
theorem NAQ {a b:List UInt8} (h:Op.bytesLess a b=true):a≠b:=by
 rintro rfl;rw [YAY] at h;cases h
def FY (l:List SFile) (n:ByteArray):List SFile:=l.filter fun f=> !(f.fName.toList == n.toList)
def Lc (l:List SFile) (n:ByteArray):List SFile:=l.filter fun f=>Op.bytesLess f.fName.toList n.toList
def Ja (l:List SFile) (n:ByteArray):List SFile:=l.filter fun f=> !(Op.bytesLess f.fName.toList n.toList || (f.fName.toList == n.toList))
def VY (l:List SFile) (f:SFile):List SFile:=Lc l f.fName++[f]++Ja l f.fName
def Yi:List SFile→ByteArray→List SFile
 | [],_=>[]
 | g::gs,n=>bif g.fName.toList == n.toList then gs else g::Yi gs n
def Vh:List SFile→SFile→List SFile
 | [],f=>[f]
 | g::gs,f=>bif Op.bytesLess g.fName.toList f.fName.toList then g::Vh gs f else f::g::gs
def Sorted (l:List SFile):Prop:=l.Pairwise fun a b=>Op.bytesLess a.fName.toList b.fName.toList=true
theorem QAk:∀ {l:List SFile} {p:ByteArray},Uc p l=true→Sorted l∧∀ f ∈ l,Op.bytesLess p.toList f.fName.toList=true:=by
 intro l
 induction l with
 | nil=>intro p _;exact ⟨List.Pairwise.nil,fun f hf=>by cases hf⟩
 | cons g gs ih=>
  intro p h
  rw [Uc,Bool.and_eq_true,Bool.and_eq_true] at h
  obtain ⟨h1,h2⟩:=ih h.2.2
  refine ⟨List.Pairwise.cons h2 h1,fun f hf=>?_⟩
  rcases List.mem_cons.1 hf with rfl | hf
  ·exact h.2.1
  ·exact LAQ h.2.1 (h2 f hf)
theorem RAk {d:SDisk} (h:GY d=true):Sorted d.fFiles:=by
 rw [GY,Bool.and_eq_true] at h
 exact (QAk h.2).1
theorem OAQ {l:List SFile} {n:ByteArray} (h:∀ f ∈ l,Op.bytesLess n.toList f.fName.toList=true):FY l n=l∧Lc l n=[]∧Ja l n=l:=by
 refine ⟨List.filter_eq_self.2 fun f hf=>?_,List.filter_eq_nil_iff.2 fun f hf=>?_,List.filter_eq_self.2 fun f hf=>?_⟩
 ·rw [show (f.fName.toList == n.toList)=false from beq_eq_false_iff_ne.2 (Ne.symm (NAQ (h f hf)))];rfl
 ·rw [MAQ (h f hf)];exact Bool.false_ne_true
 ·rw [MAQ (h f hf),show (f.fName.toList == n.toList)=false from beq_eq_false_iff_ne.2 (Ne.symm (NAQ (h f hf)))];rfl
theorem SAk:∀ {l:List SFile} {n:ByteArray},Sorted l→Yi l n=FY l n:=by
 intro l
 induction l with
 | nil=>intro n _;rfl
 | cons g gs ih=>
  intro n h
  obtain ⟨h1,h2⟩:=List.pairwise_cons.1 h
  rw [Yi,FY,List.filter_cons]
  cases he:g.fName.toList == n.toList
  ·rw [cond_false,Bool.not_false,if_pos rfl,ih h2,FY]
  ·rw [cond_true,Bool.not_true,if_neg Bool.false_ne_true]
   rw [beq_iff_eq] at he
   exact (OAQ (n:=n) (fun f hf=>by have:=h1 f hf;rwa [he] at this)).1.symm
theorem TAk:∀ {l:List SFile} {n:ByteArray} {i:Nat},match RY l n i with | some j=>l.take (j - i)++l.drop (j - i+1)=Yi l n | none=>Yi l n=l:=by
 intro l
 induction l with
 | nil=>intro n i;rfl
 | cons g gs ih=>
  intro n i
  rw [RY,Yi]
  cases he:g.fName.toList == n.toList
  ·rw [if_neg Bool.false_ne_true,cond_false]
   have:=ih (n:=n) (i:=i+1)
   cases hp:RY gs n (i+1) with
   | none=>rw [hp] at this;show g::Yi gs n=g::gs;rw [this]
   | some j=>
    rw [hp] at this
    have hj:=(Sm hp).1
    show (g::gs).take (j - i)++(g::gs).drop (j - i+1)=g::Yi gs n
    rw [←this,show j - i=(j - (i+1))+1 by omega,List.take_succ_cons,List.drop_succ_cons];rfl
  ·rw [if_pos rfl,cond_true]
   show (g::gs).take (i - i)++(g::gs).drop (i - i+1)=gs
   rw [Nat.sub_self];rfl
theorem UAk {f:SFile}:∀ {l:List SFile},Sorted l→Vh (FY l f.fName) f=VY l f:=by
 intro l
 induction l with
 | nil=>intro _;rfl
 | cons g gs ih=>
  intro h
  obtain ⟨h1,h2⟩:=List.pairwise_cons.1 h
  cases hl:Op.bytesLess g.fName.toList f.fName.toList
  ·have hins:Vh gs f=f::gs∨True:=.inr trivial
   by_cases he:g.fName.toList=f.fName.toList
   ·have ho:=OAQ (l:=gs) (n:=f.fName) (fun x hx=>by have:=h1 x hx;rwa [he] at this)
    have hb:(g.fName.toList == f.fName.toList)=true:=beq_iff_eq.2 he
    have e1:FY (g::gs) f.fName=gs:=by rw [FY,List.filter_cons,hb];exact ho.1
    have e2:Lc (g::gs) f.fName=[]:=by rw [Lc,List.filter_cons,hl];exact ho.2.1
    have e3:Ja (g::gs) f.fName=gs:=by rw [Ja,List.filter_cons,hl,hb];exact ho.2.2
    rw [e1,VY,e2,e3]
    cases gs with
    | nil=>rfl
    | cons x xs=>
     have hx:=h1 x (List.mem_cons_self ..)
     rw [he] at hx
     rw [Vh,MAQ hx];rfl
   ·have hg:=PAk hl he
    have ho:=OAQ (l:=g::gs) (n:=f.fName) (fun x hx=>by
     rcases List.mem_cons.1 hx with rfl | hx
     ·exact hg
     ·exact LAQ hg (h1 x hx))
    rw [ho.1,VY,ho.2.1,ho.2.2,Vh,hl];rfl
  ·have hb:(g.fName.toList == f.fName.toList)=false:=beq_eq_false_iff_ne.2 (NAQ hl)
   have e1:FY (g::gs) f.fName=g::FY gs f.fName:=by rw [FY,List.filter_cons,hb];rfl
   have e2:Lc (g::gs) f.fName=g::Lc gs f.fName:=by rw [Lc,List.filter_cons,hl];rfl
   have e3:Ja (g::gs) f.fName=Ja gs f.fName:=by rw [Ja,List.filter_cons,hl];rfl
   rw [e1,Vh,hl,cond_true,ih h2,VY,VY,e2,e3];rfl
theorem QAE {α:Type} {l:List α} {p:α→Bool} {i:Nat} (hi:i<l.length):(l.drop i).filter p=(bif p l[i] then [l[i]] else [])++(l.drop (i+1)).filter p:=by
 rw [drop_at hi,List.filter_cons]
 cases p l[i] <;> rfl
theorem ZAY (n:ByteArray):∀ l:List SFile,(Lc l n).length+(Ja l n).length≤l.length:=by
 intro l
 induction l with
 | nil=>exact Nat.le_refl _
 | cons g gs ih=>
  rw [Lc,Ja] at ih ⊢
  rw [List.filter_cons,List.filter_cons,List.length_cons]
  cases Op.bytesLess g.fName.toList n.toList <;> cases g.fName.toList == n.toList <;> simp only [Bool.or_self,Bool.or_true,Bool.or_false,Bool.true_or,Bool.false_or,Bool.not_true,Bool.not_false,if_true,if_false,List.length_cons,Bool.false_eq_true,ite_true,ite_false] <;> omega
theorem AAZ {d:SDisk} {f:SFile} (h:d.fFiles.length*40≤140737488351232):O4 d f=some ⟨VY d.fFiles f⟩:=by
 have k1:∀ (j i m:Nat) (out:List SFile),i+j=d.fFiles.length→out.length+(Ja (d.fFiles.drop i) f.fName).length≤d.fFiles.length+1→Oh (m+j+1) (.c1 (i:Int) d f [] out)=some ⟨out++Ja (d.fFiles.drop i) f.fName⟩:=by
  intro j
  induction j with
  | zero=>
   intro i m out hi ho
   rw [Oh];simp only [Qp]
   rw [NM (by simp;omega),List.drop_of_length_le (by omega)]
   simp [Ja]
  | succ j ih=>
   intro i m out hi ho
   have hil:i<d.fFiles.length:=by omega
   have hw:w64 ((i:Int)+1)=((i+1:Nat):Int):=by rw [w64_id (by omega) (by omega)];rfl
   rw [Ja,QAE hil,List.length_append] at ho
   rw [show m+(j+1)+1=(m+j+1)+1 from rfl,Oh]
   simp only [Qp,show decide ((i:Int)<(d.fFiles.length:Int))=true from decide_eq_true (by omega),show decide ((0:Int)≤(i:Int))=true from decide_eq_true (by omega),Bool.and_self,cond_true,Int.toNat_natCast,hw,getD_at hil]
   rw [Ja,QAE hil]
   cases hp : !(Op.bytesLess d.fFiles[i].fName.toList f.fName.toList || (d.fFiles[i].fName.toList == f.fName.toList))
   ·rw [hp] at ho
    rw [cond_false,cond_false,ih (i+1) m _ (by omega) (by simpa [Ja] using ho)];rfl
   ·rw [hp,cond_true] at ho
    have ho':out.length+(1+(Ja (d.fFiles.drop (i+1)) f.fName).length)≤d.fFiles.length+1:=ho
    rw [cond_true,TB (decide_eq_true (by omega)),ih (i+1) m _ (by omega) (by rw [List.length_append];simp;omega),cond_true,List.append_assoc];rfl
 have k0:∀ (j i m:Nat) (out:List SFile),i+j=d.fFiles.length→out.length≤i→Oh (m+d.fFiles.length+1+j+1) (.c0 (i:Int) d f [] out)=Oh (m+d.fFiles.length+1) (.c1 0 d f [] (out++Lc (d.fFiles.drop i) f.fName++[f])):=by
  intro j
  induction j with
  | zero=>
   intro i m out hi ho
   rw [Oh];simp only [Qp]
   rw [NM (by simp;omega),TB (decide_eq_true (by omega)),List.drop_of_length_le (by omega)]
   simp [Lc]
  | succ j ih=>
   intro i m out hi ho
   have hil:i<d.fFiles.length:=by omega
   have hw:w64 ((i:Int)+1)=((i+1:Nat):Int):=by rw [w64_id (by omega) (by omega)];rfl
   rw [show m+d.fFiles.length+1+(j+1)+1=(m+d.fFiles.length+1+j+1)+1 from rfl,Oh]
   simp only [Qp,show decide ((i:Int)<(d.fFiles.length:Int))=true from decide_eq_true (by omega),show decide ((0:Int)≤(i:Int))=true from decide_eq_true (by omega),Bool.and_self,cond_true,Int.toNat_natCast,hw,getD_at hil]
   rw [Lc,QAE hil]
   cases Op.bytesLess d.fFiles[i].fName.toList f.fName.toList
   ·rw [cond_false,cond_false,ih (i+1) m _ (by omega) (by omega)];rfl
   ·rw [cond_true,TB (decide_eq_true (by omega)),ih (i+1) m _ (by omega) (by rw [List.length_append];simp;omega),cond_true]
    simp [Lc]
 obtain ⟨m,hm⟩:∃ m,gas=m+d.fFiles.length+1+d.fFiles.length+1:=⟨gas - (d.fFiles.length+1+d.fFiles.length+1),by have:=gas_lt (n:=2*d.fFiles.length+2) (by omega);omega⟩
 have hlh:=ZAY f.fName d.fFiles
 rw [O4,NAN,hm]
 refine (k0 d.fFiles.length 0 m [] (Nat.zero_add _) (Nat.le_refl _)).trans ((k1 d.fFiles.length 0 m _ (Nat.zero_add _) (by rw [List.length_append,List.nil_append,List.drop_zero];simp;omega)).trans ?_)
 simp [VY]
theorem VAk {d:SDisk} {n:ByteArray} (h:d.fFiles.length*40≤140737488351232):X4 d n=some ⟨FY d.fFiles n⟩:=by
 have key:∀ (j i m:Nat) (out:List SFile),i+j=d.fFiles.length→out.length≤i→V4 (m+j+1) (.c0 n (i:Int) d [] out)=some ⟨out++FY (d.fFiles.drop i) n⟩:=by
  intro j
  induction j with
  | zero=>
   intro i m out hi ho
   rw [V4];simp only [IAD]
   rw [NM (by simp;omega),List.drop_of_length_le (by omega)]
   simp [FY]
  | succ j ih=>
   intro i m out hi ho
   have hil:i<d.fFiles.length:=by omega
   have hw:w64 ((i:Int)+1)=((i+1:Nat):Int):=by rw [w64_id (by omega) (by omega)];rfl
   have d1:decide ((i:Int)<(d.fFiles.length:Int))=true:=decide_eq_true (by omega)
   have d0:decide ((0:Int)≤(i:Int))=true:=decide_eq_true (by omega)
   have d2:decide ((out.length+1)*40≤140737488355328)=true:=decide_eq_true (by omega)
   rw [show m+(j+1)+1=(m+j+1)+1 from rfl,V4]
   simp only [IAD,d0,d1,d2,Bool.and_self,cond_true,Int.toNat_natCast,hw,getD_at hil]
   rw [ih (i+1) m _ (by omega) (by rw [List.length_append];simp;omega),ih (i+1) m _ (by omega) (by omega),FY,FY,QAE hil]
   cases d.fFiles[i].fName.toList == n.toList <;> simp
 obtain ⟨m,hm⟩:∃ m,gas=m+d.fFiles.length+1:=⟨gas - (d.fFiles.length+1),by have:=gas_lt (n:=d.fFiles.length+1) (by omega);omega⟩
 rw [X4,PAN,hm]
 exact key d.fFiles.length 0 m [] (Nat.zero_add _) (Nat.le_refl _)
def doneD (l:List SFile):SDisk×Bool:=bif GY ⟨l⟩ then (⟨l⟩,true) else (⟨[]⟩,false)
def Hq (d:SDisk) (a:SAct) (f:SFile):SDisk×Bool:=
 bif a.fKind == 1 then doneD (VY d.fFiles ⟨f.fName,f.fText++a.fText,f.fKept⟩)
 else bif a.fKind == 2 then doneD (VY d.fFiles ⟨f.fName,f.fText,(f.fText.size:Int)⟩)
 else bif a.fKind == 3 then (bif decide (f.fKept<(f.fText.size:Int)) || (a.fTo.toList == a.fName.toList) then (⟨[]⟩,false) else doneD (VY (FY d.fFiles a.fName) ⟨a.fTo,f.fText,f.fKept⟩))
 else bif a.fKind == 4 then doneD (FY d.fFiles a.fName) else (⟨[]⟩,false)
def Xc (d:SDisk) (a:SAct):SDisk×Bool:=
 bif GY d && ((a.fKind == 3 || a.fTo.toList == (⟨#[]⟩:ByteArray).toList) && (a.fKind == 1 || a.fText.toList == (⟨#[]⟩:ByteArray).toList)) then
  match RY d.fFiles a.fName 0 with
  | some j=>Hq d a (d.fFiles.getD j Ie)
  | none=>bif a.fKind == 1 then doneD (VY d.fFiles ⟨a.fName,(⟨#[]⟩:ByteArray)++a.fText,0⟩) else (⟨[]⟩,false)
 else (⟨[]⟩,false)
theorem WAk:∀ {l:List SFile} {p:ByteArray},Uc p l=true→∀ f ∈ l,La f=true:=by
 intro l
 induction l with
 | nil=>intro p _ f hf;cases hf
 | cons g gs ih=>
  intro p h f hf
  rw [Uc,Bool.and_eq_true,Bool.and_eq_true] at h
  rcases List.mem_cons.1 hf with rfl | hf
  ·exact h.1
  ·exact ih h.2.2 f hf
theorem Um {d:SDisk} (h:GY d=true):d.fFiles.length≤30∧∀ f ∈ d.fFiles,La f=true:=by
 rw [GY,Bool.and_eq_true,decide_eq_true_eq] at h
 exact ⟨by omega,WAk h.2⟩
theorem PAQ {f:SFile}:La f=true↔(1≤(f.fName.size:Int)∧(f.fName.size:Int)≤8)∧(f.fText.size:Int)≤20000∧0≤f.fKept∧f.fKept≤(f.fText.size:Int):=by
 rw [La,Bool.and_eq_true,Bool.and_eq_true,DY,DY]
 simp
theorem BAZ {l:List SFile} {f:SFile} (hf:f ∈ l) (h:La f=false):doneD l=(⟨[]⟩,false):=by
 rw [doneD]
 cases hd:GY ⟨l⟩
 ·rfl
 ·rw [(Um hd).2 f hf] at h;cases h
theorem CAZ (l:List SFile) (f:SFile):f ∈ VY l f:=by rw [VY];simp
theorem DAZ {f:SFile} (h:FN (f.fName.size:Int) 1 8=false):La f=false:=by rw [La,h];rfl
theorem EAZ (l:List SFile) (n:ByteArray):(FY l n).length≤l.length:=List.length_filter_le _ _
theorem XAk {l:List SFile} {n:ByteArray} (h:Sorted l):Sorted (FY l n):=List.Pairwise.filter _ h
theorem YAk {n:ByteArray}:∀ {fs:List SFile} {i j:Nat},RY fs n i=some j→(fs.getD (j - i) Ie).fName.toList=n.toList:=by
 intro fs
 induction fs with
 | nil=>intro i j h;cases h
 | cons f fs ih=>
  intro i j h
  rw [RY] at h
  split at h
  ·rename_i he
   cases h
   rw [Nat.sub_self];exact beq_iff_eq.1 he
  ·have h1:=ih h
   have h2:=(Sm h).1
   rw [show j - i=(j - (i+1))+1 by omega,List.getD_cons_succ];exact h1
theorem QAQ {d:SDisk} {n:ByteArray} {j:Nat} (h:GY d=true) (hp:RY d.fFiles n 0=some j):j<d.fFiles.length∧La (d.fFiles.getD j Ie)=true∧FN (n.size:Int) 1 8=true∧(d.fFiles.getD j Ie).fName=n:=by
 have h1:=(Sm hp).2
 have h2:=YAk hp
 rw [Nat.sub_zero] at h2
 have h3:j<d.fFiles.length:=by omega
 have h4:La (d.fFiles.getD j Ie)=true:=by rw [getD_at h3];exact (Um h).2 _ (List.getElem_mem _)
 have h5:(d.fFiles.getD j Ie).fName=n:=by
  have:=toList_inj (s:=(d.fFiles.getD j Ie).fName) (t:=n)
  rw [h2,beq_self_eq_true] at this
  exact of_decide_eq_true this.symm
 refine ⟨h3,h4,?_,h5⟩
 rw [La,Bool.and_eq_true,h5] at h4
 exact h4.1
theorem ZAk {d:SDisk} {a:SAct} (hd:d.fFiles.length*40≤140737488351232) (ha:a.fText.size≤140737488351232):Sl d a=some (Xc d a):=by
 have ho:=EAZ d.fFiles a.fName
 rw [Sl,QAN,Xc]
 simp only [KAQ,FAZ,RAQ (d:=d) (n:=a.fName) (by omega),VAk (d:=d) (n:=a.fName) hd,fun f=>AAZ (d:=d) (f:=f) hd,fun f=>AAZ (d:=⟨FY d.fFiles a.fName⟩) (f:=f) (show (FY d.fFiles a.fName).length*40≤_ by omega),Option.bind_some,bne]
 cases hdk:GY d
 ·rfl
 obtain ⟨hl,hok⟩:=Um hdk
 have fin:∀ l:List SFile,(bif !GY ⟨l⟩ then some ((⟨[]⟩:SDisk),false) else some (⟨l⟩,true))=some (doneD l):=fun l=>by rw [doneD];cases GY ⟨l⟩ <;> rfl
 simp only [fin,Bool.true_and]
 cases hn:FN (a.fName.size:Int) 1 8
 ·rw [Bool.not_true,cond_false,Bool.not_false,cond_true]
  cases hp:RY d.fFiles a.fName 0 with
  | some j=>rw [(QAQ hdk hp).2.2.1] at hn;cases hn
  | none=>
   simp only [BAZ (CAZ d.fFiles _) (DAZ (f:=⟨a.fName,(⟨#[]⟩:ByteArray)++a.fText,0⟩) hn)]
   cases a.fKind == 1 <;> simp
 have ht:∀ f,La f=true→f.fText.size+a.fText.size≤9223372036854775807:=fun f hf=>by have:=(PAQ.1 hf).2.1;omega
 have hto:FN (a.fTo.size:Int) 1 8=false→∀ f:SFile,doneD (VY (FY d.fFiles a.fName) ⟨a.fTo,f.fText,f.fKept⟩)=(⟨[]⟩,false):=fun h f=>BAZ (CAZ _ _) (DAZ h)
 have key:∀ f:SFile,(bif !FN (a.fTo.size:Int) 1 8 then some ((⟨[]⟩:SDisk),false) else some (doneD (VY (FY d.fFiles a.fName) ⟨a.fTo,f.fText,f.fKept⟩)))=some (doneD (VY (FY d.fFiles a.fName) ⟨a.fTo,f.fText,f.fKept⟩)):=fun f=>by
  cases h:FN (a.fTo.size:Int) 1 8
  ·rw [hto h];rfl
  ·rfl
 simp only [Bool.not_true,cond_false]
 cases hp:RY d.fFiles a.fName 0 with
 | some j=>
  obtain ⟨hj,hfo,_,_⟩:=QAQ hdk hp
  simp only [show AZ d a.fName=(j:Int) by rw [AZ,hp],Int.toNat_natCast,show decide ((j:Int)≥0)=true from decide_eq_true (by omega),show decide ((j:Int)<0)=false from decide_eq_false (by omega),show decide ((j:Int)<(d.fFiles.length:Int))=true from decide_eq_true (by omega),Bool.and_self,cond_true,cond_false]
  generalize hf:d.fFiles.getD j Ie=f at hfo
  have hf':d.fFiles.getD j (⟨⟨#[]⟩,⟨#[]⟩,0⟩:SFile)=f:=hf
  simp only [hf',decide_eq_true (ht f hfo),cond_true,key f,Hq]
  cases a.fKind == 1 <;> cases a.fKind == 2 <;> cases a.fKind == 3 <;> cases a.fKind == 4 <;> cases a.fTo.toList == (⟨#[]⟩:ByteArray).toList <;> cases a.fText.toList == (⟨#[]⟩:ByteArray).toList <;> cases decide (f.fKept<(f.fText.size:Int)) <;> cases a.fTo.toList == a.fName.toList <;> rfl
 | none=>
  have hs:decide ((⟨#[]⟩:ByteArray).size+a.fText.size≤9223372036854775807)=true:=decide_eq_true (by show 0+a.fText.size≤_;omega)
  simp only [show AZ d a.fName = -1 by rw [AZ,hp],show decide ((-1:Int)≥0)=false from rfl,show decide ((-1:Int)<0)=true from rfl,hs,cond_true,cond_false]
  cases a.fKind == 1 <;> cases a.fKind == 2 <;> cases a.fKind == 3 <;> cases a.fKind == 4 <;> cases a.fTo.toList == (⟨#[]⟩:ByteArray).toList <;> cases a.fText.toList == (⟨#[]⟩:ByteArray).toList <;> rfl
def Na:SDisk→List SAct→Int→SDisk×Int
 | d,[],i=>(d,i)
 | d,a::r,i=>bif (Xc d a).2 then Na (Xc d a).1 r (i+1) else (d,i)
theorem I8 {l:List SFile} (h:(doneD l).2=true):GY (doneD l).1=true:=by
 rw [doneD] at h ⊢
 cases hd:GY ⟨l⟩
 ·rw [hd] at h;cases h
 ·rw [cond_true];exact hd
theorem AAl {d:SDisk} {a:SAct} {f:SFile} (h:(Hq d a f).2=true):GY (Hq d a f).1=true:=by
 rw [Hq] at h ⊢
 revert h
 cases a.fKind == 1
 ·cases a.fKind == 2
  ·cases a.fKind == 3
   ·cases a.fKind == 4
    ·intro h;cases h
    ·intro h;exact I8 h
   ·cases decide (f.fKept<(f.fText.size:Int)) || (a.fTo.toList == a.fName.toList)
    ·intro h;exact I8 h
    ·intro h;cases h
  ·intro h;exact I8 h
 ·intro h;exact I8 h
theorem SAQ {d:SDisk} {a:SAct} (h:(Xc d a).2=true):GY (Xc d a).1=true:=by
 rw [Xc] at h ⊢
 revert h
 cases GY d && ((a.fKind == 3 || a.fTo.toList == (⟨#[]⟩:ByteArray).toList) && (a.fKind == 1 || a.fText.toList == (⟨#[]⟩:ByteArray).toList))
 ·intro h;cases h
 ·cases RY d.fFiles a.fName 0 with
  | some j=>intro h;exact AAl h
  | none=>
   cases a.fKind == 1
   ·intro h;cases h
   ·intro h;exact I8 h
theorem BAl:∀ (l:List SAct) (d:SDisk) (i:Int) (B:Nat),30≤B→d.fFiles.length≤B→(Na d l i).1.fFiles.length≤B:=by
 intro l
 induction l with
 | nil=>intro d i B _ h;exact h
 | cons a r ih=>
  intro d i B hB h
  rw [Na]
  cases ha:(Xc d a).2
  ·exact h
  ·exact ih _ _ B hB (Nat.le_trans (Um (SAQ ha)).1 hB)
theorem CAl {d:SDisk} {l:List SAct} (hd:d.fFiles.length*40≤140737488351232) (hl:l.length≤140737488351232) (ha:∀ a ∈ l,a.fText.size≤140737488351232):D5 d l=some (Na d l 0):=by
 have key:∀ (j i m:Nat) (out:List SFile),i+j=l.length→out.length*40≤140737488351232→Z4 (m+j+1) (.c0 l (i:Int) [] out)=some (Na ⟨out⟩ (l.drop i) (i:Int)):=by
  intro j
  induction j with
  | zero=>
   intro i m out hi ho
   rw [Z4];simp only [KAD]
   rw [NM (by simp;omega),List.drop_of_length_le (by omega),Na,show (l.length:Int)=(i:Int) by omega]
  | succ j ih=>
   intro i m out hi ho
   have hil:i<l.length:=by omega
   have hw:w64 ((i:Int)+1)=((i+1:Nat):Int):=by rw [w64_id (by omega) (by omega)];rfl
   rw [show m+(j+1)+1=(m+j+1)+1 from rfl,Z4]
   simp only [KAD,show decide ((i:Int)<(l.length:Int))=true from decide_eq_true (by omega),show decide ((0:Int)≤(i:Int))=true from decide_eq_true (by omega),Bool.and_self,cond_true,Int.toNat_natCast,hw,getD_at hil,ZAk (d:=⟨out⟩) (a:=l[i]) ho (ha _ (List.getElem_mem hil)),Option.bind_some]
   rw [drop_at hil,Na]
   cases hr:(Xc ⟨out⟩ l[i]).2
   ·rfl
   ·have h30:=(Um (SAQ hr)).1
    rw [Bool.not_true,cond_false,cond_true,ih (i+1) m _ (by omega) (by omega)];rfl
 obtain ⟨m,hm⟩:∃ m,gas=m+l.length+1:=⟨gas - (l.length+1),by have:=gas_lt (n:=l.length+1) (by omega);omega⟩
 rw [D5,TAN,TB (decide_eq_true (by omega)),hm]
 exact key l.length 0 m _ (Nat.zero_add _) hd
def GAZ:SBox:=⟨⟨#[]⟩,false,⟨[]⟩,⟨⟨#[]⟩,0,[],0,⟨#[]⟩,0⟩,[],[],0⟩
noncomputable def Zf (b:SBox):SBox×Bool:=
 bif b.fUp || !Xi b then (GAZ,false)
 else bif !(ZX b.fKey b.fDisk).2.2 || decide ((Na b.fDisk (ZX b.fKey b.fDisk).2.1 0).2<((ZX b.fKey b.fDisk).2.1.length:Int)) then (GAZ,false)
 else (⟨b.fKey,true,(Na b.fDisk (ZX b.fKey b.fDisk).2.1 0).1,(ZX b.fKey b.fDisk).1,[],[],0⟩,true)
theorem HAZ {k:ByteArray} {d:SDisk} (hf:∀ f ∈ d.fFiles,f.fText.size≤140737488351232):∀ a ∈ (ZX k d).2.1,a.fText.size≤140737488351232:=by
 have h0:=TAQ (n:=WX) hf
 intro a
 rw [ZX]
 cases (!(GY d) || !(QZ He (HY k (TT d WX).1).1).2)
 ·rw [cond_false]
  show a ∈ _++_→_
  rw [List.mem_append]
  rintro (h | h)
  ·cases hc:decide (AZ d nNew≥0) <;> rw [hc] at h
   ·cases h
   ·rw [List.mem_singleton.1 h];exact Nat.zero_le _
  ·cases hc:(HY k (TT d WX).1).2 == ((TT d WX).1.size:Int) <;> rw [hc] at h
   ·simp only [cond_false,List.mem_cons,List.not_mem_nil,or_false] at h
    rcases h with rfl | rfl | rfl
    ·show ((TT d WX).1.extract 0 _).size≤_;rw [ByteArray.size_extract];omega
    ·exact Nat.zero_le _
    ·exact Nat.zero_le _
   ·cases h
 ·rw [cond_true];intro h;cases h
theorem DAl {b:SBox} (hd:b.fDisk.fFiles.length*40≤140737488351232) (hf:∀ f ∈ b.fDisk.fFiles,f.fText.size≤140737488351232) (ht:b.fBook.fThings.length≤140737488351232) (hs:b.fSessions.length≤140737488351232) (hl:b.fLives.length≤140737488351232) (hk:b.fKey.size≤900000000):Yv b=some (Zf b):=by
 obtain ⟨l1,l2⟩:=H8 b.fKey b.fDisk
 rw [Yv,UAN,Zf]
 simp only [NAk (b:=b) (by omega) hf ht hs hl,VAY hk (show b.fDisk.fFiles.length≤_ by omega) hf,CAl (d:=b.fDisk) (l:=(ZX b.fKey b.fDisk).2.1) hd (by omega) (HAZ hf),Option.bind_some]
 cases b.fUp
 ·cases Xi b
  ·rfl
  ·cases (ZX b.fKey b.fDisk).2.2
   ·rfl
   ·cases decide ((Na b.fDisk (ZX b.fKey b.fDisk).2.1 0).2<((ZX b.fKey b.fDisk).2.1.length:Int)) <;> rfl
 ·rfl
theorem Iq {d:SDisk} (h0:d.fFiles.length≤140737488351232):Jd d=some (GY d):=by
 rw [Jd,VAN,GY]
 have key:∀ (j i m:Nat),i+j=d.fFiles.length→F5 (m+j+1) (.c0 d.fFiles (d.fFiles.length:Int) (i:Int) d)=some (decide ((d.fFiles.length:Int)≤30) && Uc (Wh d.fFiles i) (d.fFiles.drop i)):=by
  intro j
  induction j with
  | zero=>
   intro i m h
   obtain rfl:i=d.fFiles.length:=by omega
   rw [F5]
   simp only [LAD]
   rw [NM (by simp),List.drop_length,Uc,Bool.and_true]
  | succ j ih=>
   intro i m h
   have hi:i<d.fFiles.length:=by omega
   have e:w64 ((i:Int)+1)=((i+1:Nat):Int):=by rw [w64_id (by omega) (by omega)];rfl
   have h2:=ih (i+1) m (by omega)
   have fls:∀ b:Bool,(b && false)=false:=fun b=>by cases b <;> rfl
   rw [show m+(j+1)+1=(m+j+1)+1 by omega,F5]
   simp only [LAD,e,Int.toNat_natCast,getD_at hi,Yb,Option.bind_some]
   rw [TB (by simp;omega),TB (by simp;omega),IAZ hi,La,h2]
   cases hn:FN (d.fFiles[i].fName.size:Int) 1 8
   ·rw [Bool.false_and,Bool.false_and,fls];rfl
   cases decide ((d.fFiles[i].fText.size:Int) > 20000)
   ·cases FN d.fFiles[i].fKept 0 (d.fFiles[i].fText.size:Int)
    ·simp only [Bool.and_false,Bool.false_and];rfl
    ·by_cases hz:i=0
     ·subst hz
      rw [DY] at hn
      rw [show Wh d.fFiles 0=⟨#[]⟩ from rfl,JAZ (by omega)];rfl
     ·obtain ⟨i',rfl⟩:∃ q,i=q+1:=⟨i - 1,by omega⟩
      have e2:w64 (((i'+1:Nat):Int) - 1)=(i':Int):=by rw [w64_id (by omega) (by omega)];omega
      rw [e2,Int.toNat_natCast,getD_at (show i'<d.fFiles.length by omega),UAQ (i:=i') (by omega),NM (by rfl),NM (by rfl),NM (by rfl),TB (by simp;try omega),TB (by simp;try omega)]
      cases Op.bytesLess d.fFiles[i'].fName.toList d.fFiles[i'+1].fName.toList
      ·simp only [Bool.and_false,Bool.false_and];rfl
      ·rfl
   ·simp only [Bool.and_false,Bool.false_and,Bool.not_true];rfl
 obtain ⟨m,hm⟩:∃ m,gas=m+d.fFiles.length+1:=⟨gas - (d.fFiles.length+1),by have:=gas_lt (n:=d.fFiles.length+1) (by omega);omega⟩
 rw [hm]
 exact key d.fFiles.length 0 m (by omega)
theorem KAZ:Vg=some He:=by
 rw [Vg,PAO,J8 (by decide),Option.bind_some,show (32:Int)=((32:Nat):Int) from rfl,VAQ (by omega),Option.bind_some];rfl
theorem EAl {a b:List SThing} (h0:a.length≤140737488351232):H6 a b=some (Oa a b):=by
 rw [H6,RAO]
 by_cases hl:a.length=b.length
 ·have key:∀ (j i m:Nat),i+j=a.length→G6 (m+j+1) (.c0 a b (a.length:Int) (i:Int))=some (Oa (a.drop i) (b.drop i)):=by
   intro j
   induction j with
   | zero=>
    intro i m h
    obtain rfl:i=a.length:=by omega
    rw [G6]
    simp only [TAD]
    rw [NM (by simp),List.drop_length,hl,List.drop_length];rfl
   | succ j ih=>
    intro i m h
    have hi:i<a.length:=by omega
    have hi2:i<b.length:=by omega
    have e:w64 ((i:Int)+1)=((i+1:Nat):Int):=by rw [w64_id (by omega) (by omega)];rfl
    rw [show m+(j+1)+1=(m+j+1)+1 by omega,G6]
    simp only [TAD,e,Int.toNat_natCast,getD_at hi,getD_at hi2,LAZ,ih (i+1) m (by omega)]
    rw [TB (by simp;omega),TB (by simp;omega),TB (by simp;omega),drop_at hi,drop_at hi2,Oa]
    cases Jq a[i] b[i] <;> rfl
  obtain ⟨m,hm⟩:∃ m,gas=m+a.length+1:=⟨gas - (a.length+1),by have:=gas_lt (n:=a.length+1) (by omega);omega⟩
  rw [NM (by simp;omega),hm]
  exact key a.length 0 m (by omega)
 ·rw [TB (by simp;omega),MAZ hl]
theorem NAZ {a b:SBook} (h0:a.fThings.length≤140737488351232):Lj a b=some (Yf a b):=by
 rw [Lj,SAO,EAl h0,Yf]
 cases a.fWord.toList == b.fWord.toList <;> cases a.fTries == b.fTries <;> cases Oa a.fThings b.fThings <;> cases a.fLast == b.fLast <;> cases a.fChain.toList == b.fChain.toList <;> rfl
theorem RAE {d:SDisk} {n:ByteArray} (h0:d.fFiles.length≤140737488351232):Ld d n=some (AZ d n):=by
 have key:∀ (j i m:Nat),i+j=d.fFiles.length→L6 (m+j+1) (.c0 n d.fFiles (d.fFiles.length:Int) (i:Int))=some (match RY (d.fFiles.drop i) n i with | some j=>(j:Int) | none=> -1):=by
  intro j
  induction j with
  | zero=>
   intro i m h
   obtain rfl:i=d.fFiles.length:=by omega
   rw [L6]
   simp only [UAD]
   rw [NM (by simp),List.drop_length];rfl
  | succ j ih=>
   intro i m h
   have hi:i<d.fFiles.length:=by omega
   have e:w64 ((i:Int)+1)=((i+1:Nat):Int):=by rw [w64_id (by omega) (by omega)];rfl
   rw [show m+(j+1)+1=(m+j+1)+1 by omega,L6]
   simp only [UAD,e,Int.toNat_natCast,getD_at hi,ih (i+1) m (by omega)]
   rw [TB (by simp;omega),TB (by simp;omega),drop_at hi,RY]
   cases d.fFiles[i].fName.toList == n.toList <;> rfl
 obtain ⟨m,hm⟩:∃ m,gas=m+d.fFiles.length+1:=⟨gas - (d.fFiles.length+1),by have:=gas_lt (n:=d.fFiles.length+1) (by omega);omega⟩
 rw [Ld,TAO,hm,AZ]
 exact key d.fFiles.length 0 m (by omega)
theorem FAl {d:SDisk} {n:ByteArray} (h0:d.fFiles.length≤140737488351232):Ls d n=some (TT d n):=by
 rw [Ls,UAO,RAE h0,Option.bind_some,AZ,TT]
 cases h:RY d.fFiles n 0 with
 | none=>rfl
 | some j=>
  have:=Sm h
  simp only [Int.toNat_natCast]
  rw [NM (by simp),TB (by simp;omega)];rfl
theorem GAl {s:Int} (h:R32 s):an s 1=s % 2:=by
 obtain ⟨h1,h2⟩:=h
 obtain ⟨n,rfl⟩:∃ n:Nat,s=(n:Int):=⟨s.toNat,by omega⟩
 unfold an
 show w32 (((BitVec.ofInt 32 (n:Int) &&& BitVec.ofInt 32 1).toNat:Nat):Int)=_
 rw [BitVec.ofInt_natCast,show BitVec.ofInt 32 1=BitVec.ofNat 32 1 from rfl,BitVec.toNat_and,BitVec.toNat_ofNat,BitVec.toNat_ofNat,Nat.mod_eq_of_lt (by omega:n<2 ^ 32),show 1 % 2 ^ 32=1 from rfl,Nat.and_one_is_mod,Fb (by omega) (by omega)]
 omega
theorem HAl (t:ByteArray) (i:Nat) (hi:i<t.size) (ht:t.size≤140737488351232):∀ (j k m:Nat) (s:Int),k+j=8→R32 s→Ph (m+j+1) (.c1 s t (i:Int) (k:Int))=Ph m (.c0 (Vm j s) t ((i+1:Nat):Int)):=by
 intro j
 induction j with
 | zero=>
  intro k m s hk hs
  have e:w64 ((i:Int)+1)=((i+1:Nat):Int):=by rw [w64_id (by omega) (by omega)];rfl
  rw [Ph]
  simp only [Yp,e]
  rw [NM (by simp;omega)]
  rfl
 | succ j ih=>
  intro k m s hk hs
  have e:w64 ((k:Int)+1)=((k+1:Nat):Int):=by rw [w64_id (by omega) (by omega)];rfl
  have h2:Int.fdiv s (2 ^ (Min.min (1:Int).toNat (IntKind.bits IntKind.u32)))=s / 2:=Int.fdiv_eq_ediv_of_nonneg _ (by decide)
  rw [show m+(j+1)+1=(m+j+1)+1 by omega,Ph]
  simp only [Yp,e,h2,WAQ,GAl hs,Je]
  rw [TB (by simp;omega),Vm]
  by_cases h:s % 2=1
  ·rw [TB (by simp [h]),ih (k+1) m _ (by omega) (Kq _ _),Xm,if_pos h]
  ·rw [NM (by simp [h]),ih (k+1) m _ (by omega) (by unfold R32 at *;omega),Xm,if_neg h]
theorem IAl {t:ByteArray} {s:Int} (ht:t.size≤140737488351232):X6 s t=some (Nq s (bs t)):=by
 have hl:=bs_len t
 have key:∀ (j i m:Nat) (s:Int),i+j=t.size→Ph (m+10*j+1) (.c0 s t (i:Int))=some (Nq s ((bs t).drop i)):=by
  intro j
  induction j with
  | zero=>
   intro i m s h
   rw [Ph]
   simp only [Yp]
   rw [NM (by simp;omega),List.drop_of_length_le (by omega)];rfl
  | succ j ih=>
   intro i m s h
   have hb:=YZ (Yc t) i
   rw [show m+10*(j+1)+1=(m+10*j+1)+8+1+1 by omega,Ph]
   simp only [Yp,Je]
   rw [TB (by simp;omega),TB (by simp;omega),Me (by omega),Fb (by omega) (by omega)]
   have h1:=HAl t i (by omega) ht 8 0 (m+10*j+1) (xr s ((bs t).getD i 0)) (by omega) (Kq _ _)
   rw [show ((0:Nat):Int)=0 from rfl] at h1
   rw [h1,ih (i+1) m _ (by omega),drop_at (by omega:i<(bs t).length),getD_at (by omega)]
   rfl
 obtain ⟨m,hm⟩:∃ m,gas=m+10*t.size+1:=⟨gas - (10*t.size+1),by have:=gas_lt (n:=10*t.size+1) (by omega);omega⟩
 rw [X6,WAO,hm]
 have:=key t.size 0 m s (by omega)
 rw [List.drop_zero] at this
 exact this
theorem OAZ {t:ByteArray} (ht:t.size≤140737488351232):Qh t=some (Ib (bs t)):=by
 rw [Qh,XAO,IAl ht];rfl
theorem JAl {f:ByteArray} (hf:f.size≤140737488351232):Xl f=some (Mc f):=by
 rw [Xl,ZAO,Mc]
 by_cases h0:20000<f.size
 ·rw [TB (by simp;omega),TB (by simp;omega)]
 ·rw [NM (by simp;omega),NM (by simp;omega)]
  have key:∀ (j a m:Nat) (out:List ByteArray),a≤f.size→f.size<a+j→out.length≤a→YAD (m+j+1) (.c0 f (a:Int) out)=some (out++(WY j f a).1,((WY j f a).2:Int)):=by
   intro j
   induction j with
   | zero=>intro a m out ha hj;omega
   | succ j ih=>
    intro a m out ha hj ho
    rw [show m+(j+1)+1=(m+j+1)+1 by omega,YAD]
    simp only [AAP,WY]
    rw [KAl hf ha,Option.bind_some]
    rcases XAQ hf ha with h | ⟨v,h,hv0,hv1,hA⟩
    ·rw [show Nc f a=none by rw [Nc,h];rfl,h]
     rw [List.append_nil];rfl
    ·have hp:=Oe v
     have hsz:=hA.size.resolve_left (by intro h;rw [h] at hp;simp at hp)
     obtain ⟨R,hR⟩:∃ R,R=Nc f a:=⟨_,rfl⟩
     have hn0:=hR
     rw [Nc,h] at hn0
     rw [h]
     generalize hq:a+(IK v).length=q at hsz hn0
     simp only [Bool.not_true,cond_false,Yb,Option.bind_some]
     cases hr:FN v 1 9000
     ·rw [hr] at hn0
      have hn1:R=none:=hn0
      rw [←hR,hn1,List.append_nil];rfl
     ·rw [hr] at hn0
      simp only [Bool.not_true,cond_false,Bool.true_and] at hn0 ⊢
      rw [w64_id (n:=(f.size:Int) - (q:Int)) (by omega) (by omega),w64_id (n:=(f.size:Int) - (q:Int) - 4) (by omega) (by omega),w64_id (n:=(q:Int)+4) (by omega) (by omega),w64_id (n:=(q:Int)+4+v) (by omega) (by omega)]
      by_cases h3:v > (f.size:Int) - (q:Int) - 4
      ·rw [TB (by simp;omega)]
       rw [decide_eq_false (by omega:¬ v≤(f.size:Int) - (q:Int) - 4)] at hn0
       have hn1:R=none:=hn0
       rw [←hR,hn1,List.append_nil]
      ·have e2:((q:Int)+4).toNat=q+4:=by omega
       have e3:((q:Int)+4+v).toNat=q+4+v.toNat:=by omega
       have hxs:(f.extract (q+4) (q+4+v.toNat)).size=v.toNat:=by rw [ByteArray.size_extract];omega
       rw [decide_eq_true (by omega:v≤(f.size:Int) - (q:Int) - 4),e2,e3,Int.toNat_natCast,Bool.true_and] at hn0
       rw [NM (by simp;omega),TB (by simp;omega),TB (by simp;omega),e2,e3,Int.toNat_natCast,OAZ (by omega),Option.bind_some,SAE (Oq _),Option.bind_some,Ym,SN (Zm (Oq _))]
       cases hc:(bs (f.extract q (q+4)) == four (Ib (bs (f.extract (q+4) (q+4+v.toNat)))))
       ·rw [hc] at hn0
        have hn1:R=none:=hn0
        rw [←hR,hn1,List.append_nil];rfl
       ·rw [hc] at hn0
        have hn1:R=some (f.extract (q+4) (q+4+v.toNat),q+4+v.toNat):=hn0
        rw [←hR,hn1,NM (by rfl),TB (by simp;omega),show (q:Int)+4+v=((q+4+v.toNat:Nat):Int) by omega,ih (q+4+v.toNat) m _ (by omega) (by omega) (by simp;omega)]
        simp
  obtain ⟨m,hm⟩:∃ m,gas=m+(f.size+1)+1:=⟨gas - (f.size+2),by have:=gas_lt (n:=f.size+2) (by omega);omega⟩
  rw [hm,show (0:Int)=((0:Nat):Int) from rfl,key (f.size+1) 0 m [] (by omega) (by omega) (Nat.le_refl _)]
  rfl
theorem LAl {t:ByteArray} (h:t.size≤140737488351232):Lm t=some (frameT t):=by
 rw [Lm,EAQ,Yb,Option.bind_some,frameT]
 cases h1:FN (t.size:Int) 1 9000
 ·rfl
 ·rw [DY] at h1
  have:=Aa (n:=(t.size:Int)) (by omega)
  rw [NM (by rfl),Dn (by omega),Option.bind_some,OAZ h,Option.bind_some,SAE (Oq _),Option.bind_some,TB (by rw [ofBytes_size,ofBytes_size,decide_eq_true_eq];have:(four (Ib (bs t))).length=4:=rfl;omega)]
  rw [TB (by rw [ByteArray.size_append,ofBytes_size,ofBytes_size,decide_eq_true_eq];have:(four (Ib (bs t))).length=4:=rfl;omega),PAZ,cond_true]
theorem MAl {k file:ByteArray} (hk:k.size≤900000000) (hf:file.size≤140737488351232):Ns k file=some (HY k file):=by
 obtain ⟨u1,u2,_,_⟩:=TAE (file:=file)
 rw [Ns,FAQ,JAl hf,Option.bind_some,HY]
 generalize (Mc file).1=l at u1 u2
 have key:∀ (j i m:Nat) (e:Int) (out:List SRec),i+j=l.length→0≤e→e≤30000*i→out.length≤i→F8 (m+j+1) (.c0 k e (l.length:Int) (i:Int) out l)=some (out++(MZ k ((i:Int)+1) (l.drop i)).1,e+(MZ k ((i:Int)+1) (l.drop i)).2):=by
  intro j
  induction j with
  | zero=>
   intro i m e out h he he2 ho
   obtain rfl:i=l.length:=by omega
   rw [F8]
   simp only [NAE]
   rw [NM (by simp),List.drop_length,MZ,List.append_nil,Int.add_zero]
  | succ j ih=>
   intro i m e out h he he2 ho
   have hi:i<l.length:=by omega
   have hz:=u1 _ (List.getElem_mem hi)
   have ew:w64 ((i:Int)+1)=((i+1:Nat):Int):=by rw [w64_id (by omega) (by omega)];rfl
   have hoz:=YAQ k l[i] ((i+1:Nat):Int)
   have hfz:=QAZ (t:=l[i]) (by omega)
   rw [show m+(j+1)+1=(m+j+1)+1 by omega,F8]
   simp only [NAE,ew,Int.toNat_natCast,getD_at hi]
   rw [TB (by simp;omega),TB (by simp;omega),NAl hk (by omega),Option.bind_some,OAl (by omega),Option.bind_some,drop_at hi,MZ,show ((i:Int)+1)=((i+1:Nat):Int) from rfl]
   cases (AY k ((i+1:Nat):Int) l[i]).2
   ·rw [Bool.false_and,cond_false,List.append_nil,Int.add_zero];rfl
   ·rw [NM (by rfl),Bool.true_and]
    cases (BZ (AY k ((i+1:Nat):Int) l[i]).1).2
    ·rw [cond_false,List.append_nil,Int.add_zero];rfl
    ·have h2:=ih (i+1) m (e+((frameT l[i]).1.size:Int)) (out++[(BZ (AY k ((i+1:Nat):Int) l[i]).1).1]) (by omega) (by omega) (by omega) (by simp;omega)
     simp only [Bool.not_true,cond_false,cond_true]
     rw [TB (by simp;omega),LAl (by omega),Option.bind_some,w64_id (by omega) (by omega),h2,List.append_assoc,Int.add_assoc]
     rfl
 obtain ⟨m,hm⟩:∃ m,gas=m+l.length+1:=⟨gas - (l.length+1),by have:=gas_lt (n:=l.length+1) (by omega);omega⟩
 have h0:=key l.length 0 m 0 [] (by omega) (by omega) (by omega) (Nat.le_refl _)
 rw [List.nil_append,Int.zero_add,List.drop_zero] at h0
 rw [hm]
 exact h0
theorem RAZ {b:SBook} (h:b.fThings.length≤2932031007317):Qg b=some b:=by
 rw [Qg,GAQ,TB (by simp;omega)]
def UAE (b:SBook):Bool:=(b.fWord.size:Int) == 32 && ((b.fChain.size:Int) == 32 && (FN b.fTries 0 3 && (decide ((b.fThings.length:Int)≤8) && (FN b.fLast 0 1000 && FN b.fCount 0 10000))))
theorem PAl {b:SBook} (hb:b.fThings.length≤140737488351232):∀ m i,i≤b.fThings.length→b.fThings.length - i<m→Dq m (.c0 b.fThings b.fThings.length i b)=some (rise b.fLast (Zb b.fThings i) (b.fThings.drop i) && UAE b):=fun m i h1 h2=>
 loopN (A:=Unit) (n:=b.fThings.length) (Lp:=Dq) (st:=fun i _=>.c0 b.fThings b.fThings.length i b) (Inv:=fun _ _=>True) (out:=fun i _=>some (rise b.fLast (Zb b.fThings i) (b.fThings.drop i) && UAE b))
  (fun m _ _=>by
   simp only [Dq,OAE,Yb,Option.bind_some,UAE]
   rw [show decide ((b.fThings.length:Int)<(b.fThings.length:Int))=false from decide_eq_false (by omega),List.drop_of_length_le (Nat.le_refl _)]
   cases (b.fWord.size:Int) == 32 <;> cases (b.fChain.size:Int) == 32 <;> cases FN b.fTries 0 3 <;> cases decide ((b.fThings.length:Int)≤8) <;> cases FN b.fLast 0 1000 <;> rfl)
  (fun m i _ hi _=>by
   have hw:w64 ((i:Int)+1)=((i+1:Nat):Int):=by rw [w64_id (by omega) (by omega)];rfl
   simp only [SAZ hi]
   simp only [Dq,OAE,Int.toNat_natCast,getD_at hi,TAZ,Option.bind_some,hw]
   rw [show decide ((i:Int)<(b.fThings.length:Int))=true from decide_eq_true (by omega),show decide ((0:Int)≤(i:Int))=true from decide_eq_true (by omega)]
   simp only [Bool.and_self,cond_true]
   cases h1:OY b.fThings[i]
   ·exact .inl rfl
   ·cases h2:decide (b.fThings[i].fId > b.fLast)
    ·by_cases h0:i=0
     ·subst h0
      refine .inr ⟨(),rfl,trivial,?_⟩
      rw [show decide (Zb b.fThings 0≥b.fThings[0].fId)=false from decide_eq_false (by have:=(Ag h1).2.2.1;simp only [Zb];omega)]
      rfl
     ·obtain ⟨j,rfl⟩:∃ j,i=j+1:=⟨i - 1,by omega⟩
      have hj:w64 (((j+1:Nat):Int) - 1)=(j:Int):=by rw [w64_id (by omega) (by omega)];omega
      have hjl:j<b.fThings.length:=by omega
      rw [ZAQ hjl]
      simp only [hj,Int.toNat_natCast,getD_at hjl,Bool.not_true,Bool.not_false,cond_false,Bool.true_and]
      rw [show decide (((j+1:Nat):Int) > 0)=true from decide_eq_true (by omega),show decide ((0:Int)≤(j:Int))=true from decide_eq_true (by omega),show decide ((j:Int)<(b.fThings.length:Int))=true from decide_eq_true (by omega)]
      simp only [Bool.and_self,cond_true]
      cases h3:decide (b.fThings[j].fId≥b.fThings[j+1].fId)
      ·exact .inr ⟨(),rfl,trivial,rfl⟩
      ·exact .inl rfl
    ·exact .inl rfl) m i () h1 h2 trivial
theorem UAZ {b:SBook} (hb:b.fThings.length≤140737488351232):Pg b=some (IZ b):=by
 have h0:=PAl hb gas 0 (Nat.zero_le _) (gas_lt (by omega))
 simp only [Pg,HAQ]
 refine h0.trans (congrArg some ?_)
 simp only [IZ,UAE,List.drop_zero,Zb]
 cases rise b.fLast 0 b.fThings <;> simp
theorem QAl (x y:SThing):Qr x y=some (grown x y):=by
 rw [Qr,XAF,grown,Ym,show decide (y.fNext≥x.fNext)=decide (x.fNext≤y.fNext) from rfl]
 cases (y.fKind == x.fKind) <;> cases (bs y.fValue == bs x.fValue) <;> cases y.fSigns <;> cases x.fSigns <;> cases y.fWraps <;> cases x.fWraps <;> cases decide (x.fNext≤y.fNext) <;> cases y.fHidden <;> cases x.fHidden <;> cases y.fFixed <;> cases x.fFixed <;> rfl
theorem RAl {b:SBook} {x:SThing} (hb:IZ b=true) (hx:x.fId≤1000):Sr b x=some (match Om b x with
 | some p=>(true,⟨b.fWord,b.fTries,p.1,p.2,b.fChain,b.fCount⟩)
 | none=>(false,b)):=by
 obtain ⟨b1,b2,b3,b4,b5,b6,b7⟩:=Qe.1 hb
 rw [Sr,ZAF,AAR (by omega),Option.bind_some,Om]
 rcases CAR (xs:=b.fThings) (id:=x.fId) with ⟨o,j,t1,t2,t3,t4,t5⟩ | ⟨t1,t2⟩
 ·have hg:∀ z,b.fThings.getD j z=o:=fun z=>by rw [List.getD,t4];rfl
  have hs:=(DAR b7 t2).1
  rw [Nat.sub_zero] at hs
  rw [t1,t2]
  simp only [Int.toNat_natCast,hg,QAl,Option.bind_some,hs]
  rw [TB (by simp),TB (by simp;omega)]
  cases grown o x
  ·rfl
  ·rw [NM (by rfl),TB (by simp;omega)];rfl
 ·rw [t1,t2]
  simp only
  have hw:w64 (b.fLast+1)=b.fLast+1:=w64_id (by omega) (by omega)
  rw [NM (by rfl),hw]
  cases h1:(x.fId != b.fLast+1)
  ·by_cases h2:(b.fThings.length:Int)≥8
   ·rw [decide_eq_true h2];rfl
   ·rw [decide_eq_false h2,cond_false,cond_false,TB (by simp;omega)];rfl
  ·rfl
theorem SAl {b:SBook} {r:SRec} (hb:b.fThings.length≤140737488351232) (hr:r.fNum≤9223372036854775807):Fj b r=some (TY b r):=by
 rw [Fj,AAG,Zi hr,Option.bind_some,UAZ hb,Option.bind_some,TY]
 cases h1:IZ b
 ·rfl
 cases h2:(CV r).2
 ·rfl
 by_cases h3:b.fCount≥10000
 ·rw [decide_eq_true h3];rfl
 obtain ⟨b1,b2,b3,b4,b5,b6,b7⟩:=Qe.1 h1
 have hz:=VAZ r
 have hw:w64 (b.fCount+1)=b.fCount+1:=w64_id (by omega) (by omega)
 have hdig:=J8 (s:=b.fChain++(CV r).1) (by rw [ByteArray.size_append];omega)
 have hsz:decide (b.fChain.size+(CV r).1.size≤9223372036854775807)=true:=by rw [decide_eq_true_eq];omega
 simp only [decide_eq_false h3,Bool.not_true,Bool.or_self,cond_false,RAZ (show b.fThings.length≤2932031007317 by omega),hdig,hsz,hw,Option.bind_some,cond_true]
 rcases VAE h2 with ⟨hk,hc⟩ | ⟨hk,hc⟩ | ⟨hk,hc⟩ | ⟨hk,hc⟩
 ·rw [hk];rfl
 ·rw [hk];rfl
 ·rw [hk]
  simp only [show ((3:Int) == 1)=false from rfl,show ((3:Int) == 2)=false from rfl,show ((3:Int) == 3)=true from rfl,cond_true,cond_false]
  rw [RAl h1 (Ag hc).2.2.2.1,Option.bind_some]
  cases Om b r.fThing with
  | none=>rfl
  | some p=>simp only [Bool.not_true,cond_false,hw]
 ·rw [hk]
  simp only [show ((4:Int) == 1)=false from rfl,show ((4:Int) == 2)=false from rfl,show ((4:Int) == 3)=false from rfl,show ((4:Int) == 4)=true from rfl,cond_true,cond_false]
  rw [AAR hb,Option.bind_some]
  rcases CAR (xs:=b.fThings) (id:=r.fNum) with ⟨o,j,t1,t2,t3,t4,t5⟩ | ⟨t1,t2⟩
  ·have hs:=(DAR (x:=⟨r.fNum,0,false,false,false,false,⟨#[]⟩,0⟩) b7 t2).2
   rw [Nat.sub_zero] at hs
   simp only at hs
   rw [t1,t2]
   simp only [Int.toNat_natCast]
   have e:w64 ((j:Int)+1)=((j+1:Nat):Int):=by rw [w64_id (by omega) (by omega)];rfl
   simp only [e,Int.toNat_natCast,List.drop_zero,List.take_length,hs]
   rw [NM (by simp),TB (by simp;omega),TB (by rw [List.length_take,decide_eq_true_eq];omega),TB (by simp;omega),TB (by rw [List.length_take,List.length_drop,decide_eq_true_eq];omega)]
  ·rw [t1,t2];rfl
theorem TAl {b:SBook} {l:List SRec} (hb:b.fThings.length≤2932031007317) (hl:l.length≤140737488351232) (hr:∀ r ∈ l,r.fNum≤9223372036854775807):Es b l=some (QZ b l):=by
 have key:∀ (j i m:Nat) (b:SBook),i+j=l.length→b.fThings.length≤2932031007317→Zr (m+j+1) (.c0 l (l.length:Int) (i:Int) ⟨#[]⟩ 0 0 ⟨#[]⟩ 0 b.fWord b.fTries b.fLast b.fChain b.fCount [] b.fThings)=some (QZ b (l.drop i)):=by
  intro j
  induction j with
  | zero=>
   intro i m b h hb
   obtain rfl:i=l.length:=by omega
   rw [Zr]
   simp only [L9]
   rw [NM (by simp),List.drop_length];rfl
  | succ j ih=>
   intro i m b h hb
   have hi:i<l.length:=by omega
   have e:w64 ((i:Int)+1)=((i+1:Nat):Int):=by rw [w64_id (by omega) (by omega)];rfl
   rw [show m+(j+1)+1=(m+j+1)+1 by omega,Zr]
   simp only [L9,e,Int.toNat_natCast,getD_at hi]
   rw [TB (by simp;omega),TB (by simp;omega),SAl (by show b.fThings.length≤_;omega) (hr _ (List.getElem_mem hi)),Option.bind_some,drop_at hi,QZ]
   cases h2:(TY b l[i]).2
   ·rfl
   ·have h3:=PAE h2
    rw [NM (by rfl),cond_true]
    exact ih (i+1) m (TY b l[i]).1 (by omega) (by omega)
 obtain ⟨m,hm⟩:∃ m,gas=m+l.length+1:=⟨gas - (l.length+1),by have:=gas_lt (n:=l.length+1) (by omega);omega⟩
 rw [Es,HAG,RAZ hb,Option.bind_some,hm]
 exact key l.length 0 m b (by omega) hb
theorem WAZ {k:ByteArray} {d:SDisk} (hk:k.size≤900000000) (hd:d.fFiles.length≤140737488351232) (hf:∀ f ∈ d.fFiles,f.fText.size≤140737488351232):Ug k d=some (ZX k d):=by
 have hfs:(TT d WX).1.size≤140737488351232:=TAQ hf
 obtain ⟨r1,r2⟩:=XAZ k (TT d WX).1
 have hl:=YAZ k (TT d WX).1
 rw [Ug,IAG,show (⟨#[98,111,111,107]⟩:ByteArray)=WX from rfl,show (⟨#[98,111,111,107,43]⟩:ByteArray)=nNew from rfl,FAl hd,Option.bind_some,MAl hk hfs,Option.bind_some,KAZ,Option.bind_some,TAl (Nat.zero_le _) (by omega) (UAl _ _),Option.bind_some,Iq hd,Option.bind_some,RAE hd,ZX]
 cases GY d
 ·rfl
 cases (QZ He (HY k (TT d WX).1).1).2
 ·rfl
 simp only [Option.bind_some,Bool.not_true,Bool.or_self,cond_false]
 by_cases he:(HY k (TT d WX).1).2=((TT d WX).1.size:Int)
 ·rw [show ((HY k (TT d WX).1).2 == ((TT d WX).1.size:Int))=true by rw [beq_iff_eq];exact he]
  cases decide (AZ d nNew≥0) <;> rfl
 ·rw [show ((HY k (TT d WX).1).2 == ((TT d WX).1.size:Int))=false by rw [beq_eq_false_iff_ne];exact he,cond_false,cond_false]
  have hg:(decide (0≤(HY k (TT d WX).1).2) && decide ((HY k (TT d WX).1).2≤((TT d WX).1.size:Int)))=true:=by rw [Bool.and_eq_true,decide_eq_true_eq,decide_eq_true_eq];exact ⟨r1,r2⟩
  simp only [hg,cond_true]
  cases decide (AZ d nNew≥0) <;> rfl
theorem VAl {b:SBook} {t:Int} (h:b.fThings.length≤140737488351232):Ij b t=some (match UY b.fThings t with | some x=>(x,true) | none=>(En,false)):=by
 have hp:=ZAZ t b.fThings 0
 simp only [Ij,OAG,AAR h,Option.bind_some]
 cases hq:RZ b.fThings t 0 with
 | none=>rw [hq] at hp;simp only at hp ⊢;rw [hp];rfl
 | some j=>
  rw [hq] at hp
  simp only [Nat.sub_zero,Nat.zero_add] at hp ⊢
  obtain ⟨_,h1,h2⟩:=hp
  rw [h2,List.getElem?_eq_getElem h1]
  simp only [Int.toNat_natCast,getD_at h1]
  rw [show (decide ((j:Int)<0))=false from decide_eq_false (by omega),show (decide ((0:Int)≤(j:Int)))=true from decide_eq_true (by omega),show (decide ((j:Int)<(b.fThings.length:Int)))=true from decide_eq_true (by omega)]
  rfl
theorem WAl {b:SBox} (hl:b.fLives.length≤140737488351232) (ht:b.fBook.fThings.length≤140737488351232):Jj b=some (JAQ b):=by
 have key:∀ (j i m:Nat),i+j=b.fLives.length→Us (m+j+1) (.c0 b.fLives (b.fLives.length:Int) (i:Int) b)=some (Pq b j i):=by
  intro j
  induction j with
  | zero=>
   intro i m hi
   rw [Us];simp only [U9]
   rw [NM (by simp;omega)];rfl
  | succ j ih=>
   intro i m hi
   have hw:w64 ((i:Int)+1)=((i+1:Nat):Int):=by rw [w64_id (by omega) (by omega)];rfl
   have d1:decide ((i:Int)<(b.fLives.length:Int))=true:=decide_eq_true (by omega)
   have d0:decide ((0:Int)≤(i:Int))=true:=decide_eq_true (by omega)
   rw [show m+(j+1)+1=(m+j+1)+1 from rfl,Us]
   simp only [U9,VAl ht,Yb,Option.bind_some,d0,d1,Bool.and_self,cond_true,Int.toNat_natCast,hw,ih (i+1) m (by omega),Pq,EAR]
   cases UY b.fBook.fThings (b.fLives.getD i ⟨0,0⟩).fId with
   | none=>rfl
   | some x=>
    simp only [bne]
    cases x.fKind == 2
    ·rfl
    cases FN (b.fLives.getD i ⟨0,0⟩).fNext 0 x.fNext
    ·rfl
    by_cases h0:i=0
    ·subst h0;rfl
    ·obtain ⟨k,rfl⟩:∃ k,i=k+1:=⟨i - 1,by omega⟩
     have hk:w64 (((k+1:Nat):Int) - 1)=(k:Int):=by rw [w64_id (by omega) (by omega)];omega
     rw [show decide (((k+1:Nat):Int) > 0)=true from decide_eq_true (by omega)]
     simp only [hk,Int.toNat_natCast,show decide ((0:Int)≤(k:Int))=true from decide_eq_true (by omega),show decide ((k:Int)<(b.fLives.length:Int))=true from decide_eq_true (by omega),Bool.and_self,cond_true,Nat.add_sub_cancel]
     cases decide ((b.fLives.getD k ⟨0,0⟩).fId≥(b.fLives.getD (k+1) ⟨0,0⟩).fId) <;> rfl
 obtain ⟨m,hm⟩:∃ m,gas=m+b.fLives.length+1:=⟨gas - (b.fLives.length+1),by have:=gas_lt (n:=b.fLives.length) (by omega);omega⟩
 rw [Jj,PAG,hm]
 exact key b.fLives.length 0 m (Nat.zero_add _)
theorem XAl {b:SBox} (hd:b.fDisk.fFiles.length≤140737488351232) (hf:∀ f ∈ b.fDisk.fFiles,f.fText.size≤140737488351232) (ht:b.fBook.fThings.length≤140737488351232) (hs:b.fSessions.length≤140737488351232) (hl:b.fLives.length≤140737488351232):Et b=some (Xi b):=by
 rw [Et,RAG,Iq hd,Yb,Xi]
 simp only [Option.bind_some,bne]
 cases hz:(b.fKey.size:Int) == 32
 ·rfl
 have hk:b.fKey.size≤900000000:=by rw [beq_iff_eq] at hz;omega
 obtain ⟨l1,l2⟩:=H8 b.fKey b.fDisk
 have key:b.fUp=true→∀ (j i m:Nat),i+j=b.fSessions.length→i≤3→Dt (m+j+1) (.c0 b.fSessions (b.fSessions.length:Int) (i:Int) b)=some (decide ((b.fSessions.length:Int)≤3) && (Pm b j i && Gq b)):=by
  intro hup j
  induction j with
  | zero=>
   intro i m hi h3
   rw [Dt];simp only [Ws]
   rw [NM (by simp;omega),Gq,hup,decide_eq_true (by omega:(b.fSessions.length:Int)≤3)]
   simp only [WAZ hk hd hf,NAZ (show (ZX b.fKey b.fDisk).1.fThings.length≤140737488351232 by omega),UAZ ht,WAl hl ht,Option.bind_some]
   cases (ZX b.fKey b.fDisk).2.2 <;> cases ((ZX b.fKey b.fDisk).2.1.length:Int) == 0 <;> cases IZ b.fBook <;> cases Yf (ZX b.fKey b.fDisk).1 b.fBook <;> rfl
  | succ j ih=>
   intro i m hi h3
   have hw:w64 ((i:Int)+1)=((i+1:Nat):Int):=by rw [w64_id (by omega) (by omega)];rfl
   have d1:decide ((i:Int)<(b.fSessions.length:Int))=true:=decide_eq_true (by omega)
   have d0:decide ((0:Int)≤(i:Int))=true:=decide_eq_true (by omega)
   rw [show m+(j+1)+1=(m+j+1)+1 from rfl,Dt]
   by_cases h4:i=3
   ·simp only [Ws,d0,d1,Bool.and_self,cond_true]
    rw [decide_eq_true (by omega:(i:Int)≥3),decide_eq_false (by omega:¬ (b.fSessions.length:Int)≤3)];rfl
   have d3:decide ((i:Int)≥3)=false:=decide_eq_false (by omega)
   simp only [Ws,Yb,Option.bind_some,d0,d1,d3,Bool.and_self,cond_true,cond_false,Int.toNat_natCast,hw,ih (i+1) m (by omega) (by omega),Pm,IAQ]
   cases FN (b.fSessions.getD i ⟨0,false⟩).fId 1 b.fOpened
   ·simp
   by_cases h0:i=0
   ·subst h0;simp
   ·obtain ⟨k,rfl⟩:∃ k,i=k+1:=⟨i - 1,by omega⟩
    have hk:w64 (((k+1:Nat):Int) - 1)=(k:Int):=by rw [w64_id (by omega) (by omega)];omega
    rw [show decide (((k+1:Nat):Int) > 0)=true from decide_eq_true (by omega)]
    simp only [hk,Int.toNat_natCast,show decide ((0:Int)≤(k:Int))=true from decide_eq_true (by omega),show decide ((k:Int)<(b.fSessions.length:Int))=true from decide_eq_true (by omega),Bool.and_self,cond_true,Nat.add_sub_cancel]
    cases decide ((b.fSessions.getD k ⟨0,false⟩).fId≥(b.fSessions.getD (k+1) ⟨0,false⟩).fId) <;> simp
 cases hdk:GY b.fDisk
 ·rfl
 cases ho:FN b.fOpened 0 1000
 ·simp
 cases hup:b.fUp
 ·rw [Gq,hup]
  simp only [KAZ,NAZ ht,Option.bind_some,Bool.not_false,Bool.not_true,cond_true,cond_false,Bool.true_and]
  cases hn:(b.fSessions.length:Int) == 0
  ·simp
  ·have hn0:b.fSessions.length=0:=by rw [beq_iff_eq] at hn;omega
   rw [hn0]
   cases (b.fLives.length:Int) == 0 <;> simp [Pm]
 ·obtain ⟨m,hm⟩:∃ m,gas=m+b.fSessions.length+1:=⟨gas - (b.fSessions.length+1),by have:=gas_lt (n:=b.fSessions.length) (by omega);omega⟩
  have h0:=key hup b.fSessions.length 0 m (Nat.zero_add _) (by omega)
  simp only [Bool.not_true,cond_false,Bool.true_and]
  rw [hm]
  exact h0
theorem AAa {d:SDisk} (h:d.fFiles.length*40≤140737488355328):Xg d=some d:=by
 rw [Xg,SAG,TB (by rw [decide_eq_true_eq];exact h)]
theorem BAa {d:SDisk} {n:ByteArray} (h:d.fFiles.length*40≤140737488351232) (hs:Sorted d.fFiles):Yg d n=some ⟨FY d.fFiles n⟩:=by
 have hp:=TAk (l:=d.fFiles) (n:=n) (i:=0)
 rw [Yg,VAG,RAE (by omega),Option.bind_some,←SAk hs,AZ]
 cases he:RY d.fFiles n 0 with
 | none=>
  rw [he] at hp
  rw [hp];rfl
 | some j=>
  rw [he] at hp
  have hj:=(Sm he).2
  have hw:w64 ((j:Int)+1)=((j+1:Nat):Int):=by rw [w64_id (by omega) (by omega)];rfl
  have hd:(d.fFiles.drop (j+1)).take (d.fFiles.length - (j+1))=d.fFiles.drop (j+1):=List.take_of_length_le (by rw [List.length_drop];omega)
  simp only [hw,Int.toNat_natCast,Nat.sub_zero,List.drop_zero,hd]
  rw [TB (by simp),TB (by simp;omega),TB (by simp [List.length_take];omega),TB (by simp;omega),TB (by simp [List.length_take,List.length_drop];omega)]
  simp only [Nat.sub_zero] at hp
  rw [hp]
theorem CAa {d:SDisk} {f:SFile} (h:d.fFiles.length*40≤140737488351232) (hs:Sorted d.fFiles):Ot d f=some ⟨VY d.fFiles f⟩:=by
 rw [Ot,YAG,BAa h hs,Option.bind_some,←UAk hs]
 have hol:(FY d.fFiles f.fName).length≤d.fFiles.length:=List.length_filter_le _ _
 generalize hL:FY d.fFiles f.fName=l at hol ⊢
 have key:∀ (j i m:Nat),i+j=l.length→Kt (m+j+1) (.c0 (i:Int) f l)=some ⟨l.take i++Vh (l.drop i) f⟩:=by
  intro j
  induction j with
  | zero=>
   intro i m hi
   have hd:(l.drop i).take (l.length - i)=l.drop i:=List.take_of_length_le (by rw [List.length_drop];omega)
   rw [Kt];simp only [W9,Int.toNat_natCast,Nat.sub_zero,List.drop_zero,hd]
   rw [NM (by simp;omega),TB (by simp;omega),TB (by simp [List.length_take];omega),TB (by simp [List.length_take];omega),TB (by simp;omega),TB (by simp [List.length_take,List.length_drop];omega)]
   rw [show l.drop i=[] from List.drop_of_length_le (by omega)]
   simp [Vh]
  | succ j ih=>
   intro i m hi
   have hil:i<l.length:=by omega
   have hw:w64 ((i:Int)+1)=((i+1:Nat):Int):=by rw [w64_id (by omega) (by omega)];rfl
   have hd:(l.drop i).take (l.length - i)=l.drop i:=List.take_of_length_le (by rw [List.length_drop];omega)
   rw [show m+(j+1)+1=(m+j+1)+1 from rfl,Kt]
   simp only [W9,Int.toNat_natCast,Nat.sub_zero,List.drop_zero,hd,hw,getD_at hil,ih (i+1) m (by omega)]
   rw [TB (by simp;omega),TB (by simp;omega),drop_at hil,Vh]
   cases Op.bytesLess l[i].fName.toList f.fName.toList
   ·rw [cond_false,cond_false,←drop_at hil,TB (by simp;omega),TB (by simp [List.length_take];omega),TB (by simp [List.length_take];omega),TB (by simp;omega),TB (by simp [List.length_take,List.length_drop];omega)]
    simp
   ·rw [cond_true,cond_true,show l.take (i+1)=l.take i++[l[i]] by rw [List.take_add_one,List.getElem?_eq_getElem hil];rfl,List.append_assoc];rfl
 obtain ⟨m,hm⟩:∃ m,gas=m+l.length+1:=⟨gas - (l.length+1),by have:=gas_lt (n:=l.length+1) (by omega);omega⟩
 rw [hm]
 have:=key l.length 0 m (Nat.zero_add _)
 simpa using this
theorem YAl {d:SDisk} {a:SAct} (hd:d.fFiles.length*40≤140737488351232) (ha:a.fText.size≤140737488351232):Nj d a=some (Xc d a):=by
 have ho:=EAZ d.fFiles a.fName
 rw [Nj,AAH,Xc]
 simp only [Iq (d:=d) (by omega),RAE (d:=d) (n:=a.fName) (by omega),AAa (d:=d) (by omega),Option.bind_some,bne]
 cases hdk:GY d
 ·rfl
 obtain ⟨hl,hok⟩:=Um hdk
 have hs:=RAk hdk
 have hpl:∀ (l:List SFile) (f:SFile),l.length≤30→(VY l f).length≤31:=fun l f h=>by
  have:=ZAY f.fName l
  rw [VY,List.length_append,List.length_append];simp only [List.length_cons,List.length_nil];omega
 simp only [BAa (d:=d) (n:=a.fName) hd hs,fun f=>CAa (d:=d) (f:=f) hd hs,fun f=>CAa (d:=⟨FY d.fFiles a.fName⟩) (f:=f) (show (FY d.fFiles a.fName).length*40≤_ by omega) (XAk hs),Option.bind_some,
  fun f=>Iq (d:=⟨VY d.fFiles f⟩) (show (VY d.fFiles f).length≤_ by have:=hpl d.fFiles f hl;omega),fun f=>Iq (d:=⟨VY (FY d.fFiles a.fName) f⟩) (show (VY (FY d.fFiles a.fName) f).length≤_ by have:=hpl (FY d.fFiles a.fName) f (by omega);omega),Iq (d:=⟨FY d.fFiles a.fName⟩) (show (FY d.fFiles a.fName).length≤_ by omega)]
 have fin:∀ l:List SFile,(bif !GY ⟨l⟩ then some ((⟨[]⟩:SDisk),false) else some (⟨l⟩,true))=some (doneD l):=fun l=>by rw [doneD];cases GY ⟨l⟩ <;> rfl
 have ht:∀ f,La f=true→f.fText.size+a.fText.size≤9223372036854775807:=fun f hf=>by have:=(PAQ.1 hf).2.1;omega
 simp only [fin,Bool.true_and,Bool.not_true,cond_false]
 cases hp:RY d.fFiles a.fName 0 with
 | some j=>
  obtain ⟨hj,hfo,_,_⟩:=QAQ hdk hp
  simp only [show AZ d a.fName=(j:Int) by rw [AZ,hp],Int.toNat_natCast,show decide ((j:Int)≥0)=true from decide_eq_true (by omega),show decide ((j:Int)<0)=false from decide_eq_false (by omega),show decide ((j:Int)<(d.fFiles.length:Int))=true from decide_eq_true (by omega),Bool.and_self,cond_true,cond_false]
  generalize hf:d.fFiles.getD j Ie=f at hfo
  have hf':d.fFiles.getD j (⟨⟨#[]⟩,⟨#[]⟩,0⟩:SFile)=f:=hf
  have hk:(f.fKept == (f.fText.size:Int)) = !decide (f.fKept<(f.fText.size:Int)):=by
   have:=(PAQ.1 hfo).2.2
   by_cases h:f.fKept=(f.fText.size:Int)
   ·rw [beq_iff_eq.2 h,decide_eq_false (by omega)];rfl
   ·rw [beq_eq_false_iff_ne.2 h,decide_eq_true (by omega)];rfl
  simp only [hf',decide_eq_true (ht f hfo),cond_true,Hq,hk]
  cases a.fKind == 1 <;> cases a.fKind == 2 <;> cases a.fKind == 3 <;> cases a.fKind == 4 <;> cases a.fTo.toList == (⟨#[]⟩:ByteArray).toList <;> cases a.fText.toList == (⟨#[]⟩:ByteArray).toList <;> cases decide (f.fKept<(f.fText.size:Int)) <;> cases a.fTo.toList == a.fName.toList <;> rfl
 | none=>
  have hs:decide ((⟨#[]⟩:ByteArray).size+a.fText.size≤9223372036854775807)=true:=decide_eq_true (by show 0+a.fText.size≤_;omega)
  simp only [show AZ d a.fName = -1 by rw [AZ,hp],show decide ((-1:Int)≥0)=false from rfl,show decide ((-1:Int)<0)=true from rfl,hs,cond_true,cond_false]
  cases a.fKind == 1 <;> cases a.fKind == 2 <;> cases a.fKind == 3 <;> cases a.fKind == 4 <;> cases a.fTo.toList == (⟨#[]⟩:ByteArray).toList <;> cases a.fText.toList == (⟨#[]⟩:ByteArray).toList <;> rfl
theorem ZAl {d:SDisk} {l:List SAct} (hd:d.fFiles.length*40≤140737488351232) (hl:l.length≤140737488351232) (ha:∀ a ∈ l,a.fText.size≤140737488351232):Ut d l=some (Na d l 0):=by
 have key:∀ (j i m:Nat) (out:List SFile),i+j=l.length→out.length*40≤140737488351232→Tt (m+j+1) (.c0 l l (l.length:Int) (i:Int) [] out)=some (Na ⟨out⟩ (l.drop i) (i:Int)):=by
  intro j
  induction j with
  | zero=>
   intro i m out hi ho
   rw [Tt];simp only [Y9]
   rw [NM (by simp;omega),List.drop_of_length_le (by omega),Na,show (l.length:Int)=(i:Int) by omega]
  | succ j ih=>
   intro i m out hi ho
   have hil:i<l.length:=by omega
   have hw:w64 ((i:Int)+1)=((i+1:Nat):Int):=by rw [w64_id (by omega) (by omega)];rfl
   rw [show m+(j+1)+1=(m+j+1)+1 from rfl,Tt]
   simp only [Y9,show decide ((i:Int)<(l.length:Int))=true from decide_eq_true (by omega),show decide ((0:Int)≤(i:Int))=true from decide_eq_true (by omega),Bool.and_self,cond_true,Int.toNat_natCast,hw,getD_at hil,YAl (d:=⟨out⟩) (a:=l[i]) ho (ha _ (List.getElem_mem hil)),Option.bind_some]
   rw [drop_at hil,Na]
   cases hr:(Xc ⟨out⟩ l[i]).2
   ·rfl
   ·have h30:=(Um (SAQ hr)).1
    rw [Bool.not_true,cond_false,cond_true,ih (i+1) m _ (by omega) (by omega)];rfl
 obtain ⟨m,hm⟩:∃ m,gas=m+l.length+1:=⟨gas - (l.length+1),by have:=gas_lt (n:=l.length+1) (by omega);omega⟩
 rw [Ut,CAH,AAa (by omega),Option.bind_some,hm]
 exact key l.length 0 m _ (Nat.zero_add _) hd
theorem AAm {b:SBox} (hd:b.fDisk.fFiles.length*40≤140737488351232) (hf:∀ f ∈ b.fDisk.fFiles,f.fText.size≤140737488351232) (ht:b.fBook.fThings.length≤140737488351232) (hs:b.fSessions.length≤140737488351232) (hl:b.fLives.length≤140737488351232) (hk:b.fKey.size≤900000000):Vt b=some (Zf b):=by
 obtain ⟨l1,l2⟩:=H8 b.fKey b.fDisk
 rw [Vt,EAH,Zf]
 simp only [XAl (b:=b) (by omega) hf ht hs hl,WAZ hk (show b.fDisk.fFiles.length≤_ by omega) hf,ZAl (d:=b.fDisk) (l:=(ZX b.fKey b.fDisk).2.1) hd (by omega) (HAZ hf),Option.bind_some]
 cases b.fUp
 ·cases Xi b
  ·rfl
  ·cases (ZX b.fKey b.fDisk).2.2
   ·rfl
   ·cases decide ((Na b.fDisk (ZX b.fKey b.fDisk).2.1 0).2<((ZX b.fKey b.fDisk).2.1.length:Int)) <;> rfl
 ·rfl
theorem BAm (a:SFile)  : Oj a a=some true:=by
 simp [Oj,FAH]
theorem CAm {a:(List SFile)} (h:a.length≤140737488351232):Yt a a=some true:=by
 have h0:a.length≤140737488351232:=h
 have key:∀ m i,i≤a.length→a.length - i<m→Io m (.c0 a a i)=some true:=fun m i h1 h2=>
  loopN (A:=Unit) (n:=a.length) (Lp:=Io) (st:=fun i _=>.c0 a a i) (Inv:=fun _ _=>True) (out:=fun _ _=>some true)
   (fun m _ _=>by simp [Io,AAA])
   (fun m i _ hi _=>.inr ⟨(),by
    have hw:w64 ((i:Int)+1)=((i+1:Nat):Int):=by rw [w64_id (by omega) (by omega)];rfl
    simp only [Io,AAA,Int.toNat_natCast,hw,BAm _,getD_at hi,Option.bind_some]
    simp [hi],trivial,rfl⟩) m i () h1 h2 trivial
 have h0:=key gas 0 (Nat.zero_le _) (gas_lt (by omega))
 unfold Yt HAH
 simp only [bne_self_eq_false,cond_false]
 exact h0
theorem DAm {a:SDisk} (h:a.fFiles.length≤140737488351232):Zt a a=some true:=by
 simp [Zt,JAH,CAm h]
theorem EAm (a:SThing)  : Pj a a=some true:=by
 simp [Pj,KAH]
theorem FAm {a:(List SThing)} (h:a.length≤140737488351232):Du a a=some true:=by
 have h0:a.length≤140737488351232:=h
 have key:∀ m i,i≤a.length→a.length - i<m→Jo m (.c0 a a i)=some true:=fun m i h1 h2=>
  loopN (A:=Unit) (n:=a.length) (Lp:=Jo) (st:=fun i _=>.c0 a a i) (Inv:=fun _ _=>True) (out:=fun _ _=>some true)
   (fun m _ _=>by simp [Jo,CAA])
   (fun m i _ hi _=>.inr ⟨(),by
    have hw:w64 ((i:Int)+1)=((i+1:Nat):Int):=by rw [w64_id (by omega) (by omega)];rfl
    simp only [Jo,CAA,Int.toNat_natCast,hw,EAm _,getD_at hi,Option.bind_some]
    simp [hi],trivial,rfl⟩) m i () h1 h2 trivial
 have h0:=key gas 0 (Nat.zero_le _) (gas_lt (by omega))
 unfold Du MAH
 simp only [bne_self_eq_false,cond_false]
 exact h0
theorem GAm {a:SBook} (h:a.fThings.length≤140737488351232):Eu a a=some true:=by
 simp [Eu,OAH,FAm h]
theorem HAm (a:SSession)  : Qj a a=some true:=by
 simp [Qj,PAH]
theorem IAm {a:(List SSession)} (h:a.length≤140737488351232):Hu a a=some true:=by
 have h0:a.length≤140737488351232:=h
 have key:∀ m i,i≤a.length→a.length - i<m→Ko m (.c0 a a i)=some true:=fun m i h1 h2=>
  loopN (A:=Unit) (n:=a.length) (Lp:=Ko) (st:=fun i _=>.c0 a a i) (Inv:=fun _ _=>True) (out:=fun _ _=>some true)
   (fun m _ _=>by simp [Ko,EAA])
   (fun m i _ hi _=>.inr ⟨(),by
    have hw:w64 ((i:Int)+1)=((i+1:Nat):Int):=by rw [w64_id (by omega) (by omega)];rfl
    simp only [Ko,EAA,Int.toNat_natCast,hw,HAm _,getD_at hi,Option.bind_some]
    simp [hi],trivial,rfl⟩) m i () h1 h2 trivial
 have h0:=key gas 0 (Nat.zero_le _) (gas_lt (by omega))
 unfold Hu RAH
 simp only [bne_self_eq_false,cond_false]
 exact h0
theorem JAm (a:SLive)  : Rj a a=some true:=by
 simp [Rj,SAH]
theorem KAm {a:(List SLive)} (h:a.length≤140737488351232):Ju a a=some true:=by
 have h0:a.length≤140737488351232:=h
 have key:∀ m i,i≤a.length→a.length - i<m→Oo m (.c0 a a i)=some true:=fun m i h1 h2=>
  loopN (A:=Unit) (n:=a.length) (Lp:=Oo) (st:=fun i _=>.c0 a a i) (Inv:=fun _ _=>True) (out:=fun _ _=>some true)
   (fun m _ _=>by simp [Oo,GAA])
   (fun m i _ hi _=>.inr ⟨(),by
    have hw:w64 ((i:Int)+1)=((i+1:Nat):Int):=by rw [w64_id (by omega) (by omega)];rfl
    simp only [Oo,GAA,Int.toNat_natCast,hw,JAm _,getD_at hi,Option.bind_some]
    simp [hi],trivial,rfl⟩) m i () h1 h2 trivial
 have h0:=key gas 0 (Nat.zero_le _) (gas_lt (by omega))
 unfold Ju UAH
 simp only [bne_self_eq_false,cond_false]
 exact h0
theorem DAa {a:SBox} (h:(a.fDisk.fFiles.length≤140737488351232)∧(a.fBook.fThings.length≤140737488351232)∧(a.fSessions.length≤140737488351232)∧(a.fLives.length≤140737488351232)):Ku a a=some true:=by
 simp [Ku,WAH,DAm (h.1),GAm (h.2.1),IAm (h.2.2.1),KAm (h.2.2.2)]
theorem LAm:∀ (j:Nat) (k:Int) (m:Nat) (out:ByteArray),0≤k→k≤9223372036854775807→k<10 ^ j→out.size+j≤1000→∃ s,Nu (m+j+1) (.c0 k out)=some s:=by
 intro j
 induction j with
 | zero=>
  intro k m out hk _ hk2 ho
  have:k=0:=by rw [Int.pow_zero] at hk2;omega
  subst this
  rw [Nu]
  simp only [HAA]
  have h9:(⟨#[109]⟩:ByteArray).size=1:=rfl
  rw [NM (by simp),TB (by rw [h9,decide_eq_true_eq];omega)]
  exact ⟨_,rfl⟩
 | succ j ih=>
  intro k m out hk h64 hk2 ho
  rw [show m+(j+1)+1=(m+j+1)+1 by omega,Nu]
  simp only [HAA]
  by_cases h:0<k
  ·have e1:w64 (k.tdiv 10)=k / 10:=by rw [Int.tdiv_eq_ediv_of_nonneg hk,w64_id (by omega) (by omega)]
   have h3:k / 10<10 ^ j:=Int.ediv_lt_of_lt_mul (by omega) (by rw [←Int.pow_succ];exact hk2)
   rw [TB (by simp;omega),TB (by rw [ofBytes_size,decide_eq_true_eq,List.length_singleton];omega),e1]
   exact ih _ m _ (by omega) (by omega) h3 (by rw [ByteArray.size_append,ofBytes_size,List.length_singleton];omega)
  ·have:k=0:=by omega
   subst this
   have h9:(⟨#[109]⟩:ByteArray).size=1:=rfl
   rw [NM (by simp),TB (by rw [h9,decide_eq_true_eq];omega)]
   exact ⟨_,rfl⟩
noncomputable def markT (k:Int):ByteArray:=(CZ k).getD ⟨#[]⟩
theorem Qq {k:Int} (h:k≤1000000000000000000):CZ k=some (markT k):=by
 have:∃ s,CZ k=some s:=by
  rw [CZ,XAH]
  by_cases hk:k≤0
  ·rw [TB (by simp;omega)];exact ⟨_,rfl⟩
  ·rw [NM (by simp;omega)]
   obtain ⟨m,hm⟩:∃ m,gas=m+19+1:=⟨gas - 20,by have:=gas_lt (n:=20) (by omega);omega⟩
   rw [hm]
   exact LAm 19 k m _ (by omega) (by omega) (by (have:(10:Int) ^ 19=10000000000000000000:=by decide);omega) (by show 0+19≤1000;omega)
 obtain ⟨s,hs⟩:=this
 rw [markT,hs];rfl
noncomputable def Rq (k:Int):SFile:=⟨markT (k),markT (k+1),k+1+1⟩
noncomputable def Ba (k:Int):Nat→List SFile
 | 0=>[]
 | n+1=>Rq k::Ba (k+1+1+1) n
theorem MAm (n:Nat):∀ k,(Ba k n).length=n:=by
 induction n with
 | zero=>intro k;rfl
 | succ n ih=>intro k;rw [Ba,List.length_cons,ih]
theorem NAm {a:List SFile} {k:Int} {i m:Nat} (hi:i<a.length) (hk:0<k) (hk2:k≤100000000000000000) (hl:a.length≤100000000000000000) :
  Sj (m+1) (.c0 k (i:Int) a)=Sj m (.c0 (k+1+1+1) ((i+1:Nat):Int) (a.set i (Rq k))):=by
 have hwi:w64 ((i:Int)+1)=((i+1:Nat):Int):=by rw [w64_id (by omega) (by omega)];rfl
 have hlt:decide ((i:Int)<(a.length:Int))=true:=decide_eq_true (by omega)
 have hle:decide ((0:Int)≤(i:Int))=true:=decide_eq_true (by omega)
 have hw1:w64 (k+1)=k+1:=w64_id (by omega) (by omega)
 have hw2:w64 (k+1+1)=k+1+1:=w64_id (by omega) (by omega)
 have hw3:w64 (k+1+1+1)=k+1+1+1:=w64_id (by omega) (by omega)
 have hm0:=Qq (k:=k) (by omega)
 have hm1:=Qq (k:=k+1) (by omega)
 rw [Sj]
 simp only [JAA,Int.toNat_natCast,List.length_set,Ad hi,List.set_set,hwi,hw1,hw2,hw3,hm0,hm1,Option.bind_some,hlt,hle,Bool.and_self,cond_true]
 rfl
theorem OAm {a:List SFile} {k:Int} (hk:0<k) (hb:k+3*a.length≤100000000000000000):Qu a k=some (k+3*a.length,Ba k a.length):=by
 have key:∀ (j i m:Nat) (k:Int) (b d:List SFile),i+j=a.length→d.length=i→b.length=j→0<k→k+3*j≤100000000000000000→Sj (m+1*j+1) (.c0 k (i:Int) (d++b))=some (k+3*j,d++Ba k j):=by
  intro j
  induction j with
  | zero=>
   intro i m k b d h1 h2 h3 h4 h5
   have hb0:b=[]:=List.length_eq_zero_iff.1 h3
   subst hb0
   rw [Sj]
   simp only [JAA,List.append_nil,h2,Ba]
   rw [NM (by simp)]
   simp
  | succ j ih=>
   intro i m k b d h1 h2 h3 h4 h5
   obtain ⟨x,b,rfl⟩:∃ x c,b=x::c:=by cases b with
    | nil=>cases h3
    | cons x c=>exact ⟨x,c,rfl⟩
   rw [List.length_cons] at h3
   have hlen:(d++x::b).length=a.length:=by rw [List.length_append,List.length_cons];omega
   rw [show m+1*(j+1)+1=(m+1*j+1)+1 by omega,NAm (by omega) h4 (by omega) (by omega),Ue h2]
   have h6:=ih (i+1) m (k+1+1+1) b (d++[Rq k]) (by omega) (by rw [List.length_append,List.length_singleton];omega) (by omega) (by omega) (by omega)
   rw [List.append_assoc,List.append_assoc,List.singleton_append,List.singleton_append] at h6
   rw [h6,Ba]
   congr 2
   omega
 obtain ⟨m,hm⟩:∃ m,gas=m+1*a.length+1:=⟨gas - (1*a.length+1),by have:=gas_lt (n:=1*a.length+1) (by omega);omega⟩
 rw [Qu,ZAH,hm]
 exact key a.length 0 m k a [] (by omega) rfl rfl hk hb
theorem PAm {a:SDisk} {k:Int} (hk:0<k) (hb:k+3*a.fFiles.length≤100000000000000000):Ru a k=some (k+3*a.fFiles.length,Ba k a.fFiles.length):=by
 rw [Ru,BAI,OAm hk hb];rfl
noncomputable def Tq (k:Int):SThing:=⟨k,k+1,((k+1+1).tmod 3 == 0),((k+1+1+1).tmod 3 == 0),((k+1+1+1+1).tmod 3 == 0),((k+1+1+1+1+1).tmod 3 == 0),markT (k+1+1+1+1+1+1),k+1+1+1+1+1+1+1⟩
noncomputable def Ea (k:Int):Nat→List SThing
 | 0=>[]
 | n+1=>Tq k::Ea (k+1+1+1+1+1+1+1+1) n
theorem QAm (n:Nat):∀ k,(Ea k n).length=n:=by
 induction n with
 | zero=>intro k;rfl
 | succ n ih=>intro k;rw [Ea,List.length_cons,ih]
theorem RAm {a:List SThing} {k:Int} {i m:Nat} (hi:i<a.length) (hk:0<k) (hk2:k≤100000000000000000) (hl:a.length≤100000000000000000) :
  Ub (m+8) (.c0 k (i:Int) a)=Ub m (.c0 (k+1+1+1+1+1+1+1+1) ((i+1:Nat):Int) (a.set i (Tq k))):=by
 have hwi:w64 ((i:Int)+1)=((i+1:Nat):Int):=by rw [w64_id (by omega) (by omega)];rfl
 have hlt:decide ((i:Int)<(a.length:Int))=true:=decide_eq_true (by omega)
 have hle:decide ((0:Int)≤(i:Int))=true:=decide_eq_true (by omega)
 have hw1:w64 (k+1)=k+1:=w64_id (by omega) (by omega)
 have hw2:w64 (k+1+1)=k+1+1:=w64_id (by omega) (by omega)
 have hw3:w64 (k+1+1+1)=k+1+1+1:=w64_id (by omega) (by omega)
 have hw4:w64 (k+1+1+1+1)=k+1+1+1+1:=w64_id (by omega) (by omega)
 have hw5:w64 (k+1+1+1+1+1)=k+1+1+1+1+1:=w64_id (by omega) (by omega)
 have hw6:w64 (k+1+1+1+1+1+1)=k+1+1+1+1+1+1:=w64_id (by omega) (by omega)
 have hw7:w64 (k+1+1+1+1+1+1+1)=k+1+1+1+1+1+1+1:=w64_id (by omega) (by omega)
 have hw8:w64 (k+1+1+1+1+1+1+1+1)=k+1+1+1+1+1+1+1+1:=w64_id (by omega) (by omega)
 have hm6:=Qq (k:=k+1+1+1+1+1+1) (by omega)
 rw [show m+8=m+1+1+1+1+1+1+1+1 from rfl]
 rw [Ub]
 simp only [Qd,Int.toNat_natCast,List.length_set,Ad hi,List.set_set,hwi,hw1,hw2,hw3,hw4,hw5,hw6,hw7,hw8,hm6,Option.bind_some,hlt,hle,Bool.and_self,cond_true]
 rw [Ub]
 simp only [Qd,Int.toNat_natCast,List.length_set,Ad hi,List.set_set,hwi,hw1,hw2,hw3,hw4,hw5,hw6,hw7,hw8,hm6,Option.bind_some,hlt,hle,Bool.and_self,cond_true]
 rw [Ub]
 simp only [Qd,Int.toNat_natCast,List.length_set,Ad hi,List.set_set,hwi,hw1,hw2,hw3,hw4,hw5,hw6,hw7,hw8,hm6,Option.bind_some,hlt,hle,Bool.and_self,cond_true]
 rw [Ub]
 simp only [Qd,Int.toNat_natCast,List.length_set,Ad hi,List.set_set,hwi,hw1,hw2,hw3,hw4,hw5,hw6,hw7,hw8,hm6,Option.bind_some,hlt,hle,Bool.and_self,cond_true]
 rw [Ub]
 simp only [Qd,Int.toNat_natCast,List.length_set,Ad hi,List.set_set,hwi,hw1,hw2,hw3,hw4,hw5,hw6,hw7,hw8,hm6,Option.bind_some,hlt,hle,Bool.and_self,cond_true]
 rw [Ub]
 simp only [Qd,Int.toNat_natCast,List.length_set,Ad hi,List.set_set,hwi,hw1,hw2,hw3,hw4,hw5,hw6,hw7,hw8,hm6,Option.bind_some,hlt,hle,Bool.and_self,cond_true]
 rw [Ub]
 simp only [Qd,Int.toNat_natCast,List.length_set,Ad hi,List.set_set,hwi,hw1,hw2,hw3,hw4,hw5,hw6,hw7,hw8,hm6,Option.bind_some,hlt,hle,Bool.and_self,cond_true]
 rw [Ub]
 simp only [Qd,Int.toNat_natCast,List.length_set,Ad hi,List.set_set,hwi,hw1,hw2,hw3,hw4,hw5,hw6,hw7,hw8,hm6,Option.bind_some,hlt,hle,Bool.and_self,cond_true]
 rfl
theorem SAm {a:List SThing} {k:Int} (hk:0<k) (hb:k+8*a.length≤100000000000000000):Vu a k=some (k+8*a.length,Ea k a.length):=by
 have key:∀ (j i m:Nat) (k:Int) (b d:List SThing),i+j=a.length→d.length=i→b.length=j→0<k→k+8*j≤100000000000000000→Ub (m+8*j+1) (.c0 k (i:Int) (d++b))=some (k+8*j,d++Ea k j):=by
  intro j
  induction j with
  | zero=>
   intro i m k b d h1 h2 h3 h4 h5
   have hb0:b=[]:=List.length_eq_zero_iff.1 h3
   subst hb0
   rw [Ub]
   simp only [Qd,List.append_nil,h2,Ea]
   rw [NM (by simp)]
   simp
  | succ j ih=>
   intro i m k b d h1 h2 h3 h4 h5
   obtain ⟨x,b,rfl⟩:∃ x c,b=x::c:=by cases b with
    | nil=>cases h3
    | cons x c=>exact ⟨x,c,rfl⟩
   rw [List.length_cons] at h3
   have hlen:(d++x::b).length=a.length:=by rw [List.length_append,List.length_cons];omega
   rw [show m+8*(j+1)+1=(m+8*j+1)+8 by omega,RAm (by omega) h4 (by omega) (by omega),Ue h2]
   have h6:=ih (i+1) m (k+1+1+1+1+1+1+1+1) b (d++[Tq k]) (by omega) (by rw [List.length_append,List.length_singleton];omega) (by omega) (by omega) (by omega)
   rw [List.append_assoc,List.append_assoc,List.singleton_append,List.singleton_append] at h6
   rw [h6,Ea]
   congr 2
   omega
 obtain ⟨m,hm⟩:∃ m,gas=m+8*a.length+1:=⟨gas - (8*a.length+1),by have:=gas_lt (n:=8*a.length+1) (by omega);omega⟩
 rw [Vu,DAI,hm]
 exact key a.length 0 m k a [] (by omega) rfl rfl hk hb
theorem TAm {a:SBook} {k:Int} (hk:0<k) (hb:k+8*a.fThings.length≤100000000000000000):Wu a k=some (k+8*a.fThings.length,Ea k a.fThings.length):=by
 rw [Wu,FAI,SAm hk hb];rfl
noncomputable def Vq (k:Int):SSession:=⟨k,((k+1).tmod 3 == 0)⟩
noncomputable def Jb (k:Int):Nat→List SSession
 | 0=>[]
 | n+1=>Vq k::Jb (k+1+1) n
theorem UAm (n:Nat):∀ k,(Jb k n).length=n:=by
 induction n with
 | zero=>intro k;rfl
 | succ n ih=>intro k;rw [Jb,List.length_cons,ih]
theorem VAm {a:List SSession} {k:Int} {i m:Nat} (hi:i<a.length) (hk:0<k) (hk2:k≤100000000000000000) (hl:a.length≤100000000000000000) :
  Tj (m+1) (.c0 k (i:Int) a)=Tj m (.c0 (k+1+1) ((i+1:Nat):Int) (a.set i (Vq k))):=by
 have hwi:w64 ((i:Int)+1)=((i+1:Nat):Int):=by rw [w64_id (by omega) (by omega)];rfl
 have hlt:decide ((i:Int)<(a.length:Int))=true:=decide_eq_true (by omega)
 have hle:decide ((0:Int)≤(i:Int))=true:=decide_eq_true (by omega)
 have hw1:w64 (k+1)=k+1:=w64_id (by omega) (by omega)
 have hw2:w64 (k+1+1)=k+1+1:=w64_id (by omega) (by omega)
 rw [Tj]
 simp only [KAA,Int.toNat_natCast,List.length_set,Ad hi,List.set_set,hwi,hw1,hw2,Option.bind_some,hlt,hle,Bool.and_self,cond_true]
 rfl
theorem WAm {a:List SSession} {k:Int} (hk:0<k) (hb:k+2*a.length≤100000000000000000):Yu a k=some (k+2*a.length,Jb k a.length):=by
 have key:∀ (j i m:Nat) (k:Int) (b d:List SSession),i+j=a.length→d.length=i→b.length=j→0<k→k+2*j≤100000000000000000→Tj (m+1*j+1) (.c0 k (i:Int) (d++b))=some (k+2*j,d++Jb k j):=by
  intro j
  induction j with
  | zero=>
   intro i m k b d h1 h2 h3 h4 h5
   have hb0:b=[]:=List.length_eq_zero_iff.1 h3
   subst hb0
   rw [Tj]
   simp only [KAA,List.append_nil,h2,Jb]
   rw [NM (by simp)]
   simp
  | succ j ih=>
   intro i m k b d h1 h2 h3 h4 h5
   obtain ⟨x,b,rfl⟩:∃ x c,b=x::c:=by cases b with
    | nil=>cases h3
    | cons x c=>exact ⟨x,c,rfl⟩
   rw [List.length_cons] at h3
   have hlen:(d++x::b).length=a.length:=by rw [List.length_append,List.length_cons];omega
   rw [show m+1*(j+1)+1=(m+1*j+1)+1 by omega,VAm (by omega) h4 (by omega) (by omega),Ue h2]
   have h6:=ih (i+1) m (k+1+1) b (d++[Vq k]) (by omega) (by rw [List.length_append,List.length_singleton];omega) (by omega) (by omega) (by omega)
   rw [List.append_assoc,List.append_assoc,List.singleton_append,List.singleton_append] at h6
   rw [h6,Jb]
   congr 2
   omega
 obtain ⟨m,hm⟩:∃ m,gas=m+1*a.length+1:=⟨gas - (1*a.length+1),by have:=gas_lt (n:=1*a.length+1) (by omega);omega⟩
 rw [Yu,HAI,hm]
 exact key a.length 0 m k a [] (by omega) rfl rfl hk hb
noncomputable def Wq (k:Int):SLive:=⟨k,k+1⟩
noncomputable def Nb (k:Int):Nat→List SLive
 | 0=>[]
 | n+1=>Wq k::Nb (k+1+1) n
theorem XAm (n:Nat):∀ k,(Nb k n).length=n:=by
 induction n with
 | zero=>intro k;rfl
 | succ n ih=>intro k;rw [Nb,List.length_cons,ih]
theorem YAm {a:List SLive} {k:Int} {i m:Nat} (hi:i<a.length) (hk:0<k) (hk2:k≤100000000000000000) (hl:a.length≤100000000000000000) :
  Uj (m+1) (.c0 k (i:Int) a)=Uj m (.c0 (k+1+1) ((i+1:Nat):Int) (a.set i (Wq k))):=by
 have hwi:w64 ((i:Int)+1)=((i+1:Nat):Int):=by rw [w64_id (by omega) (by omega)];rfl
 have hlt:decide ((i:Int)<(a.length:Int))=true:=decide_eq_true (by omega)
 have hle:decide ((0:Int)≤(i:Int))=true:=decide_eq_true (by omega)
 have hw1:w64 (k+1)=k+1:=w64_id (by omega) (by omega)
 have hw2:w64 (k+1+1)=k+1+1:=w64_id (by omega) (by omega)
 rw [Uj]
 simp only [LAA,Int.toNat_natCast,List.length_set,Ad hi,List.set_set,hwi,hw1,hw2,Option.bind_some,hlt,hle,Bool.and_self,cond_true]
 rfl
theorem ZAm {a:List SLive} {k:Int} (hk:0<k) (hb:k+2*a.length≤100000000000000000):Bv a k=some (k+2*a.length,Nb k a.length):=by
 have key:∀ (j i m:Nat) (k:Int) (b d:List SLive),i+j=a.length→d.length=i→b.length=j→0<k→k+2*j≤100000000000000000→Uj (m+1*j+1) (.c0 k (i:Int) (d++b))=some (k+2*j,d++Nb k j):=by
  intro j
  induction j with
  | zero=>
   intro i m k b d h1 h2 h3 h4 h5
   have hb0:b=[]:=List.length_eq_zero_iff.1 h3
   subst hb0
   rw [Uj]
   simp only [LAA,List.append_nil,h2,Nb]
   rw [NM (by simp)]
   simp
  | succ j ih=>
   intro i m k b d h1 h2 h3 h4 h5
   obtain ⟨x,b,rfl⟩:∃ x c,b=x::c:=by cases b with
    | nil=>cases h3
    | cons x c=>exact ⟨x,c,rfl⟩
   rw [List.length_cons] at h3
   have hlen:(d++x::b).length=a.length:=by rw [List.length_append,List.length_cons];omega
   rw [show m+1*(j+1)+1=(m+1*j+1)+1 by omega,YAm (by omega) h4 (by omega) (by omega),Ue h2]
   have h6:=ih (i+1) m (k+1+1) b (d++[Wq k]) (by omega) (by rw [List.length_append,List.length_singleton];omega) (by omega) (by omega) (by omega)
   rw [List.append_assoc,List.append_assoc,List.singleton_append,List.singleton_append] at h6
   rw [h6,Nb]
   congr 2
   omega
 obtain ⟨m,hm⟩:∃ m,gas=m+1*a.length+1:=⟨gas - (1*a.length+1),by have:=gas_lt (n:=1*a.length+1) (by omega);omega⟩
 rw [Bv,JAI,hm]
 exact key a.length 0 m k a [] (by omega) rfl rfl hk hb
theorem EAa {a:SBox} (h1:a.fDisk.fFiles.length≤1000000000000000) (h2:a.fBook.fThings.length≤1000000000000000) (h3:a.fSessions.length≤1000000000000000) (h4:a.fLives.length≤1000000000000000) :
  Dv a 1=some ((1:Int)+3*a.fDisk.fFiles.length+8*a.fBook.fThings.length+2*a.fSessions.length+2*a.fLives.length,Ba 1 a.fDisk.fFiles.length,Ea (1+3*a.fDisk.fFiles.length) a.fBook.fThings.length,
   Jb (1+3*a.fDisk.fFiles.length+8*a.fBook.fThings.length) a.fSessions.length,Nb (1+3*a.fDisk.fFiles.length+8*a.fBook.fThings.length+2*a.fSessions.length) a.fLives.length):=by
 rw [Dv,LAI,PAm (by omega) (by omega),Option.bind_some,TAm (by omega) (by simp only;omega),Option.bind_some,WAm (by omega) (by omega),Option.bind_some,ZAm (by omega) (by omega),Option.bind_some]
theorem AAn {a:List SFile} {k:Int} {i m:Nat} (hi:i<a.length) (hg:∀ z,a.getD i z=Rq k) (hk:0<k) (hk2:k≤100000000000000000) (hl:a.length≤100000000000000000) :
  Vj (m+1) (.c0 a k (i:Int))=Vj m (.c0 a (k+1+1+1) ((i+1:Nat):Int)):=by
 have hwi:w64 ((i:Int)+1)=((i+1:Nat):Int):=by rw [w64_id (by omega) (by omega)];rfl
 have hlt:decide ((i:Int)<(a.length:Int))=true:=decide_eq_true (by omega)
 have hle:decide ((0:Int)≤(i:Int))=true:=decide_eq_true (by omega)
 have hw1:w64 (k+1)=k+1:=w64_id (by omega) (by omega)
 have hw2:w64 (k+1+1)=k+1+1:=w64_id (by omega) (by omega)
 have hw3:w64 (k+1+1+1)=k+1+1+1:=w64_id (by omega) (by omega)
 have hm0:=Qq (k:=k) (by omega)
 have hm1:=Qq (k:=k+1) (by omega)
 rw [Vj]
 simp only [MAA,Int.toNat_natCast,hwi,hw1,hw2,hw3,hm0,hm1,Option.bind_some,hlt,hle,Bool.and_self,cond_true,hg,Rq,bne_self_eq_false,cond_false,toList_self,beq_self_eq_true,Bool.not_true]
theorem BAn:∀ (n:Nat) (k:Int) (i:Nat),i<n→∀ z,(Ba k n).getD i z=Rq (k+3*i):=by
 intro n
 induction n with
 | zero=>intro k i h;omega
 | succ n ih=>
  intro k i h z
  cases i with
  | zero=>rw [Ba,show k+3*((0:Nat):Int)=k by omega];rfl
  | succ i=>
   have h2:=ih (k+1+1+1) i (by omega) z
   rw [show k+1+1+1+3*(i:Int)=k+3*((i+1:Nat):Int) by omega] at h2
   rw [←h2,Ba];rfl
theorem CAn {n:Nat} {k:Int} (hk:0<k) (hb:k+3*n≤100000000000000000):Gv (Ba k n) k=some (k+3*n):=by
 have hl:=MAm n k
 have key:∀ (j i m:Nat),i+j=n→Vj (m+j+1) (.c0 (Ba k n) (k+3*i) (i:Int))=some (k+3*n):=by
  intro j
  induction j with
  | zero=>
   intro i m h1
   obtain rfl:i=n:=by omega
   rw [Vj]
   simp only [MAA,hl]
   rw [NM (by simp)]
  | succ j ih=>
   intro i m h1
   rw [show m+(j+1)+1=(m+j+1)+1 by omega,AAn (by omega) (BAn n k i (by omega)) (by omega) (by omega) (by omega)]
   have h2:=ih (i+1) m (by omega)
   rw [show k+3*((i+1:Nat):Int)=k+3*(i:Int)+1+1+1 by omega] at h2
   exact h2
 obtain ⟨m,hm⟩:∃ m,gas=m+n+1:=⟨gas - (n+1),by have:=gas_lt (n:=n+1) (by omega);omega⟩
 have h0:=key n 0 m (by omega)
 rw [show k+3*((0:Nat):Int)=k by omega] at h0
 rw [Gv,NAI,hm]
 exact h0
theorem DAn {a:SDisk} {n:Nat} {k:Int} (h:a.fFiles=Ba k n) (hk:0<k) (hb:k+3*n≤100000000000000000):Jv a k=some (k+3*n):=by
 rw [Jv,PAI,h,CAn hk hb,Option.bind_some,NM (by simp;omega)]
theorem EAn {a:List SThing} {k:Int} {i m:Nat} (hi:i<a.length) (hg:∀ z,a.getD i z=Tq k) (hk:0<k) (hk2:k≤100000000000000000) (hl:a.length≤100000000000000000) :
  Wj (m+1) (.c0 a k (i:Int))=Wj m (.c0 a (k+1+1+1+1+1+1+1+1) ((i+1:Nat):Int)):=by
 have hwi:w64 ((i:Int)+1)=((i+1:Nat):Int):=by rw [w64_id (by omega) (by omega)];rfl
 have hlt:decide ((i:Int)<(a.length:Int))=true:=decide_eq_true (by omega)
 have hle:decide ((0:Int)≤(i:Int))=true:=decide_eq_true (by omega)
 have hw1:w64 (k+1)=k+1:=w64_id (by omega) (by omega)
 have hw2:w64 (k+1+1)=k+1+1:=w64_id (by omega) (by omega)
 have hw3:w64 (k+1+1+1)=k+1+1+1:=w64_id (by omega) (by omega)
 have hw4:w64 (k+1+1+1+1)=k+1+1+1+1:=w64_id (by omega) (by omega)
 have hw5:w64 (k+1+1+1+1+1)=k+1+1+1+1+1:=w64_id (by omega) (by omega)
 have hw6:w64 (k+1+1+1+1+1+1)=k+1+1+1+1+1+1:=w64_id (by omega) (by omega)
 have hw7:w64 (k+1+1+1+1+1+1+1)=k+1+1+1+1+1+1+1:=w64_id (by omega) (by omega)
 have hw8:w64 (k+1+1+1+1+1+1+1+1)=k+1+1+1+1+1+1+1+1:=w64_id (by omega) (by omega)
 have hm6:=Qq (k:=k+1+1+1+1+1+1) (by omega)
 rw [Wj]
 simp only [NAA,Int.toNat_natCast,hwi,hw1,hw2,hw3,hw4,hw5,hw6,hw7,hw8,hm6,Option.bind_some,hlt,hle,Bool.and_self,cond_true,hg,Tq,bne_self_eq_false,cond_false,toList_self,beq_self_eq_true,Bool.not_true]
theorem FAn:∀ (n:Nat) (k:Int) (i:Nat),i<n→∀ z,(Ea k n).getD i z=Tq (k+8*i):=by
 intro n
 induction n with
 | zero=>intro k i h;omega
 | succ n ih=>
  intro k i h z
  cases i with
  | zero=>rw [Ea,show k+8*((0:Nat):Int)=k by omega];rfl
  | succ i=>
   have h2:=ih (k+1+1+1+1+1+1+1+1) i (by omega) z
   rw [show k+1+1+1+1+1+1+1+1+8*(i:Int)=k+8*((i+1:Nat):Int) by omega] at h2
   rw [←h2,Ea];rfl
theorem GAn {n:Nat} {k:Int} (hk:0<k) (hb:k+8*n≤100000000000000000):Nv (Ea k n) k=some (k+8*n):=by
 have hl:=QAm n k
 have key:∀ (j i m:Nat),i+j=n→Wj (m+j+1) (.c0 (Ea k n) (k+8*i) (i:Int))=some (k+8*n):=by
  intro j
  induction j with
  | zero=>
   intro i m h1
   obtain rfl:i=n:=by omega
   rw [Wj]
   simp only [NAA,hl]
   rw [NM (by simp)]
  | succ j ih=>
   intro i m h1
   rw [show m+(j+1)+1=(m+j+1)+1 by omega,EAn (by omega) (FAn n k i (by omega)) (by omega) (by omega) (by omega)]
   have h2:=ih (i+1) m (by omega)
   rw [show k+8*((i+1:Nat):Int)=k+8*(i:Int)+1+1+1+1+1+1+1+1 by omega] at h2
   exact h2
 obtain ⟨m,hm⟩:∃ m,gas=m+n+1:=⟨gas - (n+1),by have:=gas_lt (n:=n+1) (by omega);omega⟩
 have h0:=key n 0 m (by omega)
 rw [show k+8*((0:Nat):Int)=k by omega] at h0
 rw [Nv,RAI,hm]
 exact h0
theorem HAn {a:SBook} {n:Nat} {k:Int} (h:a.fThings=Ea k n) (hk:0<k) (hb:k+8*n≤100000000000000000):Ov a k=some (k+8*n):=by
 rw [Ov,TAI,h,GAn hk hb,Option.bind_some,NM (by simp;omega)]
theorem IAn {a:List SSession} {k:Int} {i m:Nat} (hi:i<a.length) (hg:∀ z,a.getD i z=Vq k) (hk:0<k) (hk2:k≤100000000000000000) (hl:a.length≤100000000000000000) :
  Xj (m+1) (.c0 a k (i:Int))=Xj m (.c0 a (k+1+1) ((i+1:Nat):Int)):=by
 have hwi:w64 ((i:Int)+1)=((i+1:Nat):Int):=by rw [w64_id (by omega) (by omega)];rfl
 have hlt:decide ((i:Int)<(a.length:Int))=true:=decide_eq_true (by omega)
 have hle:decide ((0:Int)≤(i:Int))=true:=decide_eq_true (by omega)
 have hw1:w64 (k+1)=k+1:=w64_id (by omega) (by omega)
 have hw2:w64 (k+1+1)=k+1+1:=w64_id (by omega) (by omega)
 rw [Xj]
 simp only [OAA,Int.toNat_natCast,hwi,hw1,hw2,Option.bind_some,hlt,hle,Bool.and_self,cond_true,hg,Vq,bne_self_eq_false,cond_false,toList_self,beq_self_eq_true,Bool.not_true]
theorem JAn:∀ (n:Nat) (k:Int) (i:Nat),i<n→∀ z,(Jb k n).getD i z=Vq (k+2*i):=by
 intro n
 induction n with
 | zero=>intro k i h;omega
 | succ n ih=>
  intro k i h z
  cases i with
  | zero=>rw [Jb,show k+2*((0:Nat):Int)=k by omega];rfl
  | succ i=>
   have h2:=ih (k+1+1) i (by omega) z
   rw [show k+1+1+2*(i:Int)=k+2*((i+1:Nat):Int) by omega] at h2
   rw [←h2,Jb];rfl
theorem KAn {n:Nat} {k:Int} (hk:0<k) (hb:k+2*n≤100000000000000000):Qv (Jb k n) k=some (k+2*n):=by
 have hl:=UAm n k
 have key:∀ (j i m:Nat),i+j=n→Xj (m+j+1) (.c0 (Jb k n) (k+2*i) (i:Int))=some (k+2*n):=by
  intro j
  induction j with
  | zero=>
   intro i m h1
   obtain rfl:i=n:=by omega
   rw [Xj]
   simp only [OAA,hl]
   rw [NM (by simp)]
  | succ j ih=>
   intro i m h1
   rw [show m+(j+1)+1=(m+j+1)+1 by omega,IAn (by omega) (JAn n k i (by omega)) (by omega) (by omega) (by omega)]
   have h2:=ih (i+1) m (by omega)
   rw [show k+2*((i+1:Nat):Int)=k+2*(i:Int)+1+1 by omega] at h2
   exact h2
 obtain ⟨m,hm⟩:∃ m,gas=m+n+1:=⟨gas - (n+1),by have:=gas_lt (n:=n+1) (by omega);omega⟩
 have h0:=key n 0 m (by omega)
 rw [show k+2*((0:Nat):Int)=k by omega] at h0
 rw [Qv,VAI,hm]
 exact h0
theorem LAn {a:List SLive} {k:Int} {i m:Nat} (hi:i<a.length) (hg:∀ z,a.getD i z=Wq k) (hk:0<k) (hk2:k≤100000000000000000) (hl:a.length≤100000000000000000) :
  Yj (m+1) (.c0 a k (i:Int))=Yj m (.c0 a (k+1+1) ((i+1:Nat):Int)):=by
 have hwi:w64 ((i:Int)+1)=((i+1:Nat):Int):=by rw [w64_id (by omega) (by omega)];rfl
 have hlt:decide ((i:Int)<(a.length:Int))=true:=decide_eq_true (by omega)
 have hle:decide ((0:Int)≤(i:Int))=true:=decide_eq_true (by omega)
 have hw1:w64 (k+1)=k+1:=w64_id (by omega) (by omega)
 have hw2:w64 (k+1+1)=k+1+1:=w64_id (by omega) (by omega)
 rw [Yj]
 simp only [PAA,Int.toNat_natCast,hwi,hw1,hw2,Option.bind_some,hlt,hle,Bool.and_self,cond_true,hg,Wq,bne_self_eq_false,cond_false,toList_self,beq_self_eq_true,Bool.not_true]
theorem MAn:∀ (n:Nat) (k:Int) (i:Nat),i<n→∀ z,(Nb k n).getD i z=Wq (k+2*i):=by
 intro n
 induction n with
 | zero=>intro k i h;omega
 | succ n ih=>
  intro k i h z
  cases i with
  | zero=>rw [Nb,show k+2*((0:Nat):Int)=k by omega];rfl
  | succ i=>
   have h2:=ih (k+1+1) i (by omega) z
   rw [show k+1+1+2*(i:Int)=k+2*((i+1:Nat):Int) by omega] at h2
   rw [←h2,Nb];rfl
theorem NAn {n:Nat} {k:Int} (hk:0<k) (hb:k+2*n≤100000000000000000):Tv (Nb k n) k=some (k+2*n):=by
 have hl:=XAm n k
 have key:∀ (j i m:Nat),i+j=n→Yj (m+j+1) (.c0 (Nb k n) (k+2*i) (i:Int))=some (k+2*n):=by
  intro j
  induction j with
  | zero=>
   intro i m h1
   obtain rfl:i=n:=by omega
   rw [Yj]
   simp only [PAA,hl]
   rw [NM (by simp)]
  | succ j ih=>
   intro i m h1
   rw [show m+(j+1)+1=(m+j+1)+1 by omega,LAn (by omega) (MAn n k i (by omega)) (by omega) (by omega) (by omega)]
   have h2:=ih (i+1) m (by omega)
   rw [show k+2*((i+1:Nat):Int)=k+2*(i:Int)+1+1 by omega] at h2
   exact h2
 obtain ⟨m,hm⟩:∃ m,gas=m+n+1:=⟨gas - (n+1),by have:=gas_lt (n:=n+1) (by omega);omega⟩
 have h0:=key n 0 m (by omega)
 rw [show k+2*((0:Nat):Int)=k by omega] at h0
 rw [Tv,XAI,hm]
 exact h0
theorem OAn {a:SBox} {f t s l:Nat} (h1:f≤1000000000000000) (h2:t≤1000000000000000) (h3:s≤1000000000000000) (h4:l≤1000000000000000) (e1:a.fDisk.fFiles=Ba 1 f) (e2:a.fBook.fThings=Ea (1+3*f) t)
  (e3:a.fSessions=Jb (1+3*f+8*t) s) (e4:a.fLives=Nb (1+3*f+8*t+2*s) l):Wv a 1=some ((1:Int)+3*f+8*t+2*s+2*l):=by
 rw [Wv,ZAI,DAn e1 (by omega) (by omega),Option.bind_some,NM (by simp;omega),HAn e2 (by omega) (by omega),Option.bind_some,NM (by simp;omega),e3,KAn (by omega) (by omega),Option.bind_some,NM (by simp;omega),e4,NAn (by omega) (by omega),Option.bind_some,NM (by simp;omega)]
theorem PAn {a:SBox} (h:1048576<a.fKey.size) (h2:a.fKey.size≤140737488351232):Zj a 1048576=some (-1):=by
 rw [Zj,XAA,w64_id (by omega) (by omega),TB (by simp;omega)]
theorem QAn (x:SBox):(Zf x).1.fDisk.fFiles.length≤30+x.fDisk.fFiles.length∧(Zf x).1.fBook.fThings.length≤2932031007317∧(Zf x).1.fSessions.length=0∧(Zf x).1.fLives.length=0:=by
 have h:=BAl (ZX x.fKey x.fDisk).2.1 x.fDisk 0 (30+x.fDisk.fFiles.length) (by omega) (by omega)
 obtain ⟨l1,_⟩:=H8 x.fKey x.fDisk
 rw [Zf]
 cases x.fUp || !Xi x
 ·rw [cond_false]
  cases !(ZX x.fKey x.fDisk).2.2 || decide ((Na x.fDisk (ZX x.fKey x.fDisk).2.1 0).2<((ZX x.fKey x.fDisk).2.1.length:Int))
  ·exact ⟨h,l1,rfl,rfl⟩
  ·exact ⟨Nat.zero_le _,Nat.zero_le _,rfl,rfl⟩
 ·exact ⟨Nat.zero_le _,Nat.zero_le _,rfl,rfl⟩
theorem law_FnExactRise (x0:SBox) (g0:GSBox x0):laws_FnExactRise x0=some true:=by
 by_cases hk:1048576<x0.fKey.size
 ·rw [laws_FnExactRise,QAA,PAn hk (by have:x0.fKey.size≤140737488351232:=g0.1;omega)];rfl
 obtain ⟨r,hr⟩:=RAn g0 1048576
 have h1:x0.fDisk.fFiles.length*40≤140737488351232:=g0.2.2.1.1
 have h2:x0.fBook.fThings.length*48≤140737488351232:=g0.2.2.2.1.2.2.1.1
 have h3:x0.fSessions.length*16≤140737488351232:=g0.2.2.2.2.1.1
 have h4:x0.fLives.length*16≤140737488351232:=g0.2.2.2.2.2.1.1
 have hf:∀ f ∈ x0.fDisk.fFiles,f.fText.size≤140737488351232:=fun f hf=>(g0.2.2.1.2 f hf).2.1
 obtain ⟨q1,q2,q3,q4⟩:=QAn x0
 have e1:=DAa (a:=x0) ⟨by omega,by omega,by omega,by omega⟩
 have hS:=DAl (b:=x0) h1 hf (by omega) (by omega) (by omega) (by omega)
 have hI:=AAm (b:=x0) h1 hf (by omega) (by omega) (by omega) (by omega)
 generalize Zf x0=R at q1 q2 q3 q4 hS hI
 obtain ⟨b,ok⟩:=R
 simp only at q1 q2 q3 q4
 have e2:=DAa (a:=b) ⟨by omega,by omega,by omega,by omega⟩
 have m0:=EAa (a:=x0) (by omega) (by omega) (by omega) (by omega)
 have m1:=EAa (a:=b) (by omega) (by omega) (by omega) (by omega)
 have hh:=OAn (f:=b.fDisk.fFiles.length) (t:=b.fBook.fThings.length) (s:=b.fSessions.length) (l:=b.fLives.length) (a:=⟨b.fKey,b.fUp,⟨Ba 1 b.fDisk.fFiles.length⟩,⟨b.fBook.fWord,b.fBook.fTries,Ea (1+3*b.fDisk.fFiles.length) b.fBook.fThings.length,b.fBook.fLast,b.fBook.fChain,b.fBook.fCount⟩,
  Jb (1+3*b.fDisk.fFiles.length+8*b.fBook.fThings.length) b.fSessions.length,Nb (1+3*b.fDisk.fFiles.length+8*b.fBook.fThings.length+2*b.fSessions.length) b.fLives.length,b.fOpened⟩)
  (by omega) (by omega) (by omega) (by omega) rfl rfl rfl rfl
 have d0:decide ((1:Int)+3*(x0.fDisk.fFiles.length:Int)+8*(x0.fBook.fThings.length:Int)+2*(x0.fSessions.length:Int)+2*(x0.fLives.length:Int)<0)=false:=by rw [decide_eq_false_iff_not];omega
 have d1:decide ((1:Int)+3*(b.fDisk.fFiles.length:Int)+8*(b.fBook.fThings.length:Int)+2*(b.fSessions.length:Int)+2*(b.fLives.length:Int)<0)=false:=by rw [decide_eq_false_iff_not];omega
 simp only [laws_FnExactRise,QAA,hr,Option.bind_some,SAn g0,hS,hI,e1,e2,m0,m1,hh,d0,d1,beq_self_eq_true,Bool.not_true,cond_false,bne_self_eq_false]
 cases decide (r<0) <;> rfl
end Go.Proofs.YthfpmhalgimbbaaGreatDoor.G
