/- The plain law of FnExactBoxOk: whatever the arguments, it answers true. Conditions: what is read is in reach. Part 2 of 2. -/
import Derived.Test.YthfpmhalgimbbaaGreatDoorPureFnExactBoxOka
namespace Go.Proofs.YthfpmhalgimbbaaGreatDoor.G
open Go Go.Ev
set_option linter.unusedVariables false
set_option linter.unusedSimpArgs false
theorem PAi (b:SBook) (r:SRec):(JY b r).1.fThings.length≤8:=by
 cases h:(JY b r).2
 ·have:(JY b r).1=Ym:=by
   rw [JY] at h ⊢
   cases hc:(!(UY b) || (!(TT r).2 || decide (b.fCount≥10000)))
   ·rw [hc] at h
    simp only [cond_false] at h ⊢
    cases h1:r.fKind == 1
    ·rw [h1] at h
     simp only [cond_false] at h ⊢
     cases h2:r.fKind == 2
     ·rw [h2] at h
      simp only [cond_false] at h ⊢
      cases h3:r.fKind == 3
      ·rw [h3] at h
       simp only [cond_false] at h ⊢
       cases ht:KY b.fThings r.fNum with
       | none=>rfl
       | some x=>rw [ht] at h;cases h
      ·rw [h3] at h
       simp only [cond_true] at h ⊢
       cases ht:Vj b r.fThing with
       | none=>rfl
       | some x=>rw [ht] at h;cases h
     ·rw [h2] at h;cases h
    ·rw [h1] at h;cases h
   ·rfl
  rw [this];exact Nat.zero_le _
 ·exact AAA h
theorem GAb {b:SBook} {l:List SRec} (h:b.fThings.length≤2932031007317):(KZ b l).1.fThings.length≤2932031007317:=by
 induction l generalizing b with
 | nil=>exact h
 | cons r rs ih=>
  rw [KZ]
  cases h3:(JY b r).2
  ·exact Nat.zero_le _
  ·have:=AAA h3
   exact ih (by omega)
theorem AAR (k:ByteArray) (d:SDisk):(DZ k d).1.fThings.length≤2932031007317∧(DZ k d).2.1.length≤4:=by
 rw [DZ]
 cases (!(Mc d) || !(KZ Zd (AY k (CV d PX).1).1).2)
 ·refine ⟨GAb (Nat.zero_le _),?_⟩
  rw [cond_false]
  show List.length (_++_)≤4
  rw [List.length_append]
  cases decide (Nb d nNew≥0) <;> cases (AY k (CV d PX).1).2 == ((CV d PX).1.size:Int) <;> simp
 ·exact ⟨Nat.zero_le _,Nat.zero_le _⟩
def UAJ (b:SBox) (i:Nat):Bool:=NM (b.fSessions.getD i ⟨0,false⟩).fId 1 b.fOpened && (i == 0 || !decide ((b.fSessions.getD (i - 1) ⟨0,false⟩).fId≥(b.fSessions.getD i ⟨0,false⟩).fId))
def Wj (b:SBox):Nat→Nat→Bool
 | 0,_=>true
 | j+1,i=>UAJ b i && Wj b j (i+1)
noncomputable def Zm (b:SBox):Bool:=bif b.fUp then (DZ b.fKey b.fDisk).2.2 && (((DZ b.fKey b.fDisk).2.1.length:Int) == 0 && (UY b.fBook && (Ae (DZ b.fKey b.fDisk).1 b.fBook && VAJ b)))
 else (b.fSessions.length:Int) == 0 && ((b.fLives.length:Int) == 0 && Ae b.fBook Zd)
noncomputable def BAA (b:SBox):Bool:=(b.fKey.size:Int) == 32 && (Mc b.fDisk && (decide ((b.fSessions.length:Int)≤3) && (NM b.fOpened 0 1000 && (Wj b b.fSessions.length 0 && Zm b))))
theorem HAb {b:SBox} (hd:b.fDisk.fFiles.length≤140737488351232) (hf:∀ f ∈ b.fDisk.fFiles,f.fText.size≤140737488351232) (ht:b.fBook.fThings.length≤140737488351232) (hs:b.fSessions.length≤140737488351232) (hl:b.fLives.length≤140737488351232):Xo b=some (BAA b):=by
 rw [Xo,GAG,CAR,Aa,BAA]
 simp only [Option.bind_some,bne]
 cases hz:(b.fKey.size:Int) == 32
 ·rfl
 have hk:b.fKey.size≤900000000:=by rw [beq_iff_eq] at hz;omega
 obtain ⟨l1,l2⟩:=AAR b.fKey b.fDisk
 have key:∀ (j i m:Nat),i+j=b.fSessions.length→Nu (m+j+1) (.c0 (i:Int) b)=some (Wj b j i && Zm b):=by
  intro j
  induction j with
  | zero=>
   intro i m hi
   rw [Nu];simp only [Q7]
   rw [FN (by simp;omega),Zm]
   simp only [DAR,IAb hk hd hf,EAR ht,EAR (show (DZ b.fKey b.fDisk).1.fThings.length≤140737488351232 by omega),Xj ht,JAb hl ht,Option.bind_some]
   cases b.fUp
   ·cases (b.fSessions.length:Int) == 0 <;> cases (b.fLives.length:Int) == 0 <;> rfl
   ·cases (DZ b.fKey b.fDisk).2.2 <;> cases ((DZ b.fKey b.fDisk).2.1.length:Int) == 0 <;> cases UY b.fBook <;> cases Ae (DZ b.fKey b.fDisk).1 b.fBook <;> rfl
  | succ j ih=>
   intro i m hi
   have hw:w64 ((i:Int)+1)=((i+1:Nat):Int):=by rw [w64_id (by omega) (by omega)];rfl
   have d1:decide ((i:Int)<(b.fSessions.length:Int))=true:=decide_eq_true (by omega)
   have d0:decide ((0:Int)≤(i:Int))=true:=decide_eq_true (by omega)
   rw [show m+(j+1)+1=(m+j+1)+1 from rfl,Nu]
   simp only [Q7,Aa,Option.bind_some,d0,d1,Bool.and_self,cond_true,Int.toNat_natCast,hw,ih (i+1) m (by omega),Wj,UAJ]
   cases NM (b.fSessions.getD i ⟨0,false⟩).fId 1 b.fOpened
   ·rfl
   by_cases h0:i=0
   ·subst h0;rfl
   ·obtain ⟨k,rfl⟩:∃ k,i=k+1:=⟨i - 1,by omega⟩
    have hk:w64 (((k+1:Nat):Int) - 1)=(k:Int):=by rw [w64_id (by omega) (by omega)];omega
    rw [show decide (((k+1:Nat):Int) > 0)=true from decide_eq_true (by omega)]
    simp only [hk,Int.toNat_natCast,show decide ((0:Int)≤(k:Int))=true from decide_eq_true (by omega),show decide ((k:Int)<(b.fSessions.length:Int))=true from decide_eq_true (by omega),Bool.and_self,cond_true,Nat.add_sub_cancel]
    cases decide ((b.fSessions.getD k ⟨0,false⟩).fId≥(b.fSessions.getD (k+1) ⟨0,false⟩).fId) <;> rfl
 obtain ⟨m,hm⟩:∃ m,gas=m+b.fSessions.length+1:=⟨gas - (b.fSessions.length+1),by have:=gas_lt (n:=b.fSessions.length) (by omega);omega⟩
 have h0:=key b.fSessions.length 0 m (Nat.zero_add _)
 rw [hm,show ((0:Int))=((0:Nat):Int) from rfl,h0]
 cases Mc b.fDisk
 ·rfl
 by_cases h3:(b.fSessions.length:Int)≤3
 ·rw [decide_eq_true h3,decide_eq_false (by omega:¬ (b.fSessions.length:Int) > 3)]
  cases NM b.fOpened ((0:Nat):Int) 1000 <;> rfl
 ·rw [decide_eq_false h3,decide_eq_true (by omega:(b.fSessions.length:Int) > 3)];rfl
theorem GAR {d:SDisk} (h0:d.fFiles.length≤140737488351232):Ef d=some (Mc d):=by
 rw [Ef,HAG,Mc]
 have key:∀ (j i m:Nat),i+j=d.fFiles.length→Ru (m+j+1) (.c0 d.fFiles (d.fFiles.length:Int) (i:Int) d)=some (decide ((d.fFiles.length:Int)≤30) && Zg (Xf d.fFiles i) (d.fFiles.drop i)):=by
  intro j
  induction j with
  | zero=>
   intro i m h
   obtain rfl:i=d.fFiles.length:=by omega
   rw [Ru]
   simp only [U7]
   rw [FN (by simp),List.drop_length,Zg,Bool.and_true]
  | succ j ih=>
   intro i m h
   have hi:i<d.fFiles.length:=by omega
   have e:w64 ((i:Int)+1)=((i+1:Nat):Int):=by rw [w64_id (by omega) (by omega)];rfl
   have h2:=ih (i+1) m (by omega)
   have fls:∀ b:Bool,(b && false)=false:=fun b=>by cases b <;> rfl
   rw [show m+(j+1)+1=(m+j+1)+1 by omega,Ru]
   simp only [U7,e,Int.toNat_natCast,getD_at hi,Na,Option.bind_some]
   rw [TB (by simp;omega),TB (by simp;omega),HAR hi,fOk,h2]
   cases hn:NM (d.fFiles[i].fName.size:Int) 1 8
   ·rw [Bool.false_and,Bool.false_and,fls];rfl
   cases decide ((d.fFiles[i].fText.size:Int) > 20000)
   ·cases NM d.fFiles[i].fKept 0 (d.fFiles[i].fText.size:Int)
    ·simp only [Bool.and_false,Bool.false_and];rfl
    ·by_cases hz:i=0
     ·subst hz
      rw [WX] at hn
      rw [show Xf d.fFiles 0=⟨#[]⟩ from rfl,IAR (by omega)];rfl
     ·obtain ⟨i',rfl⟩:∃ q,i=q+1:=⟨i - 1,by omega⟩
      have e2:w64 (((i'+1:Nat):Int) - 1)=(i':Int):=by rw [w64_id (by omega) (by omega)];omega
      rw [e2,Int.toNat_natCast,getD_at (show i'<d.fFiles.length by omega),WAJ (i:=i') (by omega),FN (by rfl),FN (by rfl),FN (by rfl),TB (by simp;try omega),TB (by simp;try omega)]
      cases Op.bytesLess d.fFiles[i'].fName.toList d.fFiles[i'+1].fName.toList
      ·simp only [Bool.and_false,Bool.false_and];rfl
      ·rfl
   ·simp only [Bool.and_false,Bool.false_and,Bool.not_true];rfl
 obtain ⟨m,hm⟩:∃ m,gas=m+d.fFiles.length+1:=⟨gas - (d.fFiles.length+1),by have:=gas_lt (n:=d.fFiles.length+1) (by omega);omega⟩
 rw [hm]
 exact key d.fFiles.length 0 m (by omega)
theorem JAR:Gf=some Zd:=by
 rw [Gf,GAH,Vy (by decide),Option.bind_some,show (32:Int)=((32:Nat):Int) from rfl,XAJ (by omega),Option.bind_some];rfl
theorem KAb {a b:List SThing} (h0:a.length≤140737488351232):Sv a b=some (PZ a b):=by
 rw [Sv,JAH]
 by_cases hl:a.length=b.length
 ·have key:∀ (j i m:Nat),i+j=a.length→Qv (m+j+1) (.c0 a b (a.length:Int) (i:Int))=some (PZ (a.drop i) (b.drop i)):=by
   intro j
   induction j with
   | zero=>
    intro i m h
    obtain rfl:i=a.length:=by omega
    rw [Qv]
    simp only [F8]
    rw [FN (by simp),List.drop_length,hl,List.drop_length];rfl
   | succ j ih=>
    intro i m h
    have hi:i<a.length:=by omega
    have hi2:i<b.length:=by omega
    have e:w64 ((i:Int)+1)=((i+1:Nat):Int):=by rw [w64_id (by omega) (by omega)];rfl
    rw [show m+(j+1)+1=(m+j+1)+1 by omega,Qv]
    simp only [F8,e,Int.toNat_natCast,getD_at hi,getD_at hi2,KAR,ih (i+1) m (by omega)]
    rw [TB (by simp;omega),TB (by simp;omega),TB (by simp;omega),drop_at hi,drop_at hi2,PZ]
    cases Dn a[i] b[i] <;> rfl
  obtain ⟨m,hm⟩:∃ m,gas=m+a.length+1:=⟨gas - (a.length+1),by have:=gas_lt (n:=a.length+1) (by omega);omega⟩
  rw [FN (by simp;omega),hm]
  exact key a.length 0 m (by omega)
 ·rw [TB (by simp;omega),LAR hl]
theorem MAR {a b:SBook} (h0:a.fThings.length≤140737488351232):Zi a b=some (Ae a b):=by
 rw [Zi,KAH,KAb h0,Ae]
 cases a.fWord.toList == b.fWord.toList <;> cases a.fTries == b.fTries <;> cases PZ a.fThings b.fThings <;> cases a.fLast == b.fLast <;> cases a.fChain.toList == b.fChain.toList <;> rfl
theorem NAR {d:SDisk} {n:ByteArray} (h0:d.fFiles.length≤140737488351232):Aj d n=some (Nb d n):=by
 have key:∀ (j i m:Nat),i+j=d.fFiles.length→Wv (m+j+1) (.c0 n d.fFiles (d.fFiles.length:Int) (i:Int))=some (match Ob (d.fFiles.drop i) n i with | some j=>(j:Int) | none=> -1):=by
  intro j
  induction j with
  | zero=>
   intro i m h
   obtain rfl:i=d.fFiles.length:=by omega
   rw [Wv]
   simp only [I8]
   rw [FN (by simp),List.drop_length];rfl
  | succ j ih=>
   intro i m h
   have hi:i<d.fFiles.length:=by omega
   have e:w64 ((i:Int)+1)=((i+1:Nat):Int):=by rw [w64_id (by omega) (by omega)];rfl
   rw [show m+(j+1)+1=(m+j+1)+1 by omega,Wv]
   simp only [I8,e,Int.toNat_natCast,getD_at hi,ih (i+1) m (by omega)]
   rw [TB (by simp;omega),TB (by simp;omega),drop_at hi,Ob]
   cases d.fFiles[i].fName.toList == n.toList <;> rfl
 obtain ⟨m,hm⟩:∃ m,gas=m+d.fFiles.length+1:=⟨gas - (d.fFiles.length+1),by have:=gas_lt (n:=d.fFiles.length+1) (by omega);omega⟩
 rw [Aj,LAH,hm,Nb]
 exact key d.fFiles.length 0 m (by omega)
theorem LAb {d:SDisk} {n:ByteArray} (h0:d.fFiles.length≤140737488351232):Xv d n=some (CV d n):=by
 rw [Xv,NAH,NAR h0,Option.bind_some,Nb,CV]
 cases h:Ob d.fFiles n 0 with
 | none=>rfl
 | some j=>
  have:=YAJ h
  simp only [Int.toNat_natCast]
  rw [FN (by simp),TB (by simp;omega)];rfl
theorem MAb {s:Int} (h:R32 s):an s 1=s % 2:=by
 obtain ⟨h1,h2⟩:=h
 obtain ⟨n,rfl⟩:∃ n:Nat,s=(n:Int):=⟨s.toNat,by omega⟩
 unfold an
 show w32 (((BitVec.ofInt 32 (n:Int) &&& BitVec.ofInt 32 1).toNat:Nat):Int)=_
 rw [BitVec.ofInt_natCast,show BitVec.ofInt 32 1=BitVec.ofNat 32 1 from rfl,BitVec.toNat_and,BitVec.toNat_ofNat,BitVec.toNat_ofNat,Nat.mod_eq_of_lt (by omega:n<2 ^ 32),show 1 % 2 ^ 32=1 from rfl,Nat.and_one_is_mod,Ba (by omega) (by omega)]
 omega
theorem NAb (t:ByteArray) (i:Nat) (hi:i<t.size) (ht:t.size≤140737488351232):∀ (j k m:Nat) (s:Int),k+j=8→R32 s→Hf (m+j+1) (.c1 s t (i:Int) (k:Int))=Hf m (.c0 (Yj j s) t ((i+1:Nat):Int)):=by
 intro j
 induction j with
 | zero=>
  intro k m s hk hs
  have e:w64 ((i:Int)+1)=((i+1:Nat):Int):=by rw [w64_id (by omega) (by omega)];rfl
  rw [Hf]
  simp only [Om,e]
  rw [FN (by simp;omega)]
  rfl
 | succ j ih=>
  intro k m s hk hs
  have e:w64 ((k:Int)+1)=((k+1:Nat):Int):=by rw [w64_id (by omega) (by omega)];rfl
  have h2:Int.fdiv s (2 ^ (Min.min (1:Int).toNat (IntKind.bits IntKind.u32)))=s / 2:=Int.fdiv_eq_ediv_of_nonneg _ (by decide)
  rw [show m+(j+1)+1=(m+j+1)+1 by omega,Hf]
  simp only [Om,e,h2,ZAJ,MAb hs,Nc]
  rw [TB (by simp;omega),Yj]
  by_cases h:s % 2=1
  ·rw [TB (by simp [h]),ih (k+1) m _ (by omega) (En _ _),Zj,if_pos h]
  ·rw [FN (by simp [h]),ih (k+1) m _ (by omega) (by unfold R32 at *;omega),Zj,if_neg h]
theorem OAb {t:ByteArray} {s:Int} (ht:t.size≤140737488351232):Ew s t=some (Gn s (bs t)):=by
 have hl:=bs_len t
 have key:∀ (j i m:Nat) (s:Int),i+j=t.size→Hf (m+10*j+1) (.c0 s t (i:Int))=some (Gn s ((bs t).drop i)):=by
  intro j
  induction j with
  | zero=>
   intro i m s h
   rw [Hf]
   simp only [Om]
   rw [FN (by simp;omega),List.drop_of_length_le (by omega)];rfl
  | succ j ih=>
   intro i m s h
   have hb:=LZ (Qb t) i
   rw [show m+10*(j+1)+1=(m+10*j+1)+8+1+1 by omega,Hf]
   simp only [Om,Nc]
   rw [TB (by simp;omega),TB (by simp;omega),Oc (by omega),Ba (by omega) (by omega)]
   have h1:=NAb t i (by omega) ht 8 0 (m+10*j+1) (xr s ((bs t).getD i 0)) (by omega) (En _ _)
   rw [show ((0:Nat):Int)=0 from rfl] at h1
   rw [h1,ih (i+1) m _ (by omega),drop_at (by omega:i<(bs t).length),getD_at (by omega)]
   rfl
 obtain ⟨m,hm⟩:∃ m,gas=m+10*t.size+1:=⟨gas - (10*t.size+1),by have:=gas_lt (n:=10*t.size+1) (by omega);omega⟩
 rw [Ew,PAH,hm]
 have:=key t.size 0 m s (by omega)
 rw [List.drop_zero] at this
 exact this
theorem OAR {t:ByteArray} (ht:t.size≤140737488351232):Jf t=some (Ea (bs t)):=by
 rw [Jf,QAH,OAb ht];rfl
theorem PAb {f:ByteArray} (hf:f.size≤140737488351232):Cj f=some (Cb f):=by
 rw [Cj,SAH,Cb]
 by_cases h0:20000<f.size
 ·rw [TB (by simp;omega),TB (by simp;omega)]
 ·rw [FN (by simp;omega),FN (by simp;omega)]
  have key:∀ (j a m:Nat) (out:List ByteArray),a≤f.size→f.size<a+j→out.length≤a→O8 (m+j+1) (.c0 f (a:Int) out)=some (out++(LY j f a).1,((LY j f a).2:Int)):=by
   intro j
   induction j with
   | zero=>intro a m out ha hj;omega
   | succ j ih=>
    intro a m out ha hj ho
    rw [show m+(j+1)+1=(m+j+1)+1 by omega,O8]
    simp only [TAH,LY]
    rw [QAb hf ha,Option.bind_some]
    rcases AAK hf ha with h | ⟨v,h,hv0,hv1,hA⟩
    ·rw [show Eb f a=none by rw [Eb,h];rfl,h]
     rw [List.append_nil];rfl
    ·have hp:=Qc v
     have hsz:=hA.size.resolve_left (by intro h;rw [h] at hp;simp at hp)
     obtain ⟨R,hR⟩:∃ R,R=Eb f a:=⟨_,rfl⟩
     have hn0:=hR
     rw [Eb,h] at hn0
     rw [h]
     generalize hq:a+(IK v).length=q at hsz hn0
     simp only [Bool.not_true,cond_false,Na,Option.bind_some]
     cases hr:NM v 1 9000
     ·rw [hr] at hn0
      have hn1:R=none:=hn0
      rw [←hR,hn1,List.append_nil];rfl
     ·rw [hr] at hn0
      simp only [Bool.not_true,cond_false,Bool.true_and] at hn0 ⊢
      rw [w64_id (n:=(f.size:Int) - (q:Int)) (by omega) (by omega),w64_id (n:=(f.size:Int) - (q:Int) - 4) (by omega) (by omega),w64_id (n:=(q:Int)+4) (by omega) (by omega),w64_id (n:=(q:Int)+4+v) (by omega) (by omega)]
      by_cases h3:v > (f.size:Int) - (q:Int) - 4
      ·rw [TB (by simp;omega)]
       rw [decide_eq_false (by omega:¬ v≤(f.size:Int) - (q:Int) - 4)] at hn0
       have hn1:R=none:=hn0
       rw [←hR,hn1,List.append_nil]
      ·have e2:((q:Int)+4).toNat=q+4:=by omega
       have e3:((q:Int)+4+v).toNat=q+4+v.toNat:=by omega
       have hxs:(f.extract (q+4) (q+4+v.toNat)).size=v.toNat:=by rw [ByteArray.size_extract];omega
       rw [decide_eq_true (by omega:v≤(f.size:Int) - (q:Int) - 4),e2,e3,Int.toNat_natCast,Bool.true_and] at hn0
       rw [FN (by simp;omega),TB (by simp;omega),TB (by simp;omega),e2,e3,Int.toNat_natCast,OAR (by omega),Option.bind_some,DAA (Pn _),Option.bind_some,Ak,SN (Dk (Pn _))]
       cases hc:(bs (f.extract q (q+4)) == four (Ea (bs (f.extract (q+4) (q+4+v.toNat)))))
       ·rw [hc] at hn0
        have hn1:R=none:=hn0
        rw [←hR,hn1,List.append_nil];rfl
       ·rw [hc] at hn0
        have hn1:R=some (f.extract (q+4) (q+4+v.toNat),q+4+v.toNat):=hn0
        rw [←hR,hn1,FN (by rfl),TB (by simp;omega),show (q:Int)+4+v=((q+4+v.toNat:Nat):Int) by omega,ih (q+4+v.toNat) m _ (by omega) (by omega) (by simp;omega)]
        simp
  obtain ⟨m,hm⟩:∃ m,gas=m+(f.size+1)+1:=⟨gas - (f.size+2),by have:=gas_lt (n:=f.size+2) (by omega);omega⟩
  rw [hm,show (0:Int)=((0:Nat):Int) from rfl,key (f.size+1) 0 m [] (by omega) (by omega) (Nat.le_refl _)]
  rfl
theorem RAb {t:ByteArray} (h:t.size≤140737488351232):Pj t=some (frameT t):=by
 rw [Pj,VAI,Na,Option.bind_some,frameT]
 cases h1:NM (t.size:Int) 1 9000
 ·rfl
 ·rw [WX] at h1
  have:=MZ (n:=(t.size:Int)) (by omega)
  rw [FN (by rfl),Ik (by omega),Option.bind_some,OAR h,Option.bind_some,DAA (Pn _),Option.bind_some,TB (by rw [ofBytes_size,ofBytes_size,decide_eq_true_eq];have:(four (Ea (bs t))).length=4:=rfl;omega)]
  rw [TB (by rw [ByteArray.size_append,ofBytes_size,ofBytes_size,decide_eq_true_eq];have:(four (Ea (bs t))).length=4:=rfl;omega),PAR,cond_true]
theorem SAb {k file:ByteArray} (hk:k.size≤900000000) (hf:file.size≤140737488351232):Vx k file=some (AY k file):=by
 obtain ⟨u1,u2,_,_⟩:=EAA (file:=file)
 rw [Vx,XAI,PAb hf,Option.bind_some,AY]
 generalize (Cb file).1=l at u1 u2
 have key:∀ (j i m:Nat) (e:Int) (out:List SRec),i+j=l.length→0≤e→e≤30000*i→out.length≤i→Ux (m+j+1) (.c0 k e (l.length:Int) (i:Int) out l)=some (out++(ZY k ((i:Int)+1) (l.drop i)).1,e+(ZY k ((i:Int)+1) (l.drop i)).2):=by
  intro j
  induction j with
  | zero=>
   intro i m e out h he he2 ho
   obtain rfl:i=l.length:=by omega
   rw [Ux]
   simp only [N9]
   rw [FN (by simp),List.drop_length,ZY,List.append_nil,Int.add_zero]
  | succ j ih=>
   intro i m e out h he he2 ho
   have hi:i<l.length:=by omega
   have hz:=u1 _ (List.getElem_mem hi)
   have ew:w64 ((i:Int)+1)=((i+1:Nat):Int):=by rw [w64_id (by omega) (by omega)];rfl
   have hoz:=BAK k l[i] ((i+1:Nat):Int)
   have hfz:=QAR (t:=l[i]) (by omega)
   rw [show m+(j+1)+1=(m+j+1)+1 by omega,Ux]
   simp only [N9,ew,Int.toNat_natCast,getD_at hi]
   rw [TB (by simp;omega),TB (by simp;omega),TAb hk (by omega),Option.bind_some,UAb (by omega),Option.bind_some,drop_at hi,ZY,show ((i:Int)+1)=((i+1:Nat):Int) from rfl]
   cases (RX k ((i+1:Nat):Int) l[i]).2
   ·rw [Bool.false_and,cond_false,List.append_nil,Int.add_zero];rfl
   ·rw [FN (by rfl),Bool.true_and]
    cases (PY (RX k ((i+1:Nat):Int) l[i]).1).2
    ·rw [cond_false,List.append_nil,Int.add_zero];rfl
    ·have h2:=ih (i+1) m (e+((frameT l[i]).1.size:Int)) (out++[(PY (RX k ((i+1:Nat):Int) l[i]).1).1]) (by omega) (by omega) (by omega) (by simp;omega)
     simp only [Bool.not_true,cond_false,cond_true]
     rw [TB (by simp;omega),RAb (by omega),Option.bind_some,w64_id (by omega) (by omega),h2,List.append_assoc,Int.add_assoc]
     rfl
 obtain ⟨m,hm⟩:∃ m,gas=m+l.length+1:=⟨gas - (l.length+1),by have:=gas_lt (n:=l.length+1) (by omega);omega⟩
 have h0:=key l.length 0 m 0 [] (by omega) (by omega) (by omega) (Nat.le_refl _)
 rw [List.nil_append,Int.zero_add,List.drop_zero] at h0
 rw [hm]
 exact h0
theorem RAR {b:SBook} (h:b.fThings.length≤2932031007317):Uf b=some b:=by
 rw [Uf,YAI,TB (by simp;omega)]
def FAA (b:SBook):Bool:=(b.fWord.size:Int) == 32 && ((b.fChain.size:Int) == 32 && (NM b.fTries 0 3 && (decide ((b.fThings.length:Int)≤8) && (NM b.fLast 0 1000 && NM b.fCount 0 10000))))
theorem VAb {b:SBook} (hb:b.fThings.length≤140737488351232):∀ m i,i≤b.fThings.length→b.fThings.length - i<m→Um m (.c0 b.fThings b.fThings.length i b)=some (rise b.fLast (Oa b.fThings i) (b.fThings.drop i) && FAA b):=fun m i h1 h2=>
 loopN (A:=Unit) (n:=b.fThings.length) (Lp:=Um) (st:=fun i _=>.c0 b.fThings b.fThings.length i b) (Inv:=fun _ _=>True) (out:=fun i _=>some (rise b.fLast (Oa b.fThings i) (b.fThings.drop i) && FAA b))
  (fun m _ _=>by
   simp only [Um,O9,Na,Option.bind_some,FAA]
   rw [show decide ((b.fThings.length:Int)<(b.fThings.length:Int))=false from decide_eq_false (by omega),List.drop_of_length_le (Nat.le_refl _)]
   cases (b.fWord.size:Int) == 32 <;> cases (b.fChain.size:Int) == 32 <;> cases NM b.fTries 0 3 <;> cases decide ((b.fThings.length:Int)≤8) <;> cases NM b.fLast 0 1000 <;> rfl)
  (fun m i _ hi _=>by
   have hw:w64 ((i:Int)+1)=((i+1:Nat):Int):=by rw [w64_id (by omega) (by omega)];rfl
   simp only [SAR hi]
   simp only [Um,O9,Int.toNat_natCast,getD_at hi,TAR,Option.bind_some,hw]
   rw [show decide ((i:Int)<(b.fThings.length:Int))=true from decide_eq_true (by omega),show decide ((0:Int)≤(i:Int))=true from decide_eq_true (by omega)]
   simp only [Bool.and_self,cond_true]
   cases h1:FY b.fThings[i]
   ·exact .inl rfl
   ·cases h2:decide (b.fThings[i].fId > b.fLast)
    ·by_cases h0:i=0
     ·subst h0
      refine .inr ⟨(),rfl,trivial,?_⟩
      rw [show decide (Oa b.fThings 0≥b.fThings[0].fId)=false from decide_eq_false (by have:=(Ce h1).2.2.1;simp only [Oa];omega)]
      rfl
     ·obtain ⟨j,rfl⟩:∃ j,i=j+1:=⟨i - 1,by omega⟩
      have hj:w64 (((j+1:Nat):Int) - 1)=(j:Int):=by rw [w64_id (by omega) (by omega)];omega
      have hjl:j<b.fThings.length:=by omega
      rw [CAK hjl]
      simp only [hj,Int.toNat_natCast,getD_at hjl,Bool.not_true,Bool.not_false,cond_false,Bool.true_and]
      rw [show decide (((j+1:Nat):Int) > 0)=true from decide_eq_true (by omega),show decide ((0:Int)≤(j:Int))=true from decide_eq_true (by omega),show decide ((j:Int)<(b.fThings.length:Int))=true from decide_eq_true (by omega)]
      simp only [Bool.and_self,cond_true]
      cases h3:decide (b.fThings[j].fId≥b.fThings[j+1].fId)
      ·exact .inr ⟨(),rfl,trivial,rfl⟩
      ·exact .inl rfl
    ·exact .inl rfl) m i () h1 h2 trivial
theorem UAR {b:SBook} (hb:b.fThings.length≤140737488351232):Vf b=some (UY b):=by
 have h0:=VAb hb gas 0 (Nat.zero_le _) (gas_lt (by omega))
 simp only [Vf,AAJ]
 refine h0.trans (congrArg some ?_)
 simp only [UY,FAA,List.drop_zero,Oa]
 cases rise b.fLast 0 b.fThings <;> simp
theorem WAb (x y:SThing):Ey x y=some (grown x y):=by
 rw [Ey,FAJ,grown,Ak,show decide (y.fNext≥x.fNext)=decide (x.fNext≤y.fNext) from rfl]
 cases (y.fKind == x.fKind) <;> cases (bs y.fValue == bs x.fValue) <;> cases y.fSigns <;> cases x.fSigns <;> cases y.fWraps <;> cases x.fWraps <;> cases decide (x.fNext≤y.fNext) <;> cases y.fHidden <;> cases x.fHidden <;> cases y.fFixed <;> cases x.fFixed <;> rfl
theorem XAb {b:SBook} {x:SThing} (hb:UY b=true) (hx:x.fId≤1000):Gy b x=some (match Vj b x with
 | some p=>(true,⟨b.fWord,b.fTries,p.1,p.2,b.fChain,b.fCount⟩)
 | none=>(false,b)):=by
 obtain ⟨b1,b2,b3,b4,b5,b6,b7⟩:=Tc.1 hb
 rw [Gy,HAJ,DAK (by omega),Option.bind_some,Vj]
 rcases EAK (xs:=b.fThings) (id:=x.fId) with ⟨o,j,t1,t2,t3,t4,t5⟩ | ⟨t1,t2⟩
 ·have hg:∀ z,b.fThings.getD j z=o:=fun z=>by rw [List.getD,t4];rfl
  have hs:=(FAK b7 t2).1
  rw [Nat.sub_zero] at hs
  rw [t1,t2]
  simp only [Int.toNat_natCast,hg,WAb,Option.bind_some,hs]
  rw [TB (by simp),TB (by simp;omega)]
  cases grown o x
  ·rfl
  ·rw [FN (by rfl),TB (by simp;omega)];rfl
 ·rw [t1,t2]
  simp only
  have hw:w64 (b.fLast+1)=b.fLast+1:=w64_id (by omega) (by omega)
  rw [FN (by rfl),hw]
  cases h1:(x.fId != b.fLast+1)
  ·by_cases h2:(b.fThings.length:Int)≥8
   ·rw [decide_eq_true h2];rfl
   ·rw [decide_eq_false h2,cond_false,cond_false,TB (by simp;omega)];rfl
  ·rfl
theorem YAb {b:SBook} {r:SRec} (hb:b.fThings.length≤140737488351232) (hr:r.fNum≤9223372036854775807):Qj b r=some (JY b r):=by
 rw [Qj,IAJ,Ah hr,Option.bind_some,UAR hb,Option.bind_some,JY]
 cases h1:UY b
 ·rfl
 cases h2:(TT r).2
 ·rfl
 by_cases h3:b.fCount≥10000
 ·rw [decide_eq_true h3];rfl
 obtain ⟨b1,b2,b3,b4,b5,b6,b7⟩:=Tc.1 h1
 have hz:=WAR r
 have hw:w64 (b.fCount+1)=b.fCount+1:=w64_id (by omega) (by omega)
 have hdig:=Vy (s:=b.fChain++(TT r).1) (by rw [ByteArray.size_append];omega)
 have hsz:decide (b.fChain.size+(TT r).1.size≤9223372036854775807)=true:=by rw [decide_eq_true_eq];omega
 simp only [decide_eq_false h3,Bool.not_true,Bool.or_self,cond_false,RAR (show b.fThings.length≤2932031007317 by omega),hdig,hsz,hw,Option.bind_some,cond_true]
 rcases GAA h2 with ⟨hk,hc⟩ | ⟨hk,hc⟩ | ⟨hk,hc⟩ | ⟨hk,hc⟩
 ·rw [hk];rfl
 ·rw [hk];rfl
 ·rw [hk]
  simp only [show ((3:Int) == 1)=false from rfl,show ((3:Int) == 2)=false from rfl,show ((3:Int) == 3)=true from rfl,cond_true,cond_false]
  rw [XAb h1 (Ce hc).2.2.2.1,Option.bind_some]
  cases Vj b r.fThing with
  | none=>rfl
  | some p=>simp only [Bool.not_true,cond_false,hw]
 ·rw [hk]
  simp only [show ((4:Int) == 1)=false from rfl,show ((4:Int) == 2)=false from rfl,show ((4:Int) == 3)=false from rfl,show ((4:Int) == 4)=true from rfl,cond_true,cond_false]
  rw [DAK hb,Option.bind_some]
  rcases EAK (xs:=b.fThings) (id:=r.fNum) with ⟨o,j,t1,t2,t3,t4,t5⟩ | ⟨t1,t2⟩
  ·have hs:=(FAK (x:=⟨r.fNum,0,false,false,false,false,⟨#[]⟩,0⟩) b7 t2).2
   rw [Nat.sub_zero] at hs
   simp only at hs
   rw [t1,t2]
   simp only [Int.toNat_natCast]
   have e:w64 ((j:Int)+1)=((j+1:Nat):Int):=by rw [w64_id (by omega) (by omega)];rfl
   simp only [e,Int.toNat_natCast,List.drop_zero,List.take_length,hs]
   rw [FN (by simp),TB (by simp;omega),TB (by rw [List.length_take,decide_eq_true_eq];omega),TB (by simp;omega),TB (by rw [List.length_take,List.length_drop,decide_eq_true_eq];omega)]
  ·rw [t1,t2];rfl
theorem ZAb {b:SBook} {l:List SRec} (hb:b.fThings.length≤2932031007317) (hl:l.length≤140737488351232) (hr:∀ r ∈ l,r.fNum≤9223372036854775807):Jy b l=some (KZ b l):=by
 have key:∀ (j i m:Nat) (b:SBook),i+j=l.length→b.fThings.length≤2932031007317→Iy (m+j+1) (.c0 l (l.length:Int) (i:Int) ⟨#[]⟩ 0 0 ⟨#[]⟩ 0 b.fWord b.fTries b.fLast b.fChain b.fCount [] b.fThings)=some (KZ b (l.drop i)):=by
  intro j
  induction j with
  | zero=>
   intro i m b h hb
   obtain rfl:i=l.length:=by omega
   rw [Iy]
   simp only [S9]
   rw [FN (by simp),List.drop_length];rfl
  | succ j ih=>
   intro i m b h hb
   have hi:i<l.length:=by omega
   have e:w64 ((i:Int)+1)=((i+1:Nat):Int):=by rw [w64_id (by omega) (by omega)];rfl
   rw [show m+(j+1)+1=(m+j+1)+1 by omega,Iy]
   simp only [S9,e,Int.toNat_natCast,getD_at hi]
   rw [TB (by simp;omega),TB (by simp;omega),YAb (by show b.fThings.length≤_;omega) (hr _ (List.getElem_mem hi)),Option.bind_some,drop_at hi,KZ]
   cases h2:(JY b l[i]).2
   ·rfl
   ·have h3:=AAA h2
    rw [FN (by rfl),cond_true]
    exact ih (i+1) m (JY b l[i]).1 (by omega) (by omega)
 obtain ⟨m,hm⟩:∃ m,gas=m+l.length+1:=⟨gas - (l.length+1),by have:=gas_lt (n:=l.length+1) (by omega);omega⟩
 rw [Jy,KAJ,RAR hb,Option.bind_some,hm]
 exact key l.length 0 m b (by omega) hb
theorem AAc {k:ByteArray} {d:SDisk} (hk:k.size≤900000000) (hd:d.fFiles.length≤140737488351232) (hf:∀ f ∈ d.fFiles,f.fText.size≤140737488351232):Rj k d=some (DZ k d):=by
 have hfs:(CV d PX).1.size≤140737488351232:=XAR hf
 obtain ⟨r1,r2⟩:=YAR k (CV d PX).1
 have hl:=ZAR k (CV d PX).1
 rw [Rj,LAJ,show (⟨#[98,111,111,107]⟩:ByteArray)=PX from rfl,show (⟨#[98,111,111,107,43]⟩:ByteArray)=nNew from rfl,LAb hd,Option.bind_some,SAb hk hfs,Option.bind_some,JAR,Option.bind_some,ZAb (Nat.zero_le _) (by omega) (BAc _ _),Option.bind_some,GAR hd,Option.bind_some,NAR hd,DZ]
 cases Mc d
 ·rfl
 cases (KZ Zd (AY k (CV d PX).1).1).2
 ·rfl
 simp only [Option.bind_some,Bool.not_true,Bool.or_self,cond_false]
 by_cases he:(AY k (CV d PX).1).2=((CV d PX).1.size:Int)
 ·rw [show ((AY k (CV d PX).1).2 == ((CV d PX).1.size:Int))=true by rw [beq_iff_eq];exact he]
  cases decide (Nb d nNew≥0) <;> rfl
 ·rw [show ((AY k (CV d PX).1).2 == ((CV d PX).1.size:Int))=false by rw [beq_eq_false_iff_ne];exact he,cond_false,cond_false]
  have hg:(decide (0≤(AY k (CV d PX).1).2) && decide ((AY k (CV d PX).1).2≤((CV d PX).1.size:Int)))=true:=by rw [Bool.and_eq_true,decide_eq_true_eq,decide_eq_true_eq];exact ⟨r1,r2⟩
  simp only [hg,cond_true]
  cases decide (Nb d nNew≥0) <;> rfl
theorem CAc {b:SBook} {t:Int} (h:b.fThings.length≤140737488351232):Sj b t=some (match KY b.fThings t with | some x=>(x,true) | none=>(Jk,false)):=by
 have hp:=AAS t b.fThings 0
 simp only [Sj,MAJ,DAK h,Option.bind_some]
 cases hq:EZ b.fThings t 0 with
 | none=>rw [hq] at hp;simp only at hp ⊢;rw [hp];rfl
 | some j=>
  rw [hq] at hp
  simp only [Nat.sub_zero,Nat.zero_add] at hp ⊢
  obtain ⟨_,h1,h2⟩:=hp
  rw [h2,List.getElem?_eq_getElem h1]
  simp only [Int.toNat_natCast,getD_at h1]
  rw [show (decide ((j:Int)<0))=false from decide_eq_false (by omega),show (decide ((0:Int)≤(j:Int)))=true from decide_eq_true (by omega),show (decide ((j:Int)<(b.fThings.length:Int)))=true from decide_eq_true (by omega)]
  rfl
theorem DAc {b:SBox} (hl:b.fLives.length≤140737488351232) (ht:b.fBook.fThings.length≤140737488351232):Tj b=some (VAJ b):=by
 have key:∀ (j i m:Nat),i+j=b.fLives.length→Ny (m+j+1) (.c0 b.fLives (b.fLives.length:Int) (i:Int) b)=some (Qn b j i):=by
  intro j
  induction j with
  | zero=>
   intro i m hi
   rw [Ny];simp only [X9]
   rw [FN (by simp;omega)];rfl
  | succ j ih=>
   intro i m hi
   have hw:w64 ((i:Int)+1)=((i+1:Nat):Int):=by rw [w64_id (by omega) (by omega)];rfl
   have d1:decide ((i:Int)<(b.fLives.length:Int))=true:=decide_eq_true (by omega)
   have d0:decide ((0:Int)≤(i:Int))=true:=decide_eq_true (by omega)
   rw [show m+(j+1)+1=(m+j+1)+1 from rfl,Ny]
   simp only [X9,CAc ht,Na,Option.bind_some,d0,d1,Bool.and_self,cond_true,Int.toNat_natCast,hw,ih (i+1) m (by omega),Qn,GAK]
   cases KY b.fBook.fThings (b.fLives.getD i ⟨0,0⟩).fId with
   | none=>rfl
   | some x=>
    simp only [bne]
    cases x.fKind == 2
    ·rfl
    cases NM (b.fLives.getD i ⟨0,0⟩).fNext 0 x.fNext
    ·rfl
    by_cases h0:i=0
    ·subst h0;rfl
    ·obtain ⟨k,rfl⟩:∃ k,i=k+1:=⟨i - 1,by omega⟩
     have hk:w64 (((k+1:Nat):Int) - 1)=(k:Int):=by rw [w64_id (by omega) (by omega)];omega
     rw [show decide (((k+1:Nat):Int) > 0)=true from decide_eq_true (by omega)]
     simp only [hk,Int.toNat_natCast,show decide ((0:Int)≤(k:Int))=true from decide_eq_true (by omega),show decide ((k:Int)<(b.fLives.length:Int))=true from decide_eq_true (by omega),Bool.and_self,cond_true,Nat.add_sub_cancel]
     cases decide ((b.fLives.getD k ⟨0,0⟩).fId≥(b.fLives.getD (k+1) ⟨0,0⟩).fId) <;> rfl
 obtain ⟨m,hm⟩:∃ m,gas=m+b.fLives.length+1:=⟨gas - (b.fLives.length+1),by have:=gas_lt (n:=b.fLives.length) (by omega);omega⟩
 rw [Tj,NAJ,hm]
 exact key b.fLives.length 0 m (Nat.zero_add _)
theorem EAc {b:SBox} (hd:b.fDisk.fFiles.length≤140737488351232) (hf:∀ f ∈ b.fDisk.fFiles,f.fText.size≤140737488351232) (ht:b.fBook.fThings.length≤140737488351232) (hs:b.fSessions.length≤140737488351232) (hl:b.fLives.length≤140737488351232):Yo b=some (BAA b):=by
 rw [Yo,OAJ,GAR hd,Na,BAA]
 simp only [Option.bind_some,bne]
 cases hz:(b.fKey.size:Int) == 32
 ·rfl
 have hk:b.fKey.size≤900000000:=by rw [beq_iff_eq] at hz;omega
 obtain ⟨l1,l2⟩:=AAR b.fKey b.fDisk
 have key:b.fUp=true→∀ (j i m:Nat),i+j=b.fSessions.length→i≤3→Qy (m+j+1) (.c0 b.fSessions (b.fSessions.length:Int) (i:Int) b)=some (decide ((b.fSessions.length:Int)≤3) && (Wj b j i && Zm b)):=by
  intro hup j
  induction j with
  | zero=>
   intro i m hi h3
   rw [Qy];simp only [Py]
   rw [FN (by simp;omega),Zm,hup,decide_eq_true (by omega:(b.fSessions.length:Int)≤3)]
   simp only [AAc hk hd hf,MAR (show (DZ b.fKey b.fDisk).1.fThings.length≤140737488351232 by omega),UAR ht,DAc hl ht,Option.bind_some]
   cases (DZ b.fKey b.fDisk).2.2 <;> cases ((DZ b.fKey b.fDisk).2.1.length:Int) == 0 <;> cases UY b.fBook <;> cases Ae (DZ b.fKey b.fDisk).1 b.fBook <;> rfl
  | succ j ih=>
   intro i m hi h3
   have hw:w64 ((i:Int)+1)=((i+1:Nat):Int):=by rw [w64_id (by omega) (by omega)];rfl
   have d1:decide ((i:Int)<(b.fSessions.length:Int))=true:=decide_eq_true (by omega)
   have d0:decide ((0:Int)≤(i:Int))=true:=decide_eq_true (by omega)
   rw [show m+(j+1)+1=(m+j+1)+1 from rfl,Qy]
   by_cases h4:i=3
   ·simp only [Py,d0,d1,Bool.and_self,cond_true]
    rw [decide_eq_true (by omega:(i:Int)≥3),decide_eq_false (by omega:¬ (b.fSessions.length:Int)≤3)];rfl
   have d3:decide ((i:Int)≥3)=false:=decide_eq_false (by omega)
   simp only [Py,Na,Option.bind_some,d0,d1,d3,Bool.and_self,cond_true,cond_false,Int.toNat_natCast,hw,ih (i+1) m (by omega) (by omega),Wj,UAJ]
   cases NM (b.fSessions.getD i ⟨0,false⟩).fId 1 b.fOpened
   ·simp
   by_cases h0:i=0
   ·subst h0;simp
   ·obtain ⟨k,rfl⟩:∃ k,i=k+1:=⟨i - 1,by omega⟩
    have hk:w64 (((k+1:Nat):Int) - 1)=(k:Int):=by rw [w64_id (by omega) (by omega)];omega
    rw [show decide (((k+1:Nat):Int) > 0)=true from decide_eq_true (by omega)]
    simp only [hk,Int.toNat_natCast,show decide ((0:Int)≤(k:Int))=true from decide_eq_true (by omega),show decide ((k:Int)<(b.fSessions.length:Int))=true from decide_eq_true (by omega),Bool.and_self,cond_true,Nat.add_sub_cancel]
    cases decide ((b.fSessions.getD k ⟨0,false⟩).fId≥(b.fSessions.getD (k+1) ⟨0,false⟩).fId) <;> simp
 cases hdk:Mc b.fDisk
 ·rfl
 cases ho:NM b.fOpened 0 1000
 ·simp
 cases hup:b.fUp
 ·rw [Zm,hup]
  simp only [JAR,MAR ht,Option.bind_some,Bool.not_false,Bool.not_true,cond_true,cond_false,Bool.true_and]
  cases hn:(b.fSessions.length:Int) == 0
  ·simp
  ·have hn0:b.fSessions.length=0:=by rw [beq_iff_eq] at hn;omega
   rw [hn0]
   cases (b.fLives.length:Int) == 0 <;> simp [Wj]
 ·obtain ⟨m,hm⟩:∃ m,gas=m+b.fSessions.length+1:=⟨gas - (b.fSessions.length+1),by have:=gas_lt (n:=b.fSessions.length) (by omega);omega⟩
  have h0:=key hup b.fSessions.length 0 m (Nat.zero_add _) (by omega)
  simp only [Bool.not_true,cond_false,Bool.true_and]
  rw [hm]
  exact h0
theorem FAc (a:SFile)  : Uj a a=some true:=by
 simp [Uj,PAJ]
theorem GAc {a:(List SFile)} (h:a.length≤140737488351232):Uy a a=some true:=by
 have h0:a.length≤140737488351232:=h
 have key:∀ m i,i≤a.length→a.length - i<m→Xm m (.c0 a a i)=some true:=fun m i h1 h2=>
  loopN (A:=Unit) (n:=a.length) (Lp:=Xm) (st:=fun i _=>.c0 a a i) (Inv:=fun _ _=>True) (out:=fun _ _=>some true)
   (fun m _ _=>by simp [Xm,Z9])
   (fun m i _ hi _=>.inr ⟨(),by
    have hw:w64 ((i:Int)+1)=((i+1:Nat):Int):=by rw [w64_id (by omega) (by omega)];rfl
    simp only [Xm,Z9,Int.toNat_natCast,hw,FAc _,getD_at hi,Option.bind_some]
    simp [hi],trivial,rfl⟩) m i () h1 h2 trivial
 have h0:=key gas 0 (Nat.zero_le _) (gas_lt (by omega))
 unfold Uy RAJ
 simp only [bne_self_eq_false,cond_false]
 exact h0
theorem HAc {a:SDisk} (h:a.fFiles.length≤140737488351232):Ro a a=some true:=by
 simp [Ro,SAJ,GAc h]
theorem IAc (a:SThing)  : Gh a a=some true:=by
 simp [Gh,TAJ]
theorem JAc {a:(List SThing)} (h:a.length≤140737488351232):Ho a a=some true:=by
 have h0:a.length≤140737488351232:=h
 have key:∀ m i,i≤a.length→a.length - i<m→Hl m (.c0 a a i)=some true:=fun m i h1 h2=>
  loopN (A:=Unit) (n:=a.length) (Lp:=Hl) (st:=fun i _=>.c0 a a i) (Inv:=fun _ _=>True) (out:=fun _ _=>some true)
   (fun m _ _=>by simp [Hl,Oz])
   (fun m i _ hi _=>.inr ⟨(),by
    have hw:w64 ((i:Int)+1)=((i+1:Nat):Int):=by rw [w64_id (by omega) (by omega)];rfl
    simp only [Hl,Oz,Int.toNat_natCast,hw,IAc _,getD_at hi,Option.bind_some]
    simp [hi],trivial,rfl⟩) m i () h1 h2 trivial
 have h0:=key gas 0 (Nat.zero_le _) (gas_lt (by omega))
 unfold Ho GAB
 simp only [bne_self_eq_false,cond_false]
 exact h0
theorem KAc {a:SBook} (h:a.fThings.length≤140737488351232):Io a a=some true:=by
 simp [Io,JAB,JAc h]
theorem LAc (a:SSession)  : Ih a a=some true:=by
 simp [Ih,KAB]
theorem MAc {a:(List SSession)} (h:a.length≤140737488351232):Ko a a=some true:=by
 have h0:a.length≤140737488351232:=h
 have key:∀ m i,i≤a.length→a.length - i<m→Il m (.c0 a a i)=some true:=fun m i h1 h2=>
  loopN (A:=Unit) (n:=a.length) (Lp:=Il) (st:=fun i _=>.c0 a a i) (Inv:=fun _ _=>True) (out:=fun _ _=>some true)
   (fun m _ _=>by simp [Il,Qz])
   (fun m i _ hi _=>.inr ⟨(),by
    have hw:w64 ((i:Int)+1)=((i+1:Nat):Int):=by rw [w64_id (by omega) (by omega)];rfl
    simp only [Il,Qz,Int.toNat_natCast,hw,LAc _,getD_at hi,Option.bind_some]
    simp [hi],trivial,rfl⟩) m i () h1 h2 trivial
 have h0:=key gas 0 (Nat.zero_le _) (gas_lt (by omega))
 unfold Ko MAB
 simp only [bne_self_eq_false,cond_false]
 exact h0
theorem NAc (a:SLive)  : Jh a a=some true:=by
 simp [Jh,NAB]
theorem OAc {a:(List SLive)} (h:a.length≤140737488351232):Po a a=some true:=by
 have h0:a.length≤140737488351232:=h
 have key:∀ m i,i≤a.length→a.length - i<m→Jl m (.c0 a a i)=some true:=fun m i h1 h2=>
  loopN (A:=Unit) (n:=a.length) (Lp:=Jl) (st:=fun i _=>.c0 a a i) (Inv:=fun _ _=>True) (out:=fun _ _=>some true)
   (fun m _ _=>by simp [Jl,Sz])
   (fun m i _ hi _=>.inr ⟨(),by
    have hw:w64 ((i:Int)+1)=((i+1:Nat):Int):=by rw [w64_id (by omega) (by omega)];rfl
    simp only [Jl,Sz,Int.toNat_natCast,hw,NAc _,getD_at hi,Option.bind_some]
    simp [hi],trivial,rfl⟩) m i () h1 h2 trivial
 have h0:=key gas 0 (Nat.zero_le _) (gas_lt (by omega))
 unfold Po PAB
 simp only [bne_self_eq_false,cond_false]
 exact h0
theorem PAc {a:SBox} (h:(a.fDisk.fFiles.length≤140737488351232)∧(a.fBook.fThings.length≤140737488351232)∧(a.fSessions.length≤140737488351232)∧(a.fLives.length≤140737488351232)):Qo a a=some true:=by
 simp [Qo,RAB,HAc (h.1),KAc (h.2.1),MAc (h.2.2.1),OAc (h.2.2.2)]
theorem law_FnExactBoxOk (x0:SBox) (g0:GSBox x0):laws_FnExactBoxOk x0=some true:=by
 obtain ⟨r,hr⟩:=QAc g0 1048576
 have h1:x0.fDisk.fFiles.length*40≤140737488351232:=g0.2.2.1.1
 have h2:x0.fBook.fThings.length*48≤140737488351232:=g0.2.2.2.1.2.2.1.1
 have h3:x0.fSessions.length*16≤140737488351232:=g0.2.2.2.2.1.1
 have h4:x0.fLives.length*16≤140737488351232:=g0.2.2.2.2.2.1.1
 have hf:∀ f ∈ x0.fDisk.fFiles,f.fText.size≤140737488351232:=fun f hf=>(g0.2.2.1.2 f hf).2.1
 have e1:=PAc (a:=x0) ⟨by omega,by omega,by omega,by omega⟩
 simp only [laws_FnExactBoxOk,TAB,hr,Option.bind_some,RAc g0,HAb (b:=x0) (by omega) hf (by omega) (by omega) (by omega),EAc (b:=x0) (by omega) hf (by omega) (by omega) (by omega),e1,beq_self_eq_true,Bool.not_true,cond_false]
 cases decide (r<0) <;> rfl
end Go.Proofs.YthfpmhalgimbbaaGreatDoor.G
