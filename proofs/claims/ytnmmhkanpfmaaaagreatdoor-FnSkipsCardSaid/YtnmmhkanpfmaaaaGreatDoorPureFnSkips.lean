/- The plain law of FnSkips: whatever the arguments, it answers true. Conditions: what is read is in reach. Part 2 of 2. -/
import Derived.Test.YtnmmhkanpfmaaaaGreatDoorPureFnSkipsa
namespace Go.Proofs.YtnmmhkanpfmaaaaGreatDoor.G
open Go Go.Ev
set_option linter.unusedVariables false
set_option linter.unusedSimpArgs false
set_option linter.unusedSectionVars false
variable [PC]
theorem p_impl_livesOk {b:SBox} (hl:b.fLives.length≤140737488351232) (ht:b.fBook.fThings.length≤140737488351232):impl_livesOk b=some (livesB b):=by
 have key:∀ (j i m:Nat),i+j=b.fLives.length→L_impl_livesOk (m+j+1) (.c0 b.fLives (b.fLives.length:Int) (i:Int) b)=some (livesR b j i):=by
  intro j
  induction j with
  | zero=>
   intro i m hi
   rw [L_impl_livesOk];simp only [B_impl_livesOk]
   rw [cond_f (by simp;omega)];rfl
  | succ j ih=>
   intro i m hi
   have hw:w64 ((i:Int)+1)=((i+1:Nat):Int):=by rw [w64_id (by omega) (by omega)];rfl
   have d1:decide ((i:Int)<(b.fLives.length:Int))=true:=decide_eq_true (by omega)
   have d0:decide ((0:Int)≤(i:Int))=true:=decide_eq_true (by omega)
   rw [show m+(j+1)+1=(m+j+1)+1 from rfl,L_impl_livesOk]
   simp only [B_impl_livesOk,p_impl_ThingOf ht,p_impl_in,Option.bind_some,d0,d1,Bool.and_self,cond_true,Int.toNat_natCast,hw,ih (i+1) m (by omega),livesR,liveAt]
   cases thingIn b.fBook.fThings (b.fLives.getD i ⟨0,0⟩).fId with
   | none=>rfl
   | some x=>
    simp only [bne]
    cases x.fKind == 2
    ·rfl
    cases inR (b.fLives.getD i ⟨0,0⟩).fNext 0 x.fNext
    ·rfl
    by_cases h0:i=0
    ·subst h0;rfl
    ·obtain ⟨k,rfl⟩:∃ k,i=k+1:=⟨i - 1,by omega⟩
     have hk:w64 (((k+1:Nat):Int) - 1)=(k:Int):=by rw [w64_id (by omega) (by omega)];omega
     rw [show decide (((k+1:Nat):Int) > 0)=true from decide_eq_true (by omega)]
     simp only [hk,Int.toNat_natCast,show decide ((0:Int)≤(k:Int))=true from decide_eq_true (by omega),show decide ((k:Int)<(b.fLives.length:Int))=true from decide_eq_true (by omega),Bool.and_self,cond_true,Nat.add_sub_cancel]
     cases decide ((b.fLives.getD k ⟨0,0⟩).fId≥(b.fLives.getD (k+1) ⟨0,0⟩).fId) <;> rfl
 obtain ⟨m,hm⟩:∃ m,gas=m+b.fLives.length+1:=⟨gas - (b.fLives.length+1),by have:=gas_lt (n:=b.fLives.length) (by omega);omega⟩
 rw [impl_livesOk,E_impl_livesOk,hm]
 exact key b.fLives.length 0 m (Nat.zero_add _)
theorem enterB_len2 (b:SBook) (r:SRec):(enterB b r).1.fThings.length≤8:=by
 cases h:(enterB b r).2
 ·have:(enterB b r).1=zBook:=by
   rw [enterB] at h ⊢
   cases hc:(!(bookOk b) || (!(recText r).2 || decide (b.fCount≥10000)))
   ·rw [hc] at h
    simp only [cond_false] at h ⊢
    cases h1:r.fKind == 1
    ·rw [h1] at h
     simp only [cond_false] at h ⊢
     cases h2:r.fKind == 2
     ·rw [h2] at h
      simp only [cond_false] at h ⊢
      cases h3:r.fKind == 3
      ·rw [h3] at h
       simp only [cond_false] at h ⊢
       cases ht:thingIn b.fThings r.fNum with
       | none=>rfl
       | some x=>rw [ht] at h;cases h
      ·rw [h3] at h
       simp only [cond_true] at h ⊢
       cases ht:putThing b r.fThing with
       | none=>rfl
       | some x=>rw [ht] at h;cases h
     ·rw [h2] at h;cases h
    ·rw [h1] at h;cases h
   ·rfl
  rw [this];exact Nat.zero_le _
 ·exact enterB_len h
theorem enterAll_len {b:SBook} {l:List SRec} (h:b.fThings.length≤2932031007317):(enterAllB b l).1.fThings.length≤2932031007317:=by
 induction l generalizing b with
 | nil=>exact h
 | cons r rs ih=>
  rw [enterAllB]
  cases h3:(enterB b r).2
  ·exact Nat.zero_le _
  ·have:=enterB_len h3
   exact ih (by omega)
theorem mountT_len (k:ByteArray) (d:SDisk):(mountT k d).1.fThings.length≤2932031007317∧(mountT k d).2.1.length≤4:=by
 rw [mountT]
 cases (!(diskOk d) || !(enterAllB bookNew (readBook k (fileT d nBook).1).1).2)
 ·refine ⟨enterAll_len (Nat.zero_le _),?_⟩
  rw [cond_false]
  show List.length (_++_)≤4
  rw [List.length_append]
  cases decide (atF d nNew≥0) <;> cases (readBook k (fileT d nBook).1).2 == ((fileT d nBook).1.size:Int) <;> simp
 ·exact ⟨Nat.zero_le _,Nat.zero_le _⟩
def sessAt (b:SBox) (i:Nat):Bool:=inR (b.fSessions.getD i ⟨0,false⟩).fId 1 b.fOpened && (i == 0 || !decide ((b.fSessions.getD (i - 1) ⟨0,false⟩).fId≥(b.fSessions.getD i ⟨0,false⟩).fId))
def sessR (b:SBox):Nat→Nat→Bool
 | 0,_=>true
 | j+1,i=>sessAt b i && sessR b j (i+1)
noncomputable def boxEnd (b:SBox):Bool:=bif b.fUp then (mountT b.fKey b.fDisk).2.2 && (((mountT b.fKey b.fDisk).2.1.length:Int) == 0 && (bookOk b.fBook && (sameB (mountT b.fKey b.fDisk).1 b.fBook && livesB b)))
 else (b.fSessions.length:Int) == 0 && ((b.fLives.length:Int) == 0 && sameB b.fBook bookNew)
noncomputable def boxOkB (b:SBox):Bool:=(b.fKey.size:Int) == 32 && (diskOk b.fDisk && (decide ((b.fSessions.length:Int)≤3) && (inR b.fOpened 0 1000 && (sessR b b.fSessions.length 0 && boxEnd b))))
theorem p_impl_BoxOk {b:SBox} (hd:b.fDisk.fFiles.length≤140737488351232) (hf:∀ f ∈ b.fDisk.fFiles,f.fText.size≤140737488351232) (ht:b.fBook.fThings.length≤140737488351232) (hs:b.fSessions.length≤140737488351232) (hl:b.fLives.length≤140737488351232):impl_BoxOk b=some (boxOkB b):=by
 rw [impl_BoxOk,E_impl_BoxOk,p_impl_DiskOk hd,p_impl_in,boxOkB]
 simp only [Option.bind_some,bne]
 cases hz:(b.fKey.size:Int) == 32
 ·rfl
 have hk:b.fKey.size≤900000000:=by rw [beq_iff_eq] at hz;omega
 obtain ⟨l1,l2⟩:=mountT_len b.fKey b.fDisk
 have key:b.fUp=true→∀ (j i m:Nat),i+j=b.fSessions.length→i≤3→L_impl_BoxOk (m+j+1) (.c0 b.fSessions (b.fSessions.length:Int) (i:Int) b)=some (decide ((b.fSessions.length:Int)≤3) && (sessR b j i && boxEnd b)):=by
  intro hup j
  induction j with
  | zero=>
   intro i m hi h3
   rw [L_impl_BoxOk];simp only [B_impl_BoxOk]
   rw [cond_f (by simp;omega),boxEnd,hup,decide_eq_true (by omega:(b.fSessions.length:Int)≤3)]
   simp only [p_impl_Mount hk hd hf,p_impl_sameBook (show (mountT b.fKey b.fDisk).1.fThings.length≤140737488351232 by omega),p_impl_BookOk ht,p_impl_livesOk hl ht,Option.bind_some]
   cases (mountT b.fKey b.fDisk).2.2 <;> cases ((mountT b.fKey b.fDisk).2.1.length:Int) == 0 <;> cases bookOk b.fBook <;> cases sameB (mountT b.fKey b.fDisk).1 b.fBook <;> rfl
  | succ j ih=>
   intro i m hi h3
   have hw:w64 ((i:Int)+1)=((i+1:Nat):Int):=by rw [w64_id (by omega) (by omega)];rfl
   have d1:decide ((i:Int)<(b.fSessions.length:Int))=true:=decide_eq_true (by omega)
   have d0:decide ((0:Int)≤(i:Int))=true:=decide_eq_true (by omega)
   rw [show m+(j+1)+1=(m+j+1)+1 from rfl,L_impl_BoxOk]
   by_cases h4:i=3
   ·simp only [B_impl_BoxOk,d0,d1,Bool.and_self,cond_true]
    rw [decide_eq_true (by omega:(i:Int)≥3),decide_eq_false (by omega:¬ (b.fSessions.length:Int)≤3)];rfl
   have d3:decide ((i:Int)≥3)=false:=decide_eq_false (by omega)
   simp only [B_impl_BoxOk,p_impl_in,Option.bind_some,d0,d1,d3,Bool.and_self,cond_true,cond_false,Int.toNat_natCast,hw,ih (i+1) m (by omega) (by omega),sessR,sessAt]
   cases inR (b.fSessions.getD i ⟨0,false⟩).fId 1 b.fOpened
   ·simp
   by_cases h0:i=0
   ·subst h0;simp
   ·obtain ⟨k,rfl⟩:∃ k,i=k+1:=⟨i - 1,by omega⟩
    have hk:w64 (((k+1:Nat):Int) - 1)=(k:Int):=by rw [w64_id (by omega) (by omega)];omega
    rw [show decide (((k+1:Nat):Int) > 0)=true from decide_eq_true (by omega)]
    simp only [hk,Int.toNat_natCast,show decide ((0:Int)≤(k:Int))=true from decide_eq_true (by omega),show decide ((k:Int)<(b.fSessions.length:Int))=true from decide_eq_true (by omega),Bool.and_self,cond_true,Nat.add_sub_cancel]
    cases decide ((b.fSessions.getD k ⟨0,false⟩).fId≥(b.fSessions.getD (k+1) ⟨0,false⟩).fId) <;> simp
 cases hdk:diskOk b.fDisk
 ·rfl
 cases ho:inR b.fOpened 0 1000
 ·simp
 cases hup:b.fUp
 ·rw [boxEnd,hup]
  simp only [p_impl_BookNew,p_impl_sameBook ht,Option.bind_some,Bool.not_false,Bool.not_true,cond_true,cond_false,Bool.true_and]
  cases hn:(b.fSessions.length:Int) == 0
  ·simp
  ·have hn0:b.fSessions.length=0:=by rw [beq_iff_eq] at hn;omega
   rw [hn0]
   cases (b.fLives.length:Int) == 0 <;> simp [sessR]
 ·obtain ⟨m,hm⟩:∃ m,gas=m+b.fSessions.length+1:=⟨gas - (b.fSessions.length+1),by have:=gas_lt (n:=b.fSessions.length) (by omega);omega⟩
  have h0:=key hup b.fSessions.length 0 m (Nat.zero_add _) (by omega)
  simp only [Bool.not_true,cond_false,Bool.true_and]
  rw [hm]
  exact h0
noncomputable def riseT (b:SBox):SBox×Bool:=
 bif b.fUp || !boxOkB b then (zBox,false)
 else bif !(mountT b.fKey b.fDisk).2.2 || decide ((actsT b.fDisk (mountT b.fKey b.fDisk).2.1 0).2<((mountT b.fKey b.fDisk).2.1.length:Int)) then (zBox,false)
 else (⟨b.fKey,true,(actsT b.fDisk (mountT b.fKey b.fDisk).2.1 0).1,(mountT b.fKey b.fDisk).1,[],[],0⟩,true)
theorem mountT_acts {k:ByteArray} {d:SDisk} (hf:∀ f ∈ d.fFiles,f.fText.size≤140737488351232):∀ a ∈ (mountT k d).2.1,a.fText.size≤140737488351232:=by
 have h0:=fileT_small (n:=nBook) hf
 intro a
 rw [mountT]
 cases (!(diskOk d) || !(enterAllB bookNew (readBook k (fileT d nBook).1).1).2)
 ·rw [cond_false]
  show a ∈ _++_→_
  rw [List.mem_append]
  rintro (h | h)
  ·cases hc:decide (atF d nNew≥0) <;> rw [hc] at h
   ·cases h
   ·rw [List.mem_singleton.1 h];exact Nat.zero_le _
  ·cases hc:(readBook k (fileT d nBook).1).2 == ((fileT d nBook).1.size:Int) <;> rw [hc] at h
   ·simp only [cond_false,List.mem_cons,List.not_mem_nil,or_false] at h
    rcases h with rfl | rfl | rfl
    ·show ((fileT d nBook).1.extract 0 _).size≤_;rw [ByteArray.size_extract];omega
    ·exact Nat.zero_le _
    ·exact Nat.zero_le _
   ·cases h
 ·rw [cond_true];intro h;cases h
theorem p_impl_Rise {b:SBox} (hd:b.fDisk.fFiles.length*40≤140737488351232) (hf:∀ f ∈ b.fDisk.fFiles,f.fText.size≤140737488351232) (ht:b.fBook.fThings.length≤140737488351232) (hs:b.fSessions.length≤140737488351232) (hl:b.fLives.length≤140737488351232) (hk:b.fKey.size≤900000000):impl_Rise b=some (riseT b):=by
 obtain ⟨l1,l2⟩:=mountT_len b.fKey b.fDisk
 rw [impl_Rise,E_impl_Rise,riseT]
 simp only [p_impl_BoxOk (b:=b) (by omega) hf ht hs hl,p_impl_Mount hk (show b.fDisk.fFiles.length≤_ by omega) hf,p_impl_DoActs (d:=b.fDisk) (l:=(mountT b.fKey b.fDisk).2.1) hd (by omega) (mountT_acts hf),Option.bind_some]
 cases b.fUp
 ·cases boxOkB b
  ·rfl
  ·cases (mountT b.fKey b.fDisk).2.2
   ·rfl
   ·cases decide ((actsT b.fDisk (mountT b.fKey b.fDisk).2.1 0).2<((mountT b.fKey b.fDisk).2.1.length:Int)) <;> rfl
 ·rfl
def tellT (l:SLife) (c:Int) (s:ByteArray):SLife:=⟨l.fBox,l.fCodes++[c],l.fReplies++[s],l.fGives,l.fDone⟩
theorem p_impl_Life_tell {l:SLife} {c:Int} {s:ByteArray} (h1:l.fCodes.length≤1000000) (h2:l.fReplies.length≤1000000):impl_Life_tell l c s=some (tellT l c s):=by
 rw [impl_Life_tell,E_impl_Life_tell,cond_t (by simp;omega),cond_t (by simp;omega)];rfl
def sayR (n:Int):ByteArray:=[(⟨#[]⟩:ByteArray),⟨#[102,117,108,108]⟩,⟨#[115,101,115,115,105,111,110]⟩,⟨#[108,111,99,107,101,100]⟩,⟨#[119,111,114,100]⟩,⟨#[111,117,116]⟩,⟨#[119,114,111,110,103]⟩,⟨#[110,111,110,101]⟩,⟨#[112,111,108,105,99,121]⟩,⟨#[100,111,119,110]⟩].getD n.toNat ⟨#[]⟩
def noR (n:Int):List SRec×Int×ByteArray:=([],n,sayR n)
theorem p_impl_refused {n:Int} (h:0≤n∧n<10):impl_refused n=some (noR n):=by
 rw [impl_refused,E_impl_refused,cond_t (by simp;omega)];rfl
theorem p_impl_Decimal {n:Int} (h:0≤n∧n<100):∃ s,impl_Decimal n=some s∧s.size≤2:=by
 rw [impl_Decimal,E_impl_Decimal,strconv_Itoa,E_strconv_Itoa,internal_strconv_Itoa,E_internal_strconv_Itoa,internal_strconv_FormatInt,E_internal_strconv_FormatInt,internal_strconv_small,E_internal_strconv_small]
 rw [cond_t (by rfl),cond_t (by simp;omega),cond_t (by simp;omega),w64_id (n:=n+1) (by omega) (by omega),w64_id (n:=n*2) (by omega) (by omega),w64_id (n:=n*2+2) (by omega) (by omega)]
 by_cases h1:n<10
 ·rw [cond_t (by simp;omega),cond_t (by
   rw [Bool.and_eq_true,Bool.and_eq_true,decide_eq_true_eq,decide_eq_true_eq,decide_eq_true_eq]
   refine ⟨⟨by omega,by omega⟩,?_⟩
   show n+1≤((36:Nat):Int);omega)]
  refine ⟨_,rfl,?_⟩
  rw [ByteArray.size_extract];omega
 ·rw [cond_f (by simp;omega),cond_t (by
   rw [Bool.and_eq_true,Bool.and_eq_true,decide_eq_true_eq,decide_eq_true_eq,decide_eq_true_eq]
   refine ⟨⟨by omega,by omega⟩,?_⟩
   show n*2+2≤((200:Nat):Int);omega)]
  refine ⟨_,rfl,?_⟩
  rw [ByteArray.size_extract];omega
def placeS:List SSession→Int→Nat→Option Nat
 | [],_,_=>none
 | l::ls,t,i=>if l.fId == t then some i else placeS ls t (i+1)
theorem placeS_lt {t:Int}:∀ {ls:List SSession} {i j:Nat},placeS ls t i=some j→i≤j∧j<i+ls.length:=by
 intro ls
 induction ls with
 | nil=>intro i j h;cases h
 | cons f fs ih=>
  intro i j h
  rw [placeS] at h
  rw [List.length_cons]
  split at h
  ·cases h;omega
  ·have:=ih h;omega
def atS (b:SBox) (t:Int):Int:=match placeS b.fSessions t 0 with | some j=>(j:Int) | none=> -1
theorem p_impl_sessionAt {b:SBox} {t:Int} (h:b.fSessions.length≤140737488351232):impl_sessionAt b t=some (atS b t):=by
 have key:∀ (j i m:Nat),i+j=b.fSessions.length→L_impl_sessionAt (m+j+1) (.c0 t b.fSessions (b.fSessions.length:Int) (i:Int))=some (match placeS (b.fSessions.drop i) t i with | some j=>(j:Int) | none=> -1):=by
  intro j
  induction j with
  | zero=>
   intro i m hi
   rw [L_impl_sessionAt];simp only [B_impl_sessionAt]
   rw [cond_f (by simp;omega),List.drop_of_length_le (by omega)];rfl
  | succ j ih=>
   intro i m hi
   have hil:i<b.fSessions.length:=by omega
   have hw:w64 ((i:Int)+1)=((i+1:Nat):Int):=by rw [w64_id (by omega) (by omega)];rfl
   rw [show m+(j+1)+1=(m+j+1)+1 from rfl,L_impl_sessionAt]
   simp only [B_impl_sessionAt,show decide ((i:Int)<(b.fSessions.length:Int))=true from decide_eq_true (by omega),show decide ((0:Int)≤(i:Int))=true from decide_eq_true (by omega),Bool.and_self,cond_true,Int.toNat_natCast,hw,getD_at hil,ih (i+1) m (by omega)]
   rw [drop_at hil,placeS]
   cases b.fSessions[i].fId == t <;> rfl
 obtain ⟨m,hm⟩:∃ m,gas=m+b.fSessions.length+1:=⟨gas - (b.fSessions.length+1),by have:=gas_lt (n:=b.fSessions.length+1) (by omega);omega⟩
 rw [impl_sessionAt,E_impl_sessionAt,hm]
 exact key b.fSessions.length 0 m (Nat.zero_add _)
noncomputable def wordT (b:SBox) (c:SCall):List SRec×Int×ByteArray:=
 bif decide (b.fBook.fTries≥3) then noR 3
 else bif !((dig c.fText).toList == b.fBook.fWord.toList) then ([⟨2,⟨#[]⟩,b.fBook.fTries+1,⟨0,0,false,false,false,false,⟨#[]⟩,0⟩⟩],4,sayR 4)
 else bif b.fBook.fTries == 0 then ([],0,⟨#[]⟩) else ([⟨2,⟨#[]⟩,0,⟨0,0,false,false,false,false,⟨#[]⟩,0⟩⟩],0,⟨#[]⟩)
theorem p_impl_planWord {b:SBox} {c:SCall} (ht:0≤b.fBook.fTries) (hc:c.fText.size≤1000000000):impl_planWord b c=some (wordT b c):=by
 rw [impl_planWord,E_impl_planWord,wordT]
 simp only [p_impl_refused (n:=3) (by decide),p_impl_refused (n:=4) (by decide),p_impl_DigestOf hc,Option.bind_some]
 by_cases h:b.fBook.fTries≥3
 ·rw [decide_eq_true h];rfl
 ·rw [decide_eq_false h,w64_id (by omega) (by omega)]
  cases !((dig c.fText).toList == b.fBook.fWord.toList) <;> cases b.fBook.fTries == 0 <;> rfl
def defaults (kind:Int) (data:ByteArray):SThing×Bool:=
 bif kind == 1 then (⟨0,kind,true,false,false,true,dig data,0⟩,true)
 else bif kind == 2 then (⟨0,kind,true,false,true,false,dig data,0⟩,true)
 else bif kind == 3 then (bif decide ((data.size:Int)≤100) then (⟨0,kind,false,false,false,false,data,0⟩,true) else (⟨0,0,false,false,false,false,⟨#[]⟩,0⟩,false))
 else (⟨0,0,false,false,false,false,⟨#[]⟩,0⟩,false)
theorem p_impl_Defaults (kind:Int) {data:ByteArray} (h:data.size≤1000000000):impl_Defaults kind data=some (defaults kind data):=by
 simp only [impl_Defaults,E_impl_Defaults,p_impl_DigestOf h,Option.bind_some,defaults]
 cases kind == 1 <;> cases kind == 2 <;> cases kind == 3 <;> cases decide ((data.size:Int)≤100) <;> rfl
def zT:SThing:=⟨0,0,false,false,false,false,⟨#[]⟩,0⟩
def changeT (x:SThing) (h f:Bool):SThing×Bool:=bif thingOk x && ((h || !x.fHidden) && (f || !x.fFixed)) then (⟨x.fId,x.fKind,h,f,x.fSigns,x.fWraps,x.fValue,x.fNext⟩,true) else (zT,false)
def mayT (x:SThing) (d:Int):Bool:=thingOk x && (bif d == 1 then !x.fHidden else bif d == 2 then !x.fFixed && !(x.fKind == 2) else bif d == 3 then x.fSigns else bif d == 4 then x.fWraps else d == 5)
theorem p_impl_May (x:SThing) (d:Int):impl_May x d=some (mayT x d):=by
 rw [impl_May,E_impl_May,p_impl_ThingOk,Option.bind_some,mayT,bne]
 cases thingOk x <;> cases d == 1 <;> cases d == 2 <;> cases d == 3 <;> cases d == 4 <;> cases x.fFixed <;> rfl
def placeV:List SLive→Int→Nat→Option Nat
 | [],_,_=>none
 | l::ls,t,i=>if l.fId == t then some i else placeV ls t (i+1)
theorem placeV_lt {t:Int}:∀ {ls:List SLive} {i j:Nat},placeV ls t i=some j→i≤j∧j<i+ls.length:=by
 intro ls
 induction ls with
 | nil=>intro i j h;cases h
 | cons f fs ih=>
  intro i j h
  rw [placeV] at h
  rw [List.length_cons]
  split at h
  ·cases h;omega
  ·have:=ih h;omega
def atV (b:SBox) (t:Int):Int:=match placeV b.fLives t 0 with | some j=>(j:Int) | none=> -1
def leafX (b:SBox) (x:SThing):Int:=match placeV b.fLives x.fId 0 with | some j=>(b.fLives.getD j ⟨0,0⟩).fNext | none=>x.fNext
def leafB (b:SBox) (t:Int):Int:=match thingIn b.fBook.fThings t with
 | some x=>bif x.fKind == 2 then leafX b x else -1
 | none=> -1
theorem p_impl_liveAt {b:SBox} {t:Int} (h:b.fLives.length≤140737488351232):impl_liveAt b t=some (atV b t):=by
 have key:∀ (j i m:Nat),i+j=b.fLives.length→L_impl_liveAt (m+j+1) (.c0 t b.fLives (b.fLives.length:Int) (i:Int))=some (match placeV (b.fLives.drop i) t i with | some j=>(j:Int) | none=> -1):=by
  intro j
  induction j with
  | zero=>
   intro i m hi
   rw [L_impl_liveAt];simp only [B_impl_liveAt]
   rw [cond_f (by simp;omega),List.drop_of_length_le (by omega)];rfl
  | succ j ih=>
   intro i m hi
   have hil:i<b.fLives.length:=by omega
   have hw:w64 ((i:Int)+1)=((i+1:Nat):Int):=by rw [w64_id (by omega) (by omega)];rfl
   rw [show m+(j+1)+1=(m+j+1)+1 from rfl,L_impl_liveAt]
   simp only [B_impl_liveAt,show decide ((i:Int)<(b.fLives.length:Int))=true from decide_eq_true (by omega),show decide ((0:Int)≤(i:Int))=true from decide_eq_true (by omega),Bool.and_self,cond_true,Int.toNat_natCast,hw,getD_at hil,ih (i+1) m (by omega)]
   rw [drop_at hil,placeV]
   cases b.fLives[i].fId == t <;> rfl
 obtain ⟨m,hm⟩:∃ m,gas=m+b.fLives.length+1:=⟨gas - (b.fLives.length+1),by have:=gas_lt (n:=b.fLives.length+1) (by omega);omega⟩
 rw [impl_liveAt,E_impl_liveAt,hm]
 exact key b.fLives.length 0 m (Nat.zero_add _)
theorem p_impl_LeafOf {b:SBox} {t:Int} (h:b.fLives.length≤140737488351232) (ht:b.fBook.fThings.length≤140737488351232):impl_LeafOf b t=some (leafB b t):=by
 rw [impl_LeafOf,E_impl_LeafOf,p_impl_ThingOf ht,Option.bind_some,leafB]
 cases hx:thingIn b.fBook.fThings t with
 | none=>rfl
 | some x=>
  have hid:x.fId=t:=by have:=List.find?_some hx;simpa using this
  simp only [p_impl_liveAt h,bne,atV,leafX,hid,Option.bind_some]
  cases x.fKind == 2
  ·rfl
  ·cases hp:placeV b.fLives t 0 with
   | none=>rfl
   | some j=>
    have hj:=(placeV_lt hp).2
    simp only [Int.toNat_natCast]
    rw [show decide ((j:Int)≥0)=true from decide_eq_true (by omega),show decide ((j:Int)<(b.fLives.length:Int))=true from decide_eq_true (by omega)];rfl
def b1 (n:Int):ByteArray:=ofBytes [n]
theorem IK (n:Int):(b1 n).size=1:=by rw [b1,ofBytes_size];rfl
def NM (s:ByteArray):ByteArray:=(dig s).extract 0 4
theorem Ia (s:ByteArray):(NM s).size=4:=by rw [NM,ByteArray.size_extract,dig_size];rfl
def SY (leaf chain:Int):Nat→Int→ByteArray→ByteArray
 | 0,_,x=>x
 | n+1,f,x=>SY leaf chain n (f+1) (NM (b1 leaf++b1 chain++b1 f++x))
theorem IAJ {leaf chain:Int}:∀ (n:Nat) (f:Int) (x:ByteArray),x.size=4→(SY leaf chain n f x).size=4:=by
 intro n
 induction n with
 | zero=>intro f x h;exact h
 | succ n ih=>intro f x h;exact ih _ _ (Ia _)
theorem Dq (leaf chain:Int) (f:Int) (x:ByteArray):∀ n:Nat,SY leaf chain (n+1) f x=NM (b1 leaf++b1 chain++b1 (f+n)++SY leaf chain n f x):=by
 intro n
 induction n generalizing f x with
 | zero=>rw [SY,SY,SY,show f+((0:Nat):Int)=f by omega]
 | succ n ih=>
  rw [SY,ih,←SY,show f+1+(n:Int)=f+((n+1:Nat):Int) by omega]
def Fq:ByteArray:=⟨#[111]⟩
def Gq:ByteArray:=⟨#[110]⟩
def keyAt (seed:ByteArray) (leaf c:Int):ByteArray:=NM (seed++b1 leaf++b1 c++Fq)
def VY (seed:ByteArray) (leaf:Int) (n:Nat):List ByteArray:=(List.range n).map fun c:Nat=>keyAt seed leaf (c:Int)
def FN:List ByteArray→ByteArray
 | []=>⟨#[]⟩
 | x::xs=>x++FN xs
theorem JAJ (s:ByteArray):(⟨#[]⟩:ByteArray)++s=s:=bs_inj (by rw [bs_append,bs_nil,List.nil_append])
theorem Hq (s:ByteArray):s++(⟨#[]⟩:ByteArray)=s:=bs_inj (by rw [bs_append,bs_nil,List.append_nil])
theorem Nz (a b c:ByteArray):a++b++c=a++(b++c):=bs_inj (by simp only [bs_append,List.append_assoc])
theorem OAB (a b:List ByteArray):FN (a++b)=FN a++FN b:=by
 induction a with
 | nil=>exact (JAJ _).symm
 | cons x xs ih=>rw [List.cons_append,FN,FN,ih,Nz]
theorem Xe {l:List ByteArray} {n:Nat} (h:∀ x ∈ l,x.size=n):(FN l).size=l.length*n:=by
 induction l with
 | nil=>simp [FN];rfl
 | cons x xs ih=>rw [FN,ByteArray.size_append,h x (List.mem_cons_self ..),ih (fun y hy=>h y (List.mem_cons_of_mem _ hy)),List.length_cons,Nat.add_mul];omega
def BZ (level place:Int) (a b:ByteArray):ByteArray:=NM (b1 level++b1 place++a++b++Gq)
theorem nbq (a b:Nat):Nat.beq a b=decide (a=b):=by
 rw [Bool.eq_iff_iff,decide_eq_true_eq]
 exact ⟨Nat.eq_of_beq_eq_true,fun h=>by subst h;exact Nat.beq_refl _⟩
theorem Xk {s:ByteArray} (h:s.size≤1000000000):QY s=some (NM s):=by
 rw [QY,Qw,p_impl_DigestOf h,Option.bind_some,dig_size,cond_t (by rfl)];rfl
theorem PAB {s:ByteArray} {leaf:Int} (hl:0≤leaf∧leaf≤255) (hs:s.size≤100000):Fa s leaf=some (VY s leaf 10):=by
 have key:∀ (j i m:Nat),i+j=10→Ee (m+j+1) (.c0 s leaf (i:Int) (VY s leaf i))=some (VY s leaf 10):=by
  intro j
  induction j with
  | zero=>
   intro i m hi
   obtain rfl:i=10:=by omega
   rw [Ee];simp only [Yo]
   rw [cond_f (by rfl)]
  | succ j ih=>
   intro i m hi
   have hw:w64 ((i:Int)+1)=((i+1:Nat):Int):=by rw [w64_id (by omega) (by omega)];rfl
   have ho:(VY s leaf i).length=i:=by rw [VY,List.length_map,List.length_range]
   have hm:VY s leaf i++[keyAt s leaf (i:Int)]=VY s leaf (i+1):=by rw [VY,VY,List.range_succ,List.map_append];rfl
   rw [show m+(j+1)+1=(m+j+1)+1 from rfl,Ee]
   simp only [Yo,hw]
   rw [cond_t (by rw [decide_eq_true_eq];omega),p_impl_oneByte hl.1 hl.2,Option.bind_some]
   show (bif decide (s.size+(b1 leaf).size≤_) then _ else _)=_
   rw [cond_t (by rw [decide_eq_true_eq,IK];omega),p_impl_oneByte (by omega) (by omega),Option.bind_some]
   show (bif decide ((s++b1 leaf).size+(b1 (i:Int)).size≤_) then _ else _)=_
   rw [cond_t (by rw [decide_eq_true_eq,ByteArray.size_append,IK,IK];omega)]
   show (bif decide ((s++b1 leaf++b1 (i:Int)).size+Fq.size≤_) then _ else _)=_
   have hO:Fq.size=1:=rfl
   rw [cond_t (by rw [decide_eq_true_eq,ByteArray.size_append,ByteArray.size_append,IK,IK,hO];omega)]
   show (QY (s++b1 leaf++b1 (i:Int)++Fq)).bind _=_
   rw [Xk (by rw [ByteArray.size_append,ByteArray.size_append,ByteArray.size_append,IK,IK,hO];omega),Option.bind_some,ho,cond_t (by rw [decide_eq_true_eq];omega)]
   show Ee (m+j+1) (.c0 s leaf ((i+1:Nat):Int) (VY s leaf i++[keyAt s leaf (i:Int)]))=_
   rw [hm]
   exact ih (i+1) m (by omega)
 obtain ⟨m,hm⟩:∃ m,gas=m+10+1:=⟨gas - 11,by have:=gas_lt (n:=11) (by omega);omega⟩
 rw [Fa,Rw,hm]
 exact key 10 0 m rfl
theorem QAB {x:ByteArray} {leaf chain:Int} {f n:Nat} (hl:0≤leaf∧leaf≤255) (hc:0≤chain∧chain≤255) (hn:n≤15) (hf:f+n≤255) (hx:x.size≤100000):CZ x leaf chain (f:Int) (n:Int)=some (SY leaf chain n f x):=by
 have hs:∀ i,(SY leaf chain i f x).size≤100000:=fun i=>by
  cases i with
  | zero=>exact hx
  | succ i=>rw [Dq,Ia];omega
 have key:∀ (j i m:Nat),i+j=n→Nj (m+j+1) (.c0 (SY leaf chain i f x) leaf chain (f:Int) (n:Int) (i:Int))=some (SY leaf chain n f x):=by
  intro j
  induction j with
  | zero=>
   intro i m hi
   obtain rfl:i=n:=by omega
   rw [Nj];simp only [Dp]
   rw [cond_f (by rw [decide_eq_false_iff_not];omega)]
  | succ j ih=>
   intro i m hi
   have hw:w64 ((i:Int)+1)=((i+1:Nat):Int):=by rw [w64_id (by omega) (by omega)];rfl
   have hsi:=hs i
   have hm:=Dq leaf chain f x i
   rw [show m+(j+1)+1=(m+j+1)+1 from rfl,Nj]
   simp only [Dp,hw]
   rw [cond_t (by rw [decide_eq_true_eq];omega),p_impl_oneByte hl.1 hl.2,Option.bind_some,p_impl_oneByte hc.1 hc.2,Option.bind_some,w64_id (by omega) (by omega),p_impl_oneByte (by omega) (by omega)]
   show (bif decide ((b1 leaf).size+(b1 chain).size≤_) then _ else _)=_
   rw [cond_t (by rw [decide_eq_true_eq,IK,IK];omega),Option.bind_some]
   show (bif decide ((b1 leaf++b1 chain).size+(b1 ((f:Int)+i)).size≤_) then _ else _)=_
   rw [cond_t (by rw [decide_eq_true_eq,ByteArray.size_append,IK,IK,IK];omega),cond_t (by
    rw [decide_eq_true_eq]
    show (b1 leaf++b1 chain++b1 ((f:Int)+i)).size+_≤_
    rw [ByteArray.size_append,ByteArray.size_append,IK,IK,IK];omega)]
   show (QY (b1 leaf++b1 chain++b1 ((f:Int)+i)++SY leaf chain i f x)).bind _=_
   rw [Xk (by rw [ByteArray.size_append,ByteArray.size_append,ByteArray.size_append,IK,IK,IK];omega),Option.bind_some,←hm]
   exact ih (i+1) m (by omega)
 obtain ⟨m,hm⟩:∃ m,gas=m+n+1:=⟨gas - (n+1),by have:=gas_lt (n:=n+1) (by omega);omega⟩
 have hi:(ite ((15:Int)<(n:Int)) 15 (n:Int))=(n:Int):=if_neg (by omega)
 rw [CZ,Yw,hi,hm]
 exact key n 0 m (Nat.zero_add _)
def EZ (keys:List ByteArray) (leaf:Int) (n:Nat):List ByteArray:=(List.range n).map fun c:Nat=>SY leaf (c:Int) 15 0 (keys.getD c ⟨#[]⟩)
theorem RAB {keys:List ByteArray} {leaf:Int} {n:Nat}:∀ x ∈ EZ keys leaf n,x.size=4:=fun x hx=>by
 rw [EZ,List.mem_map] at hx
 obtain ⟨c,_,rfl⟩:=hx
 rw [Dq];exact Ia _
theorem SAB (keys:List ByteArray) (leaf:Int) (n:Nat):(EZ keys leaf n).length=n:=by rw [EZ,List.length_map,List.length_range]
def Ye (keys:List ByteArray) (leaf:Int):ByteArray:=NM (FN (EZ keys leaf 10))
theorem LAJ {keys:List ByteArray} {leaf:Int} (hk:keys.length=10) (hl:0≤leaf∧leaf≤255) (hs:∀ x ∈ keys,x.size≤100000):Ac keys leaf=some (Ye keys leaf):=by
 have key:∀ (j i m:Nat),i+j=10→Zb (m+j+1) (.c0 leaf 202 203 (FN (EZ keys leaf i)) keys ((keys.length:Nat):Int) (i:Int))=some (Ye keys leaf):=by
  intro j
  induction j with
  | zero=>
   intro i m hi
   obtain rfl:i=10:=by omega
   have hz:=Xe (RAB (keys:=keys) (leaf:=leaf) (n:=10))
   rw [SAB] at hz
   rw [Zb];simp only [Fp]
   rw [hk,cond_f (by rfl),Xk (by omega)];rfl
  | succ j ih=>
   intro i m hi
   have hlt:i<keys.length:=by omega
   have hw:w64 ((i:Int)+1)=((i+1:Nat):Int):=by rw [w64_id (by omega) (by omega)];rfl
   have hz:=Xe (RAB (keys:=keys) (leaf:=leaf) (n:=i))
   rw [SAB] at hz
   have hc:=Dq leaf (i:Int) 0 keys[i] 14
   have hc2:(SY leaf (i:Int) 15 0 keys[i]).size=4:=by rw [hc];exact Ia _
   have hm:FN (EZ keys leaf i)++SY leaf (i:Int) 15 0 keys[i]=FN (EZ keys leaf (i+1)):=by
    rw [EZ,EZ,List.range_succ,List.map_append,OAB,List.map_cons,List.map_nil,FN,FN,Hq,getD_at hlt]
   rw [show m+(j+1)+1=(m+j+1)+1 from rfl,Zb]
   simp only [Fp,hw,Int.toNat_natCast,getD_at hlt]
   rw [cond_t (by rw [decide_eq_true_eq];omega),cond_t (by rw [Bool.and_eq_true,decide_eq_true_eq,decide_eq_true_eq];omega)]
   simp only [nbq,Nat.reduceEqDiff,decide_true,decide_false,cond_true,cond_false,Fe,Vw,He,Xw,Option.bind_some]
   have hch:=QAB (x:=keys[i]) (leaf:=leaf) (chain:=(i:Int)) (f:=0) (n:=15) hl (by omega) (Nat.le_refl _) (by omega) (hs _ (List.getElem_mem hlt))
   rw [show CZ keys[i] leaf (i:Int) 0 15=_ from hch,Option.bind_some]
   show (bif decide ((FN (EZ keys leaf i)).size+(SY leaf (i:Int) 15 0 keys[i]).size≤_) then Zb (m+j+1) (.c0 leaf 202 203 (FN (EZ keys leaf i)++SY leaf (i:Int) 15 0 keys[i]) keys ((keys.length:Nat):Int) ((i+1:Nat):Int)) else none)=_
   rw [cond_t (by rw [decide_eq_true_eq,hc2];omega),hm]
   exact ih (i+1) m (by omega)
 obtain ⟨m,hm⟩:∃ m,gas=m+10+1:=⟨gas - 11,by have:=gas_lt (n:=11) (by omega);omega⟩
 rw [Ac,Gx,Gp,Dx,cond_f (by rw [hk];rfl),hm]
 show (Zb (m+10+1) (.c0 leaf 202 203 (FN (EZ keys leaf 0)) keys ((keys.length:Nat):Int) ((0:Nat):Int))).bind _=_
 rw [key 10 0 m rfl];rfl
theorem MAJ (keys:List ByteArray) (leaf:Int):(Ye keys leaf).size=4:=Ia _
def RZ (s:ByteArray) (n:Nat):List ByteArray:=(List.range n).map fun l:Nat=>Ye (VY s (l:Int) 10) (l:Int)
theorem Oz (s:ByteArray) (leaf:Int) (n:Nat):(VY s leaf n).length=n:=by rw [VY,List.length_map,List.length_range]
theorem Pz {s:ByteArray} {leaf:Int} {n:Nat}:∀ x ∈ VY s leaf n,x.size=4:=fun x hx=>by
 rw [VY,List.mem_map] at hx
 obtain ⟨c,_,rfl⟩:=hx
 exact Ia _
theorem TAB {s:ByteArray} (hs:s.size≤100000):Bc s=some (RZ s 4):=by
 have key:∀ (j i m:Nat),i+j=4→Qj (m+j+1) (.c0 s (i:Int) (RZ s i))=some (RZ s 4):=by
  intro j
  induction j with
  | zero=>
   intro i m hi
   obtain rfl:i=4:=by omega
   rw [Qj];simp only [Np]
   rw [cond_f (by rfl)]
  | succ j ih=>
   intro i m hi
   have hw:w64 ((i:Int)+1)=((i+1:Nat):Int):=by rw [w64_id (by omega) (by omega)];rfl
   have ho:(RZ s i).length=i:=by rw [RZ,List.length_map,List.length_range]
   have hm:RZ s i++[Ye (VY s (i:Int) 10) (i:Int)]=RZ s (i+1):=by rw [RZ,RZ,List.range_succ,List.map_append];rfl
   rw [show m+(j+1)+1=(m+j+1)+1 from rfl,Qj]
   simp only [Np,hw]
   rw [cond_t (by rw [decide_eq_true_eq];omega),PAB (by omega) hs,Option.bind_some,LAJ (Oz _ _ _) (by omega) (fun x hx=>by rw [Pz x hx];omega),Option.bind_some,ho,cond_t (by rw [decide_eq_true_eq];omega),hm]
   exact ih (i+1) m (by omega)
 obtain ⟨m,hm⟩:∃ m,gas=m+4+1:=⟨gas - 5,by have:=gas_lt (n:=5) (by omega);omega⟩
 rw [Bc,Ox,hm]
 exact key 4 0 m rfl
theorem Qz {level place:Int} {a b:ByteArray} (hl:0≤level∧level≤255) (hp:0≤place∧place≤255) (ha:a.size≤100000) (hb:b.size≤100000):QZ level place a b=some (BZ level place a b):=by
 have hN:Gq.size=1:=rfl
 rw [QZ,Px,p_impl_oneByte hl.1 hl.2,Option.bind_some,p_impl_oneByte hp.1 hp.2,Option.bind_some]
 show (bif decide ((b1 level).size+(b1 place).size≤_) then _ else _)=_
 rw [cond_t (by rw [decide_eq_true_eq,IK,IK];omega)]
 show (bif decide ((b1 level++b1 place).size+a.size≤_) then _ else _)=_
 rw [cond_t (by rw [decide_eq_true_eq,ByteArray.size_append,IK,IK];omega)]
 show (bif decide ((b1 level++b1 place++a).size+b.size≤_) then _ else _)=_
 rw [cond_t (by rw [decide_eq_true_eq,ByteArray.size_append,ByteArray.size_append,IK,IK];omega)]
 show (bif decide ((b1 level++b1 place++a++b).size+Gq.size≤_) then _ else _)=_
 rw [cond_t (by rw [decide_eq_true_eq,ByteArray.size_append,ByteArray.size_append,ByteArray.size_append,IK,IK,hN];omega)]
 show (QY (b1 level++b1 place++a++b++Gq)).bind _=_
 rw [Xk (by rw [ByteArray.size_append,ByteArray.size_append,ByteArray.size_append,ByteArray.size_append,IK,IK,hN];omega)];rfl
theorem Ze (level place:Int) (a b:ByteArray):(BZ level place a b).size=4:=Ia _
theorem UAB {lv:Int} {a b c d:ByteArray} (hl:0≤lv∧lv≤255) (ha:a.size≤100000) (hb:b.size≤100000) (hc:c.size≤100000) (hd:d.size≤100000):DZ lv [a,b,c,d]=some [BZ lv 0 a b,BZ lv 1 c d]:=by
 obtain ⟨m,hm⟩:∃ m,gas=m+1+1+1:=⟨gas - 3,rfl⟩
 rw [DZ,Vp,hm,Dc]
 simp only [Cc]
 rw [cond_t (by rfl),cond_t (by rfl),cond_t (by rfl)]
 show (QZ lv 0 a b).bind _=_
 rw [Qz hl (by omega) ha hb,Option.bind_some,cond_t (by rfl),Dc]
 simp only [Cc]
 rw [cond_t (by rfl),cond_t (by rfl),cond_t (by rfl)]
 show (QZ lv 1 c d).bind _=_
 rw [Qz hl (by omega) hc hd,Option.bind_some,cond_t (by rfl),Dc]
 simp only [Cc]
 rw [cond_f (by rfl)];rfl
theorem VAB {lv:Int} {a b:ByteArray} (hl:0≤lv∧lv≤255) (ha:a.size≤100000) (hb:b.size≤100000):DZ lv [a,b]=some [BZ lv 0 a b]:=by
 obtain ⟨m,hm⟩:∃ m,gas=m+1+1:=⟨gas - 2,rfl⟩
 rw [DZ,Vp,hm,Dc]
 simp only [Cc]
 rw [cond_t (by rfl),cond_t (by rfl),cond_t (by rfl)]
 show (QZ lv 0 a b).bind _=_
 rw [Qz hl (by omega) ha hb,Option.bind_some,cond_t (by rfl),Dc]
 simp only [Cc]
 rw [cond_f (by rfl)];rfl
def WAB (a b c d:ByteArray):ByteArray:=BZ 2 0 (BZ 1 0 a b) (BZ 1 1 c d)
theorem NAJ {a b c d:ByteArray} (ha:a.size≤100000) (hb:b.size≤100000) (hc:c.size≤100000) (hd:d.size≤100000):Vj [a,b,c,d]=some (WAB a b c d):=by
 obtain ⟨m,hm⟩:∃ m,gas=m+1+1+1:=⟨gas - 3,rfl⟩
 have n1:=Ze 1 0 a b
 have n2:=Ze 1 1 c d
 rw [Vj,Rx,cond_f (by rfl),hm,Uj]
 simp only [Tj]
 rw [cond_t (by rfl),UAB (by omega) ha hb hc hd,Option.bind_some,show w64 (1+1)=2 by rw [w64_id (by omega) (by omega)];rfl,Uj]
 simp only [Tj]
 rw [cond_t (by rfl),VAB (by omega) (by omega) (by omega),Option.bind_some,Uj]
 simp only [Tj]
 rw [cond_f (by rfl),cond_t (by rfl)];rfl
def FZ (s:ByteArray) (l:Int):ByteArray:=Ye (VY s l 10) l
theorem KZ (s:ByteArray) (l:Int):(FZ s l).size=4:=MAJ _ _
theorem XAB (s:ByteArray):RZ s 4=[FZ s 0,FZ s 1,FZ s 2,FZ s 3]:=rfl
def Iq (s:ByteArray):ByteArray:=WAB (FZ s 0) (FZ s 1) (FZ s 2) (FZ s 3)
theorem YAB (s:ByteArray):(Iq s).size=4:=Ze _ _ _ _
theorem OAJ {s:ByteArray} (hs:s.size≤100000):Me s=some (Iq s):=by
 rw [Me,Vx,TAB hs,Option.bind_some,XAB,NAJ (by rw [KZ];omega) (by rw [KZ];omega) (by rw [KZ];omega) (by rw [KZ];omega)];rfl
theorem PAJ {b:Int} (h:0≤b∧b≤255):w64 (Int.fdiv b (2 ^ (Min.min (4:Int).toNat (IntKind.bits IntKind.u8))))=b / 16:=by
 have e:(2:Int) ^ (Min.min (4:Int).toNat (IntKind.bits IntKind.u8))=16:=by decide
 rw [e,Int.fdiv_eq_ediv_of_nonneg _ (by omega),w64_id (by omega) (by omega)]
theorem QAJ {b:Int} (h:0≤b∧b≤255):w64 (w8 (((BitVec.toNat ((BitVec.ofInt (IntKind.bits IntKind.u8) b) &&& (BitVec.ofInt (IntKind.bits IntKind.u8) 15))):Nat):Int))=b % 16:=by
 obtain ⟨n,rfl⟩:∃ n:Nat,b=(n:Int):=⟨b.toNat,by omega⟩
 have e:(BitVec.ofInt (IntKind.bits IntKind.u8) (n:Int) &&& BitVec.ofInt (IntKind.bits IntKind.u8) 15).toNat=n % 16:=by
  show (BitVec.ofInt 8 (n:Int) &&& BitVec.ofInt 8 15).toNat=_
  rw [BitVec.toNat_and,BitVec.ofInt_natCast,BitVec.toNat_ofNat,Nat.mod_eq_of_lt (by omega),show (BitVec.ofInt 8 15).toNat=2 ^ 4 - 1 by decide,Nat.and_two_pow_sub_one_eq_mod]
 rw [e,w8_id (by omega) (by omega),w64_id (by omega) (by omega)];omega
def RY:List Int→List Int
 | []=>[]
 | b::bs=>b / 16::b % 16::RY bs
theorem RAJ (a b:List Int):RY (a++b)=RY a++RY b:=by
 induction a with
 | nil=>rfl
 | cons x xs ih=>rw [List.cons_append,RY,ih];rfl
theorem Rz (a:List Int):(RY a).length=2*a.length:=by
 induction a with
 | nil=>rfl
 | cons x xs ih=>rw [RY,List.length_cons,List.length_cons,ih,List.length_cons];omega
theorem ZAB {a:List Int} (h:Byt a):∀ d ∈ RY a,0≤d∧d≤15:=by
 induction a with
 | nil=>intro d hd;cases hd
 | cons x xs ih=>
  intro d hd
  have hx:=h x (List.mem_cons_self ..)
  rw [RY,List.mem_cons,List.mem_cons] at hd
  rcases hd with rfl | rfl | hd
  ·omega
  ·omega
  ·exact ih (fun y hy=>h y (List.mem_cons_of_mem _ hy)) d hd
def XY:List Int→Int
 | []=>0
 | d::ds=>15 - d+XY ds
theorem SAJ (a b:List Int):XY (a++b)=XY a+XY b:=by
 induction a with
 | nil=>rw [List.nil_append,XY,Int.zero_add]
 | cons x xs ih=>rw [List.cons_append,XY,XY,ih];omega
theorem Sz {a:List Int} (h:∀ d ∈ a,0≤d∧d≤15):0≤XY a∧XY a≤15*(a.length:Int):=by
 induction a with
 | nil=>exact ⟨Int.le_refl _,Int.le_refl _⟩
 | cons x xs ih=>
  have hx:=h x (List.mem_cons_self ..)
  have:=ih (fun y hy=>h y (List.mem_cons_of_mem _ hy))
  rw [XY,List.length_cons];omega
def UZ (m:ByteArray):List Int:=RY (bs (NM m))++[XY (RY (bs (NM m))) / 16,XY (RY (bs (NM m))) % 16]
theorem TAJ (m:ByteArray):(UZ m).length=10∧∀ d ∈ UZ m,0≤d∧d≤15:=by
 have h1:=ZAB (byt_bs (NM m))
 have h2:=Rz (bs (NM m))
 have h3:=Sz h1
 rw [bs_len,Ia] at h2
 refine ⟨by rw [UZ,List.length_append,h2];rfl,fun d hd=>?_⟩
 rw [UZ,List.mem_append,List.mem_cons,List.mem_singleton] at hd
 rcases hd with hd | rfl | rfl
 ·exact h1 d hd
 ·omega
 ·omega
theorem UAJ {s:ByteArray} (hs:s.size≤1000000000):Ic s=some (UZ s):=by
 have hz:=Ia s
 have hin:=ZAB (byt_bs (NM s))
 have hln:=Rz (bs (NM s))
 rw [bs_len,hz] at hln
 have loop2:∀ (j i m:Nat),i+j=8→Cb (m+j+1) (.c1 (XY ((RY (bs (NM s))).take i)) ((8:Nat):Int) (i:Int) (RY (bs (NM s))))=some (UZ s):=by
  intro j
  induction j with
  | zero=>
   intro i m hi
   obtain rfl:i=8:=by omega
   have h3:=Sz hin
   rw [List.take_of_length_le (by omega),Cb];simp only [Oe]
   rw [cond_f (by rfl),cond_t (by rw [decide_eq_true_eq];omega),Int.tdiv_eq_ediv_of_nonneg h3.1,Int.tmod_eq_emod_of_nonneg h3.1,w64_id (by omega) (by omega)];rfl
  | succ j ih=>
   intro i m hi
   have hlt:i<(RY (bs (NM s))).length:=by omega
   have hw:w64 ((i:Int)+1)=((i+1:Nat):Int):=by rw [w64_id (by omega) (by omega)];rfl
   have h3:=Sz (a:=(RY (bs (NM s))).take i) (fun d hd=>hin d (List.mem_of_mem_take hd))
   have h4:=hin _ (List.getElem_mem hlt)
   have hl:((RY (bs (NM s))).take i).length≤8:=by rw [List.length_take];omega
   have hm:XY ((RY (bs (NM s))).take i)+(15 - (RY (bs (NM s)))[i])=XY ((RY (bs (NM s))).take (i+1)):=by
    rw [take_at hlt,SAJ,XY,XY];omega
   rw [show m+(j+1)+1=(m+j+1)+1 from rfl,Cb]
   simp only [Oe,hw,Int.toNat_natCast,getD_at hlt]
   rw [cond_t (by rw [decide_eq_true_eq];omega),cond_t (by rw [Bool.and_eq_true,decide_eq_true_eq,decide_eq_true_eq];omega),w64_id (n:=15 - _) (by omega) (by omega),w64_id (by omega) (by omega),hm]
   exact ih (i+1) m (by omega)
 have loop1:∀ (j i m:Nat),i+j=4→Cb (m+9+j+1) (.c0 0 (NM s) (i:Int) (RY ((bs (NM s)).take i)))=some (UZ s):=by
  intro j
  induction j with
  | zero=>
   intro i m hi
   obtain rfl:i=4:=by omega
   rw [Cb];simp only [Oe]
   rw [cond_f (by rfl),List.take_of_length_le (by rw [bs_len];omega),hln]
   exact loop2 8 0 m rfl
  | succ j ih=>
   intro i m hi
   have hlt:i<(NM s).size:=by omega
   have hlt2:i<(bs (NM s)).length:=by rw [bs_len];omega
   have hw:w64 ((i:Int)+1)=((i+1:Nat):Int):=by rw [w64_id (by omega) (by omega)];rfl
   have hb:=bt_byte (NM s) (i:Int)
   have hl:(RY ((bs (NM s)).take i)).length≤8:=by rw [Rz,List.length_take];omega
   have hm:RY ((bs (NM s)).take i)++[bt (NM s) (i:Int) / 16,bt (NM s) (i:Int) % 16]=RY ((bs (NM s)).take (i+1)):=by
    rw [take_at hlt2,RAJ,bt_eq hlt];rfl
   rw [show m+9+(j+1)+1=(m+9+j+1)+1 from rfl,Cb]
   simp only [Oe,hw,PAJ hb,QAJ hb]
   rw [cond_t (by rw [decide_eq_true_eq];omega),cond_t (by rw [Bool.and_eq_true,decide_eq_true_eq,decide_eq_true_eq];omega),cond_t (by rw [Bool.and_eq_true,decide_eq_true_eq,decide_eq_true_eq];omega),cond_t (by rw [decide_eq_true_eq];omega),hm]
   exact ih (i+1) m (by omega)
 obtain ⟨m,hm⟩:∃ m,gas=m+9+4+1:=⟨gas - 14,by have:=gas_lt (n:=14) (by omega);omega⟩
 rw [Ic,Wx,Xk hs,Option.bind_some,hm]
 exact loop1 4 0 m rfl
def ZY (keys:List ByteArray) (leaf:Int) (ds:List Int) (n:Nat):List ByteArray:=(List.range n).map fun c:Nat=>SY leaf (c:Int) (ds.getD c 0).toNat 0 (keys.getD c ⟨#[]⟩)
theorem VAJ {x:ByteArray} {leaf d:Int} {i:Nat} (hl:0≤leaf∧leaf≤255) (hi:i<10) (hx:x.size≤100000) (hd:0≤d∧d≤15):CZ x leaf (i:Int) 0 d=some (SY leaf (i:Int) d.toNat 0 x):=by
 obtain ⟨n,rfl⟩:∃ n:Nat,d=(n:Int):=⟨d.toNat,by omega⟩
 rw [Int.toNat_natCast]
 exact QAB (f:=0) (n:=n) hl (by omega) (by omega) (by omega) hx
theorem WAJ {keys:List ByteArray} {leaf:Int} {s:ByteArray} (hk:keys.length=10) (hl:0≤leaf∧leaf≤255) (hs:∀ x ∈ keys,x.size≤100000) (hm:s.size≤1000000000):Yj keys leaf s=some (ZY keys leaf (UZ s) 10):=by
 obtain ⟨d1,d2⟩:=TAJ s
 have hdig:=UAJ hm
 generalize UZ s=D at d1 d2 hdig
 have key:∀ (j i m:Nat),i+j=10→Qe (m+j+1) (.c0 leaf keys ((keys.length:Nat):Int) (i:Int) D (ZY keys leaf D i))=some (ZY keys leaf D 10):=by
  intro j
  induction j with
  | zero=>
   intro i m hi
   obtain rfl:i=10:=by omega
   rw [Qe];simp only [Yp]
   rw [hk,cond_f (by rfl)]
  | succ j ih=>
   intro i m hi
   have hlt:i<keys.length:=by omega
   have hlt2:i<D.length:=by omega
   have hw:w64 ((i:Int)+1)=((i+1:Nat):Int):=by rw [w64_id (by omega) (by omega)];rfl
   have hd:=d2 _ (List.getElem_mem hlt2)
   have ho:(ZY keys leaf D i).length=i:=by rw [ZY,List.length_map,List.length_range]
   have hstep:ZY keys leaf D i++[SY leaf (i:Int) D[i].toNat 0 keys[i]]=ZY keys leaf D (i+1):=by
    rw [ZY,ZY,List.range_succ,List.map_append,List.map_cons,List.map_nil,getD_at hlt,getD_at hlt2]
   have hch:=VAJ hl (show i<10 by omega) (hs _ (List.getElem_mem hlt)) hd
   rw [show m+(j+1)+1=(m+j+1)+1 from rfl,Qe]
   simp only [Yp,hw,Int.toNat_natCast,getD_at hlt,getD_at hlt2]
   rw [cond_t (by rw [decide_eq_true_eq];omega),cond_t (by rw [Bool.and_eq_true,decide_eq_true_eq,decide_eq_true_eq];omega),cond_t (by rw [Bool.and_eq_true,decide_eq_true_eq,decide_eq_true_eq];omega),hch,Option.bind_some,ho,cond_t (by rw [decide_eq_true_eq];omega)]
   show Qe (m+j+1) (.c0 leaf keys ((keys.length:Nat):Int) ((i+1:Nat):Int) D (ZY keys leaf D i++[SY leaf (i:Int) D[i].toNat 0 keys[i]]))=_
   rw [hstep]
   exact ih (i+1) m (by omega)
 obtain ⟨m,hm2⟩:∃ m,gas=m+10+1:=⟨gas - 11,by have:=gas_lt (n:=11) (by omega);omega⟩
 rw [Yj,Yx,cond_f (by rw [hk];rfl),hdig,Option.bind_some,hm2]
 exact key 10 0 m rfl
def Yk (a b c d:ByteArray) (leaf:Int):List ByteArray:=
 if leaf=0 then [b,BZ 1 1 c d] else if leaf=1 then [a,BZ 1 1 c d] else if leaf=2 then [d,BZ 1 0 a b] else [c,BZ 1 0 a b]
theorem Jq {a b c d:ByteArray} {m:Nat} {leaf sib up:Int} (ha:a.size≤100000) (hb:b.size≤100000) (hc:c.size≤100000) (hd:d.size≤100000) (hs:w64 (((BitVec.toNat ((BitVec.ofInt (IntKind.bits IntKind.i64) leaf) ^^^ (BitVec.ofInt (IntKind.bits IntKind.i64) 1))):Nat):Int)=sib) (h0:0≤sib∧sib<4) (hu:w64 (leaf.tdiv 2)=up) :
  Eb (m+1) (.c0 [a,b,c,d] leaf 1 [])=Eb m (.c1 up 2 [BZ 1 0 a b,BZ 1 1 c d] [[a,b,c,d].getD sib.toNat ⟨#[]⟩]):=by
 rw [Eb]
 simp only [Ak,hs,hu]
 rw [cond_t (by rfl),cond_t (by rw [Bool.and_eq_true,decide_eq_true_eq,decide_eq_true_eq];exact h0),cond_t (by rfl),UAB (by omega) ha hb hc hd,Option.bind_some,show w64 (1+1)=2 by rw [w64_id (by omega) (by omega)];rfl];rfl
theorem Kq {a b x:ByteArray} {m:Nat} {leaf sib:Int} (ha:a.size≤100000) (hb:b.size≤100000) (hs:w64 (((BitVec.toNat ((BitVec.ofInt (IntKind.bits IntKind.i64) leaf) ^^^ (BitVec.ofInt (IntKind.bits IntKind.i64) 1))):Nat):Int)=sib) (h0:0≤sib∧sib<2) :
  Eb (m+1+1) (.c1 leaf 2 [a,b] [x])=some [x,[a,b].getD sib.toNat ⟨#[]⟩]:=by
 rw [Eb]
 simp only [Ak,hs]
 rw [cond_t (by rfl),cond_t (by rw [Bool.and_eq_true,decide_eq_true_eq,decide_eq_true_eq];exact h0),cond_t (by rfl),VAB (by omega) ha hb,Option.bind_some,Eb]
 simp only [Ak]
 rw [cond_f (by rfl)];rfl
theorem XAJ {a b c d:ByteArray} {leaf:Int} (hl:0≤leaf∧leaf≤3) (ha:a.size≤100000) (hb:b.size≤100000) (hc:c.size≤100000) (hd:d.size≤100000):Ik [a,b,c,d] leaf=some (Yk a b c d leaf):=by
 obtain ⟨m,hm⟩:∃ m,gas=m+1+1+1:=⟨gas - 3,rfl⟩
 have n1:=Ze 1 0 a b
 have n2:=Ze 1 1 c d
 rw [Ik,Dy,cond_f (by rfl),p_impl_in,Option.bind_some,inR_iff.2 hl,Bool.not_true,cond_false,hm]
 have h4:leaf=0∨leaf=1∨leaf=2∨leaf=3:=by omega
 rcases h4 with rfl | rfl | rfl | rfl
 ·rw [Jq (sib:=1) (up:=0) ha hb hc hd (by decide) (by omega) (by decide),Kq (sib:=1) (by omega) (by omega) (by decide) (by omega)];rfl
 ·rw [Jq (sib:=0) (up:=0) ha hb hc hd (by decide) (by omega) (by decide),Kq (sib:=1) (by omega) (by omega) (by decide) (by omega)];rfl
 ·rw [Jq (sib:=3) (up:=1) ha hb hc hd (by decide) (by omega) (by decide),Kq (sib:=0) (by omega) (by omega) (by decide) (by omega)];rfl
 ·rw [Jq (sib:=2) (up:=1) ha hb hc hd (by decide) (by omega) (by decide),Kq (sib:=0) (by omega) (by omega) (by decide) (by omega)];rfl
theorem YAJ {a b c d:ByteArray} {leaf:Int} (ha:a.size=4) (hb:b.size=4) (hc:c.size=4) (hd:d.size=4):(Yk a b c d leaf).length=2∧∀ x ∈ Yk a b c d leaf,x.size=4:=by
 unfold Yk
 repeat' split
 all_goals
  refine ⟨rfl,fun x hx=>?_⟩
  rw [List.mem_cons,List.mem_singleton] at hx
  rcases hx with rfl | rfl
  ·assumption
  ·exact Ze _ _ _ _
def Nq (s:ByteArray) (leaf:Int) (m:ByteArray):SSig:=⟨leaf,ZY (VY s leaf 10) leaf (UZ m) 10,Yk (FZ s 0) (FZ s 1) (FZ s 2) (FZ s 3) leaf⟩
theorem AAC {s m:ByteArray} {leaf:Int} (hl:0≤leaf∧leaf≤3) (hs:s.size≤100000) (hm:m.size≤1000000000):Jc s leaf m=some (Nq s leaf m,true):=by
 rw [Jc,Gy,p_impl_in,Option.bind_some,inR_iff.2 hl,Bool.not_true,cond_false,PAB (by omega) hs,Option.bind_some,WAJ (Oz _ _ _) (by omega) (fun x hx=>by rw [Pz x hx];omega) hm,Option.bind_some,TAB hs,Option.bind_some,XAB,XAJ hl (by rw [KZ];omega) (by rw [KZ];omega) (by rw [KZ];omega) (by rw [KZ];omega)];rfl
structure Af (s:SSig):Prop where
 leaf:0≤s.fLeaf∧s.fLeaf≤3
 once:s.fOnce.length=10∧∀ x ∈ s.fOnce,x.size=4
 path:s.fPath.length=2∧∀ x ∈ s.fPath,x.size=4
theorem ZAJ {keys:List ByteArray} {leaf:Int} {ds:List Int} {n:Nat} (hk:keys.length=n) (h:∀ x ∈ keys,x.size=4):(ZY keys leaf ds n).length=n∧∀ x ∈ ZY keys leaf ds n,x.size=4:=by
 refine ⟨by rw [ZY,List.length_map,List.length_range],fun x hx=>?_⟩
 rw [ZY,List.mem_map] at hx
 obtain ⟨c,hc,rfl⟩:=hx
 have hlt:c<keys.length:=by rw [hk];exact List.mem_range.1 hc
 rw [getD_at hlt]
 exact IAJ _ _ _ (h _ (List.getElem_mem hlt))
theorem BAC {s m:ByteArray} {leaf:Int} (hl:0≤leaf∧leaf≤3):Af (Nq s leaf m):=⟨hl,ZAJ (Oz _ _ _) Pz,YAJ (KZ _ _) (KZ _ _) (KZ _ _) (KZ _ _)⟩
theorem CAC {l:List ByteArray} {n:Nat} (h:l.length=n) (hs:∀ x ∈ l,x.size=4) (hn:n≤1000):Lc l (n:Int)=some true:=by
 have key:∀ (j i m:Nat),i+j=l.length→Qk (m+j+1) (.c0 l (n:Int) l ((l.length:Nat):Int) (i:Int))=some true:=by
  intro j
  induction j with
  | zero=>
   intro i m hi
   rw [Qk];simp only [Zp]
   rw [cond_f (by rw [decide_eq_false_iff_not];omega),h,beq_self_eq_true]
  | succ j ih=>
   intro i m hi
   have hlt:i<l.length:=by omega
   have hw:w64 ((i:Int)+1)=((i+1:Nat):Int):=by rw [w64_id (by omega) (by omega)];rfl
   rw [show m+(j+1)+1=(m+j+1)+1 from rfl,Qk]
   simp only [Zp,hw,Int.toNat_natCast,getD_at hlt,hs _ (List.getElem_mem hlt)]
   rw [cond_t (by rw [decide_eq_true_eq];omega),cond_t (by rw [Bool.and_eq_true,decide_eq_true_eq,decide_eq_true_eq];omega),cond_f (by rfl)]
   exact ih (i+1) m (by omega)
 obtain ⟨m,hm⟩:∃ m,gas=m+l.length+1:=⟨gas - (l.length+1),by have:=gas_lt (n:=l.length+1) (by omega);omega⟩
 rw [Lc,Ky,hm]
 exact key l.length 0 m (Nat.zero_add _)
theorem AAK {s:SSig} (h:Af s):Mc s=some true:=by
 rw [Mc,Ny,p_impl_in,Option.bind_some,inR_iff.2 h.leaf,cond_true]
 have h1:=CAC h.once.1 h.once.2 (by omega)
 have h2:=CAC h.path.1 h.path.2 (by omega)
 rw [show Lc s.fOnce 10=_ from h1,Option.bind_some,cond_true,show Lc s.fPath 2=_ from h2];rfl
def Nc (s:SSig):ByteArray:=b1 s.fLeaf++FN s.fOnce++FN s.fPath
theorem DAC {s:SSig} (h:Af s):(Nc s).size=49:=by
 rw [Nc,ByteArray.size_append,ByteArray.size_append,IK,Xe h.once.2,Xe h.path.2,h.once.1,h.path.1]
theorem EAC {s:SSig} (h:Af s):Uk s=some (Nc s,true):=by
 obtain ⟨l1,s1⟩:=h.once
 obtain ⟨l2,s2⟩:=h.path
 have pre:∀ {l:List ByteArray} {i:Nat} (hlt:i<l.length),FN (l.take i)++l[i]=FN (l.take (i+1)):=fun {l i} hlt=>by
  rw [take_at hlt,OAB,FN,FN,Hq]
 have psz:∀ {l:List ByteArray} (i:Nat),(∀ x ∈ l,x.size=4)→l.length≤10→(FN (l.take i)).size≤40:=fun {l} i hs hl=>by
  rw [Xe (fun x hx=>hs x (List.mem_of_mem_take hx)),List.length_take];omega
 have hO:=Xe s1
 have loop2:∀ (j i m:Nat),i+j=s.fPath.length→Fb (m+j+1) (.c1 (b1 s.fLeaf++FN s.fOnce++FN (s.fPath.take i)) s.fPath ((s.fPath.length:Nat):Int) (i:Int))=some (Nc s,true):=by
  intro j
  induction j with
  | zero=>
   intro i m hi
   rw [Fb];simp only [Ue]
   rw [cond_f (by rw [decide_eq_false_iff_not];omega),List.take_of_length_le (by omega)];rfl
  | succ j ih=>
   intro i m hi
   have hlt:i<s.fPath.length:=by omega
   have hw:w64 ((i:Int)+1)=((i+1:Nat):Int):=by rw [w64_id (by omega) (by omega)];rfl
   have hz:=psz i s2 (by omega)
   rw [show m+(j+1)+1=(m+j+1)+1 from rfl,Fb]
   simp only [Ue,hw,Int.toNat_natCast,getD_at hlt]
   rw [cond_t (by rw [decide_eq_true_eq];omega),cond_t (by rw [Bool.and_eq_true,decide_eq_true_eq,decide_eq_true_eq];omega),cond_t (by rw [decide_eq_true_eq,ByteArray.size_append,ByteArray.size_append,IK,s2 _ (List.getElem_mem hlt)];omega),Nz (b1 s.fLeaf++FN s.fOnce),pre hlt]
   exact ih (i+1) m (by omega)
 have loop1:∀ (j i m:Nat),i+j=s.fOnce.length→Fb (m+3+j+1) (.c0 (b1 s.fLeaf++FN (s.fOnce.take i)) s.fOnce ((s.fOnce.length:Nat):Int) (i:Int) s)=some (Nc s,true):=by
  intro j
  induction j with
  | zero=>
   intro i m hi
   rw [Fb];simp only [Ue]
   rw [cond_f (by rw [decide_eq_false_iff_not];omega),List.take_of_length_le (by omega)]
   have h0:=loop2 s.fPath.length 0 m (Nat.zero_add _)
   rw [List.take_zero,FN,Hq,l2] at h0
   rw [l2];exact h0
  | succ j ih=>
   intro i m hi
   have hlt:i<s.fOnce.length:=by omega
   have hw:w64 ((i:Int)+1)=((i+1:Nat):Int):=by rw [w64_id (by omega) (by omega)];rfl
   have hz:=psz i s1 (by omega)
   rw [show m+3+(j+1)+1=(m+3+j+1)+1 from rfl,Fb]
   simp only [Ue,hw,Int.toNat_natCast,getD_at hlt]
   rw [cond_t (by rw [decide_eq_true_eq];omega),cond_t (by rw [Bool.and_eq_true,decide_eq_true_eq,decide_eq_true_eq];omega),cond_t (by rw [decide_eq_true_eq,ByteArray.size_append,IK,s1 _ (List.getElem_mem hlt)];omega),Nz (b1 s.fLeaf),pre hlt]
   exact ih (i+1) m (by omega)
 obtain ⟨m,hm⟩:∃ m,gas=m+3+s.fOnce.length+1:=⟨gas - (3+s.fOnce.length+1),by have:=gas_lt (n:=3+s.fOnce.length+1) (by omega);omega⟩
 rw [Uk,Py,AAK h,Option.bind_some,Bool.not_true,cond_false,p_impl_oneByte h.leaf.1 (by have:=h.leaf.2;omega),Option.bind_some,hm]
 have h0:=loop1 s.fOnce.length 0 m (Nat.zero_add _)
 rw [List.take_zero,FN,Hq] at h0
 exact h0
def Tz:ByteArray:=⟨#[108]⟩
def Oq:ByteArray:=⟨#[116]⟩
def Oc (s:ByteArray) (i:Int):ByteArray:=s++b1 (i / 4)++Tz
def Qc (s:ByteArray) (i:Int) (m:ByteArray):SHyper:=⟨Nq (s++Oq) (i / 4) (Iq (Oc s i)),Iq (Oc s i),Nq (Oc s i) (i % 4) m⟩
theorem BAK {s m:ByteArray} {i:Int} (hi:0≤i∧i≤15) (hs:s.size≤90000) (hm:m.size≤1000000000):Jk s i m=some (Qc s i m,true):=by
 have hL:Tz.size=1:=rfl
 have hT:Oq.size=1:=rfl
 have hlow:(Oc s i).size=s.size+2:=by rw [Oc,ByteArray.size_append,ByteArray.size_append,IK,hL]
 have e1:w64 (i.tdiv 4)=i / 4:=by rw [Int.tdiv_eq_ediv_of_nonneg hi.1,w64_id (by omega) (by omega)]
 have e2:i.tmod 4=i % 4:=Int.tmod_eq_emod_of_nonneg hi.1
 rw [Jk,Iy,p_impl_in,Option.bind_some,inR_iff.2 hi,Bool.not_true,cond_false,e1,e2,p_impl_oneByte (by omega) (by omega),Option.bind_some]
 show (bif decide (s.size+(b1 (i / 4)).size≤_) then _ else _)=_
 rw [cond_t (by rw [decide_eq_true_eq,IK];omega)]
 show (bif decide ((s++b1 (i / 4)).size+Tz.size≤_) then (Me (Oc s i)).bind (fun r2=>(Jc (Oc s i) (i % 4) m).bind fun r3=>bif decide (s.size+Oq.size≤9223372036854775807) then (Jc (s++Oq) (i / 4) r2).bind fun r4=>some ((⟨r4.1,r2,r3.1⟩:SHyper),true) else none) else none)=_
 rw [cond_t (by rw [decide_eq_true_eq,ByteArray.size_append,IK,hL];omega),OAJ (by omega),Option.bind_some,AAC (by omega) (by omega) hm,Option.bind_some,cond_t (by rw [decide_eq_true_eq,hT];omega),AAC (by omega) (by rw [ByteArray.size_append,hT];omega) (by rw [YAB];omega)];rfl
def FAC (h:SHyper):ByteArray:=Nc h.fTop++h.fRoot++Nc h.fLow
theorem CAK {s m:ByteArray} {i:Int} (hi:0≤i∧i≤15):Vk (Qc s i m)=some (FAC (Qc s i m),true):=by
 have h1:Af (Qc s i m).fTop:=BAC (by omega)
 have h2:Af (Qc s i m).fLow:=BAC (by omega)
 have h3:(Qc s i m).fRoot.size=4:=YAB _
 have z1:=DAC h1
 have z2:=DAC h2
 rw [Vk,Ry,EAC h1,Option.bind_some,EAC h2,Option.bind_some]
 dsimp only
 rw [Bool.not_true,cond_false,cond_false,cond_f (by rw [h3];rfl),cond_t (by rw [decide_eq_true_eq];omega),cond_t (by rw [decide_eq_true_eq,ByteArray.size_append];omega)];rfl
def Bf (l:List Int):List Int:=(varL (l.length:Int)++l)++List.replicate ((16 - (varL (l.length:Int)++l).length % 16) % 16) 0
theorem OAL {l:List Int} (h:Byt l):Byt (Bf l):=by
 intro x hx
 simp only [Bf,List.mem_append,List.mem_replicate] at hx
 rcases hx with (hx | hx) | hx
 ·exact varL_byt (by omega) x hx
 ·exact h x hx
 ·omega
theorem PAL {l:List Int} (h:l.length≤1000000000):(Bf l).length≤l.length+25∧(Bf l).length % 16=0:=by
 have h1:=varL_len10 (n:=(l.length:Int)) (by omega)
 unfold Bf
 simp only [List.length_append,List.length_replicate]
 omega
def QAL (k s:ByteArray):ByteArray×Bool:=bif decide ((s.size:Int) > 400) then (⟨#[]⟩,false) else lockT k 0 (ofBytes (Bf (bs s)))
def frs:List ByteArray→List Int
 | []=>[]
 | t::ts=>frameL (bs t)++frs ts
def whole:List ByteArray→Nat→Nat
 | [],_=>0
 | t::ts,K=>if (frameL (bs t)).length≤K then whole ts (K - (frameL (bs t)).length)+1 else 0
theorem frameL_len (l:List Int):(frameL l).length=(varL (l.length:Int)).length+4+l.length:=by
 have h4:(four (sumL l)).length=4:=rfl
 rw [frameL,List.length_append,List.length_append,h4];omega
theorem frs_byt:∀ ts:List ByteArray,Byt (frs ts)
 | []=>fun n hn=>by cases hn
 | t::ts=>fun n hn=>by
  rcases List.mem_append.1 hn with hn | hn
  ·exact frameL_byt (byt_bs t) n hn
  ·exact frs_byt ts n hn
theorem frs_app (ts us:List ByteArray):frs (ts++us)=frs ts++frs us:=by
 induction ts with
 | nil=>rfl
 | cons t ts ih=>rw [List.cons_append,frs,frs,ih,List.append_assoc]
theorem whole_le (ts:List ByteArray):∀ K,whole ts K≤K∧whole ts K≤ts.length∧(frs (ts.take (whole ts K))).length≤K:=by
 induction ts with
 | nil=>intro K;exact ⟨Nat.zero_le _,Nat.zero_le _,Nat.zero_le _⟩
 | cons t ts ih=>
  intro K
  rw [whole]
  split
  ·rename_i h
   obtain ⟨i1,i2,i3⟩:=ih (K - (frameL (bs t)).length)
   have:=frameL_len (bs t)
   rw [List.take_succ_cons,frs,List.length_append,List.length_cons]
   omega
  ·exact ⟨Nat.zero_le _,Nat.zero_le _,Nat.zero_le _⟩
theorem whole_all (ts:List ByteArray):∀ K,(frs ts).length≤K→whole ts K=ts.length:=by
 induction ts with
 | nil=>intro K _;rfl
 | cons t ts ih=>
  intro K h
  rw [frs,List.length_append] at h
  rw [whole,if_pos (by omega),ih _ (by omega),List.length_cons]
theorem next_whole {file l:ByteArray} {a:Nat} (hs:file.size≤140737488351232) (h1:1≤l.size) (h2:l.size≤9000) (hA:At file a (frameL (bs l))):nextF file a=some (l,a+(frameL (bs l)).length):=by
 have hA':At file a (varL (l.size:Int)++(four (sumL (bs l))++bs l)):=by rw [frameL,bs_len] at hA;exact hA
 have e1:=rdVar_is hs (by omega) (by omega) hA'.left
 have hB:=hA'.right
 have hC:=hB.right
 have h4:(four (sumL (bs l))).length=4:=rfl
 have hx4:=hB.left.extract (four_byt (sumL_r (bs l)))
 have hxl:=hC.extract (byt_bs l)
 rw [h4] at hx4 hxl hC
 rw [bs_len,ofBytes_bs] at hxl
 have hz:a+(varL (l.size:Int)).length+4+l.size≤file.size:=by
  rcases hC.size with h | h
  ·have:=congrArg List.length h;rw [bs_len,List.length_nil] at this;omega
  ·rw [bs_len] at h;exact h
 have hlen:=frameL_len (bs l)
 rw [bs_len] at hlen
 rw [nextF,e1,hlen]
 generalize (varL (l.size:Int)).length=n at hx4 hxl hz
 dsimp only
 have t0:((a+n:Nat):Int).toNat=a+n:=Int.toNat_natCast _
 have t1:(((a+n:Nat):Int)+4).toNat=a+n+4:=by omega
 have t2:(((a+n:Nat):Int)+4+(l.size:Int)).toNat=a+n+4+l.size:=by omega
 rw [t0,t1,t2,hx4,hxl,bs_ofBytes (four_byt (sumL_r (bs l))),beq_self_eq_true,inR_iff.2 (show 1≤(l.size:Int)∧(l.size:Int)≤9000 by omega),show decide ((l.size:Int)≤(file.size:Int) - ((a+n:Nat):Int) - 4)=true from decide_eq_true (by omega)]
 show some (l,a+n+4+l.size)=_
 rw [show a+n+4+l.size=a+(n+4+l.size) by omega]
theorem next_part {file l:ByteArray} {a:Nat} {rest:List Int} (hs:file.size≤140737488000000) (ha:a≤file.size) (h2:l.size≤9000) (hr:0<rest.length) (hrb:Byt rest) (hA:(bs file).drop a++rest=frameL (bs l)):nextF file a=none:=by
 rcases nextF_x (file:=file) (a:=a) (by omega) ha with h | ⟨v,q,_,hq,hq2,hv1,hv2,h3,hAv,_,_⟩
 ·exact h
 ·exfalso
  have hl:=frameL_len (bs l)
  rw [bs_len] at hl
  have hv10:=varL_len10 (n:=(l.size:Int)) (by omega)
  have hlen:=congrArg List.length hA
  rw [List.length_append,List.length_drop,bs_len] at hlen
  have hb:bs (file++ofBytes rest)=bs file++rest:=by rw [bs_append,bs_ofBytes hrb]
  have hd:(bs (file++ofBytes rest)).drop a=frameL (bs l):=by rw [hb,List.drop_append_of_le_length (by rw [bs_len];exact ha),hA]
  have hz:(file++ofBytes rest).size=file.size+rest.length:=by rw [ByteArray.size_append,ofBytes_size]
  have e1:=rdVar_is (text:=file++ofBytes rest) (a:=a) (V:=(l.size:Int)) (by omega) (by omega) (by omega) ⟨four (sumL (bs l))++bs l,by rw [hd,frameL,bs_len]⟩
  obtain ⟨x,hx⟩:=hAv
  have e2:=rdVar_is (text:=file++ofBytes rest) (a:=a) (V:=v) (by omega) (by omega) (by omega) ⟨x++rest,by rw [hb,List.drop_append_of_le_length (by rw [bs_len];exact ha),hx,List.append_assoc]⟩
  rw [e1] at e2
  have e3:(l.size:Int)=v:=congrArg Prod.fst e2
  subst e3
  omega
theorem unf_frs {file:ByteArray} (hs:file.size≤140737488000000):∀ (ts:List ByteArray) (K m a:Nat),(∀ t ∈ ts,1≤t.size∧t.size≤9000)→a≤file.size→(bs file).drop a=(frs ts).take K→whole ts K<m→unf m file a=(ts.take (whole ts K),a+(frs (ts.take (whole ts K))).length):=by
 intro ts
 induction ts with
 | nil=>
  intro K m a _ ha hd hm
  obtain ⟨m,rfl⟩:∃ n,m=n+1:=⟨m - 1,by omega⟩
  have hlen:=congrArg List.length hd
  rw [List.length_drop,bs_len,frs,List.take_nil,List.length_nil] at hlen
  rw [unf]
  rcases nextF_x (file:=file) (a:=a) (by omega) ha with h | ⟨v,q,_,hq,_,_,_,h3,_⟩
  ·rw [h];rfl
  ·omega
 | cons t ts ih=>
  intro K m a ht ha hd hm
  obtain ⟨m,rfl⟩:∃ n,m=n+1:=⟨m - 1,by omega⟩
  have ht0:=ht t (List.mem_cons_self ..)
  rw [whole] at hm ⊢
  rw [frs,List.take_append] at hd
  split at hm
  ·rename_i h
   rw [if_pos h]
   rw [List.take_of_length_le h] at hd
   have hA:At file a (frameL (bs t)):=⟨_,hd⟩
   have hz:a+(frameL (bs t)).length≤file.size:=by
    rcases hA.size with h | h
    ·have:=congrArg List.length h;rw [frameL_len,List.length_nil] at this;omega
    ·exact h
   rw [unf,next_whole (by omega) ht0.1 ht0.2 hA]
   have hd2:(bs file).drop (a+(frameL (bs t)).length)=(frs ts).take (K - (frameL (bs t)).length):=by
    rw [←List.drop_drop,hd,List.drop_left]
   dsimp only
   rw [ih _ m _ (fun x hx=>ht x (List.mem_cons_of_mem _ hx)) hz hd2 (by omega),List.take_succ_cons,frs,List.length_append]
   rw [Nat.add_assoc]
  ·rename_i h
   rw [if_neg h]
   rw [show K - (frameL (bs t)).length=0 by omega,List.take_zero,List.append_nil] at hd
   rw [unf,next_part (file:=file) (l:=t) (rest:=(frameL (bs t)).drop K) hs ha ht0.2 (by rw [List.length_drop];omega) (fun n hn=>frameL_byt (byt_bs t) n (List.mem_of_mem_drop hn)) (by rw [hd,List.take_append_drop])]
   rfl
theorem sealL_len (k:List Int) (num:Int) (s:List Int):(sealL k num s).length=s.length+16:=by rw [sealL,List.length_append,xorL_len (by rw [maskL_len];omega),tagL_len]
theorem sealL_byt (k:List Int) (num:Int) (s:List Int):Byt (sealL k num s):=fun x hx=>by
 rcases List.mem_append.1 hx with hx | hx
 ·exact xorL_byt _ _ x hx
 ·exact tagL_byt _ _ _ x hx
theorem lockT_size (k s:ByteArray) (num:Int):(lockT k num s).1.size≤s.size+16:=by
 rw [lockT]
 cases maskOk num s.size
 ·exact Nat.zero_le _
 ·show (ofBytes (sealL (bs k) num (bs s))).size≤_
  rw [ofBytes_size,sealL_len,bs_len];omega
theorem open_lock {k s:ByteArray} {num:Int} (h:(lockT k num s).2=true):openT k num (lockT k num s).1=(s,true)∧(lockT k num s).1.size=s.size+16:=by
 rw [lockT] at h ⊢
 cases hm:maskOk num s.size
 ·rw [hm] at h;cases h
 ·rw [cond_true]
  exact ⟨by show openT k num (ofBytes (sealL (bs k) num (bs s)))=_;rw [open_seal (byt_bs s) (by rw [bs_len];exact hm),ofBytes_bs],by show (ofBytes (sealL (bs k) num (bs s))).size=_;rw [ofBytes_size,sealL_len,bs_len]⟩
theorem lock_open {k t:ByteArray} {num:Int} (h:(openT k num t).2=true):lockT k num (openT k num t).1=(t,true):=by
 obtain ⟨h1,h2,h3,h4,h5⟩:=openT_true h
 have hl:((bs t).take (t.size - 16)).length=t.size - 16:=by rw [List.length_take,bs_len];omega
 have hx:(openT k num t).1.size=t.size - 16:=by rw [←bs_len,h4,xorL_len (by rw [maskL_len];omega),hl]
 rw [lockT,hx,show ((t.size - 16:Nat):Int)=(t.size:Int) - 16 by omega,h2,cond_true,seal_open h,ofBytes_bs]
def tx (k:ByteArray):Int→List SRec→List ByteArray
 | _,[]=>[]
 | i,r::rs=>(lockT k i (recText r).1).1::tx k (i+1) rs
theorem tx_len (k:ByteArray):∀ (l:List SRec) (i:Int),(tx k i l).length=l.length
 | [],_=>rfl
 | r::rs,i=>by rw [tx,List.length_cons,List.length_cons,tx_len k rs]
theorem tx_take (k:ByteArray):∀ (l:List SRec) (i:Int) (w:Nat),(tx k i l).take w=tx k i (l.take w)
 | [],_,w=>by rw [tx,List.take_nil,List.take_nil,tx]
 | r::rs,i,0=>rfl
 | r::rs,i,w+1=>by rw [tx,List.take_succ_cons,List.take_succ_cons,tx,tx_take k rs]
theorem tx_app (k:ByteArray):∀ (l q:List SRec) (i:Int),tx k i (l++q)=tx k i l++tx k (i+l.length) q
 | [],q,i=>by rw [List.nil_append,tx,List.nil_append,List.length_nil];simp
 | r::rs,q,i=>by
  rw [List.cons_append,tx,tx,tx_app k rs,List.length_cons,List.cons_append]
  rw [show i+1+(rs.length:Int)=i+((rs.length+1:Nat):Int) by omega]
def Sound (l:List SRec):Prop:=∀ r ∈ l,(recText r).2=true
theorem tx_size (k:ByteArray):∀ (l:List SRec) (i:Int),0≤i→i+l.length≤1000000000→∀ t ∈ tx k i l,1≤t.size∧t.size≤320
 | [],_,_,_,t,ht=>by cases ht
 | r::rs,i,h0,h1,t,ht=>by
  rw [List.length_cons] at h1
  rw [tx] at ht
  rcases List.mem_cons.1 ht with rfl | ht
  ·have:=(lock_ok (k:=k) (s:=(recText r).1) (num:=i) (by omega) (by have:=recText_size r;omega)).2.2
   have:=recText_size r
   omega
  ·exact tx_size k rs (i+1) (by omega) (by omega) t ht
theorem rdRec_is {r:SRec} (h:(recText r).2=true):rdRec (recText r).1=(r,true):=by
 have:=recText_size r
 have e1:=e_impl_rdRec (t:=(recText r).1) (by omega)
 rw [p_impl_ReadRec_is (text:=(recText r).1) (x:=r) (by omega) (Prod.ext rfl h)] at e1
 exact (Option.some.inj e1).symm
theorem rdBook_tx (k:ByteArray):∀ (l:List SRec) (i:Int),0≤i→i+l.length≤1000000000→Sound l→rdBook k i (tx k i l)=(l,((frs (tx k i l)).length:Int))
 | [],_,_,_,_=>rfl
 | r::rs,i,h0,h1,hs=>by
  rw [List.length_cons] at h1
  have hz:=recText_size r
  obtain ⟨l1,l2,l3⟩:=lock_ok (k:=k) (s:=(recText r).1) (num:=i) (by omega) (by omega)
  obtain ⟨f1,f2⟩:=frame_ok (t:=(lockT k i (recText r).1).1) (by omega)
  rw [tx,rdBook,(open_lock l1).1]
  dsimp only
  rw [rdRec_is (hs r (List.mem_cons_self ..)),rdBook_tx k rs (i+1) (by omega) (by omega) (fun x hx=>hs x (List.mem_cons_of_mem _ hx)),f2,ofBytes_size,frs,List.length_append]
  show (r::rs,_)=_
  refine congrArg (fun n=>(r::rs,n)) ?_
  show ((frameL _).length:Int)+((frs _).length:Int)=_
  omega
theorem frs_small (k:ByteArray) (ts:List ByteArray) (h:∀ t ∈ ts,1≤t.size∧t.size≤320):(frs ts).length≤334*ts.length:=by
 induction ts with
 | nil=>exact Nat.le_refl 0
 | cons t ts ih=>
  have h1:=ih fun x hx=>h x (List.mem_cons_of_mem _ hx)
  have h2:=h t (List.mem_cons_self ..)
  have h3:=frameL_len (bs t)
  rw [bs_len] at h3
  have h4:=varL_len10 (n:=(t.size:Int)) (by omega)
  rw [frs,List.length_append,List.length_cons];omega
theorem readBook_cut {k file:ByteArray} {l:List SRec} {K:Nat} (hl:l.length≤50) (hs:Sound l) (hK:K≤(frs (tx k 1 l)).length) (hf:bs file=(frs (tx k 1 l)).take K):readBook k file=(l.take (whole (tx k 1 l) K),((frs (tx k 1 (l.take (whole (tx k 1 l) K)))).length:Int)):=by
 have hsz:=tx_size k l 1 (by omega) (by omega)
 have hsm:=frs_small k _ hsz
 rw [tx_len] at hsm
 have hlen:file.size=K:=by rw [←bs_len,hf,List.length_take];omega
 obtain ⟨w1,w2,w3⟩:=whole_le (tx k 1 l) K
 have hu:=unf_frs (file:=file) (by omega) (tx k 1 l) K (file.size+1) 0 (fun t ht=>by have:=hsz t ht;omega) (Nat.zero_le _) (by rw [List.drop_zero];exact hf) (by omega)
 rw [readBook,unfT,show decide ((file.size:Int) > 20000)=false from decide_eq_false (by omega),cond_false,hu]
 dsimp only
 rw [tx_take]
 exact rdBook_tx k _ 1 (by omega) (by rw [List.length_take];omega) (fun r hr=>hs r (List.mem_of_mem_take hr))
theorem enterAll_app {l k:List SRec}:∀ {b:SBook},enterAllB b (l++k)=bif (enterAllB b l).2 then enterAllB (enterAllB b l).1 k else (zBook,false):=by
 induction l with
 | nil=>intro b;rfl
 | cons r rs ih=>
  intro b
  rw [List.cons_append,enterAllB,enterAllB,ih]
  cases (enterB b r).2 <;> rfl
theorem enterAll_take {b:SBook} {l:List SRec} (w:Nat) (h:(enterAllB b l).2=true):(enterAllB b (l.take w)).2=true:=by
 have e:=enterAll_app (b:=b) (l:=l.take w) (k:=l.drop w)
 rw [List.take_append_drop] at e
 cases hc:(enterAllB b (l.take w)).2
 ·rw [e,hc] at h;cases h
 ·rfl
theorem enterAll_count {l:List SRec}:∀ {b:SBook},(enterAllB b l).2=true→(enterAllB b l).1.fCount=b.fCount+(l.length:Int):=by
 induction l with
 | nil=>intro b _;show b.fCount=b.fCount+0;omega
 | cons r rs ih=>
  intro b h
  rw [enterAllB] at h ⊢
  cases h2:(enterB b r).2
  ·rw [h2] at h;cases h
  ·rw [h2,cond_true] at h
   rw [cond_true,ih h,(enterB_ok h2).2.2.2.2.1,List.length_cons];omega
def Drawn (l:List SRec) (b:SBook):Prop:=enterAllB bookNew l=(b,true)∧bookOk b=true∧(∀ x ∈ l,x.fNum≤9223372036854775807)
theorem drawn_new:Drawn [] bookNew:=⟨rfl,bookNew_ok,fun x hx=>by cases hx⟩
theorem drawn_more {l:List SRec} {b:SBook} {r:SRec} (h:Drawn l b) (hr:r.fNum≤9223372036854775807) (he:(enterB b r).2=true):Drawn (l++[r]) (enterB b r).1:=by
 refine ⟨?_,(enterB_ok he).2.2.2.1,fun x hx=>?_⟩
 ·rw [enterAll_app,h.1,cond_true,enterAllB,he];rfl
 ·rcases List.mem_append.1 hx with hx | hx
  ·exact h.2.2 x hx
  ·rw [List.mem_singleton] at hx;rw [hx];exact hr
theorem book_ids {b:SBook} (h:bookOk b=true):∀ x ∈ b.fThings,x.fId≤1000:=fun x hx=>by
 obtain ⟨_,_,_,_,h5,_,h7⟩:=bookOk_iff.1 h
 have:=rise_all h7 x hx
 omega
def dk (F:ByteArray) (n:Int):SDisk:=⟨[⟨nBook,F,n⟩]⟩
theorem nil_app (G:ByteArray):(⟨#[]⟩:ByteArray)++G=G:=bs_inj (by rw [bs_append,bs_nil,List.nil_append])
theorem nb_ne:(nBook.toList == nNew.toList)=false:=by
 rw [toList_inj]
 exact decide_eq_false fun h=>absurd (congrArg ByteArray.size h) (by decide)
theorem less_nb:Op.bytesLess nBook.toList nNew.toList=true:=by rw [ByteArray.toList_eq,ByteArray.toList_eq];rfl
theorem place0 {f:SFile} {fs:List SFile} {n:ByteArray} {i:Nat} (h:(f.fName.toList == n.toList)=true):placeF (f::fs) n i=some i:=by rw [placeF,if_pos h]
theorem place1 {f:SFile} {fs:List SFile} {n:ByteArray} {i:Nat} (h:(f.fName.toList == n.toList)=false):placeF (f::fs) n i=placeF fs n (i+1):=by rw [placeF,h];rfl
theorem fOk1 {N F:ByteArray} {n:Int} (hN:1≤N.size∧N.size≤8) (h:0≤n∧n≤(F.size:Int)) (hF:F.size≤20000):fOk ⟨N,F,n⟩=true:=fOk_iff.2 ⟨⟨by show 1≤(N.size:Int);omega,by show (N.size:Int)≤8;omega⟩,by show (F.size:Int)≤20000;omega,h.1,h.2⟩
theorem diskOk1 {F:ByteArray} {n:Int} (h:0≤n∧n≤(F.size:Int)) (hF:F.size≤20000):diskOk (dk F n)=true:=by
 rw [dk,diskOk,dRise,dRise,fOk1 (by decide) h hF,less_nil (s:=nBook) (by decide)];rfl
theorem diskOk2 {F G:ByteArray} {n m:Int} (h:0≤n∧n≤(F.size:Int)) (hF:F.size≤20000) (h2:0≤m∧m≤(G.size:Int)) (hG:G.size≤20000):diskOk ⟨[⟨nBook,F,n⟩,⟨nNew,G,m⟩]⟩=true:=by
 rw [diskOk,dRise,dRise,dRise,fOk1 (by decide) h hF,fOk1 (by decide) h2 hG,less_nil (s:=nBook) (by decide),less_nb];rfl
theorem put1 (F F':ByteArray) (n n':Int):putL [⟨nBook,F,n⟩] ⟨nBook,F',n'⟩=[⟨nBook,F',n'⟩]:=by
 simp [putL,lowL,highL,less_irr]
theorem put2 (F G:ByteArray) (n m:Int):putL [⟨nBook,F,n⟩] ⟨nNew,G,m⟩=[⟨nBook,F,n⟩,⟨nNew,G,m⟩]:=by
 simp [putL,lowL,highL,less_nb]
theorem put3 (F G G':ByteArray) (n m m':Int):putL [⟨nBook,F,n⟩,⟨nNew,G,m⟩] ⟨nNew,G',m'⟩=[⟨nBook,F,n⟩,⟨nNew,G',m'⟩]:=by
 simp [putL,lowL,highL,less_nb,less_irr]
theorem out2 (F G:ByteArray) (n m:Int):outL [⟨nBook,F,n⟩,⟨nNew,G,m⟩] nNew=[⟨nBook,F,n⟩]:=by
 simp [outL,nb_ne]
theorem done_ok {l:List SFile} (h:diskOk ⟨l⟩=true):doneD l=(⟨l⟩,true):=by rw [doneD,h];rfl
theorem act_new {T:ByteArray} (hT:T.size≤20000):actT ⟨[]⟩ ⟨1,nBook,T,⟨#[]⟩⟩=(dk T 0,true):=by
 simp only [actT,show diskOk ⟨[]⟩=true from rfl,toList_self,Bool.or_true,beq_self_eq_true,Bool.true_or,Bool.and_self,cond_true,placeF,nil_app]
 rw [show putL [] (⟨nBook,T,0⟩:SFile)=[⟨nBook,T,0⟩] from rfl,done_ok (diskOk1 (by omega) hT)];rfl
theorem act_add {F T:ByteArray} {n:Int} (h:0≤n∧n≤(F.size:Int)) (hF:(F++T).size≤20000):actT (dk F n) ⟨1,nBook,T,⟨#[]⟩⟩=(dk (F++T) n,true):=by
 have hz:(F++T).size=F.size+T.size:=ByteArray.size_append
 have hp:placeF (dk F n).fFiles nBook 0=some 0:=place0 (toList_self _)
 simp only [actT,diskOk1 h (show F.size≤20000 by omega),toList_self,Bool.or_true,beq_self_eq_true,Bool.true_or,Bool.and_self,cond_true,hp]
 show doneD (putL [⟨nBook,F,n⟩] ⟨nBook,F++T,n⟩)=_
 rw [put1,done_ok (diskOk1 (by omega) hF)];rfl
theorem act_keep {F:ByteArray} {n:Int} (h:0≤n∧n≤(F.size:Int)) (hF:F.size≤20000):actT (dk F n) ⟨2,nBook,⟨#[]⟩,⟨#[]⟩⟩=(dk F F.size,true):=by
 have hp:placeF (dk F n).fFiles nBook 0=some 0:=place0 (toList_self _)
 simp only [actT,diskOk1 h hF,toList_self,Bool.or_true,beq_self_eq_true,Bool.true_or,Bool.and_self,cond_true,hp]
 show doneD (putL [⟨nBook,F,n⟩] ⟨nBook,F,(F.size:Int)⟩)=_
 rw [put1,done_ok (diskOk1 (by omega) hF)];rfl
def bookDo (T:ByteArray):List SAct:=[⟨1,nBook,T,⟨#[]⟩⟩,⟨2,nBook,⟨#[]⟩,⟨#[]⟩⟩]
theorem do_new {T:ByteArray} (hT:T.size≤20000):actsT ⟨[]⟩ (bookDo T) 0=(dk T T.size,2):=by
 rw [bookDo,actsT,act_new hT,actsT,act_keep (by omega) hT];rfl
theorem do_add {F T:ByteArray} {n:Int} (h:0≤n∧n≤(F.size:Int)) (hF:(F++T).size≤20000):actsT (dk F n) (bookDo T) 0=(dk (F++T) (F++T).size,2):=by
 have hz:(F++T).size=F.size+T.size:=ByteArray.size_append
 rw [bookDo,actsT,act_add h hF,actsT,act_keep (by omega) hF];rfl
def mendDo (G:ByteArray):List SAct:=[⟨1,nNew,G,⟨#[]⟩⟩,⟨2,nNew,⟨#[]⟩,⟨#[]⟩⟩,⟨3,nNew,⟨#[]⟩,nBook⟩]
theorem mend1 {F G:ByteArray} {n:Int} (h:0≤n∧n≤(F.size:Int)) (hF:F.size≤20000) (hG:G.size≤20000):actT (dk F n) ⟨1,nNew,G,⟨#[]⟩⟩=(⟨[⟨nBook,F,n⟩,⟨nNew,G,0⟩]⟩,true):=by
 have hp:placeF (dk F n).fFiles nNew 0=none:=place1 nb_ne
 simp only [actT,diskOk1 h hF,toList_self,Bool.or_true,beq_self_eq_true,Bool.true_or,Bool.and_self,cond_true,hp,nil_app]
 show doneD (putL [⟨nBook,F,n⟩] ⟨nNew,G,0⟩)=_
 rw [put2,done_ok (diskOk2 h hF (by omega) hG)]
theorem mend2 {F G:ByteArray} {n:Int} (h:0≤n∧n≤(F.size:Int)) (hF:F.size≤20000) (hG:G.size≤20000):actT ⟨[⟨nBook,F,n⟩,⟨nNew,G,0⟩]⟩ ⟨2,nNew,⟨#[]⟩,⟨#[]⟩⟩=(⟨[⟨nBook,F,n⟩,⟨nNew,G,(G.size:Int)⟩]⟩,true):=by
 have hp:placeF [(⟨nBook,F,n⟩:SFile),⟨nNew,G,0⟩] nNew 0=some 1:=by rw [place1 nb_ne,place0 (toList_self _)]
 simp only [actT,diskOk2 h hF (m:=0) (G:=G) (by omega) hG,toList_self,Bool.or_true,beq_self_eq_true,Bool.true_or,Bool.and_self,cond_true,hp]
 show doneD (putL [⟨nBook,F,n⟩,⟨nNew,G,0⟩] ⟨nNew,G,(G.size:Int)⟩)=_
 rw [put3,done_ok (diskOk2 h hF (by omega) hG)]
theorem mend3 {F G:ByteArray} {n:Int} (h:0≤n∧n≤(F.size:Int)) (hF:F.size≤20000) (hG:G.size≤20000):actT ⟨[⟨nBook,F,n⟩,⟨nNew,G,(G.size:Int)⟩]⟩ ⟨3,nNew,⟨#[]⟩,nBook⟩=(dk G G.size,true):=by
 have hp:placeF [(⟨nBook,F,n⟩:SFile),⟨nNew,G,(G.size:Int)⟩] nNew 0=some 1:=by rw [place1 nb_ne,place0 (toList_self _)]
 simp only [actT,diskOk2 h hF (m:=(G.size:Int)) (G:=G) (by omega) hG,toList_self,Bool.or_true,beq_self_eq_true,Bool.true_or,Bool.and_self,cond_true,hp]
 show (bif decide ((G.size:Int)<(G.size:Int)) || (nBook.toList == nNew.toList) then _ else doneD (putL (outL [⟨nBook,F,n⟩,⟨nNew,G,(G.size:Int)⟩] nNew) ⟨nBook,G,(G.size:Int)⟩))=_
 rw [decide_eq_false (by omega),nb_ne,Bool.or_self,cond_false,out2,put1,done_ok (diskOk1 (by omega) hG)];rfl
theorem do_mend {F G:ByteArray} {n:Int} (h:0≤n∧n≤(F.size:Int)) (hF:F.size≤20000) (hG:G.size≤20000):actsT (dk F n) (mendDo G) 0=(dk G G.size,3):=by
 rw [mendDo,actsT,mend1 h hF hG,cond_true,actsT,mend2 h hF hG,cond_true,actsT,mend3 h hF hG];rfl
theorem file_dk (F:ByteArray) (n:Int):fileT (dk F n) nBook=(F,true):=by
 rw [fileT,show placeF (dk F n).fFiles nBook 0=some 0 from place0 (toList_self _)];rfl
theorem at_dk (F:ByteArray) (n:Int):atF (dk F n) nNew = -1:=by
 rw [atF,show placeF (dk F n).fFiles nNew 0=none from place1 nb_ne]
theorem mount_dk {k F:ByteArray} {l:List SRec} {n:Int} {K:Nat} (hl:l.length≤50) (hs:Sound l) (he:(enterAllB bookNew l).2=true) (hK:K≤(frs (tx k 1 l)).length) (hf:bs F=(frs (tx k 1 l)).take K) (hn:0≤n∧n≤(F.size:Int)) (hF:F.size≤20000) :
  mountT k (dk F n)=((enterAllB bookNew (l.take (whole (tx k 1 l) K))).1,bif ((frs (tx k 1 (l.take (whole (tx k 1 l) K)))).length:Int) == (F.size:Int) then [] else mendDo (F.extract 0 (frs (tx k 1 (l.take (whole (tx k 1 l) K)))).length),true):=by
 rw [mountT,diskOk1 hn hF,file_dk,readBook_cut hl hs hK hf]
 dsimp only
 rw [enterAll_take _ he,at_dk]
 cases ((frs (tx k 1 (l.take (whole (tx k 1 l) K)))).length:Int) == (F.size:Int) <;> rfl
theorem mount_no (k:ByteArray):mountT k ⟨[]⟩=(bookNew,[],true):=by
 have h:readBook k ⟨#[]⟩=([],0):=readBook_cut (k:=k) (file:=⟨#[]⟩) (l:=[]) (K:=0) (Nat.zero_le _) (fun r hr=>by cases hr) (Nat.le_refl _) rfl
 rw [mountT,show fileT ⟨[]⟩ nBook=(⟨#[]⟩,false) from rfl,h]
 rfl
theorem whole_ge (ts:List ByteArray):∀ (j K:Nat),j≤ts.length→(frs (ts.take j)).length≤K→j≤whole ts K:=by
 induction ts with
 | nil=>intro j K hj _;rw [List.length_nil] at hj;exact Nat.le_trans hj (Nat.zero_le _)
 | cons t ts ih=>
  intro j K hj h
  cases j with
  | zero=>exact Nat.zero_le _
  | succ j=>
   rw [List.take_succ_cons,frs,List.length_append] at h
   rw [List.length_cons] at hj
   rw [whole,if_pos (by omega)]
   have:=ih j (K - (frameL (bs t)).length) (by omega) (by omega)
   omega
def keptAt (F:ByteArray) (n:Int) (zs:List Int):Int:=ite (n > (match zs with | []=>0 | z::_=>ite ((ite ((F.size:Int)<z) (F.size:Int) z) > 0) (ite ((F.size:Int)<z) (F.size:Int) z) 0)) n (match zs with | []=>0 | z::_=>ite ((ite ((F.size:Int)<z) (F.size:Int) z) > 0) (ite ((F.size:Int)<z) (F.size:Int) z) 0)
theorem keptAt_in {F:ByteArray} {n:Int} (zs:List Int) (h:0≤n∧n≤(F.size:Int)):n≤keptAt F n zs∧keptAt F n zs≤(F.size:Int):=by
 unfold keptAt
 cases zs with
 | nil=>dsimp only;split <;> omega
 | cons z zs=>dsimp only;repeat' split <;> try omega
def lostD (F:ByteArray) (n:Int) (zs:List Int):SDisk:=dk (F.extract 0 (keptAt F n zs).toNat) (keptAt F n zs)
theorem p_impl_LoseDisk {F:ByteArray} {n:Int} (zs:List Int) (h:0≤n∧n≤(F.size:Int)) (hF:F.size≤20000):impl_LoseDisk (dk F n) zs=some (lostD F n zs,true):=by
 obtain ⟨m,hm⟩:∃ m,gas=m+1+1:=⟨gas - 2,rfl⟩
 obtain ⟨k1,k2⟩:=keptAt_in zs h
 have e:w64 (0+1)=1:=by rw [w64_id (by omega) (by omega)];rfl
 have hg:[(⟨nBook,F,n⟩:SFile)].getD (0:Int).toNat (⟨⟨#[]⟩,⟨#[]⟩,0⟩:SFile)=⟨nBook,F,n⟩:=rfl
 have hl:(([(⟨nBook,F,n⟩:SFile)].length:Nat):Int)=1:=rfl
 rw [impl_LoseDisk,E_impl_LoseDisk,p_impl_DiskOk (Nat.le_of_ble_eq_true rfl),Option.bind_some,diskOk1 h hF,p_impl_copyDisk (d:=dk F n) (Nat.le_of_ble_eq_true rfl),Option.bind_some]
 rw [Bool.not_true,cond_false,show (dk F n).fFiles=[⟨nBook,F,n⟩] from rfl,hm,L_impl_LoseDisk]
 simp only [B_impl_LoseDisk,hg,hl,e]
 rw [cond_t (by rfl),cond_t (by rfl)]
 have hend:∀ (v:Int) (x y:List SFile) (l:List Int),v=1→L_impl_LoseDisk (m+1) (.c0 l v 1 x y)=some (⟨y⟩,true):=by
  intro v x y l hv;subst hv;rfl
 cases zs with
 | nil=>
  rw [cond_f (by rfl)]
  have hk:ite (n > 0) n 0=keptAt F n []:=rfl
  rw [hk,cond_t (by rw [Bool.and_eq_true,decide_eq_true_eq,decide_eq_true_eq];omega),hend _ _ _ _ rfl];rfl
 | cons z zs=>
  rw [cond_t (by rw [decide_eq_true_eq,List.length_cons];omega),cond_t (by rw [Bool.and_eq_true,decide_eq_true_eq,decide_eq_true_eq,List.length_cons];omega)]
  have hz:(z::zs).getD (0:Int).toNat 0=z:=rfl
  simp only [hz]
  have hk:ite (n > (ite ((ite ((F.size:Int)<z) (F.size:Int) z) > 0) (ite ((F.size:Int)<z) (F.size:Int) z) 0)) n (ite ((ite ((F.size:Int)<z) (F.size:Int) z) > 0) (ite ((F.size:Int)<z) (F.size:Int) z) 0)=keptAt F n (z::zs):=rfl
  simp only [hk]
  rw [cond_t (by rw [Bool.and_eq_true,decide_eq_true_eq,decide_eq_true_eq];omega),hend _ _ _ _ rfl];rfl
theorem p_impl_CutActs {d:SDisk} {E T:ByteArray} {n:Int} (zs:List Int) (hT:T.size≤20000) (hd:d.fFiles.length*40≤140737488351232) (ha:actT d ⟨1,nBook,T,⟨#[]⟩⟩=(dk E n,true)) (h:0≤n∧n≤(E.size:Int)) (hE:E.size≤20000):impl_CutActs d (bookDo T) 1 zs=some (lostD E n zs,true):=by
 have e1:actsT d [⟨1,nBook,T,⟨#[]⟩⟩] 0=(dk E n,1):=by rw [actsT,ha];rfl
 rw [impl_CutActs,E_impl_CutActs,p_impl_in,Option.bind_some,show inR 1 0 ((bookDo T).length:Int)=true from rfl,Bool.not_true,cond_false,cond_t (by rfl),show ((bookDo T).take (1:Int).toNat).drop 0=[⟨1,nBook,T,⟨#[]⟩⟩] from rfl,p_impl_DoActs (l:=[⟨1,nBook,T,⟨#[]⟩⟩]) hd (show (1:Nat)≤140737488351232 by omega) (fun a ha=>by rw [List.mem_singleton] at ha;rw [ha];show T.size≤_;omega),Option.bind_some,e1]
 rw [cond_f (by rfl),p_impl_LoseDisk zs h hE];rfl
def fallenB (b:SBox):SBox:=⟨b.fKey,false,b.fDisk,bookNew,[],[],0⟩
theorem p_impl_Fallen {b:SBox} (h:b.fDisk.fFiles.length*40≤140737488355328):impl_Fallen b=some (fallenB b):=by
 rw [impl_Fallen,E_impl_Fallen,p_impl_copyDisk h,Option.bind_some,p_impl_BookNew];rfl
theorem p_impl_copyBox {b:SBox} (hd:b.fDisk.fFiles.length*40≤140737488355328) (hb:b.fBook.fThings.length≤2932031007317) (hs:b.fSessions.length≤1000000) (hl:b.fLives.length≤1000000):impl_copyBox b=some b:=by
 rw [impl_copyBox,E_impl_copyBox,p_impl_copyDisk hd,Option.bind_some,p_impl_copyBook hb,Option.bind_some,cond_t (by simp;omega),cond_t (by simp;omega)]
def SN:List SLive→Int→Nat
 | [],_=>0
 | l::ls,id=>if l.fId<id then SN ls id+1 else 0
theorem GAC (id:Int):∀ ls:List SLive,SN ls id≤ls.length
 | []=>Nat.le_refl _
 | l::ls=>by
  have:=GAC id ls
  rw [SN,List.length_cons]
  split <;> omega
theorem HAC {id:Int}:∀ {ls:List SLive} {i:Nat},i<SN ls id→(ls.getD i ⟨0,0⟩).fId<id
 | [],i,h=>absurd h (Nat.not_lt_zero _)
 | l::ls,i,h=>by
  rw [SN] at h
  split at h
  ·cases i with
   | zero=>assumption
   | succ i=>exact HAC (ls:=ls) (by omega)
  ·omega
theorem IAC {id:Int}:∀ {ls:List SLive},SN ls id<ls.length→¬ (ls.getD (SN ls id) ⟨0,0⟩).fId<id
 | [],h=>absurd h (Nat.not_lt_zero _)
 | l::ls,h=>by
  rw [SN] at h ⊢
  split at h
  ·rename_i h1
   rw [if_pos h1]
   exact IAC (ls:=ls) (by rw [List.length_cons] at h;omega)
  ·rename_i h1
   rw [if_neg h1];exact h1
def Zk (ls:List SLive) (id n:Int):List SLive:=match placeV ls id 0 with
 | some j=>ls.set j ⟨(ls.getD j ⟨0,0⟩).fId,n⟩
 | none=>ls.take (SN ls id)++[⟨id,n⟩]++ls.drop (SN ls id)
theorem DAK {b:SBox} {id n:Int} (h:b.fLives.length≤1000000):Na b id n=some ⟨b.fKey,b.fUp,b.fDisk,b.fBook,b.fSessions,Zk b.fLives id n,b.fOpened⟩:=by
 rw [Na,Sr,p_impl_liveAt (by omega),Option.bind_some,atV,Zk]
 cases hp:placeV b.fLives id 0 with
 | some j=>
  have:=(placeV_lt hp).2
  dsimp only
  rw [cond_t (by rw [decide_eq_true_eq];omega),cond_t (by rw [Bool.and_eq_true,decide_eq_true_eq,decide_eq_true_eq];omega),Int.toNat_natCast]
 | none=>
  dsimp only
  rw [cond_f (by rfl)]
  have hle:=GAC id b.fLives
  have key:∀ (j i m:Nat),i+j=SN b.fLives id→Tf (m+j+1) (.c0 id n (i:Int) b.fKey b.fUp b.fBook.fWord b.fBook.fTries b.fBook.fLast b.fBook.fChain b.fBook.fCount b.fOpened b.fDisk.fFiles b.fBook.fThings b.fSessions b.fLives)=some ⟨b.fKey,b.fUp,b.fDisk,b.fBook,b.fSessions,b.fLives.take (SN b.fLives id)++[⟨id,n⟩]++b.fLives.drop (SN b.fLives id),b.fOpened⟩:=by
   intro j
   induction j with
   | zero=>
    intro i m hi
    have hi:i=SN b.fLives id:=by omega
    subst hi
    have e1:(b.fLives.drop 0).take (SN b.fLives id - 0)=b.fLives.take (SN b.fLives id):=by rw [List.drop_zero,Nat.sub_zero]
    have e2:(b.fLives.drop (SN b.fLives id)).take (b.fLives.length - SN b.fLives id)=b.fLives.drop (SN b.fLives id):=List.take_of_length_le (by rw [List.length_drop];omega)
    have l1:(b.fLives.take (SN b.fLives id)).length≤1000000:=by rw [List.length_take];omega
    have l2:(b.fLives.drop (SN b.fLives id)).length≤1000000:=by rw [List.length_drop];omega
    rw [Tf]
    simp only [Wl,Int.toNat_natCast,e1,e2]
    have c1:(decide ((0:Int)≤(SN b.fLives id:Int)) && decide ((SN b.fLives id:Int)≤(b.fLives.length:Int)))=true:=by rw [Bool.and_eq_true,decide_eq_true_eq,decide_eq_true_eq];omega
    have c2:decide ((b.fLives.take (SN b.fLives id)).length*16≤140737488355328)=true:=by rw [decide_eq_true_eq];omega
    have c3:decide (((b.fLives.take (SN b.fLives id)).length+1)*16≤140737488355328)=true:=by rw [decide_eq_true_eq];omega
    have c4:decide (((b.fLives.take (SN b.fLives id)++[(⟨id,n⟩:SLive)]).length+(b.fLives.drop (SN b.fLives id)).length)*16≤140737488355328)=true:=by rw [decide_eq_true_eq,List.length_append,List.length_singleton];omega
    rw [c1,c2,c3,c4]
    simp only [cond_true]
    by_cases hl:SN b.fLives id<b.fLives.length
    ·have hn:=IAC hl
     rw [cond_t (by rw [decide_eq_true_eq];omega),cond_t (by rw [Bool.and_eq_true,decide_eq_true_eq,decide_eq_true_eq];omega),cond_f (decide_eq_false hn)]
    ·rw [cond_f (by rw [decide_eq_false_iff_not];omega)]
   | succ j ih=>
    intro i m hi
    have hw:w64 ((i:Int)+1)=((i+1:Nat):Int):=by rw [w64_id (by omega) (by omega)];rfl
    have hn:=HAC (ls:=b.fLives) (id:=id) (i:=i) (by omega)
    rw [show m+(j+1)+1=(m+j+1)+1 from rfl,Tf]
    simp only [Wl,Int.toNat_natCast,hw]
    rw [cond_t (by rw [decide_eq_true_eq];omega),cond_t (by rw [Bool.and_eq_true,decide_eq_true_eq,decide_eq_true_eq];omega),cond_t (decide_eq_true hn)]
    exact ih (i+1) m (by omega)
  obtain ⟨m,hm⟩:∃ m,gas=m+SN b.fLives id+1:=⟨gas - (SN b.fLives id+1),by have:=gas_lt (n:=SN b.fLives id+1) (by omega);omega⟩
  rw [hm]
  exact key _ 0 m (Nat.zero_add _)
noncomputable def lifeM:List SEvent→Int→SLife→Option SLife
 | [],_,l=>some l
 | e::es,i,l=>(bif e.fRise then impl_Life_rise l else impl_Life_call l e i).bind (lifeM es (i+1))
noncomputable def life0 (k w:ByteArray):SLife:=⟨(boxNewT k w).1,[],[],[],[recWord w]⟩
theorem run_do {es:List SEvent} {a0:ByteArray} {a1:Bool} {a2:ByteArray} {a3 a4:Int} {a5:ByteArray} {a6 a7:Int} {c0:List SFile} {c1:List SThing} {c2:List SSession} {c3:List SLive} {c4:List Int} {c5:List ByteArray} {c6:List SGiven} {c7:List SRec} (hz:es.length≤1000):∀ (j i m:Nat) (l:SLife),i+j=es.length→
  L_impl_RunLife (m+j+1) (.c1 es (es.length:Int) (i:Int) a0 a1 a2 a3 a4 a5 a6 a7 l.fBox.fKey l.fBox.fUp l.fBox.fBook.fWord l.fBox.fBook.fTries l.fBox.fBook.fLast l.fBox.fBook.fChain l.fBox.fBook.fCount l.fBox.fOpened c0 c1 c2 c3 c4 c5 c6 c7 l.fBox.fDisk.fFiles l.fBox.fBook.fThings l.fBox.fSessions l.fBox.fLives l.fCodes l.fReplies l.fGives l.fDone)=(lifeM (es.drop i) (i:Int) l).bind fun l=>some (l,true):=by
 intro j
 induction j with
 | zero=>
  intro i m l hi
  rw [L_impl_RunLife]
  simp only [B_impl_RunLife]
  rw [cond_f (by rw [decide_eq_false_iff_not];omega),List.drop_of_length_le (by omega)];rfl
 | succ j ih=>
  intro i m l hi
  have hlt:i<es.length:=by omega
  have hw:w64 ((i:Int)+1)=((i+1:Nat):Int):=by rw [w64_id (by omega) (by omega)];rfl
  rw [show m+(j+1)+1=(m+j+1)+1 from rfl,L_impl_RunLife,drop_at hlt,lifeM]
  simp only [B_impl_RunLife,hw,Int.toNat_natCast,getD_at hlt]
  rw [cond_t (by rw [decide_eq_true_eq];omega),cond_t (by rw [Bool.and_eq_true,decide_eq_true_eq,decide_eq_true_eq];omega)]
  cases es[i].fRise
  ·rw [cond_false,cond_false]
   show (impl_Life_call l es[i] (i:Int)).bind _=_
   cases impl_Life_call l es[i] (i:Int) with
   | none=>rfl
   | some l2=>exact ih (i+1) m l2 (by omega)
  ·rw [cond_true,cond_true]
   show (impl_Life_rise l).bind _=_
   cases impl_Life_rise l with
   | none=>rfl
   | some l2=>exact ih (i+1) m l2 (by omega)
def zLife:SLife:=⟨⟨⟨#[]⟩,false,⟨[]⟩,⟨⟨#[]⟩,0,[],0,⟨#[]⟩,0⟩,[],[],0⟩,[],[],[],[]⟩
theorem run_ev {w:ByteArray} {es:List SEvent} {b:SBox} {a0:ByteArray} {a1:Bool} {a2:ByteArray} {a3 a4:Int} {a5:ByteArray} {a6 a7:Int} {c0:List SFile} {c1:List SThing} {c2:List SSession} {c3:List SLive} {c4:List Int} {c5:List ByteArray} {c6:List SGiven} {c7:List SRec} (hz:es.length≤1000) (hw:w.size≤1000):∀ (j i m:Nat),i+j=es.length→
  L_impl_RunLife (m+es.length+1+j+1) (.c0 w es es (es.length:Int) (i:Int) a0 a1 a2 a3 a4 a5 a6 a7 b.fKey b.fUp b.fBook.fWord b.fBook.fTries b.fBook.fLast b.fBook.fChain b.fBook.fCount b.fOpened c0 c1 c2 c3 c4 c5 c6 c7 b.fDisk.fFiles b.fBook.fThings b.fSessions b.fLives)=bif (es.drop i).all eventOk then (lifeM es 0 ⟨b,[],[],[],[recWord w]⟩).bind fun l=>some (l,true) else some (zLife,false):=by
 intro j
 induction j with
 | zero=>
  intro i m hi
  rw [L_impl_RunLife]
  simp only [B_impl_RunLife]
  rw [cond_f (by rw [decide_eq_false_iff_not];omega),List.drop_of_length_le (by omega),List.all_nil,cond_true,p_impl_DigestOf (by omega),Option.bind_some]
  have h:=run_do (es:=es) (a0:=a0) (a1:=a1) (a2:=a2) (a3:=a3) (a4:=a4) (a5:=a5) (a6:=a6) (a7:=a7) (c0:=c0) (c1:=c1) (c2:=c2) (c3:=c3) (c4:=c4) (c5:=c5) (c6:=c6) (c7:=c7) hz es.length 0 m ⟨b,[],[],[],[recWord w]⟩ (Nat.zero_add _)
  rw [List.drop_zero] at h
  exact h
 | succ j ih=>
  intro i m hi
  have hlt:i<es.length:=by omega
  have hw:w64 ((i:Int)+1)=((i+1:Nat):Int):=by rw [w64_id (by omega) (by omega)];rfl
  rw [show m+es.length+1+(j+1)+1=(m+es.length+1+j+1)+1 from rfl,L_impl_RunLife,drop_at hlt,List.all_cons]
  simp only [B_impl_RunLife,hw,Int.toNat_natCast,getD_at hlt]
  rw [cond_t (by rw [decide_eq_true_eq];omega),cond_t (by rw [Bool.and_eq_true,decide_eq_true_eq,decide_eq_true_eq];omega),p_impl_EventOk,Option.bind_some]
  cases eventOk es[i]
  ·rfl
  ·rw [Bool.not_true,cond_false,Bool.true_and]
   exact ih (i+1) m (by omega)
theorem p_impl_RunLife {k w:ByteArray} {es:List SEvent} (hz:es.length≤1000) (hw:w.size≤1000):impl_RunLife k w es=bif (boxNewT k w).2 && decide (es.length≤40) then (bif es.all eventOk then (lifeM es 0 (life0 k w)).bind fun l=>some (l,true) else some (zLife,false)) else some (zLife,false):=by
 rw [impl_RunLife,E_impl_RunLife,p_impl_BoxNew,Option.bind_some]
 cases (boxNewT k w).2
 ·rfl
 ·rw [Bool.not_true,cond_false,Bool.true_and]
  by_cases h:es.length≤40
  ·rw [cond_f (by rw [decide_eq_false_iff_not];omega),decide_eq_true h,cond_true]
   obtain ⟨m,hm⟩:∃ m,gas=m+es.length+1+es.length+1:=⟨gas - (es.length+1+es.length+1),by have:=gas_lt (n:=es.length+1+es.length+1) (by omega);omega⟩
   rw [hm]
   exact run_ev hz hw es.length 0 m (Nat.zero_add _)
  ·rw [cond_t (by rw [decide_eq_true_eq];omega),decide_eq_false h];rfl
def leafs (xs:List SGiven) (t:Int):List Int:=(xs.filter fun g=>g.fThing == t).map (·.fLeaf)
theorem leafs_cons (x:SGiven) (xs:List SGiven) (t:Int):leafs (x::xs) t=(if (x.fThing == t)=true then [x.fLeaf] else [])++leafs xs t:=by
 unfold leafs;rw [List.filter_cons];split <;> simp
theorem p_impl_Leafs {a:List SGiven} {t:Int} (h:a.length*24≤140737488355328):impl_Leafs a t=some (leafs a t):=by
 have key:∀ m i out,i≤a.length→a.length - i<m→out.length≤i→L_impl_Leafs m (.c0 t a a.length i out)=some (out++leafs (a.drop i) t):=fun m i out h1 h2 h3=>
  loopN (A:=List Int) (n:=a.length) (Lp:=L_impl_Leafs) (st:=fun i out=>.c0 t a a.length i out) (Inv:=fun i out=>out.length≤i) (out:=fun i out=>some (out++leafs (a.drop i) t))
   (fun m out _=>by simp [L_impl_Leafs,B_impl_Leafs,leafs])
   (fun m i out hi ho=>by
    have hw:w64 ((i:Int)+1)=((i+1:Nat):Int):=by rw [w64_id (by omega) (by omega)];rfl
    have hb:(out.length+1)*8≤140737488355328:=by omega
    simp only [L_impl_Leafs,B_impl_Leafs,Int.toNat_natCast,getD_at hi,hw,drop_at hi,leafs_cons]
    cases a[i].fThing == t
    ·exact .inr ⟨out,by simp [hi],by omega,by simp⟩
    ·exact .inr ⟨out++[a[i].fLeaf],by simp [hi,hb],by simp;omega,by simp⟩) m i out h1 h2 h3
 have h0:=key gas 0 [] (Nat.zero_le _) (gas_lt (by omega)) (Nat.le_refl _)
 exact h0
theorem enterAll_sound {l:List SRec}:∀ {b:SBook},(enterAllB b l).2=true→Sound l:=by
 induction l with
 | nil=>intro b _ r hr;cases hr
 | cons x xs ih=>
  intro b h r hr
  rw [enterAllB] at h
  cases h2:(enterB b x).2
  ·rw [h2] at h;cases h
  ·rw [h2,cond_true] at h
   rcases List.mem_cons.1 hr with rfl | hr
   ·exact (enterB_ok h2).2.1
   ·exact ih h r hr
theorem drawn_sound {l:List SRec} {b:SBook} (h:Drawn l b):Sound l:=enterAll_sound (b:=bookNew) (by rw [h.1])
def Small (d:SDisk):Prop:=d.fFiles.length≤1∧∀ f ∈ d.fFiles,f.fText.size≤20000
theorem small_no:Small ⟨[]⟩:=⟨Nat.zero_le _,fun f hf=>by cases hf⟩
theorem small_dk {F:ByteArray} {n:Int} (h:F.size≤20000):Small (dk F n):=⟨Nat.le_refl _,fun f hf=>by
 have hf:f ∈ [(⟨nBook,F,n⟩:SFile)]:=hf
 rw [List.mem_singleton] at hf
 subst hf;exact h⟩
theorem w_succ {k:ByteArray} {l:List SRec} {i:Nat} (h:i<l.length):frs (tx k 1 (l.take (i+1)))=frs (tx k 1 (l.take i))++frameL (bs (lockT k ((i:Int)+1) (recText l[i]).1).1):=by
 rw [take_at h,tx_app,frs_app,List.length_take,Nat.min_eq_left (by omega),show (1:Int)+(i:Int)=(i:Int)+1 by omega,tx,tx,frs,frs,List.append_nil]
theorem w_small {k:ByteArray} {l:List SRec} (hl:l.length≤50) (i:Nat):(frs (tx k 1 (l.take i))).length≤16700:=by
 have hz:(l.take i).length≤50:=by rw [List.length_take];omega
 have h:=frs_small k _ (tx_size k (l.take i) 1 (by omega) (by omega))
 rw [tx_len] at h
 omega
def OnD (k:ByteArray) (l:List SRec) (i:Nat) (d:SDisk):Prop:=(i=0∧d=⟨[]⟩)∨∃ F:ByteArray,d=dk F F.size∧bs F=frs (tx k 1 (l.take i))
theorem acts_ok {k:ByteArray} {r:SRec} {i:Nat} (hr:(recText r).2=true) (hi:i≤10000):∃ T,bookActs k (i:Int) r=(bookDo T,true)∧bs T=frameL (bs (lockT k ((i:Int)+1) (recText r).1).1):=by
 have hz:=recText_size r
 obtain ⟨l1,l2,l3⟩:=lock_ok (k:=k) (s:=(recText r).1) (num:=(i:Int)+1) (by omega) (by omega)
 obtain ⟨f1,f2⟩:=frame_ok (t:=(lockT k ((i:Int)+1) (recText r).1).1) (by omega)
 refine ⟨(frameT (lockT k ((i:Int)+1) (recText r).1).1).1,?_,by rw [f2,bs_ofBytes (frameL_byt (byt_bs _))]⟩
 rw [bookActs,hr,inR_iff.2 (show 0≤(i:Int)∧(i:Int)≤10000 by omega)]
 generalize (frameT (lockT k ((i:Int)+1) (recText r).1).1).1=T
 rfl
theorem small_on {k:ByteArray} {l:List SRec} {i:Nat} {d:SDisk} (hl:l.length≤50) (h:OnD k l i d):Small d:=by
 rcases h with ⟨_,rfl⟩ | ⟨F,rfl,hF⟩
 ·exact small_no
 ·have:=w_small (k:=k) hl i
  exact small_dk (by rw [←bs_len,hF];omega)
theorem t_small {k T:ByteArray} {l:List SRec} {i:Nat} (hl:l.length≤50) (hi:i<l.length) (hT:bs T=frameL (bs (lockT k ((i:Int)+1) (recText l[i]).1).1)):(frs (tx k 1 (l.take i))).length+T.size≤16700:=by
 have h:=congrArg List.length (w_succ (k:=k) hi)
 have h2:=w_small (k:=k) hl (i+1)
 rw [List.length_append,←hT,bs_len] at h
 omega
theorem on_step {k T:ByteArray} {l:List SRec} {i:Nat} {d:SDisk} (hl:l.length≤50) (hi:i<l.length) (h:OnD k l i d) (hT:bs T=frameL (bs (lockT k ((i:Int)+1) (recText l[i]).1).1)):∃ E:ByteArray,actsT d (bookDo T) 0=(dk E E.size,2)∧bs E=frs (tx k 1 (l.take (i+1))):=by
 have hs:=t_small hl hi hT
 rcases h with ⟨rfl,rfl⟩ | ⟨F,rfl,hF⟩
 ·exact ⟨T,do_new (by omega),by rw [w_succ hi,←hT];rfl⟩
 ·have hz:(F++T).size=F.size+T.size:=ByteArray.size_append
  have hF2:F.size=(frs (tx k 1 (l.take i))).length:=by rw [←bs_len,hF]
  exact ⟨F++T,do_add (by omega) (by omega),by rw [bs_append,hF,w_succ hi,←hT]⟩
theorem mount_all {k F:ByteArray} {l:List SRec} {n:Int} (hl:l.length≤50) (hs:Sound l) (he:(enterAllB bookNew l).2=true) (hf:bs F=frs (tx k 1 l)) (hn:0≤n∧n≤(F.size:Int)):mountT k (dk F n)=((enterAllB bookNew l).1,[],true):=by
 have hsm:=w_small (k:=k) hl l.length
 rw [List.take_length] at hsm
 have hF:F.size=(frs (tx k 1 l)).length:=by rw [←bs_len,hf]
 have h:=mount_dk (k:=k) (F:=F) (l:=l) (n:=n) (K:=(frs (tx k 1 l)).length) hl hs he (Nat.le_refl _) (by rw [List.take_of_length_le (Nat.le_refl _)];exact hf) hn (by omega)
 rw [whole_all _ _ (Nat.le_refl _),tx_len,List.take_length,←hF,beq_self_eq_true,cond_true] at h
 exact h
theorem newbox {k w:ByteArray} (hk:k.size=32) (hw:w.size≤20):∃ T:ByteArray,boxNewT k w=(⟨k,true,dk T T.size,(enterB bookNew (recWord w)).1,[],[],0⟩,true)∧T.size≤20000∧bs T=frs (tx k 1 [recWord w]):=by
 have hr:(recText (recWord w)).2=true:=by rw [recWord_text]
 obtain ⟨T,t1,t2⟩:=acts_ok (k:=k) (r:=recWord w) (i:=0) hr (Nat.zero_le _)
 have hT:bs T=frs (tx k 1 [recWord w]):=by
  rw [t2,tx,tx,frs,frs,List.append_nil,show ((0:Nat):Int)+1=1 by omega]
 have hsm:=frs_small k _ (tx_size k [recWord w] 1 (by omega) (by rw [List.length_singleton];omega))
 rw [tx_len,List.length_singleton,←hT,bs_len] at hsm
 have t1:bookActs k 0 (recWord w)=(bookDo T,true):=t1
 refine ⟨T,?_,by omega,hT⟩
 rw [boxNewT,t1]
 dsimp only
 rw [do_new (by omega),show ((k.size:Int) == 32)=true by rw [hk];rfl,show decide ((w.size:Int) > 20)=false from decide_eq_false (by omega)]
 rfl
theorem newbox_mount {k w T:ByteArray} (hT:bs T=frs (tx k 1 [recWord w])) {n:Int} (hn:0≤n∧n≤(T.size:Int)):mountT k (dk T n)=((enterB bookNew (recWord w)).1,[],true):=by
 have hr:(recText (recWord w)).2=true:=by rw [recWord_text]
 have he:enterAllB bookNew [recWord w]=((enterB bookNew (recWord w)).1,true):=by rw [enterAllB,enterB_word];rfl
 have h:=mount_all (k:=k) (F:=T) (l:=[recWord w]) (n:=n) (by rw [List.length_singleton];omega) (fun r hm=>by rw [List.mem_singleton] at hm;rw [hm];exact hr) (by rw [he]) hT hn
 rw [he] at h
 exact h
theorem newbox_ok {k w T:ByteArray} (hk:k.size=32) (hT:bs T=frs (tx k 1 [recWord w])) (hz:T.size≤20000):boxOkB ⟨k,true,dk T T.size,(enterB bookNew (recWord w)).1,[],[],0⟩=true:=by
 have hb:=(enterB_ok (enterB_word w)).2.2.2.1
 rw [boxOkB,boxEnd]
 simp only [newbox_mount hT (n:=(T.size:Int)) (by omega),diskOk1 (F:=T) (n:=(T.size:Int)) (by omega) hz,hb,sameB_iff.2 rfl,hk,cond_true]
 rfl
theorem fallen_ok {b:SBox} (hk:b.fKey.size=32) (hd:diskOk b.fDisk=true):boxOkB (fallenB b)=true:=by
 rw [boxOkB,boxEnd,fallenB]
 simp only [hd,sameB_iff.2 rfl,hk,cond_false]
 rfl
def CutD (k:ByteArray) (l:List SRec) (i:Nat) (c:SDisk):Prop:=(i=0∧c=⟨[]⟩)∨∃ (X:ByteArray) (K:Nat) (n:Int),c=dk X n∧(0≤n∧n≤(X.size:Int))∧bs X=(frs (tx k 1 l)).take K∧(frs (tx k 1 (l.take i))).length≤K∧K≤(frs (tx k 1 l)).length
theorem cut_mount {k:ByteArray} {l:List SRec} {i:Nat} {c:SDisk} {b:SBook} (hl:l.length≤50) (hi:i+1=l.length) (hs:Sound l) (he:enterAllB bookNew l=(b,true)) (h:CutD k l i c):∃ (x:SBook) (todo:List SAct) (f:SDisk),mountT k c=(x,todo,true)∧(x=b∨x=(enterAllB bookNew (l.take i)).1)∧actsT c todo 0=(f,(todo.length:Int))∧mountT k f=(x,[],true)∧Small c∧Small f∧todo.length≤3∧∀ a ∈ todo,a.fText.size≤20000:=by
 have he2:(enterAllB bookNew l).2=true:=by rw [he]
 rcases h with ⟨rfl,rfl⟩ | ⟨X,K,n,rfl,hn,hX,hK1,hK2⟩
 ·exact ⟨bookNew,[],⟨[]⟩,mount_no k,.inr rfl,rfl,mount_no k,small_no,small_no,Nat.zero_le _,fun a ha=>by cases ha⟩
 ·have hsm:=w_small (k:=k) hl l.length
  rw [List.take_length] at hsm
  have hXs:X.size=K:=by rw [←bs_len,hX,List.length_take];omega
  have hm:=mount_dk (k:=k) (n:=n) hl hs he2 hK2 hX hn (by omega)
  obtain ⟨w1,w2,w3⟩:=whole_le (tx k 1 l) K
  have w4:=whole_ge (tx k 1 l) i K (by rw [tx_len];omega) (by rw [tx_take];exact hK1)
  rw [tx_len] at w2
  rw [tx_take] at w3
  generalize whole (tx k 1 l) K=w at hm w2 w3 w4
  have hx:(enterAllB bookNew (l.take w)).1=b∨(enterAllB bookNew (l.take w)).1=(enterAllB bookNew (l.take i)).1:=by
   by_cases hw:w=i
   ·right;rw [hw]
   ·left;rw [List.take_of_length_le (by omega),he]
  have hX2:X.size≤20000:=by omega
  by_cases hc:((frs (tx k 1 (l.take w))).length:Int)=(X.size:Int)
  ·rw [beq_iff_eq.2 hc,cond_true] at hm
   exact ⟨_,[],_,hm,hx,rfl,hm,small_dk hX2,small_dk hX2,Nat.zero_le _,fun a ha=>by cases ha⟩
  ·rw [beq_eq_false_iff_ne.2 hc,cond_false] at hm
   have hpre:frs (tx k 1 l)=frs (tx k 1 (l.take w))++frs (tx k (1+((l.take w).length:Int)) (l.drop w)):=by
    rw [←frs_app,←tx_app,List.take_append_drop]
   have hG:bs (X.extract 0 (frs (tx k 1 (l.take w))).length)=frs (tx k 1 (l.take w)):=by
    rw [bs_extract,List.drop_zero,hX,List.take_take,Nat.min_eq_left w3,hpre,List.take_left]
   have hGs:(X.extract 0 (frs (tx k 1 (l.take w))).length).size=(frs (tx k 1 (l.take w))).length:=by rw [←bs_len,hG]
   have hm2:=mount_all (k:=k) (l:=l.take w) (F:=X.extract 0 (frs (tx k 1 (l.take w))).length) (n:=((X.extract 0 (frs (tx k 1 (l.take w))).length).size:Int)) (by rw [List.length_take];omega) (fun r hr=>hs r (List.mem_of_mem_take hr)) (enterAll_take w he2) hG (by omega)
   generalize X.extract 0 (frs (tx k 1 (l.take w))).length=G at hm hG hGs hm2
   refine ⟨_,mendDo G,dk G G.size,hm,hx,do_mend hn hX2 (by omega),hm2,small_dk hX2,small_dk (by omega),Nat.le_refl _,fun a ha=>?_⟩
   rw [mendDo,List.mem_cons,List.mem_cons,List.mem_singleton] at ha
   rcases ha with rfl | rfl | rfl
   ·show G.size≤20000;omega
   ·exact Nat.zero_le _
   ·exact Nat.zero_le _
structure Good (k:ByteArray) (l:List SRec) (b:SBox):Prop where
 ksz:k.size=32
 key:b.fKey=k
 up:b.fUp=true
 disk:∃ F:ByteArray,b.fDisk=dk F F.size∧bs F=frs (tx k 1 l)
 len:1≤l.length∧l.length≤50
 book:enterAllB bookNew l=(b.fBook,true)
 ses:b.fSessions.length≤3∧sessR b b.fSessions.length 0=true
 opn:0≤b.fOpened∧b.fOpened≤1000
 liv:livesB b=true∧b.fLives.length≤8
theorem Good.bok {k:ByteArray} {l:List SRec} {b:SBox} (g:Good k l b):bookOk b.fBook=true:=by
 have:=enterAll_ok (rs:=l) bookNew_ok (by rw [g.book])
 rw [g.book] at this;exact this
theorem Good.cnt {k:ByteArray} {l:List SRec} {b:SBox} (g:Good k l b):b.fBook.fCount=(l.length:Int):=by
 have:=enterAll_count (l:=l) (b:=bookNew) (by rw [g.book])
 rw [g.book,show bookNew.fCount=0 from rfl,Int.zero_add] at this;exact this
theorem Good.sound {k:ByteArray} {l:List SRec} {b:SBox} (g:Good k l b):Sound l:=enterAll_sound (b:=bookNew) (by rw [g.book])
theorem Good.fsz {k F:ByteArray} {l:List SRec} (hl:l.length≤50) (hF:bs F=frs (tx k 1 l)):F.size≤16700:=by
 have:=w_small (k:=k) hl l.length
 rw [List.take_length,←hF,bs_len] at this;exact this
theorem Good.small {k:ByteArray} {l:List SRec} {b:SBox} (g:Good k l b):Small b.fDisk:=by
 obtain ⟨F,h1,h2⟩:=g.disk
 rw [h1];exact small_dk (by have:=Good.fsz g.len.2 h2;omega)
theorem Good.tng {k:ByteArray} {l:List SRec} {b:SBox} (g:Good k l b):b.fBook.fThings.length≤8:=(bookOk_iff.1 g.bok).2.2.2.1
theorem Good.ok {k:ByteArray} {l:List SRec} {b:SBox} (g:Good k l b):boxOkB b=true:=by
 obtain ⟨F,h1,h2⟩:=g.disk
 have hz:=Good.fsz g.len.2 h2
 have hm:=mount_all (k:=k) (F:=F) (l:=l) (n:=F.size) g.len.2 g.sound (by rw [g.book]) h2 (by omega)
 rw [g.book] at hm
 have hd:=diskOk1 (F:=F) (n:=(F.size:Int)) (by omega) (by omega)
 have h3:=g.ses.1
 rw [boxOkB,boxEnd,g.up,g.key,h1,hd,hm,g.ksz,g.bok,g.ses.2,g.liv.1,show sameB b.fBook b.fBook=true from sameB_iff.2 rfl,decide_eq_true (by omega:(b.fSessions.length:Int)≤3),inR_iff.2 g.opn];rfl
theorem sessR_same {b c:SBox} (h1:c.fSessions=b.fSessions) (h2:c.fOpened=b.fOpened):∀ j i,sessR c j i=sessR b j i:=by
 intro j
 induction j with
 | zero=>intro i;rfl
 | succ j ih=>intro i;rw [sessR,sessR,sessAt,sessAt,h1,h2,ih]
theorem livesR_same {b c:SBox} (h1:c.fLives=b.fLives) (h2:c.fBook.fThings=b.fBook.fThings):∀ j i,livesR c j i=livesR b j i:=by
 intro j
 induction j with
 | zero=>intro i;rfl
 | succ j ih=>intro i;rw [livesR,livesR,liveAt,liveAt,h1,h2,ih]
theorem good_new {k w:ByteArray} (hk:k.size=32) (hw:w.size≤20):(boxNewT k w).2=true∧Good k [recWord w] (boxNewT k w).1∧(boxNewT k w).1.fSessions=[]∧(boxNewT k w).1.fLives=[]∧(boxNewT k w).1.fOpened=0∧(boxNewT k w).1.fBook=(enterB bookNew (recWord w)).1:=by
 obtain ⟨T,h1,h2,h3⟩:=newbox hk hw
 rw [h1]
 refine ⟨rfl,⟨hk,rfl,rfl,⟨T,rfl,h3⟩,⟨Nat.le_refl _,by rw [List.length_singleton];omega⟩,?_,⟨Nat.zero_le _,rfl⟩,⟨Int.le_refl _,by show (0:Int)≤1000;omega⟩,⟨rfl,Nat.zero_le _⟩⟩,rfl,rfl,rfl,rfl⟩
 rw [enterAllB,enterB_word];rfl
theorem Good.pOk {k:ByteArray} {l:List SRec} {b:SBox} (g:Good k l b):impl_BoxOk b=some true:=by
 have hs:=g.small
 have h1:=hs.1
 have h2:=g.tng
 have h3:=g.ses.1
 have h4:=g.liv.2
 rw [p_impl_BoxOk (by omega) (fun f hf=>by have:=hs.2 f hf;omega) (by omega) (by omega) (by omega),g.ok]
theorem plan_open {k:ByteArray} {l:List SRec} {b:SBox} {c:SCall} (g:Good k l b) (hc:callOk c=true) (ho:c.fOp=1) (hs:b.fSessions.length<3) (hp:b.fOpened<99):∃ s,impl_Plan b c=some ([],0,s):=by
 have h1:=g.cnt
 have h2:=g.len.2
 have h3:=g.opn.1
 obtain ⟨s,hd,_⟩:=p_impl_Decimal (n:=b.fOpened+1) (by omega)
 refine ⟨s,?_⟩
 rw [impl_Plan,E_impl_Plan,g.pOk,Option.bind_some,Bool.not_true,cond_false,g.up,Bool.not_true,cond_false,p_impl_CallOk,Option.bind_some,hc,Bool.not_true,cond_false,cond_f (by rw [decide_eq_false_iff_not];omega),cond_t (by rw [ho];rfl),cond_f (by rw [decide_eq_false_iff_not];omega),cond_f (by rw [decide_eq_false_iff_not];omega),w64_id (by omega) (by omega),hd];rfl
theorem callOk_text {c:SCall} (h:callOk c=true):c.fText.size≤1000:=by
 simp only [callOk,Bool.and_eq_true,decide_eq_true_eq] at h
 omega
theorem plan_word {k:ByteArray} {l:List SRec} {b:SBox} {c:SCall} {j:Nat} (g:Good k l b) (hc:callOk c=true) (ho:c.fOp=2) (hj:atS b c.fSession=(j:Int)):impl_Plan b c=some (wordT b c):=by
 have h1:=g.cnt
 have h2:=g.len.2
 have h3:=g.ses.1
 have h4:=callOk_text hc
 have h5:=(bookOk_iff.1 g.bok).2.2.1.1
 rw [impl_Plan,E_impl_Plan,g.pOk,Option.bind_some,Bool.not_true,cond_false,g.up,Bool.not_true,cond_false,p_impl_CallOk,Option.bind_some,hc,Bool.not_true,cond_false,cond_f (by rw [decide_eq_false_iff_not];omega),cond_f (by rw [ho];rfl),p_impl_sessionAt (by omega),Option.bind_some,hj,cond_f (by rw [decide_eq_false_iff_not];omega),cond_f (by rw [ho];rfl),cond_t (by rw [ho];rfl),p_impl_planWord h5 (by omega)];rfl
def PY (x:SThing):SRec:=⟨3,⟨#[]⟩,0,x⟩
def newX (b:SBox) (c:SCall) (x:SThing):SThing:=⟨b.fBook.fLast+1,x.fKind,x.fHidden || c.fHidden,x.fFixed || c.fFixed,x.fSigns,x.fWraps,x.fValue,x.fNext⟩
theorem JAC {b:SBox} {c:SCall} {x:SThing} (h8:b.fBook.fThings.length<8) (hl:0≤b.fBook.fLast∧b.fBook.fLast<99):∃ s,Ej b c x true=some ([PY (newX b c x)],0,s):=by
 obtain ⟨s,hd,_⟩:=p_impl_Decimal (n:=b.fBook.fLast+1) (by omega)
 refine ⟨s,?_⟩
 rw [Ej,Hw,Bool.not_true,cond_false,cond_f (by rw [decide_eq_false_iff_not];omega),cond_f (by rw [decide_eq_false_iff_not];omega),w64_id (by omega) (by omega),hd,newX]
 cases x.fHidden <;> cases x.fFixed <;> rfl
theorem KAC {b:SBox} {c:SCall} (h8:b.fBook.fThings.length<8) (hl:0≤b.fBook.fLast∧b.fBook.fLast<99) (ht:c.fText.size≤1000) (hk:c.fKind=2∨(c.fKind=3∧c.fText.size≤100)):∃ x s,Yb b c=some ([PY (newX b c x)],0,s)∧((c.fKind=2∧∃ v:ByteArray,v.size=32∧x=⟨0,2,true,false,true,false,v,0⟩)∨(c.fKind=3∧x=⟨0,3,false,false,false,false,c.fText,0⟩)):=by
 rcases hk with hk | ⟨hk,h100⟩
 ·obtain ⟨d,hd,hz⟩:=p_impl_Decimal (n:=b.fBook.fLast+1) (by omega)
  have h1:(⟨#[32]⟩:ByteArray).size=1:=rfl
  have hdef:∀ D:ByteArray,defaults 2 D=(⟨0,2,true,false,true,false,dig D,0⟩,true):=fun D=>rfl
  obtain ⟨s,hs⟩:=JAC (b:=b) (c:=c) (x:=⟨0,2,true,false,true,false,dig (d++⟨#[32]⟩++c.fText),0⟩) h8 hl
  refine ⟨_,s,?_,.inl ⟨hk,dig (d++⟨#[32]⟩++c.fText),dig_size _,rfl⟩⟩
  rw [Yb,Xo,cond_t (by rw [hk];rfl),w64_id (by omega) (by omega),hd,Option.bind_some,cond_t (by rw [decide_eq_true_eq,h1];omega),cond_t (by rw [decide_eq_true_eq,ByteArray.size_append,h1];omega),hk,p_impl_Defaults 2 (by rw [ByteArray.size_append,ByteArray.size_append,h1];omega),Option.bind_some,hdef,hs];rfl
 ·have hdef:defaults 3 c.fText=(⟨0,3,false,false,false,false,c.fText,0⟩,true):=by
   rw [defaults,decide_eq_true (by omega:(c.fText.size:Int)≤100)];rfl
  obtain ⟨s,hs⟩:=JAC (b:=b) (c:=c) (x:=⟨0,3,false,false,false,false,c.fText,0⟩) h8 hl
  refine ⟨_,s,?_,.inr ⟨hk,rfl⟩⟩
  rw [Yb,Xo,cond_f (by rw [hk];rfl),hk,p_impl_Defaults 3 (by omega),Option.bind_some,hdef,hs];rfl
theorem Pq {k:ByteArray} {l:List SRec} {b:SBox} {c:SCall} {j:Nat} (g:Good k l b) (hc:callOk c=true) (h1:(c.fOp == 1)=false) (h13:(c.fOp == 13)=false) (h2:(c.fOp == 2)=false) (hj:atS b c.fSession=(j:Int)) (hlt:j<b.fSessions.length) (hin:(b.fSessions.getD j ⟨0,false⟩).fIn=true) :
  (c.fOp=4→impl_Plan b c=(Yb b c).bind fun r=>some (r.1,(r.2.1,r.2.2)))∧
  ((c.fOp == 3)=false→(c.fOp == 4)=false→(c.fOp == 11)=false→∀ x,thingIn b.fBook.fThings c.fThing=some x→impl_Plan b c=(Ve b c x).bind fun r=>some (r.1,(r.2.1,r.2.2))):=by
 have hn:=g.cnt
 have hl:=g.len.2
 have hs:=g.ses.1
 have ht:=g.tng
 have front:∀ R,(bif !(b.fSessions.getD j ⟨0,false⟩).fIn then (impl_refused 5).bind fun r12=>some (r12.1,(r12.2.1,r12.2.2)) else R)=R:=fun R=>by rw [hin];rfl
 refine ⟨fun h4=>?_,fun h3 h4 h11 x hx=>?_⟩
 ·rw [impl_Plan,E_impl_Plan,g.pOk,Option.bind_some,Bool.not_true,cond_false,g.up,Bool.not_true,cond_false,p_impl_CallOk,Option.bind_some,hc,Bool.not_true,cond_false,cond_f (by rw [decide_eq_false_iff_not];omega),h1,cond_false,p_impl_sessionAt (by omega),Option.bind_some,hj,cond_f (by rw [decide_eq_false_iff_not];omega),h13,cond_false,h2,cond_false,cond_t (by rw [Bool.and_eq_true,decide_eq_true_eq,decide_eq_true_eq];omega),Int.toNat_natCast,front,cond_f (by rw [h4];rfl),cond_t (by rw [h4];rfl)]
 ·rw [impl_Plan,E_impl_Plan,g.pOk,Option.bind_some,Bool.not_true,cond_false,g.up,Bool.not_true,cond_false,p_impl_CallOk,Option.bind_some,hc,Bool.not_true,cond_false,cond_f (by rw [decide_eq_false_iff_not];omega),h1,cond_false,p_impl_sessionAt (by omega),Option.bind_some,hj,cond_f (by rw [decide_eq_false_iff_not];omega),h13,cond_false,h2,cond_false,cond_t (by rw [Bool.and_eq_true,decide_eq_true_eq,decide_eq_true_eq];omega),Int.toNat_natCast,front,h3,cond_false,h4,cond_false,h11,cond_false,p_impl_ThingOf (by omega),Option.bind_some,hx]
  dsimp only
  rw [Bool.not_true,cond_false]
def Uz (x:SThing):SThing:=⟨x.fId,x.fKind,x.fHidden,x.fFixed,x.fSigns,x.fWraps,x.fValue,ite (16<x.fNext+3) 16 (x.fNext+3)⟩
theorem LAC {k:ByteArray} {l:List SRec} {b:SBox} {c:SCall} {x:SThing} {leaf:Int} (g:Good k l b) (ht:c.fText.size≤1000) (h5:c.fOp=5) (hx:thingIn b.fBook.fThings x.fId=some x) (hok:thingOk x=true) (hs:x.fSigns=true) (hk:x.fKind=2) (hv:x.fValue.size=32) (hn:0≤x.fNext∧x.fNext≤16) (hl:leafX b x=leaf) (h16:0≤leaf∧leaf<16) :
  ∃ s,Ve b c x=some (bif leaf != x.fNext then [] else [PY (Uz x)],0,s):=by
 have hleaf:leafB b x.fId=leaf:=by rw [leafB,hx];dsimp only;rw [hk,←hl];rfl
 have h1:=g.liv.2
 have h2:=g.tng
 refine ⟨FAC (Qc x.fValue leaf c.fText),?_⟩
 rw [Ve,Kz,cond_f (by rw [h5];rfl),cond_t (by rw [h5];rfl),p_impl_May,Option.bind_some,show mayT x 3=true by rw [mayT,hok,hs];rfl,cond_true,Bq,Vy,p_impl_LeafOf (by omega) (by omega),Option.bind_some,hleaf,cond_f (by rw [decide_eq_false_iff_not];omega),BAK (by omega) (by omega) (by omega),Option.bind_some,CAK (by omega),Option.bind_some,w64_id (n:=x.fNext+3) (by omega) (by omega)]
 cases leaf != x.fNext <;> rfl
theorem good_enter {k:ByteArray} {l:List SRec} {b:SBox} {r:SRec} (g:Good k l b) (hl:l.length<50) (hn:r.fNum≤9223372036854775807) (hr:(enterB b.fBook r).2=true) (hv:∀ d,livesB ⟨b.fKey,b.fUp,d,(enterB b.fBook r).1,b.fSessions,b.fLives,b.fOpened⟩=true) :
  ∃ d,impl_Box_enter b r=some (true,⟨b.fKey,b.fUp,d,(enterB b.fBook r).1,b.fSessions,b.fLives,b.fOpened⟩)∧Good k (l++[r]) ⟨b.fKey,b.fUp,d,(enterB b.fBook r).1,b.fSessions,b.fLives,b.fOpened⟩:=by
 obtain ⟨F,h1,h2⟩:=g.disk
 obtain ⟨T,t1,t2⟩:=acts_ok (k:=k) (r:=r) (i:=l.length) (enterB_ok hr).2.1 (by omega)
 have hlen:(l++[r]).length=l.length+1:=by rw [List.length_append];rfl
 have hat:(l++[r])[l.length]'(by omega)=r:=by simp
 obtain ⟨E,e1,e2⟩:=on_step (k:=k) (T:=T) (l:=l++[r]) (i:=l.length) (d:=b.fDisk) (by omega) (by omega) (.inr ⟨F,h1,by rw [List.take_left];exact h2⟩) (by rw [hat];exact t2)
 rw [List.take_of_length_le (by omega)] at e2
 have hsm:=g.small
 refine ⟨dk E E.size,?_,⟨g.ksz,g.key,g.up,⟨E,rfl,e2⟩,⟨by omega,by omega⟩,?_,⟨g.ses.1,?_⟩,g.opn,⟨hv _,g.liv.2⟩⟩⟩
 ·rw [p_impl_Box_enter (by rw [g.key,g.ksz];omega) (by have:=hsm.1;omega) (by have:=g.tng;omega) hn,boxEnterT,g.key,g.cnt,t1]
  dsimp only
  rw [e1,hr];rfl
 ·rw [enterAll_app,g.book]
  dsimp only
  rw [cond_true,enterAllB,hr];rfl
 ·exact (sessR_same (b:=b) (c:=⟨b.fKey,b.fUp,dk E E.size,(enterB b.fBook r).1,b.fSessions,b.fLives,b.fOpened⟩) rfl rfl _ _).trans g.ses.2
theorem Vz {x:SThing} (h:thingOk x=true):(recText (PY x)).2=true:=by
 rw [recText]
 simp only [PY,show ((3:Int) == 1)=false from rfl,show ((3:Int) == 2)=false from rfl,show ((3:Int) == 3)=true from rfl,cond_false,cond_true]
 have h1:(thingText x).2=true:=by rw [thingText,h];rfl
 have h2:isE (⟨#[]⟩:ByteArray)=true:=by simp [isE]
 rw [h1,h2];rfl
theorem EAK {b:SBook} {x:SThing} (hb:bookOk b=true) (hc:b.fCount<10000) (hx:thingOk x=true) (hv:b.fThings=[]) (hid:x.fId=b.fLast+1):enterB b (PY x)=(⟨b.fWord,b.fTries,[x],x.fId,dig (b.fChain++(recText (PY x)).1),b.fCount+1⟩,true):=by
 have hp:putThing b x=some ([x],x.fId):=by
  rw [putThing,hv]
  show (bif x.fId != b.fLast+1 || decide ((([]:List SThing).length:Int)≥8) then none else some ([]++[x],x.fId))=_
  rw [hid,bne_self_eq_false];rfl
 rw [enterB,hb,Vz hx,decide_eq_false (by omega:¬ b.fCount≥10000)]
 show (match putThing b x with | some p=>_ | none=>_)=_
 rw [hp]
theorem FAK {b:SBook} {x y:SThing} (hb:bookOk b=true) (hc:b.fCount<10000) (hy:thingOk y=true) (hv:b.fThings=[x]) (hid:y.fId=x.fId) (hg:grown x y=true):enterB b (PY y)=(⟨b.fWord,b.fTries,[y],b.fLast,dig (b.fChain++(recText (PY y)).1),b.fCount+1⟩,true):=by
 have hin:thingIn [x] y.fId=some x:=by rw [hid];simp [thingIn]
 have hput:putAt [x] y=[y]:=by
  have e1:decide (x.fId<y.fId)=false:=decide_eq_false (by omega)
  have e2:decide (x.fId > y.fId)=false:=decide_eq_false (by omega)
  simp [putAt,ltF,gtF,e1,e2]
 have hp:putThing b y=some ([y],b.fLast):=by rw [putThing,hv,hin];dsimp only;rw [hg,cond_true,hput]
 rw [enterB,hb,Vz hy,decide_eq_false (by omega:¬ b.fCount≥10000)]
 show (match putThing b y with | some p=>_ | none=>_)=_
 rw [hp]
theorem Qq {v:ByteArray} {n:Int} (hv:v.size=32) (hn:0≤n∧n≤16):thingOk ⟨1,2,true,false,true,false,v,n⟩=true:=by
 rw [thingOk]
 simp only [inR_iff.2 (show (1:Int)≤1∧(1:Int)≤1000 by omega),inR_iff.2 hn,hv]
 rfl
structure BSz (b:SBox):Prop where
 d:b.fDisk.fFiles.length*40≤140737488355328
 t:b.fBook.fThings.length≤2932031007317
 s:b.fSessions.length≤3
 l:b.fLives.length≤8
 o:0≤b.fOpened∧b.fOpened≤1000
theorem Good.bsz {k:ByteArray} {l:List SRec} {b:SBox} (g:Good k l b):BSz b:=⟨by have:=g.small.1;omega,by have:=g.tng;omega,g.ses.1,g.liv.2,g.opn⟩
theorem BSz.copy {b:SBox} (h:BSz b):impl_copyBox b=some b:=p_impl_copyBox h.d h.t (by have:=h.s;omega) (by have:=h.l;omega)
theorem carry_no {b:SBox} {c:SCall} {code leaf:Int} (h:BSz b) (hc:(code != 0)=true):impl_Carry b c code leaf=some b:=by
 rw [impl_Carry,E_impl_Carry,h.copy,Option.bind_some,hc];rfl
theorem carry_open {b:SBox} {c:SCall} {leaf:Int} (h:BSz b) (ho:c.fOp=1):impl_Carry b c 0 leaf=some ⟨b.fKey,b.fUp,b.fDisk,b.fBook,b.fSessions++[⟨b.fOpened+1,false⟩],b.fLives,b.fOpened+1⟩:=by
 have h1:=h.s
 have h2:=h.t
 have h3:=h.o
 rw [impl_Carry,E_impl_Carry,h.copy,Option.bind_some,cond_f (by rfl),p_impl_sessionAt (by omega),Option.bind_some,p_impl_ThingOf (by omega),Option.bind_some,cond_t (by rw [ho];rfl),cond_t (by rw [decide_eq_true_eq];omega),w64_id (by omega) (by omega)]
theorem carry_word {b:SBox} {c:SCall} {leaf:Int} {j:Nat} (h:BSz b) (ho:c.fOp=2) (hj:atS b c.fSession=(j:Int)) (hlt:j<b.fSessions.length):impl_Carry b c 0 leaf=some ⟨b.fKey,b.fUp,b.fDisk,b.fBook,b.fSessions.set j ⟨(b.fSessions.getD j ⟨0,false⟩).fId,true⟩,b.fLives,b.fOpened⟩:=by
 have h1:=h.s
 have h2:=h.t
 rw [impl_Carry,E_impl_Carry,h.copy,Option.bind_some,cond_f (by rfl),p_impl_sessionAt (by omega),Option.bind_some,p_impl_ThingOf (by omega),Option.bind_some,cond_f (by rw [ho];rfl),cond_f (by rw [ho];rfl),cond_t (by rw [ho];rfl),hj,cond_t (by rw [decide_eq_true_eq];omega),cond_t (by rw [Bool.and_eq_true,decide_eq_true_eq,decide_eq_true_eq];omega),Int.toNat_natCast]
theorem call_none {l:SLife} {e:SEvent} {w code leaf:Int} {s:ByteArray} {b2:SBox} (hp:impl_Plan l.fBox e.fCall=some ([],code,s)) (hl:impl_LeafOf l.fBox e.fCall.fThing=some leaf) (hc:impl_Carry l.fBox e.fCall code leaf=some b2) (h5:(e.fCall.fOp == 5)=false) (z1:l.fCodes.length≤1000) (z2:l.fReplies.length≤1000) :
  impl_Life_call l e w=some ⟨b2,l.fCodes++[code],l.fReplies++[s],l.fGives,l.fDone⟩:=by
 obtain ⟨m,hm⟩:∃ m,gas=m+1:=⟨gas - 1,rfl⟩
 rw [impl_Life_call,E_impl_Life_call,hp,Option.bind_some,hl,hm]
 have key:∀ o,o=L_impl_Life_call (m+1) (.c0 w code s leaf ((([]:List SRec).length:Nat):Int) 0 l.fBox.fKey l.fBox.fUp l.fBox.fBook.fWord l.fBox.fBook.fTries l.fBox.fBook.fLast l.fBox.fBook.fChain l.fBox.fBook.fCount l.fBox.fOpened e [] l.fBox.fDisk.fFiles l.fBox.fBook.fThings l.fBox.fSessions l.fBox.fLives l.fCodes l.fReplies l.fGives l.fDone)→o=some ⟨b2,l.fCodes++[code],l.fReplies++[s],l.fGives,l.fDone⟩:=by
  intro o ho
  rw [ho,L_impl_Life_call]
  simp only [B_impl_Life_call]
  rw [cond_f (by rfl)]
  show (impl_Carry l.fBox e.fCall code leaf).bind _=_
  rw [hc,Option.bind_some,p_impl_Life_tell (l:=⟨b2,l.fCodes,l.fReplies,l.fGives,_⟩) (show l.fCodes.length≤1000000 by omega) (show l.fReplies.length≤1000000 by omega),Option.bind_some,h5];rfl
 cases e.fCut
 ·exact key _ rfl
 ·exact key _ rfl
theorem call_one {l:SLife} {e:SEvent} {w code leaf:Int} {s:ByteArray} {r:SRec} {b1 b2:SBox} (hp:impl_Plan l.fBox e.fCall=some ([r],code,s)) (hcut:e.fCut=false) (hl:impl_LeafOf l.fBox e.fCall.fThing=some leaf) (hb:impl_Box_enter l.fBox r=some (true,b1)) (hc:impl_Carry b1 e.fCall code leaf=some b2) (z1:l.fCodes.length≤1000) (z2:l.fReplies.length≤1000) (z3:l.fDone.length≤1000) (z4:l.fGives.length≤1000) :
  impl_Life_call l e w=some ⟨b2,l.fCodes++[code],l.fReplies++[s],bif e.fCall.fOp == 5 && code == 0 then l.fGives++[⟨e.fCall.fThing,leaf,w⟩] else l.fGives,l.fDone++[r]⟩:=by
 obtain ⟨m,hm⟩:∃ m,gas=m+1+1:=⟨gas - 2,rfl⟩
 have hw:w64 (0+1)=1:=by rw [w64_id (by omega) (by omega)];rfl
 rw [impl_Life_call,E_impl_Life_call,hp,Option.bind_some,hl,hm,hcut,cond_false,Option.bind_some,L_impl_Life_call]
 simp only [B_impl_Life_call]
 rw [cond_t (by rfl),cond_t (by rfl)]
 show (impl_Box_enter l.fBox r).bind _=_
 rw [hb,Option.bind_some]
 dsimp only
 rw [cond_true,cond_t (by rw [decide_eq_true_eq];omega),hw,L_impl_Life_call]
 simp only [B_impl_Life_call]
 rw [cond_f (by rfl)]
 show (impl_Carry b1 e.fCall code leaf).bind _=_
 rw [hc,Option.bind_some,p_impl_Life_tell (l:=⟨b2,l.fCodes,l.fReplies,l.fGives,_⟩) (show l.fCodes.length≤1000000 by omega) (show l.fReplies.length≤1000000 by omega),Option.bind_some]
 cases e.fCall.fOp == 5
 ·rfl
 ·cases code == 0
  ·rfl
  ·rw [cond_true,cond_true,cond_t (by rw [decide_eq_true_eq];show (l.fGives.length+1)*24≤_;omega)];rfl
structure Down (k:ByteArray) (l:List SRec) (b:SBox):Prop where
 ksz:k.size=32
 len:1≤l.length∧l.length≤50
 book:(enterAllB bookNew l).2=true
 box:∃ X:ByteArray,b=⟨k,false,dk X X.size,bookNew,[],[],0⟩∧X.size≤16700∧∃ (l2:List SRec) (K:Nat),l2.length≤50∧(enterAllB bookNew l2).2=true∧K≤(frs (tx k 1 l2)).length∧bs X=(frs (tx k 1 l2)).take K∧l=l2.take (whole (tx k 1 l2) K)
theorem frs_len {k:ByteArray} {l:List SRec} (hl:l.length≤50):(frs (tx k 1 l)).length≤334*l.length:=by
 have h:=frs_small k _ (tx_size k l 1 (by omega) (by omega))
 rw [tx_len] at h;exact h
theorem life_cut {k:ByteArray} {l:List SRec} {L:SLife} {r:SRec} (zs:List Int) (g:Good k l L.fBox) (hl:l.length<50) (hn:r.fNum≤9223372036854775807) (hr:(enterB L.fBox.fBook r).2=true) (z1:L.fCodes.length≤1000) (z2:L.fReplies.length≤1000) (z3:L.fDone.length≤1000) :
  ∃ l' b',impl_Life_cut L r zs=some ⟨b',L.fCodes++[10],L.fReplies++[⟨#[]⟩],L.fGives,bif decide (l'.length > l.length) then L.fDone++[r] else L.fDone⟩∧Down k l' b'∧(l'=l∨l'=l++[r])∧(∀ z zs',zs=z::zs'→334*((l.length:Int)+1)≤z→l'=l++[r])∧(zs=[]→l'=l):=by
 obtain ⟨F,h1,h2⟩:=g.disk
 have hFs:=Good.fsz g.len.2 h2
 have hF2:F.size=(frs (tx k 1 l)).length:=by rw [←bs_len,h2]
 obtain ⟨T,t1,t2⟩:=acts_ok (k:=k) (r:=r) (i:=l.length) (enterB_ok hr).2.1 (by omega)
 have hlen:(l++[r]).length=l.length+1:=by rw [List.length_append];rfl
 have hat:(l++[r])[l.length]'(by omega)=r:=by simp
 have hall:frs (tx k 1 (l++[r]))=frs (tx k 1 l)++bs T:=by
  have e:=w_succ (k:=k) (l:=l++[r]) (i:=l.length) (by omega)
  rw [List.take_of_length_le (by omega),List.take_left,hat,←t2] at e
  exact e
 have hfl:=frs_len (k:=k) (l:=l++[r]) (by omega)
 have hl1:=congrArg List.length hall
 rw [List.length_append,bs_len] at hl1
 have hz:(F++T).size=F.size+T.size:=ByteArray.size_append
 have hE:bs (F++T)=frs (tx k 1 (l++[r])):=by rw [bs_append,h2,hall]
 have hcut:=p_impl_CutActs (d:=dk F F.size) (E:=F++T) (T:=T) (n:=F.size) zs (by omega) (Nat.le_of_ble_eq_true rfl) (act_add (by omega) (by omega)) (by omega) (by omega)
 obtain ⟨q1,q2⟩:=keptAt_in (F:=F++T) (n:=F.size) zs (by omega)
 have hk1:∀ z zs',zs=z::zs'→334*((l.length:Int)+1)≤z→keptAt (F++T) F.size zs=((F++T).size:Int):=by
  intro z zs' e hz'
  have q3:(z:Int)≥((F++T).size:Int):=by omega
  rw [e] at q2 ⊢
  unfold keptAt at q2 ⊢
  dsimp only at q2 ⊢
  repeat' split <;> try omega
 have hk0:zs=[]→keptAt (F++T) F.size zs=(F.size:Int):=by
  intro e
  rw [e]
  unfold keptAt
  dsimp only
  split <;> omega
 unfold lostD at hcut
 generalize keptAt (F++T) F.size zs=kk at hcut q1 q2 hk1 hk0
 obtain ⟨K,rfl⟩:∃ K:Nat,kk=(K:Int):=⟨kk.toNat,by omega⟩
 rw [Int.toNat_natCast] at hcut
 have hX:bs ((F++T).extract 0 K)=(frs (tx k 1 (l++[r]))).take K:=by rw [bs_extract,List.drop_zero,hE]
 have hXs:((F++T).extract 0 K).size=K:=by rw [ByteArray.size_extract];omega
 generalize (F++T).extract 0 K=X at hcut hX hXs
 have hEl:(frs (tx k 1 (l++[r]))).length=F.size+T.size:=by omega
 have he2:(enterAllB bookNew (l++[r])).2=true:=by
  rw [enterAll_app,g.book]
  dsimp only
  rw [cond_true,enterAllB,hr];rfl
 have hrb:=readBook_cut (k:=k) (file:=X) (l:=l++[r]) (K:=K) (by omega) (enterAll_sound he2) (by omega) hX
 obtain ⟨w1,w2,w3⟩:=whole_le (tx k 1 (l++[r])) K
 have w4:=whole_ge (tx k 1 (l++[r])) l.length K (by rw [tx_len];omega) (by rw [tx_take,List.take_left];omega)
 have w5:=whole_all (tx k 1 (l++[r])) K
 rw [tx_len] at w2 w5
 rw [tx_take] at w3
 have hl'1:(l++[r]).take (whole (tx k 1 (l++[r])) K)=l∨(l++[r]).take (whole (tx k 1 (l++[r])) K)=l++[r]:=by
  by_cases hw:whole (tx k 1 (l++[r])) K=l.length
  ·left;rw [hw,List.take_left]
  ·right;rw [List.take_of_length_le (by omega)]
 refine ⟨(l++[r]).take (whole (tx k 1 (l++[r])) K),⟨k,false,dk X X.size,bookNew,[],[],0⟩,?_,⟨g.ksz,?_,enterAll_take _ he2,⟨X,rfl,by have:=w_small (k:=k) (l:=l++[r]) (by omega) (l.length+1);rw [List.take_of_length_le (by omega)] at this;omega,l++[r],K,by omega,he2,by omega,hX,rfl⟩⟩,hl'1,?_,?_⟩
 ·rw [impl_Life_cut,E_impl_Life_cut,g.cnt,p_impl_BookActs (by rw [g.key,g.ksz];omega) hn,Option.bind_some,g.key,t1,h1,hcut,Option.bind_some,p_impl_Fallen (by rw [h1];exact Nat.le_of_ble_eq_true rfl),Option.bind_some]
  dsimp only
  rw [cond_true,p_impl_FileAt (by exact Nat.le_of_ble_eq_true rfl),Option.bind_some,show fileT (dk X (K:Int)) ⟨#[98,111,111,107]⟩=(X,true) from file_dk X _]
  dsimp only
  rw [show (fallenB L.fBox).fKey=k from g.key,p_impl_ReadBook (by rw [g.ksz];omega) (by omega),Option.bind_some,hrb]
  dsimp only
  have hd:decide ((((l++[r]).take (whole (tx k 1 (l++[r])) K)).length:Int) > (l.length:Int))=decide (((l++[r]).take (whole (tx k 1 (l++[r])) K)).length > l.length):=by
   rw [decide_eq_decide];omega
  rw [hd,hXs]
  cases decide (((l++[r]).take (whole (tx k 1 (l++[r])) K)).length > l.length)
  ·rw [cond_false,cond_false]
   show (impl_Life_tell ⟨⟨k,false,dk X (K:Int),bookNew,[],[],0⟩,L.fCodes,L.fReplies,L.fGives,L.fDone⟩ 10 ⟨#[]⟩).bind _=_
   rw [p_impl_Life_tell (l:=⟨⟨k,false,dk X (K:Int),bookNew,[],[],0⟩,L.fCodes,L.fReplies,L.fGives,L.fDone⟩) (show L.fCodes.length≤1000000 by omega) (show L.fReplies.length≤1000000 by omega)]
   rfl
  ·rw [cond_true,cond_true,cond_t (by rw [decide_eq_true_eq];omega)]
   show (impl_Life_tell ⟨⟨k,false,dk X (K:Int),bookNew,[],[],0⟩,L.fCodes,L.fReplies,L.fGives,L.fDone++[r]⟩ 10 ⟨#[]⟩).bind _=_
   rw [p_impl_Life_tell (l:=⟨⟨k,false,dk X (K:Int),bookNew,[],[],0⟩,L.fCodes,L.fReplies,L.fGives,L.fDone++[r]⟩) (show L.fCodes.length≤1000000 by omega) (show L.fReplies.length≤1000000 by omega)]
   rfl
 ·have h3:=g.len
  rw [List.length_take]
  omega
 ·intro z zs' e hz'
  have:=hk1 z zs' e hz'
  rw [List.take_of_length_le]
  rw [w5 (by omega)];omega
 ·intro e
  have h3:=hk0 e
  rcases hl'1 with h | h
  ·exact h
  ·have h4:=congrArg List.length h
   rw [List.length_take] at h4
   have h5:whole (tx k 1 (l++[r])) K=l.length+1:=by omega
   rw [h5,List.take_of_length_le (by omega)] at w3
   have hT:T.size=0:=by omega
   have h6:=congrArg List.length t2
   rw [bs_len,frameL_len] at h6
   omega
theorem rise_down {k:ByteArray} {l:List SRec} {b:SBox} (h:Down k l b):∃ b',impl_Rise b=some (b',true)∧Good k l b'∧b'.fSessions=[]∧b'.fLives=[]∧b'.fOpened=0∧b'.fBook=(enterAllB bookNew l).1:=by
 obtain ⟨X,rfl,hXs,l2,K,hl2,he2,hK,hX,hl⟩:=h.box
 have hXK:X.size=K:=by rw [←bs_len,hX,List.length_take];omega
 have hs2:=enterAll_sound he2
 have hm:=mount_dk (k:=k) (F:=X) (n:=X.size) hl2 hs2 he2 hK hX (by omega) (by omega)
 obtain ⟨w1,w2,w3⟩:=whole_le (tx k 1 l2) K
 rw [tx_take] at w3
 have hbk:enterAllB bookNew l=((enterAllB bookNew l).1,true):=Prod.ext rfl h.book
 have hpre:frs (tx k 1 l2)=frs (tx k 1 (l2.take (whole (tx k 1 l2) K)))++frs (tx k (1+((l2.take (whole (tx k 1 l2) K)).length:Int)) (l2.drop (whole (tx k 1 l2) K))):=by
  rw [←frs_app,←tx_app,List.take_append_drop]
 rw [←hl] at hm w3 hpre
 have hok:boxOkB ⟨k,false,dk X X.size,bookNew,[],[],0⟩=true:=fallen_ok (b:=⟨k,false,dk X X.size,bookNew,[],[],0⟩) h.ksz (diskOk1 (by omega) (by omega))
 have mk:∀ G:ByteArray,bs G=frs (tx k 1 l)→Good k l ⟨k,true,dk G G.size,(enterAllB bookNew l).1,[],[],0⟩:=fun G hG=>⟨h.ksz,rfl,rfl,⟨G,rfl,hG⟩,h.len,hbk,⟨Nat.zero_le _,rfl⟩,⟨Int.le_refl _,by show (0:Int)≤1000;omega⟩,⟨rfl,Nat.zero_le _⟩⟩
 have hR:=p_impl_Rise (b:=⟨k,false,dk X X.size,bookNew,[],[],0⟩) (Nat.le_of_ble_eq_true rfl) (fun f hf=>by
  have hf:f ∈ [(⟨nBook,X,(X.size:Int)⟩:SFile)]:=hf
  rw [List.mem_singleton] at hf
  rw [hf];show X.size≤_;omega) (Nat.zero_le _) (Nat.zero_le _) (Nat.zero_le _) (by show k.size≤_;rw [h.ksz];omega)
 rw [hR,riseT,hok]
 dsimp only
 rw [hm]
 dsimp only
 by_cases hc:((frs (tx k 1 l)).length:Int)=(X.size:Int)
 ·rw [beq_iff_eq.2 hc,cond_true]
  refine ⟨_,rfl,mk X ?_,rfl,rfl,rfl,rfl⟩
  rw [hX,hpre,←hXK,List.take_append_of_le_length (by omega),List.take_of_length_le (by omega)]
 ·rw [beq_eq_false_iff_ne.2 hc,cond_false]
  have hG:bs (X.extract 0 (frs (tx k 1 l)).length)=frs (tx k 1 l):=by
   rw [bs_extract,List.drop_zero,hX,List.take_take,Nat.min_eq_left w3,hpre,List.take_left]
  have hGs:(X.extract 0 (frs (tx k 1 l)).length).size=(frs (tx k 1 l)).length:=by rw [←bs_len,hG]
  generalize X.extract 0 (frs (tx k 1 l)).length=G at hG hGs
  rw [do_mend (by omega) (by omega) (by omega)]
  exact ⟨_,rfl,mk G hG,rfl,rfl,rfl,rfl⟩
theorem life_rise {k:ByteArray} {l:List SRec} {L:SLife} (h:Down k l L.fBox) (z1:L.fCodes.length≤1000) (z2:L.fReplies.length≤1000):∃ b',impl_Life_rise L=some ⟨b',L.fCodes++[0],L.fReplies++[⟨#[]⟩],L.fGives,L.fDone⟩∧Good k l b'∧b'.fSessions=[]∧b'.fLives=[]∧b'.fOpened=0∧b'.fBook=(enterAllB bookNew l).1:=by
 obtain ⟨b',h1,h2⟩:=rise_down h
 refine ⟨b',?_,h2⟩
 rw [impl_Life_rise,E_impl_Life_rise,h1,Option.bind_some]
 dsimp only
 rw [Bool.not_true,cond_false,p_impl_Life_tell (l:=⟨b',L.fCodes,L.fReplies,L.fGives,L.fDone⟩) (show L.fCodes.length≤1000000 by omega) (show L.fReplies.length≤1000000 by omega)]
 rfl
structure LS (k:ByteArray) (l:List SRec) (cs:List Int) (L:SLife):Prop where
 good:Good k l L.fBox
 codes:L.fCodes=cs
 few:cs.length≤60∧L.fReplies.length=cs.length∧L.fGives.length≤60∧L.fDone.length≤60
def evC (c:SCall):SEvent:=⟨c,false,[],false⟩
def opC:SCall:=⟨1,0,0,0,⟨#[]⟩,false,false⟩
def wdC (t:ByteArray):SCall:=⟨2,1,0,0,t,false,false⟩
def recTries (n:Int):SRec:=⟨2,⟨#[]⟩,n,⟨0,0,false,false,false,false,⟨#[]⟩,0⟩⟩
def One (x:Bool) (b:SBox):Prop:=b.fSessions=[⟨1,x⟩]∧b.fOpened=1
theorem One.at {x:Bool} {b:SBox} (h:One x b):atS b 1=((0:Nat):Int):=by rw [atS,h.1];rfl
theorem wd_ok {t:ByteArray} (h:t.size≤1000):callOk (wdC t)=true:=by
 rw [callOk,wdC]
 dsimp only
 rw [decide_eq_true (by omega:(t.size:Int)≤1000)];rfl
theorem ev_ok {c:SCall} (h:callOk c=true):eventOk (evC c)=true:=by rw [eventOk,evC];dsimp only;rw [h];rfl
theorem Good.sess {k:ByteArray} {l:List SRec} {b:SBox} (g:Good k l b) {S:List SSession} {o:Int} (hS:S.length≤3) (hs:sessR ⟨b.fKey,b.fUp,b.fDisk,b.fBook,S,b.fLives,o⟩ S.length 0=true) (ho:0≤o∧o≤1000):Good k l ⟨b.fKey,b.fUp,b.fDisk,b.fBook,S,b.fLives,o⟩:=
 ⟨g.ksz,g.key,g.up,g.disk,g.len,g.book,⟨hS,hs⟩,ho,⟨(livesR_same (b:=b) (c:=⟨b.fKey,b.fUp,b.fDisk,b.fBook,S,b.fLives,o⟩) rfl rfl _ _).trans g.liv.1,g.liv.2⟩⟩
theorem sess_one (k:ByteArray) (u:Bool) (d:SDisk) (B:SBook) (x:Bool) (L:List SLive) {o:Int} (h:o=1):sessR ⟨k,u,d,B,[⟨1,x⟩],L,o⟩ 1 0=true:=by subst h;rfl
theorem lives_keep {b:SBox} {k:ByteArray} {u:Bool} {d:SDisk} {B:SBook} {S:List SSession} {o:Int} (h:B.fThings=b.fBook.fThings):livesB ⟨k,u,d,B,S,b.fLives,o⟩=livesB b:=livesR_same (b:=b) (c:=⟨k,u,d,B,S,b.fLives,o⟩) rfl h _ _
theorem leaf_any {k:ByteArray} {l:List SRec} {b:SBox} (g:Good k l b) (t:Int):impl_LeafOf b t=some (leafB b t):=p_impl_LeafOf (by have:=g.liv.2;omega) (by have:=g.tng;omega)
theorem recTries_text {n:Int} (h:0≤n∧n≤3):(recText (recTries n)).2=true:=by
 rw [recText,show inR (recTries n).fNum 0 3=true from inR_iff.2 h]
 simp only [recTries,isZ,isE,show ((2:Int) == 1)=false from rfl,show ((2:Int) == 2)=true from rfl,cond_false,cond_true,beq_self_eq_true,Bool.and_self,Bool.and_true]
theorem enterB_tries {b:SBook} (hb:bookOk b=true) (hc:b.fCount<10000) {n:Int} (h:0≤n∧n≤3):enterB b (recTries n)=(⟨b.fWord,n,b.fThings,b.fLast,dig (b.fChain++(recText (recTries n)).1),b.fCount+1⟩,true):=by
 rw [enterB,hb,recTries_text h,decide_eq_false (by omega:¬ b.fCount≥10000)];rfl
theorem st_open {k:ByteArray} {l:List SRec} {cs:List Int} {L:SLife} (s:LS k l cs L) (h1:L.fBox.fSessions=[]) (h2:L.fBox.fOpened=0) (w:Int) (hc:cs.length<60):∃ L',impl_Life_call L (evC opC) w=some L'∧LS k l (cs++[0]) L'∧One false L'.fBox∧L'.fBox.fBook=L.fBox.fBook∧L'.fBox.fLives=L.fBox.fLives∧L'.fDone=L.fDone∧L'.fGives=L.fGives:=by
 have g:=s.good
 obtain ⟨f1,f2,f3,f4⟩:=s.few
 obtain ⟨t,hp⟩:=plan_open (c:=opC) g rfl rfl (by rw [h1];exact Nat.le_of_ble_eq_true rfl) (by rw [h2];decide)
 have hcar:=carry_open (c:=opC) (leaf:=leafB L.fBox 0) g.bsz rfl
 rw [h1,h2,List.nil_append,Int.zero_add] at hcar
 refine ⟨_,call_none (e:=evC opC) (w:=w) hp (leaf_any g _) hcar rfl (by rw [s.codes];omega) (by omega),⟨g.sess (Nat.le_of_ble_eq_true rfl) (sess_one _ _ _ _ _ _ rfl) (by omega),by rw [s.codes],?_⟩,⟨rfl,rfl⟩,rfl,rfl,rfl,rfl⟩
 dsimp only
 rw [List.length_append,List.length_append,List.length_singleton,List.length_singleton]
 omega
theorem set_one (b:SBox) (x:Bool) (h:One x b):b.fSessions.set 0 ⟨(b.fSessions.getD 0 ⟨0,false⟩).fId,true⟩=[⟨1,true⟩]:=by rw [h.1];rfl
theorem st_word {k:ByteArray} {l:List SRec} {cs:List Int} {L:SLife} {x:Bool} {t:ByteArray} (s:LS k l cs L) (h1:One x L.fBox) (ht:t.size≤1000) (w:Int) (hc:cs.length<60) (hl:l.length<50) (hd:L.fDone.length<60):∃ L',impl_Life_call L (evC (wdC t)) w=some L'∧
  ((L.fBox.fBook.fTries=3∧LS k l (cs++[3]) L'∧L'.fBox=L.fBox∧L'.fDone=L.fDone)∨
   (L.fBox.fBook.fTries<3∧dig t≠L.fBox.fBook.fWord∧LS k (l++[recTries (L.fBox.fBook.fTries+1)]) (cs++[4]) L'∧One x L'.fBox∧L'.fBox.fBook=(enterB L.fBox.fBook (recTries (L.fBox.fBook.fTries+1))).1∧L'.fDone=L.fDone++[recTries (L.fBox.fBook.fTries+1)])∨
   (L.fBox.fBook.fTries=0∧dig t=L.fBox.fBook.fWord∧LS k l (cs++[0]) L'∧One true L'.fBox∧L'.fBox.fBook=L.fBox.fBook∧L'.fDone=L.fDone∧L'.fBox.fLives=L.fBox.fLives∧L'.fGives=L.fGives)∨
   (0<L.fBox.fBook.fTries∧L.fBox.fBook.fTries<3∧dig t=L.fBox.fBook.fWord∧LS k (l++[recTries 0]) (cs++[0]) L'∧One true L'.fBox∧L'.fBox.fBook=(enterB L.fBox.fBook (recTries 0)).1∧L'.fDone=L.fDone++[recTries 0])):=by
 have g:=s.good
 obtain ⟨f1,f2,f3,f4⟩:=s.few
 obtain ⟨t1,t2⟩:=(bookOk_iff.1 g.bok).2.2.1
 have hcn:=g.cnt
 have hll:=g.len.2
 have hp:=plan_word (c:=wdC t) g (wd_ok ht) rfl h1.at
 have few:∀ {b:SBox} {c:Int} {q:ByteArray} {d:List SRec},d.length≤60→(cs++[c]).length≤60∧(⟨b,L.fCodes++[c],L.fReplies++[q],L.fGives,d⟩:SLife).fReplies.length=(cs++[c]).length∧(⟨b,L.fCodes++[c],L.fReplies++[q],L.fGives,d⟩:SLife).fGives.length≤60∧(⟨b,L.fCodes++[c],L.fReplies++[q],L.fGives,d⟩:SLife).fDone.length≤60:=fun hd=>by
  dsimp only
  rw [List.length_append,List.length_append,List.length_singleton,List.length_singleton]
  omega
 have go1:(L.fDone++[recTries 0]).length≤60:=by rw [List.length_append,List.length_singleton];omega
 have ent:∀ n:Int,0≤n∧n≤3→∃ d,impl_Box_enter L.fBox (recTries n)=some (true,⟨L.fBox.fKey,L.fBox.fUp,d,(enterB L.fBox.fBook (recTries n)).1,L.fBox.fSessions,L.fBox.fLives,L.fBox.fOpened⟩)∧Good k (l++[recTries n]) ⟨L.fBox.fKey,L.fBox.fUp,d,(enterB L.fBox.fBook (recTries n)).1,L.fBox.fSessions,L.fBox.fLives,L.fBox.fOpened⟩:=fun n hn=>by
  have he:=enterB_tries g.bok (by omega) hn
  refine good_enter g hl (show n≤9223372036854775807 by omega) (by rw [he]) (fun d=>?_)
  rw [he]
  exact Eq.trans (lives_keep (b:=L.fBox) (B:=⟨L.fBox.fBook.fWord,n,L.fBox.fBook.fThings,L.fBox.fBook.fLast,dig (L.fBox.fBook.fChain++(recText (recTries n)).1),L.fBox.fBook.fCount+1⟩) rfl) g.liv.1
 by_cases c3:L.fBox.fBook.fTries=3
 ·have hw:wordT L.fBox (wdC t)=noR 3:=by rw [wordT,c3];rfl
  rw [hw] at hp
  have hcar:=carry_no (c:=wdC t) (code:=3) (leaf:=leafB L.fBox 0) g.bsz rfl
  exact ⟨_,call_none (e:=evC (wdC t)) (w:=w) hp (leaf_any g _) hcar rfl (by rw [s.codes];omega) (by omega),.inl ⟨c3,⟨g,by rw [s.codes],few (by omega)⟩,rfl,rfl⟩⟩
 ·have hg3:decide (L.fBox.fBook.fTries≥3)=false:=decide_eq_false (by omega)
  by_cases hm:dig t=L.fBox.fBook.fWord
  ·have hm2:((dig t).toList == L.fBox.fBook.fWord.toList)=true:=by rw [hm];exact toList_self _
   by_cases c0:L.fBox.fBook.fTries=0
   ·have hw:wordT L.fBox (wdC t)=([],0,⟨#[]⟩):=by rw [wordT,hg3,show (wdC t).fText=t from rfl,hm2,c0];rfl
    rw [hw] at hp
    have hcar:=carry_word (c:=wdC t) (leaf:=leafB L.fBox 0) g.bsz rfl h1.at (by rw [h1.1];exact Nat.le_of_ble_eq_true rfl)
    rw [set_one _ _ h1,h1.2] at hcar
    exact ⟨_,call_none (e:=evC (wdC t)) (w:=w) hp (leaf_any g _) hcar rfl (by rw [s.codes];omega) (by omega),.inr (.inr (.inl ⟨c0,hm,⟨g.sess (Nat.le_of_ble_eq_true rfl) (sess_one _ _ _ _ _ _ rfl) (by omega),by rw [s.codes],few (by omega)⟩,⟨rfl,rfl⟩,rfl,rfl,rfl,rfl⟩))⟩
   ·have hw:wordT L.fBox (wdC t)=([recTries 0],0,⟨#[]⟩):=by rw [wordT,hg3,show (wdC t).fText=t from rfl,hm2,beq_eq_false_iff_ne.2 c0];rfl
    rw [hw] at hp
    obtain ⟨d,e1,e2⟩:=ent 0 (by omega)
    have hO:One x ⟨L.fBox.fKey,L.fBox.fUp,d,(enterB L.fBox.fBook (recTries 0)).1,L.fBox.fSessions,L.fBox.fLives,L.fBox.fOpened⟩:=h1
    have hcar:=carry_word (c:=wdC t) (leaf:=leafB L.fBox 0) e2.bsz rfl hO.at (by rw [hO.1];exact Nat.le_of_ble_eq_true rfl)
    rw [set_one _ _ hO] at hcar
    exact ⟨_,call_one (e:=evC (wdC t)) (w:=w) hp rfl (leaf_any g _) e1 hcar (by rw [s.codes];omega) (by omega) (by omega) (by omega),.inr (.inr (.inr ⟨by omega,by omega,hm,⟨e2.sess (Nat.le_of_ble_eq_true rfl) (sess_one _ _ _ _ _ _ h1.2) g.opn,by rw [s.codes],few go1⟩,⟨rfl,h1.2⟩,rfl,rfl⟩))⟩
  ·have hm2:((dig t).toList == L.fBox.fBook.fWord.toList)=false:=by rw [toList_inj];exact decide_eq_false hm
   have hw:wordT L.fBox (wdC t)=([recTries (L.fBox.fBook.fTries+1)],4,sayR 4):=by rw [wordT,hg3,show (wdC t).fText=t from rfl,hm2];rfl
   rw [hw] at hp
   obtain ⟨d,e1,e2⟩:=ent (L.fBox.fBook.fTries+1) (by omega)
   have hcar:=carry_no (c:=wdC t) (code:=4) (leaf:=leafB L.fBox 0) e2.bsz rfl
   exact ⟨_,call_one (e:=evC (wdC t)) (w:=w) hp rfl (leaf_any g _) e1 hcar (by rw [s.codes];omega) (by omega) (by omega) (by omega),.inr (.inl ⟨by omega,hm,⟨e2,by rw [s.codes],few (by rw [List.length_append,List.length_singleton];omega)⟩,h1,rfl,rfl⟩)⟩
theorem call_cut {L L':SLife} {e:SEvent} {w code:Int} {s:ByteArray} {r:SRec} (hp:impl_Plan L.fBox e.fCall=some ([r],code,s)) (hcut:e.fCut=true) (hc:impl_Life_cut L r e.fLeft=some L'):impl_Life_call L e w=some L':=by
 rw [impl_Life_call,E_impl_Life_call,hp,Option.bind_some,hcut,cond_true,cond_t (by rfl),cond_t (by rfl),show ([r],code,s).1.getD (0:Int).toNat (⟨0,⟨#[]⟩,0,⟨0,0,false,false,false,false,⟨#[]⟩,0⟩⟩:SRec)=r from rfl,hc];rfl
theorem life_step {e:SEvent} {es:List SEvent} {i:Int} {L L':SLife} (hr:e.fRise=false) (h:impl_Life_call L e i=some L'):lifeM (e::es) i L=lifeM es (i+1) L':=by rw [lifeM,hr,cond_false,h];rfl
theorem life_up {e:SEvent} {es:List SEvent} {i:Int} {L L':SLife} (hr:e.fRise=true) (h:impl_Life_rise L=some L'):lifeM (e::es) i L=lifeM es (i+1) L':=by rw [lifeM,hr,cond_true,h];rfl
theorem life_begin {k w:ByteArray} (hk:k.size=32) (hw:w.size≤20):LS k [recWord w] [] (life0 k w)∧(life0 k w).fBox.fSessions=[]∧(life0 k w).fBox.fOpened=0∧(life0 k w).fBox.fLives=[]∧(life0 k w).fBox.fBook.fTries=0∧(life0 k w).fBox.fBook.fWord=dig w∧(life0 k w).fBox.fBook.fThings=[]∧(life0 k w).fBox.fBook.fLast=0:=by
 obtain ⟨h1,h2,h3,h4,h5,h6⟩:=good_new hk hw
 have he:enterB bookNew (recWord w)=(⟨dig w,0,[],0,dig (bookNew.fChain++(recText (recWord w)).1),0+1⟩,true):=by
  rw [enterB,bookNew_ok,show (recText (recWord w)).2=true by rw [recWord_text],show decide (bookNew.fCount≥10000)=false from rfl];rfl
 rw [he] at h6
 refine ⟨⟨h2,rfl,⟨Nat.zero_le _,rfl,Nat.zero_le _,Nat.le_of_ble_eq_true rfl⟩⟩,h3,h5,h4,?_,?_,?_,?_⟩
 all_goals rw [show (life0 k w).fBox.fBook=(boxNewT k w).1.fBook from rfl,h6]
theorem GAK {b:SBox} {c:SCall} {leaf:Int} (h:BSz b) (h1:(c.fOp == 1)=false) (h13:(c.fOp == 13)=false) (h2:(c.fOp == 2)=false) (h5:(c.fOp == 5)=false) (h9:(c.fOp == 9)=false):impl_Carry b c 0 leaf=some b:=by
 obtain ⟨m,hm⟩:∃ m,gas=m+1+1:=⟨gas - 2,rfl⟩
 have hs:=h.s
 have ht:=h.t
 rw [impl_Carry,E_impl_Carry,h.copy,Option.bind_some,cond_f (by rfl),p_impl_sessionAt (by omega),Option.bind_some,p_impl_ThingOf (by omega),Option.bind_some,h1,cond_false,h13,cond_false,h2,cond_false,hm,Zf]
 simp only [Yf]
 rw [h5,cond_false,Zf]
 simp only [Yf]
 rw [h9];rfl
theorem NAC {b:SBox} {c:SCall} {x:SThing} {leaf:Int} (h:BSz b) (h5:c.fOp=5) (hx:thingIn b.fBook.fThings c.fThing=some x) (hk:x.fKind=2) (hl:0≤leaf∧leaf<x.fNext) (hn:x.fNext≤1000):impl_Carry b c 0 leaf=some ⟨b.fKey,b.fUp,b.fDisk,b.fBook,b.fSessions,Zk b.fLives x.fId (leaf+1),b.fOpened⟩:=by
 obtain ⟨m,hm⟩:∃ m,gas=m+1+1:=⟨gas - 2,rfl⟩
 have hs:=h.s
 have ht:=h.t
 rw [impl_Carry,E_impl_Carry,h.copy,Option.bind_some,cond_f (by rfl),p_impl_sessionAt (by omega),Option.bind_some,p_impl_ThingOf (by omega),Option.bind_some,cond_f (by rw [h5];rfl),cond_f (by rw [h5];rfl),cond_f (by rw [h5];rfl),hm,Zf,hx]
 simp only [Yf]
 rw [cond_t (by rw [h5];rfl),cond_true,cond_t (by rw [hk];rfl),cond_t (by rw [decide_eq_true_eq];omega),cond_t (by rw [decide_eq_true_eq];omega),w64_id (by omega) (by omega)]
 show (Na b x.fId (leaf+1)).bind _=_
 rw [DAK (by have:=h.l;omega)];rfl
theorem HAK {b:SBox} {c:SCall} {leaf:Int} {j:Nat} (h:BSz b) (ho:c.fOp=13) (hj:atS b c.fSession=(j:Int)) (hlt:j<b.fSessions.length):impl_Carry b c 0 leaf=some ⟨b.fKey,b.fUp,b.fDisk,b.fBook,b.fSessions.take j++b.fSessions.drop (j+1),b.fLives,b.fOpened⟩:=by
 have h1:=h.s
 have h2:=h.t
 have hw:w64 ((j:Int)+1)=((j+1:Nat):Int):=by rw [w64_id (by omega) (by omega)];rfl
 have e2:(b.fSessions.drop (j+1)).take (b.fSessions.length - (j+1))=b.fSessions.drop (j+1):=List.take_of_length_le (by rw [List.length_drop];omega)
 rw [impl_Carry,E_impl_Carry,h.copy,Option.bind_some,cond_f (by rfl),p_impl_sessionAt (by omega),Option.bind_some,p_impl_ThingOf (by omega),Option.bind_some,cond_f (by rw [ho];rfl),cond_t (by rw [ho];rfl),hj,cond_t (by rw [decide_eq_true_eq];omega),cond_t (by rw [Bool.and_eq_true,decide_eq_true_eq,decide_eq_true_eq];omega),hw,cond_t (by rw [Bool.and_eq_true,decide_eq_true_eq,decide_eq_true_eq];omega),Int.toNat_natCast,Int.toNat_natCast,e2,cond_t (by rw [Bool.and_eq_true,decide_eq_true_eq,decide_eq_true_eq,List.length_drop];omega),Nat.sub_zero]
def TY (k:Int) (t:ByteArray):SCall:=⟨4,1,0,k,t,false,false⟩
def TT (t:ByteArray):SCall:=⟨5,1,1,0,t,false,false⟩
def VZ:SCall:=⟨13,1,0,0,⟨#[]⟩,false,false⟩
def TB (v:ByteArray) (n:Int):SThing:=⟨1,2,true,false,true,false,v,n⟩
structure SK (k W:ByteArray) (cs:List Int) (v:ByteArray) (n:Int) (lv:List SLive) (G:List SGiven) (l:List SRec) (L:SLife):Prop where
 st:LS k l cs L
 ln:l.length≤cs.length+1∧L.fDone.length≤cs.length+1
 one:One true L.fBox
 tng:L.fBox.fBook.fThings=[TB v n]∧L.fBox.fBook.fLast=1
 wd:L.fBox.fBook.fTries=0∧L.fBox.fBook.fWord=W
 lv:L.fBox.fLives=lv
 gv:L.fGives=G
theorem Good.OAC {k:ByteArray} {l:List SRec} {b:SBox} (g:Good k l b) {V:List SLive} (hV:V.length≤8) (hs:livesB ⟨b.fKey,b.fUp,b.fDisk,b.fBook,b.fSessions,V,b.fOpened⟩=true):Good k l ⟨b.fKey,b.fUp,b.fDisk,b.fBook,b.fSessions,V,b.fOpened⟩:=
 ⟨g.ksz,g.key,g.up,g.disk,g.len,g.book,⟨g.ses.1,(sessR_same (b:=b) (c:=⟨b.fKey,b.fUp,b.fDisk,b.fBook,b.fSessions,V,b.fOpened⟩) rfl rfl _ _).trans g.ses.2⟩,g.opn,⟨hs,hV⟩⟩
theorem PAC {b:SBox} {v:ByteArray} {n p:Int} (hl:b.fLives=[⟨1,p⟩]) (ht:b.fBook.fThings=[TB v n]) (hp:0≤p∧p≤n):livesB b=true:=by
 rw [livesB,hl]
 show livesR b 1 0=true
 rw [livesR,liveAt,hl,ht]
 have h:inR p 0 n=true:=inR_iff.2 hp
 show (((2:Int) == 2 && (inR p 0 n && ((0:Nat) == 0 || _))) && true)=true
 rw [h];rfl
theorem QAC {b:SBox} (hl:b.fLives=[]):livesB b=true:=by rw [livesB,hl];rfl
theorem IAK {l:SLife} {e:SEvent} {w leaf:Int} {s:ByteArray} {b2:SBox} (hp:impl_Plan l.fBox e.fCall=some ([],0,s)) (hl:impl_LeafOf l.fBox e.fCall.fThing=some leaf) (hc:impl_Carry l.fBox e.fCall 0 leaf=some b2) (h5:(e.fCall.fOp == 5)=true) (z1:l.fCodes.length≤1000) (z2:l.fReplies.length≤1000) (z4:l.fGives.length≤1000) :
  impl_Life_call l e w=some ⟨b2,l.fCodes++[0],l.fReplies++[s],l.fGives++[⟨e.fCall.fThing,leaf,w⟩],l.fDone⟩:=by
 obtain ⟨m,hm⟩:∃ m,gas=m+1:=⟨gas - 1,rfl⟩
 rw [impl_Life_call,E_impl_Life_call,hp,Option.bind_some,hl,hm]
 have key:∀ o,o=L_impl_Life_call (m+1) (.c0 w 0 s leaf ((([]:List SRec).length:Nat):Int) 0 l.fBox.fKey l.fBox.fUp l.fBox.fBook.fWord l.fBox.fBook.fTries l.fBox.fBook.fLast l.fBox.fBook.fChain l.fBox.fBook.fCount l.fBox.fOpened e [] l.fBox.fDisk.fFiles l.fBox.fBook.fThings l.fBox.fSessions l.fBox.fLives l.fCodes l.fReplies l.fGives l.fDone)→o=some ⟨b2,l.fCodes++[0],l.fReplies++[s],l.fGives++[⟨e.fCall.fThing,leaf,w⟩],l.fDone⟩:=by
  intro o ho
  rw [ho,L_impl_Life_call]
  simp only [B_impl_Life_call]
  rw [cond_f (by rfl)]
  show (impl_Carry l.fBox e.fCall 0 leaf).bind _=_
  rw [hc,Option.bind_some,p_impl_Life_tell (l:=⟨b2,l.fCodes,l.fReplies,l.fGives,_⟩) (show l.fCodes.length≤1000000 by omega) (show l.fReplies.length≤1000000 by omega),Option.bind_some,h5,cond_true,cond_t (by rfl),cond_t (by rw [decide_eq_true_eq];show (l.fGives.length+1)*24≤_;omega)];rfl
 cases e.fCut
 ·exact key _ rfl
 ·exact key _ rfl
theorem JAK {v:ByteArray} {n m:Int} (h:n≤m):grown (TB v n) (TB v m)=true:=by
 simp only [grown,TB,beq_self_eq_true,Bool.true_and,Bool.not_false,Bool.or_true,Bool.true_or,Bool.and_true]
 exact decide_eq_true h
theorem Xz {cs:List Int} {L:SLife} {c:Int} {q:ByteArray} {b:SBox} {G:List SGiven} {D:List SRec} (h1:cs.length<60) (h2:L.fReplies.length=cs.length) (h3:G.length≤60) (h4:D.length≤60):(cs++[c]).length≤60∧(⟨b,L.fCodes++[c],L.fReplies++[q],G,D⟩:SLife).fReplies.length=(cs++[c]).length∧(⟨b,L.fCodes++[c],L.fReplies++[q],G,D⟩:SLife).fGives.length≤60∧(⟨b,L.fCodes++[c],L.fReplies++[q],G,D⟩:SLife).fDone.length≤60:=by
 dsimp only
 rw [List.length_append,List.length_append,List.length_singleton,List.length_singleton]
 omega
theorem KAK {k W t:ByteArray} {l:List SRec} {cs:List Int} {L:SLife} (s:LS k l cs L) (hl:l.length≤cs.length+1) (hd:L.fDone.length≤cs.length+1) (h1:One true L.fBox) (ht:L.fBox.fBook.fThings=[]) (hlast:L.fBox.fBook.fLast=0) (h0:L.fBox.fBook.fTries=0) (hw:L.fBox.fBook.fWord=W) (hv:L.fBox.fLives=[]) (hg:L.fGives=[]) (hz:t.size≤100) (w:Int) (hc:cs.length<20) :
  ∃ L' v l',impl_Life_call L (evC (TY 2 t)) w=some L'∧v.size=32∧SK k W (cs++[0]) v 0 [] [] l' L':=by
 have g:=s.good
 obtain ⟨f1,f2,f3,f4⟩:=s.few
 have hcn:=g.cnt
 have hok:callOk (TY 2 t)=true:=by
  rw [callOk,TY]
  dsimp only
  rw [decide_eq_true (by omega:(t.size:Int)≤1000)];rfl
 have hp:=(Pq (c:=TY 2 t) (j:=0) g hok rfl rfl rfl h1.at (by rw [h1.1];exact Nat.le_refl _) (by rw [h1.1];rfl)).1 rfl
 obtain ⟨x,q,e1,e2⟩:=KAC (b:=L.fBox) (c:=TY 2 t) (by rw [ht];exact Nat.le_of_ble_eq_true rfl) (by omega) (show t.size≤1000 by omega) (.inl rfl)
 rcases e2 with ⟨_,v,hvz,rfl⟩ | ⟨e3,_⟩
 ·have hX:newX L.fBox (TY 2 t) ⟨0,2,true,false,true,false,v,0⟩=TB v 0:=by rw [newX,hlast];rfl
  rw [hX] at e1
  rw [e1,Option.bind_some] at hp
  have he:=EAK (x:=TB v 0) g.bok (by omega) (Qq hvz (by omega)) ht (by rw [hlast];rfl)
  obtain ⟨d,b1,b2⟩:=good_enter (r:=PY (TB v 0)) g (by omega) (show (0:Int)≤_ by omega) (by rw [he]) (fun d=>QAC hv)
  have hcar:=GAK (c:=TY 2 t) (leaf:=leafB L.fBox 0) b2.bsz rfl rfl rfl rfl rfl
  refine ⟨_,v,l++[PY (TB v 0)],call_one (e:=evC (TY 2 t)) (w:=w) hp rfl (leaf_any g _) b1 hcar (by rw [s.codes];omega) (by omega) (by omega) (by omega),hvz,⟨⟨b2,by rw [s.codes],?_⟩,⟨?_,?_⟩,h1,?_,?_,hv,hg⟩⟩
  ·exact Xz (by omega) f2 f3 (by rw [List.length_append,List.length_singleton];omega)
  ·rw [List.length_append,List.length_append,List.length_singleton,List.length_singleton];omega
  ·show (L.fDone++[PY (TB v 0)]).length≤_
   rw [List.length_append,List.length_append,List.length_singleton,List.length_singleton];omega
  ·show (enterB L.fBox.fBook (PY (TB v 0))).1.fThings=_∧(enterB L.fBox.fBook (PY (TB v 0))).1.fLast=_
   rw [he];exact ⟨rfl,rfl⟩
  ·show (enterB L.fBox.fBook (PY (TB v 0))).1.fTries=_∧(enterB L.fBox.fBook (PY (TB v 0))).1.fWord=_
   rw [he];exact ⟨h0,hw⟩
 ·exact absurd e3 (by show ¬ (2:Int)=3;decide)
theorem RAC {t:ByteArray} (h:t.size≤100):callOk (TT t)=true:=by
 rw [callOk,TT]
 dsimp only
 rw [decide_eq_true (by omega:(t.size:Int)≤1000)];rfl
theorem SAC {k W t v:ByteArray} {l:List SRec} {cs:List Int} {n:Int} {G:List SGiven} {L:SLife} (s:SK k W cs v n [] G l L) (hv:v.size=32) (hn:0≤n∧n+3≤16) (hz:t.size≤100) (w:Int) (hc:cs.length<20) (hG:G.length<20) :
  ∃ L' l',impl_Life_call L (evC (TT t)) w=some L'∧SK k W (cs++[0]) v (n+3) [⟨1,n+1⟩] (G++[⟨1,n,w⟩]) l' L':=by
 obtain ⟨st,⟨hl,hd⟩,h1,⟨ht,hlast⟩,⟨h0,hw⟩,hlv,hg⟩:=s
 have g:=st.good
 obtain ⟨f1,f2,f3,f4⟩:=st.few
 have hcn:=g.cnt
 have hin:thingIn L.fBox.fBook.fThings (TT t).fThing=some (TB v n):=by rw [ht];rfl
 have hp:=(Pq (c:=TT t) (j:=0) g (RAC hz) rfl rfl rfl h1.at (by rw [h1.1];exact Nat.le_refl _) (by rw [h1.1];rfl)).2 rfl rfl rfl _ hin
 obtain ⟨q,e1⟩:=LAC (c:=TT t) (x:=TB v n) (leaf:=n) g (show t.size≤1000 by omega) rfl (by rw [ht];rfl) (Qq hv (by omega)) rfl rfl hv (show 0≤n∧n≤16 by omega) (by rw [leafX,hlv];rfl) (by omega)
 rw [show (n != (TB v n).fNext)=false from bne_self_eq_false n,cond_false,show Uz (TB v n)=TB v (n+3) by rw [Uz];show (⟨1,2,true,false,true,false,v,ite (16<n+3) 16 (n+3)⟩:SThing)=_;rw [if_neg (by omega)];rfl] at e1
 rw [e1,Option.bind_some] at hp
 have hlf:impl_LeafOf L.fBox (TT t).fThing=some n:=by
  rw [leaf_any g,leafB,hin]
  show some (bif (2:Int) == 2 then leafX L.fBox (TB v n) else -1)=_
  rw [leafX,hlv];rfl
 have he:=FAK (x:=TB v n) (y:=TB v (n+3)) g.bok (by omega) (Qq hv (by omega)) ht rfl (JAK (by omega))
 obtain ⟨d,b1,b2⟩:=good_enter (r:=PY (TB v (n+3))) g (by omega) (show (0:Int)≤_ by omega) (by rw [he]) (fun d=>QAC hlv)
 have hcar:=NAC (c:=TT t) (x:=TB v (n+3)) (leaf:=n) b2.bsz rfl (by rw [he];rfl) rfl (show 0≤n∧n<n+3 by omega) (show n+3≤1000 by omega)
 have hlt:Zk L.fBox.fLives (TB v (n+3)).fId (n+1)=[⟨1,n+1⟩]:=by rw [hlv];rfl
 dsimp only at hcar
 rw [hlt] at hcar
 refine ⟨_,l++[PY (TB v (n+3))],call_one (e:=evC (TT t)) (w:=w) hp rfl hlf b1 hcar (by rw [st.codes];omega) (by omega) (by omega) (by omega),⟨⟨?_,by rw [st.codes],?_⟩,⟨?_,?_⟩,h1,?_,?_,rfl,?_⟩⟩
 ·exact b2.OAC (V:=[⟨1,n+1⟩]) (Nat.le_of_ble_eq_true rfl) (PAC (v:=v) (n:=n+3) (p:=n+1) rfl (by rw [he]) (by omega))
 ·refine Xz (by omega) f2 ?_ (by rw [List.length_append,List.length_singleton];omega)
  show (L.fGives++[_]).length≤60
  rw [List.length_append,List.length_singleton,hg];omega
 ·rw [List.length_append,List.length_append,List.length_singleton,List.length_singleton];omega
 ·show (L.fDone++[PY (TB v (n+3))]).length≤_
  rw [List.length_append,List.length_append,List.length_singleton,List.length_singleton];omega
 ·show (enterB L.fBox.fBook (PY (TB v (n+3)))).1.fThings=_∧(enterB L.fBox.fBook (PY (TB v (n+3)))).1.fLast=_
  rw [he];exact ⟨rfl,hlast⟩
 ·show (enterB L.fBox.fBook (PY (TB v (n+3)))).1.fTries=_∧(enterB L.fBox.fBook (PY (TB v (n+3)))).1.fWord=_
  rw [he];exact ⟨h0,hw⟩
 ·show L.fGives++[_]=_
  rw [hg];rfl
theorem Yz {k W t v:ByteArray} {l:List SRec} {cs:List Int} {n p:Int} {G:List SGiven} {L:SLife} (s:SK k W cs v n [⟨1,p⟩] G l L) (hv:v.size=32) (hp0:0≤p∧p<n) (hn:n≤16) (hz:t.size≤100) (w:Int) (hc:cs.length<20) (hG:G.length<20) :
  ∃ L',impl_Life_call L (evC (TT t)) w=some L'∧SK k W (cs++[0]) v n [⟨1,p+1⟩] (G++[⟨1,p,w⟩]) l L':=by
 obtain ⟨st,⟨hl,hd⟩,h1,⟨ht,hlast⟩,⟨h0,hw⟩,hlv,hg⟩:=s
 have g:=st.good
 obtain ⟨f1,f2,f3,f4⟩:=st.few
 have hin:thingIn L.fBox.fBook.fThings (TT t).fThing=some (TB v n):=by rw [ht];rfl
 have hp:=(Pq (c:=TT t) (j:=0) g (RAC hz) rfl rfl rfl h1.at (by rw [h1.1];exact Nat.le_refl _) (by rw [h1.1];rfl)).2 rfl rfl rfl _ hin
 obtain ⟨q,e1⟩:=LAC (c:=TT t) (x:=TB v n) (leaf:=p) g (show t.size≤1000 by omega) rfl (by rw [ht];rfl) (Qq hv (by omega)) rfl rfl hv (show 0≤n∧n≤16 by omega) (by rw [leafX,hlv];rfl) (by omega)
 rw [show (p != (TB v n).fNext)=true from bne_iff_ne.2 (show p≠n by omega),cond_true] at e1
 rw [e1,Option.bind_some] at hp
 have hlf:impl_LeafOf L.fBox (TT t).fThing=some p:=by
  rw [leaf_any g,leafB,hin]
  show some (bif (2:Int) == 2 then leafX L.fBox (TB v n) else -1)=_
  rw [leafX,hlv];rfl
 have hcar:=NAC (c:=TT t) (x:=TB v n) (leaf:=p) g.bsz rfl hin rfl (show 0≤p∧p<n by omega) (show n≤1000 by omega)
 have hlt:Zk L.fBox.fLives (TB v n).fId (p+1)=[⟨1,p+1⟩]:=by rw [hlv];rfl
 rw [hlt] at hcar
 refine ⟨_,IAK (e:=evC (TT t)) (w:=w) hp hlf hcar rfl (by rw [st.codes];omega) (by omega) (by omega),⟨⟨?_,by rw [st.codes],?_⟩,⟨?_,?_⟩,h1,⟨ht,hlast⟩,⟨h0,hw⟩,rfl,?_⟩⟩
 ·exact g.OAC (V:=[⟨1,p+1⟩]) (Nat.le_of_ble_eq_true rfl) (PAC (v:=v) (n:=n) (p:=p+1) rfl ht (by omega))
 ·refine Xz (by omega) f2 ?_ (by omega)
  rw [List.length_append,List.length_singleton,hg];omega
 ·rw [List.length_append];omega
 ·show L.fDone.length≤_
  rw [List.length_append];omega
 ·show L.fGives++[_]=_
  rw [hg];rfl
def Rq:SEvent:=⟨⟨0,0,0,0,⟨#[]⟩,false,false⟩,false,[],true⟩
theorem LAK {b:SBook} {x y:SThing} (hb:bookOk b=true) (hc:b.fCount<10000) (hy:thingOk y=true) (hv:b.fThings=[x]) (hx:x.fId=1) (hl:b.fLast=1) (hid:y.fId=2):(enterB b (PY y)).2=true:=by
 have hin:thingIn [x] y.fId=none:=by rw [hid];simp [thingIn,hx]
 have hp:putThing b y=some ([x,y],y.fId):=by
  rw [putThing,hv,hin]
  show (bif y.fId != b.fLast+1 || decide (([x].length:Int)≥8) then none else some ([x]++[y],y.fId))=_
  rw [hid,hl];rfl
 rw [enterB,hb,Vz hy,decide_eq_false (by omega:¬ b.fCount≥10000)]
 show Prod.snd (match putThing b y with | some p=>_ | none=>_)=_
 rw [hp]
theorem MAK {t:ByteArray} (h:t.size≤100):thingOk ⟨2,3,false,false,false,false,t,0⟩=true:=by
 rw [thingOk]
 simp only [inR_iff.2 (show (1:Int)≤2∧(2:Int)≤1000 by omega),decide_eq_true (by omega:(t.size:Int)≤100)]
 rfl
theorem NAK {n:Int} {t:ByteArray} (hn:n=2∨n=3) (h:t.size≤100):callOk (TY n t)=true:=by
 rw [callOk,TY]
 dsimp only
 rw [decide_eq_true (by omega:(t.size:Int)≤1000)]
 rcases hn with rfl | rfl <;> rfl
theorem OAK {k W t v:ByteArray} {l:List SRec} {cs:List Int} {n:Int} {lv:List SLive} {G:List SGiven} {L:SLife} (s:SK k W cs v n lv G l L) (hz:t.size≤100) (w:Int) (hc:cs.length<20) (hG:G.length<20) :
  ∃ L1 L2,impl_Life_call L ⟨TY 3 t,true,[],false⟩ w=some L1∧impl_Life_rise L1=some L2∧LS k l (cs++[10]++[0]) L2∧L2.fBox.fSessions=[]∧L2.fBox.fLives=[]∧L2.fBox.fOpened=0∧L2.fBox.fBook=L.fBox.fBook∧L2.fGives=G∧L2.fDone=L.fDone:=by
 obtain ⟨st,⟨hl,hd⟩,h1,⟨ht,hlast⟩,⟨h0,hw⟩,hlv,hg⟩:=s
 have g:=st.good
 obtain ⟨f1,f2,f3,f4⟩:=st.few
 have hcn:=g.cnt
 have hp:=(Pq (c:=TY 3 t) (j:=0) g (NAK (.inr rfl) hz) rfl rfl rfl h1.at (by rw [h1.1];exact Nat.le_refl _) (by rw [h1.1];rfl)).1 rfl
 obtain ⟨x,q,e1,e2⟩:=KAC (b:=L.fBox) (c:=TY 3 t) (by rw [ht];exact Nat.le_of_ble_eq_true rfl) (by omega) (show t.size≤1000 by omega) (.inr ⟨rfl,hz⟩)
 rcases e2 with ⟨e3,_⟩ | ⟨_,rfl⟩
 ·exact absurd e3 (by show ¬ (3:Int)=2;decide)
 ·have hX:newX L.fBox (TY 3 t) ⟨0,3,false,false,false,false,(TY 3 t).fText,0⟩=⟨2,3,false,false,false,false,t,0⟩:=by rw [newX,hlast];rfl
  rw [hX] at e1
  rw [e1,Option.bind_some] at hp
  have he:=LAK (y:=⟨2,3,false,false,false,false,t,0⟩) g.bok (by omega) (MAK hz) ht rfl hlast rfl
  obtain ⟨l',b',c1,c2,_,_,c5⟩:=life_cut (r:=PY ⟨2,3,false,false,false,false,t,0⟩) [] g (by omega) (show (0:Int)≤_ by omega) he (by rw [st.codes];omega) (by omega) (by omega)
  have c6:=c5 rfl
  subst c6
  rw [decide_eq_false (Nat.lt_irrefl _),cond_false] at c1
  obtain ⟨b2,u1,u2,u3,u4,u5,u6⟩:=life_rise (L:=⟨b',L.fCodes++[10],L.fReplies++[⟨#[]⟩],L.fGives,L.fDone⟩) c2 (by rw [List.length_append,List.length_singleton,st.codes];omega) (by rw [List.length_append,List.length_singleton];omega)
  refine ⟨_,_,call_cut (e:=⟨TY 3 t,true,[],false⟩) (w:=w) hp rfl c1,u1,⟨u2,by rw [st.codes],?_⟩,u3,u4,u5,by rw [u6,g.book],hg,rfl⟩
  dsimp only
  simp only [List.length_append,List.length_singleton]
  omega
theorem UAC {k t v:ByteArray} {l:List SRec} {cs:List Int} {T:List SThing} {a:Int} {L:SLife} (st:LS k l cs L) (hl:l.length≤cs.length+1) (hd:L.fDone.length≤cs.length+1) (h1:L.fBox.fSessions=[]) (h2:L.fBox.fOpened=0) (h3:L.fBox.fLives=[]) (h0:L.fBox.fBook.fTries=0) (hw:L.fBox.fBook.fWord=dig t) (hz:t.size≤100) (w:Int) (hc:cs.length<20) :
  ∃ L1 L2,impl_Life_call L (evC opC) w=some L1∧impl_Life_call L1 (evC (wdC t)) (w+1)=some L2∧LS k l (cs++[0]++[0]) L2∧One true L2.fBox∧L2.fBox.fBook=L.fBox.fBook∧L2.fBox.fLives=[]∧L2.fGives=L.fGives∧L2.fDone=L.fDone:=by
 obtain ⟨L1,e1,c1,c2,c3,c4,c5,c6⟩:=st_open st h1 h2 w (by omega)
 obtain ⟨L2,e2,d⟩:=st_word (t:=t) c1 c2 (by omega) (w+1) (by rw [List.length_append,List.length_singleton];omega) (by omega) (by rw [c5];omega)
 refine ⟨L1,L2,e1,e2,?_⟩
 rw [c3] at d
 rcases d with ⟨d1,_⟩ | ⟨_,d2,_⟩ | ⟨d1,d2,d3,d4,d5,d6,d7,d8⟩ | ⟨d1,_⟩
 ·omega
 ·exact absurd hw.symm d2
 ·exact ⟨d3,d4,d5,by rw [d7,c4,h3],by rw [d8,c6],by rw [d6,c5]⟩
 ·omega
theorem PAK {k W v:ByteArray} {l:List SRec} {cs:List Int} {n:Int} {lv:List SLive} {G:List SGiven} {L:SLife} (s:SK k W cs v n lv G l L) (w:Int) (hc:cs.length<20) :
  ∃ L',impl_Life_call L ⟨VZ,true,[],false⟩ w=some L'∧L'.fGives=G:=by
 obtain ⟨st,⟨hl,hd⟩,h1,⟨ht,hlast⟩,⟨h0,hw⟩,hlv,hg⟩:=s
 have g:=st.good
 obtain ⟨f1,f2,f3,f4⟩:=st.few
 have hs:=g.ses.1
 have hn:=g.cnt
 have hll:=g.len.2
 have hp:impl_Plan L.fBox VZ=some ([],0,⟨#[]⟩):=by
  rw [impl_Plan,E_impl_Plan,g.pOk,Option.bind_some,Bool.not_true,cond_false,g.up,Bool.not_true,cond_false,p_impl_CallOk,Option.bind_some,show callOk VZ=true from rfl,Bool.not_true,cond_false,cond_f (by rw [decide_eq_false_iff_not];omega),show (VZ.fOp == 1)=false from rfl,cond_false,p_impl_sessionAt (by omega),Option.bind_some,show VZ.fSession=1 from rfl,h1.at,cond_f (by rw [decide_eq_false_iff_not];omega),show (VZ.fOp == 13)=true from rfl,cond_true]
 have hcar:=HAK (c:=VZ) (leaf:=leafB L.fBox 0) (j:=0) g.bsz rfl h1.at (by rw [h1.1];exact Nat.le_refl _)
 exact ⟨_,call_none (e:=⟨VZ,true,[],false⟩) (w:=w) hp (leaf_any g _) hcar rfl (by rw [st.codes];omega) (by omega),hg⟩
def wT:ByteArray:=⟨#[119]⟩
def tT:ByteArray:=⟨#[116]⟩
def mT:ByteArray:=⟨#[109]⟩
def dT:ByteArray:=⟨#[100]⟩
theorem Zz {k:ByteArray} (hk:k.size=32):∃ v l L,v.size=32∧(∀ es,lifeM (evC opC::evC (wdC wT)::evC (TY 2 tT)::evC (TT mT)::es) 0 (life0 k wT)=lifeM es 4 L)∧SK k (dig wT) [0,0,0,0] v 3 [⟨1,1⟩] [⟨1,0,3⟩] l L:=by
 obtain ⟨s0,s1,s2,s3,s4,s5,s6,s7⟩:=life_begin (w:=wT) hk (Nat.le_of_ble_eq_true rfl)
 obtain ⟨L1,L2,e1,e2,d1,d2,d3,d4,d5,d6⟩:=UAC (t:=wT) (v:=k) (T:=[]) (a:=0) s0 (Nat.le_refl _) (Nat.le_refl _) s1 s2 s3 s4 s5 (Nat.le_of_ble_eq_true rfl) 0 (by decide)
 obtain ⟨L3,v,l,e3,hv,q3⟩:=KAK (W:=dig wT) (t:=tT) d1 (by decide) (by rw [d6];exact Nat.le_of_ble_eq_true rfl) d2 (by rw [d3,s6]) (by rw [d3,s7]) (by rw [d3,s4]) (by rw [d3,s5]) d4 (by rw [d5];rfl) (Nat.le_of_ble_eq_true rfl) (0+1+1) (by decide)
 obtain ⟨L4,l4,e4,q4⟩:=SAC (t:=mT) q3 hv (by omega) (Nat.le_of_ble_eq_true rfl) (0+1+1+1) (by decide) (by decide)
 refine ⟨v,l4,L4,hv,fun es=>?_,q4⟩
 rw [life_step rfl e1,life_step rfl e2,life_step rfl e3,life_step rfl e4];rfl
theorem O0 {k v:ByteArray} {l:List SRec} {cs:List Int} {lv:List SLive} {G:List SGiven} {L:SLife} (s:SK k (dig wT) cs v 3 lv G l L) (hv:v.size=32) (w:Int) (hc:cs.length<10) (hG:G.length<10):∃ L' b,lifeM [⟨TY 3 dT,true,[],false⟩,Rq,evC opC,evC (wdC wT),evC (TT mT),⟨VZ,true,[],false⟩] w L=some L'∧L'.fGives=G++[⟨1,3,b⟩]:=by
 obtain ⟨L1,L2,e1,e2,c1,c2,c3,c4,c5,c6,c7⟩:=OAK (t:=dT) s (Nat.le_of_ble_eq_true rfl) w (by omega) (by omega)
 have hlen:(cs++[10]++[(0:Int)]).length=cs.length+2:=by rw [List.length_append,List.length_append];rfl
 obtain ⟨L3,L4,e3,e4,d1,d2,d3,d4,d5,d6⟩:=UAC (t:=wT) (v:=k) (T:=[]) (a:=0) c1 (by have:=s.ln.1;omega) (by rw [c7];have:=s.ln.2;omega) c2 c4 c3 (by rw [c5,s.wd.1]) (by rw [c5,s.wd.2]) (Nat.le_of_ble_eq_true rfl) (w+1+1) (by omega)
 have hlen2:(cs++[10]++[(0:Int)]++[0]++[0]).length=cs.length+4:=by rw [List.length_append,List.length_append,hlen];rfl
 have q:SK k (dig wT) (cs++[10]++[0]++[0]++[0]) v 3 [] G l L4:=⟨d1,⟨by have:=s.ln.1;omega,by rw [d6,c7];have:=s.ln.2;omega⟩,d2,by rw [d3,c5];exact s.tng,by rw [d3,c5];exact s.wd,d4,by rw [d5,c6]⟩
 obtain ⟨L5,l5,e5,q5⟩:=SAC (t:=mT) q hv (by omega) (Nat.le_of_ble_eq_true rfl) (w+1+1+1+1) (by omega) (by omega)
 obtain ⟨L6,e6,q6⟩:=PAK q5 (w+1+1+1+1+1) (by rw [List.length_append,List.length_singleton];omega)
 refine ⟨L6,w+1+1+1+1,?_,q6⟩
 rw [life_step rfl e1,life_up rfl e2,life_step rfl e3,life_step rfl e4,life_step rfl e5,life_step rfl e6];rfl
theorem U0 {k w:ByteArray} {es:List SEvent} {L:SLife} (hk:k.size=32) (hw:w.size≤20) (hz:es.length≤40) (he:es.all eventOk=true) (h:lifeM es 0 (life0 k w)=some L):impl_RunLife k w es=some (L,true):=by
 rw [p_impl_RunLife (by omega) (by omega),(good_new hk hw).1,decide_eq_true hz,he,h];rfl
def Tc:List SEvent:=[evC opC,evC (wdC wT),evC (TY 2 tT),evC (TT mT)]
def WZ:List SEvent:=[⟨TY 3 dT,true,[],false⟩,Rq,evC opC,evC (wdC wT),evC (TT mT),⟨VZ,true,[],false⟩]
theorem Ib:Tc.all eventOk=true∧eventOk (evC (TT mT))=true∧WZ.all eventOk=true:=by
 have h:eventOk Rq=true:=by simp [eventOk,Rq,noCall]
 refine ⟨rfl,rfl,?_⟩
 rw [WZ,List.all_cons,List.all_cons,h];rfl
theorem QAK {k:ByteArray} (hk:k.size=32):∃ L a b,impl_RunLife k wT (Tc++WZ)=some (L,true)∧L.fGives=[⟨1,0,a⟩,⟨1,3,b⟩]:=by
 obtain ⟨v,l,L,hv,h1,q⟩:=Zz hk
 obtain ⟨L',b,h2,h3⟩:=O0 q hv 4 (by decide) (by decide)
 refine ⟨L',3,b,U0 hk (Nat.le_of_ble_eq_true rfl) (Nat.le_of_ble_eq_true rfl) (by rw [List.all_append,Ib.1,Ib.2.2];rfl) ?_,h3⟩
 exact (h1 _).trans h2
theorem RAK {k:ByteArray} (hk:k.size=32):∃ L a b c,impl_RunLife k wT (Tc++[evC (TT mT)]++WZ)=some (L,true)∧L.fGives=[⟨1,0,a⟩,⟨1,1,b⟩,⟨1,3,c⟩]:=by
 obtain ⟨v,l,L,hv,h1,q⟩:=Zz hk
 obtain ⟨L1,e1,q1⟩:=Yz (t:=mT) q hv (by omega) (by omega) (Nat.le_of_ble_eq_true rfl) 4 (by decide) (by decide)
 obtain ⟨L',b,h2,h3⟩:=O0 q1 hv (4+1) (by decide) (by decide)
 refine ⟨L',3,4,b,U0 hk (Nat.le_of_ble_eq_true rfl) (Nat.le_of_ble_eq_true rfl) (by rw [List.all_append,List.all_append,Ib.1,Ib.2.2,List.all_cons,Ib.2.1];rfl) ?_,h3⟩
 refine (h1 (evC (TT mT)::WZ)).trans ?_
 rw [life_step rfl e1];exact h2
theorem SAK {k:ByteArray} (hk:k.size=32):∃ L a b c d,impl_RunLife k wT (Tc++[evC (TT mT)]++[evC (TT mT)]++WZ)=some (L,true)∧L.fGives=[⟨1,0,a⟩,⟨1,1,b⟩,⟨1,2,c⟩,⟨1,3,d⟩]:=by
 obtain ⟨v,l,L,hv,h1,q⟩:=Zz hk
 obtain ⟨L1,e1,q1⟩:=Yz (t:=mT) q hv (by omega) (by omega) (Nat.le_of_ble_eq_true rfl) 4 (by decide) (by decide)
 obtain ⟨L2,e2,q2⟩:=Yz (t:=mT) q1 hv (by omega) (by omega) (Nat.le_of_ble_eq_true rfl) (4+1) (by decide) (by decide)
 obtain ⟨L',b,h2,h3⟩:=O0 q2 hv (4+1+1) (by decide) (by decide)
 refine ⟨L',3,4,4+1,b,U0 hk (Nat.le_of_ble_eq_true rfl) (Nat.le_of_ble_eq_true rfl) (by rw [List.all_append,List.all_append,List.all_append,Ib.1,Ib.2.2,List.all_cons,Ib.2.1];rfl) ?_,h3⟩
 refine (h1 (evC (TT mT)::evC (TT mT)::WZ)).trans ?_
 rw [life_step rfl e1,life_step rfl e2];exact h2
theorem law_FnSkips (x0:Unit):laws_FnSkips x0=some true:=by
 rw [laws_FnSkips,Zr,p_laws_big,Option.bind_some]
 cases decide ((codeL.length:Int) > 1048576)
 ·rw [cond_false]
  obtain ⟨ps,h2,hp,hpx⟩:=p_spec_DrawPlaces
  have hp0:ps.getD 0 0=ps[0]'(by omega):=getD_at (by omega) 0
  have hp1:ps.getD 1 0=ps[1]'(by omega):=getD_at (by omega) 0
  obtain ⟨b1,b2⟩:=hpx _ (List.getElem_mem (show 0<ps.length by omega))
  obtain ⟨b3,b4⟩:=hpx _ (List.getElem_mem (show 1<ps.length by omega))
  obtain ⟨n,hn⟩:∃ n:Nat,ps[0]'(by omega)=(n:Int):=⟨(ps[0]'(by omega)).toNat,by omega⟩
  have hlt:n<10000:=by omega
  have hws:(ofBytes (WY n)).size≤4:=by rw [ofBytes_size];exact VAC hlt
  rw [h2,Option.bind_some,cond_t (by rw [hp];rfl),show (0:Int).toNat=0 from rfl,hp0,hn,TAK hlt,Option.bind_some]
  generalize ofBytes (WY n)=w at hws
  rw [p_spec_DigestOf (by omega),Option.bind_some]
  have hk:=dig_size w
  generalize dig w=k at hk
  have hps:(decide ((0:Int)≤1) && decide ((1:Int)<(ps.length:Int)))=true:=by rw [hp];rfl
  obtain ⟨m,hm⟩:∃ m,gas=m+1+1+1:=⟨gas - 3,rfl⟩
  have hj:(ps[1]'(by omega)).tmod 3=0∨(ps[1]'(by omega)).tmod 3=1∨(ps[1]'(by omega)).tmod 3=2:=by
   rw [Int.tmod_eq_emod_of_nonneg (by omega)];omega
  have w1:w64 (0+1)=1:=by rw [w64_id (by omega) (by omega)];rfl
  have w2:w64 (1+1)=2:=by rw [w64_id (by omega) (by omega)];rfl
  have ww:∀ n:Int,0≤n→n<100→w64 n=n:=fun n h1 h2=>w64_id (by omega) (by omega)
  rw [hm]
  rcases hj with hj | hj | hj
  ·obtain ⟨L,a,b,r1,r2⟩:=QAK (k:=k) hk
   rw [Ua]
   simp only [Qa]
   rw [hps,cond_true,show (1:Int).toNat=1 from rfl,hp1,hj,cond_f (by rfl),cond_t (by rfl)]
   show (impl_RunLife k wT (Tc++WZ)).bind _=_
   rw [r1,Option.bind_some]
   dsimp only
   rw [Bool.not_true,cond_false,r2,p_impl_Leafs (by exact Nat.le_of_ble_eq_true rfl),Option.bind_some]
   rw [show (([⟨1,0,a⟩,⟨1,3,b⟩]:List SGiven).length:Int)=2 from rfl,ww (2+0) (by omega) (by omega),ww (2 - 1) (by omega) (by omega),ww (2 - 2) (by omega) (by omega)]
   rfl
  ·obtain ⟨L,a,b,c,r1,r2⟩:=RAK (k:=k) hk
   rw [Ua]
   simp only [Qa]
   rw [hps,cond_true,show (1:Int).toNat=1 from rfl,hp1,hj,cond_t (by rfl),cond_t (by rfl),w1]
   rw [Ua]
   simp only [Qa]
   rw [hps,cond_true,show (1:Int).toNat=1 from rfl,hp1,hj,cond_f (by rfl),cond_t (by rfl)]
   show (impl_RunLife k wT (Tc++[evC (TT mT)]++WZ)).bind _=_
   rw [r1,Option.bind_some]
   dsimp only
   rw [Bool.not_true,cond_false,r2,p_impl_Leafs (by exact Nat.le_of_ble_eq_true rfl),Option.bind_some]
   rw [show (([⟨1,0,a⟩,⟨1,1,b⟩,⟨1,3,c⟩]:List SGiven).length:Int)=3 from rfl,ww (2+1) (by omega) (by omega),ww (3 - 1) (by omega) (by omega),ww (3 - 2) (by omega) (by omega)]
   rfl
  ·obtain ⟨L,a,b,c,d,r1,r2⟩:=SAK (k:=k) hk
   rw [Ua]
   simp only [Qa]
   rw [hps,cond_true,show (1:Int).toNat=1 from rfl,hp1,hj,cond_t (by rfl),cond_t (by rfl),w1]
   rw [Ua]
   simp only [Qa]
   rw [hps,cond_true,show (1:Int).toNat=1 from rfl,hp1,hj,cond_t (by rfl),cond_t (by rfl),w2]
   rw [Ua]
   simp only [Qa]
   rw [hps,cond_true,show (1:Int).toNat=1 from rfl,hp1,hj,cond_f (by rfl),cond_t (by rfl)]
   show (impl_RunLife k wT (Tc++[evC (TT mT)]++[evC (TT mT)]++WZ)).bind _=_
   rw [r1,Option.bind_some]
   dsimp only
   rw [Bool.not_true,cond_false,r2,p_impl_Leafs (by exact Nat.le_of_ble_eq_true rfl),Option.bind_some]
   rw [show (([⟨1,0,a⟩,⟨1,1,b⟩,⟨1,2,c⟩,⟨1,3,d⟩]:List SGiven).length:Int)=4 from rfl,ww (2+2) (by omega) (by omega),ww (4 - 1) (by omega) (by omega),ww (4 - 2) (by omega) (by omega)]
   rfl
 ·rfl
end Go.Proofs.YtnmmhkanpfmaaaaGreatDoor.G
