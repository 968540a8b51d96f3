/- The plain law of FnLocked: whatever the arguments, it answers true. Conditions: what is read is in reach. Part 2 of 2. -/
import Derived.Test.YtefdenlloeedkaaGreatDoorPureFnLockeda
namespace Go.Proofs.YtefdenlloeedkaaGreatDoor.G
open Go Go.Ev
set_option linter.unusedVariables false
set_option linter.unusedSimpArgs false
set_option linter.unusedSectionVars false
variable [PC]
theorem p_impl_ThingOf {b:SBook} {t:Int} (h:b.fThings.length≤140737488351232):impl_ThingOf b t=some (match thingIn b.fThings t with | some x=>(x,true) | none=>(zThing,false)):=by
 have hp:=placeIn_find t b.fThings 0
 simp only [impl_ThingOf,E_impl_ThingOf,p_impl_thingAt h,Option.bind_some]
 cases hq:placeIn b.fThings t 0 with
 | none=>rw [hq] at hp;simp only at hp ⊢;rw [hp];rfl
 | some j=>
  rw [hq] at hp
  simp only [Nat.sub_zero,Nat.zero_add] at hp ⊢
  obtain ⟨_,h1,h2⟩:=hp
  rw [h2,List.getElem?_eq_getElem h1]
  simp only [Int.toNat_natCast,getD_at h1]
  rw [show (decide ((j:Int)<0))=false from decide_eq_false (by omega),show (decide ((0:Int)≤(j:Int)))=true from decide_eq_true (by omega),show (decide ((j:Int)<(b.fThings.length:Int)))=true from decide_eq_true (by omega)]
  rfl
def liveAt (b:SBox) (i:Nat):Bool:=match thingIn b.fBook.fThings (b.fLives.getD i ⟨0,0⟩).fId with
 | some x=>x.fKind == 2 && (inR (b.fLives.getD i ⟨0,0⟩).fNext 0 x.fNext && (i == 0 || !decide ((b.fLives.getD (i - 1) ⟨0,0⟩).fId≥(b.fLives.getD i ⟨0,0⟩).fId)))
 | none=>false
def livesR (b:SBox):Nat→Nat→Bool
 | 0,_=>true
 | j+1,i=>liveAt b i && livesR b j (i+1)
def livesB (b:SBox):Bool:=livesR b b.fLives.length 0
theorem p_impl_livesOk {b:SBox} (hl:b.fLives.length≤140737488351232) (ht:b.fBook.fThings.length≤140737488351232):impl_livesOk b=some (livesB b):=by
 have key:∀ (j i m:Nat),i+j=b.fLives.length→L_impl_livesOk (m+j+1) (.c0 b.fLives (b.fLives.length:Int) (i:Int) b)=some (livesR b j i):=by
  intro j
  induction j with
  | zero=>
   intro i m hi
   rw [L_impl_livesOk];simp only [B_impl_livesOk]
   rw [cond_f (by simp;omega)];rfl
  | succ j ih=>
   intro i m hi
   have hw:w64 ((i:Int)+1)=((i+1:Nat):Int):=by rw [w64_id (by omega) (by omega)];rfl
   have d1:decide ((i:Int)<(b.fLives.length:Int))=true:=decide_eq_true (by omega)
   have d0:decide ((0:Int)≤(i:Int))=true:=decide_eq_true (by omega)
   rw [show m+(j+1)+1=(m+j+1)+1 from rfl,L_impl_livesOk]
   simp only [B_impl_livesOk,p_impl_ThingOf ht,p_impl_in,Option.bind_some,d0,d1,Bool.and_self,cond_true,Int.toNat_natCast,hw,ih (i+1) m (by omega),livesR,liveAt]
   cases thingIn b.fBook.fThings (b.fLives.getD i ⟨0,0⟩).fId with
   | none=>rfl
   | some x=>
    simp only [bne]
    cases x.fKind == 2
    ·rfl
    cases inR (b.fLives.getD i ⟨0,0⟩).fNext 0 x.fNext
    ·rfl
    by_cases h0:i=0
    ·subst h0;rfl
    ·obtain ⟨k,rfl⟩:∃ k,i=k+1:=⟨i - 1,by omega⟩
     have hk:w64 (((k+1:Nat):Int) - 1)=(k:Int):=by rw [w64_id (by omega) (by omega)];omega
     rw [show decide (((k+1:Nat):Int) > 0)=true from decide_eq_true (by omega)]
     simp only [hk,Int.toNat_natCast,show decide ((0:Int)≤(k:Int))=true from decide_eq_true (by omega),show decide ((k:Int)<(b.fLives.length:Int))=true from decide_eq_true (by omega),Bool.and_self,cond_true,Nat.add_sub_cancel]
     cases decide ((b.fLives.getD k ⟨0,0⟩).fId≥(b.fLives.getD (k+1) ⟨0,0⟩).fId) <;> rfl
 obtain ⟨m,hm⟩:∃ m,gas=m+b.fLives.length+1:=⟨gas - (b.fLives.length+1),by have:=gas_lt (n:=b.fLives.length) (by omega);omega⟩
 rw [impl_livesOk,E_impl_livesOk,hm]
 exact key b.fLives.length 0 m (Nat.zero_add _)
theorem enterB_len2 (b:SBook) (r:SRec):(enterB b r).1.fThings.length≤8:=by
 cases h:(enterB b r).2
 ·have:(enterB b r).1=zBook:=by
   rw [enterB] at h ⊢
   cases hc:(!(bookOk b) || (!(recText r).2 || decide (b.fCount≥10000)))
   ·rw [hc] at h
    simp only [cond_false] at h ⊢
    cases h1:r.fKind == 1
    ·rw [h1] at h
     simp only [cond_false] at h ⊢
     cases h2:r.fKind == 2
     ·rw [h2] at h
      simp only [cond_false] at h ⊢
      cases h3:r.fKind == 3
      ·rw [h3] at h
       simp only [cond_false] at h ⊢
       cases ht:thingIn b.fThings r.fNum with
       | none=>rfl
       | some x=>rw [ht] at h;cases h
      ·rw [h3] at h
       simp only [cond_true] at h ⊢
       cases ht:putThing b r.fThing with
       | none=>rfl
       | some x=>rw [ht] at h;cases h
     ·rw [h2] at h;cases h
    ·rw [h1] at h;cases h
   ·rfl
  rw [this];exact Nat.zero_le _
 ·exact enterB_len h
theorem enterAll_len {b:SBook} {l:List SRec} (h:b.fThings.length≤2932031007317):(enterAllB b l).1.fThings.length≤2932031007317:=by
 induction l generalizing b with
 | nil=>exact h
 | cons r rs ih=>
  rw [enterAllB]
  cases h3:(enterB b r).2
  ·exact Nat.zero_le _
  ·have:=enterB_len h3
   exact ih (by omega)
theorem mountT_len (k:ByteArray) (d:SDisk):(mountT k d).1.fThings.length≤2932031007317∧(mountT k d).2.1.length≤4:=by
 rw [mountT]
 cases (!(diskOk d) || !(enterAllB bookNew (readBook k (fileT d nBook).1).1).2)
 ·refine ⟨enterAll_len (Nat.zero_le _),?_⟩
  rw [cond_false]
  show List.length (_++_)≤4
  rw [List.length_append]
  cases decide (atF d nNew≥0) <;> cases (readBook k (fileT d nBook).1).2 == ((fileT d nBook).1.size:Int) <;> simp
 ·exact ⟨Nat.zero_le _,Nat.zero_le _⟩
def sessAt (b:SBox) (i:Nat):Bool:=inR (b.fSessions.getD i ⟨0,false⟩).fId 1 b.fOpened && (i == 0 || !decide ((b.fSessions.getD (i - 1) ⟨0,false⟩).fId≥(b.fSessions.getD i ⟨0,false⟩).fId))
def sessR (b:SBox):Nat→Nat→Bool
 | 0,_=>true
 | j+1,i=>sessAt b i && sessR b j (i+1)
noncomputable def boxEnd (b:SBox):Bool:=bif b.fUp then (mountT b.fKey b.fDisk).2.2 && (((mountT b.fKey b.fDisk).2.1.length:Int) == 0 && (bookOk b.fBook && (sameB (mountT b.fKey b.fDisk).1 b.fBook && livesB b)))
 else (b.fSessions.length:Int) == 0 && ((b.fLives.length:Int) == 0 && sameB b.fBook bookNew)
noncomputable def boxOkB (b:SBox):Bool:=(b.fKey.size:Int) == 32 && (diskOk b.fDisk && (decide ((b.fSessions.length:Int)≤3) && (inR b.fOpened 0 1000 && (sessR b b.fSessions.length 0 && boxEnd b))))
theorem p_impl_BoxOk {b:SBox} (hd:b.fDisk.fFiles.length≤140737488351232) (hf:∀ f ∈ b.fDisk.fFiles,f.fText.size≤140737488351232) (ht:b.fBook.fThings.length≤140737488351232) (hs:b.fSessions.length≤140737488351232) (hl:b.fLives.length≤140737488351232):impl_BoxOk b=some (boxOkB b):=by
 rw [impl_BoxOk,E_impl_BoxOk,p_impl_DiskOk hd,p_impl_in,boxOkB]
 simp only [Option.bind_some,bne]
 cases hz:(b.fKey.size:Int) == 32
 ·rfl
 have hk:b.fKey.size≤900000000:=by rw [beq_iff_eq] at hz;omega
 obtain ⟨l1,l2⟩:=mountT_len b.fKey b.fDisk
 have key:b.fUp=true→∀ (j i m:Nat),i+j=b.fSessions.length→i≤3→L_impl_BoxOk (m+j+1) (.c0 b.fSessions (b.fSessions.length:Int) (i:Int) b)=some (decide ((b.fSessions.length:Int)≤3) && (sessR b j i && boxEnd b)):=by
  intro hup j
  induction j with
  | zero=>
   intro i m hi h3
   rw [L_impl_BoxOk];simp only [B_impl_BoxOk]
   rw [cond_f (by simp;omega),boxEnd,hup,decide_eq_true (by omega:(b.fSessions.length:Int)≤3)]
   simp only [p_impl_Mount hk hd hf,p_impl_sameBook (show (mountT b.fKey b.fDisk).1.fThings.length≤140737488351232 by omega),p_impl_BookOk ht,p_impl_livesOk hl ht,Option.bind_some]
   cases (mountT b.fKey b.fDisk).2.2 <;> cases ((mountT b.fKey b.fDisk).2.1.length:Int) == 0 <;> cases bookOk b.fBook <;> cases sameB (mountT b.fKey b.fDisk).1 b.fBook <;> rfl
  | succ j ih=>
   intro i m hi h3
   have hw:w64 ((i:Int)+1)=((i+1:Nat):Int):=by rw [w64_id (by omega) (by omega)];rfl
   have d1:decide ((i:Int)<(b.fSessions.length:Int))=true:=decide_eq_true (by omega)
   have d0:decide ((0:Int)≤(i:Int))=true:=decide_eq_true (by omega)
   rw [show m+(j+1)+1=(m+j+1)+1 from rfl,L_impl_BoxOk]
   by_cases h4:i=3
   ·simp only [B_impl_BoxOk,d0,d1,Bool.and_self,cond_true]
    rw [decide_eq_true (by omega:(i:Int)≥3),decide_eq_false (by omega:¬ (b.fSessions.length:Int)≤3)];rfl
   have d3:decide ((i:Int)≥3)=false:=decide_eq_false (by omega)
   simp only [B_impl_BoxOk,p_impl_in,Option.bind_some,d0,d1,d3,Bool.and_self,cond_true,cond_false,Int.toNat_natCast,hw,ih (i+1) m (by omega) (by omega),sessR,sessAt]
   cases inR (b.fSessions.getD i ⟨0,false⟩).fId 1 b.fOpened
   ·simp
   by_cases h0:i=0
   ·subst h0;simp
   ·obtain ⟨k,rfl⟩:∃ k,i=k+1:=⟨i - 1,by omega⟩
    have hk:w64 (((k+1:Nat):Int) - 1)=(k:Int):=by rw [w64_id (by omega) (by omega)];omega
    rw [show decide (((k+1:Nat):Int) > 0)=true from decide_eq_true (by omega)]
    simp only [hk,Int.toNat_natCast,show decide ((0:Int)≤(k:Int))=true from decide_eq_true (by omega),show decide ((k:Int)<(b.fSessions.length:Int))=true from decide_eq_true (by omega),Bool.and_self,cond_true,Nat.add_sub_cancel]
    cases decide ((b.fSessions.getD k ⟨0,false⟩).fId≥(b.fSessions.getD (k+1) ⟨0,false⟩).fId) <;> simp
 cases hdk:diskOk b.fDisk
 ·rfl
 cases ho:inR b.fOpened 0 1000
 ·simp
 cases hup:b.fUp
 ·rw [boxEnd,hup]
  simp only [p_impl_BookNew,p_impl_sameBook ht,Option.bind_some,Bool.not_false,Bool.not_true,cond_true,cond_false,Bool.true_and]
  cases hn:(b.fSessions.length:Int) == 0
  ·simp
  ·have hn0:b.fSessions.length=0:=by rw [beq_iff_eq] at hn;omega
   rw [hn0]
   cases (b.fLives.length:Int) == 0 <;> simp [sessR]
 ·obtain ⟨m,hm⟩:∃ m,gas=m+b.fSessions.length+1:=⟨gas - (b.fSessions.length+1),by have:=gas_lt (n:=b.fSessions.length) (by omega);omega⟩
  have h0:=key hup b.fSessions.length 0 m (Nat.zero_add _) (by omega)
  simp only [Bool.not_true,cond_false,Bool.true_and]
  rw [hm]
  exact h0
noncomputable def riseT (b:SBox):SBox×Bool:=
 bif b.fUp || !boxOkB b then (zBox,false)
 else bif !(mountT b.fKey b.fDisk).2.2 || decide ((actsT b.fDisk (mountT b.fKey b.fDisk).2.1 0).2<((mountT b.fKey b.fDisk).2.1.length:Int)) then (zBox,false)
 else (⟨b.fKey,true,(actsT b.fDisk (mountT b.fKey b.fDisk).2.1 0).1,(mountT b.fKey b.fDisk).1,[],[],0⟩,true)
theorem mountT_acts {k:ByteArray} {d:SDisk} (hf:∀ f ∈ d.fFiles,f.fText.size≤140737488351232):∀ a ∈ (mountT k d).2.1,a.fText.size≤140737488351232:=by
 have h0:=fileT_small (n:=nBook) hf
 intro a
 rw [mountT]
 cases (!(diskOk d) || !(enterAllB bookNew (readBook k (fileT d nBook).1).1).2)
 ·rw [cond_false]
  show a ∈ _++_→_
  rw [List.mem_append]
  rintro (h | h)
  ·cases hc:decide (atF d nNew≥0) <;> rw [hc] at h
   ·cases h
   ·rw [List.mem_singleton.1 h];exact Nat.zero_le _
  ·cases hc:(readBook k (fileT d nBook).1).2 == ((fileT d nBook).1.size:Int) <;> rw [hc] at h
   ·simp only [cond_false,List.mem_cons,List.not_mem_nil,or_false] at h
    rcases h with rfl | rfl | rfl
    ·show ((fileT d nBook).1.extract 0 _).size≤_;rw [ByteArray.size_extract];omega
    ·exact Nat.zero_le _
    ·exact Nat.zero_le _
   ·cases h
 ·rw [cond_true];intro h;cases h
theorem p_impl_Rise {b:SBox} (hd:b.fDisk.fFiles.length*40≤140737488351232) (hf:∀ f ∈ b.fDisk.fFiles,f.fText.size≤140737488351232) (ht:b.fBook.fThings.length≤140737488351232) (hs:b.fSessions.length≤140737488351232) (hl:b.fLives.length≤140737488351232) (hk:b.fKey.size≤900000000):impl_Rise b=some (riseT b):=by
 obtain ⟨l1,l2⟩:=mountT_len b.fKey b.fDisk
 rw [impl_Rise,E_impl_Rise,riseT]
 simp only [p_impl_BoxOk (b:=b) (by omega) hf ht hs hl,p_impl_Mount hk (show b.fDisk.fFiles.length≤_ by omega) hf,p_impl_DoActs (d:=b.fDisk) (l:=(mountT b.fKey b.fDisk).2.1) hd (by omega) (mountT_acts hf),Option.bind_some]
 cases b.fUp
 ·cases boxOkB b
  ·rfl
  ·cases (mountT b.fKey b.fDisk).2.2
   ·rfl
   ·cases decide ((actsT b.fDisk (mountT b.fKey b.fDisk).2.1 0).2<((mountT b.fKey b.fDisk).2.1.length:Int)) <;> rfl
 ·rfl
def tellT (l:SLife) (c:Int) (s:ByteArray):SLife:=⟨l.fBox,l.fCodes++[c],l.fReplies++[s],l.fGives,l.fDone⟩
theorem p_impl_Life_tell {l:SLife} {c:Int} {s:ByteArray} (h1:l.fCodes.length≤1000000) (h2:l.fReplies.length≤1000000):impl_Life_tell l c s=some (tellT l c s):=by
 rw [impl_Life_tell,E_impl_Life_tell,cond_t (by simp;omega),cond_t (by simp;omega)];rfl
def sayR (n:Int):ByteArray:=[(⟨#[]⟩:ByteArray),⟨#[102,117,108,108]⟩,⟨#[115,101,115,115,105,111,110]⟩,⟨#[108,111,99,107,101,100]⟩,⟨#[119,111,114,100]⟩,⟨#[111,117,116]⟩,⟨#[119,114,111,110,103]⟩,⟨#[110,111,110,101]⟩,⟨#[112,111,108,105,99,121]⟩,⟨#[100,111,119,110]⟩].getD n.toNat ⟨#[]⟩
def noR (n:Int):List SRec×Int×ByteArray:=([],n,sayR n)
theorem p_impl_refused {n:Int} (h:0≤n∧n<10):impl_refused n=some (noR n):=by
 rw [impl_refused,E_impl_refused,cond_t (by simp;omega)];rfl
theorem p_impl_Decimal {n:Int} (h:0≤n∧n<100):∃ s,impl_Decimal n=some s∧s.size≤2:=by
 rw [impl_Decimal,E_impl_Decimal,strconv_Itoa,E_strconv_Itoa,internal_strconv_Itoa,E_internal_strconv_Itoa,internal_strconv_FormatInt,E_internal_strconv_FormatInt,internal_strconv_small,E_internal_strconv_small]
 rw [cond_t (by rfl),cond_t (by simp;omega),cond_t (by simp;omega),w64_id (n:=n+1) (by omega) (by omega),w64_id (n:=n*2) (by omega) (by omega),w64_id (n:=n*2+2) (by omega) (by omega)]
 by_cases h1:n<10
 ·rw [cond_t (by simp;omega),cond_t (by
   rw [Bool.and_eq_true,Bool.and_eq_true,decide_eq_true_eq,decide_eq_true_eq,decide_eq_true_eq]
   refine ⟨⟨by omega,by omega⟩,?_⟩
   show n+1≤((36:Nat):Int);omega)]
  refine ⟨_,rfl,?_⟩
  rw [ByteArray.size_extract];omega
 ·rw [cond_f (by simp;omega),cond_t (by
   rw [Bool.and_eq_true,Bool.and_eq_true,decide_eq_true_eq,decide_eq_true_eq,decide_eq_true_eq]
   refine ⟨⟨by omega,by omega⟩,?_⟩
   show n*2+2≤((200:Nat):Int);omega)]
  refine ⟨_,rfl,?_⟩
  rw [ByteArray.size_extract];omega
def placeS:List SSession→Int→Nat→Option Nat
 | [],_,_=>none
 | l::ls,t,i=>if l.fId == t then some i else placeS ls t (i+1)
theorem placeS_lt {t:Int}:∀ {ls:List SSession} {i j:Nat},placeS ls t i=some j→i≤j∧j<i+ls.length:=by
 intro ls
 induction ls with
 | nil=>intro i j h;cases h
 | cons f fs ih=>
  intro i j h
  rw [placeS] at h
  rw [List.length_cons]
  split at h
  ·cases h;omega
  ·have:=ih h;omega
def atS (b:SBox) (t:Int):Int:=match placeS b.fSessions t 0 with | some j=>(j:Int) | none=> -1
theorem p_impl_sessionAt {b:SBox} {t:Int} (h:b.fSessions.length≤140737488351232):impl_sessionAt b t=some (atS b t):=by
 have key:∀ (j i m:Nat),i+j=b.fSessions.length→L_impl_sessionAt (m+j+1) (.c0 t b.fSessions (b.fSessions.length:Int) (i:Int))=some (match placeS (b.fSessions.drop i) t i with | some j=>(j:Int) | none=> -1):=by
  intro j
  induction j with
  | zero=>
   intro i m hi
   rw [L_impl_sessionAt];simp only [B_impl_sessionAt]
   rw [cond_f (by simp;omega),List.drop_of_length_le (by omega)];rfl
  | succ j ih=>
   intro i m hi
   have hil:i<b.fSessions.length:=by omega
   have hw:w64 ((i:Int)+1)=((i+1:Nat):Int):=by rw [w64_id (by omega) (by omega)];rfl
   rw [show m+(j+1)+1=(m+j+1)+1 from rfl,L_impl_sessionAt]
   simp only [B_impl_sessionAt,show decide ((i:Int)<(b.fSessions.length:Int))=true from decide_eq_true (by omega),show decide ((0:Int)≤(i:Int))=true from decide_eq_true (by omega),Bool.and_self,cond_true,Int.toNat_natCast,hw,getD_at hil,ih (i+1) m (by omega)]
   rw [drop_at hil,placeS]
   cases b.fSessions[i].fId == t <;> rfl
 obtain ⟨m,hm⟩:∃ m,gas=m+b.fSessions.length+1:=⟨gas - (b.fSessions.length+1),by have:=gas_lt (n:=b.fSessions.length+1) (by omega);omega⟩
 rw [impl_sessionAt,E_impl_sessionAt,hm]
 exact key b.fSessions.length 0 m (Nat.zero_add _)
noncomputable def wordT (b:SBox) (c:SCall):List SRec×Int×ByteArray:=
 bif decide (b.fBook.fTries≥3) then noR 3
 else bif !((dig c.fText).toList == b.fBook.fWord.toList) then ([⟨2,⟨#[]⟩,b.fBook.fTries+1,⟨0,0,false,false,false,false,⟨#[]⟩,0⟩⟩],4,sayR 4)
 else bif b.fBook.fTries == 0 then ([],0,⟨#[]⟩) else ([⟨2,⟨#[]⟩,0,⟨0,0,false,false,false,false,⟨#[]⟩,0⟩⟩],0,⟨#[]⟩)
theorem p_impl_planWord {b:SBox} {c:SCall} (ht:0≤b.fBook.fTries) (hc:c.fText.size≤1000000000):impl_planWord b c=some (wordT b c):=by
 rw [impl_planWord,E_impl_planWord,wordT]
 simp only [p_impl_refused (n:=3) (by decide),p_impl_refused (n:=4) (by decide),p_impl_DigestOf hc,Option.bind_some]
 by_cases h:b.fBook.fTries≥3
 ·rw [decide_eq_true h];rfl
 ·rw [decide_eq_false h,w64_id (by omega) (by omega)]
  cases !((dig c.fText).toList == b.fBook.fWord.toList) <;> cases b.fBook.fTries == 0 <;> rfl
def frs:List ByteArray→List Int
 | []=>[]
 | t::ts=>frameL (bs t)++frs ts
def whole:List ByteArray→Nat→Nat
 | [],_=>0
 | t::ts,K=>if (frameL (bs t)).length≤K then whole ts (K - (frameL (bs t)).length)+1 else 0
theorem frameL_len (l:List Int):(frameL l).length=(varL (l.length:Int)).length+4+l.length:=by
 have h4:(four (sumL l)).length=4:=rfl
 rw [frameL,List.length_append,List.length_append,h4];omega
theorem frs_byt:∀ ts:List ByteArray,Byt (frs ts)
 | []=>fun n hn=>by cases hn
 | t::ts=>fun n hn=>by
  rcases List.mem_append.1 hn with hn | hn
  ·exact frameL_byt (byt_bs t) n hn
  ·exact frs_byt ts n hn
theorem frs_app (ts us:List ByteArray):frs (ts++us)=frs ts++frs us:=by
 induction ts with
 | nil=>rfl
 | cons t ts ih=>rw [List.cons_append,frs,frs,ih,List.append_assoc]
theorem whole_le (ts:List ByteArray):∀ K,whole ts K≤K∧whole ts K≤ts.length∧(frs (ts.take (whole ts K))).length≤K:=by
 induction ts with
 | nil=>intro K;exact ⟨Nat.zero_le _,Nat.zero_le _,Nat.zero_le _⟩
 | cons t ts ih=>
  intro K
  rw [whole]
  split
  ·rename_i h
   obtain ⟨i1,i2,i3⟩:=ih (K - (frameL (bs t)).length)
   have:=frameL_len (bs t)
   rw [List.take_succ_cons,frs,List.length_append,List.length_cons]
   omega
  ·exact ⟨Nat.zero_le _,Nat.zero_le _,Nat.zero_le _⟩
theorem whole_all (ts:List ByteArray):∀ K,(frs ts).length≤K→whole ts K=ts.length:=by
 induction ts with
 | nil=>intro K _;rfl
 | cons t ts ih=>
  intro K h
  rw [frs,List.length_append] at h
  rw [whole,if_pos (by omega),ih _ (by omega),List.length_cons]
theorem next_whole {file l:ByteArray} {a:Nat} (hs:file.size≤140737488351232) (h1:1≤l.size) (h2:l.size≤9000) (hA:At file a (frameL (bs l))):nextF file a=some (l,a+(frameL (bs l)).length):=by
 have hA':At file a (varL (l.size:Int)++(four (sumL (bs l))++bs l)):=by rw [frameL,bs_len] at hA;exact hA
 have e1:=rdVar_is hs (by omega) (by omega) hA'.left
 have hB:=hA'.right
 have hC:=hB.right
 have h4:(four (sumL (bs l))).length=4:=rfl
 have hx4:=hB.left.extract (four_byt (sumL_r (bs l)))
 have hxl:=hC.extract (byt_bs l)
 rw [h4] at hx4 hxl hC
 rw [bs_len,ofBytes_bs] at hxl
 have hz:a+(varL (l.size:Int)).length+4+l.size≤file.size:=by
  rcases hC.size with h | h
  ·have:=congrArg List.length h;rw [bs_len,List.length_nil] at this;omega
  ·rw [bs_len] at h;exact h
 have hlen:=frameL_len (bs l)
 rw [bs_len] at hlen
 rw [nextF,e1,hlen]
 generalize (varL (l.size:Int)).length=n at hx4 hxl hz
 dsimp only
 have t0:((a+n:Nat):Int).toNat=a+n:=Int.toNat_natCast _
 have t1:(((a+n:Nat):Int)+4).toNat=a+n+4:=by omega
 have t2:(((a+n:Nat):Int)+4+(l.size:Int)).toNat=a+n+4+l.size:=by omega
 rw [t0,t1,t2,hx4,hxl,bs_ofBytes (four_byt (sumL_r (bs l))),beq_self_eq_true,inR_iff.2 (show 1≤(l.size:Int)∧(l.size:Int)≤9000 by omega),show decide ((l.size:Int)≤(file.size:Int) - ((a+n:Nat):Int) - 4)=true from decide_eq_true (by omega)]
 show some (l,a+n+4+l.size)=_
 rw [show a+n+4+l.size=a+(n+4+l.size) by omega]
theorem next_part {file l:ByteArray} {a:Nat} {rest:List Int} (hs:file.size≤140737488000000) (ha:a≤file.size) (h2:l.size≤9000) (hr:0<rest.length) (hrb:Byt rest) (hA:(bs file).drop a++rest=frameL (bs l)):nextF file a=none:=by
 rcases nextF_x (file:=file) (a:=a) (by omega) ha with h | ⟨v,q,_,hq,hq2,hv1,hv2,h3,hAv,_,_⟩
 ·exact h
 ·exfalso
  have hl:=frameL_len (bs l)
  rw [bs_len] at hl
  have hv10:=varL_len10 (n:=(l.size:Int)) (by omega)
  have hlen:=congrArg List.length hA
  rw [List.length_append,List.length_drop,bs_len] at hlen
  have hb:bs (file++ofBytes rest)=bs file++rest:=by rw [bs_append,bs_ofBytes hrb]
  have hd:(bs (file++ofBytes rest)).drop a=frameL (bs l):=by rw [hb,List.drop_append_of_le_length (by rw [bs_len];exact ha),hA]
  have hz:(file++ofBytes rest).size=file.size+rest.length:=by rw [ByteArray.size_append,ofBytes_size]
  have e1:=rdVar_is (text:=file++ofBytes rest) (a:=a) (V:=(l.size:Int)) (by omega) (by omega) (by omega) ⟨four (sumL (bs l))++bs l,by rw [hd,frameL,bs_len]⟩
  obtain ⟨x,hx⟩:=hAv
  have e2:=rdVar_is (text:=file++ofBytes rest) (a:=a) (V:=v) (by omega) (by omega) (by omega) ⟨x++rest,by rw [hb,List.drop_append_of_le_length (by rw [bs_len];exact ha),hx,List.append_assoc]⟩
  rw [e1] at e2
  have e3:(l.size:Int)=v:=congrArg Prod.fst e2
  subst e3
  omega
theorem unf_frs {file:ByteArray} (hs:file.size≤140737488000000):∀ (ts:List ByteArray) (K m a:Nat),(∀ t ∈ ts,1≤t.size∧t.size≤9000)→a≤file.size→(bs file).drop a=(frs ts).take K→whole ts K<m→unf m file a=(ts.take (whole ts K),a+(frs (ts.take (whole ts K))).length):=by
 intro ts
 induction ts with
 | nil=>
  intro K m a _ ha hd hm
  obtain ⟨m,rfl⟩:∃ n,m=n+1:=⟨m - 1,by omega⟩
  have hlen:=congrArg List.length hd
  rw [List.length_drop,bs_len,frs,List.take_nil,List.length_nil] at hlen
  rw [unf]
  rcases nextF_x (file:=file) (a:=a) (by omega) ha with h | ⟨v,q,_,hq,_,_,_,h3,_⟩
  ·rw [h];rfl
  ·omega
 | cons t ts ih=>
  intro K m a ht ha hd hm
  obtain ⟨m,rfl⟩:∃ n,m=n+1:=⟨m - 1,by omega⟩
  have ht0:=ht t (List.mem_cons_self ..)
  rw [whole] at hm ⊢
  rw [frs,List.take_append] at hd
  split at hm
  ·rename_i h
   rw [if_pos h]
   rw [List.take_of_length_le h] at hd
   have hA:At file a (frameL (bs t)):=⟨_,hd⟩
   have hz:a+(frameL (bs t)).length≤file.size:=by
    rcases hA.size with h | h
    ·have:=congrArg List.length h;rw [frameL_len,List.length_nil] at this;omega
    ·exact h
   rw [unf,next_whole (by omega) ht0.1 ht0.2 hA]
   have hd2:(bs file).drop (a+(frameL (bs t)).length)=(frs ts).take (K - (frameL (bs t)).length):=by
    rw [←List.drop_drop,hd,List.drop_left]
   dsimp only
   rw [ih _ m _ (fun x hx=>ht x (List.mem_cons_of_mem _ hx)) hz hd2 (by omega),List.take_succ_cons,frs,List.length_append]
   rw [Nat.add_assoc]
  ·rename_i h
   rw [if_neg h]
   rw [show K - (frameL (bs t)).length=0 by omega,List.take_zero,List.append_nil] at hd
   rw [unf,next_part (file:=file) (l:=t) (rest:=(frameL (bs t)).drop K) hs ha ht0.2 (by rw [List.length_drop];omega) (fun n hn=>frameL_byt (byt_bs t) n (List.mem_of_mem_drop hn)) (by rw [hd,List.take_append_drop])]
   rfl
theorem sealL_len (k:List Int) (num:Int) (s:List Int):(sealL k num s).length=s.length+16:=by rw [sealL,List.length_append,xorL_len (by rw [maskL_len];omega),tagL_len]
theorem sealL_byt (k:List Int) (num:Int) (s:List Int):Byt (sealL k num s):=fun x hx=>by
 rcases List.mem_append.1 hx with hx | hx
 ·exact xorL_byt _ _ x hx
 ·exact tagL_byt _ _ _ x hx
theorem lockT_size (k s:ByteArray) (num:Int):(lockT k num s).1.size≤s.size+16:=by
 rw [lockT]
 cases maskOk num s.size
 ·exact Nat.zero_le _
 ·show (ofBytes (sealL (bs k) num (bs s))).size≤_
  rw [ofBytes_size,sealL_len,bs_len];omega
theorem open_lock {k s:ByteArray} {num:Int} (h:(lockT k num s).2=true):openT k num (lockT k num s).1=(s,true)∧(lockT k num s).1.size=s.size+16:=by
 rw [lockT] at h ⊢
 cases hm:maskOk num s.size
 ·rw [hm] at h;cases h
 ·rw [cond_true]
  exact ⟨by show openT k num (ofBytes (sealL (bs k) num (bs s)))=_;rw [open_seal (byt_bs s) (by rw [bs_len];exact hm),ofBytes_bs],by show (ofBytes (sealL (bs k) num (bs s))).size=_;rw [ofBytes_size,sealL_len,bs_len]⟩
theorem lock_open {k t:ByteArray} {num:Int} (h:(openT k num t).2=true):lockT k num (openT k num t).1=(t,true):=by
 obtain ⟨h1,h2,h3,h4,h5⟩:=openT_true h
 have hl:((bs t).take (t.size - 16)).length=t.size - 16:=by rw [List.length_take,bs_len];omega
 have hx:(openT k num t).1.size=t.size - 16:=by rw [←bs_len,h4,xorL_len (by rw [maskL_len];omega),hl]
 rw [lockT,hx,show ((t.size - 16:Nat):Int)=(t.size:Int) - 16 by omega,h2,cond_true,seal_open h,ofBytes_bs]
def tx (k:ByteArray):Int→List SRec→List ByteArray
 | _,[]=>[]
 | i,r::rs=>(lockT k i (recText r).1).1::tx k (i+1) rs
theorem tx_len (k:ByteArray):∀ (l:List SRec) (i:Int),(tx k i l).length=l.length
 | [],_=>rfl
 | r::rs,i=>by rw [tx,List.length_cons,List.length_cons,tx_len k rs]
theorem tx_take (k:ByteArray):∀ (l:List SRec) (i:Int) (w:Nat),(tx k i l).take w=tx k i (l.take w)
 | [],_,w=>by rw [tx,List.take_nil,List.take_nil,tx]
 | r::rs,i,0=>rfl
 | r::rs,i,w+1=>by rw [tx,List.take_succ_cons,List.take_succ_cons,tx,tx_take k rs]
theorem tx_app (k:ByteArray):∀ (l q:List SRec) (i:Int),tx k i (l++q)=tx k i l++tx k (i+l.length) q
 | [],q,i=>by rw [List.nil_append,tx,List.nil_append,List.length_nil];simp
 | r::rs,q,i=>by
  rw [List.cons_append,tx,tx,tx_app k rs,List.length_cons,List.cons_append]
  rw [show i+1+(rs.length:Int)=i+((rs.length+1:Nat):Int) by omega]
def Sound (l:List SRec):Prop:=∀ r ∈ l,(recText r).2=true
theorem tx_size (k:ByteArray):∀ (l:List SRec) (i:Int),0≤i→i+l.length≤1000000000→∀ t ∈ tx k i l,1≤t.size∧t.size≤320
 | [],_,_,_,t,ht=>by cases ht
 | r::rs,i,h0,h1,t,ht=>by
  rw [List.length_cons] at h1
  rw [tx] at ht
  rcases List.mem_cons.1 ht with rfl | ht
  ·have:=(lock_ok (k:=k) (s:=(recText r).1) (num:=i) (by omega) (by have:=recText_size r;omega)).2.2
   have:=recText_size r
   omega
  ·exact tx_size k rs (i+1) (by omega) (by omega) t ht
theorem rdRec_is {r:SRec} (h:(recText r).2=true):rdRec (recText r).1=(r,true):=by
 have:=recText_size r
 have e1:=e_impl_rdRec (t:=(recText r).1) (by omega)
 rw [p_impl_ReadRec_is (text:=(recText r).1) (x:=r) (by omega) (Prod.ext rfl h)] at e1
 exact (Option.some.inj e1).symm
theorem rdBook_tx (k:ByteArray):∀ (l:List SRec) (i:Int),0≤i→i+l.length≤1000000000→Sound l→rdBook k i (tx k i l)=(l,((frs (tx k i l)).length:Int))
 | [],_,_,_,_=>rfl
 | r::rs,i,h0,h1,hs=>by
  rw [List.length_cons] at h1
  have hz:=recText_size r
  obtain ⟨l1,l2,l3⟩:=lock_ok (k:=k) (s:=(recText r).1) (num:=i) (by omega) (by omega)
  obtain ⟨f1,f2⟩:=frame_ok (t:=(lockT k i (recText r).1).1) (by omega)
  rw [tx,rdBook,(open_lock l1).1]
  dsimp only
  rw [rdRec_is (hs r (List.mem_cons_self ..)),rdBook_tx k rs (i+1) (by omega) (by omega) (fun x hx=>hs x (List.mem_cons_of_mem _ hx)),f2,ofBytes_size,frs,List.length_append]
  show (r::rs,_)=_
  refine congrArg (fun n=>(r::rs,n)) ?_
  show ((frameL _).length:Int)+((frs _).length:Int)=_
  omega
theorem frs_small (k:ByteArray) (ts:List ByteArray) (h:∀ t ∈ ts,1≤t.size∧t.size≤320):(frs ts).length≤334*ts.length:=by
 induction ts with
 | nil=>exact Nat.le_refl 0
 | cons t ts ih=>
  have h1:=ih fun x hx=>h x (List.mem_cons_of_mem _ hx)
  have h2:=h t (List.mem_cons_self ..)
  have h3:=frameL_len (bs t)
  rw [bs_len] at h3
  have h4:=varL_len10 (n:=(t.size:Int)) (by omega)
  rw [frs,List.length_append,List.length_cons];omega
theorem readBook_cut {k file:ByteArray} {l:List SRec} {K:Nat} (hl:l.length≤50) (hs:Sound l) (hK:K≤(frs (tx k 1 l)).length) (hf:bs file=(frs (tx k 1 l)).take K):readBook k file=(l.take (whole (tx k 1 l) K),((frs (tx k 1 (l.take (whole (tx k 1 l) K)))).length:Int)):=by
 have hsz:=tx_size k l 1 (by omega) (by omega)
 have hsm:=frs_small k _ hsz
 rw [tx_len] at hsm
 have hlen:file.size=K:=by rw [←bs_len,hf,List.length_take];omega
 obtain ⟨w1,w2,w3⟩:=whole_le (tx k 1 l) K
 have hu:=unf_frs (file:=file) (by omega) (tx k 1 l) K (file.size+1) 0 (fun t ht=>by have:=hsz t ht;omega) (Nat.zero_le _) (by rw [List.drop_zero];exact hf) (by omega)
 rw [readBook,unfT,show decide ((file.size:Int) > 20000)=false from decide_eq_false (by omega),cond_false,hu]
 dsimp only
 rw [tx_take]
 exact rdBook_tx k _ 1 (by omega) (by rw [List.length_take];omega) (fun r hr=>hs r (List.mem_of_mem_take hr))
theorem enterAll_app {l k:List SRec}:∀ {b:SBook},enterAllB b (l++k)=bif (enterAllB b l).2 then enterAllB (enterAllB b l).1 k else (zBook,false):=by
 induction l with
 | nil=>intro b;rfl
 | cons r rs ih=>
  intro b
  rw [List.cons_append,enterAllB,enterAllB,ih]
  cases (enterB b r).2 <;> rfl
theorem enterAll_take {b:SBook} {l:List SRec} (w:Nat) (h:(enterAllB b l).2=true):(enterAllB b (l.take w)).2=true:=by
 have e:=enterAll_app (b:=b) (l:=l.take w) (k:=l.drop w)
 rw [List.take_append_drop] at e
 cases hc:(enterAllB b (l.take w)).2
 ·rw [e,hc] at h;cases h
 ·rfl
theorem enterAll_count {l:List SRec}:∀ {b:SBook},(enterAllB b l).2=true→(enterAllB b l).1.fCount=b.fCount+(l.length:Int):=by
 induction l with
 | nil=>intro b _;show b.fCount=b.fCount+0;omega
 | cons r rs ih=>
  intro b h
  rw [enterAllB] at h ⊢
  cases h2:(enterB b r).2
  ·rw [h2] at h;cases h
  ·rw [h2,cond_true] at h
   rw [cond_true,ih h,(enterB_ok h2).2.2.2.2.1,List.length_cons];omega
def Drawn (l:List SRec) (b:SBook):Prop:=enterAllB bookNew l=(b,true)∧bookOk b=true∧(∀ x ∈ l,x.fNum≤9223372036854775807)
theorem drawn_new:Drawn [] bookNew:=⟨rfl,bookNew_ok,fun x hx=>by cases hx⟩
theorem drawn_more {l:List SRec} {b:SBook} {r:SRec} (h:Drawn l b) (hr:r.fNum≤9223372036854775807) (he:(enterB b r).2=true):Drawn (l++[r]) (enterB b r).1:=by
 refine ⟨?_,(enterB_ok he).2.2.2.1,fun x hx=>?_⟩
 ·rw [enterAll_app,h.1,cond_true,enterAllB,he];rfl
 ·rcases List.mem_append.1 hx with hx | hx
  ·exact h.2.2 x hx
  ·rw [List.mem_singleton] at hx;rw [hx];exact hr
theorem book_ids {b:SBook} (h:bookOk b=true):∀ x ∈ b.fThings,x.fId≤1000:=fun x hx=>by
 obtain ⟨_,_,_,_,h5,_,h7⟩:=bookOk_iff.1 h
 have:=rise_all h7 x hx
 omega
def dk (F:ByteArray) (n:Int):SDisk:=⟨[⟨nBook,F,n⟩]⟩
theorem nil_app (G:ByteArray):(⟨#[]⟩:ByteArray)++G=G:=bs_inj (by rw [bs_append,bs_nil,List.nil_append])
theorem nb_ne:(nBook.toList == nNew.toList)=false:=by
 rw [toList_inj]
 exact decide_eq_false fun h=>absurd (congrArg ByteArray.size h) (by decide)
theorem less_nb:Op.bytesLess nBook.toList nNew.toList=true:=by rw [ByteArray.toList_eq,ByteArray.toList_eq];rfl
theorem place0 {f:SFile} {fs:List SFile} {n:ByteArray} {i:Nat} (h:(f.fName.toList == n.toList)=true):placeF (f::fs) n i=some i:=by rw [placeF,if_pos h]
theorem place1 {f:SFile} {fs:List SFile} {n:ByteArray} {i:Nat} (h:(f.fName.toList == n.toList)=false):placeF (f::fs) n i=placeF fs n (i+1):=by rw [placeF,h];rfl
theorem fOk1 {N F:ByteArray} {n:Int} (hN:1≤N.size∧N.size≤8) (h:0≤n∧n≤(F.size:Int)) (hF:F.size≤20000):fOk ⟨N,F,n⟩=true:=fOk_iff.2 ⟨⟨by show 1≤(N.size:Int);omega,by show (N.size:Int)≤8;omega⟩,by show (F.size:Int)≤20000;omega,h.1,h.2⟩
theorem diskOk1 {F:ByteArray} {n:Int} (h:0≤n∧n≤(F.size:Int)) (hF:F.size≤20000):diskOk (dk F n)=true:=by
 rw [dk,diskOk,dRise,dRise,fOk1 (by decide) h hF,less_nil (s:=nBook) (by decide)];rfl
theorem diskOk2 {F G:ByteArray} {n m:Int} (h:0≤n∧n≤(F.size:Int)) (hF:F.size≤20000) (h2:0≤m∧m≤(G.size:Int)) (hG:G.size≤20000):diskOk ⟨[⟨nBook,F,n⟩,⟨nNew,G,m⟩]⟩=true:=by
 rw [diskOk,dRise,dRise,dRise,fOk1 (by decide) h hF,fOk1 (by decide) h2 hG,less_nil (s:=nBook) (by decide),less_nb];rfl
theorem put1 (F F':ByteArray) (n n':Int):putL [⟨nBook,F,n⟩] ⟨nBook,F',n'⟩=[⟨nBook,F',n'⟩]:=by
 simp [putL,lowL,highL,less_irr]
theorem put2 (F G:ByteArray) (n m:Int):putL [⟨nBook,F,n⟩] ⟨nNew,G,m⟩=[⟨nBook,F,n⟩,⟨nNew,G,m⟩]:=by
 simp [putL,lowL,highL,less_nb]
theorem put3 (F G G':ByteArray) (n m m':Int):putL [⟨nBook,F,n⟩,⟨nNew,G,m⟩] ⟨nNew,G',m'⟩=[⟨nBook,F,n⟩,⟨nNew,G',m'⟩]:=by
 simp [putL,lowL,highL,less_nb,less_irr]
theorem out2 (F G:ByteArray) (n m:Int):outL [⟨nBook,F,n⟩,⟨nNew,G,m⟩] nNew=[⟨nBook,F,n⟩]:=by
 simp [outL,nb_ne]
theorem done_ok {l:List SFile} (h:diskOk ⟨l⟩=true):doneD l=(⟨l⟩,true):=by rw [doneD,h];rfl
theorem act_new {T:ByteArray} (hT:T.size≤20000):actT ⟨[]⟩ ⟨1,nBook,T,⟨#[]⟩⟩=(dk T 0,true):=by
 simp only [actT,show diskOk ⟨[]⟩=true from rfl,toList_self,Bool.or_true,beq_self_eq_true,Bool.true_or,Bool.and_self,cond_true,placeF,nil_app]
 rw [show putL [] (⟨nBook,T,0⟩:SFile)=[⟨nBook,T,0⟩] from rfl,done_ok (diskOk1 (by omega) hT)];rfl
theorem act_add {F T:ByteArray} {n:Int} (h:0≤n∧n≤(F.size:Int)) (hF:(F++T).size≤20000):actT (dk F n) ⟨1,nBook,T,⟨#[]⟩⟩=(dk (F++T) n,true):=by
 have hz:(F++T).size=F.size+T.size:=ByteArray.size_append
 have hp:placeF (dk F n).fFiles nBook 0=some 0:=place0 (toList_self _)
 simp only [actT,diskOk1 h (show F.size≤20000 by omega),toList_self,Bool.or_true,beq_self_eq_true,Bool.true_or,Bool.and_self,cond_true,hp]
 show doneD (putL [⟨nBook,F,n⟩] ⟨nBook,F++T,n⟩)=_
 rw [put1,done_ok (diskOk1 (by omega) hF)];rfl
theorem act_keep {F:ByteArray} {n:Int} (h:0≤n∧n≤(F.size:Int)) (hF:F.size≤20000):actT (dk F n) ⟨2,nBook,⟨#[]⟩,⟨#[]⟩⟩=(dk F F.size,true):=by
 have hp:placeF (dk F n).fFiles nBook 0=some 0:=place0 (toList_self _)
 simp only [actT,diskOk1 h hF,toList_self,Bool.or_true,beq_self_eq_true,Bool.true_or,Bool.and_self,cond_true,hp]
 show doneD (putL [⟨nBook,F,n⟩] ⟨nBook,F,(F.size:Int)⟩)=_
 rw [put1,done_ok (diskOk1 (by omega) hF)];rfl
def bookDo (T:ByteArray):List SAct:=[⟨1,nBook,T,⟨#[]⟩⟩,⟨2,nBook,⟨#[]⟩,⟨#[]⟩⟩]
theorem do_new {T:ByteArray} (hT:T.size≤20000):actsT ⟨[]⟩ (bookDo T) 0=(dk T T.size,2):=by
 rw [bookDo,actsT,act_new hT,actsT,act_keep (by omega) hT];rfl
theorem do_add {F T:ByteArray} {n:Int} (h:0≤n∧n≤(F.size:Int)) (hF:(F++T).size≤20000):actsT (dk F n) (bookDo T) 0=(dk (F++T) (F++T).size,2):=by
 have hz:(F++T).size=F.size+T.size:=ByteArray.size_append
 rw [bookDo,actsT,act_add h hF,actsT,act_keep (by omega) hF];rfl
def mendDo (G:ByteArray):List SAct:=[⟨1,nNew,G,⟨#[]⟩⟩,⟨2,nNew,⟨#[]⟩,⟨#[]⟩⟩,⟨3,nNew,⟨#[]⟩,nBook⟩]
theorem mend1 {F G:ByteArray} {n:Int} (h:0≤n∧n≤(F.size:Int)) (hF:F.size≤20000) (hG:G.size≤20000):actT (dk F n) ⟨1,nNew,G,⟨#[]⟩⟩=(⟨[⟨nBook,F,n⟩,⟨nNew,G,0⟩]⟩,true):=by
 have hp:placeF (dk F n).fFiles nNew 0=none:=place1 nb_ne
 simp only [actT,diskOk1 h hF,toList_self,Bool.or_true,beq_self_eq_true,Bool.true_or,Bool.and_self,cond_true,hp,nil_app]
 show doneD (putL [⟨nBook,F,n⟩] ⟨nNew,G,0⟩)=_
 rw [put2,done_ok (diskOk2 h hF (by omega) hG)]
theorem mend2 {F G:ByteArray} {n:Int} (h:0≤n∧n≤(F.size:Int)) (hF:F.size≤20000) (hG:G.size≤20000):actT ⟨[⟨nBook,F,n⟩,⟨nNew,G,0⟩]⟩ ⟨2,nNew,⟨#[]⟩,⟨#[]⟩⟩=(⟨[⟨nBook,F,n⟩,⟨nNew,G,(G.size:Int)⟩]⟩,true):=by
 have hp:placeF [(⟨nBook,F,n⟩:SFile),⟨nNew,G,0⟩] nNew 0=some 1:=by rw [place1 nb_ne,place0 (toList_self _)]
 simp only [actT,diskOk2 h hF (m:=0) (G:=G) (by omega) hG,toList_self,Bool.or_true,beq_self_eq_true,Bool.true_or,Bool.and_self,cond_true,hp]
 show doneD (putL [⟨nBook,F,n⟩,⟨nNew,G,0⟩] ⟨nNew,G,(G.size:Int)⟩)=_
 rw [put3,done_ok (diskOk2 h hF (by omega) hG)]
theorem mend3 {F G:ByteArray} {n:Int} (h:0≤n∧n≤(F.size:Int)) (hF:F.size≤20000) (hG:G.size≤20000):actT ⟨[⟨nBook,F,n⟩,⟨nNew,G,(G.size:Int)⟩]⟩ ⟨3,nNew,⟨#[]⟩,nBook⟩=(dk G G.size,true):=by
 have hp:placeF [(⟨nBook,F,n⟩:SFile),⟨nNew,G,(G.size:Int)⟩] nNew 0=some 1:=by rw [place1 nb_ne,place0 (toList_self _)]
 simp only [actT,diskOk2 h hF (m:=(G.size:Int)) (G:=G) (by omega) hG,toList_self,Bool.or_true,beq_self_eq_true,Bool.true_or,Bool.and_self,cond_true,hp]
 show (bif decide ((G.size:Int)<(G.size:Int)) || (nBook.toList == nNew.toList) then _ else doneD (putL (outL [⟨nBook,F,n⟩,⟨nNew,G,(G.size:Int)⟩] nNew) ⟨nBook,G,(G.size:Int)⟩))=_
 rw [decide_eq_false (by omega),nb_ne,Bool.or_self,cond_false,out2,put1,done_ok (diskOk1 (by omega) hG)];rfl
theorem do_mend {F G:ByteArray} {n:Int} (h:0≤n∧n≤(F.size:Int)) (hF:F.size≤20000) (hG:G.size≤20000):actsT (dk F n) (mendDo G) 0=(dk G G.size,3):=by
 rw [mendDo,actsT,mend1 h hF hG,cond_true,actsT,mend2 h hF hG,cond_true,actsT,mend3 h hF hG];rfl
theorem file_dk (F:ByteArray) (n:Int):fileT (dk F n) nBook=(F,true):=by
 rw [fileT,show placeF (dk F n).fFiles nBook 0=some 0 from place0 (toList_self _)];rfl
theorem at_dk (F:ByteArray) (n:Int):atF (dk F n) nNew = -1:=by
 rw [atF,show placeF (dk F n).fFiles nNew 0=none from place1 nb_ne]
theorem mount_dk {k F:ByteArray} {l:List SRec} {n:Int} {K:Nat} (hl:l.length≤50) (hs:Sound l) (he:(enterAllB bookNew l).2=true) (hK:K≤(frs (tx k 1 l)).length) (hf:bs F=(frs (tx k 1 l)).take K) (hn:0≤n∧n≤(F.size:Int)) (hF:F.size≤20000) :
  mountT k (dk F n)=((enterAllB bookNew (l.take (whole (tx k 1 l) K))).1,bif ((frs (tx k 1 (l.take (whole (tx k 1 l) K)))).length:Int) == (F.size:Int) then [] else mendDo (F.extract 0 (frs (tx k 1 (l.take (whole (tx k 1 l) K)))).length),true):=by
 rw [mountT,diskOk1 hn hF,file_dk,readBook_cut hl hs hK hf]
 dsimp only
 rw [enterAll_take _ he,at_dk]
 cases ((frs (tx k 1 (l.take (whole (tx k 1 l) K)))).length:Int) == (F.size:Int) <;> rfl
theorem mount_no (k:ByteArray):mountT k ⟨[]⟩=(bookNew,[],true):=by
 have h:readBook k ⟨#[]⟩=([],0):=readBook_cut (k:=k) (file:=⟨#[]⟩) (l:=[]) (K:=0) (Nat.zero_le _) (fun r hr=>by cases hr) (Nat.le_refl _) rfl
 rw [mountT,show fileT ⟨[]⟩ nBook=(⟨#[]⟩,false) from rfl,h]
 rfl
theorem whole_ge (ts:List ByteArray):∀ (j K:Nat),j≤ts.length→(frs (ts.take j)).length≤K→j≤whole ts K:=by
 induction ts with
 | nil=>intro j K hj _;rw [List.length_nil] at hj;exact Nat.le_trans hj (Nat.zero_le _)
 | cons t ts ih=>
  intro j K hj h
  cases j with
  | zero=>exact Nat.zero_le _
  | succ j=>
   rw [List.take_succ_cons,frs,List.length_append] at h
   rw [List.length_cons] at hj
   rw [whole,if_pos (by omega)]
   have:=ih j (K - (frameL (bs t)).length) (by omega) (by omega)
   omega
def VY (F:ByteArray) (n:Int) (zs:List Int):Int:=ite (n > (match zs with | []=>0 | z::_=>ite ((ite ((F.size:Int)<z) (F.size:Int) z) > 0) (ite ((F.size:Int)<z) (F.size:Int) z) 0)) n (match zs with | []=>0 | z::_=>ite ((ite ((F.size:Int)<z) (F.size:Int) z) > 0) (ite ((F.size:Int)<z) (F.size:Int) z) 0)
theorem Vy {F:ByteArray} {n:Int} (zs:List Int) (h:0≤n∧n≤(F.size:Int)):n≤VY F n zs∧VY F n zs≤(F.size:Int):=by
 unfold VY
 cases zs with
 | nil=>dsimp only;split <;> omega
 | cons z zs=>dsimp only;repeat' split <;> try omega
def Iq (F:ByteArray) (n:Int) (zs:List Int):SDisk:=dk (F.extract 0 (VY F n zs).toNat) (VY F n zs)
theorem OAA {F:ByteArray} {n:Int} (zs:List Int) (h:0≤n∧n≤(F.size:Int)) (hF:F.size≤20000):Hf (dk F n) zs=some (Iq F n zs,true):=by
 obtain ⟨m,hm⟩:∃ m,gas=m+1+1:=⟨gas - 2,rfl⟩
 obtain ⟨k1,k2⟩:=Vy zs h
 have e:w64 (0+1)=1:=by rw [w64_id (by omega) (by omega)];rfl
 have hg:[(⟨nBook,F,n⟩:SFile)].getD (0:Int).toNat (⟨⟨#[]⟩,⟨#[]⟩,0⟩:SFile)=⟨nBook,F,n⟩:=rfl
 have hl:(([(⟨nBook,F,n⟩:SFile)].length:Nat):Int)=1:=rfl
 rw [Hf,Np,p_impl_DiskOk (Nat.le_of_ble_eq_true rfl),Option.bind_some,diskOk1 h hF,p_impl_copyDisk (d:=dk F n) (Nat.le_of_ble_eq_true rfl),Option.bind_some]
 rw [Bool.not_true,cond_false,show (dk F n).fFiles=[⟨nBook,F,n⟩] from rfl,hm,Gj]
 simp only [Qp,hg,hl,e]
 rw [cond_t (by rfl),cond_t (by rfl)]
 have hend:∀ (v:Int) (x y:List SFile) (l:List Int),v=1→Gj (m+1) (.c0 l v 1 x y)=some (⟨y⟩,true):=by
  intro v x y l hv;subst hv;rfl
 cases zs with
 | nil=>
  rw [cond_f (by rfl)]
  have hk:ite (n > 0) n 0=VY F n []:=rfl
  rw [hk,cond_t (by rw [Bool.and_eq_true,decide_eq_true_eq,decide_eq_true_eq];omega),hend _ _ _ _ rfl];rfl
 | cons z zs=>
  rw [cond_t (by rw [decide_eq_true_eq,List.length_cons];omega),cond_t (by rw [Bool.and_eq_true,decide_eq_true_eq,decide_eq_true_eq,List.length_cons];omega)]
  have hz:(z::zs).getD (0:Int).toNat 0=z:=rfl
  simp only [hz]
  have hk:ite (n > (ite ((ite ((F.size:Int)<z) (F.size:Int) z) > 0) (ite ((F.size:Int)<z) (F.size:Int) z) 0)) n (ite ((ite ((F.size:Int)<z) (F.size:Int) z) > 0) (ite ((F.size:Int)<z) (F.size:Int) z) 0)=VY F n (z::zs):=rfl
  simp only [hk]
  rw [cond_t (by rw [Bool.and_eq_true,decide_eq_true_eq,decide_eq_true_eq];omega),hend _ _ _ _ rfl];rfl
theorem PAA {d:SDisk} {E T:ByteArray} {n:Int} (zs:List Int) (hT:T.size≤20000) (hd:d.fFiles.length*40≤140737488351232) (ha:actT d ⟨1,nBook,T,⟨#[]⟩⟩=(dk E n,true)) (h:0≤n∧n≤(E.size:Int)) (hE:E.size≤20000):Jf d (bookDo T) 1 zs=some (Iq E n zs,true):=by
 have e1:actsT d [⟨1,nBook,T,⟨#[]⟩⟩] 0=(dk E n,1):=by rw [actsT,ha];rfl
 rw [Jf,Wp,p_impl_in,Option.bind_some,show inR 1 0 ((bookDo T).length:Int)=true from rfl,Bool.not_true,cond_false,cond_t (by rfl),show ((bookDo T).take (1:Int).toNat).drop 0=[⟨1,nBook,T,⟨#[]⟩⟩] from rfl,p_impl_DoActs (l:=[⟨1,nBook,T,⟨#[]⟩⟩]) hd (show (1:Nat)≤140737488351232 by omega) (fun a ha=>by rw [List.mem_singleton] at ha;rw [ha];show T.size≤_;omega),Option.bind_some,e1]
 rw [cond_f (by rfl),OAA zs h hE];rfl
def fallenB (b:SBox):SBox:=⟨b.fKey,false,b.fDisk,bookNew,[],[],0⟩
theorem p_impl_Fallen {b:SBox} (h:b.fDisk.fFiles.length*40≤140737488355328):impl_Fallen b=some (fallenB b):=by
 rw [impl_Fallen,E_impl_Fallen,p_impl_copyDisk h,Option.bind_some,p_impl_BookNew];rfl
def placeV:List SLive→Int→Nat→Option Nat
 | [],_,_=>none
 | l::ls,t,i=>if l.fId == t then some i else placeV ls t (i+1)
theorem placeV_lt {t:Int}:∀ {ls:List SLive} {i j:Nat},placeV ls t i=some j→i≤j∧j<i+ls.length:=by
 intro ls
 induction ls with
 | nil=>intro i j h;cases h
 | cons f fs ih=>
  intro i j h
  rw [placeV] at h
  rw [List.length_cons]
  split at h
  ·cases h;omega
  ·have:=ih h;omega
def atV (b:SBox) (t:Int):Int:=match placeV b.fLives t 0 with | some j=>(j:Int) | none=> -1
def leafX (b:SBox) (x:SThing):Int:=match placeV b.fLives x.fId 0 with | some j=>(b.fLives.getD j ⟨0,0⟩).fNext | none=>x.fNext
def leafB (b:SBox) (t:Int):Int:=match thingIn b.fBook.fThings t with
 | some x=>bif x.fKind == 2 then leafX b x else -1
 | none=> -1
theorem p_impl_liveAt {b:SBox} {t:Int} (h:b.fLives.length≤140737488351232):impl_liveAt b t=some (atV b t):=by
 have key:∀ (j i m:Nat),i+j=b.fLives.length→L_impl_liveAt (m+j+1) (.c0 t b.fLives (b.fLives.length:Int) (i:Int))=some (match placeV (b.fLives.drop i) t i with | some j=>(j:Int) | none=> -1):=by
  intro j
  induction j with
  | zero=>
   intro i m hi
   rw [L_impl_liveAt];simp only [B_impl_liveAt]
   rw [cond_f (by simp;omega),List.drop_of_length_le (by omega)];rfl
  | succ j ih=>
   intro i m hi
   have hil:i<b.fLives.length:=by omega
   have hw:w64 ((i:Int)+1)=((i+1:Nat):Int):=by rw [w64_id (by omega) (by omega)];rfl
   rw [show m+(j+1)+1=(m+j+1)+1 from rfl,L_impl_liveAt]
   simp only [B_impl_liveAt,show decide ((i:Int)<(b.fLives.length:Int))=true from decide_eq_true (by omega),show decide ((0:Int)≤(i:Int))=true from decide_eq_true (by omega),Bool.and_self,cond_true,Int.toNat_natCast,hw,getD_at hil,ih (i+1) m (by omega)]
   rw [drop_at hil,placeV]
   cases b.fLives[i].fId == t <;> rfl
 obtain ⟨m,hm⟩:∃ m,gas=m+b.fLives.length+1:=⟨gas - (b.fLives.length+1),by have:=gas_lt (n:=b.fLives.length+1) (by omega);omega⟩
 rw [impl_liveAt,E_impl_liveAt,hm]
 exact key b.fLives.length 0 m (Nat.zero_add _)
theorem p_impl_LeafOf {b:SBox} {t:Int} (h:b.fLives.length≤140737488351232) (ht:b.fBook.fThings.length≤140737488351232):impl_LeafOf b t=some (leafB b t):=by
 rw [impl_LeafOf,E_impl_LeafOf,p_impl_ThingOf ht,Option.bind_some,leafB]
 cases hx:thingIn b.fBook.fThings t with
 | none=>rfl
 | some x=>
  have hid:x.fId=t:=by have:=List.find?_some hx;simpa using this
  simp only [p_impl_liveAt h,bne,atV,leafX,hid,Option.bind_some]
  cases x.fKind == 2
  ·rfl
  ·cases hp:placeV b.fLives t 0 with
   | none=>rfl
   | some j=>
    have hj:=(placeV_lt hp).2
    simp only [Int.toNat_natCast]
    rw [show decide ((j:Int)≥0)=true from decide_eq_true (by omega),show decide ((j:Int)<(b.fLives.length:Int))=true from decide_eq_true (by omega)];rfl
theorem p_impl_copyBox {b:SBox} (hd:b.fDisk.fFiles.length*40≤140737488355328) (hb:b.fBook.fThings.length≤2932031007317) (hs:b.fSessions.length≤1000000) (hl:b.fLives.length≤1000000):impl_copyBox b=some b:=by
 rw [impl_copyBox,E_impl_copyBox,p_impl_copyDisk hd,Option.bind_some,p_impl_copyBook hb,Option.bind_some,cond_t (by simp;omega),cond_t (by simp;omega)]
def NM:List SLive→Int→Nat
 | [],_=>0
 | l::ls,id=>if l.fId<id then NM ls id+1 else 0
theorem Wy (id:Int):∀ ls:List SLive,NM ls id≤ls.length
 | []=>Nat.le_refl _
 | l::ls=>by
  have:=Wy id ls
  rw [NM,List.length_cons]
  split <;> omega
theorem Xy {id:Int}:∀ {ls:List SLive} {i:Nat},i<NM ls id→(ls.getD i ⟨0,0⟩).fId<id
 | [],i,h=>absurd h (Nat.not_lt_zero _)
 | l::ls,i,h=>by
  rw [NM] at h
  split at h
  ·cases i with
   | zero=>assumption
   | succ i=>exact Xy (ls:=ls) (by omega)
  ·omega
theorem Yy {id:Int}:∀ {ls:List SLive},NM ls id<ls.length→¬ (ls.getD (NM ls id) ⟨0,0⟩).fId<id
 | [],h=>absurd h (Nat.not_lt_zero _)
 | l::ls,h=>by
  rw [NM] at h ⊢
  split at h
  ·rename_i h1
   rw [if_pos h1]
   exact Yy (ls:=ls) (by rw [List.length_cons] at h;omega)
  ·rename_i h1
   rw [if_neg h1];exact h1
def Zy (ls:List SLive) (id n:Int):List SLive:=match placeV ls id 0 with
 | some j=>ls.set j ⟨(ls.getD j ⟨0,0⟩).fId,n⟩
 | none=>ls.take (NM ls id)++[⟨id,n⟩]++ls.drop (NM ls id)
theorem ZAC {b:SBox} {id n:Int} (h:b.fLives.length≤1000000):Aa b id n=some ⟨b.fKey,b.fUp,b.fDisk,b.fBook,b.fSessions,Zy b.fLives id n,b.fOpened⟩:=by
 rw [Aa,Aq,p_impl_liveAt (by omega),Option.bind_some,atV,Zy]
 cases hp:placeV b.fLives id 0 with
 | some j=>
  have:=(placeV_lt hp).2
  dsimp only
  rw [cond_t (by rw [decide_eq_true_eq];omega),cond_t (by rw [Bool.and_eq_true,decide_eq_true_eq,decide_eq_true_eq];omega),Int.toNat_natCast]
 | none=>
  dsimp only
  rw [cond_f (by rfl)]
  have hle:=Wy id b.fLives
  have key:∀ (j i m:Nat),i+j=NM b.fLives id→Vf (m+j+1) (.c0 id n (i:Int) b.fKey b.fUp b.fBook.fWord b.fBook.fTries b.fBook.fLast b.fBook.fChain b.fBook.fCount b.fOpened b.fDisk.fFiles b.fBook.fThings b.fSessions b.fLives)=some ⟨b.fKey,b.fUp,b.fDisk,b.fBook,b.fSessions,b.fLives.take (NM b.fLives id)++[⟨id,n⟩]++b.fLives.drop (NM b.fLives id),b.fOpened⟩:=by
   intro j
   induction j with
   | zero=>
    intro i m hi
    have hi:i=NM b.fLives id:=by omega
    subst hi
    have e1:(b.fLives.drop 0).take (NM b.fLives id - 0)=b.fLives.take (NM b.fLives id):=by rw [List.drop_zero,Nat.sub_zero]
    have e2:(b.fLives.drop (NM b.fLives id)).take (b.fLives.length - NM b.fLives id)=b.fLives.drop (NM b.fLives id):=List.take_of_length_le (by rw [List.length_drop];omega)
    have l1:(b.fLives.take (NM b.fLives id)).length≤1000000:=by rw [List.length_take];omega
    have l2:(b.fLives.drop (NM b.fLives id)).length≤1000000:=by rw [List.length_drop];omega
    rw [Vf]
    simp only [Oj,Int.toNat_natCast,e1,e2]
    have c1:(decide ((0:Int)≤(NM b.fLives id:Int)) && decide ((NM b.fLives id:Int)≤(b.fLives.length:Int)))=true:=by rw [Bool.and_eq_true,decide_eq_true_eq,decide_eq_true_eq];omega
    have c2:decide ((b.fLives.take (NM b.fLives id)).length*16≤140737488355328)=true:=by rw [decide_eq_true_eq];omega
    have c3:decide (((b.fLives.take (NM b.fLives id)).length+1)*16≤140737488355328)=true:=by rw [decide_eq_true_eq];omega
    have c4:decide (((b.fLives.take (NM b.fLives id)++[(⟨id,n⟩:SLive)]).length+(b.fLives.drop (NM b.fLives id)).length)*16≤140737488355328)=true:=by rw [decide_eq_true_eq,List.length_append,List.length_singleton];omega
    rw [c1,c2,c3,c4]
    simp only [cond_true]
    by_cases hl:NM b.fLives id<b.fLives.length
    ·have hn:=Yy hl
     rw [cond_t (by rw [decide_eq_true_eq];omega),cond_t (by rw [Bool.and_eq_true,decide_eq_true_eq,decide_eq_true_eq];omega),cond_f (decide_eq_false hn)]
    ·rw [cond_f (by rw [decide_eq_false_iff_not];omega)]
   | succ j ih=>
    intro i m hi
    have hw:w64 ((i:Int)+1)=((i+1:Nat):Int):=by rw [w64_id (by omega) (by omega)];rfl
    have hn:=Xy (ls:=b.fLives) (id:=id) (i:=i) (by omega)
    rw [show m+(j+1)+1=(m+j+1)+1 from rfl,Vf]
    simp only [Oj,Int.toNat_natCast,hw]
    rw [cond_t (by rw [decide_eq_true_eq];omega),cond_t (by rw [Bool.and_eq_true,decide_eq_true_eq,decide_eq_true_eq];omega),cond_t (decide_eq_true hn)]
    exact ih (i+1) m (by omega)
  obtain ⟨m,hm⟩:∃ m,gas=m+NM b.fLives id+1:=⟨gas - (NM b.fLives id+1),by have:=gas_lt (n:=NM b.fLives id+1) (by omega);omega⟩
  rw [hm]
  exact key _ 0 m (Nat.zero_add _)
noncomputable def OY:List SEvent→Int→SLife→Option SLife
 | [],_,l=>some l
 | e::es,i,l=>(bif e.fRise then TY l else CV l e i).bind (OY es (i+1))
noncomputable def RY (k w:ByteArray):SLife:=⟨(boxNewT k w).1,[],[],[],[recWord w]⟩
theorem QAA {es:List SEvent} {a0:ByteArray} {a1:Bool} {a2:ByteArray} {a3 a4:Int} {a5:ByteArray} {a6 a7:Int} {c0:List SFile} {c1:List SThing} {c2:List SSession} {c3:List SLive} {c4:List Int} {c5:List ByteArray} {c6:List SGiven} {c7:List SRec} (hz:es.length≤1000):∀ (j i m:Nat) (l:SLife),i+j=es.length→
  OZ (m+j+1) (.c1 es (es.length:Int) (i:Int) a0 a1 a2 a3 a4 a5 a6 a7 l.fBox.fKey l.fBox.fUp l.fBox.fBook.fWord l.fBox.fBook.fTries l.fBox.fBook.fLast l.fBox.fBook.fChain l.fBox.fBook.fCount l.fBox.fOpened c0 c1 c2 c3 c4 c5 c6 c7 l.fBox.fDisk.fFiles l.fBox.fBook.fThings l.fBox.fSessions l.fBox.fLives l.fCodes l.fReplies l.fGives l.fDone)=(OY (es.drop i) (i:Int) l).bind fun l=>some (l,true):=by
 intro j
 induction j with
 | zero=>
  intro i m l hi
  rw [OZ]
  simp only [Nb]
  rw [cond_f (by rw [decide_eq_false_iff_not];omega),List.drop_of_length_le (by omega)];rfl
 | succ j ih=>
  intro i m l hi
  have hlt:i<es.length:=by omega
  have hw:w64 ((i:Int)+1)=((i+1:Nat):Int):=by rw [w64_id (by omega) (by omega)];rfl
  rw [show m+(j+1)+1=(m+j+1)+1 from rfl,OZ,drop_at hlt,OY]
  simp only [Nb,hw,Int.toNat_natCast,getD_at hlt]
  rw [cond_t (by rw [decide_eq_true_eq];omega),cond_t (by rw [Bool.and_eq_true,decide_eq_true_eq,decide_eq_true_eq];omega)]
  cases es[i].fRise
  ·rw [cond_false,cond_false]
   show (CV l es[i] (i:Int)).bind _=_
   cases CV l es[i] (i:Int) with
   | none=>rfl
   | some l2=>exact ih (i+1) m l2 (by omega)
  ·rw [cond_true,cond_true]
   show (TY l).bind _=_
   cases TY l with
   | none=>rfl
   | some l2=>exact ih (i+1) m l2 (by omega)
def Jq:SLife:=⟨⟨⟨#[]⟩,false,⟨[]⟩,⟨⟨#[]⟩,0,[],0,⟨#[]⟩,0⟩,[],[],0⟩,[],[],[],[]⟩
theorem RAA {w:ByteArray} {es:List SEvent} {b:SBox} {a0:ByteArray} {a1:Bool} {a2:ByteArray} {a3 a4:Int} {a5:ByteArray} {a6 a7:Int} {c0:List SFile} {c1:List SThing} {c2:List SSession} {c3:List SLive} {c4:List Int} {c5:List ByteArray} {c6:List SGiven} {c7:List SRec} (hz:es.length≤1000) (hw:w.size≤1000):∀ (j i m:Nat),i+j=es.length→
  OZ (m+es.length+1+j+1) (.c0 w es es (es.length:Int) (i:Int) a0 a1 a2 a3 a4 a5 a6 a7 b.fKey b.fUp b.fBook.fWord b.fBook.fTries b.fBook.fLast b.fBook.fChain b.fBook.fCount b.fOpened c0 c1 c2 c3 c4 c5 c6 c7 b.fDisk.fFiles b.fBook.fThings b.fSessions b.fLives)=bif (es.drop i).all eventOk then (OY es 0 ⟨b,[],[],[],[recWord w]⟩).bind fun l=>some (l,true) else some (Jq,false):=by
 intro j
 induction j with
 | zero=>
  intro i m hi
  rw [OZ]
  simp only [Nb]
  rw [cond_f (by rw [decide_eq_false_iff_not];omega),List.drop_of_length_le (by omega),List.all_nil,cond_true,p_impl_DigestOf (by omega),Option.bind_some]
  have h:=QAA (es:=es) (a0:=a0) (a1:=a1) (a2:=a2) (a3:=a3) (a4:=a4) (a5:=a5) (a6:=a6) (a7:=a7) (c0:=c0) (c1:=c1) (c2:=c2) (c3:=c3) (c4:=c4) (c5:=c5) (c6:=c6) (c7:=c7) hz es.length 0 m ⟨b,[],[],[],[recWord w]⟩ (Nat.zero_add _)
  rw [List.drop_zero] at h
  exact h
 | succ j ih=>
  intro i m hi
  have hlt:i<es.length:=by omega
  have hw:w64 ((i:Int)+1)=((i+1:Nat):Int):=by rw [w64_id (by omega) (by omega)];rfl
  rw [show m+es.length+1+(j+1)+1=(m+es.length+1+j+1)+1 from rfl,OZ,drop_at hlt,List.all_cons]
  simp only [Nb,hw,Int.toNat_natCast,getD_at hlt]
  rw [cond_t (by rw [decide_eq_true_eq];omega),cond_t (by rw [Bool.and_eq_true,decide_eq_true_eq,decide_eq_true_eq];omega),p_impl_EventOk,Option.bind_some]
  cases eventOk es[i]
  ·rfl
  ·rw [Bool.not_true,cond_false,Bool.true_and]
   exact ih (i+1) m (by omega)
theorem SAA {k w:ByteArray} {es:List SEvent} (hz:es.length≤1000) (hw:w.size≤1000):EZ k w es=bif (boxNewT k w).2 && decide (es.length≤40) then (bif es.all eventOk then (OY es 0 (RY k w)).bind fun l=>some (l,true) else some (Jq,false)) else some (Jq,false):=by
 rw [EZ,Dq,p_impl_BoxNew,Option.bind_some]
 cases (boxNewT k w).2
 ·rfl
 ·rw [Bool.not_true,cond_false,Bool.true_and]
  by_cases h:es.length≤40
  ·rw [cond_f (by rw [decide_eq_false_iff_not];omega),decide_eq_true h,cond_true]
   obtain ⟨m,hm⟩:∃ m,gas=m+es.length+1+es.length+1:=⟨gas - (es.length+1+es.length+1),by have:=gas_lt (n:=es.length+1+es.length+1) (by omega);omega⟩
   rw [hm]
   exact RAA hz hw es.length 0 m (Nat.zero_add _)
  ·rw [cond_t (by rw [decide_eq_true_eq];omega),decide_eq_false h];rfl
theorem Kq {a:List Int} (h:a.length≤1000000):Ig a a=some true:=by
 have key:∀ (j i m:Nat),i+j=a.length→Hg (m+j+1) (.c0 a a (i:Int))=some true:=by
  intro j
  induction j with
  | zero=>
   intro i m hi
   rw [Hg];simp only [Rj]
   rw [cond_f (by rw [decide_eq_false_iff_not];omega)]
  | succ j ih=>
   intro i m hi
   have hw:w64 ((i:Int)+1)=((i+1:Nat):Int):=by rw [w64_id (by omega) (by omega)];rfl
   rw [show m+(j+1)+1=(m+j+1)+1 from rfl,Hg]
   simp only [Rj]
   rw [cond_t (by rw [decide_eq_true_eq];omega),cond_t (by rw [Bool.and_eq_true,decide_eq_true_eq,decide_eq_true_eq];omega),cond_t (by rw [Bool.and_eq_true,decide_eq_true_eq,decide_eq_true_eq];omega),cond_f (bne_self_eq_false _),hw]
   exact ih (i+1) m (by omega)
 obtain ⟨m,hm⟩:∃ m,gas=m+a.length+1:=⟨gas - (a.length+1),by have:=gas_lt (n:=a.length+1) (by omega);omega⟩
 rw [Ig,Gq,cond_f (bne_self_eq_false _),hm]
 exact key a.length 0 m (Nat.zero_add _)
theorem enterAll_sound {l:List SRec}:∀ {b:SBook},(enterAllB b l).2=true→Sound l:=by
 induction l with
 | nil=>intro b _ r hr;cases hr
 | cons x xs ih=>
  intro b h r hr
  rw [enterAllB] at h
  cases h2:(enterB b x).2
  ·rw [h2] at h;cases h
  ·rw [h2,cond_true] at h
   rcases List.mem_cons.1 hr with rfl | hr
   ·exact (enterB_ok h2).2.1
   ·exact ih h r hr
theorem drawn_sound {l:List SRec} {b:SBook} (h:Drawn l b):Sound l:=enterAll_sound (b:=bookNew) (by rw [h.1])
def Small (d:SDisk):Prop:=d.fFiles.length≤1∧∀ f ∈ d.fFiles,f.fText.size≤20000
theorem small_no:Small ⟨[]⟩:=⟨Nat.zero_le _,fun f hf=>by cases hf⟩
theorem small_dk {F:ByteArray} {n:Int} (h:F.size≤20000):Small (dk F n):=⟨Nat.le_refl _,fun f hf=>by
 have hf:f ∈ [(⟨nBook,F,n⟩:SFile)]:=hf
 rw [List.mem_singleton] at hf
 subst hf;exact h⟩
theorem w_succ {k:ByteArray} {l:List SRec} {i:Nat} (h:i<l.length):frs (tx k 1 (l.take (i+1)))=frs (tx k 1 (l.take i))++frameL (bs (lockT k ((i:Int)+1) (recText l[i]).1).1):=by
 rw [take_at h,tx_app,frs_app,List.length_take,Nat.min_eq_left (by omega),show (1:Int)+(i:Int)=(i:Int)+1 by omega,tx,tx,frs,frs,List.append_nil]
theorem w_small {k:ByteArray} {l:List SRec} (hl:l.length≤50) (i:Nat):(frs (tx k 1 (l.take i))).length≤16700:=by
 have hz:(l.take i).length≤50:=by rw [List.length_take];omega
 have h:=frs_small k _ (tx_size k (l.take i) 1 (by omega) (by omega))
 rw [tx_len] at h
 omega
def OnD (k:ByteArray) (l:List SRec) (i:Nat) (d:SDisk):Prop:=(i=0∧d=⟨[]⟩)∨∃ F:ByteArray,d=dk F F.size∧bs F=frs (tx k 1 (l.take i))
theorem acts_ok {k:ByteArray} {r:SRec} {i:Nat} (hr:(recText r).2=true) (hi:i≤10000):∃ T,bookActs k (i:Int) r=(bookDo T,true)∧bs T=frameL (bs (lockT k ((i:Int)+1) (recText r).1).1):=by
 have hz:=recText_size r
 obtain ⟨l1,l2,l3⟩:=lock_ok (k:=k) (s:=(recText r).1) (num:=(i:Int)+1) (by omega) (by omega)
 obtain ⟨f1,f2⟩:=frame_ok (t:=(lockT k ((i:Int)+1) (recText r).1).1) (by omega)
 refine ⟨(frameT (lockT k ((i:Int)+1) (recText r).1).1).1,?_,by rw [f2,bs_ofBytes (frameL_byt (byt_bs _))]⟩
 rw [bookActs,hr,inR_iff.2 (show 0≤(i:Int)∧(i:Int)≤10000 by omega)]
 generalize (frameT (lockT k ((i:Int)+1) (recText r).1).1).1=T
 rfl
theorem small_on {k:ByteArray} {l:List SRec} {i:Nat} {d:SDisk} (hl:l.length≤50) (h:OnD k l i d):Small d:=by
 rcases h with ⟨_,rfl⟩ | ⟨F,rfl,hF⟩
 ·exact small_no
 ·have:=w_small (k:=k) hl i
  exact small_dk (by rw [←bs_len,hF];omega)
theorem t_small {k T:ByteArray} {l:List SRec} {i:Nat} (hl:l.length≤50) (hi:i<l.length) (hT:bs T=frameL (bs (lockT k ((i:Int)+1) (recText l[i]).1).1)):(frs (tx k 1 (l.take i))).length+T.size≤16700:=by
 have h:=congrArg List.length (w_succ (k:=k) hi)
 have h2:=w_small (k:=k) hl (i+1)
 rw [List.length_append,←hT,bs_len] at h
 omega
theorem on_step {k T:ByteArray} {l:List SRec} {i:Nat} {d:SDisk} (hl:l.length≤50) (hi:i<l.length) (h:OnD k l i d) (hT:bs T=frameL (bs (lockT k ((i:Int)+1) (recText l[i]).1).1)):∃ E:ByteArray,actsT d (bookDo T) 0=(dk E E.size,2)∧bs E=frs (tx k 1 (l.take (i+1))):=by
 have hs:=t_small hl hi hT
 rcases h with ⟨rfl,rfl⟩ | ⟨F,rfl,hF⟩
 ·exact ⟨T,do_new (by omega),by rw [w_succ hi,←hT];rfl⟩
 ·have hz:(F++T).size=F.size+T.size:=ByteArray.size_append
  have hF2:F.size=(frs (tx k 1 (l.take i))).length:=by rw [←bs_len,hF]
  exact ⟨F++T,do_add (by omega) (by omega),by rw [bs_append,hF,w_succ hi,←hT]⟩
theorem mount_all {k F:ByteArray} {l:List SRec} {n:Int} (hl:l.length≤50) (hs:Sound l) (he:(enterAllB bookNew l).2=true) (hf:bs F=frs (tx k 1 l)) (hn:0≤n∧n≤(F.size:Int)):mountT k (dk F n)=((enterAllB bookNew l).1,[],true):=by
 have hsm:=w_small (k:=k) hl l.length
 rw [List.take_length] at hsm
 have hF:F.size=(frs (tx k 1 l)).length:=by rw [←bs_len,hf]
 have h:=mount_dk (k:=k) (F:=F) (l:=l) (n:=n) (K:=(frs (tx k 1 l)).length) hl hs he (Nat.le_refl _) (by rw [List.take_of_length_le (Nat.le_refl _)];exact hf) hn (by omega)
 rw [whole_all _ _ (Nat.le_refl _),tx_len,List.take_length,←hF,beq_self_eq_true,cond_true] at h
 exact h
theorem newbox {k w:ByteArray} (hk:k.size=32) (hw:w.size≤20):∃ T:ByteArray,boxNewT k w=(⟨k,true,dk T T.size,(enterB bookNew (recWord w)).1,[],[],0⟩,true)∧T.size≤20000∧bs T=frs (tx k 1 [recWord w]):=by
 have hr:(recText (recWord w)).2=true:=by rw [recWord_text]
 obtain ⟨T,t1,t2⟩:=acts_ok (k:=k) (r:=recWord w) (i:=0) hr (Nat.zero_le _)
 have hT:bs T=frs (tx k 1 [recWord w]):=by
  rw [t2,tx,tx,frs,frs,List.append_nil,show ((0:Nat):Int)+1=1 by omega]
 have hsm:=frs_small k _ (tx_size k [recWord w] 1 (by omega) (by rw [List.length_singleton];omega))
 rw [tx_len,List.length_singleton,←hT,bs_len] at hsm
 have t1:bookActs k 0 (recWord w)=(bookDo T,true):=t1
 refine ⟨T,?_,by omega,hT⟩
 rw [boxNewT,t1]
 dsimp only
 rw [do_new (by omega),show ((k.size:Int) == 32)=true by rw [hk];rfl,show decide ((w.size:Int) > 20)=false from decide_eq_false (by omega)]
 rfl
theorem newbox_mount {k w T:ByteArray} (hT:bs T=frs (tx k 1 [recWord w])) {n:Int} (hn:0≤n∧n≤(T.size:Int)):mountT k (dk T n)=((enterB bookNew (recWord w)).1,[],true):=by
 have hr:(recText (recWord w)).2=true:=by rw [recWord_text]
 have he:enterAllB bookNew [recWord w]=((enterB bookNew (recWord w)).1,true):=by rw [enterAllB,enterB_word];rfl
 have h:=mount_all (k:=k) (F:=T) (l:=[recWord w]) (n:=n) (by rw [List.length_singleton];omega) (fun r hm=>by rw [List.mem_singleton] at hm;rw [hm];exact hr) (by rw [he]) hT hn
 rw [he] at h
 exact h
theorem newbox_ok {k w T:ByteArray} (hk:k.size=32) (hT:bs T=frs (tx k 1 [recWord w])) (hz:T.size≤20000):boxOkB ⟨k,true,dk T T.size,(enterB bookNew (recWord w)).1,[],[],0⟩=true:=by
 have hb:=(enterB_ok (enterB_word w)).2.2.2.1
 rw [boxOkB,boxEnd]
 simp only [newbox_mount hT (n:=(T.size:Int)) (by omega),diskOk1 (F:=T) (n:=(T.size:Int)) (by omega) hz,hb,sameB_iff.2 rfl,hk,cond_true]
 rfl
theorem fallen_ok {b:SBox} (hk:b.fKey.size=32) (hd:diskOk b.fDisk=true):boxOkB (fallenB b)=true:=by
 rw [boxOkB,boxEnd,fallenB]
 simp only [hd,sameB_iff.2 rfl,hk,cond_false]
 rfl
def CutD (k:ByteArray) (l:List SRec) (i:Nat) (c:SDisk):Prop:=(i=0∧c=⟨[]⟩)∨∃ (X:ByteArray) (K:Nat) (n:Int),c=dk X n∧(0≤n∧n≤(X.size:Int))∧bs X=(frs (tx k 1 l)).take K∧(frs (tx k 1 (l.take i))).length≤K∧K≤(frs (tx k 1 l)).length
theorem cut_mount {k:ByteArray} {l:List SRec} {i:Nat} {c:SDisk} {b:SBook} (hl:l.length≤50) (hi:i+1=l.length) (hs:Sound l) (he:enterAllB bookNew l=(b,true)) (h:CutD k l i c):∃ (x:SBook) (todo:List SAct) (f:SDisk),mountT k c=(x,todo,true)∧(x=b∨x=(enterAllB bookNew (l.take i)).1)∧actsT c todo 0=(f,(todo.length:Int))∧mountT k f=(x,[],true)∧Small c∧Small f∧todo.length≤3∧∀ a ∈ todo,a.fText.size≤20000:=by
 have he2:(enterAllB bookNew l).2=true:=by rw [he]
 rcases h with ⟨rfl,rfl⟩ | ⟨X,K,n,rfl,hn,hX,hK1,hK2⟩
 ·exact ⟨bookNew,[],⟨[]⟩,mount_no k,.inr rfl,rfl,mount_no k,small_no,small_no,Nat.zero_le _,fun a ha=>by cases ha⟩
 ·have hsm:=w_small (k:=k) hl l.length
  rw [List.take_length] at hsm
  have hXs:X.size=K:=by rw [←bs_len,hX,List.length_take];omega
  have hm:=mount_dk (k:=k) (n:=n) hl hs he2 hK2 hX hn (by omega)
  obtain ⟨w1,w2,w3⟩:=whole_le (tx k 1 l) K
  have w4:=whole_ge (tx k 1 l) i K (by rw [tx_len];omega) (by rw [tx_take];exact hK1)
  rw [tx_len] at w2
  rw [tx_take] at w3
  generalize whole (tx k 1 l) K=w at hm w2 w3 w4
  have hx:(enterAllB bookNew (l.take w)).1=b∨(enterAllB bookNew (l.take w)).1=(enterAllB bookNew (l.take i)).1:=by
   by_cases hw:w=i
   ·right;rw [hw]
   ·left;rw [List.take_of_length_le (by omega),he]
  have hX2:X.size≤20000:=by omega
  by_cases hc:((frs (tx k 1 (l.take w))).length:Int)=(X.size:Int)
  ·rw [beq_iff_eq.2 hc,cond_true] at hm
   exact ⟨_,[],_,hm,hx,rfl,hm,small_dk hX2,small_dk hX2,Nat.zero_le _,fun a ha=>by cases ha⟩
  ·rw [beq_eq_false_iff_ne.2 hc,cond_false] at hm
   have hpre:frs (tx k 1 l)=frs (tx k 1 (l.take w))++frs (tx k (1+((l.take w).length:Int)) (l.drop w)):=by
    rw [←frs_app,←tx_app,List.take_append_drop]
   have hG:bs (X.extract 0 (frs (tx k 1 (l.take w))).length)=frs (tx k 1 (l.take w)):=by
    rw [bs_extract,List.drop_zero,hX,List.take_take,Nat.min_eq_left w3,hpre,List.take_left]
   have hGs:(X.extract 0 (frs (tx k 1 (l.take w))).length).size=(frs (tx k 1 (l.take w))).length:=by rw [←bs_len,hG]
   have hm2:=mount_all (k:=k) (l:=l.take w) (F:=X.extract 0 (frs (tx k 1 (l.take w))).length) (n:=((X.extract 0 (frs (tx k 1 (l.take w))).length).size:Int)) (by rw [List.length_take];omega) (fun r hr=>hs r (List.mem_of_mem_take hr)) (enterAll_take w he2) hG (by omega)
   generalize X.extract 0 (frs (tx k 1 (l.take w))).length=G at hm hG hGs hm2
   refine ⟨_,mendDo G,dk G G.size,hm,hx,do_mend hn hX2 (by omega),hm2,small_dk hX2,small_dk (by omega),Nat.le_refl _,fun a ha=>?_⟩
   rw [mendDo,List.mem_cons,List.mem_cons,List.mem_singleton] at ha
   rcases ha with rfl | rfl | rfl
   ·show G.size≤20000;omega
   ·exact Nat.zero_le _
   ·exact Nat.zero_le _
structure Good (k:ByteArray) (l:List SRec) (b:SBox):Prop where
 ksz:k.size=32
 key:b.fKey=k
 up:b.fUp=true
 disk:∃ F:ByteArray,b.fDisk=dk F F.size∧bs F=frs (tx k 1 l)
 len:1≤l.length∧l.length≤50
 book:enterAllB bookNew l=(b.fBook,true)
 ses:b.fSessions.length≤3∧sessR b b.fSessions.length 0=true
 opn:0≤b.fOpened∧b.fOpened≤1000
 liv:livesB b=true∧b.fLives.length≤8
theorem Good.PZ {k:ByteArray} {l:List SRec} {b:SBox} (g:Good k l b):bookOk b.fBook=true:=by
 have:=enterAll_ok (rs:=l) bookNew_ok (by rw [g.book])
 rw [g.book] at this;exact this
theorem Good.cnt {k:ByteArray} {l:List SRec} {b:SBox} (g:Good k l b):b.fBook.fCount=(l.length:Int):=by
 have:=enterAll_count (l:=l) (b:=bookNew) (by rw [g.book])
 rw [g.book,show bookNew.fCount=0 from rfl,Int.zero_add] at this;exact this
theorem Good.sound {k:ByteArray} {l:List SRec} {b:SBox} (g:Good k l b):Sound l:=enterAll_sound (b:=bookNew) (by rw [g.book])
theorem Good.Nq {k F:ByteArray} {l:List SRec} (hl:l.length≤50) (hF:bs F=frs (tx k 1 l)):F.size≤16700:=by
 have:=w_small (k:=k) hl l.length
 rw [List.take_length,←hF,bs_len] at this;exact this
theorem Good.small {k:ByteArray} {l:List SRec} {b:SBox} (g:Good k l b):Small b.fDisk:=by
 obtain ⟨F,h1,h2⟩:=g.disk
 rw [h1];exact small_dk (by have:=Good.Nq g.len.2 h2;omega)
theorem Good.Sj {k:ByteArray} {l:List SRec} {b:SBox} (g:Good k l b):b.fBook.fThings.length≤8:=(bookOk_iff.1 g.PZ).2.2.2.1
theorem Good.ok {k:ByteArray} {l:List SRec} {b:SBox} (g:Good k l b):boxOkB b=true:=by
 obtain ⟨F,h1,h2⟩:=g.disk
 have hz:=Good.Nq g.len.2 h2
 have hm:=mount_all (k:=k) (F:=F) (l:=l) (n:=F.size) g.len.2 g.sound (by rw [g.book]) h2 (by omega)
 rw [g.book] at hm
 have hd:=diskOk1 (F:=F) (n:=(F.size:Int)) (by omega) (by omega)
 have h3:=g.ses.1
 rw [boxOkB,boxEnd,g.up,g.key,h1,hd,hm,g.ksz,g.PZ,g.ses.2,g.liv.1,show sameB b.fBook b.fBook=true from sameB_iff.2 rfl,decide_eq_true (by omega:(b.fSessions.length:Int)≤3),inR_iff.2 g.opn];rfl
theorem TAA {b c:SBox} (h1:c.fSessions=b.fSessions) (h2:c.fOpened=b.fOpened):∀ j i,sessR c j i=sessR b j i:=by
 intro j
 induction j with
 | zero=>intro i;rfl
 | succ j ih=>intro i;rw [sessR,sessR,sessAt,sessAt,h1,h2,ih]
theorem Az {b c:SBox} (h1:c.fLives=b.fLives) (h2:c.fBook.fThings=b.fBook.fThings):∀ j i,livesR c j i=livesR b j i:=by
 intro j
 induction j with
 | zero=>intro i;rfl
 | succ j ih=>intro i;rw [livesR,livesR,liveAt,liveAt,h1,h2,ih]
theorem Bz {k w:ByteArray} (hk:k.size=32) (hw:w.size≤20):(boxNewT k w).2=true∧Good k [recWord w] (boxNewT k w).1∧(boxNewT k w).1.fSessions=[]∧(boxNewT k w).1.fLives=[]∧(boxNewT k w).1.fOpened=0∧(boxNewT k w).1.fBook=(enterB bookNew (recWord w)).1:=by
 obtain ⟨T,h1,h2,h3⟩:=newbox hk hw
 rw [h1]
 refine ⟨rfl,⟨hk,rfl,rfl,⟨T,rfl,h3⟩,⟨Nat.le_refl _,by rw [List.length_singleton];omega⟩,?_,⟨Nat.zero_le _,rfl⟩,⟨Int.le_refl _,by show (0:Int)≤1000;omega⟩,⟨rfl,Nat.zero_le _⟩⟩,rfl,rfl,rfl,rfl⟩
 rw [enterAllB,enterB_word];rfl
theorem UAA {k:ByteArray} {l:List SRec} {b:SBox} {r:SRec} (g:Good k l b) (hl:l.length<50) (hn:r.fNum≤9223372036854775807) (hr:(enterB b.fBook r).2=true) (hv:∀ d,livesB ⟨b.fKey,b.fUp,d,(enterB b.fBook r).1,b.fSessions,b.fLives,b.fOpened⟩=true) :
  ∃ d,impl_Box_enter b r=some (true,⟨b.fKey,b.fUp,d,(enterB b.fBook r).1,b.fSessions,b.fLives,b.fOpened⟩)∧Good k (l++[r]) ⟨b.fKey,b.fUp,d,(enterB b.fBook r).1,b.fSessions,b.fLives,b.fOpened⟩:=by
 obtain ⟨F,h1,h2⟩:=g.disk
 obtain ⟨T,t1,t2⟩:=acts_ok (k:=k) (r:=r) (i:=l.length) (enterB_ok hr).2.1 (by omega)
 have hlen:(l++[r]).length=l.length+1:=by rw [List.length_append];rfl
 have hat:(l++[r])[l.length]'(by omega)=r:=by simp
 obtain ⟨E,e1,e2⟩:=on_step (k:=k) (T:=T) (l:=l++[r]) (i:=l.length) (d:=b.fDisk) (by omega) (by omega) (.inr ⟨F,h1,by rw [List.take_left];exact h2⟩) (by rw [hat];exact t2)
 rw [List.take_of_length_le (by omega)] at e2
 have hsm:=g.small
 refine ⟨dk E E.size,?_,⟨g.ksz,g.key,g.up,⟨E,rfl,e2⟩,⟨by omega,by omega⟩,?_,⟨g.ses.1,?_⟩,g.opn,⟨hv _,g.liv.2⟩⟩⟩
 ·rw [p_impl_Box_enter (by rw [g.key,g.ksz];omega) (by have:=hsm.1;omega) (by have:=g.Sj;omega) hn,boxEnterT,g.key,g.cnt,t1]
  dsimp only
  rw [e1,hr];rfl
 ·rw [enterAll_app,g.book]
  dsimp only
  rw [cond_true,enterAllB,hr];rfl
 ·exact (TAA (b:=b) (c:=⟨b.fKey,b.fUp,dk E E.size,(enterB b.fBook r).1,b.fSessions,b.fLives,b.fOpened⟩) rfl rfl _ _).trans g.ses.2
theorem Good.Dz {k:ByteArray} {l:List SRec} {b:SBox} (g:Good k l b):impl_BoxOk b=some true:=by
 have hs:=g.small
 have h1:=hs.1
 have h2:=g.Sj
 have h3:=g.ses.1
 have h4:=g.liv.2
 rw [p_impl_BoxOk (by omega) (fun f hf=>by have:=hs.2 f hf;omega) (by omega) (by omega) (by omega),g.ok]
theorem VAA {k:ByteArray} {l:List SRec} {b:SBox} {c:SCall} (g:Good k l b) (hc:callOk c=true) (ho:c.fOp=1) (hs:b.fSessions.length<3) (hp:b.fOpened<99):∃ s,UY b c=some ([],0,s):=by
 have h1:=g.cnt
 have h2:=g.len.2
 have h3:=g.opn.1
 obtain ⟨s,hd,_⟩:=p_impl_Decimal (n:=b.fOpened+1) (by omega)
 refine ⟨s,?_⟩
 rw [UY,Fj,g.Dz,Option.bind_some,Bool.not_true,cond_false,g.up,Bool.not_true,cond_false,p_impl_CallOk,Option.bind_some,hc,Bool.not_true,cond_false,cond_f (by rw [decide_eq_false_iff_not];omega),cond_t (by rw [ho];rfl),cond_f (by rw [decide_eq_false_iff_not];omega),cond_f (by rw [decide_eq_false_iff_not];omega),w64_id (by omega) (by omega),hd];rfl
theorem WAA {c:SCall} (h:callOk c=true):c.fText.size≤1000:=by
 simp only [callOk,Bool.and_eq_true,decide_eq_true_eq] at h
 omega
theorem Ez {k:ByteArray} {l:List SRec} {b:SBox} {c:SCall} {j:Nat} (g:Good k l b) (hc:callOk c=true) (ho:c.fOp=2) (hj:atS b c.fSession=(j:Int)):UY b c=some (wordT b c):=by
 have h1:=g.cnt
 have h2:=g.len.2
 have h3:=g.ses.1
 have h4:=WAA hc
 have h5:=(bookOk_iff.1 g.PZ).2.2.1.1
 rw [UY,Fj,g.Dz,Option.bind_some,Bool.not_true,cond_false,g.up,Bool.not_true,cond_false,p_impl_CallOk,Option.bind_some,hc,Bool.not_true,cond_false,cond_f (by rw [decide_eq_false_iff_not];omega),cond_f (by rw [ho];rfl),p_impl_sessionAt (by omega),Option.bind_some,hj,cond_f (by rw [decide_eq_false_iff_not];omega),cond_f (by rw [ho];rfl),cond_t (by rw [ho];rfl),p_impl_planWord h5 (by omega)];rfl
structure Ob (b:SBox):Prop where
 d:b.fDisk.fFiles.length*40≤140737488355328
 t:b.fBook.fThings.length≤2932031007317
 s:b.fSessions.length≤3
 l:b.fLives.length≤8
 o:0≤b.fOpened∧b.fOpened≤1000
theorem Good.Jg {k:ByteArray} {l:List SRec} {b:SBox} (g:Good k l b):Ob b:=⟨by have:=g.small.1;omega,by have:=g.Sj;omega,g.ses.1,g.liv.2,g.opn⟩
theorem Ob.copy {b:SBox} (h:Ob b):impl_copyBox b=some b:=p_impl_copyBox h.d h.t (by have:=h.s;omega) (by have:=h.l;omega)
theorem Fz {b:SBox} {c:SCall} {code leaf:Int} (h:Ob b) (hc:(code != 0)=true):NY b c code leaf=some b:=by
 rw [NY,Yf,h.copy,Option.bind_some,hc];rfl
theorem XAA {b:SBox} {c:SCall} {leaf:Int} (h:Ob b) (ho:c.fOp=1):NY b c 0 leaf=some ⟨b.fKey,b.fUp,b.fDisk,b.fBook,b.fSessions++[⟨b.fOpened+1,false⟩],b.fLives,b.fOpened+1⟩:=by
 have h1:=h.s
 have h2:=h.t
 have h3:=h.o
 rw [NY,Yf,h.copy,Option.bind_some,cond_f (by rfl),p_impl_sessionAt (by omega),Option.bind_some,p_impl_ThingOf (by omega),Option.bind_some,cond_t (by rw [ho];rfl),cond_t (by rw [decide_eq_true_eq];omega),w64_id (by omega) (by omega)]
theorem Gz {b:SBox} {c:SCall} {leaf:Int} {j:Nat} (h:Ob b) (ho:c.fOp=2) (hj:atS b c.fSession=(j:Int)) (hlt:j<b.fSessions.length):NY b c 0 leaf=some ⟨b.fKey,b.fUp,b.fDisk,b.fBook,b.fSessions.set j ⟨(b.fSessions.getD j ⟨0,false⟩).fId,true⟩,b.fLives,b.fOpened⟩:=by
 have h1:=h.s
 have h2:=h.t
 rw [NY,Yf,h.copy,Option.bind_some,cond_f (by rfl),p_impl_sessionAt (by omega),Option.bind_some,p_impl_ThingOf (by omega),Option.bind_some,cond_f (by rw [ho];rfl),cond_f (by rw [ho];rfl),cond_t (by rw [ho];rfl),hj,cond_t (by rw [decide_eq_true_eq];omega),cond_t (by rw [Bool.and_eq_true,decide_eq_true_eq,decide_eq_true_eq];omega),Int.toNat_natCast]
theorem Oq {l:SLife} {e:SEvent} {w code leaf:Int} {s:ByteArray} {b2:SBox} (hp:UY l.fBox e.fCall=some ([],code,s)) (hl:impl_LeafOf l.fBox e.fCall.fThing=some leaf) (hc:NY l.fBox e.fCall code leaf=some b2) (h5:(e.fCall.fOp == 5)=false) (z1:l.fCodes.length≤1000) (z2:l.fReplies.length≤1000) :
  CV l e w=some ⟨b2,l.fCodes++[code],l.fReplies++[s],l.fGives,l.fDone⟩:=by
 obtain ⟨m,hm⟩:∃ m,gas=m+1:=⟨gas - 1,rfl⟩
 rw [CV,Ag,hp,Option.bind_some,hl,hm]
 have key:∀ o,o=Jb (m+1) (.c0 w code s leaf ((([]:List SRec).length:Nat):Int) 0 l.fBox.fKey l.fBox.fUp l.fBox.fBook.fWord l.fBox.fBook.fTries l.fBox.fBook.fLast l.fBox.fBook.fChain l.fBox.fBook.fCount l.fBox.fOpened e [] l.fBox.fDisk.fFiles l.fBox.fBook.fThings l.fBox.fSessions l.fBox.fLives l.fCodes l.fReplies l.fGives l.fDone)→o=some ⟨b2,l.fCodes++[code],l.fReplies++[s],l.fGives,l.fDone⟩:=by
  intro o ho
  rw [ho,Jb]
  simp only [Bg]
  rw [cond_f (by rfl)]
  show (NY l.fBox e.fCall code leaf).bind _=_
  rw [hc,Option.bind_some,p_impl_Life_tell (l:=⟨b2,l.fCodes,l.fReplies,l.fGives,_⟩) (show l.fCodes.length≤1000000 by omega) (show l.fReplies.length≤1000000 by omega),Option.bind_some,h5];rfl
 cases e.fCut
 ·exact key _ rfl
 ·exact key _ rfl
theorem Hz {l:SLife} {e:SEvent} {w code leaf:Int} {s:ByteArray} {r:SRec} {b1 b2:SBox} (hp:UY l.fBox e.fCall=some ([r],code,s)) (hcut:e.fCut=false) (hl:impl_LeafOf l.fBox e.fCall.fThing=some leaf) (hb:impl_Box_enter l.fBox r=some (true,b1)) (hc:NY b1 e.fCall code leaf=some b2) (z1:l.fCodes.length≤1000) (z2:l.fReplies.length≤1000) (z3:l.fDone.length≤1000) (z4:l.fGives.length≤1000) :
  CV l e w=some ⟨b2,l.fCodes++[code],l.fReplies++[s],bif e.fCall.fOp == 5 && code == 0 then l.fGives++[⟨e.fCall.fThing,leaf,w⟩] else l.fGives,l.fDone++[r]⟩:=by
 obtain ⟨m,hm⟩:∃ m,gas=m+1+1:=⟨gas - 2,rfl⟩
 have hw:w64 (0+1)=1:=by rw [w64_id (by omega) (by omega)];rfl
 rw [CV,Ag,hp,Option.bind_some,hl,hm,hcut,cond_false,Option.bind_some,Jb]
 simp only [Bg]
 rw [cond_t (by rfl),cond_t (by rfl)]
 show (impl_Box_enter l.fBox r).bind _=_
 rw [hb,Option.bind_some]
 dsimp only
 rw [cond_true,cond_t (by rw [decide_eq_true_eq];omega),hw,Jb]
 simp only [Bg]
 rw [cond_f (by rfl)]
 show (NY b1 e.fCall code leaf).bind _=_
 rw [hc,Option.bind_some,p_impl_Life_tell (l:=⟨b2,l.fCodes,l.fReplies,l.fGives,_⟩) (show l.fCodes.length≤1000000 by omega) (show l.fReplies.length≤1000000 by omega),Option.bind_some]
 cases e.fCall.fOp == 5
 ·rfl
 ·cases code == 0
  ·rfl
  ·rw [cond_true,cond_true,cond_t (by rw [decide_eq_true_eq];show (l.fGives.length+1)*24≤_;omega)];rfl
structure Down (k:ByteArray) (l:List SRec) (b:SBox):Prop where
 ksz:k.size=32
 len:1≤l.length∧l.length≤50
 book:(enterAllB bookNew l).2=true
 box:∃ X:ByteArray,b=⟨k,false,dk X X.size,bookNew,[],[],0⟩∧X.size≤16700∧∃ (l2:List SRec) (K:Nat),l2.length≤50∧(enterAllB bookNew l2).2=true∧K≤(frs (tx k 1 l2)).length∧bs X=(frs (tx k 1 l2)).take K∧l=l2.take (whole (tx k 1 l2) K)
theorem YAA {k:ByteArray} {l:List SRec} (hl:l.length≤50):(frs (tx k 1 l)).length≤334*l.length:=by
 have h:=frs_small k _ (tx_size k l 1 (by omega) (by omega))
 rw [tx_len] at h;exact h
theorem ZAA {k:ByteArray} {l:List SRec} {L:SLife} {r:SRec} (zs:List Int) (g:Good k l L.fBox) (hl:l.length<50) (hn:r.fNum≤9223372036854775807) (hr:(enterB L.fBox.fBook r).2=true) (z1:L.fCodes.length≤1000) (z2:L.fReplies.length≤1000) (z3:L.fDone.length≤1000) :
  ∃ l' b',NZ L r zs=some ⟨b',L.fCodes++[10],L.fReplies++[⟨#[]⟩],L.fGives,bif decide (l'.length > l.length) then L.fDone++[r] else L.fDone⟩∧Down k l' b'∧(l'=l∨l'=l++[r])∧(∀ z zs',zs=z::zs'→334*((l.length:Int)+1)≤z→l'=l++[r])∧(zs=[]→l'=l):=by
 obtain ⟨F,h1,h2⟩:=g.disk
 have hFs:=Good.Nq g.len.2 h2
 have hF2:F.size=(frs (tx k 1 l)).length:=by rw [←bs_len,h2]
 obtain ⟨T,t1,t2⟩:=acts_ok (k:=k) (r:=r) (i:=l.length) (enterB_ok hr).2.1 (by omega)
 have hlen:(l++[r]).length=l.length+1:=by rw [List.length_append];rfl
 have hat:(l++[r])[l.length]'(by omega)=r:=by simp
 have hall:frs (tx k 1 (l++[r]))=frs (tx k 1 l)++bs T:=by
  have e:=w_succ (k:=k) (l:=l++[r]) (i:=l.length) (by omega)
  rw [List.take_of_length_le (by omega),List.take_left,hat,←t2] at e
  exact e
 have hfl:=YAA (k:=k) (l:=l++[r]) (by omega)
 have hl1:=congrArg List.length hall
 rw [List.length_append,bs_len] at hl1
 have hz:(F++T).size=F.size+T.size:=ByteArray.size_append
 have hE:bs (F++T)=frs (tx k 1 (l++[r])):=by rw [bs_append,h2,hall]
 have hcut:=PAA (d:=dk F F.size) (E:=F++T) (T:=T) (n:=F.size) zs (by omega) (Nat.le_of_ble_eq_true rfl) (act_add (by omega) (by omega)) (by omega) (by omega)
 obtain ⟨q1,q2⟩:=Vy (F:=F++T) (n:=F.size) zs (by omega)
 have hk1:∀ z zs',zs=z::zs'→334*((l.length:Int)+1)≤z→VY (F++T) F.size zs=((F++T).size:Int):=by
  intro z zs' e hz'
  have q3:(z:Int)≥((F++T).size:Int):=by omega
  rw [e] at q2 ⊢
  unfold VY at q2 ⊢
  dsimp only at q2 ⊢
  repeat' split <;> try omega
 have hk0:zs=[]→VY (F++T) F.size zs=(F.size:Int):=by
  intro e
  rw [e]
  unfold VY
  dsimp only
  split <;> omega
 unfold Iq at hcut
 generalize VY (F++T) F.size zs=kk at hcut q1 q2 hk1 hk0
 obtain ⟨K,rfl⟩:∃ K:Nat,kk=(K:Int):=⟨kk.toNat,by omega⟩
 rw [Int.toNat_natCast] at hcut
 have hX:bs ((F++T).extract 0 K)=(frs (tx k 1 (l++[r]))).take K:=by rw [bs_extract,List.drop_zero,hE]
 have hXs:((F++T).extract 0 K).size=K:=by rw [ByteArray.size_extract];omega
 generalize (F++T).extract 0 K=X at hcut hX hXs
 have hEl:(frs (tx k 1 (l++[r]))).length=F.size+T.size:=by omega
 have he2:(enterAllB bookNew (l++[r])).2=true:=by
  rw [enterAll_app,g.book]
  dsimp only
  rw [cond_true,enterAllB,hr];rfl
 have hrb:=readBook_cut (k:=k) (file:=X) (l:=l++[r]) (K:=K) (by omega) (enterAll_sound he2) (by omega) hX
 obtain ⟨w1,w2,w3⟩:=whole_le (tx k 1 (l++[r])) K
 have w4:=whole_ge (tx k 1 (l++[r])) l.length K (by rw [tx_len];omega) (by rw [tx_take,List.take_left];omega)
 have w5:=whole_all (tx k 1 (l++[r])) K
 rw [tx_len] at w2 w5
 rw [tx_take] at w3
 have hl'1:(l++[r]).take (whole (tx k 1 (l++[r])) K)=l∨(l++[r]).take (whole (tx k 1 (l++[r])) K)=l++[r]:=by
  by_cases hw:whole (tx k 1 (l++[r])) K=l.length
  ·left;rw [hw,List.take_left]
  ·right;rw [List.take_of_length_le (by omega)]
 refine ⟨(l++[r]).take (whole (tx k 1 (l++[r])) K),⟨k,false,dk X X.size,bookNew,[],[],0⟩,?_,⟨g.ksz,?_,enterAll_take _ he2,⟨X,rfl,by have:=w_small (k:=k) (l:=l++[r]) (by omega) (l.length+1);rw [List.take_of_length_le (by omega)] at this;omega,l++[r],K,by omega,he2,by omega,hX,rfl⟩⟩,hl'1,?_,?_⟩
 ·rw [NZ,Yp,g.cnt,p_impl_BookActs (by rw [g.key,g.ksz];omega) hn,Option.bind_some,g.key,t1,h1,hcut,Option.bind_some,p_impl_Fallen (by rw [h1];exact Nat.le_of_ble_eq_true rfl),Option.bind_some]
  dsimp only
  rw [cond_true,p_impl_FileAt (by exact Nat.le_of_ble_eq_true rfl),Option.bind_some,show fileT (dk X (K:Int)) ⟨#[98,111,111,107]⟩=(X,true) from file_dk X _]
  dsimp only
  rw [show (fallenB L.fBox).fKey=k from g.key,p_impl_ReadBook (by rw [g.ksz];omega) (by omega),Option.bind_some,hrb]
  dsimp only
  have hd:decide ((((l++[r]).take (whole (tx k 1 (l++[r])) K)).length:Int) > (l.length:Int))=decide (((l++[r]).take (whole (tx k 1 (l++[r])) K)).length > l.length):=by
   rw [decide_eq_decide];omega
  rw [hd,hXs]
  cases decide (((l++[r]).take (whole (tx k 1 (l++[r])) K)).length > l.length)
  ·rw [cond_false,cond_false]
   show (impl_Life_tell ⟨⟨k,false,dk X (K:Int),bookNew,[],[],0⟩,L.fCodes,L.fReplies,L.fGives,L.fDone⟩ 10 ⟨#[]⟩).bind _=_
   rw [p_impl_Life_tell (l:=⟨⟨k,false,dk X (K:Int),bookNew,[],[],0⟩,L.fCodes,L.fReplies,L.fGives,L.fDone⟩) (show L.fCodes.length≤1000000 by omega) (show L.fReplies.length≤1000000 by omega)]
   rfl
  ·rw [cond_true,cond_true,cond_t (by rw [decide_eq_true_eq];omega)]
   show (impl_Life_tell ⟨⟨k,false,dk X (K:Int),bookNew,[],[],0⟩,L.fCodes,L.fReplies,L.fGives,L.fDone++[r]⟩ 10 ⟨#[]⟩).bind _=_
   rw [p_impl_Life_tell (l:=⟨⟨k,false,dk X (K:Int),bookNew,[],[],0⟩,L.fCodes,L.fReplies,L.fGives,L.fDone++[r]⟩) (show L.fCodes.length≤1000000 by omega) (show L.fReplies.length≤1000000 by omega)]
   rfl
 ·have h3:=g.len
  rw [List.length_take]
  omega
 ·intro z zs' e hz'
  have:=hk1 z zs' e hz'
  rw [List.take_of_length_le]
  rw [w5 (by omega)];omega
 ·intro e
  have h3:=hk0 e
  rcases hl'1 with h | h
  ·exact h
  ·have h4:=congrArg List.length h
   rw [List.length_take] at h4
   have h5:whole (tx k 1 (l++[r])) K=l.length+1:=by omega
   rw [h5,List.take_of_length_le (by omega)] at w3
   have hT:T.size=0:=by omega
   have h6:=congrArg List.length t2
   rw [bs_len,frameL_len] at h6
   omega
theorem AAB {k:ByteArray} {l:List SRec} {b:SBox} (h:Down k l b):∃ b',impl_Rise b=some (b',true)∧Good k l b'∧b'.fSessions=[]∧b'.fLives=[]∧b'.fOpened=0∧b'.fBook=(enterAllB bookNew l).1:=by
 obtain ⟨X,rfl,hXs,l2,K,hl2,he2,hK,hX,hl⟩:=h.box
 have hXK:X.size=K:=by rw [←bs_len,hX,List.length_take];omega
 have hs2:=enterAll_sound he2
 have hm:=mount_dk (k:=k) (F:=X) (n:=X.size) hl2 hs2 he2 hK hX (by omega) (by omega)
 obtain ⟨w1,w2,w3⟩:=whole_le (tx k 1 l2) K
 rw [tx_take] at w3
 have hbk:enterAllB bookNew l=((enterAllB bookNew l).1,true):=Prod.ext rfl h.book
 have hpre:frs (tx k 1 l2)=frs (tx k 1 (l2.take (whole (tx k 1 l2) K)))++frs (tx k (1+((l2.take (whole (tx k 1 l2) K)).length:Int)) (l2.drop (whole (tx k 1 l2) K))):=by
  rw [←frs_app,←tx_app,List.take_append_drop]
 rw [←hl] at hm w3 hpre
 have hok:boxOkB ⟨k,false,dk X X.size,bookNew,[],[],0⟩=true:=fallen_ok (b:=⟨k,false,dk X X.size,bookNew,[],[],0⟩) h.ksz (diskOk1 (by omega) (by omega))
 have mk:∀ G:ByteArray,bs G=frs (tx k 1 l)→Good k l ⟨k,true,dk G G.size,(enterAllB bookNew l).1,[],[],0⟩:=fun G hG=>⟨h.ksz,rfl,rfl,⟨G,rfl,hG⟩,h.len,hbk,⟨Nat.zero_le _,rfl⟩,⟨Int.le_refl _,by show (0:Int)≤1000;omega⟩,⟨rfl,Nat.zero_le _⟩⟩
 have hR:=p_impl_Rise (b:=⟨k,false,dk X X.size,bookNew,[],[],0⟩) (Nat.le_of_ble_eq_true rfl) (fun f hf=>by
  have hf:f ∈ [(⟨nBook,X,(X.size:Int)⟩:SFile)]:=hf
  rw [List.mem_singleton] at hf
  rw [hf];show X.size≤_;omega) (Nat.zero_le _) (Nat.zero_le _) (Nat.zero_le _) (by show k.size≤_;rw [h.ksz];omega)
 rw [hR,riseT,hok]
 dsimp only
 rw [hm]
 dsimp only
 by_cases hc:((frs (tx k 1 l)).length:Int)=(X.size:Int)
 ·rw [beq_iff_eq.2 hc,cond_true]
  refine ⟨_,rfl,mk X ?_,rfl,rfl,rfl,rfl⟩
  rw [hX,hpre,←hXK,List.take_append_of_le_length (by omega),List.take_of_length_le (by omega)]
 ·rw [beq_eq_false_iff_ne.2 hc,cond_false]
  have hG:bs (X.extract 0 (frs (tx k 1 l)).length)=frs (tx k 1 l):=by
   rw [bs_extract,List.drop_zero,hX,List.take_take,Nat.min_eq_left w3,hpre,List.take_left]
  have hGs:(X.extract 0 (frs (tx k 1 l)).length).size=(frs (tx k 1 l)).length:=by rw [←bs_len,hG]
  generalize X.extract 0 (frs (tx k 1 l)).length=G at hG hGs
  rw [do_mend (by omega) (by omega) (by omega)]
  exact ⟨_,rfl,mk G hG,rfl,rfl,rfl,rfl⟩
theorem BAB {k:ByteArray} {l:List SRec} {L:SLife} (h:Down k l L.fBox) (z1:L.fCodes.length≤1000) (z2:L.fReplies.length≤1000):∃ b',TY L=some ⟨b',L.fCodes++[0],L.fReplies++[⟨#[]⟩],L.fGives,L.fDone⟩∧Good k l b'∧b'.fSessions=[]∧b'.fLives=[]∧b'.fOpened=0∧b'.fBook=(enterAllB bookNew l).1:=by
 obtain ⟨b',h1,h2⟩:=AAB h
 refine ⟨b',?_,h2⟩
 rw [TY,Io,h1,Option.bind_some]
 dsimp only
 rw [Bool.not_true,cond_false,p_impl_Life_tell (l:=⟨b',L.fCodes,L.fReplies,L.fGives,L.fDone⟩) (show L.fCodes.length≤1000000 by omega) (show L.fReplies.length≤1000000 by omega)]
 rfl
structure LS (k:ByteArray) (l:List SRec) (cs:List Int) (L:SLife):Prop where
 good:Good k l L.fBox
 codes:L.fCodes=cs
 few:cs.length≤60∧L.fReplies.length=cs.length∧L.fGives.length≤60∧L.fDone.length≤60
def IK (c:SCall):SEvent:=⟨c,false,[],false⟩
def opC:SCall:=⟨1,0,0,0,⟨#[]⟩,false,false⟩
def TB (t:ByteArray):SCall:=⟨2,1,0,0,t,false,false⟩
def FN (n:Int):SRec:=⟨2,⟨#[]⟩,n,⟨0,0,false,false,false,false,⟨#[]⟩,0⟩⟩
def One (x:Bool) (b:SBox):Prop:=b.fSessions=[⟨1,x⟩]∧b.fOpened=1
theorem One.at {x:Bool} {b:SBox} (h:One x b):atS b 1=((0:Nat):Int):=by rw [atS,h.1];rfl
theorem Pq {t:ByteArray} (h:t.size≤1000):callOk (TB t)=true:=by
 rw [callOk,TB]
 dsimp only
 rw [decide_eq_true (by omega:(t.size:Int)≤1000)];rfl
theorem CAB {c:SCall} (h:callOk c=true):eventOk (IK c)=true:=by rw [eventOk,IK];dsimp only;rw [h];rfl
theorem Good.Qq {k:ByteArray} {l:List SRec} {b:SBox} (g:Good k l b) {S:List SSession} {o:Int} (hS:S.length≤3) (hs:sessR ⟨b.fKey,b.fUp,b.fDisk,b.fBook,S,b.fLives,o⟩ S.length 0=true) (ho:0≤o∧o≤1000):Good k l ⟨b.fKey,b.fUp,b.fDisk,b.fBook,S,b.fLives,o⟩:=
 ⟨g.ksz,g.key,g.up,g.disk,g.len,g.book,⟨hS,hs⟩,ho,⟨(Az (b:=b) (c:=⟨b.fKey,b.fUp,b.fDisk,b.fBook,S,b.fLives,o⟩) rfl rfl _ _).trans g.liv.1,g.liv.2⟩⟩
theorem Rq (k:ByteArray) (u:Bool) (d:SDisk) (B:SBook) (x:Bool) (L:List SLive) {o:Int} (h:o=1):sessR ⟨k,u,d,B,[⟨1,x⟩],L,o⟩ 1 0=true:=by subst h;rfl
theorem DAB {b:SBox} {k:ByteArray} {u:Bool} {d:SDisk} {B:SBook} {S:List SSession} {o:Int} (h:B.fThings=b.fBook.fThings):livesB ⟨k,u,d,B,S,b.fLives,o⟩=livesB b:=Az (b:=b) (c:=⟨k,u,d,B,S,b.fLives,o⟩) rfl h _ _
theorem Og {k:ByteArray} {l:List SRec} {b:SBox} (g:Good k l b) (t:Int):impl_LeafOf b t=some (leafB b t):=p_impl_LeafOf (by have:=g.liv.2;omega) (by have:=g.Sj;omega)
theorem EAB {n:Int} (h:0≤n∧n≤3):(recText (FN n)).2=true:=by
 rw [recText,show inR (FN n).fNum 0 3=true from inR_iff.2 h]
 simp only [FN,isZ,isE,show ((2:Int) == 1)=false from rfl,show ((2:Int) == 2)=true from rfl,cond_false,cond_true,beq_self_eq_true,Bool.and_self,Bool.and_true]
theorem Iz {b:SBook} (hb:bookOk b=true) (hc:b.fCount<10000) {n:Int} (h:0≤n∧n≤3):enterB b (FN n)=(⟨b.fWord,n,b.fThings,b.fLast,dig (b.fChain++(recText (FN n)).1),b.fCount+1⟩,true):=by
 rw [enterB,hb,EAB h,decide_eq_false (by omega:¬ b.fCount≥10000)];rfl
theorem FAB {k:ByteArray} {l:List SRec} {cs:List Int} {L:SLife} (s:LS k l cs L) (h1:L.fBox.fSessions=[]) (h2:L.fBox.fOpened=0) (w:Int) (hc:cs.length<60):∃ L',CV L (IK opC) w=some L'∧LS k l (cs++[0]) L'∧One false L'.fBox∧L'.fBox.fBook=L.fBox.fBook∧L'.fBox.fLives=L.fBox.fLives∧L'.fDone=L.fDone∧L'.fGives=L.fGives:=by
 have g:=s.good
 obtain ⟨f1,f2,f3,f4⟩:=s.few
 obtain ⟨t,hp⟩:=VAA (c:=opC) g rfl rfl (by rw [h1];exact Nat.le_of_ble_eq_true rfl) (by rw [h2];decide)
 have hcar:=XAA (c:=opC) (leaf:=leafB L.fBox 0) g.Jg rfl
 rw [h1,h2,List.nil_append,Int.zero_add] at hcar
 refine ⟨_,Oq (e:=IK opC) (w:=w) hp (Og g _) hcar rfl (by rw [s.codes];omega) (by omega),⟨g.Qq (Nat.le_of_ble_eq_true rfl) (Rq _ _ _ _ _ _ rfl) (by omega),by rw [s.codes],?_⟩,⟨rfl,rfl⟩,rfl,rfl,rfl,rfl⟩
 dsimp only
 rw [List.length_append,List.length_append,List.length_singleton,List.length_singleton]
 omega
theorem Jz (b:SBox) (x:Bool) (h:One x b):b.fSessions.set 0 ⟨(b.fSessions.getD 0 ⟨0,false⟩).fId,true⟩=[⟨1,true⟩]:=by rw [h.1];rfl
theorem Tq {k:ByteArray} {l:List SRec} {cs:List Int} {L:SLife} {x:Bool} {t:ByteArray} (s:LS k l cs L) (h1:One x L.fBox) (ht:t.size≤1000) (w:Int) (hc:cs.length<60) (hl:l.length<50) (hd:L.fDone.length<60):∃ L',CV L (IK (TB t)) w=some L'∧
  ((L.fBox.fBook.fTries=3∧LS k l (cs++[3]) L'∧L'.fBox=L.fBox∧L'.fDone=L.fDone)∨
   (L.fBox.fBook.fTries<3∧dig t≠L.fBox.fBook.fWord∧LS k (l++[FN (L.fBox.fBook.fTries+1)]) (cs++[4]) L'∧One x L'.fBox∧L'.fBox.fBook=(enterB L.fBox.fBook (FN (L.fBox.fBook.fTries+1))).1∧L'.fDone=L.fDone++[FN (L.fBox.fBook.fTries+1)])∨
   (L.fBox.fBook.fTries=0∧dig t=L.fBox.fBook.fWord∧LS k l (cs++[0]) L'∧One true L'.fBox∧L'.fBox.fBook=L.fBox.fBook∧L'.fDone=L.fDone)∨
   (0<L.fBox.fBook.fTries∧L.fBox.fBook.fTries<3∧dig t=L.fBox.fBook.fWord∧LS k (l++[FN 0]) (cs++[0]) L'∧One true L'.fBox∧L'.fBox.fBook=(enterB L.fBox.fBook (FN 0)).1∧L'.fDone=L.fDone++[FN 0])):=by
 have g:=s.good
 obtain ⟨f1,f2,f3,f4⟩:=s.few
 obtain ⟨t1,t2⟩:=(bookOk_iff.1 g.PZ).2.2.1
 have hcn:=g.cnt
 have hll:=g.len.2
 have hp:=Ez (c:=TB t) g (Pq ht) rfl h1.at
 have few:∀ {b:SBox} {c:Int} {q:ByteArray} {d:List SRec},d.length≤60→(cs++[c]).length≤60∧(⟨b,L.fCodes++[c],L.fReplies++[q],L.fGives,d⟩:SLife).fReplies.length=(cs++[c]).length∧(⟨b,L.fCodes++[c],L.fReplies++[q],L.fGives,d⟩:SLife).fGives.length≤60∧(⟨b,L.fCodes++[c],L.fReplies++[q],L.fGives,d⟩:SLife).fDone.length≤60:=fun hd=>by
  dsimp only
  rw [List.length_append,List.length_append,List.length_singleton,List.length_singleton]
  omega
 have go1:(L.fDone++[FN 0]).length≤60:=by rw [List.length_append,List.length_singleton];omega
 have ent:∀ n:Int,0≤n∧n≤3→∃ d,impl_Box_enter L.fBox (FN n)=some (true,⟨L.fBox.fKey,L.fBox.fUp,d,(enterB L.fBox.fBook (FN n)).1,L.fBox.fSessions,L.fBox.fLives,L.fBox.fOpened⟩)∧Good k (l++[FN n]) ⟨L.fBox.fKey,L.fBox.fUp,d,(enterB L.fBox.fBook (FN n)).1,L.fBox.fSessions,L.fBox.fLives,L.fBox.fOpened⟩:=fun n hn=>by
  have he:=Iz g.PZ (by omega) hn
  refine UAA g hl (show n≤9223372036854775807 by omega) (by rw [he]) (fun d=>?_)
  rw [he]
  exact Eq.trans (DAB (b:=L.fBox) (B:=⟨L.fBox.fBook.fWord,n,L.fBox.fBook.fThings,L.fBox.fBook.fLast,dig (L.fBox.fBook.fChain++(recText (FN n)).1),L.fBox.fBook.fCount+1⟩) rfl) g.liv.1
 by_cases c3:L.fBox.fBook.fTries=3
 ·have hw:wordT L.fBox (TB t)=noR 3:=by rw [wordT,c3];rfl
  rw [hw] at hp
  have hcar:=Fz (c:=TB t) (code:=3) (leaf:=leafB L.fBox 0) g.Jg rfl
  exact ⟨_,Oq (e:=IK (TB t)) (w:=w) hp (Og g _) hcar rfl (by rw [s.codes];omega) (by omega),.inl ⟨c3,⟨g,by rw [s.codes],few (by omega)⟩,rfl,rfl⟩⟩
 ·have hg3:decide (L.fBox.fBook.fTries≥3)=false:=decide_eq_false (by omega)
  by_cases hm:dig t=L.fBox.fBook.fWord
  ·have hm2:((dig t).toList == L.fBox.fBook.fWord.toList)=true:=by rw [hm];exact toList_self _
   by_cases c0:L.fBox.fBook.fTries=0
   ·have hw:wordT L.fBox (TB t)=([],0,⟨#[]⟩):=by rw [wordT,hg3,show (TB t).fText=t from rfl,hm2,c0];rfl
    rw [hw] at hp
    have hcar:=Gz (c:=TB t) (leaf:=leafB L.fBox 0) g.Jg rfl h1.at (by rw [h1.1];exact Nat.le_of_ble_eq_true rfl)
    rw [Jz _ _ h1,h1.2] at hcar
    exact ⟨_,Oq (e:=IK (TB t)) (w:=w) hp (Og g _) hcar rfl (by rw [s.codes];omega) (by omega),.inr (.inr (.inl ⟨c0,hm,⟨g.Qq (Nat.le_of_ble_eq_true rfl) (Rq _ _ _ _ _ _ rfl) (by omega),by rw [s.codes],few (by omega)⟩,⟨rfl,rfl⟩,rfl,rfl⟩))⟩
   ·have hw:wordT L.fBox (TB t)=([FN 0],0,⟨#[]⟩):=by rw [wordT,hg3,show (TB t).fText=t from rfl,hm2,beq_eq_false_iff_ne.2 c0];rfl
    rw [hw] at hp
    obtain ⟨d,e1,e2⟩:=ent 0 (by omega)
    have hO:One x ⟨L.fBox.fKey,L.fBox.fUp,d,(enterB L.fBox.fBook (FN 0)).1,L.fBox.fSessions,L.fBox.fLives,L.fBox.fOpened⟩:=h1
    have hcar:=Gz (c:=TB t) (leaf:=leafB L.fBox 0) e2.Jg rfl hO.at (by rw [hO.1];exact Nat.le_of_ble_eq_true rfl)
    rw [Jz _ _ hO] at hcar
    exact ⟨_,Hz (e:=IK (TB t)) (w:=w) hp rfl (Og g _) e1 hcar (by rw [s.codes];omega) (by omega) (by omega) (by omega),.inr (.inr (.inr ⟨by omega,by omega,hm,⟨e2.Qq (Nat.le_of_ble_eq_true rfl) (Rq _ _ _ _ _ _ h1.2) g.opn,by rw [s.codes],few go1⟩,⟨rfl,h1.2⟩,rfl,rfl⟩))⟩
  ·have hm2:((dig t).toList == L.fBox.fBook.fWord.toList)=false:=by rw [toList_inj];exact decide_eq_false hm
   have hw:wordT L.fBox (TB t)=([FN (L.fBox.fBook.fTries+1)],4,sayR 4):=by rw [wordT,hg3,show (TB t).fText=t from rfl,hm2];rfl
   rw [hw] at hp
   obtain ⟨d,e1,e2⟩:=ent (L.fBox.fBook.fTries+1) (by omega)
   have hcar:=Fz (c:=TB t) (code:=4) (leaf:=leafB L.fBox 0) e2.Jg rfl
   exact ⟨_,Hz (e:=IK (TB t)) (w:=w) hp rfl (Og g _) e1 hcar (by rw [s.codes];omega) (by omega) (by omega) (by omega),.inr (.inl ⟨by omega,hm,⟨e2,by rw [s.codes],few (by rw [List.length_append,List.length_singleton];omega)⟩,h1,rfl,rfl⟩)⟩
theorem GAB {L L':SLife} {e:SEvent} {w code:Int} {s:ByteArray} {r:SRec} (hp:UY L.fBox e.fCall=some ([r],code,s)) (hcut:e.fCut=true) (hc:NZ L r e.fLeft=some L'):CV L e w=some L':=by
 rw [CV,Ag,hp,Option.bind_some,hcut,cond_true,cond_t (by rfl),cond_t (by rfl),show ([r],code,s).1.getD (0:Int).toNat (⟨0,⟨#[]⟩,0,⟨0,0,false,false,false,false,⟨#[]⟩,0⟩⟩:SRec)=r from rfl,hc];rfl
theorem KY {e:SEvent} {es:List SEvent} {i:Int} {L L':SLife} (hr:e.fRise=false) (h:CV L e i=some L'):OY (e::es) i L=OY es (i+1) L':=by rw [OY,hr,cond_false,h];rfl
theorem IAB {e:SEvent} {es:List SEvent} {i:Int} {L L':SLife} (hr:e.fRise=true) (h:TY L=some L'):OY (e::es) i L=OY es (i+1) L':=by rw [OY,hr,cond_true,h];rfl
theorem Vq {k w:ByteArray} (hk:k.size=32) (hw:w.size≤20):LS k [recWord w] [] (RY k w)∧(RY k w).fBox.fSessions=[]∧(RY k w).fBox.fOpened=0∧(RY k w).fBox.fLives=[]∧(RY k w).fBox.fBook.fTries=0∧(RY k w).fBox.fBook.fWord=dig w∧(RY k w).fBox.fBook.fThings=[]∧(RY k w).fBox.fBook.fLast=0:=by
 obtain ⟨h1,h2,h3,h4,h5,h6⟩:=Bz hk hw
 have he:enterB bookNew (recWord w)=(⟨dig w,0,[],0,dig (bookNew.fChain++(recText (recWord w)).1),0+1⟩,true):=by
  rw [enterB,bookNew_ok,show (recText (recWord w)).2=true by rw [recWord_text],show decide (bookNew.fCount≥10000)=false from rfl];rfl
 rw [he] at h6
 refine ⟨⟨h2,rfl,⟨Nat.zero_le _,rfl,Nat.zero_le _,Nat.le_of_ble_eq_true rfl⟩⟩,h3,h5,h4,?_,?_,?_,?_⟩
 all_goals rw [show (RY k w).fBox.fBook=(boxNewT k w).1.fBook from rfl,h6]
def Q (k W:ByteArray) (x:Bool) (t:Int) (cs:List Int) (L:SLife):Prop:=∃ l,LS k l cs L∧l.length≤cs.length+1∧L.fDone.length≤cs.length+1∧One x L.fBox∧L.fBox.fBook.fTries=t∧L.fBox.fBook.fWord=W
theorem Wq {k:ByteArray} {l:List SRec} {b:SBox} (g:Good k l b) {n:Int} (h:0≤n∧n≤3):(enterB b.fBook (FN n)).1.fTries=n∧(enterB b.fBook (FN n)).1.fWord=b.fBook.fWord∧(enterB b.fBook (FN n)).2=true:=by
 have:=g.cnt
 have:=g.len.2
 rw [Iz g.PZ (by omega) h]
 exact ⟨rfl,rfl,rfl⟩
theorem QZ {k W s:ByteArray} {x:Bool} {t:Int} {cs:List Int} {L:SLife} (h:Q k W x t cs L) (ht:t<3) (hs:dig s≠W) (hz:s.size≤1000) (hc:cs.length<40) (w:Int):∃ L',CV L (IK (TB s)) w=some L'∧Q k W x (t+1) (cs++[4]) L':=by
 obtain ⟨l,h1,h2,h3,h4,h5,h6⟩:=h
 have t0:=(bookOk_iff.1 h1.good.PZ).2.2.1.1
 obtain ⟨L',e,c⟩:=Tq h1 h4 hz w (by omega) (by omega) (by omega)
 obtain ⟨q1,q2,_⟩:=Wq h1.good (n:=L.fBox.fBook.fTries+1) (by omega)
 refine ⟨L',e,?_⟩
 rcases c with ⟨c1,_⟩ | ⟨_,_,c3,c4,c5,c6⟩ | ⟨_,c2,_⟩ | ⟨_,_,c3,_⟩
 ·omega
 ·refine ⟨_,c3,?_,?_,c4,by rw [c5,q1,h5],by rw [c5,q2,h6]⟩
  ·rw [List.length_append,List.length_append,List.length_singleton,List.length_singleton];omega
  ·rw [c6,List.length_append,List.length_append,List.length_singleton,List.length_singleton];omega
 ·exact absurd (c2.trans h6) hs
 ·exact absurd (c3.trans h6) hs
theorem Xq {k W s:ByteArray} {x:Bool} {t:Int} {cs:List Int} {L:SLife} (h:Q k W x t cs L) (ht:t<3) (hs:dig s=W) (hz:s.size≤1000) (hc:cs.length<40) (w:Int):∃ L',CV L (IK (TB s)) w=some L'∧Q k W true 0 (cs++[0]) L':=by
 obtain ⟨l,h1,h2,h3,h4,h5,h6⟩:=h
 obtain ⟨L',e,c⟩:=Tq h1 h4 hz w (by omega) (by omega) (by omega)
 obtain ⟨q1,q2,_⟩:=Wq h1.good (n:=0) (by omega)
 have hl:∀ (a:List SRec) (r:SRec),a.length≤cs.length+1→(a++[r]).length≤(cs++[(0:Int)]).length+1:=fun a r ha=>by
  rw [List.length_append,List.length_append,List.length_singleton,List.length_singleton];omega
 have hl2:∀ (n:Nat),n≤cs.length+1→n≤(cs++[(0:Int)]).length+1:=fun n hn=>by rw [List.length_append];omega
 refine ⟨L',e,?_⟩
 rcases c with ⟨c1,_⟩ | ⟨_,c2,_⟩ | ⟨c1,c2,c3,c4,c5,c6⟩ | ⟨_,_,c3,c4,c5,c6,c7⟩
 ·omega
 ·exact absurd (hs.trans h6.symm) c2
 ·exact ⟨_,c3,hl2 _ h2,by rw [c6];exact hl2 _ h3,c4,by rw [c5,c1],by rw [c5,h6]⟩
 ·exact ⟨_,c4,hl _ _ h2,by rw [c7];exact hl _ _ h3,c5,by rw [c6,q1],by rw [c6,q2,h6]⟩
theorem Kz {k W s:ByteArray} {x:Bool} {cs:List Int} {L:SLife} (h:Q k W x 3 cs L) (hz:s.size≤1000) (hc:cs.length<40) (w:Int):∃ L',CV L (IK (TB s)) w=some L'∧Q k W x 3 (cs++[3]) L':=by
 obtain ⟨l,h1,h2,h3,h4,h5,h6⟩:=h
 obtain ⟨L',e,c⟩:=Tq h1 h4 hz w (by omega) (by omega) (by omega)
 have hl2:∀ (n:Nat),n≤cs.length+1→n≤(cs++[(3:Int)]).length+1:=fun n hn=>by rw [List.length_append];omega
 refine ⟨L',e,?_⟩
 rcases c with ⟨c1,c2,c3,c4⟩ | ⟨c1,_⟩ | ⟨c1,_⟩ | ⟨_,c1,_⟩
 ·exact ⟨_,c2,hl2 _ h2,by rw [c4];exact hl2 _ h3,by rw [c3];exact h4,by rw [c3,h5],by rw [c3,h6]⟩
 ·omega
 ·omega
 ·omega
theorem Tj {k W:ByteArray} {t:Int} {l:List SRec} {cs:List Int} {L:SLife} (h1:LS k l cs L) (h2:l.length≤cs.length+1) (h3:L.fDone.length≤cs.length+1) (h4:L.fBox.fSessions=[]) (h5:L.fBox.fOpened=0) (h6:L.fBox.fBook.fTries=t) (h7:L.fBox.fBook.fWord=W) (hc:cs.length<40) (w:Int):∃ L',CV L (IK opC) w=some L'∧Q k W false t (cs++[0]) L':=by
 obtain ⟨L',e,c1,c2,c3,_,c4,_⟩:=FAB h1 h4 h5 w (by omega)
 exact ⟨L',e,l,c1,by rw [List.length_append];omega,by rw [c4,List.length_append];omega,c2,by rw [c3,h6],by rw [c3,h7]⟩
theorem JAB {k W s:ByteArray} {x:Bool} {t:Int} {cs:List Int} {L:SLife} (h:Q k W x t cs L) (ht:t<3) (hs:dig s≠W) (hz:s.size≤1000) (hc:cs.length<20) (w:Int):∃ L',CV L ⟨TB s,true,[9000],false⟩ w=some L'∧
  ∃ l,Down k l L'.fBox∧l.length≤cs.length+2∧L'.fDone.length≤cs.length+2∧L'.fCodes=cs++[10]∧L'.fReplies.length=cs.length+1∧L'.fGives.length≤60∧(enterAllB bookNew l).1.fTries=t+1∧(enterAllB bookNew l).1.fWord=W:=by
 obtain ⟨l,h1,h2,h3,h4,h5,h6⟩:=h
 have g:=h1.good
 obtain ⟨f1,f2,f3,f4⟩:=h1.few
 have t0:=(bookOk_iff.1 g.PZ).2.2.1.1
 have hp:=Ez (c:=TB s) g (Pq hz) rfl h4.at
 have hm2:((dig s).toList == L.fBox.fBook.fWord.toList)=false:=by rw [toList_inj];exact decide_eq_false (by rw [h6];exact hs)
 have hw:wordT L.fBox (TB s)=([FN (L.fBox.fBook.fTries+1)],4,sayR 4):=by rw [wordT,decide_eq_false (by omega:¬ L.fBox.fBook.fTries≥3),show (TB s).fText=s from rfl,hm2];rfl
 rw [hw] at hp
 obtain ⟨q1,q2,q3⟩:=Wq g (n:=L.fBox.fBook.fTries+1) (by omega)
 obtain ⟨l',b',e1,e2,e3,e4,_⟩:=ZAA (r:=FN (L.fBox.fBook.fTries+1)) [9000] g (by omega) (show L.fBox.fBook.fTries+1≤_ by omega) q3 (by rw [h1.codes];omega) (by omega) (by omega)
 have e5:=e4 9000 [] rfl (by omega)
 subst e5
 have hb:enterAllB bookNew (l++[FN (L.fBox.fBook.fTries+1)])=((enterB L.fBox.fBook (FN (L.fBox.fBook.fTries+1))).1,true):=by
  rw [enterAll_app,g.book]
  dsimp only
  rw [cond_true,enterAllB,q3];rfl
 refine ⟨_,GAB (e:=⟨TB s,true,[9000],false⟩) (w:=w) hp rfl e1,_,e2,?_,?_,by rw [h1.codes],?_,f3,by rw [hb,←h5];exact q1,by rw [hb,←h6];exact q2⟩
 ·rw [List.length_append,List.length_singleton];omega
 ·dsimp only
  rw [decide_eq_true (by rw [List.length_append,List.length_singleton];omega:(l++[FN (L.fBox.fBook.fTries+1)]).length > l.length),cond_true,List.length_append,List.length_singleton];omega
 ·dsimp only
  rw [List.length_append,List.length_singleton,f2]
theorem KAB {k W:ByteArray} {t:Int} {l:List SRec} {cs:List Int} {L:SLife} (h:Down k l L.fBox) (hd:L.fDone.length≤cs.length+2) (hc:L.fCodes=cs) (hz:cs.length<40) (hr:L.fReplies.length=cs.length) (hg:L.fGives.length≤60) (ht:(enterAllB bookNew l).1.fTries=t) (hw:(enterAllB bookNew l).1.fWord=W):∃ L',TY L=some L'∧LS k l (cs++[0]) L'∧L'.fBox.fSessions=[]∧L'.fBox.fOpened=0∧L'.fBox.fBook.fTries=t∧L'.fBox.fBook.fWord=W∧L'.fDone=L.fDone:=by
 obtain ⟨b',e1,e2,e3,e4,e5,e6⟩:=BAB h (by rw [hc];omega) (by omega)
 refine ⟨_,e1,⟨e2,by rw [hc],?_⟩,e3,e5,by rw [e6];exact ht,by rw [e6];exact hw,rfl⟩
 dsimp only
 rw [List.length_append,List.length_append,List.length_singleton,List.length_singleton]
 omega
theorem LAB:nall (fun i=>PY (Nat.add 0 i)) 1000=true:=by kernel_rfl
theorem MAB:nall (fun i=>PY (Nat.add 1000 i)) 1000=true:=by kernel_rfl
theorem NAB:nall (fun i=>PY (Nat.add 2000 i)) 1000=true:=by kernel_rfl
theorem OAB:nall (fun i=>PY (Nat.add 3000 i)) 1000=true:=by kernel_rfl
theorem PAB:nall (fun i=>PY (Nat.add 4000 i)) 1000=true:=by kernel_rfl
theorem QAB:nall (fun i=>PY (Nat.add 5000 i)) 1000=true:=by kernel_rfl
theorem RAB:nall (fun i=>PY (Nat.add 6000 i)) 1000=true:=by kernel_rfl
theorem SAB:nall (fun i=>PY (Nat.add 7000 i)) 1000=true:=by kernel_rfl
theorem TAB:nall (fun i=>PY (Nat.add 8000 i)) 1000=true:=by kernel_rfl
theorem UAB:nall (fun i=>PY (Nat.add 9000 i)) 1000=true:=by kernel_rfl
theorem VAB {n:Nat} (h:n<10000):PY n=true:=by
 have go:∀ k,nall (fun i=>PY (Nat.add k i)) 1000=true→k≤n→n<k+1000→PY n=true:=fun k hk h1 h2=>by
  have:=WAB hk (n - k) (by omega)
  rwa [show Nat.add k (n - k)=n from (by omega:k+(n - k)=n)] at this
 rcases Nat.lt_or_ge n 1000 with h0 | h0
 ·exact go 0 LAB (by omega) (by omega)
 rcases Nat.lt_or_ge n 2000 with h1 | h1
 ·exact go 1000 MAB (by omega) (by omega)
 rcases Nat.lt_or_ge n 3000 with h2 | h2
 ·exact go 2000 NAB (by omega) (by omega)
 rcases Nat.lt_or_ge n 4000 with h3 | h3
 ·exact go 3000 OAB (by omega) (by omega)
 rcases Nat.lt_or_ge n 5000 with h4 | h4
 ·exact go 4000 PAB (by omega) (by omega)
 rcases Nat.lt_or_ge n 6000 with h5 | h5
 ·exact go 5000 QAB (by omega) (by omega)
 rcases Nat.lt_or_ge n 7000 with h6 | h6
 ·exact go 6000 RAB (by omega) (by omega)
 rcases Nat.lt_or_ge n 8000 with h7 | h7
 ·exact go 7000 SAB (by omega) (by omega)
 rcases Nat.lt_or_ge n 9000 with h8 | h8
 ·exact go 8000 TAB (by omega) (by omega)
 exact go 9000 UAB (by omega) (by omega)
def SN:ByteArray:=⟨#[110,111]⟩
theorem XAB {k w:ByteArray} (hk:k.size=32) (hw:w.size≤20) (hf:dig SN≠dig w):∃ L,OY [IK opC,IK (TB w),IK (TB SN),IK (TB SN),IK (TB SN),IK (TB w)] 0 (RY k w)=some L∧L.fCodes=[0,0,4,4,4,3]∧L.fBox.fBook.fTries=3:=by
 obtain ⟨s0,s1,s2,_,s4,s5,_,_⟩:=Vq hk hw
 have hn:SN.size≤1000:=Nat.le_of_ble_eq_true rfl
 obtain ⟨L1,e1,q1⟩:=Tj s0 (Nat.le_refl _) (Nat.le_refl _) s1 s2 s4 s5 (by decide) 0
 obtain ⟨L2,e2,q2⟩:=Xq q1 (by omega) rfl (by omega) (by decide) (0+1)
 obtain ⟨L3,e3,q3⟩:=QZ q2 (by omega) hf hn (by decide) (0+1+1)
 obtain ⟨L4,e4,q4⟩:=QZ q3 (by omega) hf hn (by decide) (0+1+1+1)
 obtain ⟨L5,e5,q5⟩:=QZ q4 (by omega) hf hn (by decide) (0+1+1+1+1)
 obtain ⟨L6,e6,q6⟩:=Kz (s:=w) q5 (by omega) (by decide) (0+1+1+1+1+1)
 obtain ⟨l,g1,_,_,_,g5,_⟩:=q6
 refine ⟨L6,?_,g1.codes,g5⟩
 rw [KY rfl e1,KY rfl e2,KY rfl e3,KY rfl e4,KY rfl e5,KY rfl e6];rfl
theorem YAB {k w:ByteArray} (hk:k.size=32) (hw:w.size≤20) (hf:dig SN≠dig w):∃ L,OY [IK opC,IK (TB SN),IK (TB SN),IK (TB w),IK (TB SN),IK (TB w)] 0 (RY k w)=some L∧L.fCodes=[0,4,4,0,4,0]:=by
 obtain ⟨s0,s1,s2,_,s4,s5,_,_⟩:=Vq hk hw
 have hn:SN.size≤1000:=Nat.le_of_ble_eq_true rfl
 obtain ⟨L1,e1,q1⟩:=Tj s0 (Nat.le_refl _) (Nat.le_refl _) s1 s2 s4 s5 (by decide) 0
 obtain ⟨L2,e2,q2⟩:=QZ q1 (by omega) hf hn (by decide) (0+1)
 obtain ⟨L3,e3,q3⟩:=QZ q2 (by omega) hf hn (by decide) (0+1+1)
 obtain ⟨L4,e4,q4⟩:=Xq q3 (by omega) rfl (by omega) (by decide) (0+1+1+1)
 obtain ⟨L5,e5,q5⟩:=QZ q4 (by omega) hf hn (by decide) (0+1+1+1+1)
 obtain ⟨L6,e6,q6⟩:=Xq q5 (by omega) rfl (by omega) (by decide) (0+1+1+1+1+1)
 obtain ⟨l,g1,_⟩:=q6
 refine ⟨L6,?_,g1.codes⟩
 rw [KY rfl e1,KY rfl e2,KY rfl e3,KY rfl e4,KY rfl e5,KY rfl e6];rfl
def Uj:SEvent:=⟨⟨0,0,0,0,⟨#[]⟩,false,false⟩,false,[],true⟩
theorem ZAB {k w:ByteArray} (hk:k.size=32) (hw:w.size≤20) (hf:dig SN≠dig w):∃ L,OY [IK opC,IK (TB SN),IK (TB SN),⟨TB SN,true,[9000],false⟩,Uj,IK opC,IK (TB w)] 0 (RY k w)=some L∧L.fCodes=[0,4,4,10,0,0,3]:=by
 obtain ⟨s0,s1,s2,_,s4,s5,_,_⟩:=Vq hk hw
 have hn:SN.size≤1000:=Nat.le_of_ble_eq_true rfl
 obtain ⟨L1,e1,q1⟩:=Tj s0 (Nat.le_refl _) (Nat.le_refl _) s1 s2 s4 s5 (by decide) 0
 obtain ⟨L2,e2,q2⟩:=QZ q1 (by omega) hf hn (by decide) (0+1)
 obtain ⟨L3,e3,q3⟩:=QZ q2 (by omega) hf hn (by decide) (0+1+1)
 obtain ⟨L4,e4,l,d1,d2,d3,d4,d5,d6,d7,d8⟩:=JAB q3 (by omega) hf hn (by decide) (0+1+1+1)
 obtain ⟨L5,e5,u1,u2,u3,u4,u5,u6⟩:=KAB d1 (Nat.le_trans d3 (by decide)) d4 (by decide) d5 d6 d7 d8
 obtain ⟨L6,e6,q6⟩:=Tj u1 (Nat.le_trans d2 (by decide)) (by rw [u6];exact Nat.le_trans d3 (by decide)) u2 u3 u4 u5 (by decide) (0+1+1+1+1+1)
 obtain ⟨L7,e7,q7⟩:=Kz (s:=w) q6 (by omega) (by decide) (0+1+1+1+1+1+1)
 obtain ⟨l,g1,_⟩:=q7
 refine ⟨L7,?_,g1.codes⟩
 rw [KY rfl e1,KY rfl e2,KY rfl e3,KY rfl e4,IAB rfl e5,KY rfl e6,KY rfl e7];rfl
theorem Yq {k w:ByteArray} {es:List SEvent} {L:SLife} (hk:k.size=32) (hw:w.size≤20) (hz:es.length≤40) (he:es.all eventOk=true) (h:OY es 0 (RY k w)=some L):EZ k w es=some (L,true):=by
 rw [SAA (by omega) (by omega),(Bz hk hw).1,decide_eq_true hz,he,h];rfl
theorem law_FnLocked (x0:Unit):laws_FnLocked x0=some true:=by
 rw [laws_FnLocked,Hq,AAC,Option.bind_some]
 cases decide ((codeL.length:Int) > 1048576)
 ·rw [cond_false]
  obtain ⟨ps,h2,hp,hpx⟩:=p_spec_DrawPlaces
  have hp0:ps.getD 0 0=ps[0]'(by omega):=getD_at (by omega) 0
  obtain ⟨b1,b2⟩:=hpx _ (List.getElem_mem (show 0<ps.length by omega))
  obtain ⟨n,hn⟩:∃ n:Nat,ps[0]'(by omega)=(n:Int):=⟨(ps[0]'(by omega)).toNat,by omega⟩
  have hlt:n<10000:=by omega
  have hws:(ofBytes (LY n)).size≤4:=by rw [ofBytes_size];exact Nz hlt
  have hf:=(BAC hlt (VAB hlt)).symm
  rw [h2,Option.bind_some,cond_t (by rw [hp];rfl),show (0:Int).toNat=0 from rfl,hp0,hn,CAC hlt,Option.bind_some]
  generalize ofBytes (LY n)=w at hws hf
  rw [p_spec_DigestOf (by omega),Option.bind_some]
  have hk:=dig_size w
  generalize dig w=k at hk
  obtain ⟨A,a1,a2,a3⟩:=XAB (k:=k) hk (by omega) hf
  obtain ⟨B,c1,c2⟩:=YAB (k:=k) hk (by omega) hf
  obtain ⟨C,d1,d2⟩:=ZAB (k:=k) hk (by omega) hf
  have w1:=CAB (Pq (t:=w) (by omega))
  have w2:eventOk (IK (TB SN))=true:=rfl
  have w3:eventOk (IK opC)=true:=rfl
  have w4:eventOk ⟨TB SN,true,[9000],false⟩=true:=rfl
  have w5:eventOk Uj=true:=by simp [eventOk,Uj,noCall]
  have r1:=Yq hk (by omega) (Nat.le_of_ble_eq_true rfl) (by rw [List.all_cons,List.all_cons,List.all_cons,List.all_cons,List.all_cons,List.all_cons,w1,w2,w3];rfl) a1
  have r2:=Yq hk (by omega) (Nat.le_of_ble_eq_true rfl) (by rw [List.all_cons,List.all_cons,List.all_cons,List.all_cons,List.all_cons,List.all_cons,w1,w2,w3];rfl) c1
  have r3:=Yq hk (by omega) (Nat.le_of_ble_eq_true rfl) (by rw [List.all_cons,List.all_cons,List.all_cons,List.all_cons,List.all_cons,List.all_cons,List.all_cons,w1,w2,w3,w4,w5];rfl) d1
  show (EZ k w [IK opC,IK (TB w),IK (TB SN),IK (TB SN),IK (TB SN),IK (TB w)]).bind _=_
  rw [r1,Option.bind_some]
  show (EZ k w [IK opC,IK (TB SN),IK (TB SN),IK (TB w),IK (TB SN),IK (TB w)]).bind _=_
  rw [r2,Option.bind_some]
  show (EZ k w [IK opC,IK (TB SN),IK (TB SN),⟨TB SN,true,[9000],false⟩,Uj,IK opC,IK (TB w)]).bind _=_
  rw [r3,Option.bind_some]
  dsimp only
  rw [cond_true,cond_true,cond_true,a2,c2,d2,Kq (Nat.le_of_ble_eq_true rfl),Option.bind_some,cond_true,Kq (Nat.le_of_ble_eq_true rfl),Option.bind_some,cond_true,Kq (Nat.le_of_ble_eq_true rfl),Option.bind_some,cond_true,a3];rfl
 ·rfl
end Go.Proofs.YtefdenlloeedkaaGreatDoor.G
