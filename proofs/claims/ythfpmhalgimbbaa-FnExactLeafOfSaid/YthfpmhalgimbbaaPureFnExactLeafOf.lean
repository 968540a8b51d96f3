/- The plain law of FnExactLeafOf: whatever the arguments, it answers true. Conditions: what is read is in reach. Part 1 of 1. -/
import Derived.Test.YthfpmhalgimbbaaFFnExactLeafOf
import Derived.Test.YthfpmhalgimbbaaOpens
import Derived.Test.YthfpmhalgimbbaaPBase
namespace Go.Proofs.Ythfpmhalgimbbaa.G
open Go Go.Ev
set_option linter.unusedVariables false
set_option linter.unusedSimpArgs false
theorem DAt {a:SFile} (g:GSFile a) (n:Int):∃ r,IAj a n=some r:=by
 unfold IAj UAm
 cases decide ((w64 (n - (a.fName.size:Int)))<0)
 rotate_left
 ·exact ⟨_,rfl⟩
 simp only [cond_false]
 cases decide ((w64 ((w64 (n - (a.fName.size:Int))) - (a.fText.size:Int)))<0)
 rotate_left
 ·exact ⟨_,rfl⟩
 simp only [cond_false]
 exact ⟨_,rfl⟩
theorem EAt {a:(List SFile)} (g:(GList 40 GSFile) a) (n:Int):∃ r,EAk a n=some r:=by
 have h:=g.1
 have key:∀ m i l,i≤a.length→a.length - i<m→∃ r,SAl m (.c0 a l i)=some r:=by
  intro m
  induction m with
  | zero=>intro i l _ h;omega
  | succ m ih=>
   intro i l h1 h2
   simp only [SAl,XAm]
   by_cases hi:i<a.length
   ·have hw:w64 ((i:Int)+1)=((i+1:Nat):Int):=by rw [w64_id (by omega) (by omega)];rfl
    obtain ⟨r,hr⟩:=DAt (g.2 _ (List.getElem_mem hi)) l
    simp only [Int.toNat_natCast,getD_at hi,hr,Option.bind_some,hw]
    rw [show (decide ((i:Int)<(a.length:Int)))=true from decide_eq_true (by omega),show (decide ((0:Int)≤(i:Int)))=true from decide_eq_true (by omega)]
    simp only [Bool.and_self,cond_true]
    cases decide (r<0)
    ·exact ih (i+1) r hi (by omega)
    ·exact ⟨_,rfl⟩
   ·rw [show (decide ((i:Int)<(a.length:Int)))=false from decide_eq_false (by omega)]
    exact ⟨_,rfl⟩
 unfold EAk WAm
 cases decide (w64 (n - (a.length:Int))<0)
 ·exact key gas 0 _ (Nat.zero_le _) (gas_lt (by omega))
 ·exact ⟨_,rfl⟩
theorem FAt {a:SDisk} (g:GSDisk a) (n:Int):∃ r,FAk a n=some r:=by
 unfold FAk ZAm
 obtain ⟨r0,hr0⟩:=EAt (g) (n)
 simp only [hr0,Option.bind_some]
 cases decide (r0<0)
 rotate_left
 ·exact ⟨_,rfl⟩
 simp only [cond_false]
 exact ⟨_,rfl⟩
theorem GAt {a:SThing} (g:GSThing a) (n:Int):∃ r,WAj a n=some r:=⟨_,cond_some _ _ _⟩
theorem IAt {a:(List SThing)} (g:(GList 48 GSThing) a) (n:Int):∃ r,HAk a n=some r:=by
 have h:=g.1
 have key:∀ m i l,i≤a.length→a.length - i<m→∃ r,UAl m (.c0 a l i)=some r:=by
  intro m
  induction m with
  | zero=>intro i l _ h;omega
  | succ m ih=>
   intro i l h1 h2
   simp only [UAl,CAn]
   by_cases hi:i<a.length
   ·have hw:w64 ((i:Int)+1)=((i+1:Nat):Int):=by rw [w64_id (by omega) (by omega)];rfl
    obtain ⟨r,hr⟩:=GAt (g.2 _ (List.getElem_mem hi)) l
    simp only [Int.toNat_natCast,getD_at hi,hr,Option.bind_some,hw]
    rw [show (decide ((i:Int)<(a.length:Int)))=true from decide_eq_true (by omega),show (decide ((0:Int)≤(i:Int)))=true from decide_eq_true (by omega)]
    simp only [Bool.and_self,cond_true]
    cases decide (r<0)
    ·exact ih (i+1) r hi (by omega)
    ·exact ⟨_,rfl⟩
   ·rw [show (decide ((i:Int)<(a.length:Int)))=false from decide_eq_false (by omega)]
    exact ⟨_,rfl⟩
 unfold HAk BAn
 cases decide (w64 (n - (a.length:Int))<0)
 ·exact key gas 0 _ (Nat.zero_le _) (gas_lt (by omega))
 ·exact ⟨_,rfl⟩
theorem JAt {a:SBook} (g:GSBook a) (n:Int):∃ r,IAk a n=some r:=by
 unfold IAk EAn
 cases decide ((w64 (n - (a.fWord.size:Int)))<0)
 rotate_left
 ·exact ⟨_,rfl⟩
 simp only [cond_false]
 obtain ⟨r0,hr0⟩:=IAt (g.2.2.1) ((w64 (n - (a.fWord.size:Int))))
 simp only [hr0,Option.bind_some]
 cases decide (r0<0)
 rotate_left
 ·exact ⟨_,rfl⟩
 simp only [cond_false]
 cases decide ((w64 (r0 - (a.fChain.size:Int)))<0)
 rotate_left
 ·exact ⟨_,rfl⟩
 simp only [cond_false]
 exact ⟨_,rfl⟩
theorem KAt {a:(List SSession)} (_:(GList 16 GSSession) a) (n:Int):∃ r,VAl a n=some r:=⟨_,cond_some _ _ _⟩
theorem LAt {a:(List SLive)} (_:(GList 16 GSLive) a) (n:Int):∃ r,WAl a n=some r:=⟨_,cond_some _ _ _⟩
theorem MAt {a:SBox} (g:GSBox a) (n:Int):∃ r,JAk a n=some r:=by
 unfold JAk IAn
 cases decide ((w64 (n - (a.fKey.size:Int)))<0)
 rotate_left
 ·exact ⟨_,rfl⟩
 simp only [cond_false]
 obtain ⟨r0,hr0⟩:=FAt (g.2.2.1) ((w64 (n - (a.fKey.size:Int))))
 simp only [hr0,Option.bind_some]
 cases decide (r0<0)
 rotate_left
 ·exact ⟨_,rfl⟩
 simp only [cond_false]
 obtain ⟨r1,hr1⟩:=JAt (g.2.2.2.1) (r0)
 simp only [hr1,Option.bind_some]
 cases decide (r1<0)
 rotate_left
 ·exact ⟨_,rfl⟩
 simp only [cond_false]
 obtain ⟨r2,hr2⟩:=KAt (g.2.2.2.2.1) (r1)
 simp only [hr2,Option.bind_some]
 cases decide (r2<0)
 rotate_left
 ·exact ⟨_,rfl⟩
 simp only [cond_false]
 obtain ⟨r3,hr3⟩:=LAt (g.2.2.2.2.2.1) (r2)
 simp only [hr3,Option.bind_some]
 cases decide (r3<0)
 rotate_left
 ·exact ⟨_,rfl⟩
 simp only [cond_false]
 exact ⟨_,rfl⟩
theorem NAt {a:SFile} (g:GSFile a):JAj a=some a:=by
 simp only [JAj,JAn,Option.bind_some]
theorem OAt {a:(List SFile)} (g:(GList 40 GSFile) a):LAk a=some a:=by
 have h:=g.1
 have key:∀ m i,i≤a.length→a.length - i<m→KAj m (.c0 a i (a.take i++List.replicate (a.length - i) (⟨(⟨#[]⟩:ByteArray),(⟨#[]⟩:ByteArray),(0:Int)⟩:SFile)))=some a:=fun m i h1 h2=>
  loopN (A:=Unit) (n:=a.length) (Lp:=KAj) (st:=fun i _=>.c0 a i (a.take i++List.replicate (a.length - i) (⟨(⟨#[]⟩:ByteArray),(⟨#[]⟩:ByteArray),(0:Int)⟩:SFile))) (Inv:=fun _ _=>True) (out:=fun _ _=>some a)
   (fun m _ _=>by simp [KAj,YAl])
   (fun m i _ hi _=>.inr ⟨(),by
    have hw:w64 ((i:Int)+1)=((i+1:Nat):Int):=by rw [w64_id (by omega) (by omega)];rfl
    have hc:=copied_len (Nat.le_of_lt hi) (⟨(⟨#[]⟩:ByteArray),(⟨#[]⟩:ByteArray),(0:Int)⟩:SFile)
    simp only [KAj,YAl,Int.toNat_natCast,getD_at hi,NAt (g.2 _ (List.getElem_mem hi)),Option.bind_some,hw,copied hi,hc]
    simp [hi],trivial,rfl⟩) m i () h1 h2 trivial
 have h0:KAj gas (.c0 a 0 (List.replicate a.length (⟨(⟨#[]⟩:ByteArray),(⟨#[]⟩:ByteArray),(0:Int)⟩:SFile)))=some a:=by
  have:=key gas 0 (Nat.zero_le _) (gas_lt (by omega))
  simpa using this
 unfold LAk LAn
 simp only [Int.toNat_natCast,h0]
 simp [show a.length*40≤140737488355328 from by omega,show ((a.length:Int)≤9223372036854775807) from by omega]
 try omega
theorem PAt {a:SDisk} (g:GSDisk a):MAk a=some a:=by
 simp only [MAk,NAn,OAt (g),Option.bind_some]
theorem QAt {a:SThing} (g:GSThing a):LAj a=some a:=by
 simp only [LAj,OAn,Option.bind_some]
theorem RAt {a:(List SThing)} (g:(GList 48 GSThing) a):OAk a=some a:=by
 have h:=g.1
 have key:∀ m i,i≤a.length→a.length - i<m→MAj m (.c0 a i (a.take i++List.replicate (a.length - i) (⟨(0:Int),(0:Int),false,false,false,false,(⟨#[]⟩:ByteArray),(0:Int)⟩:SThing)))=some a:=fun m i h1 h2=>
  loopN (A:=Unit) (n:=a.length) (Lp:=MAj) (st:=fun i _=>.c0 a i (a.take i++List.replicate (a.length - i) (⟨(0:Int),(0:Int),false,false,false,false,(⟨#[]⟩:ByteArray),(0:Int)⟩:SThing))) (Inv:=fun _ _=>True) (out:=fun _ _=>some a)
   (fun m _ _=>by simp [MAj,AAm])
   (fun m i _ hi _=>.inr ⟨(),by
    have hw:w64 ((i:Int)+1)=((i+1:Nat):Int):=by rw [w64_id (by omega) (by omega)];rfl
    have hc:=copied_len (Nat.le_of_lt hi) (⟨(0:Int),(0:Int),false,false,false,false,(⟨#[]⟩:ByteArray),(0:Int)⟩:SThing)
    simp only [MAj,AAm,Int.toNat_natCast,getD_at hi,QAt (g.2 _ (List.getElem_mem hi)),Option.bind_some,hw,copied hi,hc]
    simp [hi],trivial,rfl⟩) m i () h1 h2 trivial
 have h0:MAj gas (.c0 a 0 (List.replicate a.length (⟨(0:Int),(0:Int),false,false,false,false,(⟨#[]⟩:ByteArray),(0:Int)⟩:SThing)))=some a:=by
  have:=key gas 0 (Nat.zero_le _) (gas_lt (by omega))
  simpa using this
 unfold OAk QAn
 simp only [Int.toNat_natCast,h0]
 simp [show a.length*48≤140737488355328 from by omega,show ((a.length:Int)≤9223372036854775807) from by omega]
 try omega
theorem SAt {a:SBook} (g:GSBook a):PAk a=some a:=by
 simp only [PAk,SAn,RAt (g.2.2.1),Option.bind_some]
theorem TAt {a:SSession} (g:GSSession a):NAj a=some a:=by
 simp only [NAj,TAn,Option.bind_some]
theorem UAt {a:(List SSession)} (g:(GList 16 GSSession) a):RAk a=some a:=by
 have h:=g.1
 have key:∀ m i,i≤a.length→a.length - i<m→OAj m (.c0 a i (a.take i++List.replicate (a.length - i) (⟨(0:Int),false⟩:SSession)))=some a:=fun m i h1 h2=>
  loopN (A:=Unit) (n:=a.length) (Lp:=OAj) (st:=fun i _=>.c0 a i (a.take i++List.replicate (a.length - i) (⟨(0:Int),false⟩:SSession))) (Inv:=fun _ _=>True) (out:=fun _ _=>some a)
   (fun m _ _=>by simp [OAj,CAm])
   (fun m i _ hi _=>.inr ⟨(),by
    have hw:w64 ((i:Int)+1)=((i+1:Nat):Int):=by rw [w64_id (by omega) (by omega)];rfl
    have hc:=copied_len (Nat.le_of_lt hi) (⟨(0:Int),false⟩:SSession)
    simp only [OAj,CAm,Int.toNat_natCast,getD_at hi,TAt (g.2 _ (List.getElem_mem hi)),Option.bind_some,hw,copied hi,hc]
    simp [hi],trivial,rfl⟩) m i () h1 h2 trivial
 have h0:OAj gas (.c0 a 0 (List.replicate a.length (⟨(0:Int),false⟩:SSession)))=some a:=by
  have:=key gas 0 (Nat.zero_le _) (gas_lt (by omega))
  simpa using this
 unfold RAk VAn
 simp only [Int.toNat_natCast,h0]
 simp [show a.length*16≤140737488355328 from by omega,show ((a.length:Int)≤9223372036854775807) from by omega]
 try omega
theorem VAt {a:SLive} (g:GSLive a):PAj a=some a:=by
 simp only [PAj,WAn,Option.bind_some]
theorem WAt {a:(List SLive)} (g:(GList 16 GSLive) a):TAk a=some a:=by
 have h:=g.1
 have key:∀ m i,i≤a.length→a.length - i<m→QAj m (.c0 a i (a.take i++List.replicate (a.length - i) (⟨(0:Int),(0:Int)⟩:SLive)))=some a:=fun m i h1 h2=>
  loopN (A:=Unit) (n:=a.length) (Lp:=QAj) (st:=fun i _=>.c0 a i (a.take i++List.replicate (a.length - i) (⟨(0:Int),(0:Int)⟩:SLive))) (Inv:=fun _ _=>True) (out:=fun _ _=>some a)
   (fun m _ _=>by simp [QAj,EAm])
   (fun m i _ hi _=>.inr ⟨(),by
    have hw:w64 ((i:Int)+1)=((i+1:Nat):Int):=by rw [w64_id (by omega) (by omega)];rfl
    have hc:=copied_len (Nat.le_of_lt hi) (⟨(0:Int),(0:Int)⟩:SLive)
    simp only [QAj,EAm,Int.toNat_natCast,getD_at hi,VAt (g.2 _ (List.getElem_mem hi)),Option.bind_some,hw,copied hi,hc]
    simp [hi],trivial,rfl⟩) m i () h1 h2 trivial
 have h0:QAj gas (.c0 a 0 (List.replicate a.length (⟨(0:Int),(0:Int)⟩:SLive)))=some a:=by
  have:=key gas 0 (Nat.zero_le _) (gas_lt (by omega))
  simpa using this
 unfold TAk YAn
 simp only [Int.toNat_natCast,h0]
 simp [show a.length*16≤140737488355328 from by omega,show ((a.length:Int)≤9223372036854775807) from by omega]
 try omega
theorem XAt {a:SBox} (g:GSBox a):UAk a=some a:=by
 simp only [UAk,AAo,PAt (g.2.2.1),SAt (g.2.2.2.1),UAt (g.2.2.2.2.1),WAt (g.2.2.2.2.2.1),Option.bind_some]
def EAS (xs:List SThing) (t:Int):Option SThing:=xs.find? fun x=>x.fId == t
def VAj:SThing:=⟨0,0,false,false,false,false,⟨#[]⟩,0⟩
theorem YAt {b:SBook} {t:Int} (h:b.fThings.length≤140737488351232):GAm b t=some (match EAS b.fThings t with | some x=>(x,true) | none=>(VAj,false)):=by
 have key:∀ m i,i≤b.fThings.length→b.fThings.length - i<m→XAj m (.c0 t i b VAj)=some (match EAS (b.fThings.drop i) t with | some x=>(x,true) | none=>(VAj,false)):=fun m i h1 h2=>
  loopN (A:=Unit) (n:=b.fThings.length) (Lp:=XAj) (st:=fun i _=>.c0 t i b VAj) (Inv:=fun _ _=>True) (out:=fun i _=>some (match EAS (b.fThings.drop i) t with | some x=>(x,true) | none=>(VAj,false)))
   (fun m _ _=>by simp [XAj,FAm,EAS,VAj])
   (fun m i _ hi _=>by
    have hw:w64 ((i:Int)+1)=((i+1:Nat):Int):=by rw [w64_id (by omega) (by omega)];rfl
    simp only [XAj,FAm,Int.toNat_natCast,getD_at hi,hw,drop_at hi,EAS,List.find?_cons]
    cases hq:b.fThings[i].fId == t
    ·exact .inr ⟨(),by simp [hi],trivial,by simp⟩
    ·exact .inl (by simp [hi])) m i () h1 h2 trivial
 have h0:=key gas 0 (Nat.zero_le _) (gas_lt (by omega))
 exact h0
def bs (s:ByteArray):List Int:=s.data.toList.map fun b=>(b.toNat:Int)
theorem bs_len (s:ByteArray):(bs s).length=s.size:=by unfold bs;rw [List.length_map];rfl
theorem ZAt {s:ByteArray} {n:Int} (h:n ∈ bs s):0≤n∧n≤255:=by
 unfold bs at h;rw [List.mem_map] at h;obtain ⟨b,_,rfl⟩:=h
 have:=b.toNat_lt;omega
theorem WAu (a b:ByteArray):bs (a++b)=bs a++bs b:=by simp [bs]
theorem LAq (s:ByteArray):ofBytes (bs s)=s:=by
 cases s;simp [ofBytes,bs,Function.comp_def]
theorem XAu {s t:ByteArray} (h:bs s=bs t):s=t:=by rw [←LAq s,h,LAq]
theorem YAu {l:List Int} (h:∀ n,n ∈ l→0≤n∧n≤255):bs (ofBytes l)=l:=by
 simp only [bs,ofBytes,List.map_map]
 conv=>rhs;rw [←List.map_id l]
 apply List.map_congr_left
 intro n hn
 obtain ⟨h1,h2⟩:=h n hn
 simp only [Function.comp,UInt8.toNat_ofNat',id]
 omega
theorem AAu {s:ByteArray} {i:Nat} (h:i<s.size):bt s (i:Int)=(bs s)[i]'(by rw [bs_len];exact h):=by
 simp only [bt,Int.toNat_natCast,h,dite_true,bs,List.getElem_map]
 rfl
theorem ZAu (s:ByteArray) (i:Int):0≤bt s i∧bt s i≤255:=by
 unfold bt;split
 ·have:=(s[i.toNat]).toNat_lt;omega
 ·omega
theorem AAv (s:ByteArray) (i j:Nat):bs (s.extract i j)=((bs s).take j).drop i:=by
 simp only [bs,ByteArray.data_extract,Array.toList_extract,List.extract_eq_take_drop,List.map_take,List.map_drop]
 rw [List.drop_take]
theorem BAv {α:Type} {c:Bool} {a b:α} (h:c=true):(bif c then a else b)=a:=by rw [h];rfl
theorem MAq {α:Type} {c:Bool} {a b:α} (h:c=false):(bif c then a else b)=b:=by rw [h];rfl
theorem BAu {s:ByteArray} {i:Nat} (h:i<s.size):bt s (i:Int)=(bs s).getD i 0:=by rw [AAu h,getD_at]
theorem CAv {s:ByteArray} {i:Int} {j:Nat} (e:i=(j:Int)) (h:j<s.size):bt s i=(bs s).getD j 0:=by rw [e,BAu h]
theorem DAv {α:Type} {a b:List α} {i:Nat} (h:i<a.length) (d:α):(a++b).getD i d=a.getD i d:=by simp [List.getD,List.getElem?_append_left h]
theorem EAv {α:Type} {a b:List α} {i:Nat} (h:a.length≤i) (d:α):(a++b).getD i d=b.getD (i - a.length) d:=by simp [List.getD,List.getElem?_append_right h]
theorem FAv {α:Type} {a b:List α} {x y:α} {i:Nat} (h:a.length=i):(a++x::b).set i y=a++y::b:=by
 rw [List.set_append_right _ _ (by omega),h,Nat.sub_self];rfl
theorem GAv {a b:Nat} (h:a=b):Nat.beq a b=true:=by subst h;exact Nat.beq_refl _
theorem HAv {P:Int→Prop} (n:Int) (h:0≤n) (k:∀ m:Nat,n=(m:Int)→P (m:Int)):P n:=by
 have:=k n.toNat (by omega)
 rwa [show ((n.toNat:Nat):Int)=n by omega] at this
theorem IAv:bs (⟨#[]⟩:ByteArray)=[]:=rfl
def Byt (l:List Int):Prop:=∀ n,n ∈ l→0≤n∧n≤255
theorem JAv {l:List Int} (h:Byt l) (i:Nat):0≤l.getD i 0∧l.getD i 0≤255:=by
 by_cases hi:i<l.length
 ·rw [getD_at hi];exact h _ (List.getElem_mem hi)
 ·have:l.getD i 0=0:=by simp [List.getD,List.getElem?_eq_none (Nat.le_of_not_lt hi)]
  omega
theorem KAv (s:ByteArray):Byt (bs s):=fun _ h=>ZAt h
theorem LAv (s:ByteArray):bytesOf s=bs s:=rfl
theorem MAv {α:Type} {l:List α} {i:Nat} (h:i<l.length) (y d:α):(l.set i y).getD i d=y:=by simp [List.getD,h]
def FAS:List SLive→Int→Nat→Option Nat
 | [],_,_=>none
 | l::ls,t,i=>if l.fId == t then some i else FAS ls t (i+1)
theorem CAu {t:Int}:∀ {ls:List SLive} {i j:Nat},FAS ls t i=some j→i≤j∧j<i+ls.length:=by
 intro ls
 induction ls with
 | nil=>intro i j h;cases h
 | cons f fs ih=>
  intro i j h
  rw [FAS] at h
  rw [List.length_cons]
  split at h
  ·cases h;omega
  ·have:=ih h;omega
def atV (b:SBox) (t:Int):Int:=match FAS b.fLives t 0 with | some j=>(j:Int) | none=> -1
def GAp (b:SBox) (x:SThing):Int:=match FAS b.fLives x.fId 0 with | some j=>(b.fLives.getD j ⟨0,0⟩).fNext | none=>x.fNext
def TAm (b:SBox) (t:Int):Int:=match EAS b.fBook.fThings t with
 | some x=>bif x.fKind == 2 then GAp b x else -1
 | none=> -1
theorem DAu {b:SBox} {x:SThing} (h:b.fLives.length≤140737488351232):YAk b x=some (GAp b x):=by
 have key:∀ (j i m:Nat),i+j=b.fLives.length→XAk (m+j+1) (.c0 (i:Int) b x)=some (match FAS (b.fLives.drop i) x.fId i with | some j=>(b.fLives.getD j ⟨0,0⟩).fNext | none=>x.fNext):=by
  intro j
  induction j with
  | zero=>
   intro i m hi
   rw [XAk];simp only [HAm]
   rw [MAq (by simp;omega),List.drop_of_length_le (by omega)];rfl
  | succ j ih=>
   intro i m hi
   have hil:i<b.fLives.length:=by omega
   have hw:w64 ((i:Int)+1)=((i+1:Nat):Int):=by rw [w64_id (by omega) (by omega)];rfl
   rw [show m+(j+1)+1=(m+j+1)+1 from rfl,XAk]
   simp only [HAm,show decide ((i:Int)<(b.fLives.length:Int))=true from decide_eq_true (by omega),show decide ((0:Int)≤(i:Int))=true from decide_eq_true (by omega),Bool.and_self,cond_true,Int.toNat_natCast,hw,getD_at hil,ih (i+1) m (by omega)]
   rw [drop_at hil,FAS]
   cases b.fLives[i].fId == x.fId
   ·rfl
   ·rw [if_pos rfl];show some _=some (b.fLives.getD i ⟨0,0⟩).fNext;rw [getD_at hil]
 obtain ⟨m,hm⟩:∃ m,gas=m+b.fLives.length+1:=⟨gas - (b.fLives.length+1),by have:=gas_lt (n:=b.fLives.length+1) (by omega);omega⟩
 rw [YAk,DAo,hm]
 exact key b.fLives.length 0 m (Nat.zero_add _)
theorem EAu {b:SBox} {t:Int} (h:b.fLives.length≤140737488351232) (ht:b.fBook.fThings.length≤140737488351232):ZAk b t=some (TAm b t):=by
 rw [ZAk,FAo,YAt ht,Option.bind_some,TAm]
 cases EAS b.fBook.fThings t with
 | none=>rfl
 | some x=>
  simp only [DAu h,bne]
  cases x.fKind == 2 <;> rfl
def GAS:List SThing→Int→Nat→Option Nat
 | [],_,_=>none
 | x::xs,t,i=>if x.fId == t then some i else GAS xs t (i+1)
theorem FAu (t:Int):∀ (xs:List SThing) (i:Nat),match GAS xs t i with | some j=>i≤j∧j<i+xs.length∧EAS xs t=xs[j - i]? | none=>EAS xs t=none:=by
 intro xs
 induction xs with
 | nil=>intro i;rfl
 | cons x xs ih=>
  intro i
  simp only [GAS,EAS,List.find?_cons]
  cases hq:x.fId == t
  ·have:=ih (i+1)
   simp only [Bool.false_eq_true,if_false]
   split at this
   ·rename_i j hj
    obtain ⟨h1,h2,h3⟩:=this
    refine ⟨by omega,by simp;omega,?_⟩
    rw [show j - i=(j - (i+1))+1 by omega,List.getElem?_cons_succ]
    exact h3
   ·exact this
  ·simp
theorem GAu {b:SBook} {t:Int} (h:b.fThings.length≤140737488351232):JAm b t=some (match GAS b.fThings t 0 with | some j=>(j:Int) | none=> -1):=by
 have key:∀ m i,i≤b.fThings.length→b.fThings.length - i<m→YAj m (.c0 t b.fThings b.fThings.length i)=some (match GAS (b.fThings.drop i) t i with | some j=>(j:Int) | none=> -1):=fun m i h1 h2=>
  loopN (A:=Unit) (n:=b.fThings.length) (Lp:=YAj) (st:=fun i _=>.c0 t b.fThings b.fThings.length i) (Inv:=fun _ _=>True) (out:=fun i _=>some (match GAS (b.fThings.drop i) t i with | some j=>(j:Int) | none=> -1))
   (fun m _ _=>by simp [YAj,IAm,GAS])
   (fun m i _ hi _=>by
    have hw:w64 ((i:Int)+1)=((i+1:Nat):Int):=by rw [w64_id (by omega) (by omega)];rfl
    simp only [YAj,IAm,Int.toNat_natCast,getD_at hi,hw,drop_at hi,GAS]
    cases hq:b.fThings[i].fId == t
    ·exact .inr ⟨(),by simp [hi],trivial,by simp⟩
    ·exact .inl (by simp [hi])) m i () h1 h2 trivial
 have h0:=key gas 0 (Nat.zero_le _) (gas_lt (by omega))
 exact h0
theorem HAu {b:SBook} {t:Int} (h:b.fThings.length≤140737488351232):BAl b t=some (match EAS b.fThings t with | some x=>(x,true) | none=>(VAj,false)):=by
 have hp:=FAu t b.fThings 0
 simp only [BAl,IAo,GAu h,Option.bind_some]
 cases hq:GAS b.fThings t 0 with
 | none=>rw [hq] at hp;simp only at hp ⊢;rw [hp];rfl
 | some j=>
  rw [hq] at hp
  simp only [Nat.sub_zero,Nat.zero_add] at hp ⊢
  obtain ⟨_,h1,h2⟩:=hp
  rw [h2,List.getElem?_eq_getElem h1]
  simp only [Int.toNat_natCast,getD_at h1]
  rw [show (decide ((j:Int)<0))=false from decide_eq_false (by omega),show (decide ((0:Int)≤(j:Int)))=true from decide_eq_true (by omega),show (decide ((j:Int)<(b.fThings.length:Int)))=true from decide_eq_true (by omega)]
  rfl
theorem IAu {b:SBox} {t:Int} (h:b.fLives.length≤140737488351232):EAl b t=some (atV b t):=by
 have key:∀ (j i m:Nat),i+j=b.fLives.length→DAl (m+j+1) (.c0 t b.fLives (b.fLives.length:Int) (i:Int))=some (match FAS (b.fLives.drop i) t i with | some j=>(j:Int) | none=> -1):=by
  intro j
  induction j with
  | zero=>
   intro i m hi
   rw [DAl];simp only [KAm]
   rw [MAq (by simp;omega),List.drop_of_length_le (by omega)];rfl
  | succ j ih=>
   intro i m hi
   have hil:i<b.fLives.length:=by omega
   have hw:w64 ((i:Int)+1)=((i+1:Nat):Int):=by rw [w64_id (by omega) (by omega)];rfl
   rw [show m+(j+1)+1=(m+j+1)+1 from rfl,DAl]
   simp only [KAm,show decide ((i:Int)<(b.fLives.length:Int))=true from decide_eq_true (by omega),show decide ((0:Int)≤(i:Int))=true from decide_eq_true (by omega),Bool.and_self,cond_true,Int.toNat_natCast,hw,getD_at hil,ih (i+1) m (by omega)]
   rw [drop_at hil,FAS]
   cases b.fLives[i].fId == t <;> rfl
 obtain ⟨m,hm⟩:∃ m,gas=m+b.fLives.length+1:=⟨gas - (b.fLives.length+1),by have:=gas_lt (n:=b.fLives.length+1) (by omega);omega⟩
 rw [EAl,KAo,hm]
 exact key b.fLives.length 0 m (Nat.zero_add _)
theorem JAu {b:SBox} {t:Int} (h:b.fLives.length≤140737488351232) (ht:b.fBook.fThings.length≤140737488351232):FAl b t=some (TAm b t):=by
 rw [FAl,MAo,HAu ht,Option.bind_some,TAm]
 cases hx:EAS b.fBook.fThings t with
 | none=>rfl
 | some x=>
  have hid:x.fId=t:=by have:=List.find?_some hx;simpa using this
  simp only [IAu h,bne,atV,GAp,hid,Option.bind_some]
  cases x.fKind == 2
  ·rfl
  ·cases hp:FAS b.fLives t 0 with
   | none=>rfl
   | some j=>
    have hj:=(CAu hp).2
    simp only [Int.toNat_natCast]
    rw [show decide ((j:Int)≥0)=true from decide_eq_true (by omega),show decide ((j:Int)<(b.fLives.length:Int))=true from decide_eq_true (by omega)];rfl
theorem KAu (a:SFile)  : RAj a a=some true:=by
 simp [RAj,NAo]
theorem LAu {a:(List SFile)} (h:a.length≤140737488351232):HAl a a=some true:=by
 have h0:a.length≤140737488351232:=h
 have key:∀ m i,i≤a.length→a.length - i<m→ZAj m (.c0 a a i)=some true:=fun m i h1 h2=>
  loopN (A:=Unit) (n:=a.length) (Lp:=ZAj) (st:=fun i _=>.c0 a a i) (Inv:=fun _ _=>True) (out:=fun _ _=>some true)
   (fun m _ _=>by simp [ZAj,MAm])
   (fun m i _ hi _=>.inr ⟨(),by
    have hw:w64 ((i:Int)+1)=((i+1:Nat):Int):=by rw [w64_id (by omega) (by omega)];rfl
    simp only [ZAj,MAm,Int.toNat_natCast,hw,KAu _,getD_at hi,Option.bind_some]
    simp [hi],trivial,rfl⟩) m i () h1 h2 trivial
 have h0:=key gas 0 (Nat.zero_le _) (gas_lt (by omega))
 unfold HAl PAo
 simp only [bne_self_eq_false,cond_false]
 exact h0
theorem MAu {a:SDisk} (h:a.fFiles.length≤140737488351232):IAl a a=some true:=by
 simp [IAl,RAo,LAu h]
theorem NAu (a:SThing)  : SAj a a=some true:=by
 simp [SAj,SAo]
theorem OAu {a:(List SThing)} (h:a.length≤140737488351232):KAl a a=some true:=by
 have h0:a.length≤140737488351232:=h
 have key:∀ m i,i≤a.length→a.length - i<m→AAk m (.c0 a a i)=some true:=fun m i h1 h2=>
  loopN (A:=Unit) (n:=a.length) (Lp:=AAk) (st:=fun i _=>.c0 a a i) (Inv:=fun _ _=>True) (out:=fun _ _=>some true)
   (fun m _ _=>by simp [AAk,OAm])
   (fun m i _ hi _=>.inr ⟨(),by
    have hw:w64 ((i:Int)+1)=((i+1:Nat):Int):=by rw [w64_id (by omega) (by omega)];rfl
    simp only [AAk,OAm,Int.toNat_natCast,hw,NAu _,getD_at hi,Option.bind_some]
    simp [hi],trivial,rfl⟩) m i () h1 h2 trivial
 have h0:=key gas 0 (Nat.zero_le _) (gas_lt (by omega))
 unfold KAl UAo
 simp only [bne_self_eq_false,cond_false]
 exact h0
theorem PAu {a:SBook} (h:a.fThings.length≤140737488351232):LAl a a=some true:=by
 simp [LAl,WAo,OAu h]
theorem QAu (a:SSession)  : TAj a a=some true:=by
 simp [TAj,XAo]
theorem RAu {a:(List SSession)} (h:a.length≤140737488351232):NAl a a=some true:=by
 have h0:a.length≤140737488351232:=h
 have key:∀ m i,i≤a.length→a.length - i<m→BAk m (.c0 a a i)=some true:=fun m i h1 h2=>
  loopN (A:=Unit) (n:=a.length) (Lp:=BAk) (st:=fun i _=>.c0 a a i) (Inv:=fun _ _=>True) (out:=fun _ _=>some true)
   (fun m _ _=>by simp [BAk,QAm])
   (fun m i _ hi _=>.inr ⟨(),by
    have hw:w64 ((i:Int)+1)=((i+1:Nat):Int):=by rw [w64_id (by omega) (by omega)];rfl
    simp only [BAk,QAm,Int.toNat_natCast,hw,QAu _,getD_at hi,Option.bind_some]
    simp [hi],trivial,rfl⟩) m i () h1 h2 trivial
 have h0:=key gas 0 (Nat.zero_le _) (gas_lt (by omega))
 unfold NAl ZAo
 simp only [bne_self_eq_false,cond_false]
 exact h0
theorem SAu (a:SLive)  : UAj a a=some true:=by
 simp [UAj,AAp]
theorem TAu {a:(List SLive)} (h:a.length≤140737488351232):PAl a a=some true:=by
 have h0:a.length≤140737488351232:=h
 have key:∀ m i,i≤a.length→a.length - i<m→CAk m (.c0 a a i)=some true:=fun m i h1 h2=>
  loopN (A:=Unit) (n:=a.length) (Lp:=CAk) (st:=fun i _=>.c0 a a i) (Inv:=fun _ _=>True) (out:=fun _ _=>some true)
   (fun m _ _=>by simp [CAk,SAm])
   (fun m i _ hi _=>.inr ⟨(),by
    have hw:w64 ((i:Int)+1)=((i+1:Nat):Int):=by rw [w64_id (by omega) (by omega)];rfl
    simp only [CAk,SAm,Int.toNat_natCast,hw,SAu _,getD_at hi,Option.bind_some]
    simp [hi],trivial,rfl⟩) m i () h1 h2 trivial
 have h0:=key gas 0 (Nat.zero_le _) (gas_lt (by omega))
 unfold PAl CAp
 simp only [bne_self_eq_false,cond_false]
 exact h0
theorem UAu {a:SBox} (h:(a.fDisk.fFiles.length≤140737488351232)∧(a.fBook.fThings.length≤140737488351232)∧(a.fSessions.length≤140737488351232)∧(a.fLives.length≤140737488351232)):QAl a a=some true:=by
 simp [QAl,EAp,MAu (h.1),PAu (h.2.1),RAu (h.2.2.1),TAu (h.2.2.2)]
theorem law_FnExactLeafOf (x0:SBox) (x1:Int) (g0:GSBox x0) (g1:GInt .i64 x1):laws_FnExactLeafOf x0 x1=some true:=by
 obtain ⟨r,hr⟩:=MAt g0 1048576
 have h1:x0.fDisk.fFiles.length*40≤140737488351232:=g0.2.2.1.1
 have h2:x0.fBook.fThings.length*48≤140737488351232:=g0.2.2.2.1.2.2.1.1
 have h3:x0.fSessions.length*16≤140737488351232:=g0.2.2.2.2.1.1
 have h4:x0.fLives.length*16≤140737488351232:=g0.2.2.2.2.2.1.1
 have e1:=UAu (a:=x0) ⟨by omega,by omega,by omega,by omega⟩
 simp only [laws_FnExactLeafOf,FAp,hr,Option.bind_some,XAt g0,EAu (b:=x0) (by omega) (by omega),JAu (b:=x0) (by omega) (by omega),e1,bne_self_eq_false,Bool.not_true,cond_false]
 cases decide (r<0) <;> rfl
end Go.Proofs.Ythfpmhalgimbbaa.G
