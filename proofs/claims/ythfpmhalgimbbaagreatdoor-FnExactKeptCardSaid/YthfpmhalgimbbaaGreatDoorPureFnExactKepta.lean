/- The plain law of FnExactKept: whatever the arguments, it answers true. Conditions: what is read is in reach. Part 1 of 2. -/
import Derived.Test.YthfpmhalgimbbaaGreatDoorFFnExactKept
import Derived.Test.YthfpmhalgimbbaaGreatDoorOpens
import Derived.Test.YthfpmhalgimbbaaGreatDoorPBase
namespace Go.Proofs.YthfpmhalgimbbaaGreatDoor.G
open Go Go.Ev
set_option linter.unusedVariables false
set_option linter.unusedSimpArgs false
theorem FAh {a:SFile} (g:GSFile a) (n:Int):∃ r,Ih a n=some r:=by
 unfold Ih UAD
 cases decide ((w64 (n - (a.fName.size:Int)))<0)
 rotate_left
 ·exact ⟨_,rfl⟩
 simp only [cond_false]
 cases decide ((w64 ((w64 (n - (a.fName.size:Int))) - (a.fText.size:Int)))<0)
 rotate_left
 ·exact ⟨_,rfl⟩
 simp only [cond_false]
 exact ⟨_,rfl⟩
theorem GAh {a:(List SFile)} (g:(GList 40 GSFile) a) (n:Int):∃ r,Zp a n=some r:=by
 have h:=g.1
 have key:∀ m i l,i≤a.length→a.length - i<m→∃ r,V4 m (.c0 a l i)=some r:=by
  intro m
  induction m with
  | zero=>intro i l _ h;omega
  | succ m ih=>
   intro i l h1 h2
   simp only [V4,XAD]
   by_cases hi:i<a.length
   ·have hw:w64 ((i:Int)+1)=((i+1:Nat):Int):=by rw [w64_id (by omega) (by omega)];rfl
    obtain ⟨r,hr⟩:=FAh (g.2 _ (List.getElem_mem hi)) l
    simp only [Int.toNat_natCast,getD_at hi,hr,Option.bind_some,hw]
    rw [show (decide ((i:Int)<(a.length:Int)))=true from decide_eq_true (by omega),show (decide ((0:Int)≤(i:Int)))=true from decide_eq_true (by omega)]
    simp only [Bool.and_self,cond_true]
    cases decide (r<0)
    ·exact ih (i+1) r hi (by omega)
    ·exact ⟨_,rfl⟩
   ·rw [show (decide ((i:Int)<(a.length:Int)))=false from decide_eq_false (by omega)]
    exact ⟨_,rfl⟩
 unfold Zp WAD
 cases decide (w64 (n - (a.length:Int))<0)
 ·exact key gas 0 _ (Nat.zero_le _) (gas_lt (by omega))
 ·exact ⟨_,rfl⟩
theorem HAh {a:SDisk} (g:GSDisk a) (n:Int):∃ r,Aq a n=some r:=by
 unfold Aq ZAD
 obtain ⟨r0,hr0⟩:=GAh (g) (n)
 simp only [hr0,Option.bind_some]
 cases decide (r0<0)
 rotate_left
 ·exact ⟨_,rfl⟩
 simp only [cond_false]
 exact ⟨_,rfl⟩
theorem TAU {a:SThing} (g:GSThing a) (n:Int):∃ r,Yf a n=some r:=⟨_,cond_some _ _ _⟩
theorem IAh {a:(List SThing)} (g:(GList 48 GSThing) a) (n:Int):∃ r,Fq a n=some r:=by
 have h:=g.1
 have key:∀ m i l,i≤a.length→a.length - i<m→∃ r,X4 m (.c0 a l i)=some r:=by
  intro m
  induction m with
  | zero=>intro i l _ h;omega
  | succ m ih=>
   intro i l h1 h2
   simp only [X4,DAE]
   by_cases hi:i<a.length
   ·have hw:w64 ((i:Int)+1)=((i+1:Nat):Int):=by rw [w64_id (by omega) (by omega)];rfl
    obtain ⟨r,hr⟩:=TAU (g.2 _ (List.getElem_mem hi)) l
    simp only [Int.toNat_natCast,getD_at hi,hr,Option.bind_some,hw]
    rw [show (decide ((i:Int)<(a.length:Int)))=true from decide_eq_true (by omega),show (decide ((0:Int)≤(i:Int)))=true from decide_eq_true (by omega)]
    simp only [Bool.and_self,cond_true]
    cases decide (r<0)
    ·exact ih (i+1) r hi (by omega)
    ·exact ⟨_,rfl⟩
   ·rw [show (decide ((i:Int)<(a.length:Int)))=false from decide_eq_false (by omega)]
    exact ⟨_,rfl⟩
 unfold Fq CAE
 cases decide (w64 (n - (a.length:Int))<0)
 ·exact key gas 0 _ (Nat.zero_le _) (gas_lt (by omega))
 ·exact ⟨_,rfl⟩
theorem JAh {a:SBook} (g:GSBook a) (n:Int):∃ r,Gq a n=some r:=by
 unfold Gq FAE
 cases decide ((w64 (n - (a.fWord.size:Int)))<0)
 rotate_left
 ·exact ⟨_,rfl⟩
 simp only [cond_false]
 obtain ⟨r0,hr0⟩:=IAh (g.2.2.1) ((w64 (n - (a.fWord.size:Int))))
 simp only [hr0,Option.bind_some]
 cases decide (r0<0)
 rotate_left
 ·exact ⟨_,rfl⟩
 simp only [cond_false]
 cases decide ((w64 (r0 - (a.fChain.size:Int)))<0)
 rotate_left
 ·exact ⟨_,rfl⟩
 simp only [cond_false]
 exact ⟨_,rfl⟩
theorem KAh {a:(List SSession)} (_:(GList 16 GSSession) a) (n:Int):∃ r,Y4 a n=some r:=⟨_,cond_some _ _ _⟩
theorem LAh {a:(List SLive)} (_:(GList 16 GSLive) a) (n:Int):∃ r,Z4 a n=some r:=⟨_,cond_some _ _ _⟩
theorem MAh {a:SBox} (g:GSBox a) (n:Int):∃ r,Jh a n=some r:=by
 unfold Jh D5
 cases decide ((w64 (n - (a.fKey.size:Int)))<0)
 rotate_left
 ·exact ⟨_,rfl⟩
 simp only [cond_false]
 obtain ⟨r0,hr0⟩:=HAh (g.2.2.1) ((w64 (n - (a.fKey.size:Int))))
 simp only [hr0,Option.bind_some]
 cases decide (r0<0)
 rotate_left
 ·exact ⟨_,rfl⟩
 simp only [cond_false]
 obtain ⟨r1,hr1⟩:=JAh (g.2.2.2.1) (r0)
 simp only [hr1,Option.bind_some]
 cases decide (r1<0)
 rotate_left
 ·exact ⟨_,rfl⟩
 simp only [cond_false]
 obtain ⟨r2,hr2⟩:=KAh (g.2.2.2.2.1) (r1)
 simp only [hr2,Option.bind_some]
 cases decide (r2<0)
 rotate_left
 ·exact ⟨_,rfl⟩
 simp only [cond_false]
 obtain ⟨r3,hr3⟩:=LAh (g.2.2.2.2.2.1) (r2)
 simp only [hr3,Option.bind_some]
 cases decide (r3<0)
 rotate_left
 ·exact ⟨_,rfl⟩
 simp only [cond_false]
 exact ⟨_,rfl⟩
theorem NAh {a:(List Int)} (_:(GList 8 (GInt .i64)) a) (n:Int):∃ r,E5 a n=some r:=⟨_,cond_some _ _ _⟩
theorem OAh {a:(List ByteArray)} (g:(GList 16 GStr) a) (n:Int):∃ r,Iq a n=some r:=by
 have h:=g.1
 have key:∀ m i l,i≤a.length→a.length - i<m→∃ r,F5 m (.c0 a l i)=some r:=by
  intro m
  induction m with
  | zero=>intro i l _ h;omega
  | succ m ih=>
   intro i l h1 h2
   simp only [F5,MAE]
   by_cases hi:i<a.length
   ·have hw:w64 ((i:Int)+1)=((i+1:Nat):Int):=by rw [w64_id (by omega) (by omega)];rfl
    simp only [Int.toNat_natCast,getD_at hi,hw]
    rw [show (decide ((i:Int)<(a.length:Int)))=true from decide_eq_true (by omega),show (decide ((0:Int)≤(i:Int)))=true from decide_eq_true (by omega)]
    simp only [Bool.and_self,cond_true]
    cases decide (w64 (l - (a[i].size:Int))<0)
    ·exact ih (i+1) _ hi (by omega)
    ·exact ⟨_,rfl⟩
   ·rw [show (decide ((i:Int)<(a.length:Int)))=false from decide_eq_false (by omega)]
    exact ⟨_,rfl⟩
 unfold Iq LAE
 cases decide (w64 (n - (a.length:Int))<0)
 ·exact key gas 0 _ (Nat.zero_le _) (gas_lt (by omega))
 ·exact ⟨_,rfl⟩
theorem PAh {a:(List SGiven)} (_:(GList 24 GSGiven) a) (n:Int):∃ r,G5 a n=some r:=⟨_,cond_some _ _ _⟩
theorem QAh {a:SRec} (g:GSRec a) (n:Int):∃ r,Lh a n=some r:=by
 unfold Lh OAE
 cases decide ((w64 (n - (a.fText.size:Int)))<0)
 rotate_left
 ·exact ⟨_,rfl⟩
 simp only [cond_false]
 obtain ⟨r0,hr0⟩:=TAU (g.2.2.2) ((w64 (n - (a.fText.size:Int))))
 simp only [hr0,Option.bind_some]
 cases decide (r0<0)
 rotate_left
 ·exact ⟨_,rfl⟩
 simp only [cond_false]
 exact ⟨_,rfl⟩
theorem RAh {a:(List SRec)} (g:(GList 80 GSRec) a) (n:Int):∃ r,Kq a n=some r:=by
 have h:=g.1
 have key:∀ m i l,i≤a.length→a.length - i<m→∃ r,J5 m (.c0 a l i)=some r:=by
  intro m
  induction m with
  | zero=>intro i l _ h;omega
  | succ m ih=>
   intro i l h1 h2
   simp only [J5,RAE]
   by_cases hi:i<a.length
   ·have hw:w64 ((i:Int)+1)=((i+1:Nat):Int):=by rw [w64_id (by omega) (by omega)];rfl
    obtain ⟨r,hr⟩:=QAh (g.2 _ (List.getElem_mem hi)) l
    simp only [Int.toNat_natCast,getD_at hi,hr,Option.bind_some,hw]
    rw [show (decide ((i:Int)<(a.length:Int)))=true from decide_eq_true (by omega),show (decide ((0:Int)≤(i:Int)))=true from decide_eq_true (by omega)]
    simp only [Bool.and_self,cond_true]
    cases decide (r<0)
    ·exact ih (i+1) r hi (by omega)
    ·exact ⟨_,rfl⟩
   ·rw [show (decide ((i:Int)<(a.length:Int)))=false from decide_eq_false (by omega)]
    exact ⟨_,rfl⟩
 unfold Kq QAE
 cases decide (w64 (n - (a.length:Int))<0)
 ·exact key gas 0 _ (Nat.zero_le _) (gas_lt (by omega))
 ·exact ⟨_,rfl⟩
theorem DAh {a:SLife} (g:GSLife a) (n:Int):∃ r,Gh a n=some r:=by
 unfold Gh O5
 obtain ⟨r0,hr0⟩:=MAh (g.1) (n)
 simp only [hr0,Option.bind_some]
 cases decide (r0<0)
 rotate_left
 ·exact ⟨_,rfl⟩
 simp only [cond_false]
 obtain ⟨r1,hr1⟩:=NAh (g.2.1) (r0)
 simp only [hr1,Option.bind_some]
 cases decide (r1<0)
 rotate_left
 ·exact ⟨_,rfl⟩
 simp only [cond_false]
 obtain ⟨r2,hr2⟩:=OAh (g.2.2.1) (r1)
 simp only [hr2,Option.bind_some]
 cases decide (r2<0)
 rotate_left
 ·exact ⟨_,rfl⟩
 simp only [cond_false]
 obtain ⟨r3,hr3⟩:=PAh (g.2.2.2.1) (r2)
 simp only [hr3,Option.bind_some]
 cases decide (r3<0)
 rotate_left
 ·exact ⟨_,rfl⟩
 simp only [cond_false]
 obtain ⟨r4,hr4⟩:=RAh (g.2.2.2.2) (r3)
 simp only [hr4,Option.bind_some]
 cases decide (r4<0)
 rotate_left
 ·exact ⟨_,rfl⟩
 simp only [cond_false]
 exact ⟨_,rfl⟩
theorem SAh {a:SFile} (g:GSFile a):Nh a=some a:=by
 simp only [Nh,SAE,Option.bind_some]
theorem TAh {a:(List SFile)} (g:(GList 40 GSFile) a):Oq a=some a:=by
 have h:=g.1
 have key:∀ m i,i≤a.length→a.length - i<m→Oh m (.c0 a i (a.take i++List.replicate (a.length - i) (⟨(⟨#[]⟩:ByteArray),(⟨#[]⟩:ByteArray),(0:Int)⟩:SFile)))=some a:=fun m i h1 h2=>
  loopN (A:=Unit) (n:=a.length) (Lp:=Oh) (st:=fun i _=>.c0 a i (a.take i++List.replicate (a.length - i) (⟨(⟨#[]⟩:ByteArray),(⟨#[]⟩:ByteArray),(0:Int)⟩:SFile))) (Inv:=fun _ _=>True) (out:=fun _ _=>some a)
   (fun m _ _=>by simp [Oh,Q5])
   (fun m i _ hi _=>.inr ⟨(),by
    have hw:w64 ((i:Int)+1)=((i+1:Nat):Int):=by rw [w64_id (by omega) (by omega)];rfl
    have hc:=copied_len (Nat.le_of_lt hi) (⟨(⟨#[]⟩:ByteArray),(⟨#[]⟩:ByteArray),(0:Int)⟩:SFile)
    simp only [Oh,Q5,Int.toNat_natCast,getD_at hi,SAh (g.2 _ (List.getElem_mem hi)),Option.bind_some,hw,copied hi,hc]
    simp [hi],trivial,rfl⟩) m i () h1 h2 trivial
 have h0:Oh gas (.c0 a 0 (List.replicate a.length (⟨(⟨#[]⟩:ByteArray),(⟨#[]⟩:ByteArray),(0:Int)⟩:SFile)))=some a:=by
  have:=key gas 0 (Nat.zero_le _) (gas_lt (by omega))
  simpa using this
 unfold Oq UAE
 simp only [Int.toNat_natCast,h0]
 simp [show a.length*40≤140737488355328 from by omega,show ((a.length:Int)≤9223372036854775807) from by omega]
 try omega
theorem UAh {a:SDisk} (g:GSDisk a):Pq a=some a:=by
 simp only [Pq,WAE,TAh (g),Option.bind_some]
theorem UAU {a:SThing} (g:GSThing a):He a=some a:=by
 simp only [He,XAE,Option.bind_some]
theorem VAh {a:(List SThing)} (g:(GList 48 GSThing) a):Tq a=some a:=by
 have h:=g.1
 have key:∀ m i,i≤a.length→a.length - i<m→Ph m (.c0 a i (a.take i++List.replicate (a.length - i) (⟨(0:Int),(0:Int),false,false,false,false,(⟨#[]⟩:ByteArray),(0:Int)⟩:SThing)))=some a:=fun m i h1 h2=>
  loopN (A:=Unit) (n:=a.length) (Lp:=Ph) (st:=fun i _=>.c0 a i (a.take i++List.replicate (a.length - i) (⟨(0:Int),(0:Int),false,false,false,false,(⟨#[]⟩:ByteArray),(0:Int)⟩:SThing))) (Inv:=fun _ _=>True) (out:=fun _ _=>some a)
   (fun m _ _=>by simp [Ph,U5])
   (fun m i _ hi _=>.inr ⟨(),by
    have hw:w64 ((i:Int)+1)=((i+1:Nat):Int):=by rw [w64_id (by omega) (by omega)];rfl
    have hc:=copied_len (Nat.le_of_lt hi) (⟨(0:Int),(0:Int),false,false,false,false,(⟨#[]⟩:ByteArray),(0:Int)⟩:SThing)
    simp only [Ph,U5,Int.toNat_natCast,getD_at hi,UAU (g.2 _ (List.getElem_mem hi)),Option.bind_some,hw,copied hi,hc]
    simp [hi],trivial,rfl⟩) m i () h1 h2 trivial
 have h0:Ph gas (.c0 a 0 (List.replicate a.length (⟨(0:Int),(0:Int),false,false,false,false,(⟨#[]⟩:ByteArray),(0:Int)⟩:SThing)))=some a:=by
  have:=key gas 0 (Nat.zero_le _) (gas_lt (by omega))
  simpa using this
 unfold Tq AAF
 simp only [Int.toNat_natCast,h0]
 simp [show a.length*48≤140737488355328 from by omega,show ((a.length:Int)≤9223372036854775807) from by omega]
 try omega
theorem WAh {a:SBook} (g:GSBook a):Vq a=some a:=by
 simp only [Vq,CAF,VAh (g.2.2.1),Option.bind_some]
theorem XAh {a:SSession} (g:GSSession a):Qh a=some a:=by
 simp only [Qh,DAF,Option.bind_some]
theorem YAh {a:(List SSession)} (g:(GList 16 GSSession) a):Xq a=some a:=by
 have h:=g.1
 have key:∀ m i,i≤a.length→a.length - i<m→Rh m (.c0 a i (a.take i++List.replicate (a.length - i) (⟨(0:Int),false⟩:SSession)))=some a:=fun m i h1 h2=>
  loopN (A:=Unit) (n:=a.length) (Lp:=Rh) (st:=fun i _=>.c0 a i (a.take i++List.replicate (a.length - i) (⟨(0:Int),false⟩:SSession))) (Inv:=fun _ _=>True) (out:=fun _ _=>some a)
   (fun m _ _=>by simp [Rh,X5])
   (fun m i _ hi _=>.inr ⟨(),by
    have hw:w64 ((i:Int)+1)=((i+1:Nat):Int):=by rw [w64_id (by omega) (by omega)];rfl
    have hc:=copied_len (Nat.le_of_lt hi) (⟨(0:Int),false⟩:SSession)
    simp only [Rh,X5,Int.toNat_natCast,getD_at hi,XAh (g.2 _ (List.getElem_mem hi)),Option.bind_some,hw,copied hi,hc]
    simp [hi],trivial,rfl⟩) m i () h1 h2 trivial
 have h0:Rh gas (.c0 a 0 (List.replicate a.length (⟨(0:Int),false⟩:SSession)))=some a:=by
  have:=key gas 0 (Nat.zero_le _) (gas_lt (by omega))
  simpa using this
 unfold Xq FAF
 simp only [Int.toNat_natCast,h0]
 simp [show a.length*16≤140737488355328 from by omega,show ((a.length:Int)≤9223372036854775807) from by omega]
 try omega
theorem ZAh {a:SLive} (g:GSLive a):Uh a=some a:=by
 simp only [Uh,GAF,Option.bind_some]
theorem AAi {a:(List SLive)} (g:(GList 16 GSLive) a):Zq a=some a:=by
 have h:=g.1
 have key:∀ m i,i≤a.length→a.length - i<m→Vh m (.c0 a i (a.take i++List.replicate (a.length - i) (⟨(0:Int),(0:Int)⟩:SLive)))=some a:=fun m i h1 h2=>
  loopN (A:=Unit) (n:=a.length) (Lp:=Vh) (st:=fun i _=>.c0 a i (a.take i++List.replicate (a.length - i) (⟨(0:Int),(0:Int)⟩:SLive))) (Inv:=fun _ _=>True) (out:=fun _ _=>some a)
   (fun m _ _=>by simp [Vh,Z5])
   (fun m i _ hi _=>.inr ⟨(),by
    have hw:w64 ((i:Int)+1)=((i+1:Nat):Int):=by rw [w64_id (by omega) (by omega)];rfl
    have hc:=copied_len (Nat.le_of_lt hi) (⟨(0:Int),(0:Int)⟩:SLive)
    simp only [Vh,Z5,Int.toNat_natCast,getD_at hi,ZAh (g.2 _ (List.getElem_mem hi)),Option.bind_some,hw,copied hi,hc]
    simp [hi],trivial,rfl⟩) m i () h1 h2 trivial
 have h0:Vh gas (.c0 a 0 (List.replicate a.length (⟨(0:Int),(0:Int)⟩:SLive)))=some a:=by
  have:=key gas 0 (Nat.zero_le _) (gas_lt (by omega))
  simpa using this
 unfold Zq IAF
 simp only [Int.toNat_natCast,h0]
 simp [show a.length*16≤140737488355328 from by omega,show ((a.length:Int)≤9223372036854775807) from by omega]
 try omega
theorem BAi {a:SBox} (g:GSBox a):Ar a=some a:=by
 simp only [Ar,KAF,UAh (g.2.2.1),WAh (g.2.2.2.1),YAh (g.2.2.2.2.1),AAi (g.2.2.2.2.2.1),Option.bind_some]
theorem CAi {a:(List Int)} (g:(GList 8 (GInt .i64)) a):Ir a=some a:=by
 have h:=g.1
 have key:∀ m i,i≤a.length→a.length - i<m→Wh m (.c0 a i (a.take i++List.replicate (a.length - i) (0:Int)))=some a:=fun m i h1 h2=>
  loopN (A:=Unit) (n:=a.length) (Lp:=Wh) (st:=fun i _=>.c0 a i (a.take i++List.replicate (a.length - i) (0:Int))) (Inv:=fun _ _=>True) (out:=fun _ _=>some a)
   (fun m _ _=>by simp [Wh,D6])
   (fun m i _ hi _=>.inr ⟨(),by
    have hw:w64 ((i:Int)+1)=((i+1:Nat):Int):=by rw [w64_id (by omega) (by omega)];rfl
    have hc:=copied_len (Nat.le_of_lt hi) (0:Int)
    simp only [Wh,D6,Int.toNat_natCast,getD_at hi,Option.bind_some,hw,copied hi,hc]
    simp [hi],trivial,rfl⟩) m i () h1 h2 trivial
 have h0:Wh gas (.c0 a 0 (List.replicate a.length (0:Int)))=some a:=by
  have:=key gas 0 (Nat.zero_le _) (gas_lt (by omega))
  simpa using this
 unfold Ir MAF
 simp only [Int.toNat_natCast,h0]
 simp [show a.length*8≤140737488355328 from by omega,show ((a.length:Int)≤9223372036854775807) from by omega]
 try omega
theorem EAi {a:(List ByteArray)} (g:(GList 16 GStr) a):Kr a=some a:=by
 have h:=g.1
 have key:∀ m i,i≤a.length→a.length - i<m→Xh m (.c0 a i (a.take i++List.replicate (a.length - i) (⟨#[]⟩:ByteArray)))=some a:=fun m i h1 h2=>
  loopN (A:=Unit) (n:=a.length) (Lp:=Xh) (st:=fun i _=>.c0 a i (a.take i++List.replicate (a.length - i) (⟨#[]⟩:ByteArray))) (Inv:=fun _ _=>True) (out:=fun _ _=>some a)
   (fun m _ _=>by simp [Xh,F6])
   (fun m i _ hi _=>.inr ⟨(),by
    have hw:w64 ((i:Int)+1)=((i+1:Nat):Int):=by rw [w64_id (by omega) (by omega)];rfl
    have hc:=copied_len (Nat.le_of_lt hi) (⟨#[]⟩:ByteArray)
    simp only [Xh,F6,Int.toNat_natCast,getD_at hi,Option.bind_some,hw,copied hi,hc]
    simp [hi],trivial,rfl⟩) m i () h1 h2 trivial
 have h0:Xh gas (.c0 a 0 (List.replicate a.length (⟨#[]⟩:ByteArray)))=some a:=by
  have:=key gas 0 (Nat.zero_le _) (gas_lt (by omega))
  simpa using this
 unfold Kr OAF
 simp only [Int.toNat_natCast,h0]
 simp [show a.length*16≤140737488355328 from by omega,show ((a.length:Int)≤9223372036854775807) from by omega]
 try omega
theorem FAi {a:SGiven} (g:GSGiven a):Yh a=some a:=by
 simp only [Yh,PAF,Option.bind_some]
theorem HAi {a:(List SGiven)} (g:(GList 24 GSGiven) a):Nr a=some a:=by
 have h:=g.1
 have key:∀ m i,i≤a.length→a.length - i<m→Zh m (.c0 a i (a.take i++List.replicate (a.length - i) (⟨(0:Int),(0:Int),(0:Int)⟩:SGiven)))=some a:=fun m i h1 h2=>
  loopN (A:=Unit) (n:=a.length) (Lp:=Zh) (st:=fun i _=>.c0 a i (a.take i++List.replicate (a.length - i) (⟨(0:Int),(0:Int),(0:Int)⟩:SGiven))) (Inv:=fun _ _=>True) (out:=fun _ _=>some a)
   (fun m _ _=>by simp [Zh,H6])
   (fun m i _ hi _=>.inr ⟨(),by
    have hw:w64 ((i:Int)+1)=((i+1:Nat):Int):=by rw [w64_id (by omega) (by omega)];rfl
    have hc:=copied_len (Nat.le_of_lt hi) (⟨(0:Int),(0:Int),(0:Int)⟩:SGiven)
    simp only [Zh,H6,Int.toNat_natCast,getD_at hi,FAi (g.2 _ (List.getElem_mem hi)),Option.bind_some,hw,copied hi,hc]
    simp [hi],trivial,rfl⟩) m i () h1 h2 trivial
 have h0:Zh gas (.c0 a 0 (List.replicate a.length (⟨(0:Int),(0:Int),(0:Int)⟩:SGiven)))=some a:=by
  have:=key gas 0 (Nat.zero_le _) (gas_lt (by omega))
  simpa using this
 unfold Nr RAF
 simp only [Int.toNat_natCast,h0]
 simp [show a.length*24≤140737488355328 from by omega,show ((a.length:Int)≤9223372036854775807) from by omega]
 try omega
theorem IAi {a:SRec} (g:GSRec a):Ai a=some a:=by
 simp only [Ai,SAF,UAU (g.2.2.2),Option.bind_some]
theorem JAi {a:(List SRec)} (g:(GList 80 GSRec) a):Sr a=some a:=by
 have h:=g.1
 have key:∀ m i,i≤a.length→a.length - i<m→Ci m (.c0 a i (a.take i++List.replicate (a.length - i) (⟨(0:Int),(⟨#[]⟩:ByteArray),(0:Int),(⟨(0:Int),(0:Int),false,false,false,false,(⟨#[]⟩:ByteArray),(0:Int)⟩:SThing)⟩:SRec)))=some a:=fun m i h1 h2=>
  loopN (A:=Unit) (n:=a.length) (Lp:=Ci) (st:=fun i _=>.c0 a i (a.take i++List.replicate (a.length - i) (⟨(0:Int),(⟨#[]⟩:ByteArray),(0:Int),(⟨(0:Int),(0:Int),false,false,false,false,(⟨#[]⟩:ByteArray),(0:Int)⟩:SThing)⟩:SRec))) (Inv:=fun _ _=>True) (out:=fun _ _=>some a)
   (fun m _ _=>by simp [Ci,L6])
   (fun m i _ hi _=>.inr ⟨(),by
    have hw:w64 ((i:Int)+1)=((i+1:Nat):Int):=by rw [w64_id (by omega) (by omega)];rfl
    have hc:=copied_len (Nat.le_of_lt hi) (⟨(0:Int),(⟨#[]⟩:ByteArray),(0:Int),(⟨(0:Int),(0:Int),false,false,false,false,(⟨#[]⟩:ByteArray),(0:Int)⟩:SThing)⟩:SRec)
    simp only [Ci,L6,Int.toNat_natCast,getD_at hi,IAi (g.2 _ (List.getElem_mem hi)),Option.bind_some,hw,copied hi,hc]
    simp [hi],trivial,rfl⟩) m i () h1 h2 trivial
 have h0:Ci gas (.c0 a 0 (List.replicate a.length (⟨(0:Int),(⟨#[]⟩:ByteArray),(0:Int),(⟨(0:Int),(0:Int),false,false,false,false,(⟨#[]⟩:ByteArray),(0:Int)⟩:SThing)⟩:SRec)))=some a:=by
  have:=key gas 0 (Nat.zero_le _) (gas_lt (by omega))
  simpa using this
 unfold Sr UAF
 simp only [Int.toNat_natCast,h0]
 simp [show a.length*80≤140737488355328 from by omega,show ((a.length:Int)≤9223372036854775807) from by omega]
 try omega
theorem EAh {a:SLife} (g:GSLife a):Vp a=some a:=by
 simp only [Vp,VAF,BAi (g.1),CAi (g.2.1),EAi (g.2.2.1),HAi (g.2.2.2.1),JAi (g.2.2.2.2),Option.bind_some]
theorem Jk {n:Int}:w32 n=n % 4294967296:=by
 simp only [w32,IntKind.wrap,IntKind.signed,IntKind.bits]
 simp
theorem YZ {n:Int} (h1:0≤n) (h2:n<4294967296):w32 n=n:=by rw [Jk];omega
def R32 (n:Int):Prop:=0≤n∧n<4294967296
theorem NZ (n:Int):R32 (w32 n):=by unfold R32;rw [Jk];omega
theorem IAn {n:Int} (h:0≤n∧n≤255):R32 n:=by unfold R32;omega
def xr (x y:Int):Int:=w32 (((BitVec.toNat ((BitVec.ofInt (IntKind.bits IntKind.u32) x) ^^^ (BitVec.ofInt (IntKind.bits IntKind.u32) y))):Nat):Int)
def an (x y:Int):Int:=w32 (((BitVec.toNat ((BitVec.ofInt (IntKind.bits IntKind.u32) x) &&& (BitVec.ofInt (IntKind.bits IntKind.u32) y))):Nat):Int)
def Pz (x y:Int):Int:=w32 (((BitVec.toNat ((BitVec.ofInt (IntKind.bits IntKind.u32) x) ||| (BitVec.ofInt (IntKind.bits IntKind.u32) y))):Nat):Int)
theorem Lc (x y:Int):w32 (((BitVec.toNat ((BitVec.ofInt (IntKind.bits IntKind.u32) x) ^^^ (BitVec.ofInt (IntKind.bits IntKind.u32) y))):Nat):Int)=xr x y:=rfl
theorem HAM (x y:Int):w32 (((BitVec.toNat ((BitVec.ofInt (IntKind.bits IntKind.u32) x) &&& (BitVec.ofInt (IntKind.bits IntKind.u32) y))):Nat):Int)=an x y:=rfl
theorem VAU (x y:Int):w32 (((BitVec.toNat ((BitVec.ofInt (IntKind.bits IntKind.u32) x) ||| (BitVec.ofInt (IntKind.bits IntKind.u32) y))):Nat):Int)=Pz x y:=rfl
theorem Gn (x y:Int):R32 (xr x y):=NZ _
theorem JAn (x y:Int):R32 (an x y):=NZ _
theorem WAU {a b:Nat} {s:Nat} (hb:b<2 ^ s) (ha:a*2 ^ s<4294967296) (hs:b<4294967296):Pz ((a*2 ^ s:Nat):Int) (b:Int)=((a*2 ^ s+b:Nat):Int):=by
 have e:a*2 ^ s ||| b=a*2 ^ s+b:=by
  have:=Nat.shiftLeft_add_eq_or_of_lt hb a
  rw [Nat.shiftLeft_eq] at this
  exact this.symm
 unfold Pz
 have h3:a*2 ^ s ||| b<2 ^ 32:=Nat.or_lt_two_pow (by omega) (by omega)
 rw [BitVec.toNat_or]
 show w32 (((BitVec.ofInt 32 _).toNat ||| (BitVec.ofInt 32 _).toNat:Nat):Int)=_
 rw [BitVec.ofInt_natCast,BitVec.ofInt_natCast,BitVec.toNat_ofNat,BitVec.toNat_ofNat,Nat.mod_eq_of_lt (by omega),Nat.mod_eq_of_lt (by omega),e]
 rw [e] at h3
 exact YZ (by omega) (by omega)
theorem KAi {e:Int} (h:R32 e):xr (ite ((IntKind.signed IntKind.u32)=true) (-(1:Int)) (IntKind.max IntKind.u32)) e=w32 (4294967295 - e):=by
 obtain ⟨h1,h2⟩:=h
 obtain ⟨n,rfl⟩:∃ n:Nat,e=(n:Int):=⟨e.toNat,by omega⟩
 have hn:n<4294967296:=by omega
 have e1:(ite ((IntKind.signed IntKind.u32)=true) (-(1:Int)) (IntKind.max IntKind.u32))=4294967295:=by decide
 rw [e1]
 unfold xr
 show w32 (((BitVec.ofInt 32 4294967295 ^^^ BitVec.ofInt 32 (n:Int)).toNat:Nat):Int)=_
 have e2:BitVec.ofInt 32 4294967295=BitVec.allOnes 32:=by decide
 rw [e2,BitVec.ofInt_natCast,BitVec.allOnes_xor,BitVec.toNat_not,BitVec.toNat_ofNat]
 rw [Jk,Jk]
 omega
def rt (low high x:Int):Int:=x / low+x % low*high
theorem LAi {low high x:Int} (h:R32 x) (hl:0<low) (hh:0<high) (hlh:low*high=4294967296):R32 (rt low high x):=by
 unfold R32 rt at *
 have h1:0≤x / low:=Int.ediv_nonneg h.1 (by omega)
 have h2:0≤x % low:=Int.emod_nonneg _ (by omega)
 have h3:x % low<low:=Int.emod_lt_of_pos _ hl
 have h4:x / low<high:=Int.ediv_lt_of_lt_mul hl (by rw [Int.mul_comm,hlh];exact h.2)
 have h5:0≤x % low*high:=Int.mul_nonneg h2 (by omega)
 have h6:x % low*high≤(low - 1)*high:=Int.mul_le_mul_of_nonneg_right (by omega) (by omega)
 have h7:(low - 1)*high=low*high - high:=by rw [Int.sub_mul,Int.one_mul]
 omega
theorem MAi {x:Int} (h:R32 x) (n:Nat) (hn:0<n) (hn2:n<32):Pz (w32 (x*2 ^ (32 - n))) (x / 2 ^ n)=rt (2 ^ n) (2 ^ (32 - n)) x:=by
 obtain ⟨h1,h2⟩:=h
 obtain ⟨y,rfl⟩:∃ y:Nat,x=(y:Int):=⟨x.toNat,by omega⟩
 have hy:y<4294967296:=by omega
 have e0:(4294967296:Nat)=2 ^ n*2 ^ (32 - n):=by rw [←Nat.pow_add,show n+(32 - n)=32 by omega]
 have e1:w32 ((y:Int)*2 ^ (32 - n))=((y % 2 ^ n*2 ^ (32 - n):Nat):Int):=by
  rw [Jk]
  have h5:((y:Int)*2 ^ (32 - n))=((y*2 ^ (32 - n):Nat):Int):=by push_cast;rfl
  have h6:y*2 ^ (32 - n) % 4294967296=y % 2 ^ n*2 ^ (32 - n):=by rw [e0,Nat.mul_mod_mul_right]
  rw [h5,←h6]
  omega
 have e2:((y:Int) / 2 ^ n)=((y / 2 ^ n:Nat):Int):=by push_cast;rfl
 have hp:0<2 ^ n:=Nat.two_pow_pos n
 have hp2:0<2 ^ (32 - n):=Nat.two_pow_pos _
 have hm:y % 2 ^ n<2 ^ n:=Nat.mod_lt _ hp
 have hd:y / 2 ^ n<2 ^ (32 - n):=Nat.div_lt_of_lt_mul (by rw [←e0];exact hy)
 rw [e1,e2,WAU hd (by rw [e0];exact Nat.mul_lt_mul_of_pos_right hm hp2) (Nat.lt_of_le_of_lt (Nat.div_le_self _ _) hy)]
 unfold rt
 push_cast
 omega
def bs (s:ByteArray):List Int:=s.data.toList.map fun b=>(b.toNat:Int)
theorem bs_len (s:ByteArray):(bs s).length=s.size:=by unfold bs;rw [List.length_map];rfl
theorem KAM {s:ByteArray} {n:Int} (h:n ∈ bs s):0≤n∧n≤255:=by
 unfold bs at h;rw [List.mem_map] at h;obtain ⟨b,_,rfl⟩:=h
 have:=b.toNat_lt;omega
theorem NY (a b:ByteArray):bs (a++b)=bs a++bs b:=by simp [bs]
theorem LAB (s:ByteArray):ofBytes (bs s)=s:=by
 cases s;simp [ofBytes,bs,Function.comp_def]
theorem Aa {s t:ByteArray} (h:bs s=bs t):s=t:=by rw [←LAB s,h,LAB]
theorem SN {l:List Int} (h:∀ n,n ∈ l→0≤n∧n≤255):bs (ofBytes l)=l:=by
 simp only [bs,ofBytes,List.map_map]
 conv=>rhs;rw [←List.map_id l]
 apply List.map_congr_left
 intro n hn
 obtain ⟨h1,h2⟩:=h n hn
 simp only [Function.comp,UInt8.toNat_ofNat',id]
 omega
theorem MAB {s:ByteArray} {i:Nat} (h:i<s.size):bt s (i:Int)=(bs s)[i]'(by rw [bs_len];exact h):=by
 simp only [bt,Int.toNat_natCast,h,dite_true,bs,List.getElem_map]
 rfl
theorem Hf (s:ByteArray) (i:Int):0≤bt s i∧bt s i≤255:=by
 unfold bt;split
 ·have:=(s[i.toNat]).toNat_lt;omega
 ·omega
theorem BZ (s:ByteArray) (i j:Nat):bs (s.extract i j)=((bs s).take j).drop i:=by
 simp only [bs,ByteArray.data_extract,Array.toList_extract,List.extract_eq_take_drop,List.map_take,List.map_drop]
 rw [List.drop_take]
theorem TB {α:Type} {c:Bool} {a b:α} (h:c=true):(bif c then a else b)=a:=by rw [h];rfl
theorem NM {α:Type} {c:Bool} {a b:α} (h:c=false):(bif c then a else b)=b:=by rw [h];rfl
theorem Mc {s:ByteArray} {i:Nat} (h:i<s.size):bt s (i:Int)=(bs s).getD i 0:=by rw [MAB h,getD_at]
theorem KAn {s:ByteArray} {i:Int} {j:Nat} (e:i=(j:Int)) (h:j<s.size):bt s i=(bs s).getD j 0:=by rw [e,Mc h]
theorem Qz {α:Type} {a b:List α} {i:Nat} (h:i<a.length) (d:α):(a++b).getD i d=a.getD i d:=by simp [List.getD,List.getElem?_append_left h]
theorem Rn {α:Type} {a b:List α} {i:Nat} (h:a.length≤i) (d:α):(a++b).getD i d=b.getD (i - a.length) d:=by simp [List.getD,List.getElem?_append_right h]
theorem Nk {α:Type} {a b:List α} {x y:α} {i:Nat} (h:a.length=i):(a++x::b).set i y=a++y::b:=by
 rw [List.set_append_right _ _ (by omega),h,Nat.sub_self];rfl
theorem LAn {a b:Nat} (h:a=b):Nat.beq a b=true:=by subst h;exact Nat.beq_refl _
theorem MAn {P:Int→Prop} (n:Int) (h:0≤n) (k:∀ m:Nat,n=(m:Int)→P (m:Int)):P n:=by
 have:=k n.toNat (by omega)
 rwa [show ((n.toNat:Nat):Int)=n by omega] at this
theorem NAn:bs (⟨#[]⟩:ByteArray)=[]:=rfl
def VX (l:List Int):Prop:=∀ n,n ∈ l→0≤n∧n≤255
theorem FZ {l:List Int} (h:VX l) (i:Nat):0≤l.getD i 0∧l.getD i 0≤255:=by
 by_cases hi:i<l.length
 ·rw [getD_at hi];exact h _ (List.getElem_mem hi)
 ·have:l.getD i 0=0:=by simp [List.getD,List.getElem?_eq_none (Nat.le_of_not_lt hi)]
  omega
theorem Nb (s:ByteArray):VX (bs s):=fun _ h=>KAM h
theorem Rz (s:ByteArray):bytesOf s=bs s:=rfl
theorem NAi {α:Type} {l:List α} {i:Nat} (h:i<l.length) (y d:α):(l.set i y).getD i d=y:=by simp [List.getD,h]
def sg0 (x:Int):Int:=xr (xr (rt 128 33554432 x) (rt 262144 16384 x)) (x / 8)
def sg1 (x:Int):Int:=xr (xr (rt 131072 32768 x) (rt 524288 8192 x)) (x / 1024)
def ep1 (x:Int):Int:=xr (xr (rt 64 67108864 x) (rt 2048 2097152 x)) (rt 33554432 128 x)
def ep0 (x:Int):Int:=xr (xr (rt 4 1073741824 x) (rt 8192 524288 x)) (rt 4194304 1024 x)
def OAi (w:List Int) (t:Nat):Int:=w32 (w32 (w32 (sg1 (w.getD (t - 2) 0)+w.getD (t - 7) 0)+sg0 (w.getD (t - 15) 0))+w.getD (t - 16) 0)
def sched (w:List Int):Nat→List Int
 | 0=>w
 | n+1=>sched w n++[OAi (sched w n) (16+n)]
theorem Sz {w:List Int} (h:w.length=16) (n:Nat):(sched w n).length=16+n:=by
 induction n with
 | zero=>exact h
 | succ n ih=>simp [sched,ih];omega
theorem NAB {w:List Int} (h:∀ x ∈ w,R32 x) (n:Nat):∀ x ∈ sched w n,R32 x:=by
 induction n with
 | zero=>exact h
 | succ n ih=>
  intro x hx
  rw [sched,List.mem_append,List.mem_singleton] at hx
  rcases hx with hx | rfl
  ·exact ih x hx
  ·exact NZ _
theorem Tz {l:List Int} (h:∀ x ∈ l,R32 x) (i:Nat):R32 (l.getD i 0):=by
 by_cases hi:i<l.length
 ·rw [getD_at hi];exact h _ (List.getElem_mem hi)
 ·have:l.getD i 0=0:=by simp [List.getD,List.getElem?_eq_none (Nat.le_of_not_lt hi)]
  rw [this];unfold R32;omega
structure Reg where
 a:Int
 b:Int
 c:Int
 d:Int
 e:Int
 f:Int
 g:Int
 h:Int
def Reg.ok (r:Reg):Prop:=R32 r.a∧R32 r.b∧R32 r.c∧R32 r.d∧R32 r.e∧R32 r.f∧R32 r.g∧R32 r.h
def Reg.l (r:Reg):List Int:=[r.a,r.b,r.c,r.d,r.e,r.f,r.g,r.h]
theorem Reg.Uz (r:Reg):r.l.length=8:=rfl
def t1 (r:Reg) (k w:Int):Int:=w32 (w32 (w32 (w32 (r.h+ep1 r.e)+xr (an r.e r.f) (an (w32 (4294967295 - r.e)) r.g))+k)+w)
def t2 (r:Reg):Int:=w32 (ep0 r.a+xr (xr (an r.a r.b) (an r.a r.c)) (an r.b r.c))
def Oc (r:Reg) (k w:Int):Reg:=⟨w32 (t1 r k w+t2 r),r.a,r.b,r.c,w32 (r.d+t1 r k w),r.e,r.f,r.g⟩
theorem PAi {r:Reg} (h:r.ok) (k w:Int):(Oc r k w).ok:=⟨NZ _,h.1,h.2.1,h.2.2.1,NZ _,h.2.2.2.2.1,h.2.2.2.2.2.1,h.2.2.2.2.2.2.1⟩
def XY (K W:List Int) (r:Reg):Nat→Reg
 | 0=>r
 | n+1=>Oc (XY K W r n) (K.getD n 0) (W.getD n 0)
theorem AAV (K W:List Int) {r:Reg} (h:r.ok) (n:Nat):(XY K W r n).ok:=by
 induction n with
 | zero=>exact h
 | succ n ih=>exact PAi ih _ _
def Qk (s r:Reg):Reg:=⟨w32 (s.a+r.a),w32 (s.b+r.b),w32 (s.c+r.c),w32 (s.d+r.d),w32 (s.e+r.e),w32 (s.f+r.f),w32 (s.g+r.g),w32 (s.h+r.h)⟩
theorem QAi (s r:Reg):(Qk s r).ok:=⟨NZ _,NZ _,NZ _,NZ _,NZ _,NZ _,NZ _,NZ _⟩
def keysL:List Int:=[1116352408,1899447441,3049323471,3921009573,961987163,1508970993,2453635748,2870763221,3624381080,310598401,607225278,1426881987,1925078388,2162078206,2614888103,3248222580,3835390401,4022224774,264347078,604807628,770255983,1249150122,1555081692,1996064986,2554220882,2821834349,2952996808,3210313671,3336571891,3584528711,113926993,338241895,666307205,773529912,1294757372,1396182291,1695183700,1986661051,2177026350,2456956037,2730485921,2820302411,3259730800,3345764771,3516065817,3600352804,4094571909,275423344,430227734,506948616,659060556,883997877,958139571,1322822218,1537002063,1747873779,1955562222,2024104815,2227730452,2361852424,2428436474,2756734187,3204031479,3329325298]
def be4 (a b c d:Int):Int:=a*16777216+b*65536+c*256+d
def wordAt (l:List Int) (i:Nat):Int:=be4 (l.getD (4*i) 0) (l.getD (4*i+1) 0) (l.getD (4*i+2) 0) (l.getD (4*i+3) 0)
def YX (l:List Int) (n:Nat):List Int:=(List.range n).map (wordAt l)
theorem Jf (l:List Int) (n:Nat):(YX l n).length=n:=by simp [YX]
theorem BAV (l:List Int) (n:Nat):YX l (n+1)=YX l n++[wordAt l n]:=by simp [YX,List.range_succ]
theorem RAi {a b c d:Int} (ha:0≤a∧a≤255) (hb:0≤b∧b≤255) (hc:0≤c∧c≤255) (hd:0≤d∧d≤255):R32 (be4 a b c d):=by unfold R32 be4;omega
theorem SAi {l:List Int} (h:VX l) (i:Nat):R32 (wordAt l i):=RAi (FZ h _) (FZ h _) (FZ h _) (FZ h _)
theorem LAM {l:List Int} (h:VX l) (n:Nat):∀ x ∈ YX l n,R32 x:=by
 intro x hx
 simp only [YX,List.mem_map] at hx
 obtain ⟨i,_,rfl⟩:=hx
 exact SAi h i
def comp (s:Reg) (b:List Int):Reg:=Qk s (XY keysL (sched (YX b 16) 48) s 64)
theorem CAV (s:Reg) (b:List Int):(comp s b).ok:=QAi _ _
def comps:Nat→Reg→List Int→Reg
 | 0,s,_=>s
 | n+1,s,b=>comps n (comp s (b.take 64)) (b.drop 64)
theorem Rk {s:Reg} (h:s.ok):∀ (n:Nat) (b:List Int),(comps n s b).ok:=by
 intro n
 induction n generalizing s with
 | zero=>intro b;exact h
 | succ n ih=>intro b;exact ih (CAV _ _) _
theorem DAV (n m:Nat):∀ (s:Reg) (b:List Int),comps (n+m) s b=comps m (comps n s b) (b.drop (64*n)):=by
 induction n with
 | zero=>intro s b;simp [comps]
 | succ n ih=>
  intro s b
  rw [Nat.add_right_comm,comps,comps,ih,List.drop_drop]
  congr 2
  omega
theorem TAi (n:Nat):∀ (s:Reg) (b c:List Int),64*n≤b.length→comps n s (b++c)=comps n s b:=by
 induction n with
 | zero=>intro s b c _;rfl
 | succ n ih=>
  intro s b c h
  rw [comps,comps,List.take_append_of_le_length (by omega),List.drop_append_of_le_length (by omega),ih _ _ _ (by simp;omega)]
def four (x:Int):List Int:=[x / 16777216,x / 65536 % 256,x / 256 % 256,x % 256]
theorem Dk {x:Int} (h:R32 x):VX (four x):=by
 intro n hn
 unfold R32 at h
 simp only [four,List.mem_cons,List.not_mem_nil,or_false] at hn
 rcases hn with rfl | rfl | rfl | rfl <;> omega
def RX (ws:List Int):List Int:=ws.flatMap four
theorem Tn (ws:List Int):(RX ws).length=4*ws.length:=by
 induction ws with
 | nil=>rfl
 | cons w ws ih=>
  rw [show RX (w::ws)=four w++RX ws from rfl,List.length_append,ih]
  simp only [four,List.length_cons,List.length_nil];omega
theorem MAM {ws:List Int} (h:∀ x ∈ ws,R32 x):VX (RX ws):=by
 intro n hn
 simp only [RX,List.mem_flatMap] at hn
 obtain ⟨x,hx,hn⟩:=hn
 exact Dk (h x hx) n hn
theorem EAV (a b:List Int):RX (a++b)=RX a++RX b:=by simp [RX]
theorem UAi {x:Int} (h:R32 x):be4 (x / 16777216) (x / 65536 % 256) (x / 256 % 256) (x % 256)=x:=by unfold R32 at h;unfold be4;omega
theorem FAV:∀ {ws:List Int} (_:∀ x ∈ ws,R32 x) {i:Nat} (hi:i<ws.length),wordAt (RX ws) i=ws[i]
 | w::ws,h,0,_=>by
  have:=UAi (h w (List.mem_cons_self ..))
  simpa [wordAt,RX,four] using this
 | w::ws,h,i+1,hi=>by
  have ih:=FAV (ws:=ws) (fun x hx=>h x (List.mem_cons_of_mem _ hx)) (i:=i) (by simpa using hi)
  rw [List.getElem_cons_succ,←ih]
  have e:∀ j,(RX (w::ws)).getD (j+4) 0=(RX ws).getD j 0:=fun j=>by simp [RX,four,List.getD]
  unfold wordAt
  rw [show 4*(i+1)=4*i+4 by omega,show 4*i+4+1=(4*i+1)+4 by omega,show 4*i+4+2=(4*i+2)+4 by omega,show 4*i+4+3=(4*i+3)+4 by omega,e,e,e,e]
theorem VAi {ws:List Int} (h:∀ x ∈ ws,R32 x):YX (RX ws) ws.length=ws:=by
 apply List.ext_getElem
 ·rw [Jf]
 ·intro i h1 h2
  simp only [YX,List.getElem_map,List.getElem_range]
  exact FAV h h2
theorem Reg.Uk {r:Reg} (h:r.ok):∀ x ∈ r.l,R32 x:=by
 intro x hx
 simp only [Reg.l,List.mem_cons,List.not_mem_nil,or_false] at hx
 obtain ⟨h1,h2,h3,h4,h5,h6,h7,h8⟩:=h
 rcases hx with rfl | rfl | rfl | rfl | rfl | rfl | rfl | rfl <;> assumption
def Cb:Reg:=⟨1779033703,3144134277,1013904242,2773480762,1359893119,2600822924,528734635,1541459225⟩
theorem Xg:Cb.ok:=by unfold Reg.ok R32 Cb;decide
def Qc (n:Int):List Int:=[0,0,0,n / 4294967296 % 256,n / 16777216 % 256,n / 65536 % 256,n / 256 % 256,n % 256]
def DY (n:Nat):List Int:=128::(List.replicate ((119 - n % 64) % 64) 0++Qc (8*(n:Int)))
theorem OAB (n:Nat):(DY n).length=9+(119 - n % 64) % 64:=by simp [DY,Qc];omega
theorem WAi (n:Nat):(n+(DY n).length) % 64=0:=by rw [OAB];omega
theorem NAM (n:Nat):VX (DY n):=by
 intro x hx
 simp only [DY,Qc,List.mem_cons,List.mem_append,List.mem_replicate,List.not_mem_nil,or_false] at hx
 omega
def La (b:List Int):List Int:=RX (comps ((b.length+(DY b.length).length) / 64) Cb (b++DY b.length)).l
def ZY (s:ByteArray):ByteArray:=ofBytes (La (bs s))
theorem OAM (b:List Int):(La b).length=32:=by rw [La,Tn];rfl
theorem GAV (b:List Int):VX (La b):=MAM (Reg.Uk (Rk Xg _ _))
theorem Rf (s:ByteArray):(ZY s).size=32:=by rw [ZY,ofBytes_size,OAM]
theorem PAB (s:ByteArray):bs (ZY s)=La (bs s):=SN (GAV _)
theorem XAi {x:Int} (h:R32 x):[w8 (w32 (x.tdiv 16777216)),w8 ((w32 (x.tdiv 65536)).tmod 256),w8 ((w32 (x.tdiv 256)).tmod 256),w8 (x.tmod 256)]=four x:=by
 obtain ⟨h1,h2⟩:=h
 rw [Int.tdiv_eq_ediv_of_nonneg h1,Int.tdiv_eq_ediv_of_nonneg h1,Int.tdiv_eq_ediv_of_nonneg h1,Int.tmod_eq_emod_of_nonneg h1]
 rw [YZ (n:=x / 16777216) (by omega) (by omega),YZ (n:=x / 65536) (by omega) (by omega),YZ (n:=x / 256) (by omega) (by omega)]
 rw [Int.tmod_eq_emod_of_nonneg (by omega),Int.tmod_eq_emod_of_nonneg (by omega)]
 simp only [four,w8_mod,List.cons.injEq,and_true]
 omega
theorem PAM {ws:List Int} (h:∀ x ∈ ws,R32 x) (hl:ws.length≤1000000000000):Fb ws=some (ofBytes (RX ws)):=by
 have key:=loopN (A:=Unit) (n:=ws.length) (Lp:=Vr) (st:=fun i _=>.c0 ws (i:Int) (RX (ws.take i))) (Inv:=fun _ _=>True) (out:=fun _ _=>some (ofBytes (RX ws)))
  (fun m _ _=>by
   simp only [Vr,P6]
   rw [NM (by simp),List.take_length])
  (fun m i _ hi _=>.inr ⟨(),by
   have e:w64 ((i:Int)+1)=((i+1:Nat):Int):=by rw [w64_id (by omega) (by omega)];rfl
   simp only [Vr,P6,e,Int.toNat_natCast]
   rw [TB (by simp;omega),TB (by simp;omega),TB (by rw [Tn,List.length_take];simp;omega)]
   rw [getD_at hi,XAi (h _ (List.getElem_mem hi)),take_at hi,EAV]
   simp [RX],trivial,rfl⟩)
 exact key gas 0 () (Nat.zero_le _) (gas_lt (by omega)) trivial
def Tf:SHasher:=⟨ofBytes (RX Cb.l),⟨#[]⟩,0⟩
theorem YAi:Yr=some Tf:=by
 have h:=PAM (ws:=Cb.l) (Reg.Uk Xg) (by decide)
 have e:O6=some Cb.l:=rfl
 simp only [Yr,ZAF,e,h,Option.bind_some]
 rfl
def FN (x a b:Int):Bool:=decide (a≤x) && decide (x≤b)
theorem SX {x a b:Int}:FN x a b=true↔a≤x∧x≤b:=by simp [FN]
theorem Ob (x a b:Int):AY x a b=some (FN x a b):=by
 show (bif decide (a≤x) then some (decide (x≤b)) else some false)=some (FN x a b)
 unfold FN;cases decide (a≤x) <;> rfl
theorem HAV {h:SHasher} (h1:h.fState.size=32) (h2:h.fRest.size<64) (h3:0≤h.fCount∧h.fCount≤1000000000) (h4:h.fCount % 64=(h.fRest.size:Int)):Oa h=some true:=by
 have e:FN h.fCount 0 1000000000=true:=by rw [SX];omega
 simp only [Oa,AAG,Ob,Option.bind_some,e]
 rw [TB (by simp;omega),TB (by simp;omega),cond_true,Int.tmod_eq_emod_of_nonneg h3.1,h4]
 simp
theorem ZAi {s:ByteArray} {i:Nat} (h:4*i+4≤s.size) (hs:s.size≤9000000000000000000):Ei s ((4*i:Nat):Int)=some (wordAt (bs s) i):=by
 have hb:=Nb s
 have e1:w64 (((4*i:Nat):Int)+1)=((4*i+1:Nat):Int):=by rw [w64_id (by omega) (by omega)];rfl
 have e2:w64 (((4*i:Nat):Int)+2)=((4*i+2:Nat):Int):=by rw [w64_id (by omega) (by omega)];rfl
 have e3:w64 (((4*i:Nat):Int)+3)=((4*i+3:Nat):Int):=by rw [w64_id (by omega) (by omega)];rfl
 simp only [Ei,BAG,e1,e2,e3]
 rw [TB (by simp;omega),TB (by simp;omega),TB (by simp;omega),TB (by simp;omega)]
 rw [Mc (by omega),Mc (by omega),Mc (by omega),Mc (by omega)]
 have b0:=FZ hb (4*i)
 have b1:=FZ hb (4*i+1)
 have b2:=FZ hb (4*i+2)
 have b3:=FZ hb (4*i+3)
 unfold wordAt be4
 simp only [Jk]
 congr 1
 omega
theorem IAV {s:ByteArray} (hs:s.size≤1000000000000):QZ s=some (YX (bs s) (s.size / 4)):=by
 have key:=loopN (A:=Unit) (n:=s.size / 4) (Lp:=Es) (st:=fun i _=>.c0 s ((4*i:Nat):Int) (YX (bs s) i)) (Inv:=fun _ _=>True) (out:=fun _ _=>some (YX (bs s) (s.size / 4)))
  (fun m _ _=>by
   simp only [Es,X6]
   rw [w64_id (by omega) (by omega),NM (by simp;omega)])
  (fun m i _ hi _=>.inr ⟨(),by
   have e:w64 (((4*i:Nat):Int)+4)=((4*(i+1):Nat):Int):=by rw [w64_id (by omega) (by omega)];omega
   simp only [Es,X6,e,ZAi (s:=s) (i:=i) (by omega) (by omega),Option.bind_some,Jf,BAV]
   rw [TB (by simp;omega),TB (by simp;omega)],trivial,rfl⟩)
 exact key gas 0 () (Nat.zero_le _) (gas_lt (by omega)) trivial
theorem Vd {x low high:Int} (h:R32 x) (hl:0<low) (hh:0<high) (hlh:low*high=4294967296):Gs x low high=some (rt low high x):=by
 have hr:=LAi h hl hh hlh
 obtain ⟨h1,h2⟩:=h
 have e0:(!(low == 0))=true:=by simp;omega
 have d1:0≤x / low:=Int.ediv_nonneg h1 (by omega)
 have d2:0≤x % low*high:=Int.mul_nonneg (Int.emod_nonneg _ (by omega)) (by omega)
 unfold R32 rt at hr
 simp only [Gs,FAG,e0,cond_true,Int.tdiv_eq_ediv_of_nonneg h1,Int.tmod_eq_emod_of_nonneg h1]
 rw [YZ d1 (by omega),YZ d2 (by omega),YZ (by omega) (by omega)]
 rfl
theorem AAj {x:Int} (h:R32 x):Qa x 131072 524288 1024 true=some (sg1 x):=by
 have e1:w32 (w32 ((2147483648:Int).tdiv 131072)*2)=32768:=by decide
 have e2:w32 (w32 ((2147483648:Int).tdiv 524288)*2)=8192:=by decide
 have e3:w32 (x.tdiv 1024)=x / 1024:=by
  obtain ⟨h1,h2⟩:=h
  rw [Int.tdiv_eq_ediv_of_nonneg h1,YZ (by omega) (by omega)]
 simp only [Qa,Vl,e1,e2,e3,Vd h (low:=131072) (high:=32768) (by omega) (by omega) (by omega),Vd h (low:=524288) (high:=8192) (by omega) (by omega) (by omega),Option.bind_some,Lc]
 rfl
theorem BAj {x:Int} (h:R32 x):Qa x 128 262144 8 true=some (sg0 x):=by
 have e1:w32 (w32 ((2147483648:Int).tdiv 128)*2)=33554432:=by decide
 have e2:w32 (w32 ((2147483648:Int).tdiv 262144)*2)=16384:=by decide
 have e3:w32 (x.tdiv 8)=x / 8:=by
  obtain ⟨h1,h2⟩:=h
  rw [Int.tdiv_eq_ediv_of_nonneg h1,YZ (by omega) (by omega)]
 simp only [Qa,Vl,e1,e2,e3,Vd h (low:=128) (high:=33554432) (by omega) (by omega) (by omega),Vd h (low:=262144) (high:=16384) (by omega) (by omega) (by omega),Option.bind_some,Lc]
 rfl
theorem CAj {x:Int} (h:R32 x):Qa x 64 2048 33554432 false=some (ep1 x):=by
 have e1:w32 (w32 ((2147483648:Int).tdiv 64)*2)=67108864:=by decide
 have e2:w32 (w32 ((2147483648:Int).tdiv 2048)*2)=2097152:=by decide
 have e3:w32 (w32 ((2147483648:Int).tdiv 33554432)*2)=128:=by decide
 simp only [Qa,Vl,e1,e2,e3,Vd h (low:=64) (high:=67108864) (by omega) (by omega) (by omega),Vd h (low:=2048) (high:=2097152) (by omega) (by omega) (by omega),Vd h (low:=33554432) (high:=128) (by omega) (by omega) (by omega),Option.bind_some,Lc]
 rfl
theorem DAj {x:Int} (h:R32 x):Qa x 4 8192 4194304 false=some (ep0 x):=by
 have e1:w32 (w32 ((2147483648:Int).tdiv 4)*2)=1073741824:=by decide
 have e2:w32 (w32 ((2147483648:Int).tdiv 8192)*2)=524288:=by decide
 have e3:w32 (w32 ((2147483648:Int).tdiv 4194304)*2)=1024:=by decide
 simp only [Qa,Vl,e1,e2,e3,Vd h (low:=4) (high:=1073741824) (by omega) (by omega) (by omega),Vd h (low:=8192) (high:=524288) (by omega) (by omega) (by omega),Vd h (low:=4194304) (high:=1024) (by omega) (by omega) (by omega),Option.bind_some,Lc]
 rfl
theorem JAV (s r:Reg):∀ i,i<8→(Qk s r).l.getD i 0=w32 (s.l.getD i 0+r.l.getD i 0)
 | 0,_=>rfl | 1,_=>rfl | 2,_=>rfl | 3,_=>rfl | 4,_=>rfl | 5,_=>rfl | 6,_=>rfl | 7,_=>rfl
 | n+8,h=>by omega
theorem OAn (n:Nat) (h:n<9223372036854775807):∃ m,gas=m+n:=⟨gas - n,by have:=gas_lt h;omega⟩
theorem EAj (s r:Reg):∀ (j i m:Nat),i+j=8→CZ (m+j+1) (.c3 s.l (i:Int) r.l ((Qk s r).l.take i))=some (Qk s r).l:=by
 intro j
 induction j with
 | zero=>
  intro i m h
  obtain rfl:i=8:=by omega
  simp only [CZ,Jd]
  rfl
 | succ j ih=>
  intro i m h
  have e:w64 ((i:Int)+1)=((i+1:Nat):Int):=by rw [w64_id (by omega) (by omega)];rfl
  have hl:∀ q:Reg,q.l.length=8:=fun _=>rfl
  rw [show m+(j+1)+1=(m+j+1)+1 by omega]
  simp only [CZ,Jd,e,Int.toNat_natCast]
  rw [TB (by simp;omega),TB (by simp [hl];omega),TB (by simp [hl];omega),TB (by simp [hl];omega)]
  have h3:=ih (i+1) m (by omega)
  rw [take_at (by rw [hl];omega),←getD_at (by rw [hl];omega) 0,JAV _ _ _ (by omega)] at h3
  exact h3
def shL:Nat→List Int→List Int
 | 0,v=>v
 | i+1,v=>shL i (v.set (i+1) (v.getD i 0))
theorem FAj (t o W:List Int) (k T1 T2:Int) (hk:0≤k∧k<64):∀ (i m:Nat) (v:List Int),i<8→v.length=8→CZ (m+i+1) (.c2 t o k T1 T2 (i:Int) W v)=CZ m (.c1 t o (k+1) W (((shL i v).set 4 (w32 ((shL i v).getD 4 0+T1))).set 0 (w32 (T1+T2)))):=by
 intro i
 induction i with
 | zero=>
  intro m v _ hl
  have e:w64 (k+1)=k+1:=w64_id (by omega) (by omega)
  simp only [CZ,Jd,e]
  rw [NM (by simp),TB (by simp [hl]),TB (by simp [hl]),TB (by simp [hl])]
  rfl
 | succ i ih=>
  intro m v hi hl
  have e:w64 (((i+1:Nat):Int) - 1)=(i:Int):=by rw [w64_id (by omega) (by omega)];omega
  rw [show m+(i+1)+1=(m+i+1)+1 by omega]
  rw [CZ]
  simp only [Jd,e,Int.toNat_natCast]
  rw [TB (by simp;try omega),TB (by simp [hl];try omega),TB (by simp [hl];try omega),ih m _ (by omega) (by simp [hl])]
  rfl
theorem GAj (t W:List Int) (r:Reg) (hr:r.ok) (hW:∀ x ∈ W,R32 x) (hWl:W.length=64) (i m:Nat) (hi:i<64) :
  CZ (m+9) (.c1 t keysL (i:Int) W r.l)=CZ m (.c1 t keysL ((i:Int)+1) W (Oc r (keysL.getD i 0) (W.getD i 0)).l):=by
 obtain ⟨h1,h2,h3,h4,h5,h6,h7,h8⟩:=hr
 have hk:keysL.length=64:=rfl
 have g (q:Reg):q.l.getD 0 0=q.a∧q.l.getD 1 0=q.b∧q.l.getD 2 0=q.c∧q.l.getD 4 0=q.e∧q.l.getD 5 0=q.f∧q.l.getD 6 0=q.g∧q.l.getD 7 0=q.h:=⟨rfl,rfl,rfl,rfl,rfl,rfl,rfl⟩
 obtain ⟨g0,g1,g2,g4,g5,g6,g7⟩:=g r
 have hl:r.l.length=8:=rfl
 have z4:(4:Int).toNat=4:=rfl
 have z5:(5:Int).toNat=5:=rfl
 have z6:(6:Int).toNat=6:=rfl
 have z7:(7:Int).toNat=7:=rfl
 have z0:(0:Int).toNat=0:=rfl
 have z1:(1:Int).toNat=1:=rfl
 have z2:(2:Int).toNat=2:=rfl
 rw [show m+9=(m+7+1)+1 by omega,CZ]
 simp only [Jd,z0,z1,z2,z4,z5,z6,z7,g0,g1,g2,g4,g5,g6,g7,hl,hk,hWl,CAj h5,DAj h1,Option.bind_some,Lc,HAM,Int.toNat_natCast]
 rw [TB (by simp;omega),TB (by simp),TB (by simp),TB (by simp),TB (by simp),TB (by simp;omega),TB (by simp;omega),TB (by simp),TB (by simp),TB (by simp),TB (by simp),TB (by simp),TB (by simp),TB (by simp)]
 exact FAj t keysL W (i:Int) (t1 r (keysL.getD i 0) (W.getD i 0)) (t2 r) (by omega) 7 m r.l (by omega) rfl
theorem HAj (s:Reg) (hs:s.ok) (W:List Int) (hW:∀ x ∈ W,R32 x) (hWl:W.length=64):∀ (j i m:Nat),i+j=64→CZ (m+9*j+10) (.c1 s.l keysL (i:Int) W (XY keysL W s i).l)=some (Qk s (XY keysL W s 64)).l:=by
 intro j
 induction j with
 | zero=>
  intro i m h
  obtain rfl:i=64:=by omega
  rw [show m+9*0+10=(m+8+1)+1 by omega,CZ]
  simp only [Jd]
  rw [NM (by simp)]
  exact EAj s _ 8 0 m (by omega)
 | succ j ih=>
  intro i m h
  rw [show m+9*(j+1)+10=(m+9*j+10)+9 by omega,GAj s.l W _ (AAV keysL W hs i) hW hWl i _ (by omega)]
  exact ih (i+1) m (by omega)
theorem IAj (s:Reg) (hs:s.ok) (w:List Int) (hw:∀ x ∈ w,R32 x) (hwl:w.length=16):∀ (j i m:Nat),i+j=48→CZ (m+9*64+10+1+j) (.c0 s.l keysL ((16+i:Nat):Int) (sched w i))=some (Qk s (XY keysL (sched w 48) s 64)).l:=by
 intro j
 induction j with
 | zero=>
  intro i m h
  obtain rfl:i=48:=by omega
  rw [show m+9*64+10+1+0=(m+9*64+10)+1 by omega,CZ]
  simp only [Jd]
  rw [NM (by simp),TB (by simp [Reg.l])]
  exact HAj s hs _ (NAB hw 48) (Sz hwl 48) 64 0 m (by omega)
 | succ j ih=>
  intro i m h
  have hl:=Sz hwl i
  have hr:=NAB hw i
  have e2:w64 (((16+i:Nat):Int) - 2)=((16+i - 2:Nat):Int):=by rw [w64_id (by omega) (by omega)];omega
  have e7:w64 (((16+i:Nat):Int) - 7)=((16+i - 7:Nat):Int):=by rw [w64_id (by omega) (by omega)];omega
  have e15:w64 (((16+i:Nat):Int) - 15)=((16+i - 15:Nat):Int):=by rw [w64_id (by omega) (by omega)];omega
  have e16:w64 (((16+i:Nat):Int) - 16)=((16+i - 16:Nat):Int):=by rw [w64_id (by omega) (by omega)];omega
  have e1:w64 (((16+i:Nat):Int)+1)=((16+(i+1):Nat):Int):=by rw [w64_id (by omega) (by omega)];omega
  rw [show m+9*64+10+1+(j+1)=(m+9*64+10+1+j)+1 by omega,CZ]
  simp only [Jd,e1,e2,e7,e15,e16,Int.toNat_natCast,hl,AAj (Tz hr _),BAj (Tz hr _),Option.bind_some]
  rw [TB (by simp;omega),TB (by simp;omega),TB (by simp;omega),TB (by simp;omega),TB (by simp;omega),TB (by simp;omega)]
  exact ih (i+1) m (by omega)
theorem KAV {s:Reg} (hs:s.ok) {b:ByteArray} (hb:b.size=64):Ub s.l keysL b=some (comp s (bs b)).l:=by
 have hr:=LAM (Nb b) 16
 obtain ⟨m,hm⟩:∃ m,gas=m+9*64+10+1+48:=⟨gas - 635,by have:=gas_lt (n:=635) (by omega);omega⟩
 have h:=IAj s hs _ hr (Jf _ 16) 48 0 m (by omega)
 have e0:((16+0:Nat):Int)=16:=rfl
 rw [e0,show sched (YX (bs b) 16) 0=YX (bs b) 16 from rfl] at h
 rw [Ub,GAG,IAV (s:=b) (by omega),Option.bind_some,hb,hm]
 exact h
theorem LAV:Ed=some keysL:=rfl
theorem JAj (b:List Int) (i:Nat):(b.take (64*i+64)).drop (64*i)=(b.drop (64*i)).take 64:=by
 rw [List.drop_take];congr 1;omega
theorem MAV (i:Nat) (s:Reg) (b:List Int):comps (i+1) s b=comp (comps i s b) ((b.drop (64*i)).take 64):=by
 rw [DAV i 1];rfl
theorem NAV {r:Reg} (h:r.ok):QZ (ofBytes (RX r.l))=some r.l:=by
 have hs:(ofBytes (RX r.l)).size=32:=by rw [ofBytes_size,Tn];rfl
 rw [IAV (by omega),hs,SN (MAM (Reg.Uk h))]
 exact congrArg some (VAi (Reg.Uk h))
theorem KAj {s:ByteArray} (hs:s.size≤1000000000):Qs Tf s=some ⟨ofBytes (RX (comps (s.size / 64) Cb (bs s)).l),s.extract (64*(s.size / 64)) s.size,(s.size:Int)⟩:=by
 have e0:Oa Tf=some true:=HAV (by rw [Tf,ofBytes_size,Tn];rfl) (by decide) (by decide) (by decide)
 have e1:((⟨#[]⟩:ByteArray)++s)=s:=Aa (by rw [NY];rfl)
 have key:=loopN (A:=Unit) (n:=s.size / 64) (Lp:=Ns) (st:=fun i _=>.c0 s s ((64*i:Nat):Int) Tf (⟨(⟨#[]⟩:ByteArray),(⟨#[]⟩:ByteArray),(0:Int)⟩:SHasher) (comps i Cb (bs s)).l keysL) (Inv:=fun _ _=>True)
  (out:=fun _ _=>some ⟨ofBytes (RX (comps (s.size / 64) Cb (bs s)).l),s.extract (64*(s.size / 64)) s.size,(s.size:Int)⟩)
  (fun m _ _=>by
   have hw:w64 (Tf.fCount+(s.size:Int))=(s.size:Int):=by
    show w64 ((0:Int)+(s.size:Int))=_
    rw [Int.zero_add,w64_id (by omega) (by omega)]
   rw [Ns]
   simp only [G7,hw,Int.toNat_natCast]
   rw [w64_id (by omega) (by omega),NM (by simp;omega),PAM (Reg.Uk (Rk Xg _ _)) (by simp [Reg.l]),Option.bind_some,TB (by simp;omega)])
  (fun m i _ hi _=>.inr ⟨(),by
   have e:w64 (((64*i:Nat):Int)+64)=((64*(i+1):Nat):Int):=by rw [w64_id (by omega) (by omega)];omega
   rw [Ns]
   simp only [G7,e,Int.toNat_natCast]
   rw [TB (by simp;omega),TB (by simp;omega),KAV (Rk Xg _ _) (by simp;omega),Option.bind_some,BZ,show 64*(i+1)=64*i+64 by omega,JAj,←MAV],trivial,rfl⟩)
 rw [Qs,IAG,e0,Option.bind_some,NM (by rfl)]
 have hw:w64 (Tf.fCount+(s.size:Int))=(s.size:Int):=by
  show w64 ((0:Int)+(s.size:Int))=_
  rw [Int.zero_add,w64_id (by omega) (by omega)]
 rw [hw,NM (by simp;omega),show Tf.fState=ofBytes (RX Cb.l) from rfl,NAV Xg,Option.bind_some,LAV,Option.bind_some,show Tf.fRest=⟨#[]⟩ from rfl,e1]
 rw [TB (by (have:(⟨#[]⟩:ByteArray).size=0:=rfl);simp only [this,decide_eq_true_eq];omega)]
 exact key gas 0 () (Nat.zero_le _) (gas_lt (by omega)) trivial
def Vk (b:Int):Nat→List Int
 | 0=>[]
 | i+1=>(b / 256 ^ i % 256)::Vk b i
def Xd:Nat→Nat
 | 0=>0
 | i+1=>Xd i+(i+2)
theorem LAj (x:Int) (j:Nat):x / 256 / 256 ^ j=x / 256 ^ (j+1):=by
 rw [Int.ediv_ediv_of_nonneg (by omega)]
 congr 1
 rw [Int.pow_succ,Int.mul_comm]
theorem MAj (h:SHasher) (b:Int):∀ (j k i m:Nat) (x:Int) (t:List Int),k+j=i→i≤7→0≤x→x≤9223372036854775807→t.length≤1000→
  DZ (m+j+1) (.c2 b (i:Int) x (k:Int) h t)=DZ m (.c1 b ((i:Int) - 1) h (t++[x / 256 ^ j % 256])):=by
 intro j
 induction j with
 | zero=>
  intro k i m x t hk hi hx hx2 ht
  have e:w64 ((i:Int) - 1)=(i:Int) - 1:=w64_id (by omega) (by omega)
  have e2:w8 (x.tmod 256)=x % 256:=by rw [Int.tmod_eq_emod_of_nonneg hx,w8_id (by omega) (by omega)]
  rw [DZ]
  simp only [Ld,e,e2]
  rw [NM (by simp;omega),TB (by simp;omega),Int.pow_zero,Int.ediv_one]
 | succ j ih=>
  intro k i m x t hk hi hx hx2 ht
  have e:w64 ((k:Int)+1)=((k+1:Nat):Int):=by rw [w64_id (by omega) (by omega)];rfl
  have e2:w64 (x.tdiv 256)=x / 256:=by rw [Int.tdiv_eq_ediv_of_nonneg hx,w64_id (by omega) (by omega)]
  rw [show m+(j+1)+1=(m+j+1)+1 by omega,DZ]
  simp only [Ld,e,e2]
  rw [TB (by simp;omega),ih (k+1) i m (x / 256) t (by omega) hi (by omega) (by omega) ht,LAj]
theorem NAj (h:SHasher) (b:Int) (hb:0≤b) (hb2:b≤9223372036854775807):∀ (i m:Nat) (t:List Int),i≤8→t.length+i≤900→DZ (m+Xd i) (.c1 b ((i:Int) - 1) h t)=DZ m (.c1 b (-1) h (t++Vk b i)):=by
 intro i
 induction i with
 | zero=>intro m t _ _;simp [Xd,Vk]
 | succ i ih=>
  intro m t hi ht
  rw [Xd,show m+(Xd i+(i+2))=(m+Xd i)+i+1+1 by omega,DZ,show ((i+1:Nat):Int) - 1=(i:Int) by omega]
  simp only [Ld]
  rw [TB (by simp),show (0:Int)=((0:Nat):Int) from rfl,MAj h b i 0 i _ b t (by omega) (by omega) hb hb2 (by omega),ih m _ (by omega) (by simp;omega)]
  simp [Vk]
theorem OAj {b:Int} (h:0≤b) (h2:b<1099511627776):Vk b 8=Qc b:=by
 simp only [Vk,Qc,List.cons.injEq,and_true]
 omega
theorem PAj (r:Reg) (hr:r.ok) (t:List Int) (ht:VX t) (n:Nat) (hn:t.length=64*n) (hn2:n≤100):∀ (j i m:Nat),i+j=n→DZ (m+j+1) (.c3 ((64*i:Nat):Int) t (comps i r t).l keysL)=some (ofBytes (RX (comps n r t).l)):=by
 intro j
 induction j with
 | zero=>
  intro i m h
  obtain rfl:i=n:=by omega
  rw [DZ]
  simp only [Ld]
  rw [NM (by simp;omega),PAM (Reg.Uk (Rk hr _ _)) (by simp [Reg.l]),Option.bind_some]
 | succ j ih=>
  intro i m h
  have e:w64 (((64*i:Nat):Int)+64)=((64*(i+1):Nat):Int):=by rw [w64_id (by omega) (by omega)];omega
  have hl:((t.drop (64*i)).take (64*(i+1) - 64*i)).length=64:=by rw [List.length_take,List.length_drop];omega
  have hby:VX ((t.drop (64*i)).take (64*(i+1) - 64*i)):=fun x hx=>ht x (List.mem_of_mem_drop (List.mem_of_mem_take hx))
  rw [show m+(j+1)+1=(m+j+1)+1 by omega,DZ]
  simp only [Ld,e,Int.toNat_natCast]
  rw [TB (by simp;omega),TB (by simp;omega),KAV (Rk hr _ _) (by rw [ofBytes_size,hl]),Option.bind_some,SN hby,show 64*(i+1) - 64*i=64 by omega,←MAV]
  exact ih (i+1) m (by omega)
theorem QAj (h:SHasher) (r:List Int) (hr:r.length<64):∀ (j i m:Nat),i+j=(119 - r.length) % 64→DZ (m+j+1) (.c0 h (r++128::List.replicate i 0))=DZ m (.c1 (w64 (8*h.fCount)) 7 h (r++128::List.replicate ((119 - r.length) % 64) 0)):=by
 intro j
 induction j with
 | zero=>
  intro i m hi
  rw [DZ]
  simp only [Ld]
  rw [NM (by rw [Int.tmod_eq_emod_of_nonneg (by omega)];simp;omega),show i=(119 - r.length) % 64 by omega]
 | succ j ih=>
  intro i m hi
  rw [show m+(j+1)+1=(m+j+1)+1 by omega,DZ]
  simp only [Ld]
  rw [TB (by rw [Int.tmod_eq_emod_of_nonneg (by omega)];simp;omega),TB (by simp;omega)]
  have e:(r++128::List.replicate i (0:Int))++[0]=r++128::List.replicate (i+1) 0:=by
   rw [List.replicate_succ'];simp
  rw [e]
  exact ih (i+1) m (by omega)
theorem RAj {r:Reg} (hr:r.ok) {s:ByteArray} {n:Nat} (hs:s.size=n % 64) (hn:n≤1000000000):Vs ⟨ofBytes (RX r.l),s,(n:Int)⟩=some (ofBytes (RX (comps ((s.size+(DY n).length) / 64) r (bs s++DY n)).l)):=by
 have e0:Oa ⟨ofBytes (RX r.l),s,(n:Int)⟩=some true:=HAV (by rw [ofBytes_size,Tn];rfl) (by simp only;omega) (by simp only;omega) (by simp only;omega)
 have hl:=bs_len s
 obtain ⟨m,hm⟩:∃ m,gas=((m+((s.size+(DY n).length) / 64)+1+1+Xd 8)+((119 - (bs s).length) % 64)+1):=⟨gas - (((s.size+(DY n).length) / 64)+1+1+Xd 8+((119 - (bs s).length) % 64)+1),by
  have:=gas_lt (n:=1000) (by omega)
  have h2:=OAB n
  have h3:Xd 8=44:=rfl
  omega⟩
 have hw:w64 (8*(n:Int))=8*(n:Int):=w64_id (by omega) (by omega)
 have hrep:(bs s++128::List.replicate ((119 - (bs s).length) % 64) 0)++Vk (8*(n:Int)) 8=bs s++DY n:=by
  rw [OAj (by omega) (by omega),DY,hl,hs,show (119 - n % 64) % 64=(119 - n % 64) % 64 from rfl]
  simp
 rw [Vs,KAG,e0,Option.bind_some,NM (by rfl),TB (by simp;omega),Rz,TB (by rw [hl];simp;omega),hm]
 have h0:=QAj ⟨ofBytes (RX r.l),s,(n:Int)⟩ (bs s) (by omega) ((119 - (bs s).length) % 64) 0 (m+((s.size+(DY n).length) / 64)+1+1+Xd 8) (by omega)
 rw [List.replicate_zero] at h0
 rw [h0,show (7:Int)=((8:Nat):Int) - 1 from rfl]
 simp only [hw]
 rw [NAj _ _ (by omega) (by omega) 8 _ _ (by omega) (by simp;omega),hrep,DZ]
 simp only [Ld]
 rw [NM (by simp),NAV hr,Option.bind_some,LAV,Option.bind_some]
 have hb:VX (bs s++DY n):=fun x hx=>by
  rcases List.mem_append.1 hx with hx | hx
  ·exact Nb s x hx
  ·exact NAM n x hx
 have hlen:(bs s++DY n).length=64*((s.size+(DY n).length) / 64):=by
  have:=WAi n
  rw [List.length_append,hl]
  omega
 exact PAj r hr _ hb _ hlen (by have:=OAB n;omega) ((s.size+(DY n).length) / 64) 0 m (by omega)
theorem SAj (b:List Int):comps ((b.length+(DY b.length).length) / 64) Cb (b++DY b.length)=comps ((b.length % 64+(DY b.length).length) / 64) (comps (b.length / 64) Cb b) (b.drop (64*(b.length / 64))++DY b.length):=by
 rw [show (b.length+(DY b.length).length) / 64=b.length / 64+(b.length % 64+(DY b.length).length) / 64 by omega,DAV,TAi _ _ _ _ (by omega),List.drop_append_of_le_length (by omega)]
theorem Vz {s:ByteArray} (hs:s.size≤1000000000):RZ s=some (ZY s):=by
 have h1:(s.extract (64*(s.size / 64)) s.size).size=s.size % 64:=by simp;omega
 have h:=RAj (Rk Xg (s.size / 64) (bs s)) (s:=s.extract (64*(s.size / 64)) s.size) h1 hs
 rw [BZ,h1,List.take_of_length_le (by rw [bs_len];omega)] at h
 rw [RZ,LAG,YAi,Option.bind_some,KAj hs,Option.bind_some,h,Option.bind_some,ZY,La,SAj,bs_len]
theorem TAj {n:Nat} {x:Int} (h:n≤1000000000):Et (n:Int) x=some (ofBytes (List.replicate n x)):=by
 have key:∀ (j i m:Nat),i+j=n→Dt (m+j+1) (.c0 (n:Int) x (i:Int) (List.replicate i x++List.replicate (n - i) 0))=some (ofBytes (List.replicate n x)):=by
  intro j
  induction j with
  | zero=>
   intro i m hi
   obtain rfl:i=n:=by omega
   rw [Dt]
   simp only [I7]
   rw [NM (by simp),Nat.sub_self,List.replicate_zero,List.append_nil]
  | succ j ih=>
   intro i m hi
   have e:w64 ((i:Int)+1)=((i+1:Nat):Int):=by rw [w64_id (by omega) (by omega)];rfl
   rw [show m+(j+1)+1=(m+j+1)+1 by omega,Dt]
   simp only [I7,e,Int.toNat_natCast]
   rw [TB (by simp;omega),TB (by simp;omega),show n - i=(n - (i+1))+1 by omega,List.replicate_succ,Nk (by simp)]
   have h2:=ih (i+1) m (by omega)
   rw [List.replicate_succ' (n:=i),List.append_assoc] at h2
   exact h2
 obtain ⟨m,hm⟩:∃ m,gas=m+n+1:=⟨gas - (n+1),by have:=gas_lt (n:=n+1) (by omega);omega⟩
 have h0:=key n 0 m (by omega)
 rw [List.replicate_zero,List.nil_append,Nat.sub_zero] at h0
 rw [Et,NAG,TB (by simp;omega),hm]
 exact h0
def AZ:SBook:=⟨ZY ⟨#[]⟩,0,[],0,ofBytes (List.replicate 32 0),0⟩
theorem AAU:Gi=some AZ:=by
 rw [Gi,OAG,Vz (by decide),Option.bind_some,show (32:Int)=((32:Nat):Int) from rfl,TAj (by omega),Option.bind_some];rfl
theorem OAV {b:SBook} (h:b.fThings.length≤2932031007317):Vb b=some b:=by
 rw [Vb,PAG,TB (by simp;omega)];rfl
def IK (n:Int):List Int:=if n > 127 then (128+n % 128)::IK (n / 128) else [w8 n]
termination_by n.toNat
decreasing_by omega
theorem PAV:∀ (k:Nat) (n:Int),n<128 ^ k→(IK n).length≤max k 1:=by
 intro k
 induction k with
 | zero=>intro n h;rw [IK,if_neg (by omega)];simp
 | succ k ih=>
  intro n h
  rw [IK]
  split
  ·rename_i hn
   have h2:n / 128<128 ^ k:=by
    rw [Int.pow_succ] at h
    exact Int.ediv_lt_of_lt_mul (by omega) h
   have:=ih _ h2
   simp only [List.length_cons]
   by_cases hk:k=0
   ·subst hk;simp at h2;try omega
   ·omega
  ·simp;try omega
theorem GZ {n:Int} (h:n≤9223372036854775807):(IK n).length≤10:=by
 have:=PAV 10 n (by (have:(128:Int) ^ 10=1180591620717411303424:=by decide);omega)
 omega
theorem Nc (n:Int):1≤(IK n).length:=by rw [IK];split <;> simp
theorem QAV {n:Int} (h:n > 127) (h2:n≤9223372036854775807):w64 (n.tdiv 128)=n / 128∧w8 (w64 (n.tmod 128+128))=128+n % 128∧w8 (w64 (128+n.tmod 128))=128+n % 128:=by
 have e1:n.tdiv 128=n / 128:=Int.tdiv_eq_ediv_of_nonneg (by omega)
 have e2:n.tmod 128=n % 128:=Int.tmod_eq_emod_of_nonneg (by omega)
 refine ⟨by rw [e1,w64_id (by omega) (by omega)],?_,?_⟩
 ·rw [e2,w64_id (by omega) (by omega),w8_id (by omega) (by omega)];omega
 ·rw [e2,w64_id (by omega) (by omega),w8_id (by omega) (by omega)]
theorem Uf {n:Int} (h:n≤9223372036854775807):SY n=some (ofBytes (IK n)):=by
 have key:∀ (n:Int) (m:Nat) (out:List Int),n≤9223372036854775807→(IK n).length≤m→out.length+(IK n).length≤1000→Ht m (.c0 n out)=some (ofBytes (out++IK n)):=by
  intro n
  induction n using IK.induct with
  | case1 n hn ih=>
   intro m out h1 h2 h3
   rw [IK,if_pos hn] at h2 h3 ⊢
   simp only [List.length_cons] at h2 h3
   obtain ⟨m,rfl⟩:∃ k,m=k+1:=⟨m - 1,by omega⟩
   obtain ⟨e1,e2,_⟩:=QAV hn h1
   simp only [Ht,O7,e1,e2]
   rw [show decide (n > 127)=true from decide_eq_true hn,show decide ((out.length+1)*1≤140737488355328)=true from decide_eq_true (by omega)]
   simp only [cond_true]
   rw [ih m _ (by omega) (by omega) (by simp;omega)]
   simp
  | case2 n hn=>
   intro m out h1 h2 h3
   rw [IK,if_neg hn] at h2 h3 ⊢
   simp at h2 h3
   obtain ⟨m,rfl⟩:∃ k,m=k+1:=⟨m - 1,by omega⟩
   simp only [Ht,O7]
   rw [show decide (n > 127)=false from decide_eq_false hn,show decide ((out.length+1)*1≤140737488355328)=true from decide_eq_true (by omega)]
   rfl
 have hl:=GZ h
 exact key n gas [] h (Nat.le_of_lt (gas_lt (by omega))) (by simp;omega)
def FY (x:SThing):Bool:=FN x.fId 1 1000 && FN x.fKind 1 3 && FN x.fNext 0 16 && ((x.fKind == 2) || ((x.fNext == 0) && !x.fSigns)) && ((x.fKind == 1) || !x.fWraps) && (bif x.fKind == 3 then decide ((x.fValue.size:Int)≤100) else (x.fValue.size:Int) == 32)
theorem RAV (x:SThing):Me x=some (FY x):=by
 simp only [Me,QAG,Ob,Option.bind_some,FY,bne]
 cases FN x.fId 1 1000 <;> cases FN x.fKind 1 3 <;> cases FN x.fNext 0 16 <;> cases (x.fKind == 2) <;> cases (x.fKind == 1) <;> cases (x.fKind == 3) <;> cases (x.fNext == 0) <;> cases x.fSigns <;> cases x.fWraps <;> rfl
theorem Ud {x:SThing} (h:FY x=true):1≤x.fKind∧x.fKind≤3∧1≤x.fId∧x.fId≤1000∧0≤x.fNext∧x.fNext≤16∧x.fValue.size≤100:=by
 unfold FY at h
 simp only [Bool.and_eq_true] at h
 obtain ⟨⟨⟨⟨⟨h1,h2⟩,h3⟩,_⟩,_⟩,h4⟩:=h
 rw [SX] at h1 h2 h3
 refine ⟨h2.1,h2.2,h1.1,h1.2,h3.1,h3.2,?_⟩
 cases hk:x.fKind == 3
 ·rw [hk] at h4;simp at h4;omega
 ·rw [hk] at h4;simp at h4;omega
theorem UAj (b:Bool) (n:Int):P7 b n=some (bif b then n else 0):=by cases b <;> rfl
theorem RAM {n:Int} (h:0≤n) (h2:n≤255):Oe n=some (ofBytes [n]):=by
 have e:n.tmod 256=n:=by rw [Int.tmod_eq_emod_of_nonneg h];omega
 simp only [Oe,UAG,e]
 rw [show decide (n<0)=false from decide_eq_false (by omega),w8_id h h2]
 rfl
def Tc (s:ByteArray):ByteArray:=ofBytes (IK (s.size:Int))++s
theorem VAj {s:ByteArray} (h:s.size≤140737488351232):(Tc s).size≤s.size+10:=by
 unfold Tc;rw [ba_append_size,ofBytes_size];have:=GZ (n:=(s.size:Int)) (by omega);omega
theorem WAj {s:ByteArray} (h:s.size≤140737488351232):Ot s=some (Tc s):=by
 simp only [Ot,XAG,Uf (n:=(s.size:Int)) (by omega),Option.bind_some]
 have:=GZ (n:=(s.size:Int)) (by omega)
 rw [show decide ((ofBytes (IK (s.size:Int))).size+s.size≤9223372036854775807)=true from decide_eq_true (by rw [ofBytes_size];omega)]
 rfl
def TY (x:SThing):Int:=(bif x.fHidden then 1 else 0)+(bif x.fFixed then 2 else 0)+(bif x.fSigns then 4 else 0)+(bif x.fWraps then 8 else 0)
theorem Xz (x:SThing):0≤TY x∧TY x≤15:=by
 unfold TY;cases x.fHidden <;> cases x.fFixed <;> cases x.fSigns <;> cases x.fWraps <;> decide
theorem XAj (m:Nat) (a b c d:Bool):BAK (m+5) (.c0 0 4 0 [a,b,c,d])=some ((bif a then 1 else 0)+(bif b then 2 else 0)+(bif c then 4 else 0)+(bif d then 8 else 0)):=by
 cases a <;> cases b <;> cases c <;> cases d <;> kernel_rfl
theorem YAj (x:SThing):Gx x=some (TY x):=by
 obtain ⟨m,this⟩:∃ m,gas=m+5:=⟨gas - 5,rfl⟩
 unfold Gx AAK
 rw [this]
 exact XAj _ _ _ _ _
def Yd (x:SThing):ByteArray:=ofBytes (IK x.fId)++ofBytes [x.fKind]++ofBytes [TY x]++Tc x.fValue++ofBytes (IK x.fNext)
def CY (x:SThing):ByteArray×Bool:=bif FY x then (Yd x,true) else (⟨#[]⟩,false)
theorem SAM {x:SThing} (h:FY x=true):(ofBytes (IK x.fId)).size≤10∧(Tc x.fValue).size≤110∧(ofBytes (IK x.fNext)).size≤10:=by
 obtain ⟨_,_,_,h1,_,h2,h3⟩:=Ud h
 rw [ofBytes_size,ofBytes_size]
 have:=GZ (n:=x.fId) (by omega)
 have:=GZ (n:=x.fNext) (by omega)
 have:=VAj (s:=x.fValue) (by omega)
 omega
theorem SAV {x:SThing} (h:FY x=true):(Yd x).size≤200:=by
 obtain ⟨h1,h2,h3⟩:=SAM h
 unfold Yd
 simp only [ba_append_size]
 have e1:∀ n:Int,(ofBytes [n]).size=1:=fun n=>ofBytes_size _
 rw [e1,e1];omega
theorem TAM (x:SThing):Ji x=some (CY x):=by
 simp only [Ji,YAG,RAV,Option.bind_some,CY]
 cases h:FY x
 ·rfl
 ·obtain ⟨k1,k2,k3,k4,k5,k6,k7⟩:=Ud h
  obtain ⟨z1,z2,z3⟩:=SAM h
  have hf:=Xz x
  have e1:∀ n:Int,(ofBytes [n]).size=1:=fun n=>ofBytes_size _
  have ef:w64 (w64 (w64 ((bif x.fHidden then (1:Int) else 0)+(bif x.fFixed then 2 else 0))+(bif x.fSigns then 4 else 0))+(bif x.fWraps then 8 else 0))=TY x:=by
   unfold TY;cases x.fHidden <;> cases x.fFixed <;> cases x.fSigns <;> cases x.fWraps <;> rfl
  simp only [UAj,Option.bind_some,ef,Uf (n:=x.fId) (by omega),RAM (n:=x.fKind) (by omega) (by omega),RAM hf.1 (by omega),WAj (s:=x.fValue) (by omega),Uf (n:=x.fNext) (by omega),ba_append_size,e1]
  simp only [Bool.not_true,cond_false,cond_true]
  rw [show decide ((ofBytes (IK x.fId)).size+1≤9223372036854775807)=true from decide_eq_true (by omega),show decide ((ofBytes (IK x.fId)).size+1+1≤9223372036854775807)=true from decide_eq_true (by omega),
   show decide ((ofBytes (IK x.fId)).size+1+1+(Tc x.fValue).size≤9223372036854775807)=true from decide_eq_true (by omega),show decide ((ofBytes (IK x.fId)).size+1+1+(Tc x.fValue).size+(ofBytes (IK x.fNext)).size≤9223372036854775807)=true from decide_eq_true (by omega)]
  rfl
def JY (x:SThing):Bool:=(x.fId == 0) && ((x.fKind == 0) && ((x.fHidden == false) && ((x.fFixed == false) && ((x.fSigns == false) && ((x.fWraps == false) && (((ByteArray.toList x.fValue) == (ByteArray.toList (⟨#[]⟩:ByteArray))) && ((x.fNext == 0) && true)))))))
theorem TAV (x:SThing):((x.fId == 0) && ((x.fKind == 0) && ((x.fHidden == false) && ((x.fFixed == false) && ((x.fSigns == false) && ((x.fWraps == false) && (((ByteArray.toList x.fValue) == (ByteArray.toList (⟨#[]⟩:ByteArray))) && ((x.fNext == 0) && true))))))))=JY x:=rfl
def GY (s:ByteArray):Bool:=(ByteArray.toList s) == (ByteArray.toList (⟨#[]⟩:ByteArray))
theorem UAM (s:ByteArray):((ByteArray.toList s) == (ByteArray.toList (⟨#[]⟩:ByteArray)))=GY s:=rfl
def noT:ByteArray×Bool:=((⟨#[]⟩:ByteArray),false)
def TT (r:SRec):ByteArray×Bool:=
 bif r.fKind == 1 then (bif (r.fText.size:Int) == 32 && r.fNum == 0 && JY r.fThing then (ofBytes [1]++r.fText,true) else noT)
 else bif r.fKind == 2 then (bif GY r.fText && JY r.fThing && FN r.fNum 0 3 then (ofBytes [2]++ofBytes (IK r.fNum),true) else noT)
 else bif r.fKind == 3 then (bif (CY r.fThing).2 && GY r.fText && r.fNum == 0 then (ofBytes [3]++(CY r.fThing).1,true) else noT)
 else bif r.fKind == 4 then (bif GY r.fText && JY r.fThing && FN r.fNum 1 1000 then (ofBytes [4]++ofBytes (IK r.fNum),true) else noT)
 else noT
theorem QAB {n a b:Int} (hb:b≤1000) (h:FN n a b=true) (k:Int):(ofBytes [k]).size+(ofBytes (IK n)).size≤9223372036854775807:=by
 rw [SX] at h
 have:=GZ (n:=n) (by omega)
 rw [ofBytes_size,ofBytes_size];simp only [List.length_singleton];omega
theorem UAV {x:SThing} (h:(CY x).2=true) (k:Int):(ofBytes [k]).size+(CY x).1.size≤9223372036854775807:=by
 unfold CY at h ⊢
 cases ho:FY x
 ·rw [ho] at h;cases h
 ·have:=SAV ho
  rw [ofBytes_size];simp only [List.length_singleton,cond_true];omega
theorem Un (r:SRec):Qe r=some (TT r):=by
 have h1:(⟨#[1]⟩:ByteArray)=ofBytes [1]:=rfl
 have h2:(⟨#[2]⟩:ByteArray)=ofBytes [2]:=rfl
 have h3:(⟨#[3]⟩:ByteArray)=ofBytes [3]:=rfl
 have h4:(⟨#[4]⟩:ByteArray)=ofBytes [4]:=rfl
 simp only [Qe,AAH,Ob,TAM,Option.bind_some,TAV,h1,h2,h3,h4]
 simp only [UAM,TT]
 cases r.fKind == 1
 ·simp only [cond_false]
  cases r.fKind == 2
  ·simp only [cond_false]
   cases r.fKind == 3
   ·simp only [cond_false]
    cases r.fKind == 4
    ·rfl
    ·cases GY r.fText <;> cases JY r.fThing <;> (try rfl)
     cases h:FN r.fNum 1 1000
     ·rfl
     ·have h':=h
      rw [SX] at h'
      simp only [cond_true,Uf (n:=r.fNum) (by omega),Option.bind_some,Bool.and_self,decide_eq_true (QAB (by omega) h 4)]
   ·cases h:(CY r.fThing).2
    ·rfl
    ·cases GY r.fText <;> cases r.fNum == 0 <;> (try rfl)
     simp only [cond_true,Bool.and_self,decide_eq_true (UAV h 3)]
  ·cases GY r.fText <;> cases JY r.fThing <;> (try rfl)
   cases h:FN r.fNum 0 3
   ·rfl
   ·have h':=h
    rw [SX] at h'
    simp only [cond_true,Uf (n:=r.fNum) (by omega),Option.bind_some,Bool.and_self,decide_eq_true (QAB (by omega) h 2)]
 ·cases h:(r.fText.size:Int) == 32 <;> cases r.fNum == 0 <;> cases JY r.fThing <;> (try rfl)
  have h':r.fText.size=32:=by have:=beq_iff_eq.1 h;omega
  have e:(ofBytes [1]).size+r.fText.size≤9223372036854775807:=by rw [ofBytes_size];simp only [List.length_singleton];omega
  simp only [cond_true,Bool.and_self,decide_eq_true e]
def rise (last:Int):Int→List SThing→Bool
 | _,[]=>true
 | p,x::xs=>FY x && (!decide (x.fId > last) && (!decide (p≥x.fId) && rise last x.fId xs))
def Ja (l:List SThing):Nat→Int
 | 0=>0
 | i+1=>((l[i]?).map (·.fId)).getD 0
theorem EAM {l:List SThing} {i:Nat} (hi:i<l.length):Ja l (i+1)=l[i].fId:=by simp [Ja,hi]
theorem FAU {l:List SThing} {last:Int} {i:Nat} (hi:i<l.length):rise last (Ja l i) (l.drop i)=(FY l[i] && (!decide (l[i].fId > last) && (!decide (Ja l i≥l[i].fId) && rise last (Ja l (i+1)) (l.drop (i+1))))):=by
 rw [drop_at hi,rise,EAM hi]
def EZ (b:SBook):Bool:=(b.fWord.size:Int) == 32 && ((b.fChain.size:Int) == 32 && (FN b.fTries 0 3 && (decide ((b.fThings.length:Int)≤8) && (FN b.fLast 0 1000 && (FN b.fCount 0 10000 && rise b.fLast 0 b.fThings)))))
theorem ZAj {b:SBook} (hb:b.fThings.length≤140737488351232):∀ m i,i≤b.fThings.length→b.fThings.length - i<m→Oi m (.c0 i b)=some (rise b.fLast (Ja b.fThings i) (b.fThings.drop i)):=fun m i h1 h2=>
 loopN (A:=Unit) (n:=b.fThings.length) (Lp:=Oi) (st:=fun i _=>.c0 i b) (Inv:=fun _ _=>True) (out:=fun i _=>some (rise b.fLast (Ja b.fThings i) (b.fThings.drop i)))
  (fun m _ _=>by
   simp only [Oi,V7]
   rw [show decide ((b.fThings.length:Int)<(b.fThings.length:Int))=false from decide_eq_false (by omega),List.drop_of_length_le (Nat.le_refl _)]
   rfl)
  (fun m i _ hi _=>by
   have hw:w64 ((i:Int)+1)=((i+1:Nat):Int):=by rw [w64_id (by omega) (by omega)];rfl
   simp only [FAU hi]
   simp only [Oi,V7,Int.toNat_natCast,getD_at hi,RAV,Option.bind_some,hw]
   rw [show decide ((i:Int)<(b.fThings.length:Int))=true from decide_eq_true (by omega),show decide ((0:Int)≤(i:Int))=true from decide_eq_true (by omega)]
   simp only [Bool.and_self,cond_true]
   cases h1:FY b.fThings[i]
   ·exact .inl rfl
   ·cases h2:decide (b.fThings[i].fId > b.fLast)
    ·by_cases h0:i=0
     ·subst h0
      refine .inr ⟨(),rfl,trivial,?_⟩
      rw [show decide (Ja b.fThings 0≥b.fThings[0].fId)=false from decide_eq_false (by have:=(Ud h1).2.2.1;simp only [Ja];omega)]
      rfl
     ·obtain ⟨j,rfl⟩:∃ j,i=j+1:=⟨i - 1,by omega⟩
      have hj:w64 (((j+1:Nat):Int) - 1)=(j:Int):=by rw [w64_id (by omega) (by omega)];omega
      have hjl:j<b.fThings.length:=by omega
      rw [EAM hjl]
      simp only [hj,Int.toNat_natCast,getD_at hjl,Bool.not_true,Bool.not_false,cond_false,Bool.true_and]
      rw [show decide (((j+1:Nat):Int) > 0)=true from decide_eq_true (by omega),show decide ((0:Int)≤(j:Int))=true from decide_eq_true (by omega),show decide ((j:Int)<(b.fThings.length:Int))=true from decide_eq_true (by omega)]
      simp only [Bool.and_self,cond_true]
      cases h3:decide (b.fThings[j].fId≥b.fThings[j+1].fId)
      ·exact .inr ⟨(),rfl,trivial,rfl⟩
      ·exact .inl rfl
    ·exact .inl rfl) m i () h1 h2 trivial
theorem Wn {b:SBook} (hb:b.fThings.length≤140737488351232):Qi b=some (EZ b):=by
 have h0:Oi gas (.c0 0 b)=some (rise b.fLast 0 b.fThings):=ZAj hb gas 0 (Nat.zero_le _) (gas_lt (by omega))
 simp only [Qi,CAH,Ob,Option.bind_some,EZ,bne,h0]
 rw [show decide ((b.fThings.length:Int)≤8) = !decide ((b.fThings.length:Int) > 8) by rw [←decide_not];simp]
 cases (b.fWord.size:Int) == 32 <;> cases (b.fChain.size:Int) == 32 <;> cases FN b.fTries 0 3 <;> cases decide ((b.fThings.length:Int) > 8) <;> cases FN b.fLast 0 1000 <;> cases FN b.fCount 0 10000 <;> rfl
def WY (xs:List SThing) (t:Int):Option SThing:=xs.find? fun x=>x.fId == t
def Xn:SThing:=⟨0,0,false,false,false,false,⟨#[]⟩,0⟩
theorem VAV {b:SBook} {t:Int} (h:b.fThings.length≤140737488351232):Am b t=some (match WY b.fThings t with | some x=>(x,true) | none=>(Xn,false)):=by
 have key:∀ m i,i≤b.fThings.length→b.fThings.length - i<m→Zl m (.c0 t i b Xn)=some (match WY (b.fThings.drop i) t with | some x=>(x,true) | none=>(Xn,false)):=fun m i h1 h2=>
  loopN (A:=Unit) (n:=b.fThings.length) (Lp:=Zl) (st:=fun i _=>.c0 t i b Xn) (Inv:=fun _ _=>True) (out:=fun i _=>some (match WY (b.fThings.drop i) t with | some x=>(x,true) | none=>(Xn,false)))
   (fun m _ _=>by simp [Zl,Y7,WY,Xn])
   (fun m i _ hi _=>by
    have hw:w64 ((i:Int)+1)=((i+1:Nat):Int):=by rw [w64_id (by omega) (by omega)];rfl
    simp only [Zl,Y7,Int.toNat_natCast,getD_at hi,hw,drop_at hi,WY,List.find?_cons]
    cases hq:b.fThings[i].fId == t
    ·exact .inr ⟨(),by simp [hi],trivial,by simp⟩
    ·exact .inl (by simp [hi])) m i () h1 h2 trivial
 have h0:=key gas 0 (Nat.zero_le _) (gas_lt (by omega))
 exact h0
theorem DAB {r:SRec} (h:(TT r).2=true):(r.fKind=1∧r.fText.size=32)∨(r.fKind=2∧0≤r.fNum∧r.fNum≤3)∨(r.fKind=3∧FY r.fThing=true)∨(r.fKind=4∧1≤r.fNum∧r.fNum≤1000):=by
 rw [TT] at h
 by_cases h1:r.fKind=1
 ·rw [show (r.fKind == 1)=true by rw [beq_iff_eq];exact h1,cond_true] at h
  cases hc:((r.fText.size:Int) == 32 && r.fNum == 0 && JY r.fThing)
  ·rw [hc] at h;cases h
  ·rw [Bool.and_eq_true,Bool.and_eq_true,beq_iff_eq] at hc
   exact .inl ⟨h1,by omega⟩
 rw [show (r.fKind == 1)=false by rw [beq_eq_false_iff_ne];exact h1,cond_false] at h
 by_cases h2:r.fKind=2
 ·rw [show (r.fKind == 2)=true by rw [beq_iff_eq];exact h2,cond_true] at h
  cases hc:(GY r.fText && JY r.fThing && FN r.fNum 0 3)
  ·rw [hc] at h;cases h
  ·rw [Bool.and_eq_true,SX] at hc
   exact .inr (.inl ⟨h2,hc.2⟩)
 rw [show (r.fKind == 2)=false by rw [beq_eq_false_iff_ne];exact h2,cond_false] at h
 by_cases h3:r.fKind=3
 ·rw [show (r.fKind == 3)=true by rw [beq_iff_eq];exact h3,cond_true] at h
  cases hc:((CY r.fThing).2 && GY r.fText && r.fNum == 0)
  ·rw [hc] at h;cases h
  ·rw [Bool.and_eq_true,Bool.and_eq_true] at hc
   refine .inr (.inr (.inl ⟨h3,?_⟩))
   have h4:=hc.1.1
   rw [CY] at h4
   cases ho:FY r.fThing
   ·rw [ho] at h4;cases h4
   ·rfl
 rw [show (r.fKind == 3)=false by rw [beq_eq_false_iff_ne];exact h3,cond_false] at h
 by_cases h4:r.fKind=4
 ·rw [show (r.fKind == 4)=true by rw [beq_iff_eq];exact h4,cond_true] at h
  cases hc:(GY r.fText && JY r.fThing && FN r.fNum 1 1000)
  ·rw [hc] at h;cases h
  ·rw [Bool.and_eq_true,SX] at hc
   exact .inr (.inr (.inr ⟨h4,hc.2⟩))
 rw [show (r.fKind == 4)=false by rw [beq_eq_false_iff_ne];exact h4] at h
 cases h
theorem IAU (r:SRec):(TT r).1.size≤300:=by
 rw [TT]
 have one:∀ n:Int,(ofBytes [n]).size=1:=fun n=>by rw [ofBytes_size];rfl
 cases hk1:(r.fKind == 1)
 ·rw [cond_false]
  cases hk2:(r.fKind == 2)
  ·rw [cond_false]
   cases hk3:(r.fKind == 3)
   ·rw [cond_false]
    cases hk4:(r.fKind == 4)
    ·exact Nat.zero_le _
    ·rw [cond_true]
     cases hc:(GY r.fText && JY r.fThing && FN r.fNum 1 1000)
     ·exact Nat.zero_le _
     ·rw [Bool.and_eq_true,SX] at hc
      have:=GZ (n:=r.fNum) (by omega)
      rw [cond_true,ByteArray.size_append,one,ofBytes_size];omega
   ·rw [cond_true]
    cases hc:((CY r.fThing).2 && GY r.fText && r.fNum == 0)
    ·exact Nat.zero_le _
    ·rw [cond_true,ByteArray.size_append,one,CY]
     cases ho:FY r.fThing
     ·exact Nat.le_of_ble_eq_true rfl
     ·have:=SAV ho
      show 1+(Yd r.fThing).size≤300;omega
  ·rw [cond_true]
   cases hc:(GY r.fText && JY r.fThing && FN r.fNum 0 3)
   ·exact Nat.zero_le _
   ·rw [Bool.and_eq_true,SX] at hc
    have:=GZ (n:=r.fNum) (by omega)
    rw [cond_true,ByteArray.size_append,one,ofBytes_size];omega
 ·rw [cond_true]
  cases hc:((r.fText.size:Int) == 32 && r.fNum == 0 && JY r.fThing)
  ·exact Nat.zero_le _
  ·rw [Bool.and_eq_true,Bool.and_eq_true,beq_iff_eq] at hc
   rw [cond_true,ByteArray.size_append,one];omega
def IZ:List SThing→Int→Nat→Option Nat
 | [],_,_=>none
 | x::xs,t,i=>if x.fId == t then some i else IZ xs t (i+1)
theorem AAk (t:Int):∀ (xs:List SThing) (i:Nat),match IZ xs t i with | some j=>i≤j∧j<i+xs.length∧WY xs t=xs[j - i]? | none=>WY xs t=none:=by
 intro xs
 induction xs with
 | nil=>intro i;rfl
 | cons x xs ih=>
  intro i
  simp only [IZ,WY,List.find?_cons]
  cases hq:x.fId == t
  ·have:=ih (i+1)
   simp only [Bool.false_eq_true,if_false]
   split at this
   ·rename_i j hj
    obtain ⟨h1,h2,h3⟩:=this
    refine ⟨by omega,by simp;omega,?_⟩
    rw [show j - i=(j - (i+1))+1 by omega,List.getElem?_cons_succ]
    exact h3
   ·exact this
  ·simp
theorem HAU {b:SBook} {t:Int} (h:b.fThings.length≤140737488351232):Ym b t=some (match IZ b.fThings t 0 with | some j=>(j:Int) | none=> -1):=by
 have key:∀ m i,i≤b.fThings.length→b.fThings.length - i<m→Xm m (.c0 t b.fThings b.fThings.length i)=some (match IZ (b.fThings.drop i) t i with | some j=>(j:Int) | none=> -1):=fun m i h1 h2=>
  loopN (A:=Unit) (n:=b.fThings.length) (Lp:=Xm) (st:=fun i _=>.c0 t b.fThings b.fThings.length i) (Inv:=fun _ _=>True) (out:=fun i _=>some (match IZ (b.fThings.drop i) t i with | some j=>(j:Int) | none=> -1))
   (fun m _ _=>by simp [Xm,EAA,IZ])
   (fun m i _ hi _=>by
    have hw:w64 ((i:Int)+1)=((i+1:Nat):Int):=by rw [w64_id (by omega) (by omega)];rfl
    simp only [Xm,EAA,Int.toNat_natCast,getD_at hi,hw,drop_at hi,IZ]
    cases hq:b.fThings[i].fId == t
    ·exact .inr ⟨(),by simp [hi],trivial,by simp⟩
    ·exact .inl (by simp [hi])) m i () h1 h2 trivial
 have h0:=key gas 0 (Nat.zero_le _) (gas_lt (by omega))
 exact h0
theorem Jc {b:SBook}:EZ b=true↔b.fWord.size=32∧b.fChain.size=32∧(0≤b.fTries∧b.fTries≤3)∧b.fThings.length≤8∧(0≤b.fLast∧b.fLast≤1000)∧(0≤b.fCount∧b.fCount≤10000)∧rise b.fLast 0 b.fThings=true:=by
 simp only [EZ,Bool.and_eq_true,beq_iff_eq,SX,decide_eq_true_eq]
 exact ⟨fun ⟨h1,h2,h3,h4,h5,h6,h7⟩=>⟨by omega,by omega,h3,by omega,h5,h6,h7⟩,fun ⟨h1,h2,h3,h4,h5,h6,h7⟩=>⟨by omega,by omega,h3,by omega,h5,h6,h7⟩⟩
theorem Qb {last p:Int} {x:SThing} {xs:List SThing}:rise last p (x::xs)=true↔FY x=true∧x.fId≤last∧p<x.fId∧rise last x.fId xs=true:=by
 simp only [rise,Bool.and_eq_true,Bool.not_eq_true',decide_eq_false_iff_not]
 exact ⟨fun ⟨h1,h2,h3,h4⟩=>⟨h1,by omega,by omega,h4⟩,fun ⟨h1,h2,h3,h4⟩=>⟨h1,by omega,by omega,h4⟩⟩
theorem RAB {last:Int}:∀ {xs:List SThing} {p:Int},rise last p xs=true→∀ x ∈ xs,p<x.fId∧x.fId≤last∧FY x=true
 | [],_,_,x,hx=>by cases hx
 | y::ys,p,h,x,hx=>by
  obtain ⟨h1,h2,h3,h4⟩:=Qb.1 h
  rcases List.mem_cons.1 hx with rfl | hx
  ·exact ⟨h3,h2,h1⟩
  ·have:=RAB h4 x hx
   exact ⟨by omega,this.2.1,this.2.2⟩
theorem VAM {last last2:Int} (hl:last≤last2):∀ {xs:List SThing} {p p2:Int},p2≤p→rise last p xs=true→rise last2 p2 xs=true
 | [],_,_,_,_=>rfl
 | y::ys,p,p2,hp,h=>by
  obtain ⟨h1,h2,h3,h4⟩:=Qb.1 h
  exact Qb.2 ⟨h1,by omega,by omega,VAM hl (Int.le_refl _) h4⟩
def Uc (x:SThing) (ts:List SThing):List SThing:=ts.filter fun t=>decide (t.fId<x.fId)
def Xk (x:SThing) (ts:List SThing):List SThing:=ts.filter fun t=>decide (t.fId > x.fId)
def putAt (ts:List SThing) (x:SThing):List SThing:=Uc x ts++x::Xk x ts
def without (ts:List SThing) (id:Int):List SThing:=ts.filter fun t=>t.fId != id
theorem BAk {last:Int} {x:SThing}:∀ {xs:List SThing} {p:Int},x.fId≤p→rise last p xs=true→Uc x xs=[]∧Xk x xs=xs∧without xs x.fId=xs:=by
 intro xs p hp h
 have ha:=RAB h
 refine ⟨List.filter_eq_nil_iff.2 fun t ht=>?_,List.filter_eq_self.2 fun t ht=>?_,List.filter_eq_self.2 fun t ht=>?_⟩
 ·have:=ha t ht;rw [decide_eq_true_eq];omega
 ·have:=ha t ht;rw [decide_eq_true_eq];omega
 ·have:=ha t ht;rw [bne_iff_ne];omega
theorem WAV {id:Int}:∀ {xs:List SThing} {i j:Nat},IZ xs id i=some j→i≤j∧∃ x ∈ xs,x.fId=id:=by
 intro xs
 induction xs with
 | nil=>intro i j h;cases h
 | cons y ys ih=>
  intro i j h
  rw [IZ] at h
  split at h
  ·rename_i hy;cases h;exact ⟨Nat.le_refl _,y,List.mem_cons_self ..,beq_iff_eq.1 hy⟩
  ·obtain ⟨h1,x,h2,h3⟩:=ih h;exact ⟨by omega,x,List.mem_cons_of_mem _ h2,h3⟩
theorem GAM {last:Int} {x:SThing}:∀ {xs:List SThing} {p:Int} {i j:Nat},rise last p xs=true→IZ xs x.fId i=some j→xs.set (j - i) x=putAt xs x∧(xs.take (j - i)++xs.drop (j - i+1))=without xs x.fId:=by
 intro xs
 induction xs with
 | nil=>intro p i j _ h;cases h
 | cons y ys ih=>
  intro p i j hr h
  obtain ⟨h1,h2,h3,h4⟩:=Qb.1 hr
  rw [IZ] at h
  split at h
  ·rename_i hy
   have hy:=beq_iff_eq.1 hy
   cases h
   obtain ⟨f1,f2,f3⟩:=BAk (x:=x) (by omega) h4
   rw [Nat.sub_self]
   simp only [putAt,Uc,Xk,without,List.filter_cons] at f1 f2 f3 ⊢
   rw [decide_eq_false (by omega),decide_eq_false (by omega),show (y.fId != x.fId)=false by rw [bne_eq_false_iff_eq];exact hy]
   simp [f1,f2,f3]
  ·rename_i hy
   obtain ⟨h5,z,h6,h7⟩:=WAV h
   have h8:=RAB h4 z h6
   obtain ⟨i1,i2⟩:=ih h4 h
   have e:j - i=(j - (i+1))+1:=by omega
   rw [e,List.set_cons_succ,i1,List.take_succ_cons,List.drop_succ_cons,List.cons_append,i2]
   simp only [putAt,Uc,Xk,without,List.filter_cons]
   rw [decide_eq_true (by omega),decide_eq_false (by omega),show (y.fId != x.fId)=true by rw [bne_iff_ne];omega]
   simp
theorem CAk {last:Int} {x:SThing} {xs:List SThing} {p:Int} (h:rise last p xs=true) (hx:last<x.fId):putAt xs x=xs++[x]∧WY xs x.fId=none:=by
 have ha:=RAB h
 constructor
 ·rw [putAt,Uc,Xk,List.filter_eq_self.2 fun t ht=>by have:=ha t ht;rw [decide_eq_true_eq];omega,List.filter_eq_nil_iff.2 fun t ht=>by have:=ha t ht;rw [decide_eq_true_eq];omega]
 ·rw [WY,List.find?_eq_none]
  intro t ht
  have:=ha t ht
  rw [beq_iff_eq];omega
theorem DAk {last:Int} {x:SThing} (hx:FY x=true) (hl:last<x.fId):∀ {xs:List SThing} {p:Int},p<x.fId→rise last p xs=true→rise x.fId p (xs++[x])=true:=by
 intro xs
 induction xs with
 | nil=>intro p hp _;exact Qb.2 ⟨hx,Int.le_refl _,hp,rfl⟩
 | cons y ys ih=>
  intro p hp h
  obtain ⟨h1,h2,h3,h4⟩:=Qb.1 h
  exact Qb.2 ⟨h1,by omega,h3,ih (by omega) h4⟩
theorem EAk {last:Int} {x:SThing} (hx:FY x=true):∀ {xs:List SThing} {p:Int} {i j:Nat},rise last p xs=true→IZ xs x.fId i=some j→rise last p (xs.set (j - i) x)=true:=by
 intro xs
 induction xs with
 | nil=>intro p i j _ h;cases h
 | cons y ys ih=>
  intro p i j hr h
  obtain ⟨h1,h2,h3,h4⟩:=Qb.1 hr
  rw [IZ] at h
  split at h
  ·rename_i hy
   have hy:=beq_iff_eq.1 hy
   cases h
   rw [Nat.sub_self,List.set_cons_zero]
   exact Qb.2 ⟨hx,by omega,by omega,VAM (Int.le_refl _) (by omega) h4⟩
  ·have h5:=(WAV h).1
   have e:j - i=(j - (i+1))+1:=by omega
   rw [e,List.set_cons_succ]
   exact Qb.2 ⟨h1,h2,h3,ih h4 h⟩
theorem FAk {last:Int} (id:Int):∀ {xs:List SThing} {p:Int},rise last p xs=true→rise last p (without xs id)=true:=by
 intro xs
 induction xs with
 | nil=>intro p _;rfl
 | cons y ys ih=>
  intro p h
  obtain ⟨h1,h2,h3,h4⟩:=Qb.1 h
  rw [without,List.filter_cons]
  split
  ·exact Qb.2 ⟨h1,h2,h3,ih h4⟩
  ·exact VAM (Int.le_refl _) (by omega) (ih h4)
def grown (x y:SThing):Bool:=y.fKind == x.fKind && ((bs y.fValue == bs x.fValue) && (y.fSigns == x.fSigns && (y.fWraps == x.fWraps && (decide (x.fNext≤y.fNext) && ((y.fHidden || !x.fHidden) && (y.fFixed || !x.fFixed))))))
def Dn:SBook:=⟨⟨#[]⟩,0,[],0,⟨#[]⟩,0⟩
def Xj (b:SBook) (x:SThing):Option (List SThing×Int):=match WY b.fThings x.fId with
 | some old=>bif grown old x then some (putAt b.fThings x,b.fLast) else none
 | none=>bif x.fId != b.fLast+1 || decide ((b.fThings.length:Int)≥8) then none else some (b.fThings++[x],x.fId)
def LY (b:SBook) (r:SRec):SBook×Bool:=
 bif !(EZ b) || (!(TT r).2 || decide (b.fCount≥10000)) then (Dn,false)
 else bif r.fKind == 1 then (⟨r.fText,0,b.fThings,b.fLast,ZY (b.fChain++(TT r).1),b.fCount+1⟩,true)
 else bif r.fKind == 2 then (⟨b.fWord,r.fNum,b.fThings,b.fLast,ZY (b.fChain++(TT r).1),b.fCount+1⟩,true)
 else bif r.fKind == 3 then (match Xj b r.fThing with
  | some p=>(⟨b.fWord,b.fTries,p.1,p.2,ZY (b.fChain++(TT r).1),b.fCount+1⟩,true)
  | none=>(Dn,false))
 else (match WY b.fThings r.fNum with
  | some _=>(⟨b.fWord,b.fTries,without b.fThings r.fNum,b.fLast,ZY (b.fChain++(TT r).1),b.fCount+1⟩,true)
  | none=>(Dn,false))
theorem FAM {xs:List SThing} {id:Int}:(∃ x j,WY xs id=some x∧IZ xs id 0=some j∧j<xs.length∧xs[j]?=some x∧x.fId=id)∨(WY xs id=none∧IZ xs id 0=none):=by
 have h:=AAk id xs 0
 cases hp:IZ xs id 0 with
 | none=>rw [hp] at h;exact .inr ⟨h,rfl⟩
 | some j=>
  rw [hp] at h
  obtain ⟨_,h2,h3⟩:=h
  rw [Nat.sub_zero] at h3
  rw [Nat.zero_add] at h2
  refine .inl ⟨xs[j],j,?_,rfl,h2,List.getElem?_eq_getElem h2,?_⟩
  ·rw [h3,List.getElem?_eq_getElem h2]
  ·have h4:WY xs id=some xs[j]:=by rw [h3,List.getElem?_eq_getElem h2]
   have:=List.find?_some h4
   exact beq_iff_eq.1 this
theorem WAM {b:SBook} {r:SRec} (h:(LY b r).2=true):EZ b=true∧(TT r).2=true∧b.fCount<10000∧EZ (LY b r).1=true∧(LY b r).1.fCount=b.fCount+1∧(LY b r).1.fChain=ZY (b.fChain++(TT r).1):=by
 rw [LY] at h ⊢
 cases h1:EZ b
 ·rw [h1] at h;cases h
 cases h2:(TT r).2
 ·rw [h1,h2] at h;cases h
 by_cases h3:b.fCount≥10000
 ·rw [h1,h2,decide_eq_true h3] at h;cases h
 rw [h1,h2,decide_eq_false h3] at h
 rw [decide_eq_false h3]
 simp only [Bool.not_true,Bool.or_false,cond_false] at h ⊢
 obtain ⟨b1,b2,b3,b4,b5,b6,b7⟩:=Jc.1 h1
 refine ⟨trivial,trivial,by omega,?_⟩
 have hd:∀ s,(ZY s).size=32:=Rf
 rcases DAB h2 with ⟨hk,hz⟩ | ⟨hk,hz⟩ | ⟨hk,hz⟩ | ⟨hk,hz⟩
 ·rw [hk]
  exact ⟨Jc.2 ⟨hz,hd _,(by decide:(0:Int)≤0∧(0:Int)≤3),b4,b5,by show 0≤b.fCount+1∧b.fCount+1≤10000;omega,b7⟩,rfl,rfl⟩
 ·rw [hk]
  exact ⟨Jc.2 ⟨b1,hd _,hz,b4,b5,by show 0≤b.fCount+1∧b.fCount+1≤10000;omega,b7⟩,rfl,rfl⟩
 ·rw [hk] at h ⊢
  simp only [show ((3:Int) == 1)=false from rfl,show ((3:Int) == 2)=false from rfl,show ((3:Int) == 3)=true from rfl,cond_true,cond_false] at h ⊢
  rw [Xj] at h ⊢
  rcases FAM (xs:=b.fThings) (id:=r.fThing.fId) with ⟨x,j,t1,t2,t3,t4,t5⟩ | ⟨t1,t2⟩
  ·rw [t1] at h ⊢
   simp only at h ⊢
   cases hg:grown x r.fThing
   ·rw [hg] at h;cases h
   ·have e:=(GAM b7 t2).1
    rw [Nat.sub_zero] at e
    have hrs:=EAk hz b7 t2
    rw [Nat.sub_zero,e] at hrs
    exact ⟨Jc.2 ⟨b1,hd _,b3,by show (putAt b.fThings r.fThing).length≤8;rw [←e,List.length_set];exact b4,b5,by show 0≤b.fCount+1∧b.fCount+1≤10000;omega,hrs⟩,rfl,rfl⟩
  ·rw [t1] at h ⊢
   simp only at h ⊢
   cases hg:(r.fThing.fId != b.fLast+1 || decide ((b.fThings.length:Int)≥8))
   ·rw [Bool.or_eq_false_iff,bne_eq_false_iff_eq,decide_eq_false_iff_not] at hg
    have hid:r.fThing.fId≤1000:=by
     have:=hz
     simp only [FY,Bool.and_eq_true,SX] at this
     omega
    exact ⟨Jc.2 ⟨b1,hd _,b3,by show (b.fThings++[r.fThing]).length≤8;rw [List.length_append,List.length_singleton];omega,by show 0≤r.fThing.fId∧r.fThing.fId≤1000;omega,by show 0≤b.fCount+1∧b.fCount+1≤10000;omega,DAk hz (by omega) (by omega) b7⟩,rfl,rfl⟩
   ·rw [hg] at h;cases h
 ·rw [hk] at h ⊢
  simp only [show ((4:Int) == 1)=false from rfl,show ((4:Int) == 2)=false from rfl,show ((4:Int) == 3)=false from rfl,cond_false] at h ⊢
  cases ht:WY b.fThings r.fNum with
  | none=>rw [ht] at h;cases h
  | some x=>exact ⟨Jc.2 ⟨b1,hd _,b3,by show (without b.fThings r.fNum).length≤8;exact Nat.le_trans (List.length_filter_le ..) b4,b5,by show 0≤b.fCount+1∧b.fCount+1≤10000;omega,FAk _ b7⟩,rfl,rfl⟩
theorem Yj (a b:ByteArray):(a.toList == b.toList)=(bs a == bs b):=by
 rw [toList_inj,Bool.eq_iff_iff,decide_eq_true_eq,beq_iff_eq]
 exact ⟨fun h=>by rw [h],Aa⟩
theorem GAk (x y:SThing):Ri x y=some (grown x y):=by
 rw [Ri,DAH,grown,Yj,show (bs x.fValue == bs y.fValue)=(bs y.fValue == bs x.fValue) by rw [Bool.eq_iff_iff,beq_iff_eq,beq_iff_eq];exact ⟨Eq.symm,Eq.symm⟩,
  show (x.fKind == y.fKind)=(y.fKind == x.fKind) by rw [Bool.eq_iff_iff,beq_iff_eq,beq_iff_eq];exact ⟨Eq.symm,Eq.symm⟩]
 cases (y.fKind == x.fKind) <;> cases (bs y.fValue == bs x.fValue) <;> cases y.fSigns <;> cases x.fSigns <;> cases y.fWraps <;> cases x.fWraps <;> cases decide (x.fNext≤y.fNext) <;> cases y.fHidden <;> cases x.fHidden <;> cases y.fFixed <;> cases x.fFixed <;> rfl
theorem XAM {f:SThing→Bool} {l:List SThing} {i:Nat} (h:i<l.length):(l.take (i+1)).filter f=(l.take i).filter f++(bif f l[i] then [l[i]] else []):=by
 rw [take_at h,List.filter_append]
 congr 1
theorem XAV {l:List SThing} {x:SThing} (hl:l.length≤1000000000):Si l x=some (putAt l x):=by
 have k1:∀ (j i m:Nat),i+j=l.length→Ue (m+j) (.c1 l (i:Int) x (Uc x l++[x]++(l.take i).filter (fun t=>decide (t.fId > x.fId))))=Ue m (.c1 l (l.length:Int) x (Uc x l++[x]++Xk x l)):=by
  intro j
  induction j with
  | zero=>(intro i m h;obtain rfl:i=l.length:=by omega);rw [List.take_length];rfl
  | succ j ih=>
   intro i m h
   have hi:i<l.length:=by omega
   have e:w64 ((i:Int)+1)=((i+1:Nat):Int):=by rw [w64_id (by omega) (by omega)];rfl
   have h2:=ih (i+1) m (by omega)
   rw [XAM hi] at h2
   have hf1:(Uc x l).length≤l.length:=List.length_filter_le ..
   have hf2:((l.take i).filter (fun t=>decide (t.fId > x.fId))).length≤i:=Nat.le_trans (List.length_filter_le ..) (by simp;omega)
   rw [show m+(j+1)=(m+j)+1 by omega,Ue]
   simp only [Cm,e,Int.toNat_natCast,getD_at hi]
   rw [TB (by simp;omega),TB (by simp;omega)]
   by_cases h3:l[i].fId > x.fId
   ·rw [decide_eq_true h3] at h2 ⊢
    rw [cond_true,TB (by simp;omega),TB (by simp only [List.length_append,List.length_singleton,decide_eq_true_eq];omega),←h2]
    simp
   ·rw [decide_eq_false h3] at h2 ⊢
    rw [cond_false,←h2]
    simp
 have k0:∀ (j i m:Nat),i+j=l.length→Ue (m+1+l.length+1+j) (.c0 l (i:Int) x ((l.take i).filter (fun t=>decide (t.fId<x.fId))))=some (putAt l x):=by
  intro j
  induction j with
  | zero=>
   intro i m h
   obtain rfl:i=l.length:=by omega
   have hf1:(Uc x l).length≤l.length:=List.length_filter_le ..
   rw [List.take_length,show l.filter (fun t=>decide (t.fId<x.fId))=Uc x l from rfl,Nat.add_zero,Ue]
   simp only [Cm]
   rw [NM (by simp),TB (by simp;omega)]
   have h2:=k1 l.length 0 (m+1) (by omega)
   rw [List.take_zero,List.filter_nil,List.append_nil,show ((0:Nat):Int)=0 from rfl] at h2
   rw [h2,Ue]
   simp only [Cm]
   rw [NM (by simp),putAt,List.append_assoc];rfl
  | succ j ih=>
   intro i m h
   have hi:i<l.length:=by omega
   have e:w64 ((i:Int)+1)=((i+1:Nat):Int):=by rw [w64_id (by omega) (by omega)];rfl
   have h2:=ih (i+1) m (by omega)
   rw [XAM hi] at h2
   have hf2:((l.take i).filter (fun t=>decide (t.fId<x.fId))).length≤i:=Nat.le_trans (List.length_filter_le ..) (by simp;omega)
   rw [show m+1+l.length+1+(j+1)=(m+1+l.length+1+j)+1 by omega,Ue]
   simp only [Cm,e,Int.toNat_natCast,getD_at hi]
   rw [TB (by simp;omega),TB (by simp;omega)]
   by_cases h3:l[i].fId<x.fId
   ·rw [decide_eq_true h3] at h2 ⊢
    rw [cond_true,TB (by simp;omega),TB (by simp only [decide_eq_true_eq];omega),←h2]
    simp
   ·rw [decide_eq_false h3] at h2 ⊢
    rw [cond_false,←h2]
    simp
 obtain ⟨m,hm⟩:∃ m,gas=m+1+l.length+1+l.length:=⟨gas - (2*l.length+2),by have:=gas_lt (n:=2*l.length+2) (by omega);omega⟩
 rw [Si,EAH,hm]
 have h:=k0 l.length 0 m (by omega)
 rw [List.take_zero,List.filter_nil] at h
 exact h
theorem HAk {b:SBook} {r:SRec} (hb:b.fThings.length≤140737488351232):Ti b r=some (LY b r):=by
 have hok:=@WAM b r
 rw [Ti,FAH,Un,Option.bind_some,Wn hb,Option.bind_some]
 rw [LY] at hok ⊢
 cases h1:EZ b
 ·rfl
 cases h2:(TT r).2
 ·rfl
 obtain ⟨b1,b2,b3,b4,b5,b6,b7⟩:=Jc.1 h1
 by_cases h3:b.fCount≥10000
 ·have h3':(b.fCount == 10000)=true:=by rw [beq_iff_eq];omega
  simp only [decide_eq_true h3,h3',Bool.not_true,Bool.or_true,Bool.false_or,cond_false,cond_true]
  rfl
 have hz:=IAU r
 have hw:w64 (b.fCount+1)=b.fCount+1:=w64_id (by omega) (by omega)
 have hdig:=Vz (s:=b.fChain++(TT r).1) (by rw [ByteArray.size_append];omega)
 have hsz:decide (b.fChain.size+(TT r).1.size≤9223372036854775807)=true:=by rw [decide_eq_true_eq];omega
 have h3':(b.fCount == 10000)=false:=by rw [beq_eq_false_iff_ne];omega
 rw [h1,h2,decide_eq_false h3] at hok
 simp only [Bool.not_true,Bool.or_self,cond_false] at hok
 simp only [decide_eq_false h3,h3',Bool.not_true,Bool.or_self,cond_false,OAV (show b.fThings.length≤2932031007317 by omega),hdig,hsz,hw,Option.bind_some,cond_true]
 rcases DAB h2 with ⟨hk,hc⟩ | ⟨hk,hc⟩ | ⟨hk,hc⟩ | ⟨hk,hc⟩
 ·rw [hk] at hok ⊢
  simp only [show ((1:Int) == 1)=true from rfl,cond_true] at hok ⊢
  have h5:=(hok trivial).2.2.2.1
  rw [Wn (by simp only;omega),Option.bind_some,h5];rfl
 ·rw [hk] at hok ⊢
  simp only [show ((2:Int) == 1)=false from rfl,show ((2:Int) == 2)=true from rfl,cond_true,cond_false] at hok ⊢
  have h5:=(hok trivial).2.2.2.1
  rw [Wn (by simp only;omega),Option.bind_some,h5];rfl
 ·rw [hk] at hok ⊢
  simp only [show ((3:Int) == 1)=false from rfl,show ((3:Int) == 2)=false from rfl,show ((3:Int) == 3)=true from rfl,cond_true,cond_false] at hok ⊢
  have hid:=(Ud hc)
  have hpl:(putAt b.fThings r.fThing).length≤1000:=by
   have f1:(Uc r.fThing b.fThings).length≤b.fThings.length:=List.length_filter_le ..
   have f2:(Xk r.fThing b.fThings).length≤b.fThings.length:=List.length_filter_le ..
   rw [putAt,List.length_append,List.length_cons];omega
  rw [VAV hb,Option.bind_some]
  rw [Xj] at hok ⊢
  cases ht:WY b.fThings r.fThing.fId with
  | some o=>
   rw [ht] at hok
   simp only [cond_true,GAk,Option.bind_some,Bool.not_true,cond_false,XAV (show b.fThings.length≤1000000000 by omega)] at hok ⊢
   cases hg:grown o r.fThing
   ·rfl
   ·rw [hg] at hok
    simp only [cond_true] at hok
    have h5:=(hok trivial).2.2.2.1
    simp only [Bool.not_true,cond_false,cond_true]
    rw [Wn (by simp only;omega),Option.bind_some,h5];rfl
  | none=>
   rw [ht] at hok
   have hw2:w64 (b.fLast+1)=b.fLast+1:=w64_id (by omega) (by omega)
   simp only [cond_false,Bool.not_false,cond_true,hw2,XAV (show b.fThings.length≤1000000000 by omega),Option.bind_some] at hok ⊢
   cases hg:(r.fThing.fId != b.fLast+1)
   ·rw [hg] at hok
    rw [bne_eq_false_iff_eq] at hg
    have hpn:=(CAk b7 (show b.fLast<r.fThing.fId by omega)).1
    by_cases h8:(b.fThings.length:Int)≥8
    ·rw [decide_eq_true h8,cond_false,TB (by rw [beq_iff_eq];omega)];rfl
    ·rw [decide_eq_false h8] at hok ⊢
     simp only [Bool.or_false,cond_false] at hok
     have h5:=(hok trivial).2.2.2.1
     rw [hpn] at hpl ⊢
     rw [cond_false,NM (by rw [beq_eq_false_iff_ne];omega),Wn (by simp only;omega),Option.bind_some,h5];rfl
   ·rfl
 ·rw [hk] at hok ⊢
  simp only [show ((4:Int) == 1)=false from rfl,show ((4:Int) == 2)=false from rfl,show ((4:Int) == 3)=false from rfl,show ((4:Int) == 4)=true from rfl,cond_true,cond_false] at hok ⊢
  rw [VAV hb,Option.bind_some]
  cases ht:WY b.fThings r.fNum with
  | none=>rfl
  | some o=>
   rw [ht] at hok
   simp only [Bool.not_true,cond_false] at hok ⊢
   have h5:=(hok trivial).2.2.2.1
   have key:∀ (j i m:Nat),i+j=b.fThings.length→Yt (m+j+1) (.c0 (TT r).1 (i:Int) b r ⟨#[]⟩ 0 0 ⟨#[]⟩ 0 b.fWord b.fTries b.fLast b.fChain b.fCount ((b.fThings.take i).filter (fun t=>t.fId != r.fNum)) [] b.fThings)=some (⟨b.fWord,b.fTries,without b.fThings r.fNum,b.fLast,ZY (b.fChain++(TT r).1),b.fCount+1⟩,true):=by
    intro j
    induction j with
    | zero=>
     intro i m hi
     obtain rfl:i=b.fThings.length:=by omega
     have hf1:(without b.fThings r.fNum).length≤b.fThings.length:=List.length_filter_le ..
     rw [List.take_length,show b.fThings.filter (fun t=>t.fId != r.fNum)=without b.fThings r.fNum from rfl,Yt]
     simp only [E8,hdig,hsz,hw,Option.bind_some,cond_true]
     rw [NM (by simp),Wn (by simp only;omega),Option.bind_some,h5];rfl
    | succ j ih=>
     intro i m hi
     have hil:i<b.fThings.length:=by omega
     have e:w64 ((i:Int)+1)=((i+1:Nat):Int):=by rw [w64_id (by omega) (by omega)];rfl
     have h6:=ih (i+1) m (by omega)
     rw [XAM hil] at h6
     have hf2:((b.fThings.take i).filter (fun t=>t.fId != r.fNum)).length≤i:=Nat.le_trans (List.length_filter_le ..) (by simp;omega)
     rw [show m+(j+1)+1=(m+j+1)+1 by omega,Yt]
     simp only [E8,e,Int.toNat_natCast,getD_at hil]
     rw [TB (by simp;omega),TB (by simp;omega)]
     cases h7:(b.fThings[i].fId != r.fNum)
     ·rw [h7] at h6
      rw [cond_false,←h6];simp
     ·rw [h7] at h6
      rw [cond_true,TB (by simp;omega),TB (by simp only [decide_eq_true_eq];omega),←h6];simp
   obtain ⟨m,hm⟩:∃ m,gas=m+b.fThings.length+1:=⟨gas - (b.fThings.length+1),by have:=gas_lt (n:=b.fThings.length+1) (by omega);omega⟩
   have h0:=key b.fThings.length 0 m (by omega)
   rw [List.take_zero,List.filter_nil] at h0
   rw [hm]
   exact h0
def IY (b:SBook):List SRec→SBook×Bool
 | []=>(b,true)
 | r::rs=>bif (LY b r).2 then IY (LY b r).1 rs else (Dn,false)
theorem FAB {b:SBook} {r:SRec} (h:(LY b r).2=true):(LY b r).1.fThings.length≤8:=(Jc.1 (WAM h).2.2.2.1).2.2.2.1
theorem PAn {rs:List SRec}:∀ {b:SBook},EZ b=true→(IY b rs).2=true→EZ (IY b rs).1=true:=by
 induction rs with
 | nil=>intro b h _;exact h
 | cons r rs ih=>
  intro b h h2
  rw [IY] at h2 ⊢
  cases h3:(LY b r).2
  ·rw [h3] at h2;cases h2
  ·rw [h3,cond_true] at h2
   rw [cond_true]
   exact ih (WAM h3).2.2.2.1 h2
theorem BAU {b:SBook} {l:List SRec} (hb:b.fThings.length≤2932031007317) (hl:l.length≤140737488351232):Ui b l=some (IY b l):=by
 have key:∀ (j i m:Nat) (b:SBook),i+j=l.length→b.fThings.length≤2932031007317→Au (m+j+1) (.c0 l (i:Int) ⟨#[]⟩ 0 0 ⟨#[]⟩ 0 b.fWord b.fTries b.fLast b.fChain b.fCount [] b.fThings)=some (IY b (l.drop i)):=by
  intro j
  induction j with
  | zero=>
   intro i m b h hb
   obtain rfl:i=l.length:=by omega
   rw [Au]
   simp only [G8]
   rw [NM (by simp),List.drop_length];rfl
  | succ j ih=>
   intro i m b h hb
   have hi:i<l.length:=by omega
   have e:w64 ((i:Int)+1)=((i+1:Nat):Int):=by rw [w64_id (by omega) (by omega)];rfl
   rw [show m+(j+1)+1=(m+j+1)+1 by omega,Au]
   simp only [G8,e,Int.toNat_natCast,getD_at hi]
   rw [TB (by simp;omega),TB (by simp;omega),HAk (by show b.fThings.length≤_;omega),Option.bind_some,drop_at hi,IY]
   cases h2:(LY b l[i]).2
   ·rfl
   ·have h3:=FAB h2
    rw [NM (by rfl),cond_true]
    exact ih (i+1) m (LY b l[i]).1 (by omega) (by omega)
 obtain ⟨m,hm⟩:∃ m,gas=m+l.length+1:=⟨gas - (l.length+1),by have:=gas_lt (n:=l.length+1) (by omega);omega⟩
 rw [Ui,GAH,OAV hb,Option.bind_some,hm]
 exact key l.length 0 m b (by omega) hb
def En (x y:SThing):Bool:=(x.fId == y.fId) && ((x.fKind == y.fKind) && ((x.fHidden == y.fHidden) && ((x.fFixed == y.fFixed) && ((x.fSigns == y.fSigns) && ((x.fWraps == y.fWraps) && (((ByteArray.toList x.fValue) == (ByteArray.toList y.fValue)) && ((x.fNext == y.fNext) && true)))))))
theorem KAU (x y:SThing):((x.fId == y.fId) && ((x.fKind == y.fKind) && ((x.fHidden == y.fHidden) && ((x.fFixed == y.fFixed) && ((x.fSigns == y.fSigns) && ((x.fWraps == y.fWraps) && (((ByteArray.toList x.fValue) == (ByteArray.toList y.fValue)) && ((x.fNext == y.fNext) && true))))))))=En x y:=rfl
theorem IAk {x y:SThing}:En x y=true↔x=y:=by
 simp only [En,Bool.and_eq_true,beq_iff_eq]
 constructor
 ·rintro ⟨h1,h2,h3,h4,h5,h6,h7,h8,_⟩
  have h7':x.fValue=y.fValue:=by
   have:=toList_inj (s:=x.fValue) (t:=y.fValue)
   rw [h7] at this
   simpa using this
  cases x;cases y;simp_all
 ·rintro rfl;simp
def MZ:List SThing→List SThing→Bool
 | [],[]=>true
 | x::a,y::b=>En x y && MZ a b
 | _,_=>false
theorem YAM:∀ {a b:List SThing},MZ a b=true↔a=b
 | [],[]=>by simp [MZ]
 | x::a,y::b=>by simp [MZ,IAk,YAM]
 | [],_::_=>by simp [MZ]
 | _::_,[]=>by simp [MZ]
theorem LAU {a b:List SThing} (h:a.length≠b.length):MZ a b=false:=by
 cases h2:MZ a b
 ·rfl
 ·rw [YAM] at h2;subst h2;exact absurd rfl h
def Qg (a b:SBook):Bool:=(a.fWord.toList == b.fWord.toList) && ((a.fTries == b.fTries) && (MZ a.fThings b.fThings && ((a.fLast == b.fLast) && ((a.fChain.toList == b.fChain.toList) && (a.fCount == b.fCount)))))
theorem QAn {a b:SBook}:Qg a b=true↔a=b:=by
 simp only [Qg,Bool.and_eq_true,toList_inj,decide_eq_true_eq,beq_iff_eq,YAM]
 constructor
 ·rintro ⟨h1,h2,h3,h4,h5,h6⟩
  cases a;cases b;simp_all
 ·rintro rfl;simp
theorem PAf {a b:SBook} (h0:a.fThings.length≤140737488351232):Gu a b=some (Qg a b):=by
 rw [Gu,IAH,Qg]
 by_cases hl:a.fThings.length=b.fThings.length
 ·have key:∀ (j i m:Nat),i+j=a.fThings.length→Eu (m+j+1) (.c0 (i:Int) a b)=some (MZ (a.fThings.drop i) (b.fThings.drop i)):=by
   intro j
   induction j with
   | zero=>
    intro i m h
    obtain rfl:i=a.fThings.length:=by omega
    rw [Eu]
    simp only [H8]
    rw [NM (by simp),List.drop_length,hl,List.drop_length];rfl
   | succ j ih=>
    intro i m h
    have hi:i<a.fThings.length:=by omega
    have hi2:i<b.fThings.length:=by omega
    have e:w64 ((i:Int)+1)=((i+1:Nat):Int):=by rw [w64_id (by omega) (by omega)];rfl
    rw [show m+(j+1)+1=(m+j+1)+1 by omega,Eu]
    simp only [H8,e,Int.toNat_natCast,getD_at hi,getD_at hi2,KAU,ih (i+1) m (by omega)]
    rw [TB (by simp;omega),TB (by simp;omega),TB (by simp;omega),drop_at hi,drop_at hi2,MZ]
    cases En a.fThings[i] b.fThings[i] <;> rfl
  obtain ⟨m,hm⟩:∃ m,gas=m+a.fThings.length+1:=⟨gas - (a.fThings.length+1),by have:=gas_lt (n:=a.fThings.length+1) (by omega);omega⟩
  have hz:=key a.fThings.length 0 m (by omega)
  rw [List.drop_zero,List.drop_zero,show ((0:Nat):Int)=0 from rfl] at hz
  have h1:((a.fThings.length:Int) != (b.fThings.length:Int))=false:=by rw [bne_eq_false_iff_eq];omega
  rw [h1,hm,hz]
  simp only [bne]
  cases a.fWord.toList == b.fWord.toList <;> cases a.fTries == b.fTries <;> cases MZ a.fThings b.fThings <;> cases a.fLast == b.fLast <;> cases a.fChain.toList == b.fChain.toList <;> cases a.fCount == b.fCount <;> rfl
 ·have h1:((a.fThings.length:Int) != (b.fThings.length:Int))=true:=by rw [bne_iff_ne];omega
  rw [h1,LAU hl]
  simp only [bne]
  cases a.fWord.toList == b.fWord.toList <;> cases a.fTries == b.fTries <;> cases a.fLast == b.fLast <;> cases a.fChain.toList == b.fChain.toList <;> cases a.fCount == b.fCount <;> rfl
theorem JAk (s:ByteArray):Wi s=some (FN (s.size:Int) 1 8):=by
 rw [Wi,JAH,Ob];rfl
def fOk (f:SFile):Bool:=FN (f.fName.size:Int) 1 8 && (!decide ((f.fText.size:Int) > 20000) && FN f.fKept 0 (f.fText.size:Int))
def Vg:ByteArray→List SFile→Bool
 | _,[]=>true
 | p,f::fs=>fOk f && (Op.bytesLess p.toList f.fName.toList && Vg f.fName fs)
def Gf (l:List SFile):Nat→ByteArray
 | 0=>⟨#[]⟩
 | i+1=>((l[i]?).map (·.fName)).getD ⟨#[]⟩
theorem JAM {l:List SFile} {i:Nat} (hi:i<l.length):Gf l (i+1)=l[i].fName:=by simp [Gf,hi]
theorem QAU {l:List SFile} {i:Nat} (hi:i<l.length):Vg (Gf l i) (l.drop i)=(fOk l[i] && (Op.bytesLess (Gf l i).toList l[i].fName.toList && Vg (Gf l (i+1)) (l.drop (i+1)))):=by
 rw [drop_at hi,Vg,JAM hi]
def Pg (d:SDisk):Bool:=decide ((d.fFiles.length:Int)≤30) && Vg ⟨#[]⟩ d.fFiles
theorem RAU {s:ByteArray} (h:1≤s.size):Op.bytesLess (⟨#[]⟩:ByteArray).toList s.toList=true:=by
 rw [ByteArray.toList_eq,ByteArray.toList_eq]
 obtain ⟨⟨l⟩⟩:=s
 cases l with
 | nil=>exact absurd h (Nat.not_succ_le_zero 0)
 | cons x l=>rfl
def Ib:List SFile→ByteArray→Nat→Option Nat
 | [],_,_=>none
 | f::fs,n,i=>if f.fName.toList == n.toList then some i else Ib fs n (i+1)
theorem AAM {n:ByteArray}:∀ {fs:List SFile} {i j:Nat},Ib fs n i=some j→i≤j∧j<i+fs.length:=by
 intro fs
 induction fs with
 | nil=>intro i j h;cases h
 | cons f fs ih=>
  intro i j h
  rw [Ib] at h
  rw [List.length_cons]
  split at h
  ·cases h;omega
  ·have:=ih h;omega
def Jb (d:SDisk) (n:ByteArray):Int:=match Ib d.fFiles n 0 with | some j=>(j:Int) | none=> -1
def YAT:SFile:=⟨⟨#[]⟩,⟨#[]⟩,0⟩
def CV (d:SDisk) (n:ByteArray):ByteArray×Bool:=match Ib d.fFiles n 0 with | some j=>((d.fFiles.getD j YAT).fText,true) | none=>(⟨#[]⟩,false)
theorem LAf (d:SDisk):Ju d=some (Pg d):=by
 rw [Ju,LAH,Pg]
 by_cases h0:(d.fFiles.length:Int)≤30
 ·rw [NM (by simp;omega),decide_eq_true h0,Bool.true_and]
  have key:∀ (j i m:Nat),i+j=d.fFiles.length→Iu (m+j+1) (.c0 (i:Int) d)=some (Vg (Gf d.fFiles i) (d.fFiles.drop i)):=by
   intro j
   induction j with
   | zero=>
    intro i m h
    obtain rfl:i=d.fFiles.length:=by omega
    rw [Iu]
    simp only [J8]
    rw [NM (by simp),List.drop_length];rfl
   | succ j ih=>
    intro i m h
    have hi:i<d.fFiles.length:=by omega
    have e:w64 ((i:Int)+1)=((i+1:Nat):Int):=by rw [w64_id (by omega) (by omega)];rfl
    have h2:=ih (i+1) m (by omega)
    rw [show m+(j+1)+1=(m+j+1)+1 by omega,Iu]
    simp only [J8,e,Int.toNat_natCast,getD_at hi,JAk,Ob,Option.bind_some]
    rw [TB (by simp;omega),TB (by simp;omega),QAU hi,fOk,h2]
    cases hn:FN (d.fFiles[i].fName.size:Int) 1 8
    ·rfl
    cases decide ((d.fFiles[i].fText.size:Int) > 20000)
    ·cases FN d.fFiles[i].fKept 0 (d.fFiles[i].fText.size:Int)
     ·rfl
     ·by_cases hz:i=0
      ·subst hz
       rw [SX] at hn
       rw [show Gf d.fFiles 0=⟨#[]⟩ from rfl,RAU (by omega)];rfl
      ·obtain ⟨i',rfl⟩:∃ q,i=q+1:=⟨i - 1,by omega⟩
       have e2:w64 (((i'+1:Nat):Int) - 1)=(i':Int):=by rw [w64_id (by omega) (by omega)];omega
       rw [e2,Int.toNat_natCast,getD_at (show i'<d.fFiles.length by omega),JAM (i:=i') (by omega),NM (by rfl),NM (by rfl),NM (by rfl),TB (by simp;try omega),TB (by simp;try omega)]
       cases Op.bytesLess d.fFiles[i'].fName.toList d.fFiles[i'+1].fName.toList <;> rfl
    ·rfl
  obtain ⟨m,hm⟩:∃ m,gas=m+d.fFiles.length+1:=⟨gas - (d.fFiles.length+1),by have:=gas_lt (n:=d.fFiles.length+1) (by omega);omega⟩
  rw [hm]
  exact key d.fFiles.length 0 m (by omega)
 ·rw [TB (by simp;omega),decide_eq_false h0];rfl
theorem CAU {d:SDisk} {n:ByteArray} (h0:d.fFiles.length≤140737488351232):Xi d n=some (Jb d n):=by
 have key:∀ (j i m:Nat),i+j=d.fFiles.length→Lu (m+j+1) (.c0 n (i:Int) d)=some (match Ib (d.fFiles.drop i) n i with | some j=>(j:Int) | none=> -1):=by
  intro j
  induction j with
  | zero=>
   intro i m h
   obtain rfl:i=d.fFiles.length:=by omega
   rw [Lu]
   simp only [N8]
   rw [NM (by simp),List.drop_length];rfl
  | succ j ih=>
   intro i m h
   have hi:i<d.fFiles.length:=by omega
   have e:w64 ((i:Int)+1)=((i+1:Nat):Int):=by rw [w64_id (by omega) (by omega)];rfl
   rw [show m+(j+1)+1=(m+j+1)+1 by omega,Lu]
   simp only [N8,e,Int.toNat_natCast,getD_at hi,ih (i+1) m (by omega)]
   rw [TB (by simp;omega),TB (by simp;omega),drop_at hi,Ib]
   cases d.fFiles[i].fName.toList == n.toList <;> rfl
 obtain ⟨m,hm⟩:∃ m,gas=m+d.fFiles.length+1:=⟨gas - (d.fFiles.length+1),by have:=gas_lt (n:=d.fFiles.length+1) (by omega);omega⟩
 rw [Xi,MAH,hm,Jb]
 exact key d.fFiles.length 0 m (by omega)
theorem MAf {d:SDisk} {n:ByteArray} (h0:d.fFiles.length≤140737488351232):Nu d n=some (CV d n):=by
 rw [Nu,OAH,CAU h0,Option.bind_some,Jb,CV]
 cases h:Ib d.fFiles n 0 with
 | none=>rfl
 | some j=>
  have:=AAM h
  simp only [Int.toNat_natCast]
  rw [NM (by simp),TB (by simp;omega)];rfl
def pw (k:Nat):Int:=128 ^ k
theorem Vf:pw 0=1:=rfl
theorem SAB (k:Nat):pw (k+1)=pw k*128:=Int.pow_succ ..
theorem Yk {k:Nat} (h:k<5):pw k=1∨pw k=128∨pw k=16384∨pw k=2097152∨pw k=268435456:=by
 rcases (by omega:k=0∨k=1∨k=2∨k=3∨k=4) with rfl | rfl | rfl | rfl | rfl
 ·exact .inl rfl
 ·exact .inr (.inl rfl)
 ·exact .inr (.inr (.inl rfl))
 ·exact .inr (.inr (.inr (.inl rfl)))
 ·exact .inr (.inr (.inr (.inr rfl)))
def Xc:Int×Int×Bool:=(0,0,false)
def RV (text:ByteArray) (a:Nat) (r:Int×Int×Bool):Prop:=r=Xc∨∃ v:Int,∃ q:Nat,r=(v,((q:Nat):Int),true)∧0≤v∧v≤1000000000∧a<q∧q≤text.size
def At (text:ByteArray) (p:Nat) (l:List Int):Prop:=∃ rest,(bs text).drop p=l++rest
theorem At.left {text:ByteArray} {p:Nat} {l m:List Int} (h:At text p (l++m)):At text p l:=by
 obtain ⟨r,hr⟩:=h;exact ⟨m++r,by rw [hr,List.append_assoc]⟩
theorem At.right {text:ByteArray} {p:Nat} {l m:List Int} (h:At text p (l++m)):At text (p+l.length) m:=by
 obtain ⟨r,hr⟩:=h;exact ⟨r,by rw [←List.drop_drop,hr,List.append_assoc,List.drop_left]⟩
theorem At.size {text:ByteArray} {p:Nat} {l:List Int} (h:At text p l):l=[]∨p+l.length≤text.size:=by
 obtain ⟨r,hr⟩:=h
 have:=congrArg List.length hr
 rw [List.length_drop,bs_len,List.length_append] at this
 cases l with
 | nil=>exact .inl rfl
 | cons x xs=>right;simp only [List.length_cons] at this ⊢;omega
theorem At.head {text:ByteArray} {p:Nat} {x:Int} {l:List Int} (h:At text p (x::l)):p<text.size∧bt text (p:Int)=x:=by
 have hs:p+(x::l).length≤text.size:=by rcases h.size with h | h;exact absurd h (by simp);exact h
 simp only [List.length_cons] at hs
 have hp:p<text.size:=by omega
 refine ⟨hp,?_⟩
 rw [MAB hp]
 obtain ⟨r,hr⟩:=h
 have hl:p<(bs text).length:=by rw [bs_len];exact hp
 rw [List.drop_eq_getElem_cons hl] at hr
 injection hr
theorem At.tail {text:ByteArray} {p:Nat} {x:Int} {l:List Int} (h:At text p (x::l)):At text (p+1) l:=At.right (l:=[x]) h
theorem At.extract {text:ByteArray} {p:Nat} {l:List Int} (h:At text p l) (hl:∀ n,n ∈ l→0≤n∧n≤255):text.extract p (p+l.length)=ofBytes l:=by
 apply Aa
 rw [BZ,SN hl]
 obtain ⟨r,hr⟩:=h
 rw [List.drop_take,hr]
 simp
theorem Yc:∀ (n:Int),0≤n→∀ x,x ∈ IK n→0≤x∧x≤255:=by
 intro n
 induction n using IK.induct with
 | case1 n hn ih=>
  intro h x hx
  rw [IK,if_pos hn] at hx
  rcases List.mem_cons.1 hx with rfl | hx
  ·omega
  ·exact ih (by omega) x hx
 | case2 n hn=>
  intro h x hx
  rw [IK,if_neg hn,w8_id h (by omega)] at hx
  rw [List.mem_singleton] at hx
  omega
theorem Yz {n:Int} (h:0≤n) (h2:n≤127):IK n=[n]:=by
 rw [IK,if_neg (by omega),w8_id h (by omega)]
theorem YAV {n:Int} (h:n≤1000000000):(IK n).length≤5:=by
 have:=PAV 5 n (by (have:(128:Int) ^ 5=34359738368:=by decide);omega)
 omega
theorem TAB {text:ByteArray} {a k m:Nat} {n s:Int} (hs:text.size≤140737488351232) (ha:a≤text.size) (hi:text.size≤a+k∨5≤k):Md (m+1) (.c0 text a n s ((a+k:Nat):Int))=some Xc:=by
 simp only [Md,O8]
 by_cases h:a+k<text.size
 ·rw [show decide (((a+k:Nat):Int)<(text.size:Int))=true from decide_eq_true (by omega),w64_id (n:=(a:Int)+5) (by omega) (by omega),show decide (((a+k:Nat):Int)<(a:Int)+5)=false from decide_eq_false (by omega)]
  rfl
 ·rw [show decide (((a+k:Nat):Int)<(text.size:Int))=false from decide_eq_false (by omega)]
  rfl
theorem Yg {k:Nat} {n b:Int} (hk:k<5) (h0:0≤n) (h1:n<pw k) (hb:0≤b∧b≤255) :
  (b<128→b.tmod 128=b∧w64 (b*pw k)=b*pw k∧w64 (n+b*pw k)=n+b*pw k∧0≤n+b*pw k∧n+b*pw k<pw (k+1))∧
  (¬ b<128→b.tmod 128=b - 128∧w64 ((b - 128)*pw k)=(b - 128)*pw k∧w64 (n+(b - 128)*pw k)=n+(b - 128)*pw k∧0≤n+(b - 128)*pw k∧n+(b - 128)*pw k<pw (k+1))∧w64 (pw k*128)=pw (k+1):=by
 rw [SAB]
 have e:b.tmod 128=b % 128:=Int.tmod_eq_emod_of_nonneg hb.1
 refine ⟨fun h=>?_,fun h=>?_,?_⟩
 ·have hc:0≤b*pw k∧b*pw k≤34091302912∧b*pw k≤127*pw k:=by rcases Yk hk with e | e | e | e | e <;> rw [e] <;> omega
  have hp:pw k≤268435456:=by rcases Yk hk with e | e | e | e | e <;> rw [e] <;> omega
  exact ⟨by rw [e];omega,w64_id (by omega) (by omega),w64_id (by omega) (by omega),by omega,by omega⟩
 ·have hc:0≤(b - 128)*pw k∧(b - 128)*pw k≤34091302912∧(b - 128)*pw k≤127*pw k:=by rcases Yk hk with e | e | e | e | e <;> rw [e] <;> omega
  have hp:pw k≤268435456:=by rcases Yk hk with e | e | e | e | e <;> rw [e] <;> omega
  exact ⟨by rw [e];omega,w64_id (by omega) (by omega),w64_id (by omega) (by omega),by omega,by omega⟩
 ·rcases Yk hk with e | e | e | e | e <;> rw [e,w64_id (by omega) (by omega)]
theorem UAB {text:ByteArray} {a k m:Nat} {n b:Int} (hs:text.size≤140737488351232) (hk:k<5) (hi:a+k<text.size) (h0:0≤n) (h1:n<pw k) (hb:bt text ((a+k:Nat):Int)=b) :
  Md (m+1) (.c0 text a n (pw k) ((a+k:Nat):Int))=if b<128 then (if n+b*pw k > 1000000000 then some Xc else if ofBytes (IK (n+b*pw k))=text.extract a (a+k+1) then some (n+b*pw k,((a+k+1:Nat):Int),true) else some Xc) else Md m (.c0 text a (n+(b - 128)*pw k) (pw (k+1)) ((a+k+1:Nat):Int)):=by
 have hb':=Hf text ((a+k:Nat):Int)
 rw [hb] at hb'
 obtain ⟨n1,n2,n3⟩:=Yg hk h0 h1 hb'
 have hw:w64 (((a+k:Nat):Int)+1)=((a+k+1:Nat):Int):=by rw [w64_id (by omega) (by omega)];omega
 simp only [Md,O8,hb,w64_id (n:=b) (by omega) (by omega),n3,hw,Int.toNat_natCast]
 rw [show decide (((a+k:Nat):Int)<(text.size:Int))=true from decide_eq_true (by omega),w64_id (n:=(a:Int)+5) (by omega) (by omega),show decide (((a+k:Nat):Int)<(a:Int)+5)=true from decide_eq_true (by omega),
  show decide ((0:Int)≤((a+k:Nat):Int))=true from decide_eq_true (by omega)]
 simp only [Bool.and_self,cond_true]
 by_cases h:b<128
 ·obtain ⟨e1,e2,e3,e4,_⟩:=n1 h
  rw [if_pos h,e1,e2,e3,show decide (b<128)=true from decide_eq_true h]
  by_cases h2:n+b*pw k > 1000000000
  ·rw [if_pos h2,show decide (n+b*pw k > 1000000000)=true from decide_eq_true h2];rfl
  ·rw [if_neg h2,show decide (n+b*pw k > 1000000000)=false from decide_eq_false h2,Uf (by omega)]
   simp only [cond_true,cond_false,Option.bind_some]
   rw [show decide ((0:Int)≤(a:Int))=true from decide_eq_true (by omega),show decide ((a:Int)≤((a+k+1:Nat):Int))=true from decide_eq_true (by omega),show decide (((a+k+1:Nat):Int)≤(text.size:Int))=true from decide_eq_true (by omega),toList_inj]
   by_cases h3:ofBytes (IK (n+b*pw k))=text.extract a (a+k+1)
   ·rw [if_pos h3,decide_eq_true h3];rfl
   ·rw [if_neg h3,decide_eq_false h3];rfl
 ·obtain ⟨e1,e2,e3,_,_⟩:=n2 h
  rw [if_neg h,e1,e2,e3,show decide (b<128)=false from decide_eq_false h]
  rfl
theorem KAk {text:ByteArray} {a:Nat} (hs:text.size≤140737488351232) (ha:a≤text.size):∀ j k m n,k+j=5→j<m→0≤n→n<pw k→∃ r,Md m (.c0 text a n (pw k) ((a+k:Nat):Int))=some r∧RV text a r:=by
 intro j
 induction j with
 | zero=>
  intro k m n hk hm _ _
  obtain ⟨m,rfl⟩:∃ q,m=q+1:=⟨m - 1,by omega⟩
  exact ⟨_,TAB hs ha (.inr (by omega)),.inl rfl⟩
 | succ j ih=>
  intro k m n hk hm h0 h1
  obtain ⟨m,rfl⟩:∃ q,m=q+1:=⟨m - 1,by omega⟩
  by_cases hi:a+k<text.size
  ·have hb:=Hf text ((a+k:Nat):Int)
   generalize hbe:bt text ((a+k:Nat):Int)=b at hb
   obtain ⟨n1,n2,_⟩:=Yg (b:=b) (by omega:k<5) h0 h1 hb
   rw [UAB hs (by omega) hi h0 h1 hbe]
   split
   ·rename_i h
    split
    ·exact ⟨_,rfl,.inl rfl⟩
    ·split
     ·exact ⟨_,rfl,.inr ⟨_,_,rfl,(n1 h).2.2.2.1,by omega,by omega,by omega⟩⟩
     ·exact ⟨_,rfl,.inl rfl⟩
   ·rename_i h
    obtain ⟨_,_,_,e4,e5⟩:=n2 h
    exact ih (k+1) m _ (by omega) (by omega) e4 e5
  ·exact ⟨_,TAB hs ha (.inl (by omega)),.inl rfl⟩
theorem LAk {text:ByteArray} {a:Nat} {V:Int} (hs:text.size≤140737488351232) (hV0:0≤V) (hV:V≤1000000000) (hA:At text a (IK V)):∀ U k m n,IK U=(IK V).drop k→0≤U→n+pw k*U=V→0≤n→n<pw k→5<m+k→Md m (.c0 text a n (pw k) ((a+k:Nat):Int))=some (V,((a+(IK V).length:Nat):Int),true):=by
 have h5:=YAV hV
 intro U
 induction U using IK.induct with
 | case1 U hU ih=>
  intro k m n e1 u0 e2 h0 h1 hm
  have hl:=congrArg List.length e1
  rw [List.length_drop] at hl
  have hp:=Nc U
  have hk:k<5:=by omega
  obtain ⟨m,rfl⟩:∃ q,m=q+1:=⟨m - 1,by omega⟩
  have hA':At text (a+k) (IK U):=by
   have:At text a ((IK V).take k++(IK V).drop k):=by rw [List.take_append_drop];exact hA
   have:=this.right
   rw [List.length_take,Nat.min_eq_left (by omega),←e1] at this
   exact this
  have e3:=e1
  rw [IK,if_pos hU] at hA' e3
  obtain ⟨hi,hb⟩:=hA'.head
  obtain ⟨n1,n2,_⟩:=Yg (b:=128+U % 128) hk h0 h1 (by omega)
  obtain ⟨_,_,_,e4,e5⟩:=n2 (by omega)
  rw [UAB hs hk hi h0 h1 hb,if_neg (by omega)]
  refine ih (k+1) m _ ?_ (by omega) ?_ e4 e5 (by omega)
  ·rw [←List.drop_drop,←e3];rfl
  ·rw [SAB]
   rcases Yk hk with e | e | e | e | e <;> rw [e] at e2 ⊢ <;> omega
 | case2 U hU=>
  intro k m n e1 u0 e2 h0 h1 hm
  have hl:=congrArg List.length e1
  rw [List.length_drop] at hl
  have hp:=Nc U
  have hk:k<5:=by omega
  obtain ⟨m,rfl⟩:∃ q,m=q+1:=⟨m - 1,by omega⟩
  have hA':At text (a+k) (IK U):=by
   have:At text a ((IK V).take k++(IK V).drop k):=by rw [List.take_append_drop];exact hA
   have:=this.right
   rw [List.length_take,Nat.min_eq_left (by omega),←e1] at this
   exact this
  rw [Yz u0 (by omega)] at hA' hl
  simp only [List.length_singleton] at hl
  obtain ⟨hi,hb⟩:=hA'.head
  have e3:n+U*pw k=V:=by rw [Int.mul_comm];exact e2
  have e4:a+k+1=a+(IK V).length:=by omega
  rw [UAB hs hk hi h0 h1 hb,if_pos (by omega),e3,if_neg (by omega),e4,if_pos (hA.extract (Yc V hV0)).symm]
theorem MAk {text:ByteArray} {a:Nat} (hs:text.size≤140737488351232) (ha:a≤text.size):∃ r,UZ text a=some r∧RV text a r:=by
 simp only [UZ,Ru,Ob,Option.bind_some]
 rw [show FN (a:Int) 0 (text.size:Int)=true from SX.2 ⟨by omega,by omega⟩]
 exact KAk hs ha 5 0 gas 0 rfl (gas_lt (by omega)) (by omega) (by rw [Vf];omega)
theorem ZAM {text:ByteArray} {a:Nat} {V:Int} (hs:text.size≤140737488351232) (hV0:0≤V) (hV:V≤1000000000) (hA:At text a (IK V)):UZ text a=some (V,((a+(IK V).length:Nat):Int),true):=by
 have ha:a+(IK V).length≤text.size:=by
  rcases hA.size with h | h
  ·have:=Nc V;rw [h] at this;simp at this
  ·exact h
 simp only [UZ,Ru,Ob,Option.bind_some]
 rw [show FN (a:Int) 0 (text.size:Int)=true from SX.2 ⟨by omega,by omega⟩]
 exact LAk hs hV0 hV hA V 0 gas 0 (by simp) hV0 (by rw [Vf];omega) (by omega) (by rw [Vf];omega) (by have:=gas_lt (n:=5) (by omega);omega)
def Ak (s:Int):Int:=if s % 2=1 then xr (s / 2) 3558460437 else s / 2
def Zj:Nat→Int→Int
 | 0,s=>s
 | n+1,s=>Zj n (Ak s)
def Pn (s:Int) (l:List Int):Int:=l.foldl (fun s b=>Zj 8 (xr s b)) s
theorem NAk {s:Int} (h:R32 s):R32 (Ak s):=by
 unfold Ak;split
 ·exact Gn _ _
 ·unfold R32 at *;omega
theorem ZAV:∀ (n:Nat) {s:Int},R32 s→R32 (Zj n s)
 | 0,_,h=>h
 | n+1,_,h=>ZAV n (NAk h)
theorem AAW:∀ (l:List Int) {s:Int},R32 s→R32 (Pn s l)
 | [],_,h=>h
 | b::l,s,_=>AAW l (ZAV 8 (Gn s b))
def XZ (l:List Int):Int:=Pn 4294967295 l
theorem Qn (l:List Int):R32 (XZ l):=AAW l (by unfold R32;omega)
theorem OAk (t:ByteArray) (i:Nat) (hi:i<t.size) (ht:t.size≤140737488351232):∀ (j k m:Nat) (s:Int),k+j=8→R32 s→Ve (m+j+1) (.c1 s t (i:Int) (k:Int))=Ve m (.c0 (Zj j s) t ((i+1:Nat):Int)):=by
 intro j
 induction j with
 | zero=>
  intro k m s hk hs
  have e:w64 ((i:Int)+1)=((i+1:Nat):Int):=by rw [w64_id (by omega) (by omega)];rfl
  rw [Ve]
  simp only [Em,e]
  rw [NM (by simp;omega)]
  rfl
 | succ j ih=>
  intro k m s hk hs
  have e:w64 ((k:Int)+1)=((k+1:Nat):Int):=by rw [w64_id (by omega) (by omega)];rfl
  have h2:w32 (s.tdiv 2)=s / 2:=by
   obtain ⟨h1,h2⟩:=hs
   rw [Int.tdiv_eq_ediv_of_nonneg h1,YZ (by omega) (by omega)]
  have h3:s.tmod 2=s % 2:=Int.tmod_eq_emod_of_nonneg hs.1
  rw [show m+(j+1)+1=(m+j+1)+1 by omega,Ve]
  simp only [Em,e,h2,h3,Lc]
  rw [TB (by simp;omega),Zj]
  by_cases h:s % 2=1
  ·rw [TB (by simp [h]),ih (k+1) m _ (by omega) (Gn _ _),Ak,if_pos h]
  ·rw [NM (by simp [h]),ih (k+1) m _ (by omega) (by unfold R32 at *;omega),Ak,if_neg h]
theorem PAk {t:ByteArray} {s:Int} (ht:t.size≤140737488351232):Vu s t=some (Pn s (bs t)):=by
 have hl:=bs_len t
 have key:∀ (j i m:Nat) (s:Int),i+j=t.size→Ve (m+10*j+1) (.c0 s t (i:Int))=some (Pn s ((bs t).drop i)):=by
  intro j
  induction j with
  | zero=>
   intro i m s h
   rw [Ve]
   simp only [Em]
   rw [NM (by simp;omega),List.drop_of_length_le (by omega)];rfl
  | succ j ih=>
   intro i m s h
   have hb:=FZ (Nb t) i
   rw [show m+10*(j+1)+1=(m+10*j+1)+8+1+1 by omega,Ve]
   simp only [Em,Lc]
   rw [TB (by simp;omega),TB (by simp;omega),Mc (by omega),YZ (by omega) (by omega)]
   have h1:=OAk t i (by omega) ht 8 0 (m+10*j+1) (xr s ((bs t).getD i 0)) (by omega) (Gn _ _)
   rw [show ((0:Nat):Int)=0 from rfl] at h1
   rw [h1,ih (i+1) m _ (by omega),drop_at (by omega:i<(bs t).length),getD_at (by omega)]
   rfl
 obtain ⟨m,hm⟩:∃ m,gas=m+10*t.size+1:=⟨gas - (10*t.size+1),by have:=gas_lt (n:=10*t.size+1) (by omega);omega⟩
 rw [Vu,RAH,hm]
 have:=key t.size 0 m s (by omega)
 rw [List.drop_zero] at this
 exact this
theorem QAk {t:ByteArray} (ht:t.size≤140737488351232):Wu t=some (XZ (bs t)):=by
 rw [Wu,TAH,PAk ht];rfl
theorem RAk {x:Int} (h:R32 x):Xu x=some (ofBytes (four x)):=by
 obtain ⟨h1,h2⟩:=h
 have e1:Int.fdiv x (2 ^ (Min.min (24:Int).toNat (IntKind.bits IntKind.u32)))=x / 16777216:=Int.fdiv_eq_ediv_of_nonneg _ (by decide)
 have e2:Int.fdiv x (2 ^ (Min.min (16:Int).toNat (IntKind.bits IntKind.u32)))=x / 65536:=Int.fdiv_eq_ediv_of_nonneg _ (by decide)
 have e3:Int.fdiv x (2 ^ (Min.min (8:Int).toNat (IntKind.bits IntKind.u32)))=x / 256:=Int.fdiv_eq_ediv_of_nonneg _ (by decide)
 simp only [Xu,VAH,e1,e2,e3,w8_mod,four]
 rw [show x / 16777216 % 256=x / 16777216 by omega]
def xb (x y:Int):Int:=w8 (((BitVec.toNat ((BitVec.ofInt (IntKind.bits IntKind.u8) x) ^^^ (BitVec.ofInt (IntKind.bits IntKind.u8) y))):Nat):Int)
theorem VAB (x y:Int):w8 (((BitVec.toNat ((BitVec.ofInt (IntKind.bits IntKind.u8) x) ^^^ (BitVec.ofInt (IntKind.bits IntKind.u8) y))):Nat):Int)=xb x y:=rfl
theorem BAW (x y:Int):0≤xb x y∧xb x y≤255:=by unfold xb;rw [w8_mod];omega
theorem SAk {x:Int} (h:0≤x∧x≤255) (y:Int):xb (xb x y) y=x:=by
 have e:∀ (a b:BitVec 8),BitVec.ofInt 8 (((a ^^^ b).toNat:Nat):Int) ^^^ b=a:=by
  intro a b
  rw [BitVec.ofInt_natCast,BitVec.ofNat_toNat,BitVec.setWidth_eq,BitVec.xor_assoc,BitVec.xor_self,BitVec.xor_zero]
 have h8:∀ (a b:BitVec 8),w8 (((a ^^^ b).toNat:Nat):Int)=(((a ^^^ b).toNat:Nat):Int):=fun a b=>by
  have:=(a ^^^ b).isLt;rw [w8_id (by omega) (by omega)]
 unfold xb
 show w8 (((BitVec.ofInt 8 (w8 (((BitVec.ofInt 8 x ^^^ BitVec.ofInt 8 y).toNat:Nat):Int)) ^^^ BitVec.ofInt 8 y).toNat:Nat):Int)=x
 rw [h8 (BitVec.ofInt 8 x),e,BitVec.toNat_ofInt,w8_mod]
 omega
def JZ (x:Int) (l:List Int):List Int:=l.map fun b=>xb b x
theorem WAB (x:Int) (l:List Int):(JZ x l).length=l.length:=by simp [JZ]
theorem XAB (x:Int) (l:List Int):VX (JZ x l):=fun n hn=>by
 simp only [JZ,List.mem_map] at hn
 obtain ⟨b,_,rfl⟩:=hn
 exact BAW _ _
def OY (k:List Int):List Int:=k++List.replicate (64 - k.length) 0
def Ad (k:List Int):List Int:=if 64<k.length then OY (La k) else OY k
theorem TAk (k:List Int):(Ad k).length=64:=by
 unfold Ad OY
 split
 ·rw [List.length_append,List.length_replicate,OAM]
 ·rw [List.length_append,List.length_replicate];omega
def Bd (k s:List Int):List Int:=La (JZ 92 (Ad k)++La (JZ 54 (Ad k)++s))
def Zd (k s:ByteArray):ByteArray:=ofBytes (Bd (bs k) (bs s))
theorem Yn (k s:List Int):(Bd k s).length=32:=OAM _
theorem Zz (k s:List Int):VX (Bd k s):=GAV _
theorem CAW (k s:ByteArray):bs (Zd k s)=Bd (bs k) (bs s):=SN (Zz _ _)
theorem DAW (k s:ByteArray):(Zd k s).size=32:=by rw [Zd,ofBytes_size,Yn]
theorem UAk {α:Type} (f:α→α) {l:List α} {i:Nat} (h:i<l.length):((l.take i).map f++l.drop i).set i (f l[i])=(l.take (i+1)).map f++l.drop (i+1):=by
 rw [drop_at h,Nk (by simp;omega),take_at h,List.map_append,List.append_assoc]
 rfl
theorem VAk {f:Int→Int} {l:List Int} {i:Nat} (h:i<l.length):((l.take i).map f++l.drop i).getD i 0=l[i]:=by
 rw [Rn (by simp;omega)]
 simp [List.getD,Nat.min_eq_left (Nat.le_of_lt h),h]
def Ae (k v:List Int):Nat→List Int
 | 0=>[]
 | i+1=>Ae k v i++Bd k (109::(v++[(i:Int)]))
theorem Xf (k v:List Int) (i:Nat):(Ae k v i).length=32*i:=by
 induction i with
 | zero=>rfl
 | succ i ih=>rw [Ae,List.length_append,ih,Yn];omega
theorem YAB (k v:List Int) (i:Nat):VX (Ae k v i):=by
 induction i with
 | zero=>intro n hn;cases hn
 | succ i ih=>
  intro n hn
  rcases List.mem_append.1 hn with hn | hn
  ·exact ih n hn
  ·exact Zz _ _ n hn
def UY (k v:List Int) (n:Nat):List Int:=(Ae k v ((n+31) / 32)).take n
theorem Ce (k v:List Int) (n:Nat):(UY k v n).length=n:=by rw [UY,List.length_take,Xf];omega
theorem AAN (k v:List Int) (n:Nat):VX (UY k v n):=fun x hx=>YAB _ _ _ x (List.mem_of_mem_take hx)
def maskOk (num:Int) (n:Int):Bool:=FN num 0 1000000000 && FN n 0 8000
def Zn (k:ByteArray) (num:Int) (n:Int):ByteArray×Bool:=bif maskOk num n then (ofBytes (UY (bs k) (IK num) n.toNat),true) else (⟨#[]⟩,false)
theorem Zk:∀ {n:Int},0≤n→VX (IK n):=by
 intro n
 induction n using IK.induct with
 | case1 n hn ih=>
  intro h x hx
  rw [IK,if_pos hn] at hx
  rcases List.mem_cons.1 hx with rfl | hx
  ·omega
  ·exact ih (by omega) x hx
 | case2 n hn=>
  intro h x hx
  rw [IK,if_neg hn] at hx
  rw [List.mem_singleton] at hx
  subst hx
  rw [w8_mod];omega
theorem EAW (k:ByteArray) {num:Int} (hn:0≤num) (hn2:num≤1000000000) (i:Nat) (hi:i≤255) :
  Zd k (((⟨#[109]⟩:ByteArray)++ofBytes (IK num))++ofBytes [(i:Int)])=ofBytes (Bd (bs k) (109::(IK num++[(i:Int)]))):=by
 have e:bs (⟨#[109]⟩:ByteArray)=[109]:=rfl
 rw [Zd,NY,NY,SN (Zk hn),e,SN (fun x hx=>by rw [List.mem_singleton] at hx;omega)]
 rfl
def EY (a b:List Int):List Int:=List.zipWith xb a b
theorem ZAB {a b:List Int} (h:a.length≤b.length):(EY a b).length=a.length:=by rw [EY,List.length_zipWith];omega
theorem FAW (a b:List Int):VX (EY a b):=by
 intro n hn
 rw [EY,List.mem_iff_getElem] at hn
 obtain ⟨i,hi,rfl⟩:=hn
 rw [List.getElem_zipWith]
 exact BAW _ _
theorem BAN {α:Type} (f:α→α→α):∀ (a b:List α),List.zipWith f a (b.take a.length)=List.zipWith f a b
 | [],_=>rfl
 | _::_,[]=>rfl
 | x::a,y::b=>by rw [List.length_cons,List.take_succ_cons,List.zipWith_cons_cons,List.zipWith_cons_cons,BAN f a b]
theorem GAW {a b:List Int} {i:Nat} (h:i<a.length) (h2:i<b.length):(List.zipWith xb (a.take i) (b.take i)++a.drop i).set i (xb a[i] (b.getD i 0))=List.zipWith xb (a.take (i+1)) (b.take (i+1))++a.drop (i+1):=by
 rw [drop_at h,Nk (by simp;omega),take_at h,take_at h2,getD_at h2,List.zipWith_append (by simp;omega),List.append_assoc]
 rfl
theorem HAW {a b:List Int} {i:Nat} (h:i<a.length) (h2:i<b.length):(List.zipWith xb (a.take i) (b.take i)++a.drop i).getD i 0=a[i]:=by
 rw [Rn (by simp;omega)]
 simp [List.getD,Nat.min_eq_left (Nat.le_of_lt h),Nat.min_eq_left (Nat.le_of_lt h2),h]
def OZ (k:List Int) (num:Int) (s:List Int):List Int:=(Bd k (116::(IK num++s))).take 16
theorem DAN (k:List Int) (num:Int) (s:List Int):(OZ k num s).length=16:=by rw [OZ,List.length_take,Yn];rfl
theorem O0 (k:List Int) (num:Int) (s:List Int):VX (OZ k num s):=fun x hx=>Zz _ _ x (List.mem_of_mem_take hx)
def Ba (k:List Int) (num:Int) (s:List Int):List Int:=EY s (UY k (IK num) s.length)++OZ k num (EY s (UY k (IK num) s.length))
def RAn (k:ByteArray) (num:Int) (s:ByteArray):ByteArray×Bool:=bif maskOk num s.size then (ofBytes (Ba (bs k) num (bs s)),true) else (⟨#[]⟩,false)
def QX (k:ByteArray) (num:Int) (t:ByteArray):ByteArray×Bool:=
 bif decide ((t.size:Int)<16) || !(maskOk num ((t.size:Int) - 16)) then (⟨#[]⟩,false)
 else bif OZ (bs k) num ((bs t).take (t.size - 16)) == (bs t).drop (t.size - 16) then (ofBytes (EY ((bs t).take (t.size - 16)) (UY (bs k) (IK num) (t.size - 16))),true)
 else (⟨#[]⟩,false)
theorem IAW {num n:Int}:maskOk num n=true↔(0≤num∧num≤1000000000)∧0≤n∧n≤8000:=by rw [maskOk,Bool.and_eq_true,SX,SX]
def Og (l:List Int):List Int:=IK (l.length:Int)++(four (XZ l)++l)
def frameT (t:ByteArray):ByteArray×Bool:=bif FN (t.size:Int) 1 9000 then (ofBytes (Og (bs t)),true) else (⟨#[]⟩,false)
theorem EAN {l:List Int} (h:VX l):VX (Og l):=by
 intro x hx
 rcases List.mem_append.1 hx with hx | hx
 ·exact Zk (by omega) x hx
 ·rcases List.mem_append.1 hx with hx | hx
  ·exact Dk (Qn l) x hx
  ·exact h x hx
theorem OAU (t:ByteArray):(ofBytes (IK (t.size:Int))++ofBytes (four (XZ (bs t))))++t=ofBytes (Og (bs t)):=by
 apply Aa
 rw [NY,NY,SN (Zk (by omega)),SN (Dk (Qn _)),SN (EAN (Nb t)),Og,bs_len,List.append_assoc]
theorem PAU {t:ByteArray} (h:t.size≤140737488351232):(frameT t).1.size≤t.size+14:=by
 rw [frameT]
 cases FN (t.size:Int) 1 9000
 ·exact Nat.zero_le _
 ·rw [cond_true,ofBytes_size,Og,List.length_append,List.length_append,bs_len]
  have:(four (XZ (bs t))).length=4:=rfl
  have:=GZ (n:=(t.size:Int)) (by omega)
  omega
theorem JAW {t:ByteArray} (h:t.size≤140737488351232):Yb t=some (frameT t):=by
 rw [Yb,WAH,Ob,Option.bind_some,frameT]
 cases h1:FN (t.size:Int) 1 9000
 ·rfl
 ·rw [SX] at h1
  have:=GZ (n:=(t.size:Int)) (by omega)
  rw [NM (by rfl),Uf (by omega),Option.bind_some,QAk h,Option.bind_some,RAk (Qn _),Option.bind_some,TB (by rw [ofBytes_size,ofBytes_size,decide_eq_true_eq];have:(four (XZ (bs t))).length=4:=rfl;omega)]
  rw [TB (by rw [ByteArray.size_append,ofBytes_size,ofBytes_size,decide_eq_true_eq];have:(four (XZ (bs t))).length=4:=rfl;omega),OAU,cond_true]
theorem Ic (x a b:Int):WX x a b=some (FN x a b):=by
 show (bif decide (a≤x) then some (decide (x≤b)) else some false)=some (FN x a b)
 unfold FN;cases decide (a≤x) <;> rfl
theorem WAk {k:Nat} (h:k<5):(2:Int) ^ (Min.min (w64 (7*(k:Int))).toNat (IntKind.bits IntKind.i64))=pw k∧w64 (7*(k:Int))=7*(k:Int):=by
 refine ⟨?_,w64_id (by omega) (by omega)⟩
 rcases (by omega:k=0∨k=1∨k=2∨k=3∨k=4) with rfl | rfl | rfl | rfl | rfl <;> kernel_rfl
theorem AAC {text:ByteArray} {a k m:Nat} {n:Int} (hs:text.size≤140737488351232) (ha:a≤text.size) (hk:k≤5) (hi:text.size≤a+k∨5≤k):Td (m+1) (.c0 text a n k)=some Xc:=by
 simp only [Td,LAA]
 by_cases h:k<5
 ·rw [show decide ((k:Int)<5)=true from decide_eq_true (by omega),w64_id (n:=(a:Int)+k) (by omega) (by omega),show decide ((a:Int)+k<(text.size:Int))=false from decide_eq_false (by omega)]
  rfl
 ·rw [show decide ((k:Int)<5)=false from decide_eq_false (by omega)]
  rfl
theorem BAC {text:ByteArray} {a k m:Nat} {n b:Int} (hs:text.size≤140737488351232) (hk:k<5) (hi:a+k<text.size) (h0:0≤n) (h1:n<pw k) (hb:bt text ((a+k:Nat):Int)=b) :
  Td (m+1) (.c0 text a n k)=if b<128 then (if b=0∧0<k∨n+b*pw k > 1000000000 then some Xc else some (n+b*pw k,((a+k+1:Nat):Int),true)) else Td m (.c0 text a (n+(b - 128)*pw k) ((k+1:Nat):Int)):=by
 have hb':=Hf text ((a+k:Nat):Int)
 rw [hb] at hb'
 obtain ⟨n1,n2,n3⟩:=Yg hk h0 h1 hb'
 obtain ⟨p1,p2⟩:=WAk hk
 rw [p2] at p1
 have ha:w64 ((a:Int)+(k:Int))=((a+k:Nat):Int):=by rw [w64_id (by omega) (by omega)];omega
 have hw:w64 (((a+k:Nat):Int)+1)=((a+k+1:Nat):Int):=by rw [w64_id (by omega) (by omega)];omega
 have hw2:w64 ((k:Int)+1)=((k+1:Nat):Int):=by rw [w64_id (by omega) (by omega)];omega
 simp only [Td,LAA,ha,hb,w64_id (n:=b) (by omega) (by omega),p2,p1,hw,hw2]
 rw [show decide (((a+k:Nat):Int)<(text.size:Int))=true from decide_eq_true (by omega),show decide ((k:Int)<5)=true from decide_eq_true (by omega),show decide ((0:Int)≤7*(k:Int))=true from decide_eq_true (by omega),
  show decide ((0:Int)≤((a+k:Nat):Int))=true from decide_eq_true (by omega)]
 simp only [Bool.and_self,cond_true]
 by_cases h:b<128
 ·obtain ⟨e1,e2,e3,e4,_⟩:=n1 h
  rw [if_pos h,e1,e2,e3,show decide (b<128)=true from decide_eq_true h]
  simp only [cond_true]
  by_cases hz:b=0
  ·rw [show (b == 0)=true from beq_iff_eq.2 hz]
   by_cases hk0:0<k
   ·rw [if_pos (.inl ⟨hz,hk0⟩),show decide ((k:Int) > 0)=true from decide_eq_true (by omega)];rfl
   ·rw [show decide ((k:Int) > 0)=false from decide_eq_false (by omega)]
    by_cases h2:n+b*pw k > 1000000000
    ·rw [if_pos (.inr h2),show decide (n+b*pw k > 1000000000)=true from decide_eq_true h2];rfl
    ·rw [if_neg (by omega),show decide (n+b*pw k > 1000000000)=false from decide_eq_false h2];rfl
  ·rw [show (b == 0)=false from beq_eq_false_iff_ne.2 hz]
   by_cases h2:n+b*pw k > 1000000000
   ·rw [if_pos (.inr h2),show decide (n+b*pw k > 1000000000)=true from decide_eq_true h2];rfl
   ·rw [if_neg (by omega),show decide (n+b*pw k > 1000000000)=false from decide_eq_false h2];rfl
 ·obtain ⟨e1,e2,e3,_,_⟩:=n2 h
  rw [if_neg h,e1,e2,e3,show decide (b<128)=false from decide_eq_false h]
  rfl
theorem XAk {text:ByteArray} {a:Nat} (hs:text.size≤140737488351232) (ha:a≤text.size):∀ j k m n,k+j=5→j<m→0≤n→n<pw k→∃ r,Td m (.c0 text a n k)=some r∧RV text a r:=by
 intro j
 induction j with
 | zero=>
  intro k m n hk hm _ _
  obtain ⟨m,rfl⟩:∃ q,m=q+1:=⟨m - 1,by omega⟩
  exact ⟨_,AAC hs ha (by omega) (.inr (by omega)),.inl rfl⟩
 | succ j ih=>
  intro k m n hk hm h0 h1
  obtain ⟨m,rfl⟩:∃ q,m=q+1:=⟨m - 1,by omega⟩
  by_cases hi:a+k<text.size
  ·have hb:=Hf text ((a+k:Nat):Int)
   generalize hbe:bt text ((a+k:Nat):Int)=b at hb
   obtain ⟨n1,n2,_⟩:=Yg (b:=b) (by omega:k<5) h0 h1 hb
   rw [BAC hs (by omega) hi h0 h1 hbe]
   split
   ·rename_i h
    split
    ·exact ⟨_,rfl,.inl rfl⟩
    ·exact ⟨_,rfl,.inr ⟨_,_,rfl,(n1 h).2.2.2.1,by omega,by omega,by omega⟩⟩
   ·rename_i h
    obtain ⟨_,_,_,e4,e5⟩:=n2 h
    exact ih (k+1) m _ (by omega) (by omega) e4 e5
  ·exact ⟨_,AAC hs ha (by omega) (.inl (by omega)),.inl rfl⟩
theorem YAk {text:ByteArray} {a:Nat} {V:Int} (hs:text.size≤140737488351232) (hV:V≤1000000000) (hA:At text a (IK V)):∀ U k m n,IK U=(IK V).drop k→0≤U→(0<k→0<U)→n+pw k*U=V→0≤n→n<pw k→5<m+k→Td m (.c0 text a n k)=some (V,((a+(IK V).length:Nat):Int),true):=by
 have h5:=YAV hV
 intro U
 induction U using IK.induct with
 | case1 U hU ih=>
  intro k m n e1 u0 uz e2 h0 h1 hm
  have hl:=congrArg List.length e1
  rw [List.length_drop] at hl
  have hp:=Nc U
  have hk:k<5:=by omega
  obtain ⟨m,rfl⟩:∃ q,m=q+1:=⟨m - 1,by omega⟩
  have hA':At text (a+k) (IK U):=by
   have:At text a ((IK V).take k++(IK V).drop k):=by rw [List.take_append_drop];exact hA
   have:=this.right
   rw [List.length_take,Nat.min_eq_left (by omega),←e1] at this
   exact this
  have e3:=e1
  rw [IK,if_pos hU] at hA' e3
  obtain ⟨hi,hb⟩:=hA'.head
  obtain ⟨n1,n2,_⟩:=Yg (b:=128+U % 128) hk h0 h1 (by omega)
  obtain ⟨_,_,_,e4,e5⟩:=n2 (by omega)
  rw [BAC hs hk hi h0 h1 hb,if_neg (by omega)]
  refine ih (k+1) m _ ?_ (by omega) (fun _=>by omega) ?_ e4 e5 (by omega)
  ·rw [←List.drop_drop,←e3];rfl
  ·rw [SAB]
   rcases Yk hk with e | e | e | e | e <;> rw [e] at e2 ⊢ <;> omega
 | case2 U hU=>
  intro k m n e1 u0 uz e2 h0 h1 hm
  have hl:=congrArg List.length e1
  rw [List.length_drop] at hl
  have hp:=Nc U
  have hk:k<5:=by omega
  obtain ⟨m,rfl⟩:∃ q,m=q+1:=⟨m - 1,by omega⟩
  have hA':At text (a+k) (IK U):=by
   have:At text a ((IK V).take k++(IK V).drop k):=by rw [List.take_append_drop];exact hA
   have:=this.right
   rw [List.length_take,Nat.min_eq_left (by omega),←e1] at this
   exact this
  rw [Yz u0 (by omega)] at hA' hl
  simp only [List.length_singleton] at hl
  obtain ⟨hi,hb⟩:=hA'.head
  have e3:n+U*pw k=V:=by rw [Int.mul_comm];exact e2
  have e4:a+k+1=a+(IK V).length:=by omega
  rw [BAC hs hk hi h0 h1 hb,if_pos (by omega),e3,if_neg (by omega),e4]
theorem FAN {text:ByteArray} {a:Nat} (hs:text.size≤140737488351232) (ha:a≤text.size):∃ r,RY text a=some r∧RV text a r:=by
 simp only [RY,Ky,Ic,Option.bind_some]
 rw [show FN (a:Int) 0 (text.size:Int)=true from SX.2 ⟨by omega,by omega⟩]
 exact XAk hs ha 5 0 gas 0 rfl (gas_lt (by omega)) (by omega) (by rw [Vf];omega)
theorem U0 {text:ByteArray} {a:Nat} {V:Int} (hs:text.size≤140737488351232) (hV0:0≤V) (hV:V≤1000000000) (hA:At text a (IK V)):RY text a=some (V,((a+(IK V).length:Nat):Int),true):=by
 have ha:a+(IK V).length≤text.size:=by
  rcases hA.size with h | h
  ·have:=Nc V;rw [h] at this;simp at this
  ·exact h
 simp only [RY,Ky,Ic,Option.bind_some]
 rw [show FN (a:Int) 0 (text.size:Int)=true from SX.2 ⟨by omega,by omega⟩]
 exact YAk hs hV hA V 0 gas 0 (by simp) hV0 (fun h=>absurd h (Nat.lt_irrefl 0)) (by rw [Vf];omega) (by omega) (by rw [Vf];omega) (by have:=gas_lt (n:=5) (by omega);omega)
def RVx (text:ByteArray) (a:Nat) (r:Int×Int×Bool):Prop:=r=Xc∨∃ v:Int,r=(v,((a+(IK v).length:Nat):Int),true)∧0≤v∧v≤1000000000∧At text a (IK v)
theorem ZAk {text:ByteArray} {a:Nat} (hs:text.size≤140737488351232) (ha:a≤text.size):∀ j k m n,k+j=5→j<m→0≤n→n<pw k→∃ r,Md m (.c0 text a n (pw k) ((a+k:Nat):Int))=some r∧RVx text a r:=by
 intro j
 induction j with
 | zero=>
  intro k m n hk hm _ _
  obtain ⟨m,rfl⟩:∃ q,m=q+1:=⟨m - 1,by omega⟩
  exact ⟨_,TAB hs ha (.inr (by omega)),.inl rfl⟩
 | succ j ih=>
  intro k m n hk hm h0 h1
  obtain ⟨m,rfl⟩:∃ q,m=q+1:=⟨m - 1,by omega⟩
  by_cases hi:a+k<text.size
  ·have hb:=Hf text ((a+k:Nat):Int)
   generalize hbe:bt text ((a+k:Nat):Int)=b at hb
   obtain ⟨n1,n2,_⟩:=Yg (b:=b) (by omega:k<5) h0 h1 hb
   rw [UAB hs (by omega) hi h0 h1 hbe]
   split
   ·rename_i h
    have hv0:=(n1 h).2.2.2.1
    split
    ·exact ⟨_,rfl,.inl rfl⟩
    ·split
     ·rename_i h2
      have h3:=congrArg bs h2
      rw [SN (Yc _ hv0),BZ] at h3
      have hl:=congrArg List.length h3
      rw [List.length_drop,List.length_take,bs_len,Nat.min_eq_left (by omega)] at hl
      refine ⟨_,rfl,.inr ⟨_,by rw [show a+k+1=a+(IK (n+b*pw k)).length by omega],hv0,by omega,(bs text).drop (a+k+1),?_⟩⟩
      rw [h3,List.drop_take,show a+k+1=a+(a+k+1 - a) by omega,←List.drop_drop,Nat.add_sub_cancel_left,List.take_append_drop]
     ·exact ⟨_,rfl,.inl rfl⟩
   ·rename_i h
    obtain ⟨_,_,_,e4,e5⟩:=n2 h
    exact ih (k+1) m _ (by omega) (by omega) e4 e5
  ·exact ⟨_,TAB hs ha (.inl (by omega)),.inl rfl⟩
theorem KAW {text:ByteArray} {p:Nat} (hp:p<text.size) {l:List Int} (h:At text (p+1) l):At text p (bt text (p:Int)::l):=by
 obtain ⟨r,hr⟩:=h
 refine ⟨r,?_⟩
 rw [drop_at (by rw [bs_len];exact hp),hr,MAB hp]
 rfl
theorem AAl {text:ByteArray} {a:Nat} (hs:text.size≤140737488351232) (ha:a≤text.size):∀ j k m n,k+j=5→j<m→0≤n→n<pw k→∃ r,Td m (.c0 text a n k)=some r∧(r=Xc∨∃ U:Int,r=(n+pw k*U,((a+k+(IK U).length:Nat):Int),true)∧0≤U∧(0<k→0<U)∧n+pw k*U≤1000000000∧At text (a+k) (IK U)):=by
 intro j
 induction j with
 | zero=>
  intro k m n hk hm _ _
  obtain ⟨m,rfl⟩:∃ q,m=q+1:=⟨m - 1,by omega⟩
  exact ⟨_,AAC hs ha (by omega) (.inr (by omega)),.inl rfl⟩
 | succ j ih=>
  intro k m n hk hm h0 h1
  obtain ⟨m,rfl⟩:∃ q,m=q+1:=⟨m - 1,by omega⟩
  by_cases hi:a+k<text.size
  ·have hb:=Hf text ((a+k:Nat):Int)
   generalize hbe:bt text ((a+k:Nat):Int)=b at hb
   obtain ⟨n1,n2,_⟩:=Yg (b:=b) (by omega:k<5) h0 h1 hb
   rw [BAC hs (by omega) hi h0 h1 hbe]
   split
   ·rename_i h
    split
    ·exact ⟨_,rfl,.inl rfl⟩
    ·rename_i h2
     have e1:=Yz hb.1 (by omega:b≤127)
     refine ⟨_,rfl,.inr ⟨b,by rw [e1,Int.mul_comm b (pw k)];rfl,hb.1,fun hk0=>by omega,by rw [Int.mul_comm (pw k) b];omega,?_⟩⟩
     rw [e1,←hbe]
     exact KAW hi ⟨_,rfl⟩
   ·rename_i h
    obtain ⟨_,_,_,e4,e5⟩:=n2 h
    obtain ⟨r,hr,hR⟩:=ih (k+1) m _ (by omega) (by omega) e4 e5
    refine ⟨r,hr,?_⟩
    rcases hR with hR | ⟨U,hR,hU,hU0,hUb,hA⟩
    ·exact .inl hR
    ·have hU1:=hU0 (by omega)
     have e6:IK (b - 128+128*U)=b::IK U:=by
      rw [IK,if_pos (by omega),show (b - 128+128*U) / 128=U by omega,show 128+(b - 128+128*U) % 128=b by omega]
     have e7:n+(b - 128)*pw k+pw (k+1)*U=n+pw k*(b - 128+128*U):=by
      rw [SAB,Int.mul_add,Int.mul_comm (b - 128) (pw k),←Int.mul_assoc];omega
     refine .inr ⟨b - 128+128*U,?_,by omega,fun _=>by omega,by rw [←e7];exact hUb,?_⟩
     ·rw [hR,e6,e7,List.length_cons,show a+(k+1)+(IK U).length=a+k+((IK U).length+1) by omega]
     ·rw [e6,←hbe]
      exact KAW hi hA
  ·exact ⟨_,AAC hs ha (by omega) (.inl (by omega)),.inl rfl⟩
theorem GAN {text:ByteArray} {a:Nat} (hs:text.size≤140737488351232) (ha:a≤text.size):∃ r,UZ text a=some r∧RVx text a r:=by
 simp only [UZ,Ru,Ob,Option.bind_some]
 rw [show FN (a:Int) 0 (text.size:Int)=true from SX.2 ⟨by omega,by omega⟩]
 exact ZAk hs ha 5 0 gas 0 rfl (gas_lt (by omega)) (by omega) (by rw [Vf];omega)
theorem BAl {text:ByteArray} {a:Nat} (hs:text.size≤140737488351232) (ha:a≤text.size):∃ r,RY text a=some r∧RVx text a r:=by
 simp only [RY,Ky,Ic,Option.bind_some]
 rw [show FN (a:Int) 0 (text.size:Int)=true from SX.2 ⟨by omega,by omega⟩]
 obtain ⟨r,hr,hR⟩:=AAl hs ha 5 0 gas 0 rfl (gas_lt (by omega)) (by omega) (by rw [Vf];omega)
 refine ⟨r,hr,?_⟩
 rcases hR with hR | ⟨U,hR,hU,_,hUb,hA⟩
 ·exact .inl hR
 ·rw [Vf,Int.zero_add,Int.one_mul] at hR hUb
  exact .inr ⟨U,hR,hU,hUb,hA⟩
noncomputable def HY (text:ByteArray) (a:Nat):Int×Int×Bool:=(UZ text a).getD Xc
theorem CAl {text:ByteArray} {a:Nat} (hs:text.size≤140737488351232) (ha:a≤text.size):UZ text a=some (HY text a):=by
 obtain ⟨r,hr,_⟩:=GAN hs ha
 rw [HY,hr];rfl
theorem CAg {text:ByteArray} {a:Nat} (hs:text.size≤140737488351232) (ha:a≤text.size):RY text a=some (HY text a):=by
 obtain ⟨r,hr,hR⟩:=GAN hs ha
 obtain ⟨r',hr',hR'⟩:=BAl hs ha
 have e:HY text a=r:=by rw [HY,hr];rfl
 rw [e]
 rcases hR with rfl | ⟨v,rfl,h0,h1,hA⟩
 ·rcases hR' with rfl | ⟨v,rfl,h0,h1,hA⟩
  ·exact hr'
  ·rw [ZAM hs h0 h1 hA] at hr
   have h2:true=false:=congrArg (fun x=>(Option.getD x Xc).2.2) hr
   cases h2
 ·exact U0 hs h0 h1 hA
theorem IAM {text:ByteArray} {a:Nat} (hs:text.size≤140737488351232) (ha:a≤text.size):RVx text a (HY text a):=by
 obtain ⟨r,hr,hR⟩:=GAN hs ha
 have e:HY text a=r:=by rw [HY,hr];rfl
 rw [e];exact hR
theorem SAn {text:ByteArray} {a:Nat} {V:Int} (hs:text.size≤140737488351232) (hV0:0≤V) (hV:V≤1000000000) (hA:At text a (IK V)):HY text a=(V,((a+(IK V).length:Nat):Int),true):=by
 rw [HY,ZAM hs hV0 hV hA];rfl
noncomputable def Ya (file:ByteArray) (a:Nat):Option (ByteArray×Nat):=
 bif (HY file a).2.2 && (FN (HY file a).1 1 9000 && (decide ((HY file a).1≤(file.size:Int) - (HY file a).2.1 - 4) &&
  (bs (file.extract (HY file a).2.1.toNat ((HY file a).2.1+4).toNat) == four (XZ (bs (file.extract ((HY file a).2.1+4).toNat ((HY file a).2.1+4+(HY file a).1).toNat))))))
 then some (file.extract ((HY file a).2.1+4).toNat ((HY file a).2.1+4+(HY file a).1).toNat,((HY file a).2.1+4+(HY file a).1).toNat) else none
noncomputable def KY:Nat→ByteArray→Nat→List ByteArray×Nat
 | 0,_,a=>([],a)
 | j+1,file,a=>match Ya file a with
  | none=>([],a)
  | some p=>(p.1::(KY j file p.2).1,(KY j file p.2).2)
noncomputable def Za (file:ByteArray):List ByteArray×Int:=bif decide ((file.size:Int) > 20000) then ([],0) else ((KY (file.size+1) file 0).1,((KY (file.size+1) file 0).2:Int))
theorem CAB {file:ByteArray} {a:Nat} (hs:file.size≤140737488351232) (ha:a≤file.size):(Ya file a=none)∨∃ (v:Int) (q:Nat),HY file a=(v,(q:Int),true)∧a<q∧q=a+(IK v).length∧1≤v∧v≤9000∧q+4+v.toNat≤file.size∧At file a (IK v)∧
  bs (file.extract q (q+4))=four (XZ (bs (file.extract (q+4) (q+4+v.toNat))))∧Ya file a=some (file.extract (q+4) (q+4+v.toNat),q+4+v.toNat):=by
 rw [Ya]
 rcases IAM hs ha with h | ⟨v,h,h0,h1,hA⟩
 ·left;rw [h];rfl
 ·rw [h]
  have hp:=Nc v
  have hsz:=hA.size.resolve_left (by intro h;rw [h] at hp;simp at hp)
  generalize hq:a+(IK v).length=q at hsz
  simp only [Bool.true_and]
  cases h2:FN v 1 9000
  ·left;rfl
  ·rw [SX] at h2
   by_cases h3:v≤(file.size:Int) - (q:Int) - 4
   ·rw [decide_eq_true h3]
    have e1:((q:Int)).toNat=q:=Int.toNat_natCast q
    have e2:((q:Int)+4).toNat=q+4:=by omega
    have e3:((q:Int)+4+v).toNat=q+4+v.toNat:=by omega
    rw [e1,e2,e3]
    cases h4:(bs (file.extract q (q+4)) == four (XZ (bs (file.extract (q+4) (q+4+v.toNat)))))
    ·left;rfl
    ·right
     exact ⟨v,q,rfl,by omega,hq.symm,by omega,by omega,by omega,hA,beq_iff_eq.1 h4,rfl⟩
   ·left;rw [decide_eq_false h3];rfl
theorem DAC (f:ByteArray) {a b c:Nat} (h:a≤b) (h2:b≤c) (h3:c≤f.size):bs (f.extract a c)=bs (f.extract a b)++bs (f.extract b c):=by
 rw [BZ,BZ,BZ,List.drop_take,List.drop_take,List.drop_take]
 rw [show (bs f).drop b=((bs f).drop a).drop (b - a) by rw [List.drop_drop];congr 1;omega]
 rw [show c - a=(b - a)+(c - b) by omega,List.take_add]
theorem DAl {f:ByteArray} (hf:f.size≤140737488351232):Yi f=some (Za f):=by
 rw [Yi,XAH,Za]
 by_cases h0:20000<f.size
 ·rw [TB (by simp;omega),TB (by simp;omega)]
 ·rw [NM (by simp;omega),NM (by simp;omega)]
  have key:∀ (j a m:Nat) (out:List ByteArray),a≤f.size→f.size<a+j→out.length≤a→U8 (m+j+1) (.c0 f (a:Int) out)=some (out++(KY j f a).1,((KY j f a).2:Int)):=by
   intro j
   induction j with
   | zero=>intro a m out ha hj;omega
   | succ j ih=>
    intro a m out ha hj ho
    rw [show m+(j+1)+1=(m+j+1)+1 by omega,U8]
    simp only [YAH,KY]
    by_cases he:a=f.size
    ·subst he
     rw [NM (by simp)]
     rcases CAB hf (Nat.le_refl _) with h | ⟨v,q,_,_,hq,h1,_,h3,_⟩
     ·rw [h,List.append_nil]
     ·omega
    ·rw [TB (by simp;omega),CAl hf ha,Option.bind_some]
     rcases IAM hf ha with h | ⟨v,h,hv0,hv1,hA⟩
     ·rw [show Ya f a=none by rw [Ya,h];rfl,h]
      rw [List.append_nil];rfl
     ·have hp:=Nc v
      have hsz:=hA.size.resolve_left (by intro h;rw [h] at hp;simp at hp)
      have hn:=CAB hf ha
      have hex:bs (f.extract a (a+(IK v).length))=IK v:=by rw [hA.extract (Yc v hv0),SN (Yc v hv0)]
      rw [h] at hn ⊢
      generalize hq:a+(IK v).length=q at hsz hn hex
      simp only [Bool.not_true,cond_false]
      rw [w64_id (n:=(f.size:Int) - (q:Int)) (by omega) (by omega),w64_id (n:=(f.size:Int) - (q:Int) - 4) (by omega) (by omega),w64_id (n:=(q:Int)+4) (by omega) (by omega),w64_id (n:=(q:Int)+4+v) (by omega) (by omega)]
      by_cases h3:v > (f.size:Int) - (q:Int) - 4
      ·rw [TB (by simp;omega)]
       rcases hn with hn | ⟨v',q',he',_,_,_,_,h4,_⟩
       ·rw [hn,List.append_nil]
       ·simp only [Prod.mk.injEq,and_true] at he';omega
      ·have e2:((q:Int)+4).toNat=q+4:=by omega
       have e3:((q:Int)+4+v).toNat=q+4+v.toNat:=by omega
       have hxs:(f.extract (q+4) (q+4+v.toNat)).size=v.toNat:=by rw [ByteArray.size_extract];omega
       rw [NM (by simp;omega),TB (by simp;omega),e2,e3,Int.toNat_natCast,JAW (by omega),Option.bind_some,frameT,hxs]
       rcases hn with hn | ⟨v',q',he',_,_,h5,h6,h4,hA',hb,hn⟩
       ·rw [hn,List.append_nil]
        cases hr:FN ((v.toNat:Nat):Int) 1 9000
        ·rfl
        ·rw [cond_true,NM (by rfl),TB (by simp;omega)]
         rw [TB]
         rw [Bool.not_eq_true',Yj,SN (EAN (Nb _)),beq_eq_false_iff_ne]
         intro hc
         rw [Og,bs_len,hxs,show ((v.toNat:Nat):Int)=v by omega,DAC f (a:=a) (b:=q) (by omega) (by omega) (by omega),hex,DAC f (a:=q) (b:=q+4) (by omega) (by omega) (by omega)] at hc
         have hc2:=(List.append_inj (List.append_cancel_left hc) (by rw [bs_len,ByteArray.size_extract];show 4=_;omega)).1
         rw [Ya,h] at hn
         have hr':FN v 1 9000=true:=by rw [show ((v.toNat:Nat):Int)=v by omega] at hr;exact hr
         rw [hq] at hn
         simp only [hr',e2,e3,Int.toNat_natCast,←hc2,beq_self_eq_true,Bool.true_and,Bool.and_true] at hn
         rw [decide_eq_true (by omega:v≤(f.size:Int) - (q:Int) - 4)] at hn
         cases hn
       ·simp only [Prod.mk.injEq,and_true] at he'
        obtain ⟨rfl,he'⟩:=he'
        have:q=q':=by omega
        subst this
        have hr:FN ((v.toNat:Nat):Int) 1 9000=true:=by rw [SX];omega
        rw [hn,hr,cond_true,NM (by rfl),TB (by simp;omega)]
        rw [NM (by
         rw [Bool.not_eq_false',Yj,SN (EAN (Nb _)),beq_iff_eq]
         rw [Og,bs_len,hxs,show ((v.toNat:Nat):Int)=v by omega,DAC f (a:=a) (b:=q) (by omega) (by omega) (by omega),hex,DAC f (a:=q) (b:=q+4) (by omega) (by omega) (by omega),hb])]
        rw [TB (by simp;omega),show (q:Int)+4+v=((q+4+v.toNat:Nat):Int) by omega,ih (q+4+v.toNat) m _ (by omega) (by omega) (by simp;omega)]
        simp
  obtain ⟨m,hm⟩:∃ m,gas=m+(f.size+1)+1:=⟨gas - (f.size+2),by have:=gas_lt (n:=f.size+2) (by omega);omega⟩
  rw [hm,show (0:Int)=((0:Nat):Int) from rfl,key (f.size+1) 0 m [] (by omega) (by omega) (Nat.le_refl _)]
  rfl
theorem MAW (k:List Int) {i:Nat}:(OY k).getD i 0=k.getD i 0:=by
 by_cases h:i<k.length
 ·rw [OY,Qz h]
 ·rw [OY,Rn (by omega)]
  simp only [List.getD]
  rw [List.getElem?_eq_none (by omega:k.length≤i)]
  by_cases h2:i - k.length<64 - k.length
  ·rw [List.getElem?_replicate,if_pos h2];rfl
  ·rw [List.getElem?_replicate,if_neg h2]
theorem NAW (f:Int→Int) {l:List Int} (hl:l.length=64) {i:Nat} (h:i<64) (y:Int) (hy:y=f (l.getD i 0)):((l.take i).map f++List.replicate (64 - i) 0).set i y=(l.take (i+1)).map f++List.replicate (64 - (i+1)) 0:=by
 rw [show 64 - i=(64 - (i+1))+1 by omega,List.replicate_succ,Nk (by simp;omega),take_at (by omega),hy,getD_at (by omega),List.map_append,List.append_assoc]
 rfl
theorem OAW {k:ByteArray} (hk:k.size≤64) (x:Int):Jm gas (.c0 k x (0:Int) (List.replicate (64:Int).toNat (0:Int)))=some (ofBytes (JZ x (OY (bs k)))):=by
 have hl:(OY (bs k)).length=64:=by rw [OY,List.length_append,List.length_replicate,bs_len];omega
 have key:=loopN (A:=Unit) (n:=64) (Lp:=Jm) (st:=fun i _=>.c0 k x (i:Int) (((OY (bs k)).take i).map (fun b=>xb b x)++List.replicate (64 - i) 0)) (Inv:=fun _ _=>True) (out:=fun _ _=>some (ofBytes (JZ x (OY (bs k)))))
  (fun m _ _=>by
   rw [Jm]
   simp only [V8]
   rw [NM (by simp),List.take_of_length_le (by omega),Nat.sub_self,List.replicate_zero,List.append_nil];rfl)
  (fun m i _ hi _=>.inr ⟨(),by
   have e:w64 ((i:Int)+1)=((i+1:Nat):Int):=by rw [w64_id (by omega) (by omega)];rfl
   have hlen:(((OY (bs k)).take i).map (fun b=>xb b x)++List.replicate (64 - i) 0).length=64:=by simp [hl];omega
   have hm:(((OY (bs k)).take i).map (fun b=>xb b x)).length=i:=by simp [hl];omega
   rw [Jm]
   simp only [V8,e,Int.toNat_natCast,List.length_set,hlen,VAB]
   rw [TB (by simp;omega)]
   by_cases h:i<k.size
   ·rw [TB (by simp;omega),TB (by simp;omega),TB (by simp;omega),TB (by simp;omega),TB (by simp;omega),Mc h]
    rw [List.set_set,NAi (by omega)]
    rw [NAW (fun b=>xb b x) hl hi _ (by rw [MAW])]
   ·rw [NM (by simp;omega),TB (by simp;omega),TB (by simp;omega)]
    rw [Rn (by omega),hm,Nat.sub_self]
    rw [NAW (fun b=>xb b x) hl hi _ (by
     rw [MAW,show (bs k).getD i 0=0 by simp [List.getD,List.getElem?_eq_none (show (bs k).length≤i by rw [bs_len];omega)]]
     rw [show 64 - i=(63 - i)+1 by omega,List.replicate_succ];rfl)],trivial,rfl⟩)
 exact key gas 0 () (Nat.zero_le _) (gas_lt (by omega)) trivial
theorem PAW {k:ByteArray} (hk:k.size≤1000000000) (x:Int):Bv k x=some (ofBytes (JZ x (Ad (bs k)))):=by
 rw [Bv,AAI]
 by_cases h:64<k.size
 ·rw [TB (by simp;omega),Vz hk,Option.bind_some,OAW (by rw [Rf];omega),Ad,if_pos (by rw [bs_len];omega),PAB]
 ·rw [NM (by simp;omega),OAW (by omega),Ad,if_neg (by rw [bs_len];omega)]
theorem QAW {k s:ByteArray} (hk:k.size≤900000000) (hs:s.size≤900000000):Xe k s=some (Zd k s):=by
 have x1:=WAB 92 (Ad (bs k))
 have x2:=WAB 54 (Ad (bs k))
 have x3:=TAk (bs k)
 rw [Xe,BAI,PAW (by omega),Option.bind_some,PAW (by omega),Option.bind_some,TB (by rw [ofBytes_size,decide_eq_true_eq];omega)]
 rw [Vz (by rw [ByteArray.size_append,ofBytes_size];omega),Option.bind_some,TB (by rw [ofBytes_size,Rf,decide_eq_true_eq];omega),Vz (by rw [ByteArray.size_append,ofBytes_size,Rf];omega),Option.bind_some]
 rw [ZY,NY,PAB,NY,SN (XAB _ _),SN (XAB _ _),Zd,Bd]
theorem EAl {k:ByteArray} {num n:Int} (hk:k.size≤900000000):Jv k num n=some (Zn k num n):=by
 rw [Jv,EAI,Ob,Option.bind_some,Zn,maskOk]
 cases h:FN num 0 1000000000
 ·rfl
 ·rw [SX] at h
  rw [NM (by rfl),Ob,Option.bind_some]
  cases h2:FN n 0 8000
  ·rfl
  ·rw [SX] at h2
   rw [NM (by rfl),Bool.and_self,cond_true]
   have hv:=GZ (n:=num) (by omega)
   have hvb:=Zk h.1
   have key:=loopN (A:=Unit) (n:=(n.toNat+31) / 32) (Lp:=Gv) (st:=fun i _=>.c0 k num n (i:Int) (Ae (bs k) (IK num) i)) (Inv:=fun _ _=>True) (out:=fun _ _=>some (ofBytes (UY (bs k) (IK num) n.toNat),true))
    (fun m _ _=>by
     rw [Gv]
     simp only [X8]
     rw [NM (by rw [Xf,decide_eq_false_iff_not];omega),TB (by rw [Xf];simp;omega)]
     rfl)
    (fun m i _ hi _=>.inr ⟨(),by
     have e:w64 ((i:Int)+1)=((i+1:Nat):Int):=by rw [w64_id (by omega) (by omega)];rfl
     have h9:(⟨#[109]⟩:ByteArray).size=1:=rfl
     rw [Gv]
     simp only [X8,e]
     rw [TB (by rw [Xf,decide_eq_true_eq];omega),Uf (by omega),Option.bind_some,TB (by rw [ofBytes_size,h9,decide_eq_true_eq];omega),RAM (by omega) (by omega),Option.bind_some,TB (by rw [ByteArray.size_append,ofBytes_size,ofBytes_size,h9,decide_eq_true_eq,List.length_singleton];omega)]
     rw [QAW hk (by rw [ByteArray.size_append,ByteArray.size_append,ofBytes_size,ofBytes_size,h9,List.length_singleton];omega),Option.bind_some,EAW k h.1 h.2 i (by omega),Rz,SN (Zz _ _),TB (by rw [ofBytes_size,Yn];rfl),TB (by rw [Xf,Yn,decide_eq_true_eq];omega)]
     rfl,trivial,rfl⟩)
   exact key gas 0 () (Nat.zero_le _) (gas_lt (by omega)) trivial
theorem FAl {k s:ByteArray} {num:Int} (hk:k.size≤900000000) (hn:0≤num∧num≤1000000000) (hs:s.size≤800000000):Kv k num s=some (ofBytes (OZ (bs k) num (bs s))):=by
 have hv:=GZ (n:=num) (by omega)
 have h9:(⟨#[116]⟩:ByteArray).size=1:=rfl
 have e:bs (⟨#[116]⟩:ByteArray)=[116]:=rfl
 have h16:(16:Int).toNat=16:=rfl
 rw [Kv,GAI,Uf (by omega),Option.bind_some,TB (by rw [ofBytes_size,h9,decide_eq_true_eq];omega),TB (by rw [ByteArray.size_append,ofBytes_size,h9,decide_eq_true_eq];omega)]
 rw [QAW hk (by rw [ByteArray.size_append,ByteArray.size_append,ofBytes_size,h9];omega),Option.bind_some,TB (by rw [DAW];decide)]
 refine congrArg some (Aa ?_)
 rw [BZ,CAW,h16,SN (O0 _ _ _),NY,NY,e,SN (Zk hn.1),OZ,List.drop_zero,List.append_assoc]
 rfl
theorem GAl {a b:ByteArray} (ha:a.size≤140737488351232) (h:a.size≤b.size):Pv a b=some (ofBytes (EY (bs a) (bs b))):=by
 have hl:=bs_len a
 have hl2:=bs_len b
 have key:=loopN (A:=Unit) (n:=(bs a).length) (Lp:=Ov) (st:=fun i _=>.c0 b (i:Int) (List.zipWith xb ((bs a).take i) ((bs b).take i)++(bs a).drop i)) (Inv:=fun _ _=>True) (out:=fun _ _=>some (ofBytes (EY (bs a) (bs b))))
  (fun m _ _=>by
   rw [Ov]
   simp only [Z8]
   rw [NM (by simp;omega),List.take_length,List.drop_length,List.append_nil,EY,BAN])
  (fun m i _ hi _=>.inr ⟨(),by
   have e:w64 ((i:Int)+1)=((i+1:Nat):Int):=by rw [w64_id (by omega) (by omega)];rfl
   have hlen:(List.zipWith xb ((bs a).take i) ((bs b).take i)++(bs a).drop i).length=(bs a).length:=by simp;omega
   rw [Ov]
   simp only [Z8,e,Int.toNat_natCast,hlen,VAB,HAW hi (show i<(bs b).length by omega)]
   rw [TB (by simp;omega),TB (by simp;omega),TB (by simp;omega),TB (by simp;omega),Mc (by omega),GAW hi (by omega)],trivial,rfl⟩)
 rw [Pv,KAI,TB (by simp;omega),Rz]
 exact key gas 0 () (Nat.zero_le _) (gas_lt (by omega)) trivial
theorem Ik {n:Int} (h:n≤9223372036854775807):Ea n=some (ofBytes (IK n)):=by
 have key:∀ (n:Int) (m:Nat) (out:List Int),n≤9223372036854775807→(IK n).length≤m→out.length+(IK n).length≤1000→Yw m (.c0 n out)=some (ofBytes (out++IK n)):=by
  intro n
  induction n using IK.induct with
  | case1 n hn ih=>
   intro m out h1 h2 h3
   rw [IK,if_pos hn] at h2 h3 ⊢
   simp only [List.length_cons] at h2 h3
   obtain ⟨m,rfl⟩:∃ k,m=k+1:=⟨m - 1,by omega⟩
   obtain ⟨e1,_,e2⟩:=QAV hn h1
   simp only [Yw,Y9,e1,e2]
   rw [show decide (n > 127)=true from decide_eq_true hn,show decide ((out.length+1)*1≤140737488355328)=true from decide_eq_true (by omega)]
   simp only [cond_true]
   rw [ih m _ (by omega) (by omega) (by simp;omega)]
   simp
  | case2 n hn=>
   intro m out h1 h2 h3
   rw [IK,if_neg hn] at h2 h3 ⊢
   simp at h2 h3
   obtain ⟨m,rfl⟩:∃ k,m=k+1:=⟨m - 1,by omega⟩
   simp only [Yw,Y9]
   rw [show decide (n > 127)=false from decide_eq_false hn,show decide ((out.length+1)*1≤140737488355328)=true from decide_eq_true (by omega)]
   rfl
 have hl:=GZ h
 exact key n gas [] h (Nat.le_of_lt (gas_lt (by omega))) (by simp;omega)
theorem HAl {n:Int}:Qj n=some (bif FN n 0 1000000000 then (ofBytes (IK n),true) else (⟨#[]⟩,false)):=by
 simp only [Qj,BAL,Ic,Option.bind_some]
 cases h:FN n 0 1000000000
 ·rfl
 ·rw [SX] at h
  rw [Bool.not_true,cond_false,Ik (by omega),Option.bind_some,cond_true]
theorem Bl {n:Int} (h:0≤n) (h2:n≤255):Cc n=some (ofBytes [n]):=by
 simp only [Cc,XAJ,w8_id h h2]
theorem DAM {n:Nat} (h:n≤1000000000):Qd (n:Int)=some (ofBytes (List.replicate n 0)):=by
 simp only [Qd,YAI,Int.toNat_natCast]
 rw [TB (by simp;omega)]
theorem JAB {x:Int} (h:R32 x):WZ x=some (ofBytes (four x)):=by
 obtain ⟨h1,h2⟩:=h
 have e1:Int.fdiv x (2 ^ (Min.min (24:Int).toNat (IntKind.bits IntKind.u32)))=x / 16777216:=Int.fdiv_eq_ediv_of_nonneg _ (by decide)
 have e2:Int.fdiv x (2 ^ (Min.min (16:Int).toNat (IntKind.bits IntKind.u32)))=x / 65536:=Int.fdiv_eq_ediv_of_nonneg _ (by decide)
 have e3:Int.fdiv x (2 ^ (Min.min (8:Int).toNat (IntKind.bits IntKind.u32)))=x / 256:=Int.fdiv_eq_ediv_of_nonneg _ (by decide)
 simp only [WZ,BAJ,e1,e2,e3,w8_mod,four]
 rw [show x / 16777216 % 256=x / 16777216 by omega]
theorem IAl {n:Nat} (h:n<1099511627776):Aw (n:Int)=some (ofBytes (Qc (n:Int))):=by
 have e1:Int.fdiv (n:Int) (2 ^ (Min.min (32:Int).toNat (IntKind.bits IntKind.i64)))=(n:Int) / 4294967296:=Int.fdiv_eq_ediv_of_nonneg _ (by decide)
 simp only [Aw,DAJ,e1,JAB (NZ _),Option.bind_some]
 rw [TB (by rw [ofBytes_size,ofBytes_size];simp [four])]
 congr 1
 apply Aa
 rw [NY,SN (Dk (NZ _)),SN (Dk (NZ _)),SN (fun x hx=>by
  simp only [Qc,List.mem_cons,List.not_mem_nil,or_false] at hx
  omega)]
 simp only [four,Qc,Jk,List.cons_append,List.nil_append,List.cons.injEq,and_true]
 omega
theorem JAl {n:Nat} (h:n≤100000000000):Dw (n:Int)=some (ofBytes (DY n)):=by
 have e1:(w64 (119 - ((n:Int).tmod 64))).tmod 64=(((119 - n % 64) % 64:Nat):Int):=by
  have a:(n:Int).tmod 64=(n:Int) % 64:=Int.tmod_eq_emod_of_nonneg (by omega)
  rw [a,w64_id (by omega) (by omega),Int.tmod_eq_emod_of_nonneg (by omega)]
  omega
 have e2:w64 (8*(n:Int))=((8*n:Nat):Int):=by rw [w64_id (by omega) (by omega)];omega
 have h0:(⟨#[128]⟩:ByteArray).size=1:=rfl
 simp only [Dw,FAJ,e1,e2,DAM (n:=(119 - n % 64) % 64) (by omega),IAl (n:=8*n) (by omega),Option.bind_some]
 rw [TB (by rw [ofBytes_size];simp [h0];omega),TB (by rw [ByteArray.size_append,ofBytes_size,ofBytes_size];simp [h0,Qc];omega)]
 congr 1
 apply Aa
 have hb:VX (List.replicate ((119 - n % 64) % 64) (0:Int)):=fun x hx=>by
  have:=List.eq_of_mem_replicate hx;omega
 have hb2:VX (Qc ((8*n:Nat):Int)):=fun x hx=>by
  simp only [Qc,List.mem_cons,List.not_mem_nil,or_false] at hx
  omega
 rw [NY,NY,SN hb,SN hb2,SN (NAM n),DY]
 have e3:bs (⟨#[128]⟩:ByteArray)=[128]:=rfl
 rw [e3]
 simp
theorem KAl {x:Int} (h:R32 x) (n:Nat) (hn:0<n) (hn2:n<32) (k:Int) (hk:wu64 (((BitVec.toNat ((BitVec.ofInt (IntKind.bits IntKind.u64) (wu64 k)) &&& (BitVec.ofInt (IntKind.bits IntKind.u64) (31:Int)))):Nat):Int)=((32 - n:Nat):Int))
  (hk2:wu64 (32 - ((32 - n:Nat):Int))=(n:Int)):Ew x k=some (rt (2 ^ n) (2 ^ (32 - n)) x):=by
 have e1:Min.min ((32 - n:Nat):Int).toNat (IntKind.bits IntKind.u32)=32 - n:=by
  show Min.min ((32 - n:Nat):Int).toNat 32=_
  omega
 have e2:Min.min (n:Int).toNat (IntKind.bits IntKind.u32)=n:=by
  show Min.min (n:Int).toNat 32=_
  omega
 have e3:Int.fdiv x (2 ^ n)=x / 2 ^ n:=Int.fdiv_eq_ediv_of_nonneg _ (Int.le_of_lt (Int.pow_pos (by omega)))
 simp only [Ew,HAJ,hk,hk2,e1,e2,e3]
 rw [show decide ((0:Int)≤(n:Int))=true from decide_eq_true (by omega)]
 simp only [cond_true,VAU]
 rw [MAi h n hn hn2]
theorem Ee {x:Int} (h:R32 x) (n:Nat) (hn:0<n) (hn2:n<32) (hk:wu64 (((BitVec.toNat ((BitVec.ofInt (IntKind.bits IntKind.u64) (wu64 (w64 (0 - (n:Int))))) &&& (BitVec.ofInt (IntKind.bits IntKind.u64) (31:Int)))):Nat):Int)=((32 - n:Nat):Int))
  (hk2:wu64 (32 - ((32 - n:Nat):Int))=(n:Int)):QY x (n:Int)=some (rt (2 ^ n) (2 ^ (32 - n)) x):=by
 simp only [QY,IAJ,KAl h n hn hn2 _ hk hk2,Option.bind_some]
theorem LAl {x:Int} (h:R32 x):QY x 2=some (rt 4 1073741824 x):=Ee h 2 (by decide) (by decide) (by decide) (by decide)
theorem MAl {x:Int} (h:R32 x):QY x 13=some (rt 8192 524288 x):=Ee h 13 (by decide) (by decide) (by decide) (by decide)
theorem NAl {x:Int} (h:R32 x):QY x 22=some (rt 4194304 1024 x):=Ee h 22 (by decide) (by decide) (by decide) (by decide)
theorem OAl {x:Int} (h:R32 x):QY x 6=some (rt 64 67108864 x):=Ee h 6 (by decide) (by decide) (by decide) (by decide)
theorem PAl {x:Int} (h:R32 x):QY x 11=some (rt 2048 2097152 x):=Ee h 11 (by decide) (by decide) (by decide) (by decide)
theorem QAl {x:Int} (h:R32 x):QY x 25=some (rt 33554432 128 x):=Ee h 25 (by decide) (by decide) (by decide) (by decide)
theorem RAl {x:Int} (h:R32 x):QY x 7=some (rt 128 33554432 x):=Ee h 7 (by decide) (by decide) (by decide) (by decide)
theorem SAl {x:Int} (h:R32 x):QY x 18=some (rt 262144 16384 x):=Ee h 18 (by decide) (by decide) (by decide) (by decide)
theorem TAl {x:Int} (h:R32 x):QY x 17=some (rt 131072 32768 x):=Ee h 17 (by decide) (by decide) (by decide) (by decide)
theorem UAl {x:Int} (h:R32 x):QY x 19=some (rt 524288 8192 x):=Ee h 19 (by decide) (by decide) (by decide) (by decide)
theorem VAl {a b:Int} (ha:0≤a∧a<16777216) (hb:0≤b∧b≤255):Pz (w32 (a*256)) (w32 b)=a*256+b:=by
 obtain ⟨x,rfl⟩:∃ x:Nat,a=(x:Int):=⟨a.toNat,by omega⟩
 obtain ⟨y,rfl⟩:∃ y:Nat,b=(y:Int):=⟨b.toNat,by omega⟩
 rw [YZ (by omega) (by omega),YZ (by omega) (by omega)]
 have:=WAU (a:=x) (b:=y) (s:=8) (by omega) (by omega) (by omega)
 have e:((x*2 ^ 8:Nat):Int)=(x:Int)*256:=by omega
 rw [Int.natCast_add,e] at this
 exact this
def Eb (l:List Int) (i:Nat):Nat→Int
 | 0=>0
 | k+1=>Eb l i k*256+l.getD (4*i+k) 0
theorem WAl (l:List Int) (i:Nat):Eb l i 4=wordAt l i:=by
 simp only [Eb,wordAt,be4,Nat.add_zero]
 omega
theorem XAl {l:List Int} (h:VX l) (i:Nat):∀ k,k<4→0≤Eb l i k∧Eb l i k<16777216
 | 0,_=>by simp [Eb]
 | 1,_=>by have:=FZ h (4*i+0);simp only [Eb];omega
 | 2,_=>by have:=FZ h (4*i+0);have:=FZ h (4*i+1);simp only [Eb];omega
 | 3,_=>by have:=FZ h (4*i+0);have:=FZ h (4*i+1);have:=FZ h (4*i+2);simp only [Eb];omega
theorem YAl {b:ByteArray} (hb:b.size=64) (v:List Int) (i:Nat) (hi:i<16):∀ (j k m:Nat),k+j=4→
  Xa (m+j+1) (.c1 b (i:Int) (i:Int) (k:Int) v (YX (bs b) i++Eb (bs b) i k::List.replicate (63 - i) 0))=Xa m (.c0 b ((i+1:Nat):Int) v (YX (bs b) (i+1)++List.replicate (63 - i) 0)):=by
 have hby:=Nb b
 intro j
 induction j with
 | zero=>
  intro k m h
  obtain rfl:k=4:=by omega
  have e:w64 ((i:Int)+1)=((i+1:Nat):Int):=by rw [w64_id (by omega) (by omega)];rfl
  rw [Xa]
  simp only [Gg,e]
  rw [NM (by simp),WAl,BAV]
  simp
 | succ j ih=>
  intro k m h
  have hk:k<4:=by omega
  have hlen:(YX (bs b) i++Eb (bs b) i k::List.replicate (63 - i) 0).length=64:=by
   simp only [List.length_append,List.length_cons,List.length_replicate,Jf];omega
  have e:w64 ((k:Int)+1)=((k+1:Nat):Int):=by rw [w64_id (by omega) (by omega)];rfl
  have e4:w64 (4*(i:Int))=((4*i:Nat):Int):=by rw [w64_id (by omega) (by omega)];omega
  have e5:w64 (((4*i:Nat):Int)+(k:Int))=((4*i+k:Nat):Int):=by rw [w64_id (by omega) (by omega)];omega
  have e8:(2:Int) ^ (Min.min (8:Int).toNat (IntKind.bits IntKind.u32))=256:=by decide
  have hg:(YX (bs b) i++Eb (bs b) i k::List.replicate (63 - i) 0).getD i 0=Eb (bs b) i k:=by
   rw [Rn (by rw [Jf];omega),Jf,Nat.sub_self];rfl
  rw [show m+(j+1)+1=(m+j+1)+1 by omega,Xa]
  simp only [Gg,e,e4,e5,e8,Int.toNat_natCast,hlen,hg,VAU]
  rw [TB (by simp;omega),TB (by rfl),TB (by simp;omega),TB (by simp;omega),TB (by rfl),TB (by simp;omega)]
  rw [Mc (by omega),VAl (XAl hby i k hk) (FZ hby _),Nk (Jf _ i)]
  exact ih (k+1) m (by omega)
theorem ZAl {b:ByteArray} (hb:b.size=64) (v:List Int):∀ (j i m:Nat),i+j=16→Xa (m+6*j+1) (.c0 b (i:Int) v (YX (bs b) i++List.replicate (64 - i) 0))=Xa m (.c2 16 v (YX (bs b) 16++List.replicate 48 0)):=by
 intro j
 induction j with
 | zero=>
  intro i m h
  obtain rfl:i=16:=by omega
  rw [Xa]
  simp only [Gg]
  rw [NM (by simp)]
 | succ j ih=>
  intro i m h
  rw [show m+6*(j+1)+1=(m+6*j+1)+4+1+1 by omega,Xa]
  simp only [Gg]
  rw [TB (by simp;omega)]
  have h1:=YAl hb v i (by omega) 4 0 (m+6*j+1) (by omega)
  rw [show 64 - i=(63 - i)+1 by omega,List.replicate_succ]
  have h2:=ih (i+1) m (by omega)
  rw [show 64 - (i+1)=63 - i by omega] at h2
  exact h1.trans h2
theorem AAm {w v:List Int} (hw:∀ x ∈ w,R32 x) (hwl:w.length=16) (hv:v.length=64):∀ (j i m:Nat),i+j=48→Xa (m+j+1) (.c2 ((16+i:Nat):Int) v (sched w i++List.replicate (48 - i) 0))=some (sched w 48):=by
 intro j
 induction j with
 | zero=>
  intro i m h
  obtain rfl:i=48:=by omega
  have hl:=Sz hwl 48
  rw [Xa]
  simp only [Gg,Nat.sub_self,List.replicate_zero,List.append_nil,hl,hv]
  rfl
 | succ j ih=>
  intro i m h
  have hl:=Sz hwl i
  have hr:=NAB hw i
  have hlen:(sched w i++List.replicate (48 - i) 0).length=64:=by
   simp only [List.length_append,List.length_replicate,hl];omega
  have e2:w64 (((16+i:Nat):Int) - 2)=((16+i - 2:Nat):Int):=by rw [w64_id (by omega) (by omega)];omega
  have e7:w64 (((16+i:Nat):Int) - 7)=((16+i - 7:Nat):Int):=by rw [w64_id (by omega) (by omega)];omega
  have e15:w64 (((16+i:Nat):Int) - 15)=((16+i - 15:Nat):Int):=by rw [w64_id (by omega) (by omega)];omega
  have e16:w64 (((16+i:Nat):Int) - 16)=((16+i - 16:Nat):Int):=by rw [w64_id (by omega) (by omega)];omega
  have e1:w64 (((16+i:Nat):Int)+1)=((16+(i+1):Nat):Int):=by rw [w64_id (by omega) (by omega)];omega
  have g2:(sched w i++List.replicate (48 - i) 0).getD (16+i - 2) 0=(sched w i).getD (16+i - 2) 0:=Qz (by omega) 0
  have g7:(sched w i++List.replicate (48 - i) 0).getD (16+i - 7) 0=(sched w i).getD (16+i - 7) 0:=Qz (by omega) 0
  have g15:(sched w i++List.replicate (48 - i) 0).getD (16+i - 15) 0=(sched w i).getD (16+i - 15) 0:=Qz (by omega) 0
  have g16:(sched w i++List.replicate (48 - i) 0).getD (16+i - 16) 0=(sched w i).getD (16+i - 16) 0:=Qz (by omega) 0
  have f10:∀ x:Int,Int.fdiv x (2 ^ (Min.min (10:Int).toNat (IntKind.bits IntKind.u32)))=x / 1024:=fun x=>Int.fdiv_eq_ediv_of_nonneg _ (by decide)
  have f3:∀ x:Int,Int.fdiv x (2 ^ (Min.min (3:Int).toNat (IntKind.bits IntKind.u32)))=x / 8:=fun x=>Int.fdiv_eq_ediv_of_nonneg _ (by decide)
  have r15:=Tz hr (16+i - 15)
  have r2:=Tz hr (16+i - 2)
  rw [show m+(j+1)+1=(m+j+1)+1 by omega,Xa]
  simp only [Gg,e1,e2,e7,e15,e16,Int.toNat_natCast,hlen,g2,g7,g15,g16,RAl r15,SAl r15,TAl r2,UAl r2,Option.bind_some,f10,f3,Lc]
  rw [TB (by simp;omega),TB (by rfl),TB (by simp;omega),TB (by rfl),TB (by simp;omega),TB (by rfl),TB (by simp;omega),TB (by rfl),TB (by simp;omega),TB (by rfl),TB (by simp;omega)]
  rw [show 48 - i=(48 - (i+1))+1 by omega,List.replicate_succ,Nk (by omega)]
  have h2:=ih (i+1) m (by omega)
  rw [sched,List.append_assoc] at h2
  exact h2
theorem BAm {b:ByteArray} (hb:b.size=64):Cj b=some (sched (YX (bs b) 16) 48):=by
 obtain ⟨m,hm⟩:∃ m,gas=(m+48+1)+6*16+1:=⟨gas - 146,by have:=gas_lt (n:=146) (by omega);omega⟩
 rw [Cj,JAJ,hm]
 have h0:=ZAl hb (List.replicate 64 0) 16 0 (m+48+1) (by omega)
 have h2:=AAm (w:=YX (bs b) 16) (v:=List.replicate 64 0) (LAM (Nb b) 16) (Jf _ 16) (List.length_replicate ..) 48 0 m (by omega)
 rw [show YX (bs b) 0++List.replicate (64 - 0) 0=List.replicate 64 (0:Int) from rfl,show ((0:Nat):Int)=0 from rfl] at h0
 rw [show ((16+0:Nat):Int)=16 from rfl,show sched (YX (bs b) 16) 0=YX (bs b) 16 from rfl,show 48 - 0=48 from rfl] at h2
 rw [h0,h2]
theorem CAm (s r v:List Int) (hs:s.length=8) (hv:v.length=8) (f:Nat→Int) (hf:∀ i,i<8→f i=w32 (r.getD i 0+s.getD i 0)) (hr:r.length=8):∀ (j i m:Nat),i+j=8→Ac (m+j+1) (.c1 (i:Int) s v ((List.range i).map f++r.drop i))=some ((List.range 8).map f):=by
 intro j
 induction j with
 | zero=>
  intro i m h
  obtain rfl:i=8:=by omega
  rw [Ac]
  simp only [Pm]
  rw [NM (by simp),List.drop_of_length_le (by omega),List.append_nil,TB (by simp),TB (by simp [hv]),TB (by simp)]
 | succ j ih=>
  intro i m h
  have e:w64 ((i:Int)+1)=((i+1:Nat):Int):=by rw [w64_id (by omega) (by omega)];rfl
  have hl:((List.range i).map f++r.drop i).length=8:=by simp [hr];omega
  have hm:((List.range i).map f).length=i:=by simp
  have hg:((List.range i).map f++r.drop i).getD i 0=r.getD i 0:=by
   rw [Rn (by omega),hm,Nat.sub_self]
   simp [List.getD]
  rw [show m+(j+1)+1=(m+j+1)+1 by omega,Ac]
  simp only [Pm,e,Int.toNat_natCast,hl,hs,hg]
  rw [TB (by simp;omega),TB (by rfl),TB (by simp;omega),TB (by rfl),TB (by simp;omega),TB (by rfl),TB (by simp;omega)]
  rw [drop_at (by omega:i<r.length),Nk hm,←hf i (by omega)]
  have h2:=ih (i+1) m (by omega)
  rw [List.range_succ,List.map_append,List.append_assoc] at h2
  exact h2
theorem DAm (s v W:List Int) (hW:∀ x ∈ W,R32 x) (hWl:W.length=64) (r:Reg) (hr:r.ok) (i m:Nat) (hi:i<64) :
  Ac (m+1) (.c0 r.a r.b r.c r.d r.e r.f r.g r.h (i:Int) s v W)=Ac m (.c0 (Oc r (keysL.getD i 0) (W.getD i 0)).a (Oc r (keysL.getD i 0) (W.getD i 0)).b (Oc r (keysL.getD i 0) (W.getD i 0)).c (Oc r (keysL.getD i 0) (W.getD i 0)).d (Oc r (keysL.getD i 0) (W.getD i 0)).e (Oc r (keysL.getD i 0) (W.getD i 0)).f (Oc r (keysL.getD i 0) (W.getD i 0)).g (Oc r (keysL.getD i 0) (W.getD i 0)).h ((i+1:Nat):Int) s v W):=by
 obtain ⟨h1,h2,h3,h4,h5,h6,h7,h8⟩:=hr
 have e:w64 ((i:Int)+1)=((i+1:Nat):Int):=by rw [w64_id (by omega) (by omega)];rfl
 rw [Ac]
 simp only [Pm,e,Int.toNat_natCast,hWl,OAl h5,PAl h5,QAl h5,LAl h1,MAl h1,NAl h1,Option.bind_some,Lc,HAM,KAi h5]
 rw [TB (by simp;omega),TB (by simp;omega),TB (by rw [Nat.blt_eq];omega),TB (by rfl),TB (by simp;omega)]
 rfl
theorem EAm (s v W:List Int) (hW:∀ x ∈ W,R32 x) (hWl:W.length=64) (r:Reg) (hr:r.ok):∀ (j i m:Nat),i+j=64→
  Ac (m+j+1) (.c0 (XY keysL W r i).a (XY keysL W r i).b (XY keysL W r i).c (XY keysL W r i).d (XY keysL W r i).e (XY keysL W r i).f (XY keysL W r i).g (XY keysL W r i).h (i:Int) s v W)=Ac m (.c1 0 s v (XY keysL W r 64).l):=by
 intro j
 induction j with
 | zero=>
  intro i m h
  obtain rfl:i=64:=by omega
  rw [Ac]
  simp only [Pm]
  rw [NM (by simp)]
  rfl
 | succ j ih=>
  intro i m h
  rw [show m+(j+1)+1=(m+j+1)+1 by omega,DAm s v W hW hWl _ (AAV keysL W hr i) i _ (by omega)]
  exact ih (i+1) m (by omega)
theorem FAm {s:Reg} (hs:s.ok) {b:ByteArray} (hb:b.size=64):Ej s.l b=some (comp s (bs b)).l:=by
 obtain ⟨m,hm⟩:∃ m,gas=(m+8+1)+64+1:=⟨gas - 74,by have:=gas_lt (n:=74) (by omega);omega⟩
 have hr:=NAB (LAM (Nb b) 16) 48
 have hl:=Sz (Jf (bs b) 16) 48
 have hsl:s.l.length=8:=rfl
 have z0:(0:Int).toNat=0:=rfl
 have z1:(1:Int).toNat=1:=rfl
 have z2:(2:Int).toNat=2:=rfl
 have z3:(3:Int).toNat=3:=rfl
 have z4:(4:Int).toNat=4:=rfl
 have z5:(5:Int).toNat=5:=rfl
 have z6:(6:Int).toNat=6:=rfl
 have z7:(7:Int).toNat=7:=rfl
 rw [Ej,KAJ,BAm hb,Option.bind_some,hm]
 simp only [hl,hsl,List.length_replicate,z0,z1,z2,z3,z4,z5,z6,z7]
 rw [TB (by rfl),TB (by rfl),TB (by rfl),TB (by rfl),TB (by rfl),TB (by rfl),TB (by rfl),TB (by rfl),TB (by rfl),TB (by rfl),TB (by rfl),TB (by rfl),TB (by rfl),TB (by rfl),TB (by rfl),TB (by rfl),TB (by rfl)]
 have h0:=EAm s.l [0,0,0,0,0,0,0,0] _ hr hl s hs 64 0 (m+8+1) (by omega)
 rw [show ((0:Nat):Int)=0 from rfl] at h0
 have hf:∀ i,i<8→(fun i=>w32 ((XY keysL (sched (YX (bs b) 16) 48) s 64).l.getD i 0+s.l.getD i 0)) i=w32 ((XY keysL (sched (YX (bs b) 16) 48) s 64).l.getD i 0+s.l.getD i 0):=fun _ _=>rfl
 have h1:=CAm s.l (XY keysL (sched (YX (bs b) 16) 48) s 64).l [0,0,0,0,0,0,0,0] rfl rfl _ hf rfl 8 0 m (by omega)
 rw [show ((0:Nat):Int)=0 from rfl,List.range_zero,List.map_nil,List.nil_append,List.drop_zero] at h1
 have e:(List.range 8).map (fun i=>w32 ((XY keysL (sched (YX (bs b) 16) 48) s 64).l.getD i 0+s.l.getD i 0))=(comp s (bs b)).l:=by
  apply List.ext_getElem
  ·rw [Reg.Uz,List.length_map,List.length_range]
  ·intro i h1 h2
   have hi:i<8:=by simpa using h1
   rw [List.getElem_map,List.getElem_range,←getD_at h2 0]
   rw [comp,JAV _ _ i hi,Int.add_comm]
 rw [e] at h1
 exact h0.trans h1
theorem GAm {s:Reg} (hs:s.ok) {t:ByteArray} (ht:t.size≤1000000000000):Kw s.l t=some ((comps (t.size / 64) s (bs t)).l,t.extract (64*(t.size / 64)) t.size):=by
 have key:∀ (j:Nat) (s:Reg) (t:ByteArray) (m:Nat),s.ok→t.size / 64=j→t.size≤1000000000000→Jw (m+j+1) (.c0 t s.l [0,0,0,0,0,0,0,0])=some ((comps j s (bs t)).l,t.extract (64*j) t.size):=by
  intro j
  induction j with
  | zero=>
   intro s t m hs hj ht
   rw [Jw]
   simp only [V9,Reg.Uz]
   rw [NM (by simp;omega),TB (by rfl),TB (by rfl),TB (by rfl)]
   congr 2
   apply Aa
   rw [BZ,List.take_of_length_le (by rw [bs_len];omega)]
   rfl
  | succ j ih=>
   intro s t m hs hj ht
   have h64:(64:Int).toNat=64:=rfl
   have e1:bs (t.extract 0 64)=(bs t).take 64:=by rw [BZ];rfl
   have e2:bs (t.extract 64 t.size)=(bs t).drop 64:=by rw [BZ,List.take_of_length_le (by rw [bs_len];omega)]
   rw [show m+(j+1)+1=(m+j+1)+1 by omega,Jw]
   simp only [V9,h64,Reg.Uz]
   rw [TB (by simp;omega),TB (by rfl),TB (by simp;omega)]
   rw [FAm hs (b:=t.extract 0 64) (by simp;omega),Option.bind_some]
   rw [Reg.Uz]
   rw [TB (by rfl)]
   rw [TB (by simp;omega)]
   rw [ih (comp s (bs (t.extract 0 64))) (t.extract 64 t.size) m (CAV _ _) (by simp;omega) (by simp;omega),e1,e2]
   have e3:(t.extract 64 t.size).extract (64*j) (t.extract 64 t.size).size=t.extract (64*(j+1)) t.size:=by
    apply Aa
    rw [BZ,e2,BZ,List.take_of_length_le (by simp [bs_len]),List.take_of_length_le (by rw [bs_len];omega),List.drop_drop]
    congr 1
    omega
   rw [e3,comps]
 obtain ⟨m,hm⟩:∃ m,gas=m+t.size / 64+1:=⟨gas - (t.size / 64+1),by have:=gas_lt (n:=t.size / 64+1) (by omega);omega⟩
 rw [Kw,MAJ,hm]
 exact key _ s t m hs rfl ht
theorem HAm {r:Reg} (hr:r.ok):Rw r.l=some (ofBytes (RX r.l)):=by
 have hl:r.l.length=8:=rfl
 have hrl:=Reg.Uk hr
 have hby:∀ i,VX (RX (r.l.take i)):=fun i=>MAM (fun x hx=>hrl x (List.mem_of_mem_take hx))
 have key:=loopN (A:=Unit) (n:=8) (Lp:=Qw) (st:=fun i _=>.c0 (ofBytes (RX (r.l.take i))) r.l (i:Int)) (Inv:=fun _ _=>True) (out:=fun _ _=>some (ofBytes (RX r.l)))
  (fun m _ _=>by
   rw [Qw]
   simp only [W9]
   rw [NM (by simp)]
   rfl)
  (fun m i _ hi _=>.inr ⟨(),by
   have e:w64 ((i:Int)+1)=((i+1:Nat):Int):=by rw [w64_id (by omega) (by omega)];rfl
   have hg:r.l.getD i 0=r.l[i]'(by omega):=getD_at (by omega) 0
   have hx:R32 (r.l.getD i 0):=Tz hrl i
   rw [Qw]
   simp only [W9,e,Int.toNat_natCast,JAB hx,Option.bind_some,hl]
   rw [TB (by simp;omega),TB (by rfl),TB (by simp;omega),TB (by rw [ofBytes_size,ofBytes_size,Tn];simp [four];omega)]
   congr 2
   apply Aa
   rw [NY,SN (hby i),SN (hby (i+1)),SN (Dk hx),take_at (by omega),EAV,hg]
   simp [RX],trivial,rfl⟩)
 rw [Rw,OAJ,hl,TB (by rfl)]
 exact key gas 0 () (Nat.zero_le _) (gas_lt (by omega)) trivial
theorem IAm:O9=some Cb.l:=rfl
theorem Oz {s:ByteArray} (hs:s.size≤1000000000):Bc s=some (ZY s):=by
 have h1:=OAB s.size
 have hsz:(s++ofBytes (DY s.size)).size=s.size+(DY s.size).length:=by rw [ByteArray.size_append,ofBytes_size]
 rw [Bc,PAJ,IAm,Option.bind_some,JAl (n:=s.size) (by omega),Option.bind_some,TB (by rw [ofBytes_size];simp;omega),GAm Xg (by omega),Option.bind_some]
 simp only [Reg.Uz]
 rw [TB (by rfl),TB (by rfl),HAm (Rk Xg _ _),Option.bind_some,hsz,NY,SN (NAM _),ZY,La,bs_len]
theorem RAW {s:ByteArray} {x:Int} (hs:s.size≤140737488351232):Rj s x=some (ofBytes (JZ x (bs s))):=by
 have hl:=bs_len s
 have key:=loopN (A:=Unit) (n:=(bs s).length) (Lp:=Vy) (st:=fun i _=>.c0 x ((bs s).length:Int) (i:Int) (((bs s).take i).map (fun b=>xb b x)++(bs s).drop i)) (Inv:=fun _ _=>True) (out:=fun _ _=>some (ofBytes (JZ x (bs s))))
  (fun m _ _=>by
   rw [Vy]
   simp only [QAA]
   rw [NM (by simp),List.take_length,List.drop_length,List.append_nil];rfl)
  (fun m i _ hi _=>.inr ⟨(),by
   have e:w64 ((i:Int)+1)=((i+1:Nat):Int):=by rw [w64_id (by omega) (by omega)];rfl
   have hlen:(((bs s).take i).map (fun b=>xb b x)++(bs s).drop i).length=(bs s).length:=by simp;omega
   rw [Vy]
   simp only [QAA,e,Int.toNat_natCast,hlen,VAB,VAk hi]
   rw [TB (by simp;omega),TB (by simp;omega),TB (by simp;omega),UAk (fun b=>xb b x) hi],trivial,rfl⟩)
 rw [Rj,DAL,TB (by simp;omega),Rz]
 exact key gas 0 () (Nat.zero_le _) (gas_lt (by omega)) trivial
theorem TAn {l:List Int} (h:VX l):VX (OY l):=fun x hx=>by
 simp only [OY,List.mem_append,List.mem_replicate] at hx
 rcases hx with hx | hx
 ·exact h x hx
 ·omega
theorem JAm {k:ByteArray} (h:k.size≤64):bs (k++ofBytes (List.replicate (64 - k.size) 0))=OY (bs k):=by
 rw [NY,SN (fun x hx=>by have:=List.eq_of_mem_replicate hx;omega),OY,bs_len]
theorem KAm {K:ByteArray} (h:K.size=64) {s:ByteArray}:ZY (ofBytes (JZ 92 (bs K))++ZY (ofBytes (JZ 54 (bs K))++s))=ofBytes (La (JZ 92 (bs K)++La (JZ 54 (bs K)++bs s))):=by
 rw [ZY,NY,PAB,NY,SN (XAB _ _),SN (XAB _ _)]
theorem SAW {k s:ByteArray} (hk:k.size≤900000000) (hs:s.size≤900000000):Ef k s=some (Zd k s):=by
 have fin:∀ {K:ByteArray} {m:Int},K.size≤64→m=((64 - K.size:Nat):Int)→∀ (f:Option ByteArray),f=some (ofBytes (La (JZ 92 (OY (bs K))++La (JZ 54 (OY (bs K))++bs s))))→
   ((Qd m).bind fun r1=>bif decide (K.size+r1.size≤9223372036854775807) then (Rj (K++r1) 92).bind fun r2=>(Rj (K++r1) 54).bind fun r3=>bif decide (r3.size+s.size≤9223372036854775807) then (Bc (r3++s)).bind fun r4=>bif decide (r2.size+r4.size≤9223372036854775807) then (Bc (r2++r4)).bind fun r5=>some r5 else none else none else none)=f:=by
  intro K m hK hm f hf
  have h64:(K++ofBytes (List.replicate (64 - K.size) 0)).size=64:=by rw [ByteArray.size_append,ofBytes_size,List.length_replicate];omega
  subst hm
  have x1:=WAB 92 (OY (bs K))
  have x2:=WAB 54 (OY (bs K))
  have x3:(OY (bs K)).length=64:=by rw [OY,List.length_append,List.length_replicate,bs_len];omega
  have hb:=JAm hK
  have hf2:=KAm h64 (s:=s)
  rw [hb] at hf2
  rw [DAM (by omega),Option.bind_some,TB (by rw [ofBytes_size,List.length_replicate,decide_eq_true_eq];omega),RAW (by omega),Option.bind_some,RAW (by omega),Option.bind_some,hb]
  rw [TB (by rw [ofBytes_size,decide_eq_true_eq];omega),Oz (by rw [ByteArray.size_append,ofBytes_size];omega),Option.bind_some,TB (by rw [ofBytes_size,Rf,decide_eq_true_eq];omega)]
  rw [Oz (by rw [ByteArray.size_append,ofBytes_size,Rf];omega),Option.bind_some,hf,hf2]
 rw [Ef,EAL]
 by_cases h:64<k.size
 ·rw [TB (by simp;omega),Oz (by omega),Option.bind_some]
  apply fin (by rw [Rf];omega) (by rw [Rf];decide)
  rw [Zd,Bd,Ad,if_pos (by rw [bs_len];omega),PAB]
 ·rw [NM (by simp;omega)]
  apply fin (by omega) (by rw [w64_id (by omega) (by omega)];omega)
  rw [Zd,Bd,Ad,if_neg (by rw [bs_len];omega)]
theorem LAm {k:ByteArray} {num n:Int} (hk:k.size≤900000000):Zy k num n=some (Zn k num n):=by
 rw [Zy,HAL,HAl,Option.bind_some,Zn,maskOk]
 cases h:FN num 0 1000000000
 ·rfl
 ·rw [SX] at h
  rw [cond_true,NM (by rfl),Ic,Option.bind_some]
  cases h2:FN n 0 8000
  ·rfl
  ·rw [SX] at h2
   rw [NM (by rfl),Bool.and_self,cond_true]
   have hv:=GZ (n:=num) (by omega)
   have hvb:=Zk h.1
   have key:=loopN (A:=Unit) (n:=(n.toNat+31) / 32) (Lp:=Yy) (st:=fun i _=>.c0 k n (ofBytes (IK num)) (ofBytes (Ae (bs k) (IK num) i)) (i:Int)) (Inv:=fun _ _=>True) (out:=fun _ _=>some (ofBytes (UY (bs k) (IK num) n.toNat),true))
    (fun m _ _=>by
     rw [Yy]
     simp only [RAA]
     rw [NM (by rw [ofBytes_size,Xf,decide_eq_false_iff_not];omega),TB (by rw [ofBytes_size,Xf];simp;omega)]
     refine congrArg (fun x=>some (x,true)) (Aa ?_)
     rw [BZ,SN (YAB _ _ _),SN (AAN _ _ _),UY,List.drop_zero])
    (fun m i _ hi _=>.inr ⟨(),by
     have e:w64 ((i:Int)+1)=((i+1:Nat):Int):=by rw [w64_id (by omega) (by omega)];rfl
     have h9:(⟨#[109]⟩:ByteArray).size=1:=rfl
     rw [Yy]
     simp only [RAA,e]
     rw [TB (by rw [ofBytes_size,Xf,decide_eq_true_eq];omega),TB (by rw [ofBytes_size,h9,decide_eq_true_eq];omega),Bl (by omega) (by omega),Option.bind_some,TB (by rw [ByteArray.size_append,ofBytes_size,ofBytes_size,h9,decide_eq_true_eq,List.length_singleton];omega)]
     rw [SAW hk (by rw [ByteArray.size_append,ByteArray.size_append,ofBytes_size,ofBytes_size,h9,List.length_singleton];omega),Option.bind_some,EAW k h.1 h.2 i (by omega),TB (by rw [ofBytes_size,ofBytes_size,Xf,Yn,decide_eq_true_eq];omega)]
     rw [show ofBytes (Ae (bs k) (IK num) i)++ofBytes (Bd (bs k) (109::(IK num++[(i:Int)])))=ofBytes (Ae (bs k) (IK num) (i+1)) from Aa (by
      rw [NY,SN (YAB _ _ _),SN (YAB _ _ _),SN (Zz _ _),Ae])],trivial,rfl⟩)
   exact key gas 0 () (Nat.zero_le _) (gas_lt (by omega)) trivial
theorem MAm {k s:ByteArray} {num:Int} (hk:k.size≤900000000) (hn:0≤num∧num≤1000000000) (hs:s.size≤800000000):Az k num s=some (ofBytes (OZ (bs k) num (bs s))):=by
 have hv:=GZ (n:=num) (by omega)
 have h9:(⟨#[116]⟩:ByteArray).size=1:=rfl
 have e:bs (⟨#[116]⟩:ByteArray)=[116]:=rfl
 have h16:(16:Int).toNat=16:=rfl
 rw [Az,JAL,Ik (by omega),Option.bind_some,TB (by rw [ofBytes_size,h9,decide_eq_true_eq];omega),TB (by rw [ByteArray.size_append,ofBytes_size,h9,decide_eq_true_eq];omega)]
 rw [SAW hk (by rw [ByteArray.size_append,ByteArray.size_append,ofBytes_size,h9];omega),Option.bind_some,TB (by rw [DAW];decide)]
 refine congrArg some (Aa ?_)
 rw [BZ,CAW,h16,SN (O0 _ _ _),NY,NY,e,SN (Zk hn.1),OZ,List.drop_zero,List.append_assoc]
 rfl
theorem NAm {a b:ByteArray} (ha:a.size≤140737488351232) (h:a.size≤b.size):Ez a b=some (ofBytes (EY (bs a) (bs b))):=by
 have hl:=bs_len a
 have hl2:=bs_len b
 have key:=loopN (A:=Unit) (n:=(bs a).length) (Lp:=Dz) (st:=fun i _=>.c0 b ((bs a).length:Int) (i:Int) (List.zipWith xb ((bs a).take i) ((bs b).take i)++(bs a).drop i)) (Inv:=fun _ _=>True) (out:=fun _ _=>some (ofBytes (EY (bs a) (bs b))))
  (fun m _ _=>by
   rw [Dz]
   simp only [SAA]
   rw [NM (by simp),List.take_length,List.drop_length,List.append_nil,EY,BAN])
  (fun m i _ hi _=>.inr ⟨(),by
   have e:w64 ((i:Int)+1)=((i+1:Nat):Int):=by rw [w64_id (by omega) (by omega)];rfl
   have hlen:(List.zipWith xb ((bs a).take i) ((bs b).take i)++(bs a).drop i).length=(bs a).length:=by simp;omega
   rw [Dz]
   simp only [SAA,e,Int.toNat_natCast,hlen,VAB,HAW hi (show i<(bs b).length by omega)]
   rw [TB (by simp;omega),TB (by simp;omega),TB (by simp;omega),TB (by simp;omega),Mc (by omega),GAW hi (by omega)],trivial,rfl⟩)
 rw [Ez,LAL,TB (by simp;omega),Rz]
 exact key gas 0 () (Nat.zero_le _) (gas_lt (by omega)) trivial
theorem TAW (t:ByteArray) {n:Nat} (h:t.size=n+16):bs (t.extract 0 n)=(bs t).take (t.size - 16)∧bs (t.extract n t.size)=(bs t).drop (t.size - 16):=by
 rw [BZ,BZ,List.take_of_length_le (by rw [bs_len];omega:(bs t).length≤t.size),h,Nat.add_sub_cancel]
 exact ⟨rfl,rfl⟩
theorem FAg {k t:ByteArray} {num:Int} (hk:k.size≤900000000) (ht:t.size≤800000000):Sj k num t=some (QX k num t):=by
 rw [Sj,MAL,QX]
 have hw:w64 ((t.size:Int) - 16)=(t.size:Int) - 16:=w64_id (by omega) (by omega)
 rw [hw]
 by_cases h:t.size<16
 ·rw [TB (by simp;omega),TB (by simp;omega)]
 ·obtain ⟨n,hn⟩:∃ n,t.size=n+16:=⟨t.size - 16,by omega⟩
  obtain ⟨e1,e2⟩:=TAW t hn
  have hz:(t.size:Int) - 16=(n:Int):=by omega
  have hb:=bs_len t
  rw [NM (by simp;omega),LAm hk,Option.bind_some,Zn,hz,show decide ((t.size:Int)<16)=false by simp;omega,Bool.false_or]
  cases hm:maskOk num n
  ·rfl
  ·have h':=IAW.1 hm
   have hml:=Ce (bs k) (IK num) n
   have hes:(t.extract 0 n).size=n:=by simp;omega
   rw [Bool.not_true,cond_false,cond_true,NM (by rfl),Int.toNat_natCast,TB (by simp;omega),MAm hk h'.1 (by omega),Option.bind_some,TB (by simp;omega),Yj,SN (O0 _ _ _),e1,e2]
   cases hc:(OZ (bs k) num ((bs t).take (t.size - 16)) == (bs t).drop (t.size - 16))
   ·rfl
   ·rw [Bool.not_true,cond_false,TB (by simp;omega),NAm (by omega) (by rw [ofBytes_size,hml];omega),Option.bind_some,SN (AAN _ _ _),e1,cond_true,show t.size - 16=n by omega]
theorem OAm {k t:ByteArray} {num:Int} (hk:k.size≤900000000) (ht:t.size≤800000000):Zi k num t=some (QX k num t):=by
 rw [Zi,LAI,QX]
 have hw:w64 ((t.size:Int) - 16)=(t.size:Int) - 16:=w64_id (by omega) (by omega)
 rw [hw]
 by_cases h:t.size<16
 ·rw [TB (by simp;omega),TB (by simp;omega)]
 ·obtain ⟨n,hn⟩:∃ n,t.size=n+16:=⟨t.size - 16,by omega⟩
  obtain ⟨e1,e2⟩:=TAW t hn
  have hz:(t.size:Int) - 16=(n:Int):=by omega
  have hb:=bs_len t
  have hes:(t.extract 0 n).size=n:=by simp;omega
  rw [NM (by simp;omega),hz,Int.toNat_natCast,hes,TB (by simp;omega),EAl hk,Option.bind_some,Zn,show decide ((t.size:Int)<16)=false by simp;omega,Bool.false_or]
  cases hm:maskOk num n
  ·rfl
  ·have h':=IAW.1 hm
   have hml:=Ce (bs k) (IK num) n
   rw [Bool.not_true,cond_false,cond_true,NM (by rfl),Int.toNat_natCast,FAl hk h'.1 (by omega),Option.bind_some,TB (by simp;omega)]
   simp only [Y8,IAI,Option.bind_some,Yj,SN (O0 _ _ _),e1,e2]
   cases hc:(OZ (bs k) num ((bs t).take (t.size - 16)) == (bs t).drop (t.size - 16))
   ·rfl
   ·rw [Bool.not_true,cond_false,GAl (by omega) (by rw [ofBytes_size,hml];omega),Option.bind_some,SN (AAN _ _ _),e1,cond_true,show t.size - 16=n by omega]
def Zg (text:ByteArray) (c:SL19Cur):Prop:=∃ p:Nat,∃ b:Bool,c=⟨text,(p:Int),b⟩∧p≤text.size
theorem EAC {text:ByteArray} {c:SL19Cur} (hs:text.size≤140737488351232) (h:Zg text c):∃ v c',Zb c=some (v,c')∧Zg text c'∧0≤v∧v≤1000000000:=by
 obtain ⟨p,b,rfl,hp⟩:=h
 obtain ⟨r,hr,hR⟩:=MAk hs hp
 simp only [Zb,H9,hr,Option.bind_some]
 cases b
 ·rcases hR with rfl | ⟨v,q,rfl,h0,h1,_,h3⟩
  ·exact ⟨_,_,rfl,⟨p,true,rfl,hp⟩,by omega,by omega⟩
  ·exact ⟨_,_,rfl,⟨q,false,rfl,h3⟩,h0,h1⟩
 ·exact ⟨_,_,rfl,⟨p,true,rfl,hp⟩,by omega,by omega⟩
theorem X0 {text:ByteArray} {a:Nat} {V:Int} (hs:text.size≤140737488351232) (hV0:0≤V) (hV:V≤1000000000) (hA:At text a (IK V)):Zb ⟨text,(a:Int),false⟩=some (V,⟨text,((a+(IK V).length:Nat):Int),false⟩):=by
 simp only [Zb,H9,ZAM hs hV0 hV hA,Option.bind_some]
 rfl
theorem HAN {text:ByteArray} {c:SL19Cur} {n:Int} (hs:text.size≤140737488351232) (h:Zg text c) (h0:0≤n) (h1:n≤1000000000):∃ s c',Ua c n=some (s,c')∧Zg text c'∧s.size≤1000000000∧(c'.fBad=false→(s.size:Int)=n∧c.fAt+n≤(text.size:Int)):=by
 obtain ⟨p,b,rfl,hp⟩:=h
 simp only [Ua,D9]
 have e1:w64 ((text.size:Int) - (p:Int))=(text.size:Int) - p:=w64_id (by omega) (by omega)
 have e2:w64 ((p:Int)+n)=p+n:=w64_id (by omega) (by omega)
 have e3:w64 ((p:Int)+n - n)=p:=by rw [w64_id (by omega) (by omega)];omega
 rw [e1,e2,e3]
 cases b
 ·by_cases hn:n > (text.size:Int) - p
  ·rw [show decide (n > (text.size:Int) - p)=true from decide_eq_true hn]
   exact ⟨_,_,rfl,⟨p,true,rfl,hp⟩,by show 0≤_;omega,fun h=>by cases h⟩
  ·rw [show decide (n > (text.size:Int) - p)=false from decide_eq_false hn,show decide ((0:Int)≤(p:Int))=true from decide_eq_true (by omega),show decide ((p:Int)≤p+n)=true from decide_eq_true (by omega),show decide ((p:Int)+n≤(text.size:Int))=true from decide_eq_true (by omega)]
   have hz:(text.extract (p:Int).toNat ((p:Int)+n).toNat).size=n.toNat:=by rw [ByteArray.size_extract];omega
   refine ⟨_,_,rfl,⟨((p:Int)+n).toNat,false,?_,by omega⟩,by rw [hz];omega,fun _=>⟨by rw [hz];omega,by show (p:Int)+n≤_;omega⟩⟩
   rw [Int.toNat_of_nonneg (by omega)]
 ·exact ⟨_,_,rfl,⟨p,true,rfl,hp⟩,by show 0≤_;omega,fun h=>by cases h⟩
theorem IAN {text:ByteArray} {p:Nat} {s:ByteArray} (hs:text.size≤140737488351232) (hA:At text p (bs s)) (hp:p≤text.size):Ua ⟨text,(p:Int),false⟩ (s.size:Int)=some (s,⟨text,((p+s.size:Nat):Int),false⟩):=by
 have hz:p+s.size≤text.size:=by
  rcases hA.size with h | h
  ·have:=congrArg List.length h;rw [bs_len,List.length_nil] at this;omega
  ·rw [bs_len] at h;exact h
 have e1:w64 ((text.size:Int) - (p:Int))=(text.size:Int) - p:=w64_id (by omega) (by omega)
 have e2:w64 ((p:Int)+(s.size:Int))=((p+s.size:Nat):Int):=by rw [w64_id (by omega) (by omega)];omega
 have e3:w64 (((p+s.size:Nat):Int) - (s.size:Int))=p:=by rw [w64_id (by omega) (by omega)];omega
 simp only [Ua,D9,e1,e2,e3,Int.toNat_natCast]
 have hx:=hA.extract (fun n hn=>KAM hn)
 rw [bs_len,LAB] at hx
 rw [show decide ((s.size:Int) > (text.size:Int) - p)=false from decide_eq_false (by omega),show decide ((0:Int)≤(p:Int))=true from decide_eq_true (by omega),show decide ((p:Int)≤((p+s.size:Nat):Int))=true from decide_eq_true (by omega),show decide (((p+s.size:Nat):Int)≤(text.size:Int))=true from decide_eq_true (by omega),hx]
 rfl
theorem JAN {text:ByteArray} {c:SL19Cur} (hs:text.size≤140737488351232) (h:Zg text c):∃ v c',Va c=some (v,c')∧Zg text c'∧0≤v∧v≤255∧(c'.fBad=true→v=0)∧(c'.fBad=false→c.fAt+1≤(text.size:Int)):=by
 obtain ⟨s,c',e,hc,_,hn⟩:=HAN (n:=1) hs h (by omega) (by omega)
 simp only [Va,G9,e,Option.bind_some]
 cases hb:c'.fBad
 ·obtain ⟨h1,h2⟩:=hn hb
  rw [show decide ((0:Int)≤(0:Int))=true from rfl,show decide ((0:Int)<(s.size:Int))=true from decide_eq_true (by omega)]
  have:=Hf s 0
  rw [w64_id (n:=bt s 0) (by omega) (by omega)]
  exact ⟨_,_,rfl,hc,this.1,this.2,fun h=>(by rw [hb] at h;cases h),fun _=>h2⟩
 ·exact ⟨_,_,rfl,hc,by omega,by omega,fun _=>rfl,fun h=>(by rw [hb] at h;cases h)⟩
theorem Bo {text:ByteArray} {p:Nat} {b:Int} (hs:text.size≤140737488351232) (hA:At text p [b]):Va ⟨text,(p:Int),false⟩=some (b,⟨text,((p+1:Nat):Int),false⟩):=by
 obtain ⟨h1,h2⟩:=hA.head
 have hb:=Hf text p
 rw [h2] at hb
 have hB:bs (ofBytes [b])=[b]:=SN (by simpa using hb)
 have e:=IAN (s:=ofBytes [b]) hs (by rw [hB];exact hA) (Nat.le_of_lt h1)
 have h0:bt (ofBytes [b]) 0=b:=by
  have:=MAB (s:=ofBytes [b]) (i:=0) (by rw [ofBytes_size];simp)
  simp only [hB] at this
  exact this
 simp only [Va,G9]
 rw [show Ua ⟨text,(p:Int),false⟩ 1=_ from e]
 simp only [Option.bind_some,h0,w64_id (n:=b) (by omega) (by omega)]
 rfl
theorem PAm {text:ByteArray} {c:SL19Cur} (hs:text.size≤140737488351232) (h:Zg text c):∃ s c',Aj c=some (s,c')∧Zg text c'∧s.size≤1000000000:=by
 obtain ⟨v,c1,e1,h1,h2,h3⟩:=EAC hs h
 obtain ⟨s,c2,e2,h4,h5,_⟩:=HAN hs h1 h2 h3
 simp only [Aj,I9,e1,e2,Option.bind_some]
 exact ⟨_,_,rfl,h4,h5⟩
theorem QAm {text:ByteArray} {p:Nat} {s:ByteArray} (hs:text.size≤140737488351232) (hz:s.size≤1000000000) (hA:At text p (IK (s.size:Int)++bs s)):Aj ⟨text,(p:Int),false⟩=some (s,⟨text,((p+(IK (s.size:Int)).length+s.size:Nat):Int),false⟩):=by
 have hp:p+(IK (s.size:Int)).length≤text.size:=by
  rcases hA.left.size with h | h
  ·have:=Nc (s.size:Int);rw [h] at this;simp at this
  ·exact h
 simp only [Aj,I9,X0 hs (by omega) (by omega) hA.left,IAN hs hA.right hp,Option.bind_some]
def UAn (f:Int) (h a b c:Bool):Prop:=f=(bif h then 1 else 0)+(bif a then 2 else 0)+(bif b then 4 else 0)+(bif c then 8 else 0)
theorem RAm (x:SThing):(((TY x).tmod 2 == 1)=x.fHidden)∧(((w64 ((TY x).tdiv 2)).tmod 2 == 1)=x.fFixed)∧(((w64 ((TY x).tdiv 4)).tmod 2 == 1)=x.fSigns)∧(((w64 ((TY x).tdiv 8)).tmod 2 == 1)=x.fWraps):=by
 unfold TY
 cases x.fHidden <;> cases x.fFixed <;> cases x.fSigns <;> cases x.fWraps <;> decide
theorem UAW {x:SThing} (h:FY x=true):bs (Yd x)=IK x.fId++([x.fKind]++([TY x]++((IK (x.fValue.size:Int)++bs x.fValue)++IK x.fNext))):=by
 obtain ⟨k1,k2,k3,k4,k5,k6,k7⟩:=Ud h
 have hf:=Xz x
 unfold Yd Tc
 simp only [NY,SN (Yc x.fId (by omega)),SN (Yc x.fNext (by omega)),SN (Yc (x.fValue.size:Int) (by omega)),SN (l:=[x.fKind]) (by simp;omega),SN (l:=[TY x]) (by simp;omega),List.append_assoc]
def KAN (text:ByteArray) (r:SThing×Bool):Prop:=(r.2=true∧CY r.1=(text,true))∨r=(⟨(0:Int),(0:Int),false,false,false,false,(⟨#[]⟩:ByteArray),(0:Int)⟩,false)
theorem VAW {text:ByteArray} (hs:text.size≤140737488351232):∃ r,Bg text=some r∧KAN text r:=by
 obtain ⟨v0,c0,e0,h0,_⟩:=EAC hs (c:=⟨text,(0:Int),false⟩) ⟨0,false,rfl,by omega⟩
 obtain ⟨v1,c1,e1,h1,_⟩:=JAN hs h0
 obtain ⟨v2,c2,e2,h2,_⟩:=JAN hs h1
 obtain ⟨v3,c3,e3,h3,_⟩:=PAm hs h2
 obtain ⟨v4,c4,e4,h4,_⟩:=EAC hs h3
 simp only [Bg,J9,e0,e1,e2,e3,e4,TAM,Option.bind_some]
 cases c4.fBad
 ·cases h5:(CY (⟨v0,v1,v2.tmod 2 == 1,(w64 (v2.tdiv 2)).tmod 2 == 1,(w64 (v2.tdiv 4)).tmod 2 == 1,(w64 (v2.tdiv 8)).tmod 2 == 1,v3,v4⟩:SThing)).2
  ·exact ⟨_,rfl,.inr rfl⟩
  ·rw [toList_inj]
   by_cases h6:(CY (⟨v0,v1,v2.tmod 2 == 1,(w64 (v2.tdiv 2)).tmod 2 == 1,(w64 (v2.tdiv 4)).tmod 2 == 1,(w64 (v2.tdiv 8)).tmod 2 == 1,v3,v4⟩:SThing)).1=text
   ·rw [decide_eq_true h6];exact ⟨_,rfl,.inl ⟨rfl,Prod.ext h6 h5⟩⟩
   ·rw [decide_eq_false h6];exact ⟨_,rfl,.inr rfl⟩
 ·exact ⟨_,rfl,.inr rfl⟩
theorem WAW {text:ByteArray} {x:SThing} (h:CY x=(text,true)):FY x=true∧text=Yd x:=by
 unfold CY at h
 cases ho:FY x <;> rw [ho] at h
 ·simp at h
 ·exact ⟨rfl,(congrArg Prod.fst h).symm⟩
theorem XAW {text:ByteArray} {x:SThing} (hs:text.size≤140737488351232) (h:CY x=(text,true)):Bg text=some (x,true):=by
 obtain ⟨ho,rfl⟩:=WAW h
 obtain ⟨k1,k2,k3,k4,k5,k6,k7⟩:=Ud ho
 have hf:=Xz x
 have hA:At (Yd x) 0 _:=⟨[],by rw [List.drop_zero,UAW ho,List.append_nil]⟩
 have a1:=hA.right
 have a2:=a1.right
 have a3:=a2.right
 have a4:=a3.right
 have e0:=X0 hs (by omega) (by omega) hA.left
 have e1:=Bo hs a1.left
 have e2:=Bo hs a2.left
 have e3:=QAm hs (by omega) a3.left
 have e4:=X0 hs (by omega) (by omega) a4
 simp only [List.length_append,bs_len,List.length_singleton,Nat.zero_add,←Nat.add_assoc] at e0 e1 e2 e3 e4
 obtain ⟨b1,b2,b3,b4⟩:=RAm x
 simp only [Bg,J9]
 rw [show ((0:Int))=((0:Nat):Int) from rfl,e0]
 simp only [e1,e2,e3,e4,Option.bind_some,b1,b2,b3,b4,TAM,h,toList_self]
 rfl
def KZ:SRec:=⟨(0:Int),(⟨#[]⟩:ByteArray),(0:Int),(⟨(0:Int),(0:Int),false,false,false,false,(⟨#[]⟩:ByteArray),(0:Int)⟩:SThing)⟩
def Eo (text:ByteArray) (r:SRec×Bool):Prop:=(r.2=true∧TT r.1=(text,true))∨r=(KZ,false)
theorem Ho {text:ByteArray} (x:SRec) (bad:Bool):∃ r,(bif bad then some (KZ,false) else bif !(TT x).2 then some (KZ,false) else bif !((ByteArray.toList (TT x).1) == (ByteArray.toList text)) then some (KZ,false) else some (x,true))=some r∧Eo text r:=by
 cases bad
 ·cases h5:(TT x).2
  ·exact ⟨_,rfl,.inr rfl⟩
  ·rw [toList_inj]
   by_cases h6:(TT x).1=text
   ·rw [decide_eq_true h6];exact ⟨_,rfl,.inl ⟨rfl,Prod.ext h6 h5⟩⟩
   ·rw [decide_eq_false h6];exact ⟨_,rfl,.inr rfl⟩
 ·exact ⟨_,rfl,.inr rfl⟩
theorem LAN {text:ByteArray} (hs:text.size≤140737488351232):∃ r,VZ text=some r∧Eo text r:=by
 obtain ⟨v0,c0,e0,h0,_,_,hz,hn⟩:=JAN hs (c:=⟨text,(0:Int),false⟩) ⟨0,false,rfl,by omega⟩
 obtain ⟨v1,c1,e1,h1,_⟩:=HAN (n:=32) hs h0 (by omega) (by omega)
 obtain ⟨v3,c3,e3,h3,_⟩:=EAC hs h0
 simp only [VZ,Bj,e0,e1,e3,Un,Option.bind_some]
 cases v0 == 1
 ·simp only [cond_false]
  cases v0 == 2
  ·simp only [cond_false]
   cases v0 == 4
   ·simp only [cond_false]
    cases h:v0 == 3
    ·exact Ho _ _
    ·have hv:v0=3:=beq_iff_eq.1 h
     have hsz:(0:Int)+1≤(text.size:Int):=by
      cases hb:c0.fBad
      ·exact hn hb
      ·have:=hz hb;omega
     obtain ⟨r,e5,_⟩:=VAW (text:=text.extract (1:Int).toNat text.size) (by rw [ByteArray.size_extract];omega)
     rw [show decide ((1:Int)≤(text.size:Int))=true from decide_eq_true (by omega),e5]
     exact Ho _ _
   ·exact Ho _ _
  ·exact Ho _ _
 ·exact Ho _ _
theorem YAW {text:ByteArray} {x:SRec} (h:TT x=(text,true)) :
  (∃ s:ByteArray,x=⟨1,s,0,KZ.fThing⟩∧s.size=32∧text=ofBytes [1]++s)∨(∃ n:Int,x=⟨2,KZ.fText,n,KZ.fThing⟩∧0≤n∧n≤3∧text=ofBytes [2]++ofBytes (IK n))∨
  (∃ t:SThing,∃ s:ByteArray,x=⟨3,KZ.fText,0,t⟩∧CY t=(s,true)∧text=ofBytes [3]++s)∨(∃ n:Int,x=⟨4,KZ.fText,n,KZ.fThing⟩∧1≤n∧n≤1000∧text=ofBytes [4]++ofBytes (IK n)):=by
 have hE:∀ s:ByteArray,GY s=true→s=⟨#[]⟩:=fun s h=>by unfold GY at h;rw [toList_inj] at h;exact of_decide_eq_true h
 have hZ:∀ t:SThing,JY t=true→t=KZ.fThing:=fun t h=>by
  unfold JY at h
  simp only [UAM] at h
  obtain ⟨t1,t2,t3,t4,t5,t6,t7,t8⟩:=t
  simp only [Bool.and_eq_true,beq_iff_eq] at h
  obtain ⟨rfl,rfl,rfl,rfl,rfl,rfl,h7,rfl,_⟩:=h
  rw [hE _ h7];rfl
 obtain ⟨k,s,n,t⟩:=x
 unfold TT at h
 simp only at h
 cases k1:k == 1 <;> rw [k1] at h
 ·cases k2:k == 2 <;> rw [k2] at h
  ·cases k3:k == 3 <;> rw [k3] at h
   ·cases k4:k == 4 <;> rw [k4] at h
    ·exact Bool.noConfusion (congrArg Prod.snd h)
    ·simp only [cond_false,cond_true] at h
     cases hc:GY s && JY t && FN n 1 1000 <;> rw [hc] at h
     ·exact Bool.noConfusion (congrArg Prod.snd h)
     ·simp only [Bool.and_eq_true,SX] at hc
      refine .inr (.inr (.inr ⟨n,?_,hc.2.1,hc.2.2,(congrArg Prod.fst h).symm⟩))
      rw [beq_iff_eq.1 k4,hE _ hc.1.1,hZ _ hc.1.2];rfl
   ·simp only [cond_false,cond_true] at h
    cases hc:(CY t).2 && GY s && n == 0 <;> rw [hc] at h
    ·exact Bool.noConfusion (congrArg Prod.snd h)
    ·simp only [Bool.and_eq_true,beq_iff_eq] at hc
     refine .inr (.inr (.inl ⟨t,(CY t).1,?_,Prod.ext rfl hc.1.1,(congrArg Prod.fst h).symm⟩))
     rw [beq_iff_eq.1 k3,hE _ hc.1.2,hc.2];rfl
  ·simp only [cond_false,cond_true] at h
   cases hc:GY s && JY t && FN n 0 3 <;> rw [hc] at h
   ·exact Bool.noConfusion (congrArg Prod.snd h)
   ·simp only [Bool.and_eq_true,SX] at hc
    refine .inr (.inl ⟨n,?_,hc.2.1,hc.2.2,(congrArg Prod.fst h).symm⟩)
    rw [beq_iff_eq.1 k2,hE _ hc.1.1,hZ _ hc.1.2];rfl
 ·simp only [cond_false,cond_true] at h
  cases hc:(s.size:Int) == 32 && n == 0 && JY t <;> rw [hc] at h
  ·exact Bool.noConfusion (congrArg Prod.snd h)
  ·simp only [Bool.and_eq_true,beq_iff_eq] at hc
   refine .inl ⟨s,?_,by omega,(congrArg Prod.fst h).symm⟩
   rw [beq_iff_eq.1 k1,hZ _ hc.2,hc.1.2]
theorem Dl {k:Int} {s:ByteArray} (h0:0≤k) (h1:k≤255):At (ofBytes [k]++s) 0 ([k]++bs s):=⟨[],by rw [List.drop_zero,NY,SN (by simp;omega),List.append_nil]⟩
theorem MAN {k:Int} {s:ByteArray}:(ofBytes [k]++s).extract (1:Int).toNat (ofBytes [k]++s).size=s:=by
 apply Aa
 rw [BZ,←bs_len,List.take_length,NY]
 rfl
theorem SAm {text:ByteArray} {x:SRec} (hs:text.size≤140737488351232) (h:TT x=(text,true)):VZ text=some (x,true):=by
 rcases YAW h with ⟨s,rfl,hz,rfl⟩ | ⟨n,rfl,h0,h1,rfl⟩ | ⟨t,s,rfl,ht,rfl⟩ | ⟨n,rfl,h0,h1,rfl⟩
 ·have hA:=Dl (k:=1) (s:=s) (by omega) (by omega)
  have e0:=Bo hs hA.left
  have e1:=IAN hs hA.right (by rw [ba_append_size,ofBytes_size];simp)
  simp only [List.length_singleton,Nat.zero_add,hz] at e0 e1
  simp only [VZ,Bj]
  rw [show Va ⟨ofBytes [1]++s,(0:Int),false⟩=_ from e0]
  simp only [Option.bind_some]
  rw [show Ua ⟨ofBytes [1]++s,((1:Nat):Int),false⟩ 32=_ from e1]
  have h':TT ⟨1,s,0,⟨(0:Int),(0:Int),false,false,false,false,(⟨#[]⟩:ByteArray),(0:Int)⟩⟩=_:=h
  simp only [Option.bind_some,Un,h',toList_self]
  rfl
 ·have hA:=Dl (k:=2) (s:=ofBytes (IK n)) (by omega) (by omega)
  rw [SN (Yc n h0)] at hA
  have e0:=Bo hs hA.left
  have e1:=X0 hs (by omega) (by omega) hA.right
  simp only [List.length_singleton,Nat.zero_add] at e0 e1
  simp only [VZ,Bj]
  rw [show Va ⟨ofBytes [2]++ofBytes (IK n),(0:Int),false⟩=_ from e0]
  have h':TT ⟨2,⟨#[]⟩,n,⟨(0:Int),(0:Int),false,false,false,false,(⟨#[]⟩:ByteArray),(0:Int)⟩⟩=_:=h
  simp only [Option.bind_some,e1,Un,h',toList_self]
  rfl
 ·have hA:=Dl (k:=3) (s:=s) (by omega) (by omega)
  have e0:=Bo hs hA.left
  have hsz:s.size≤140737488351232:=by rw [ba_append_size] at hs;omega
  have e1:=XAW hsz ht
  simp only [List.length_singleton,Nat.zero_add] at e0
  simp only [VZ,Bj]
  rw [show Va ⟨ofBytes [3]++s,(0:Int),false⟩=_ from e0]
  have h':TT ⟨3,⟨#[]⟩,0,t⟩=_:=h
  have hd:decide ((1:Int)≤((ofBytes [3]++s).size:Int))=true:=decide_eq_true (by rw [ba_append_size,ofBytes_size];simp only [List.length_singleton];omega)
  simp only [Option.bind_some,MAN,e1,Un,h',toList_self,hd]
  rfl
 ·have hA:=Dl (k:=4) (s:=ofBytes (IK n)) (by omega) (by omega)
  rw [SN (Yc n (by omega))] at hA
  have e0:=Bo hs hA.left
  have e1:=X0 hs (by omega) (by omega) hA.right
  simp only [List.length_singleton,Nat.zero_add] at e0 e1
  simp only [VZ,Bj]
  rw [show Va ⟨ofBytes [4]++ofBytes (IK n),(0:Int),false⟩=_ from e0]
  have h':TT ⟨4,⟨#[]⟩,n,⟨(0:Int),(0:Int),false,false,false,false,(⟨#[]⟩:ByteArray),(0:Int)⟩⟩=_:=h
  simp only [Option.bind_some,e1,Un,h',toList_self]
  rfl
theorem Y0:∀ {a m:List Int},VX a→a.length≤m.length→EY (EY a m) m=a
 | [],_,_,_=>by simp [EY]
 | _::_,[],_,h=>by simp at h
 | x::a,y::m,hb,h=>by
  have h1:=Y0 (a:=a) (m:=m) (fun n hn=>hb n (List.mem_cons_of_mem _ hn)) (by simpa using h)
  simp only [EY] at h1 ⊢
  rw [List.zipWith_cons_cons,List.zipWith_cons_cons,h1,SAk (hb x (List.mem_cons_self ..))]
theorem TAm {k t:ByteArray} {num:Int} (h:(QX k num t).2=true):16≤t.size∧maskOk num ((t.size:Int) - 16)=true∧OZ (bs k) num ((bs t).take (t.size - 16))=(bs t).drop (t.size - 16)∧bs (QX k num t).1=EY ((bs t).take (t.size - 16)) (UY (bs k) (IK num) (t.size - 16))∧bs t=(bs t).take (t.size - 16)++OZ (bs k) num ((bs t).take (t.size - 16)):=by
 rw [QX] at h ⊢
 cases h1:decide ((t.size:Int)<16) || !(maskOk num ((t.size:Int) - 16))
 ·rw [h1,cond_false] at h
  rw [Bool.or_eq_false_iff,decide_eq_false_iff_not,Bool.not_eq_false'] at h1
  cases h2:(OZ (bs k) num ((bs t).take (t.size - 16)) == (bs t).drop (t.size - 16))
  ·rw [h2] at h;cases h
  ·rw [cond_false,cond_true,SN (FAW _ _)]
   have h3:=beq_iff_eq.1 h2
   exact ⟨by omega,h1.2,h3,rfl,by rw [h3,List.take_append_drop]⟩
 ·rw [h1] at h;cases h
theorem BAM (k t:ByteArray) (num:Int):(QX k num t).1.size≤t.size:=by
 have hl:=bs_len t
 rw [QX]
 cases decide ((t.size:Int)<16) || !(maskOk num ((t.size:Int) - 16))
 ·rw [cond_false]
  cases (OZ (bs k) num ((bs t).take (t.size - 16)) == (bs t).drop (t.size - 16))
  ·exact Nat.zero_le _
  ·rw [cond_true,ofBytes_size,EY,List.length_zipWith,List.length_take];omega
 ·exact Nat.zero_le _
theorem VAn {k:ByteArray} {num:Int} {s:List Int} (hs:VX s) (hm:maskOk num s.length=true):QX k num (ofBytes (Ba (bs k) num s))=(ofBytes s,true):=by
 have hx:(EY s (UY (bs k) (IK num) s.length)).length=s.length:=ZAB (by rw [Ce];omega)
 have hb:VX (Ba (bs k) num s):=fun x hx=>by
  rcases List.mem_append.1 hx with hx | hx
  ·exact FAW _ _ x hx
  ·exact O0 _ _ _ x hx
 have hsz:(ofBytes (Ba (bs k) num s)).size=s.length+16:=by rw [ofBytes_size,Ba,List.length_append,hx,DAN]
 rw [QX,SN hb,hsz,Nat.add_sub_cancel,show ((s.length+16:Nat):Int) - 16=(s.length:Int) by omega,hm]
 have h1:decide (((s.length+16:Nat):Int)<16)=false:=by rw [decide_eq_false_iff_not];omega
 have h2:(Ba (bs k) num s).take s.length=EY s (UY (bs k) (IK num) s.length):=by rw [Ba,List.take_append_of_le_length (by omega),List.take_of_length_le (by omega)]
 have h3:(Ba (bs k) num s).drop s.length=OZ (bs k) num (EY s (UY (bs k) (IK num) s.length)):=by rw [Ba,List.drop_append_of_le_length (by omega),List.drop_of_length_le (by omega),List.nil_append]
 rw [h1,h2,h3,beq_self_eq_true,Y0 hs (by rw [Ce];omega)]
 rfl
theorem WAn {k t:ByteArray} {num:Int} (h:(QX k num t).2=true):Ba (bs k) num (bs (QX k num t).1)=bs t:=by
 obtain ⟨h1,h2,h3,h4,h5⟩:=TAm h
 have hl:((bs t).take (t.size - 16)).length=t.size - 16:=by rw [List.length_take,bs_len];omega
 have hx:(bs (QX k num t).1).length=t.size - 16:=by rw [h4,ZAB (by rw [Ce];omega),hl]
 rw [Ba,hx,h4,Y0 (fun n hn=>Nb t n (List.mem_of_mem_take hn)) (by rw [Ce];omega),←h5]
theorem XAn {k:ByteArray} {num:Int} {a b:List Int} (ha:VX a) (hb:VX b) (h:Ba (bs k) num a=Ba (bs k) num b):a=b:=by
 have xa:(EY a (UY (bs k) (IK num) a.length)).length=a.length:=ZAB (by rw [Ce];omega)
 have xb':(EY b (UY (bs k) (IK num) b.length)).length=b.length:=ZAB (by rw [Ce];omega)
 have hl:=congrArg List.length h
 rw [Ba,Ba,List.length_append,List.length_append,xa,xb',DAN,DAN] at hl
 have hab:a.length=b.length:=by omega
 have h1:=(List.append_inj h (by rw [xa,xb',hab])).1
 have h2:EY (EY a (UY (bs k) (IK num) a.length)) (UY (bs k) (IK num) a.length)=EY (EY b (UY (bs k) (IK num) b.length)) (UY (bs k) (IK num) b.length):=by rw [h1,hab]
 rw [Y0 ha (by rw [Ce];omega),Y0 hb (by rw [Ce];omega)] at h2
 exact h2
def FAC (text:ByteArray) (c:SFields):Prop:=∃ p:Nat,∃ b:Bool,c=⟨text,(p:Int),b⟩∧p≤text.size
theorem GAC {text:ByteArray} {c:SFields} (hs:text.size≤140737488351232) (h:FAC text c):∃ v c',Ig c=some (v,c')∧FAC text c':=by
 obtain ⟨p,b,rfl,hp⟩:=h
 obtain ⟨r,hr,hR⟩:=FAN hs hp
 simp only [Ig,UAA,hr,Option.bind_some]
 rcases hR with rfl | ⟨v,q,rfl,h0,h1,_,h3⟩
 ·exact ⟨_,_,rfl,⟨p,true,rfl,hp⟩⟩
 ·exact ⟨_,_,rfl,⟨q,b,rfl,h3⟩⟩
theorem HAC {text:ByteArray} {a:Nat} {V:Int} (hs:text.size≤140737488351232) (hV0:0≤V) (hV:V≤1000000000) (hA:At text a (IK V)):Ig ⟨text,(a:Int),false⟩=some (V,⟨text,((a+(IK V).length:Nat):Int),false⟩):=by
 simp only [Ig,UAA,U0 hs hV0 hV hA,Option.bind_some]
 rfl
theorem UAm {text:ByteArray} {a:Nat} (hs:text.size≤140737488351232) (ha:a≤text.size):∃ s q ok,Tj text a=some (s,q,ok)∧(ok=true→∃ p:Nat,q=(p:Int)∧p≤text.size):=by
 obtain ⟨r,hr,hR⟩:=FAN hs ha
 simp only [Tj,VAA,hr,Option.bind_some]
 rcases hR with rfl | ⟨v,q,rfl,h0,h1,h2,h3⟩
 ·exact ⟨_,_,_,rfl,fun h=>by cases h⟩
 ·rw [w64_id (n:=(text.size:Int) - (q:Int)) (by omega) (by omega),w64_id (n:=(q:Int)+v) (by omega) (by omega)]
  simp only [Bool.not_true,cond_false]
  cases decide (v > 20000)
  ·by_cases hv:v > (text.size:Int) - (q:Int)
   ·rw [decide_eq_true hv];exact ⟨_,_,_,rfl,fun h=>by cases h⟩
   ·rw [decide_eq_false hv,show decide ((0:Int)≤(q:Int))=true from decide_eq_true (by omega),show decide ((q:Int)≤q+v)=true from decide_eq_true (by omega),show decide ((q:Int)+v≤(text.size:Int))=true from decide_eq_true (by omega)]
    exact ⟨_,_,_,rfl,fun _=>⟨((q:Int)+v).toNat,by omega,by omega⟩⟩
  ·exact ⟨_,_,_,rfl,fun h=>by cases h⟩
theorem VAm {text:ByteArray} {p:Nat} {s:ByteArray} (hs:text.size≤140737488351232) (hz:s.size≤20000) (hA:At text p (IK (s.size:Int)++bs s)):Tj text p=some (s,((p+(IK (s.size:Int)).length+s.size:Nat):Int),true):=by
 have hp:p+(IK (s.size:Int)).length≤text.size:=by
  rcases hA.left.size with h | h
  ·have:=Nc (s.size:Int);rw [h] at this;simp at this
  ·exact h
 have hA2:=hA.right
 have hx:=hA2.extract (fun n hn=>KAM hn)
 rw [bs_len,LAB] at hx
 simp only [Tj,VAA,U0 hs (by omega) (by omega) hA.left,Option.bind_some]
 generalize p+(IK (s.size:Int)).length=q at *
 have hz:q+s.size≤text.size:=by
  rcases hA2.size with h | h
  ·have:=congrArg List.length h;rw [bs_len,List.length_nil] at this;omega
  ·rw [bs_len] at h;exact h
 have e2:w64 ((q:Int)+(s.size:Int))=((q+s.size:Nat):Int):=by rw [w64_id (by omega) (by omega)];omega
 rw [w64_id (n:=(text.size:Int) - (q:Int)) (by omega) (by omega),e2,Int.toNat_natCast,Int.toNat_natCast,hx,
  show decide ((s.size:Int) > 20000)=false from decide_eq_false (by omega),show decide ((s.size:Int) > (text.size:Int) - (q:Int))=false from decide_eq_false (by omega),show decide ((0:Int)≤(q:Int))=true from decide_eq_true (by omega),show decide ((q:Int)≤((q+s.size:Nat):Int))=true from decide_eq_true (by omega),show decide (((q+s.size:Nat):Int)≤(text.size:Int))=true from decide_eq_true (by omega)]
 rfl
theorem WAm {text:ByteArray} {c:SFields} (hs:text.size≤140737488351232) (h:FAC text c):∃ v c',Uj c=some (v,c')∧FAC text c':=by
 obtain ⟨p,b,rfl,hp⟩:=h
 obtain ⟨s,q,ok,hr,hR⟩:=UAm hs hp
 simp only [Uj,WAA,hr,Option.bind_some]
 cases ok
 ·exact ⟨_,_,rfl,⟨p,true,rfl,hp⟩⟩
 ·obtain ⟨q,rfl,h3⟩:=hR rfl
  exact ⟨_,_,rfl,⟨q,b,rfl,h3⟩⟩
theorem XAm {text:ByteArray} {p:Nat} {s:ByteArray} (hs:text.size≤140737488351232) (hz:s.size≤20000) (hA:At text p (IK (s.size:Int)++bs s)):Uj ⟨text,(p:Int),false⟩=some (s,⟨text,((p+(IK (s.size:Int)).length+s.size:Nat):Int),false⟩):=by
 simp only [Uj,WAA,VAm hs hz hA,Option.bind_some]
 rfl
theorem GAU (x:SThing):Af x=some (FY x):=by
 simp only [Af,VAJ,Ic,Option.bind_some,FY,bne]
 by_cases k1:x.fKind=1
 ·rw [k1]
  cases FN x.fId 1 1000 <;> cases FN x.fNext 0 16 <;> cases (x.fNext == 0) <;> cases x.fSigns <;> cases x.fWraps <;> simp [FN]
 ·by_cases k2:x.fKind=2
  ·rw [k2]
   cases FN x.fId 1 1000 <;> cases FN x.fNext 0 16 <;> cases (x.fNext == 0) <;> cases x.fSigns <;> cases x.fWraps <;> simp [FN]
  ·by_cases k3:x.fKind=3
   ·rw [k3]
    cases FN x.fId 1 1000 <;> cases FN x.fNext 0 16 <;> cases (x.fNext == 0) <;> cases x.fSigns <;> cases x.fWraps <;> simp [FN]
   ·have hr:FN x.fKind 1 3=false:=by
     cases h:FN x.fKind 1 3
     ·rfl
     ·rw [SX] at h;omega
    have e1:(x.fKind == 1)=false:=by simpa using k1
    have e2:(x.fKind == 2)=false:=by simpa using k2
    have e3:(x.fKind == 3)=false:=by simpa using k3
    rw [hr,e1,e2,e3]
    cases FN x.fId 1 1000 <;> cases FN x.fNext 0 16 <;> cases (x.fNext == 0) <;> cases x.fSigns <;> cases x.fWraps <;> rfl
theorem YAm {s:ByteArray} (h:s.size≤140737488351232):Ox s=some (Tc s):=by
 simp only [Ox,DAK,Ik (n:=(s.size:Int)) (by omega),Option.bind_some]
 have:=GZ (n:=(s.size:Int)) (by omega)
 rw [show decide ((ofBytes (IK (s.size:Int))).size+s.size≤9223372036854775807)=true from decide_eq_true (by rw [ofBytes_size];omega)]
 rfl
theorem NAN (x:SThing):Gj x=some (CY x):=by
 simp only [Gj,EAK,GAU,Option.bind_some,CY]
 cases h:FY x
 ·rfl
 ·obtain ⟨k1,k2,k3,k4,k5,k6,k7⟩:=Ud h
  obtain ⟨z1,z2,z3⟩:=SAM h
  have hf:=Xz x
  have e1:∀ n:Int,(ofBytes [n]).size=1:=fun n=>ofBytes_size _
  simp only [YAj,Option.bind_some,Ik (n:=x.fId) (by omega),Bl (n:=x.fKind) (by omega) (by omega),Bl hf.1 (by omega),YAm (s:=x.fValue) (by omega),Ik (n:=x.fNext) (by omega),ba_append_size,e1]
  simp only [Bool.not_true,cond_false,cond_true]
  rw [show decide ((ofBytes (IK x.fId)).size+1≤9223372036854775807)=true from decide_eq_true (by omega),show decide ((ofBytes (IK x.fId)).size+1+1≤9223372036854775807)=true from decide_eq_true (by omega),
   show decide ((ofBytes (IK x.fId)).size+1+1+(Tc x.fValue).size≤9223372036854775807)=true from decide_eq_true (by omega),show decide ((ofBytes (IK x.fId)).size+1+1+(Tc x.fValue).size+(ofBytes (IK x.fNext)).size≤9223372036854775807)=true from decide_eq_true (by omega)]
  rfl
theorem ZAm (x:SThing):((w64 (((BitVec.toNat ((BitVec.ofInt (IntKind.bits IntKind.i64) (TY x)) &&& (BitVec.ofInt (IntKind.bits IntKind.i64) (1:Int)))):Nat):Int) != 0)=x.fHidden)∧((w64 (((BitVec.toNat ((BitVec.ofInt (IntKind.bits IntKind.i64) (TY x)) &&& (BitVec.ofInt (IntKind.bits IntKind.i64) (2:Int)))):Nat):Int) != 0)=x.fFixed)∧((w64 (((BitVec.toNat ((BitVec.ofInt (IntKind.bits IntKind.i64) (TY x)) &&& (BitVec.ofInt (IntKind.bits IntKind.i64) (4:Int)))):Nat):Int) != 0)=x.fSigns)∧((w64 (((BitVec.toNat ((BitVec.ofInt (IntKind.bits IntKind.i64) (TY x)) &&& (BitVec.ofInt (IntKind.bits IntKind.i64) (8:Int)))):Nat):Int) != 0)=x.fWraps):=by
 unfold TY
 cases x.fHidden <;> cases x.fFixed <;> cases x.fSigns <;> cases x.fWraps <;> refine ⟨?_,?_,?_,?_⟩ <;> kernel_rfl
theorem ZAW {text:ByteArray} (hs:text.size≤140737488351232):∃ r,Jg text=some r∧KAN text r:=by
 obtain ⟨v0,c0,e0,h0⟩:=GAC hs (c:=⟨text,(0:Int),false⟩) ⟨0,false,rfl,by omega⟩
 obtain ⟨v1,c1,e1,h1⟩:=GAC hs h0
 obtain ⟨v2,c2,e2,h2⟩:=GAC hs h1
 obtain ⟨v3,c3,e3,h3⟩:=WAm hs h2
 obtain ⟨v4,c4,e4,h4⟩:=GAC hs h3
 simp only [Jg,XAA,e0,e1,e2,e3,e4,NAN,Option.bind_some]
 generalize (w64 (((BitVec.toNat ((BitVec.ofInt (IntKind.bits IntKind.i64) v2) &&& (BitVec.ofInt (IntKind.bits IntKind.i64) (1:Int)))):Nat):Int) != 0)=b1
 generalize (w64 (((BitVec.toNat ((BitVec.ofInt (IntKind.bits IntKind.i64) v2) &&& (BitVec.ofInt (IntKind.bits IntKind.i64) (2:Int)))):Nat):Int) != 0)=b2
 generalize (w64 (((BitVec.toNat ((BitVec.ofInt (IntKind.bits IntKind.i64) v2) &&& (BitVec.ofInt (IntKind.bits IntKind.i64) (4:Int)))):Nat):Int) != 0)=b3
 generalize (w64 (((BitVec.toNat ((BitVec.ofInt (IntKind.bits IntKind.i64) v2) &&& (BitVec.ofInt (IntKind.bits IntKind.i64) (8:Int)))):Nat):Int) != 0)=b4
 cases c4.fBad
 ·cases h5:(CY (⟨v0,v1,b1,b2,b3,b4,v3,v4⟩:SThing)).2
  ·exact ⟨_,rfl,.inr rfl⟩
  ·rw [toList_inj]
   by_cases h6:(CY (⟨v0,v1,b1,b2,b3,b4,v3,v4⟩:SThing)).1=text
   ·rw [decide_eq_true h6];exact ⟨_,rfl,.inl ⟨rfl,Prod.ext h6 h5⟩⟩
   ·rw [decide_eq_false h6];exact ⟨_,rfl,.inr rfl⟩
 ·exact ⟨_,rfl,.inr rfl⟩
theorem AAX {text:ByteArray} {x:SThing} (hs:text.size≤140737488351232) (h:CY x=(text,true)):Jg text=some (x,true):=by
 obtain ⟨ho,rfl⟩:=WAW h
 obtain ⟨k1,k2,k3,k4,k5,k6,k7⟩:=Ud ho
 have hf:=Xz x
 have hA:At (Yd x) 0 _:=⟨[],by rw [List.drop_zero,UAW ho,List.append_nil]⟩
 rw [←Yz (n:=x.fKind) (by omega) (by omega),←Yz (n:=TY x) (by omega) (by omega)] at hA
 have a1:=hA.right
 have a2:=a1.right
 have a3:=a2.right
 have a4:=a3.right
 have e0:=HAC hs (by omega) (by omega) hA.left
 have e1:=HAC hs (by omega) (by omega) a1.left
 have e2:=HAC hs (by omega) (by omega) a2.left
 have e3:=XAm hs (by omega) a3.left
 have e4:=HAC hs (by omega) (by omega) a4
 simp only [List.length_append,bs_len,Nat.zero_add,←Nat.add_assoc] at e0 e1 e2 e3 e4
 obtain ⟨b1,b2,b3,b4⟩:=ZAm x
 simp only [Jg,XAA]
 rw [show Ig ⟨Yd x,(0:Int),false⟩=_ from e0]
 simp only [e1,e2,e3,e4,Option.bind_some,b1,b2,b3,b4,NAN,h,toList_self]
 rfl
theorem YAn {text:ByteArray} (hs:text.size≤140737488351232):∃ r,Bg text=some r∧Jg text=some r∧KAN text r:=by
 obtain ⟨r,hr,h⟩:=VAW hs
 obtain ⟨q,hq,h'⟩:=ZAW hs
 rcases h with ⟨h1,h2⟩ | h
 ·have:=AAX hs h2
  refine ⟨r,hr,?_,.inl ⟨h1,h2⟩⟩
  rw [this];congr 1;exact Prod.ext rfl h1.symm
 ·rcases h' with ⟨h1,h2⟩ | h'
  ·have:=XAW hs h2
   rw [hr] at this
   injection this with this
   rw [h] at this
   exact Bool.noConfusion (congrArg Prod.snd this)
  ·exact ⟨r,hr,by rw [hq,h',h],.inr h⟩
theorem Ug {r:SRec} (g:r.fNum≤9223372036854775807):Ij r=some (TT r):=by
 simp only [Ij,FAK,Ic,NAN,Ik g,Option.bind_some,TAV]
 simp only [UAM,TT]
 cases k1:r.fKind == 1
 ·simp only [cond_false]
  cases k2:r.fKind == 2
  ·simp only [cond_false]
   cases k3:r.fKind == 3
   ·simp only [cond_false]
    cases k4:r.fKind == 4
    ·rfl
    ·have k:r.fKind=4:=by simpa using k4
     rw [k]
     simp only [beq_self_eq_true,Bl (n:=4) (by omega) (by omega),Option.bind_some,Bool.true_and,cond_true]
     cases h:FN r.fNum 1 1000
     ·cases GY r.fText <;> cases JY r.fThing <;> rfl
     ·cases GY r.fText <;> cases JY r.fThing <;> (try rfl)
      simp only [Bool.not_true,cond_false,cond_true,Bool.and_self,decide_eq_true (QAB (by omega) h 4)]
   ·have k:r.fKind=3:=by simpa using k3
    rw [k]
    simp only [beq_self_eq_true,Bl (n:=3) (by omega) (by omega),Option.bind_some,Bool.true_and,cond_true,Bool.and_true]
    cases h:(CY r.fThing).2
    ·cases GY r.fText <;> cases r.fNum == 0 <;> rfl
    ·cases GY r.fText <;> cases r.fNum == 0 <;> (try rfl)
     simp only [Bool.not_true,cond_false,cond_true,Bool.and_self,decide_eq_true (UAV h 3)]
  ·have k:r.fKind=2:=by simpa using k2
   rw [k]
   simp only [beq_self_eq_true,Bl (n:=2) (by omega) (by omega),Option.bind_some,Bool.true_and,cond_true]
   cases h:FN r.fNum 0 3
   ·cases GY r.fText <;> cases JY r.fThing <;> rfl
   ·cases GY r.fText <;> cases JY r.fThing <;> (try rfl)
    simp only [Bool.not_true,cond_false,cond_true,Bool.and_self,decide_eq_true (QAB (by omega) h 2)]
 ·have k:r.fKind=1:=by simpa using k1
  rw [k]
  simp only [beq_self_eq_true,Bl (n:=1) (by omega) (by omega),Option.bind_some,Bool.true_and,cond_true]
  cases h:(r.fText.size:Int) == 32 <;> cases r.fNum == 0 <;> cases JY r.fThing <;> (try rfl)
  have h':r.fText.size=32:=by have:=beq_iff_eq.1 h;omega
  have e:(ofBytes [1]).size+r.fText.size≤9223372036854775807:=by rw [ofBytes_size];simp only [List.length_singleton];omega
  simp only [Bool.not_true,cond_false,cond_true,Bool.and_self,decide_eq_true e]
theorem OAN {text:ByteArray} (x:SRec):∃ r,(bif !(TT x).2 then some (KZ,false) else bif !((ByteArray.toList (TT x).1) == (ByteArray.toList text)) then some (KZ,false) else some (x,true))=some r∧Eo text r:=Ho x false
theorem AAn {text:ByteArray} (hs:text.size≤140737488351232):∃ r,Ia text=some r∧Eo text r:=by
 simp only [Ia,Vj]
 rw [toList_inj]
 by_cases he:text=⟨#[]⟩
 ·rw [decide_eq_true he];exact ⟨_,rfl,.inr rfl⟩
 ·have hz:0<text.size:=by
   rcases Nat.eq_zero_or_pos text.size with h | h
   ·exact absurd (Aa (List.eq_nil_of_length_eq_zero (by rw [bs_len];exact h)):text=⟨#[]⟩) he
   ·exact h
  rw [decide_eq_false he,show decide ((0:Int)<(text.size:Int))=true from decide_eq_true (by omega),show decide ((1:Int)≤(text.size:Int))=true from decide_eq_true (by omega)]
  have hb:=Hf text 0
  rw [w64_id (n:=bt text 0) (by omega) (by omega)]
  obtain ⟨⟨t,tb⟩,e1,_⟩:=ZAW (text:=text.extract (1:Int).toNat text.size) (by rw [ByteArray.size_extract];omega)
  obtain ⟨⟨v,q,ok⟩,e2,hR⟩:=FAN (a:=1) hs hz
  have hv:v≤1000000000:=by
   rcases hR with h | ⟨v',_,h,_,h1,_⟩
   ·have:=congrArg Prod.fst h;simp only [Xc] at this;omega
   ·have:=congrArg Prod.fst h;simp only at this;omega
  rw [e1,show RY text (1:Int)=_ from e2]
  simp only [Option.bind_some,cond_false,cond_true,Bool.and_self]
  cases bt text 0 == 1
  ·simp only [cond_false]
   cases bt text 0 == 3
   ·simp only [cond_false]
    rw [Ug (by simp only;omega)]
    exact OAN _
   ·simp only [cond_true]
    rw [Ug (by simp only;omega)]
    exact OAN _
  ·simp only [cond_true]
   rw [Ug (by simp only;omega)]
   exact OAN _
theorem BAn {text:ByteArray} {x:SRec} (hs:text.size≤140737488351232) (h:TT x=(text,true)):Ia text=some (x,true):=by
 have hne:∀ (k:Int) (s:ByteArray),(decide (ofBytes [k]++s=⟨#[]⟩))=false:=fun k s=>decide_eq_false fun h=>by
  have:=congrArg ByteArray.size h
  rw [ba_append_size,ofBytes_size] at this
  simp only [List.length_singleton] at this
  have h0:(⟨#[]⟩:ByteArray).size=0:=rfl
  omega
 have hd:∀ (k:Int) (s:ByteArray),decide ((0:Int)<((ofBytes [k]++s).size:Int))=true∧decide ((1:Int)≤((ofBytes [k]++s).size:Int))=true:=fun k s=>by
  rw [ba_append_size,ofBytes_size];simp only [List.length_singleton]
  exact ⟨decide_eq_true (by omega),decide_eq_true (by omega)⟩
 have hk:∀ (k:Int) (s:ByteArray),0≤k→k≤255→w64 (bt (ofBytes [k]++s) 0)=k:=fun k s h0 h1=>by
  rw [(Dl (k:=k) (s:=s) h0 h1).left.head.2 |> fun e=>(show bt (ofBytes [k]++s) 0=k from e),w64_id (by omega) (by omega)]
 rcases YAW h with ⟨s,rfl,hz,rfl⟩ | ⟨n,rfl,h0,h1,rfl⟩ | ⟨t,s,rfl,ht,rfl⟩ | ⟨n,rfl,h0,h1,rfl⟩
 ·have h':TT ⟨1,s,0,⟨(0:Int),(0:Int),false,false,false,false,(⟨#[]⟩:ByteArray),(0:Int)⟩⟩=_:=h
  simp only [Ia,Vj,hk 1 s (by omega) (by omega),hd,MAN,Ug (r:=⟨1,s,0,⟨(0:Int),(0:Int),false,false,false,false,(⟨#[]⟩:ByteArray),(0:Int)⟩⟩) (by simp only;omega),h',Option.bind_some,toList_inj,hne]
  simp [KZ]
 ·have hA:=Dl (k:=2) (s:=ofBytes (IK n)) (by omega) (by omega)
  rw [SN (Yc n h0)] at hA
  have e1:=U0 hs (by omega) (by omega) hA.right
  simp only [List.length_singleton,Nat.zero_add] at e1
  have e2:RY (ofBytes [2]++ofBytes (IK n)) (1:Int)=_:=e1
  have h':TT ⟨2,⟨#[]⟩,n,⟨(0:Int),(0:Int),false,false,false,false,(⟨#[]⟩:ByteArray),(0:Int)⟩⟩=_:=h
  simp only [Ia,Vj,hk 2 _ (by omega) (by omega),hd,e2,Option.bind_some,Ug (r:=⟨2,⟨#[]⟩,n,⟨(0:Int),(0:Int),false,false,false,false,(⟨#[]⟩:ByteArray),(0:Int)⟩⟩) (by simp only;omega),h',toList_inj,hne]
  simp [KZ]
 ·have hsz:s.size≤140737488351232:=by rw [ba_append_size] at hs;omega
  have e1:=AAX hsz ht
  have h':TT ⟨3,⟨#[]⟩,0,t⟩=_:=h
  simp only [Ia,Vj,hk 3 s (by omega) (by omega),hd,MAN,e1,Option.bind_some,Ug (r:=⟨3,⟨#[]⟩,0,t⟩) (by simp only;omega),h',toList_inj,hne]
  simp [KZ]
 ·have hA:=Dl (k:=4) (s:=ofBytes (IK n)) (by omega) (by omega)
  rw [SN (Yc n (by omega))] at hA
  have e1:=U0 hs (by omega) (by omega) hA.right
  simp only [List.length_singleton,Nat.zero_add] at e1
  have e2:RY (ofBytes [4]++ofBytes (IK n)) (1:Int)=_:=e1
  have h':TT ⟨4,⟨#[]⟩,n,⟨(0:Int),(0:Int),false,false,false,false,(⟨#[]⟩:ByteArray),(0:Int)⟩⟩=_:=h
  simp only [Ia,Vj,hk 4 _ (by omega) (by omega),hd,e2,Option.bind_some,Ug (r:=⟨4,⟨#[]⟩,n,⟨(0:Int),(0:Int),false,false,false,false,(⟨#[]⟩:ByteArray),(0:Int)⟩⟩) (by simp only;omega),h',toList_inj,hne]
  simp [KZ]
theorem CAn {text:ByteArray} (hs:text.size≤140737488351232):∃ r,VZ text=some r∧Ia text=some r∧Eo text r:=by
 obtain ⟨r,hr,h⟩:=LAN hs
 obtain ⟨q,hq,h'⟩:=AAn hs
 rcases h with ⟨h1,h2⟩ | h
 ·have:=BAn hs h2
  refine ⟨r,hr,?_,.inl ⟨h1,h2⟩⟩
  rw [this];congr 1;exact Prod.ext rfl h1.symm
 ·rcases h' with ⟨h1,h2⟩ | h'
  ·have:=SAm hs h2
   rw [hr] at this
   injection this with this
   rw [h] at this
   exact Bool.noConfusion (congrArg Prod.snd this)
  ·exact ⟨r,hr,by rw [hq,h',h],.inr h⟩
noncomputable def PY (t:ByteArray):SRec×Bool:=(VZ t).getD (⟨0,⟨#[]⟩,0,⟨0,0,false,false,false,false,⟨#[]⟩,0⟩⟩,false)
theorem DAn {t:ByteArray} (h:t.size≤140737488351232):VZ t=some (PY t):=by
 obtain ⟨r,h1,_⟩:=LAN h
 rw [PY,h1];rfl
theorem GAg {t:ByteArray} (h:t.size≤140737488351232):Ia t=some (PY t):=by
 obtain ⟨r,h1,h2,_⟩:=CAn h
 rw [PY,h1,h2];rfl
theorem HAf {t:ByteArray} (h:t.size≤140737488351232):Eo t (PY t):=by
 obtain ⟨r,h1,h2⟩:=LAN h
 rw [PY,h1];exact h2
noncomputable def VY (k:ByteArray):Int→List ByteArray→List SRec×Int
 | _,[]=>([],0)
 | i,f::fs=>bif (QX k i f).2 && (PY (QX k i f).1).2 then ((PY (QX k i f).1).1::(VY k (i+1) fs).1,((frameT f).1.size:Int)+(VY k (i+1) fs).2) else ([],0)
noncomputable def ZX (k file:ByteArray):List SRec×Int:=VY k 1 (Za file).1
theorem EAn {file:ByteArray} (hs:file.size≤140737488351232):∀ (j a:Nat),a≤file.size→(∀ f ∈ (KY j file a).1,f.size≤file.size)∧(KY j file a).1.length+a≤file.size∧(KY j file a).2≤file.size:=by
 intro j
 induction j with
 | zero=>intro a ha;exact ⟨fun f hf=>(by cases hf),by simpa [KY] using ha,ha⟩
 | succ j ih=>
  intro a ha
  rw [KY]
  rcases CAB hs ha with h | ⟨v,q,_,hq,_,_,_,h3,_,_,h⟩
  ·rw [h];exact ⟨fun f hf=>(by cases hf),by simpa using ha,ha⟩
  ·rw [h]
   obtain ⟨i1,i2,i3⟩:=ih (q+4+v.toNat) h3
   refine ⟨fun f hf=>?_,?_,i3⟩
   ·rcases List.mem_cons.1 hf with rfl | hf
    ·show (file.extract (q+4) (q+4+v.toNat)).size≤file.size
     rw [ByteArray.size_extract];omega
    ·exact i1 f hf
   ·show (_::(KY j file (q+4+v.toNat)).1).length+a≤file.size
    rw [List.length_cons];omega
theorem EAB {file:ByteArray}:(∀ f ∈ (Za file).1,f.size≤20000)∧(Za file).1.length≤20000∧0≤(Za file).2∧(Za file).2≤(file.size:Int):=by
 rw [Za]
 by_cases h:(file.size:Int) > 20000
 ·rw [decide_eq_true h]
  exact ⟨fun f hf=>(by cases hf),(by decide:0≤20000),Int.le_refl 0,by show (0:Int)≤_;omega⟩
 ·rw [decide_eq_false h]
  obtain ⟨h1,h2,h3⟩:=EAn (file:=file) (by omega) (file.size+1) 0 (Nat.zero_le _)
  exact ⟨fun f hf=>by have:=h1 f hf;omega,by show (KY (file.size+1) file 0).1.length≤20000;omega,by show (0:Int)≤((KY (file.size+1) file 0).2:Int);omega,by show ((KY (file.size+1) file 0).2:Int)≤_;omega⟩
theorem JAf (k:ByteArray):∀ (fs:List ByteArray) (i:Int),(VY k i fs).1.length≤fs.length:=by
 intro fs
 induction fs with
 | nil=>intro i;exact Nat.le_refl _
 | cons f fs ih=>
  intro i
  rw [VY]
  cases (QX k i f).2 && (PY (QX k i f).1).2
  ·exact Nat.zero_le _
  ·rw [cond_true,List.length_cons,List.length_cons];have:=ih (i+1);omega
theorem NAf {k file:ByteArray} (hk:k.size≤900000000) (hf:file.size≤140737488351232):Xv k file=some (ZX k file):=by
 obtain ⟨u1,u2,_,_⟩:=EAB (file:=file)
 rw [Xv,TAI,DAl hf,Option.bind_some,ZX]
 generalize (Za file).1=l at u1 u2
 have key:∀ (j i m:Nat) (e:Int) (out:List SRec),i+j=l.length→0≤e→e≤30000*i→out.length≤i→Wv (m+j+1) (.c0 k e (i:Int) out l)=some (out++(VY k ((i:Int)+1) (l.drop i)).1,e+(VY k ((i:Int)+1) (l.drop i)).2):=by
  intro j
  induction j with
  | zero=>
   intro i m e out h he he2 ho
   obtain rfl:i=l.length:=by omega
   rw [Wv]
   simp only [N9]
   rw [NM (by simp),List.drop_length,VY,List.append_nil,Int.add_zero]
  | succ j ih=>
   intro i m e out h he he2 ho
   have hi:i<l.length:=by omega
   have hz:=u1 _ (List.getElem_mem hi)
   have ew:w64 ((i:Int)+1)=((i+1:Nat):Int):=by rw [w64_id (by omega) (by omega)];rfl
   have hoz:=BAM k l[i] ((i+1:Nat):Int)
   have hfz:=PAU (t:=l[i]) (by omega)
   rw [show m+(j+1)+1=(m+j+1)+1 by omega,Wv]
   simp only [N9,ew,Int.toNat_natCast,getD_at hi]
   rw [TB (by simp;omega),TB (by simp;omega),OAm hk (by omega),Option.bind_some,DAn (by omega),Option.bind_some,drop_at hi,VY,show ((i:Int)+1)=((i+1:Nat):Int) from rfl]
   cases (QX k ((i+1:Nat):Int) l[i]).2
   ·rw [Bool.false_and,cond_false,List.append_nil,Int.add_zero];rfl
   ·rw [NM (by rfl),Bool.true_and]
    cases (PY (QX k ((i+1:Nat):Int) l[i]).1).2
    ·rw [cond_false,List.append_nil,Int.add_zero];rfl
    ·have h2:=ih (i+1) m (e+((frameT l[i]).1.size:Int)) (out++[(PY (QX k ((i+1:Nat):Int) l[i]).1).1]) (by omega) (by omega) (by omega) (by simp;omega)
     simp only [Bool.not_true,cond_false,cond_true]
     rw [TB (by simp;omega),TB (by simp;omega),JAW (by omega),Option.bind_some,w64_id (by omega) (by omega),h2,List.append_assoc,Int.add_assoc]
     rfl
 obtain ⟨m,hm⟩:∃ m,gas=m+l.length+1:=⟨gas - (l.length+1),by have:=gas_lt (n:=l.length+1) (by omega);omega⟩
 have h0:=key l.length 0 m 0 [] (by omega) (by omega) (by omega) (Nat.le_refl _)
 rw [List.nil_append,Int.zero_add,List.drop_zero] at h0
 rw [hm]
 exact h0
theorem ZAn:EZ AZ=true:=Jc.2 ⟨Rf _,by rw [AZ,ofBytes_size];rfl,(by decide:(0:Int)≤0∧(0:Int)≤3),(by decide:0≤8),(by decide:(0:Int)≤0∧(0:Int)≤1000),(by decide:(0:Int)≤0∧(0:Int)≤10000),rfl⟩
end Go.Proofs.YthfpmhalgimbbaaGreatDoor.G
