/- The plain law of FnExactSoundLife: whatever the arguments, it answers true. Conditions: what is read is in reach. Part 1 of 2. -/
import Derived.Test.YthfpmhalgimbbaaGreatDoorFFnExactSoundLife
import Derived.Test.YthfpmhalgimbbaaGreatDoorOpens
import Derived.Test.YthfpmhalgimbbaaGreatDoorPBase
namespace Go.Proofs.YthfpmhalgimbbaaGreatDoor.G
open Go Go.Ev
set_option linter.unusedVariables false
set_option linter.unusedSimpArgs false
theorem ZAo {a:SFile} (g:GSFile a) (n:Int):∃ r,Zj a n=some r:=by
 unfold Zj XAJ
 cases decide ((w64 (n - (a.fName.size:Int)))<0)
 rotate_left
 ·exact ⟨_,rfl⟩
 simp only [cond_false]
 cases decide ((w64 ((w64 (n - (a.fName.size:Int))) - (a.fText.size:Int)))<0)
 rotate_left
 ·exact ⟨_,rfl⟩
 simp only [cond_false]
 exact ⟨_,rfl⟩
theorem AAp {a:(List SFile)} (g:(GList 40 GSFile) a) (n:Int):∃ r,Ew a n=some r:=by
 have h:=g.1
 have key:∀ m i l,i≤a.length→a.length - i<m→∃ r,QAB m (.c0 a l i)=some r:=by
  intro m
  induction m with
  | zero=>intro i l _ h;omega
  | succ m ih=>
   intro i l h1 h2
   simp only [QAB,AAK]
   by_cases hi:i<a.length
   ·have hw:w64 ((i:Int)+1)=((i+1:Nat):Int):=by rw [w64_id (by omega) (by omega)];rfl
    obtain ⟨r,hr⟩:=ZAo (g.2 _ (List.getElem_mem hi)) l
    simp only [Int.toNat_natCast,getD_at hi,hr,Option.bind_some,hw]
    rw [show (decide ((i:Int)<(a.length:Int)))=true from decide_eq_true (by omega),show (decide ((0:Int)≤(i:Int)))=true from decide_eq_true (by omega)]
    simp only [Bool.and_self,cond_true]
    cases decide (r<0)
    ·exact ih (i+1) r hi (by omega)
    ·exact ⟨_,rfl⟩
   ·rw [show (decide ((i:Int)<(a.length:Int)))=false from decide_eq_false (by omega)]
    exact ⟨_,rfl⟩
 unfold Ew ZAJ
 cases decide (w64 (n - (a.length:Int))<0)
 ·exact key gas 0 _ (Nat.zero_le _) (gas_lt (by omega))
 ·exact ⟨_,rfl⟩
theorem BAp {a:SDisk} (g:GSDisk a) (n:Int):∃ r,Gw a n=some r:=by
 unfold Gw CAK
 obtain ⟨r0,hr0⟩:=AAp (g) (n)
 simp only [hr0,Option.bind_some]
 cases decide (r0<0)
 rotate_left
 ·exact ⟨_,rfl⟩
 simp only [cond_false]
 exact ⟨_,rfl⟩
theorem AAc {a:SThing} (g:GSThing a) (n:Int):∃ r,Yh a n=some r:=⟨_,cond_some _ _ _⟩
theorem CAp {a:(List SThing)} (g:(GList 48 GSThing) a) (n:Int):∃ r,Jw a n=some r:=by
 have h:=g.1
 have key:∀ m i l,i≤a.length→a.length - i<m→∃ r,RAB m (.c0 a l i)=some r:=by
  intro m
  induction m with
  | zero=>intro i l _ h;omega
  | succ m ih=>
   intro i l h1 h2
   simp only [RAB,GAK]
   by_cases hi:i<a.length
   ·have hw:w64 ((i:Int)+1)=((i+1:Nat):Int):=by rw [w64_id (by omega) (by omega)];rfl
    obtain ⟨r,hr⟩:=AAc (g.2 _ (List.getElem_mem hi)) l
    simp only [Int.toNat_natCast,getD_at hi,hr,Option.bind_some,hw]
    rw [show (decide ((i:Int)<(a.length:Int)))=true from decide_eq_true (by omega),show (decide ((0:Int)≤(i:Int)))=true from decide_eq_true (by omega)]
    simp only [Bool.and_self,cond_true]
    cases decide (r<0)
    ·exact ih (i+1) r hi (by omega)
    ·exact ⟨_,rfl⟩
   ·rw [show (decide ((i:Int)<(a.length:Int)))=false from decide_eq_false (by omega)]
    exact ⟨_,rfl⟩
 unfold Jw FAK
 cases decide (w64 (n - (a.length:Int))<0)
 ·exact key gas 0 _ (Nat.zero_le _) (gas_lt (by omega))
 ·exact ⟨_,rfl⟩
theorem DAp {a:SBook} (g:GSBook a) (n:Int):∃ r,Kw a n=some r:=by
 unfold Kw IAK
 cases decide ((w64 (n - (a.fWord.size:Int)))<0)
 rotate_left
 ·exact ⟨_,rfl⟩
 simp only [cond_false]
 obtain ⟨r0,hr0⟩:=CAp (g.2.2.1) ((w64 (n - (a.fWord.size:Int))))
 simp only [hr0,Option.bind_some]
 cases decide (r0<0)
 rotate_left
 ·exact ⟨_,rfl⟩
 simp only [cond_false]
 cases decide ((w64 (r0 - (a.fChain.size:Int)))<0)
 rotate_left
 ·exact ⟨_,rfl⟩
 simp only [cond_false]
 exact ⟨_,rfl⟩
theorem EAp {a:(List SSession)} (_:(GList 16 GSSession) a) (n:Int):∃ r,SAB a n=some r:=⟨_,cond_some _ _ _⟩
theorem FAp {a:(List SLive)} (_:(GList 16 GSLive) a) (n:Int):∃ r,TAB a n=some r:=⟨_,cond_some _ _ _⟩
theorem GAp {a:SBox} (g:GSBox a) (n:Int):∃ r,Ak a n=some r:=by
 unfold Ak UAB
 cases decide ((w64 (n - (a.fKey.size:Int)))<0)
 rotate_left
 ·exact ⟨_,rfl⟩
 simp only [cond_false]
 obtain ⟨r0,hr0⟩:=BAp (g.2.2.1) ((w64 (n - (a.fKey.size:Int))))
 simp only [hr0,Option.bind_some]
 cases decide (r0<0)
 rotate_left
 ·exact ⟨_,rfl⟩
 simp only [cond_false]
 obtain ⟨r1,hr1⟩:=DAp (g.2.2.2.1) (r0)
 simp only [hr1,Option.bind_some]
 cases decide (r1<0)
 rotate_left
 ·exact ⟨_,rfl⟩
 simp only [cond_false]
 obtain ⟨r2,hr2⟩:=EAp (g.2.2.2.2.1) (r1)
 simp only [hr2,Option.bind_some]
 cases decide (r2<0)
 rotate_left
 ·exact ⟨_,rfl⟩
 simp only [cond_false]
 obtain ⟨r3,hr3⟩:=FAp (g.2.2.2.2.2.1) (r2)
 simp only [hr3,Option.bind_some]
 cases decide (r3<0)
 rotate_left
 ·exact ⟨_,rfl⟩
 simp only [cond_false]
 exact ⟨_,rfl⟩
theorem HAp {a:(List Int)} (_:(GList 8 (GInt .i64)) a) (n:Int):∃ r,VAB a n=some r:=⟨_,cond_some _ _ _⟩
theorem IAp {a:(List ByteArray)} (g:(GList 16 GStr) a) (n:Int):∃ r,Qw a n=some r:=by
 have h:=g.1
 have key:∀ m i l,i≤a.length→a.length - i<m→∃ r,WAB m (.c0 a l i)=some r:=by
  intro m
  induction m with
  | zero=>intro i l _ h;omega
  | succ m ih=>
   intro i l h1 h2
   simp only [WAB,PAK]
   by_cases hi:i<a.length
   ·have hw:w64 ((i:Int)+1)=((i+1:Nat):Int):=by rw [w64_id (by omega) (by omega)];rfl
    simp only [Int.toNat_natCast,getD_at hi,hw]
    rw [show (decide ((i:Int)<(a.length:Int)))=true from decide_eq_true (by omega),show (decide ((0:Int)≤(i:Int)))=true from decide_eq_true (by omega)]
    simp only [Bool.and_self,cond_true]
    cases decide (w64 (l - (a[i].size:Int))<0)
    ·exact ih (i+1) _ hi (by omega)
    ·exact ⟨_,rfl⟩
   ·rw [show (decide ((i:Int)<(a.length:Int)))=false from decide_eq_false (by omega)]
    exact ⟨_,rfl⟩
 unfold Qw OAK
 cases decide (w64 (n - (a.length:Int))<0)
 ·exact key gas 0 _ (Nat.zero_le _) (gas_lt (by omega))
 ·exact ⟨_,rfl⟩
theorem JAp {a:(List SGiven)} (_:(GList 24 GSGiven) a) (n:Int):∃ r,XAB a n=some r:=⟨_,cond_some _ _ _⟩
theorem KAp {a:SRec} (g:GSRec a) (n:Int):∃ r,Dk a n=some r:=by
 unfold Dk RAK
 cases decide ((w64 (n - (a.fText.size:Int)))<0)
 rotate_left
 ·exact ⟨_,rfl⟩
 simp only [cond_false]
 obtain ⟨r0,hr0⟩:=AAc (g.2.2.2) ((w64 (n - (a.fText.size:Int))))
 simp only [hr0,Option.bind_some]
 cases decide (r0<0)
 rotate_left
 ·exact ⟨_,rfl⟩
 simp only [cond_false]
 exact ⟨_,rfl⟩
theorem LAp {a:(List SRec)} (g:(GList 80 GSRec) a) (n:Int):∃ r,Uw a n=some r:=by
 have h:=g.1
 have key:∀ m i l,i≤a.length→a.length - i<m→∃ r,ZAB m (.c0 a l i)=some r:=by
  intro m
  induction m with
  | zero=>intro i l _ h;omega
  | succ m ih=>
   intro i l h1 h2
   simp only [ZAB,UAK]
   by_cases hi:i<a.length
   ·have hw:w64 ((i:Int)+1)=((i+1:Nat):Int):=by rw [w64_id (by omega) (by omega)];rfl
    obtain ⟨r,hr⟩:=KAp (g.2 _ (List.getElem_mem hi)) l
    simp only [Int.toNat_natCast,getD_at hi,hr,Option.bind_some,hw]
    rw [show (decide ((i:Int)<(a.length:Int)))=true from decide_eq_true (by omega),show (decide ((0:Int)≤(i:Int)))=true from decide_eq_true (by omega)]
    simp only [Bool.and_self,cond_true]
    cases decide (r<0)
    ·exact ih (i+1) r hi (by omega)
    ·exact ⟨_,rfl⟩
   ·rw [show (decide ((i:Int)<(a.length:Int)))=false from decide_eq_false (by omega)]
    exact ⟨_,rfl⟩
 unfold Uw TAK
 cases decide (w64 (n - (a.length:Int))<0)
 ·exact key gas 0 _ (Nat.zero_le _) (gas_lt (by omega))
 ·exact ⟨_,rfl⟩
theorem XAo {a:SLife} (g:GSLife a) (n:Int):∃ r,Yj a n=some r:=by
 unfold Yj AAC
 obtain ⟨r0,hr0⟩:=GAp (g.1) (n)
 simp only [hr0,Option.bind_some]
 cases decide (r0<0)
 rotate_left
 ·exact ⟨_,rfl⟩
 simp only [cond_false]
 obtain ⟨r1,hr1⟩:=HAp (g.2.1) (r0)
 simp only [hr1,Option.bind_some]
 cases decide (r1<0)
 rotate_left
 ·exact ⟨_,rfl⟩
 simp only [cond_false]
 obtain ⟨r2,hr2⟩:=IAp (g.2.2.1) (r1)
 simp only [hr2,Option.bind_some]
 cases decide (r2<0)
 rotate_left
 ·exact ⟨_,rfl⟩
 simp only [cond_false]
 obtain ⟨r3,hr3⟩:=JAp (g.2.2.2.1) (r2)
 simp only [hr3,Option.bind_some]
 cases decide (r3<0)
 rotate_left
 ·exact ⟨_,rfl⟩
 simp only [cond_false]
 obtain ⟨r4,hr4⟩:=LAp (g.2.2.2.2) (r3)
 simp only [hr4,Option.bind_some]
 cases decide (r4<0)
 rotate_left
 ·exact ⟨_,rfl⟩
 simp only [cond_false]
 exact ⟨_,rfl⟩
theorem MAp {a:SFile} (g:GSFile a):Ik a=some a:=by
 simp only [Ik,VAK,Option.bind_some]
theorem NAp {a:(List SFile)} (g:(GList 40 GSFile) a):Xw a=some a:=by
 have h:=g.1
 have key:∀ m i,i≤a.length→a.length - i<m→Jk m (.c0 a i (a.take i++List.replicate (a.length - i) (⟨(⟨#[]⟩:ByteArray),(⟨#[]⟩:ByteArray),(0:Int)⟩:SFile)))=some a:=fun m i h1 h2=>
  loopN (A:=Unit) (n:=a.length) (Lp:=Jk) (st:=fun i _=>.c0 a i (a.take i++List.replicate (a.length - i) (⟨(⟨#[]⟩:ByteArray),(⟨#[]⟩:ByteArray),(0:Int)⟩:SFile))) (Inv:=fun _ _=>True) (out:=fun _ _=>some a)
   (fun m _ _=>by simp [Jk,CAC])
   (fun m i _ hi _=>.inr ⟨(),by
    have hw:w64 ((i:Int)+1)=((i+1:Nat):Int):=by rw [w64_id (by omega) (by omega)];rfl
    have hc:=copied_len (Nat.le_of_lt hi) (⟨(⟨#[]⟩:ByteArray),(⟨#[]⟩:ByteArray),(0:Int)⟩:SFile)
    simp only [Jk,CAC,Int.toNat_natCast,getD_at hi,MAp (g.2 _ (List.getElem_mem hi)),Option.bind_some,hw,copied hi,hc]
    simp [hi],trivial,rfl⟩) m i () h1 h2 trivial
 have h0:Jk gas (.c0 a 0 (List.replicate a.length (⟨(⟨#[]⟩:ByteArray),(⟨#[]⟩:ByteArray),(0:Int)⟩:SFile)))=some a:=by
  have:=key gas 0 (Nat.zero_le _) (gas_lt (by omega))
  simpa using this
 unfold Xw XAK
 simp only [Int.toNat_natCast,h0]
 simp [show a.length*40≤140737488355328 from by omega,show ((a.length:Int)≤9223372036854775807) from by omega]
 try omega
theorem OAp {a:SDisk} (g:GSDisk a):Yw a=some a:=by
 simp only [Yw,ZAK,NAp (g),Option.bind_some]
theorem BAc {a:SThing} (g:GSThing a):Zf a=some a:=by
 simp only [Zf,AAL,Option.bind_some]
theorem PAp {a:(List SThing)} (g:(GList 48 GSThing) a):Gx a=some a:=by
 have h:=g.1
 have key:∀ m i,i≤a.length→a.length - i<m→Nk m (.c0 a i (a.take i++List.replicate (a.length - i) (⟨(0:Int),(0:Int),false,false,false,false,(⟨#[]⟩:ByteArray),(0:Int)⟩:SThing)))=some a:=fun m i h1 h2=>
  loopN (A:=Unit) (n:=a.length) (Lp:=Nk) (st:=fun i _=>.c0 a i (a.take i++List.replicate (a.length - i) (⟨(0:Int),(0:Int),false,false,false,false,(⟨#[]⟩:ByteArray),(0:Int)⟩:SThing))) (Inv:=fun _ _=>True) (out:=fun _ _=>some a)
   (fun m _ _=>by simp [Nk,DAC])
   (fun m i _ hi _=>.inr ⟨(),by
    have hw:w64 ((i:Int)+1)=((i+1:Nat):Int):=by rw [w64_id (by omega) (by omega)];rfl
    have hc:=copied_len (Nat.le_of_lt hi) (⟨(0:Int),(0:Int),false,false,false,false,(⟨#[]⟩:ByteArray),(0:Int)⟩:SThing)
    simp only [Nk,DAC,Int.toNat_natCast,getD_at hi,BAc (g.2 _ (List.getElem_mem hi)),Option.bind_some,hw,copied hi,hc]
    simp [hi],trivial,rfl⟩) m i () h1 h2 trivial
 have h0:Nk gas (.c0 a 0 (List.replicate a.length (⟨(0:Int),(0:Int),false,false,false,false,(⟨#[]⟩:ByteArray),(0:Int)⟩:SThing)))=some a:=by
  have:=key gas 0 (Nat.zero_le _) (gas_lt (by omega))
  simpa using this
 unfold Gx DAL
 simp only [Int.toNat_natCast,h0]
 simp [show a.length*48≤140737488355328 from by omega,show ((a.length:Int)≤9223372036854775807) from by omega]
 try omega
theorem QAp {a:SBook} (g:GSBook a):Ox a=some a:=by
 simp only [Ox,FAL,PAp (g.2.2.1),Option.bind_some]
theorem RAp {a:SSession} (g:GSSession a):Qk a=some a:=by
 simp only [Qk,GAL,Option.bind_some]
theorem SAp {a:(List SSession)} (g:(GList 16 GSSession) a):Qx a=some a:=by
 have h:=g.1
 have key:∀ m i,i≤a.length→a.length - i<m→Rk m (.c0 a i (a.take i++List.replicate (a.length - i) (⟨(0:Int),false⟩:SSession)))=some a:=fun m i h1 h2=>
  loopN (A:=Unit) (n:=a.length) (Lp:=Rk) (st:=fun i _=>.c0 a i (a.take i++List.replicate (a.length - i) (⟨(0:Int),false⟩:SSession))) (Inv:=fun _ _=>True) (out:=fun _ _=>some a)
   (fun m _ _=>by simp [Rk,FAC])
   (fun m i _ hi _=>.inr ⟨(),by
    have hw:w64 ((i:Int)+1)=((i+1:Nat):Int):=by rw [w64_id (by omega) (by omega)];rfl
    have hc:=copied_len (Nat.le_of_lt hi) (⟨(0:Int),false⟩:SSession)
    simp only [Rk,FAC,Int.toNat_natCast,getD_at hi,RAp (g.2 _ (List.getElem_mem hi)),Option.bind_some,hw,copied hi,hc]
    simp [hi],trivial,rfl⟩) m i () h1 h2 trivial
 have h0:Rk gas (.c0 a 0 (List.replicate a.length (⟨(0:Int),false⟩:SSession)))=some a:=by
  have:=key gas 0 (Nat.zero_le _) (gas_lt (by omega))
  simpa using this
 unfold Qx IAL
 simp only [Int.toNat_natCast,h0]
 simp [show a.length*16≤140737488355328 from by omega,show ((a.length:Int)≤9223372036854775807) from by omega]
 try omega
theorem TAp {a:SLive} (g:GSLive a):Uk a=some a:=by
 simp only [Uk,JAL,Option.bind_some]
theorem UAp {a:(List SLive)} (g:(GList 16 GSLive) a):Ux a=some a:=by
 have h:=g.1
 have key:∀ m i,i≤a.length→a.length - i<m→Vk m (.c0 a i (a.take i++List.replicate (a.length - i) (⟨(0:Int),(0:Int)⟩:SLive)))=some a:=fun m i h1 h2=>
  loopN (A:=Unit) (n:=a.length) (Lp:=Vk) (st:=fun i _=>.c0 a i (a.take i++List.replicate (a.length - i) (⟨(0:Int),(0:Int)⟩:SLive))) (Inv:=fun _ _=>True) (out:=fun _ _=>some a)
   (fun m _ _=>by simp [Vk,HAC])
   (fun m i _ hi _=>.inr ⟨(),by
    have hw:w64 ((i:Int)+1)=((i+1:Nat):Int):=by rw [w64_id (by omega) (by omega)];rfl
    have hc:=copied_len (Nat.le_of_lt hi) (⟨(0:Int),(0:Int)⟩:SLive)
    simp only [Vk,HAC,Int.toNat_natCast,getD_at hi,TAp (g.2 _ (List.getElem_mem hi)),Option.bind_some,hw,copied hi,hc]
    simp [hi],trivial,rfl⟩) m i () h1 h2 trivial
 have h0:Vk gas (.c0 a 0 (List.replicate a.length (⟨(0:Int),(0:Int)⟩:SLive)))=some a:=by
  have:=key gas 0 (Nat.zero_le _) (gas_lt (by omega))
  simpa using this
 unfold Ux LAL
 simp only [Int.toNat_natCast,h0]
 simp [show a.length*16≤140737488355328 from by omega,show ((a.length:Int)≤9223372036854775807) from by omega]
 try omega
theorem VAp {a:SBox} (g:GSBox a):Vx a=some a:=by
 simp only [Vx,NAL,OAp (g.2.2.1),QAp (g.2.2.2.1),SAp (g.2.2.2.2.1),UAp (g.2.2.2.2.2.1),Option.bind_some]
theorem WAp {a:(List Int)} (g:(GList 8 (GInt .i64)) a):Xx a=some a:=by
 have h:=g.1
 have key:∀ m i,i≤a.length→a.length - i<m→Xk m (.c0 a i (a.take i++List.replicate (a.length - i) (0:Int)))=some a:=fun m i h1 h2=>
  loopN (A:=Unit) (n:=a.length) (Lp:=Xk) (st:=fun i _=>.c0 a i (a.take i++List.replicate (a.length - i) (0:Int))) (Inv:=fun _ _=>True) (out:=fun _ _=>some a)
   (fun m _ _=>by simp [Xk,IAC])
   (fun m i _ hi _=>.inr ⟨(),by
    have hw:w64 ((i:Int)+1)=((i+1:Nat):Int):=by rw [w64_id (by omega) (by omega)];rfl
    have hc:=copied_len (Nat.le_of_lt hi) (0:Int)
    simp only [Xk,IAC,Int.toNat_natCast,getD_at hi,Option.bind_some,hw,copied hi,hc]
    simp [hi],trivial,rfl⟩) m i () h1 h2 trivial
 have h0:Xk gas (.c0 a 0 (List.replicate a.length (0:Int)))=some a:=by
  have:=key gas 0 (Nat.zero_le _) (gas_lt (by omega))
  simpa using this
 unfold Xx PAL
 simp only [Int.toNat_natCast,h0]
 simp [show a.length*8≤140737488355328 from by omega,show ((a.length:Int)≤9223372036854775807) from by omega]
 try omega
theorem XAp {a:(List ByteArray)} (g:(GList 16 GStr) a):Zx a=some a:=by
 have h:=g.1
 have key:∀ m i,i≤a.length→a.length - i<m→Yk m (.c0 a i (a.take i++List.replicate (a.length - i) (⟨#[]⟩:ByteArray)))=some a:=fun m i h1 h2=>
  loopN (A:=Unit) (n:=a.length) (Lp:=Yk) (st:=fun i _=>.c0 a i (a.take i++List.replicate (a.length - i) (⟨#[]⟩:ByteArray))) (Inv:=fun _ _=>True) (out:=fun _ _=>some a)
   (fun m _ _=>by simp [Yk,JAC])
   (fun m i _ hi _=>.inr ⟨(),by
    have hw:w64 ((i:Int)+1)=((i+1:Nat):Int):=by rw [w64_id (by omega) (by omega)];rfl
    have hc:=copied_len (Nat.le_of_lt hi) (⟨#[]⟩:ByteArray)
    simp only [Yk,JAC,Int.toNat_natCast,getD_at hi,Option.bind_some,hw,copied hi,hc]
    simp [hi],trivial,rfl⟩) m i () h1 h2 trivial
 have h0:Yk gas (.c0 a 0 (List.replicate a.length (⟨#[]⟩:ByteArray)))=some a:=by
  have:=key gas 0 (Nat.zero_le _) (gas_lt (by omega))
  simpa using this
 unfold Zx RAL
 simp only [Int.toNat_natCast,h0]
 simp [show a.length*16≤140737488355328 from by omega,show ((a.length:Int)≤9223372036854775807) from by omega]
 try omega
theorem YAp {a:SGiven} (g:GSGiven a):Zk a=some a:=by
 simp only [Zk,SAL,Option.bind_some]
theorem ZAp {a:(List SGiven)} (g:(GList 24 GSGiven) a):Ey a=some a:=by
 have h:=g.1
 have key:∀ m i,i≤a.length→a.length - i<m→Bl m (.c0 a i (a.take i++List.replicate (a.length - i) (⟨(0:Int),(0:Int),(0:Int)⟩:SGiven)))=some a:=fun m i h1 h2=>
  loopN (A:=Unit) (n:=a.length) (Lp:=Bl) (st:=fun i _=>.c0 a i (a.take i++List.replicate (a.length - i) (⟨(0:Int),(0:Int),(0:Int)⟩:SGiven))) (Inv:=fun _ _=>True) (out:=fun _ _=>some a)
   (fun m _ _=>by simp [Bl,LAC])
   (fun m i _ hi _=>.inr ⟨(),by
    have hw:w64 ((i:Int)+1)=((i+1:Nat):Int):=by rw [w64_id (by omega) (by omega)];rfl
    have hc:=copied_len (Nat.le_of_lt hi) (⟨(0:Int),(0:Int),(0:Int)⟩:SGiven)
    simp only [Bl,LAC,Int.toNat_natCast,getD_at hi,YAp (g.2 _ (List.getElem_mem hi)),Option.bind_some,hw,copied hi,hc]
    simp [hi],trivial,rfl⟩) m i () h1 h2 trivial
 have h0:Bl gas (.c0 a 0 (List.replicate a.length (⟨(0:Int),(0:Int),(0:Int)⟩:SGiven)))=some a:=by
  have:=key gas 0 (Nat.zero_le _) (gas_lt (by omega))
  simpa using this
 unfold Ey UAL
 simp only [Int.toNat_natCast,h0]
 simp [show a.length*24≤140737488355328 from by omega,show ((a.length:Int)≤9223372036854775807) from by omega]
 try omega
theorem AAq {a:SRec} (g:GSRec a):Dl a=some a:=by
 simp only [Dl,VAL,BAc (g.2.2.2),Option.bind_some]
theorem BAq {a:(List SRec)} (g:(GList 80 GSRec) a):Hy a=some a:=by
 have h:=g.1
 have key:∀ m i,i≤a.length→a.length - i<m→Gl m (.c0 a i (a.take i++List.replicate (a.length - i) (⟨(0:Int),(⟨#[]⟩:ByteArray),(0:Int),(⟨(0:Int),(0:Int),false,false,false,false,(⟨#[]⟩:ByteArray),(0:Int)⟩:SThing)⟩:SRec)))=some a:=fun m i h1 h2=>
  loopN (A:=Unit) (n:=a.length) (Lp:=Gl) (st:=fun i _=>.c0 a i (a.take i++List.replicate (a.length - i) (⟨(0:Int),(⟨#[]⟩:ByteArray),(0:Int),(⟨(0:Int),(0:Int),false,false,false,false,(⟨#[]⟩:ByteArray),(0:Int)⟩:SThing)⟩:SRec))) (Inv:=fun _ _=>True) (out:=fun _ _=>some a)
   (fun m _ _=>by simp [Gl,OAC])
   (fun m i _ hi _=>.inr ⟨(),by
    have hw:w64 ((i:Int)+1)=((i+1:Nat):Int):=by rw [w64_id (by omega) (by omega)];rfl
    have hc:=copied_len (Nat.le_of_lt hi) (⟨(0:Int),(⟨#[]⟩:ByteArray),(0:Int),(⟨(0:Int),(0:Int),false,false,false,false,(⟨#[]⟩:ByteArray),(0:Int)⟩:SThing)⟩:SRec)
    simp only [Gl,OAC,Int.toNat_natCast,getD_at hi,AAq (g.2 _ (List.getElem_mem hi)),Option.bind_some,hw,copied hi,hc]
    simp [hi],trivial,rfl⟩) m i () h1 h2 trivial
 have h0:Gl gas (.c0 a 0 (List.replicate a.length (⟨(0:Int),(⟨#[]⟩:ByteArray),(0:Int),(⟨(0:Int),(0:Int),false,false,false,false,(⟨#[]⟩:ByteArray),(0:Int)⟩:SThing)⟩:SRec)))=some a:=by
  have:=key gas 0 (Nat.zero_le _) (gas_lt (by omega))
  simpa using this
 unfold Hy XAL
 simp only [Int.toNat_natCast,h0]
 simp [show a.length*80≤140737488355328 from by omega,show ((a.length:Int)≤9223372036854775807) from by omega]
 try omega
theorem YAo {a:SLife} (g:GSLife a):Zv a=some a:=by
 simp only [Zv,YAL,VAp (g.1),WAp (g.2.1),XAp (g.2.2.1),ZAp (g.2.2.2.1),BAq (g.2.2.2.2),Option.bind_some]
def bs (s:ByteArray):List Int:=s.data.toList.map fun b=>(b.toNat:Int)
theorem bs_len (s:ByteArray):(bs s).length=s.size:=by unfold bs;rw [List.length_map];rfl
theorem CAS {s:ByteArray} {n:Int} (h:n ∈ bs s):0≤n∧n≤255:=by
 unfold bs at h;rw [List.mem_map] at h;obtain ⟨b,_,rfl⟩:=h
 have:=b.toNat_lt;omega
theorem PY (a b:ByteArray):bs (a++b)=bs a++bs b:=by simp [bs]
theorem YAF (s:ByteArray):ofBytes (bs s)=s:=by
 cases s;simp [ofBytes,bs,Function.comp_def]
theorem Ia {s t:ByteArray} (h:bs s=bs t):s=t:=by rw [←YAF s,h,YAF]
theorem SN {l:List Int} (h:∀ n,n ∈ l→0≤n∧n≤255):bs (ofBytes l)=l:=by
 simp only [bs,ofBytes,List.map_map]
 conv=>rhs;rw [←List.map_id l]
 apply List.map_congr_left
 intro n hn
 obtain ⟨h1,h2⟩:=h n hn
 simp only [Function.comp,UInt8.toNat_ofNat',id]
 omega
theorem ZAF {s:ByteArray} {i:Nat} (h:i<s.size):bt s (i:Int)=(bs s)[i]'(by rw [bs_len];exact h):=by
 simp only [bt,Int.toNat_natCast,h,dite_true,bs,List.getElem_map]
 rfl
theorem Eh (s:ByteArray) (i:Int):0≤bt s i∧bt s i≤255:=by
 unfold bt;split
 ·have:=(s[i.toNat]).toNat_lt;omega
 ·omega
theorem JZ (s:ByteArray) (i j:Nat):bs (s.extract i j)=((bs s).take j).drop i:=by
 simp only [bs,ByteArray.data_extract,Array.toList_extract,List.extract_eq_take_drop,List.map_take,List.map_drop]
 rw [List.drop_take]
theorem TB {α:Type} {c:Bool} {a b:α} (h:c=true):(bif c then a else b)=a:=by rw [h];rfl
theorem NM {α:Type} {c:Bool} {a b:α} (h:c=false):(bif c then a else b)=b:=by rw [h];rfl
theorem Vd {s:ByteArray} {i:Nat} (h:i<s.size):bt s (i:Int)=(bs s).getD i 0:=by rw [ZAF h,getD_at]
theorem RAu {s:ByteArray} {i:Int} {j:Nat} (e:i=(j:Int)) (h:j<s.size):bt s i=(bs s).getD j 0:=by rw [e,Vd h]
theorem Y8 {α:Type} {a b:List α} {i:Nat} (h:i<a.length) (d:α):(a++b).getD i d=a.getD i d:=by simp [List.getD,List.getElem?_append_left h]
theorem Ur {α:Type} {a b:List α} {i:Nat} (h:a.length≤i) (d:α):(a++b).getD i d=b.getD (i - a.length) d:=by simp [List.getD,List.getElem?_append_right h]
theorem Qn {α:Type} {a b:List α} {x y:α} {i:Nat} (h:a.length=i):(a++x::b).set i y=a++y::b:=by
 rw [List.set_append_right _ _ (by omega),h,Nat.sub_self];rfl
theorem SAu {a b:Nat} (h:a=b):Nat.beq a b=true:=by subst h;exact Nat.beq_refl _
theorem TAu {P:Int→Prop} (n:Int) (h:0≤n) (k:∀ m:Nat,n=(m:Int)→P (m:Int)):P n:=by
 have:=k n.toNat (by omega)
 rwa [show ((n.toNat:Nat):Int)=n by omega] at this
theorem UAu:bs (⟨#[]⟩:ByteArray)=[]:=rfl
def ZX (l:List Int):Prop:=∀ n,n ∈ l→0≤n∧n≤255
theorem OZ {l:List Int} (h:ZX l) (i:Nat):0≤l.getD i 0∧l.getD i 0≤255:=by
 by_cases hi:i<l.length
 ·rw [getD_at hi];exact h _ (List.getElem_mem hi)
 ·have:l.getD i 0=0:=by simp [List.getD,List.getElem?_eq_none (Nat.le_of_not_lt hi)]
  omega
theorem Dc (s:ByteArray):ZX (bs s):=fun _ h=>CAS h
theorem Z8 (s:ByteArray):bytesOf s=bs s:=rfl
theorem CAq {α:Type} {l:List α} {i:Nat} (h:i<l.length) (y d:α):(l.set i y).getD i d=y:=by simp [List.getD,h]
def Ve (l:List SRec) (t:Int):Nat→Nat→Int→Int
 | 0,_,n=>n
 | j+1,i,n=>Ve l t j (i+1) (bif (l.getD i ⟨0,⟨#[]⟩,0,⟨0,0,false,false,false,false,⟨#[]⟩,0⟩⟩).fKind == 3 && (l.getD i ⟨0,⟨#[]⟩,0,⟨0,0,false,false,false,false,⟨#[]⟩,0⟩⟩).fThing.fId == t then (l.getD i ⟨0,⟨#[]⟩,0,⟨0,0,false,false,false,false,⟨#[]⟩,0⟩⟩).fThing.fNext else n)
theorem XAm {l:List SRec} {t:Int} (hl:l.length≤140737488351232):Hl l t=some (Ve l t l.length 0 0):=by
 have key:∀ (j i m:Nat) (n:Int),i+j=l.length→Jy (m+j+1) (.c0 l t n (i:Int))=some (Ve l t j i n):=by
  intro j
  induction j with
  | zero=>
   intro i m n hi
   rw [Jy];simp only [QAC]
   rw [NM (by simp;omega)];rfl
  | succ j ih=>
   intro i m n hi
   have hw:w64 ((i:Int)+1)=((i+1:Nat):Int):=by rw [w64_id (by omega) (by omega)];rfl
   have d1:decide ((i:Int)<(l.length:Int))=true:=decide_eq_true (by omega)
   have d0:decide ((0:Int)≤(i:Int))=true:=decide_eq_true (by omega)
   rw [show m+(j+1)+1=(m+j+1)+1 from rfl,Jy]
   simp only [QAC,d0,d1,Bool.and_self,cond_true,Int.toNat_natCast,hw,ih (i+1) m _ (by omega),Ve]
   cases (l.getD i ⟨0,⟨#[]⟩,0,⟨0,0,false,false,false,false,⟨#[]⟩,0⟩⟩).fKind == 3 <;> cases (l.getD i ⟨0,⟨#[]⟩,0,⟨0,0,false,false,false,false,⟨#[]⟩,0⟩⟩).fThing.fId == t <;> rfl
 obtain ⟨m,hm⟩:∃ m,gas=m+l.length+1:=⟨gas - (l.length+1),by have:=gas_lt (n:=l.length+1) (by omega);omega⟩
 rw [Hl,ZAL,hm]
 exact key l.length 0 m 0 (Nat.zero_add _)
def Ub (l:List SGiven) (i k:Nat):Bool:=((l.getD i ⟨0,0,0⟩).fThing == (l.getD k ⟨0,0,0⟩).fThing) && ((l.getD i ⟨0,0,0⟩).fLeaf == (l.getD k ⟨0,0,0⟩).fLeaf)
def Cc (l:List SGiven) (i k:Nat):Bool:=((l.getD i ⟨0,0,0⟩).fThing == (l.getD k ⟨0,0,0⟩).fThing) && decide ((l.getD i ⟨0,0,0⟩).fLeaf≤(l.getD k ⟨0,0,0⟩).fLeaf)
def Na (p:Nat→Bool):Nat→Nat→Bool
 | 0,_=>false
 | j+1,k=>p k || Na p j (k+1)
def ZY (p:Nat→Nat→Bool):Nat→Nat→Bool
 | 0,_=>true
 | j+1,i=> !Na (p i) i 0 && ZY p j (i+1)
theorem TAF {n:Nat} (h:n≤140737488351232):n*(n+2)+1<1000000000000000000000000000000000000000:=by
 have:=Nat.mul_le_mul h (show n+2≤140737488351234 by omega)
 omega
theorem VAm {l:List SGiven} (hl:l.length≤140737488351232):Il l=some (ZY (Ub l) l.length 0):=by
 have inner:∀ (j k i F:Nat),k+j=i→i<l.length→Ag (F+j+1) (.c1 l (i:Int) (k:Int))=bif Na (Ub l i) j k then some false else Ag F (.c0 l ((i+1:Nat):Int)):=by
  intro j
  induction j with
  | zero=>
   intro k i F hk hi
   have hw:w64 ((i:Int)+1)=((i+1:Nat):Int):=by rw [w64_id (by omega) (by omega)];rfl
   rw [Ag];simp only [Fp,hw]
   rw [NM (by simp;omega)];rfl
  | succ j ih=>
   intro k i F hk hi
   have hw:w64 ((k:Int)+1)=((k+1:Nat):Int):=by rw [w64_id (by omega) (by omega)];rfl
   rw [show F+(j+1)+1=(F+j+1)+1 from rfl,Ag]
   simp only [Fp,hw,ih (k+1) i F (by omega) hi,Int.toNat_natCast,show decide ((k:Int)<(i:Int))=true from decide_eq_true (by omega),show decide ((0:Int)≤(i:Int))=true from decide_eq_true (by omega),show decide ((i:Int)<(l.length:Int))=true from decide_eq_true (by omega),show decide ((0:Int)≤(k:Int))=true from decide_eq_true (by omega),show decide ((k:Int)<(l.length:Int))=true from decide_eq_true (by omega),Bool.and_self,cond_true,Na,Ub]
   cases (l.getD i ⟨0,0,0⟩).fThing == (l.getD k ⟨0,0,0⟩).fThing <;> cases (l.getD i ⟨0,0,0⟩).fLeaf == (l.getD k ⟨0,0,0⟩).fLeaf <;> rfl
 have outer:∀ (j i m:Nat),i+j=l.length→Ag (m+j*(l.length+2)+1) (.c0 l (i:Int))=some (ZY (Ub l) j i):=by
  intro j
  induction j with
  | zero=>
   intro i m hi
   rw [Ag];simp only [Fp]
   rw [NM (by simp;omega)];rfl
  | succ j ih=>
   intro i m hi
   rw [show m+(j+1)*(l.length+2)+1=((m+(l.length - i)+j*(l.length+2)+1)+i+1)+1 by rw [Nat.succ_mul];omega,Ag]
   simp only [Fp]
   rw [TB (by simp;omega),show ((0:Int))=((0:Nat):Int) from rfl,inner i 0 i _ (by omega) (by omega),ih (i+1) _ (by omega),ZY]
   cases Na (Ub l i) i 0 <;> rfl
 obtain ⟨m,hm⟩:∃ m,gas=m+l.length*(l.length+2)+1:=⟨gas - (l.length*(l.length+2)+1),by have:=gas_lt2 (TAF hl);omega⟩
 rw [Il,AAM,hm]
 exact outer l.length 0 m (Nat.zero_add _)
theorem WAm {l:List SGiven} (hl:l.length≤140737488351232):Jl l=some (ZY (Cc l) l.length 0):=by
 have inner:∀ (j k i F:Nat),k+j=i→i<l.length→Bg (F+j+1) (.c1 l (i:Int) (k:Int))=bif Na (Cc l i) j k then some false else Bg F (.c0 l ((i+1:Nat):Int)):=by
  intro j
  induction j with
  | zero=>
   intro k i F hk hi
   have hw:w64 ((i:Int)+1)=((i+1:Nat):Int):=by rw [w64_id (by omega) (by omega)];rfl
   rw [Bg];simp only [Gp,hw]
   rw [NM (by simp;omega)];rfl
  | succ j ih=>
   intro k i F hk hi
   have hw:w64 ((k:Int)+1)=((k+1:Nat):Int):=by rw [w64_id (by omega) (by omega)];rfl
   rw [show F+(j+1)+1=(F+j+1)+1 from rfl,Bg]
   simp only [Gp,hw,ih (k+1) i F (by omega) hi,Int.toNat_natCast,show decide ((k:Int)<(i:Int))=true from decide_eq_true (by omega),show decide ((0:Int)≤(i:Int))=true from decide_eq_true (by omega),show decide ((i:Int)<(l.length:Int))=true from decide_eq_true (by omega),show decide ((0:Int)≤(k:Int))=true from decide_eq_true (by omega),show decide ((k:Int)<(l.length:Int))=true from decide_eq_true (by omega),Bool.and_self,cond_true,Na,Cc]
   cases (l.getD i ⟨0,0,0⟩).fThing == (l.getD k ⟨0,0,0⟩).fThing <;> cases decide ((l.getD i ⟨0,0,0⟩).fLeaf≤(l.getD k ⟨0,0,0⟩).fLeaf) <;> rfl
 have outer:∀ (j i m:Nat),i+j=l.length→Bg (m+j*(l.length+2)+1) (.c0 l (i:Int))=some (ZY (Cc l) j i):=by
  intro j
  induction j with
  | zero=>
   intro i m hi
   rw [Bg];simp only [Gp]
   rw [NM (by simp;omega)];rfl
  | succ j ih=>
   intro i m hi
   rw [show m+(j+1)*(l.length+2)+1=((m+(l.length - i)+j*(l.length+2)+1)+i+1)+1 by rw [Nat.succ_mul];omega,Bg]
   simp only [Gp]
   rw [TB (by simp;omega),show ((0:Int))=((0:Nat):Int) from rfl,inner i 0 i _ (by omega) (by omega),ih (i+1) _ (by omega),ZY]
   cases Na (Cc l i) i 0 <;> rfl
 obtain ⟨m,hm⟩:∃ m,gas=m+l.length*(l.length+2)+1:=⟨gas - (l.length*(l.length+2)+1),by have:=gas_lt2 (TAF hl);omega⟩
 rw [Jl,BAM,hm]
 exact outer l.length 0 m (Nat.zero_add _)
theorem Rn {n:Int}:w32 n=n % 4294967296:=by
 simp only [w32,IntKind.wrap,IntKind.signed,IntKind.bits]
 simp
theorem Oa {n:Int} (h1:0≤n) (h2:n<4294967296):w32 n=n:=by rw [Rn];omega
def R32 (n:Int):Prop:=0≤n∧n<4294967296
theorem UZ (n:Int):R32 (w32 n):=by unfold R32;rw [Rn];omega
theorem VAu {n:Int} (h:0≤n∧n≤255):R32 n:=by unfold R32;omega
def xr (x y:Int):Int:=w32 (((BitVec.toNat ((BitVec.ofInt (IntKind.bits IntKind.u32) x) ^^^ (BitVec.ofInt (IntKind.bits IntKind.u32) y))):Nat):Int)
def an (x y:Int):Int:=w32 (((BitVec.toNat ((BitVec.ofInt (IntKind.bits IntKind.u32) x) &&& (BitVec.ofInt (IntKind.bits IntKind.u32) y))):Nat):Int)
def C9 (x y:Int):Int:=w32 (((BitVec.toNat ((BitVec.ofInt (IntKind.bits IntKind.u32) x) ||| (BitVec.ofInt (IntKind.bits IntKind.u32) y))):Nat):Int)
theorem Ud (x y:Int):w32 (((BitVec.toNat ((BitVec.ofInt (IntKind.bits IntKind.u32) x) ^^^ (BitVec.ofInt (IntKind.bits IntKind.u32) y))):Nat):Int)=xr x y:=rfl
theorem ZAR (x y:Int):w32 (((BitVec.toNat ((BitVec.ofInt (IntKind.bits IntKind.u32) x) &&& (BitVec.ofInt (IntKind.bits IntKind.u32) y))):Nat):Int)=an x y:=rfl
theorem CAc (x y:Int):w32 (((BitVec.toNat ((BitVec.ofInt (IntKind.bits IntKind.u32) x) ||| (BitVec.ofInt (IntKind.bits IntKind.u32) y))):Nat):Int)=C9 x y:=rfl
theorem Nr (x y:Int):R32 (xr x y):=UZ _
theorem WAu (x y:Int):R32 (an x y):=UZ _
theorem DAc {a b:Nat} {s:Nat} (hb:b<2 ^ s) (ha:a*2 ^ s<4294967296) (hs:b<4294967296):C9 ((a*2 ^ s:Nat):Int) (b:Int)=((a*2 ^ s+b:Nat):Int):=by
 have e:a*2 ^ s ||| b=a*2 ^ s+b:=by
  have:=Nat.shiftLeft_add_eq_or_of_lt hb a
  rw [Nat.shiftLeft_eq] at this
  exact this.symm
 unfold C9
 have h3:a*2 ^ s ||| b<2 ^ 32:=Nat.or_lt_two_pow (by omega) (by omega)
 rw [BitVec.toNat_or]
 show w32 (((BitVec.ofInt 32 _).toNat ||| (BitVec.ofInt 32 _).toNat:Nat):Int)=_
 rw [BitVec.ofInt_natCast,BitVec.ofInt_natCast,BitVec.toNat_ofNat,BitVec.toNat_ofNat,Nat.mod_eq_of_lt (by omega),Nat.mod_eq_of_lt (by omega),e]
 rw [e] at h3
 exact Oa (by omega) (by omega)
theorem DAq {e:Int} (h:R32 e):xr (ite ((IntKind.signed IntKind.u32)=true) (-(1:Int)) (IntKind.max IntKind.u32)) e=w32 (4294967295 - e):=by
 obtain ⟨h1,h2⟩:=h
 obtain ⟨n,rfl⟩:∃ n:Nat,e=(n:Int):=⟨e.toNat,by omega⟩
 have hn:n<4294967296:=by omega
 have e1:(ite ((IntKind.signed IntKind.u32)=true) (-(1:Int)) (IntKind.max IntKind.u32))=4294967295:=by decide
 rw [e1]
 unfold xr
 show w32 (((BitVec.ofInt 32 4294967295 ^^^ BitVec.ofInt 32 (n:Int)).toNat:Nat):Int)=_
 have e2:BitVec.ofInt 32 4294967295=BitVec.allOnes 32:=by decide
 rw [e2,BitVec.ofInt_natCast,BitVec.allOnes_xor,BitVec.toNat_not,BitVec.toNat_ofNat]
 rw [Rn,Rn]
 omega
def rt (low high x:Int):Int:=x / low+x % low*high
theorem EAq {low high x:Int} (h:R32 x) (hl:0<low) (hh:0<high) (hlh:low*high=4294967296):R32 (rt low high x):=by
 unfold R32 rt at *
 have h1:0≤x / low:=Int.ediv_nonneg h.1 (by omega)
 have h2:0≤x % low:=Int.emod_nonneg _ (by omega)
 have h3:x % low<low:=Int.emod_lt_of_pos _ hl
 have h4:x / low<high:=Int.ediv_lt_of_lt_mul hl (by rw [Int.mul_comm,hlh];exact h.2)
 have h5:0≤x % low*high:=Int.mul_nonneg h2 (by omega)
 have h6:x % low*high≤(low - 1)*high:=Int.mul_le_mul_of_nonneg_right (by omega) (by omega)
 have h7:(low - 1)*high=low*high - high:=by rw [Int.sub_mul,Int.one_mul]
 omega
theorem FAq {x:Int} (h:R32 x) (n:Nat) (hn:0<n) (hn2:n<32):C9 (w32 (x*2 ^ (32 - n))) (x / 2 ^ n)=rt (2 ^ n) (2 ^ (32 - n)) x:=by
 obtain ⟨h1,h2⟩:=h
 obtain ⟨y,rfl⟩:∃ y:Nat,x=(y:Int):=⟨x.toNat,by omega⟩
 have hy:y<4294967296:=by omega
 have e0:(4294967296:Nat)=2 ^ n*2 ^ (32 - n):=by rw [←Nat.pow_add,show n+(32 - n)=32 by omega]
 have e1:w32 ((y:Int)*2 ^ (32 - n))=((y % 2 ^ n*2 ^ (32 - n):Nat):Int):=by
  rw [Rn]
  have h5:((y:Int)*2 ^ (32 - n))=((y*2 ^ (32 - n):Nat):Int):=by push_cast;rfl
  have h6:y*2 ^ (32 - n) % 4294967296=y % 2 ^ n*2 ^ (32 - n):=by rw [e0,Nat.mul_mod_mul_right]
  rw [h5,←h6]
  omega
 have e2:((y:Int) / 2 ^ n)=((y / 2 ^ n:Nat):Int):=by push_cast;rfl
 have hp:0<2 ^ n:=Nat.two_pow_pos n
 have hp2:0<2 ^ (32 - n):=Nat.two_pow_pos _
 have hm:y % 2 ^ n<2 ^ n:=Nat.mod_lt _ hp
 have hd:y / 2 ^ n<2 ^ (32 - n):=Nat.div_lt_of_lt_mul (by rw [←e0];exact hy)
 rw [e1,e2,DAc hd (by rw [e0];exact Nat.mul_lt_mul_of_pos_right hm hp2) (Nat.lt_of_le_of_lt (Nat.div_le_self _ _) hy)]
 unfold rt
 push_cast
 omega
def sg0 (x:Int):Int:=xr (xr (rt 128 33554432 x) (rt 262144 16384 x)) (x / 8)
def sg1 (x:Int):Int:=xr (xr (rt 131072 32768 x) (rt 524288 8192 x)) (x / 1024)
def ep1 (x:Int):Int:=xr (xr (rt 64 67108864 x) (rt 2048 2097152 x)) (rt 33554432 128 x)
def ep0 (x:Int):Int:=xr (xr (rt 4 1073741824 x) (rt 8192 524288 x)) (rt 4194304 1024 x)
def GAq (w:List Int) (t:Nat):Int:=w32 (w32 (w32 (sg1 (w.getD (t - 2) 0)+w.getD (t - 7) 0)+sg0 (w.getD (t - 15) 0))+w.getD (t - 16) 0)
def sched (w:List Int):Nat→List Int
 | 0=>w
 | n+1=>sched w n++[GAq (sched w n) (16+n)]
theorem D9 {w:List Int} (h:w.length=16) (n:Nat):(sched w n).length=16+n:=by
 induction n with
 | zero=>exact h
 | succ n ih=>simp [sched,ih];omega
theorem AAG {w:List Int} (h:∀ x ∈ w,R32 x) (n:Nat):∀ x ∈ sched w n,R32 x:=by
 induction n with
 | zero=>exact h
 | succ n ih=>
  intro x hx
  rw [sched,List.mem_append,List.mem_singleton] at hx
  rcases hx with hx | rfl
  ·exact ih x hx
  ·exact UZ _
theorem F9 {l:List Int} (h:∀ x ∈ l,R32 x) (i:Nat):R32 (l.getD i 0):=by
 by_cases hi:i<l.length
 ·rw [getD_at hi];exact h _ (List.getElem_mem hi)
 ·have:l.getD i 0=0:=by simp [List.getD,List.getElem?_eq_none (Nat.le_of_not_lt hi)]
  rw [this];unfold R32;omega
structure Reg where
 a:Int
 b:Int
 c:Int
 d:Int
 e:Int
 f:Int
 g:Int
 h:Int
def Reg.ok (r:Reg):Prop:=R32 r.a∧R32 r.b∧R32 r.c∧R32 r.d∧R32 r.e∧R32 r.f∧R32 r.g∧R32 r.h
def Reg.l (r:Reg):List Int:=[r.a,r.b,r.c,r.d,r.e,r.f,r.g,r.h]
theorem Reg.G9 (r:Reg):r.l.length=8:=rfl
def t1 (r:Reg) (k w:Int):Int:=w32 (w32 (w32 (w32 (r.h+ep1 r.e)+xr (an r.e r.f) (an (w32 (4294967295 - r.e)) r.g))+k)+w)
def t2 (r:Reg):Int:=w32 (ep0 r.a+xr (xr (an r.a r.b) (an r.a r.c)) (an r.b r.c))
def Yd (r:Reg) (k w:Int):Reg:=⟨w32 (t1 r k w+t2 r),r.a,r.b,r.c,w32 (r.d+t1 r k w),r.e,r.f,r.g⟩
theorem HAq {r:Reg} (h:r.ok) (k w:Int):(Yd r k w).ok:=⟨UZ _,h.1,h.2.1,h.2.2.1,UZ _,h.2.2.2.2.1,h.2.2.2.2.2.1,h.2.2.2.2.2.2.1⟩
def EZ (K W:List Int) (r:Reg):Nat→Reg
 | 0=>r
 | n+1=>Yd (EZ K W r n) (K.getD n 0) (W.getD n 0)
theorem HAc (K W:List Int) {r:Reg} (h:r.ok) (n:Nat):(EZ K W r n).ok:=by
 induction n with
 | zero=>exact h
 | succ n ih=>exact HAq ih _ _
def Tn (s r:Reg):Reg:=⟨w32 (s.a+r.a),w32 (s.b+r.b),w32 (s.c+r.c),w32 (s.d+r.d),w32 (s.e+r.e),w32 (s.f+r.f),w32 (s.g+r.g),w32 (s.h+r.h)⟩
theorem IAq (s r:Reg):(Tn s r).ok:=⟨UZ _,UZ _,UZ _,UZ _,UZ _,UZ _,UZ _,UZ _⟩
def keysL:List Int:=[1116352408,1899447441,3049323471,3921009573,961987163,1508970993,2453635748,2870763221,3624381080,310598401,607225278,1426881987,1925078388,2162078206,2614888103,3248222580,3835390401,4022224774,264347078,604807628,770255983,1249150122,1555081692,1996064986,2554220882,2821834349,2952996808,3210313671,3336571891,3584528711,113926993,338241895,666307205,773529912,1294757372,1396182291,1695183700,1986661051,2177026350,2456956037,2730485921,2820302411,3259730800,3345764771,3516065817,3600352804,4094571909,275423344,430227734,506948616,659060556,883997877,958139571,1322822218,1537002063,1747873779,1955562222,2024104815,2227730452,2361852424,2428436474,2756734187,3204031479,3329325298]
def be4 (a b c d:Int):Int:=a*16777216+b*65536+c*256+d
def wordAt (l:List Int) (i:Nat):Int:=be4 (l.getD (4*i) 0) (l.getD (4*i+1) 0) (l.getD (4*i+2) 0) (l.getD (4*i+3) 0)
def AY (l:List Int) (n:Nat):List Int:=(List.range n).map (wordAt l)
theorem Jh (l:List Int) (n:Nat):(AY l n).length=n:=by simp [AY]
theorem IAc (l:List Int) (n:Nat):AY l (n+1)=AY l n++[wordAt l n]:=by simp [AY,List.range_succ]
theorem JAq {a b c d:Int} (ha:0≤a∧a≤255) (hb:0≤b∧b≤255) (hc:0≤c∧c≤255) (hd:0≤d∧d≤255):R32 (be4 a b c d):=by unfold R32 be4;omega
theorem KAq {l:List Int} (h:ZX l) (i:Nat):R32 (wordAt l i):=JAq (OZ h _) (OZ h _) (OZ h _) (OZ h _)
theorem DAS {l:List Int} (h:ZX l) (n:Nat):∀ x ∈ AY l n,R32 x:=by
 intro x hx
 simp only [AY,List.mem_map] at hx
 obtain ⟨i,_,rfl⟩:=hx
 exact KAq h i
def comp (s:Reg) (b:List Int):Reg:=Tn s (EZ keysL (sched (AY b 16) 48) s 64)
theorem JAc (s:Reg) (b:List Int):(comp s b).ok:=IAq _ _
def comps:Nat→Reg→List Int→Reg
 | 0,s,_=>s
 | n+1,s,b=>comps n (comp s (b.take 64)) (b.drop 64)
theorem Un {s:Reg} (h:s.ok):∀ (n:Nat) (b:List Int),(comps n s b).ok:=by
 intro n
 induction n generalizing s with
 | zero=>intro b;exact h
 | succ n ih=>intro b;exact ih (JAc _ _) _
theorem KAc (n m:Nat):∀ (s:Reg) (b:List Int),comps (n+m) s b=comps m (comps n s b) (b.drop (64*n)):=by
 induction n with
 | zero=>intro s b;simp [comps]
 | succ n ih=>
  intro s b
  rw [Nat.add_right_comm,comps,comps,ih,List.drop_drop]
  congr 2
  omega
theorem LAq (n:Nat):∀ (s:Reg) (b c:List Int),64*n≤b.length→comps n s (b++c)=comps n s b:=by
 induction n with
 | zero=>intro s b c _;rfl
 | succ n ih=>
  intro s b c h
  rw [comps,comps,List.take_append_of_le_length (by omega),List.drop_append_of_le_length (by omega),ih _ _ _ (by simp;omega)]
def four (x:Int):List Int:=[x / 16777216,x / 65536 % 256,x / 256 % 256,x % 256]
theorem En {x:Int} (h:R32 x):ZX (four x):=by
 intro n hn
 unfold R32 at h
 simp only [four,List.mem_cons,List.not_mem_nil,or_false] at hn
 rcases hn with rfl | rfl | rfl | rfl <;> omega
def VX (ws:List Int):List Int:=ws.flatMap four
theorem Vr (ws:List Int):(VX ws).length=4*ws.length:=by
 induction ws with
 | nil=>rfl
 | cons w ws ih=>
  rw [show VX (w::ws)=four w++VX ws from rfl,List.length_append,ih]
  simp only [four,List.length_cons,List.length_nil];omega
theorem EAS {ws:List Int} (h:∀ x ∈ ws,R32 x):ZX (VX ws):=by
 intro n hn
 simp only [VX,List.mem_flatMap] at hn
 obtain ⟨x,hx,hn⟩:=hn
 exact En (h x hx) n hn
theorem LAc (a b:List Int):VX (a++b)=VX a++VX b:=by simp [VX]
theorem MAq {x:Int} (h:R32 x):be4 (x / 16777216) (x / 65536 % 256) (x / 256 % 256) (x % 256)=x:=by unfold R32 at h;unfold be4;omega
theorem MAc:∀ {ws:List Int} (_:∀ x ∈ ws,R32 x) {i:Nat} (hi:i<ws.length),wordAt (VX ws) i=ws[i]
 | w::ws,h,0,_=>by
  have:=MAq (h w (List.mem_cons_self ..))
  simpa [wordAt,VX,four] using this
 | w::ws,h,i+1,hi=>by
  have ih:=MAc (ws:=ws) (fun x hx=>h x (List.mem_cons_of_mem _ hx)) (i:=i) (by simpa using hi)
  rw [List.getElem_cons_succ,←ih]
  have e:∀ j,(VX (w::ws)).getD (j+4) 0=(VX ws).getD j 0:=fun j=>by simp [VX,four,List.getD]
  unfold wordAt
  rw [show 4*(i+1)=4*i+4 by omega,show 4*i+4+1=(4*i+1)+4 by omega,show 4*i+4+2=(4*i+2)+4 by omega,show 4*i+4+3=(4*i+3)+4 by omega,e,e,e,e]
theorem NAq {ws:List Int} (h:∀ x ∈ ws,R32 x):AY (VX ws) ws.length=ws:=by
 apply List.ext_getElem
 ·rw [Jh]
 ·intro i h1 h2
  simp only [AY,List.getElem_map,List.getElem_range]
  exact MAc h h2
theorem Reg.Wn {r:Reg} (h:r.ok):∀ x ∈ r.l,R32 x:=by
 intro x hx
 simp only [Reg.l,List.mem_cons,List.not_mem_nil,or_false] at hx
 obtain ⟨h1,h2,h3,h4,h5,h6,h7,h8⟩:=h
 rcases hx with rfl | rfl | rfl | rfl | rfl | rfl | rfl | rfl <;> assumption
def Vb:Reg:=⟨1779033703,3144134277,1013904242,2773480762,1359893119,2600822924,528734635,1541459225⟩
theorem Ri:Vb.ok:=by unfold Reg.ok R32 Vb;decide
def Zd (n:Int):List Int:=[0,0,0,n / 4294967296 % 256,n / 16777216 % 256,n / 65536 % 256,n / 256 % 256,n % 256]
def EY (n:Nat):List Int:=128::(List.replicate ((119 - n % 64) % 64) 0++Zd (8*(n:Int)))
theorem BAG (n:Nat):(EY n).length=9+(119 - n % 64) % 64:=by simp [EY,Zd];omega
theorem OAq (n:Nat):(n+(EY n).length) % 64=0:=by rw [BAG];omega
theorem FAS (n:Nat):ZX (EY n):=by
 intro x hx
 simp only [EY,Zd,List.mem_cons,List.mem_append,List.mem_replicate,List.not_mem_nil,or_false] at hx
 omega
def Cb (b:List Int):List Int:=VX (comps ((b.length+(EY b.length).length) / 64) Vb (b++EY b.length)).l
def FZ (s:ByteArray):ByteArray:=ofBytes (Cb (bs s))
theorem GAS (b:List Int):(Cb b).length=32:=by rw [Cb,Vr];rfl
theorem NAc (b:List Int):ZX (Cb b):=EAS (Reg.Wn (Un Ri _ _))
theorem Fh (s:ByteArray):(FZ s).size=32:=by rw [FZ,ofBytes_size,GAS]
theorem CAG (s:ByteArray):bs (FZ s)=Cb (bs s):=SN (NAc _)
theorem PAq {x:Int} (h:R32 x):[w8 (w32 (x.tdiv 16777216)),w8 ((w32 (x.tdiv 65536)).tmod 256),w8 ((w32 (x.tdiv 256)).tmod 256),w8 (x.tmod 256)]=four x:=by
 obtain ⟨h1,h2⟩:=h
 rw [Int.tdiv_eq_ediv_of_nonneg h1,Int.tdiv_eq_ediv_of_nonneg h1,Int.tdiv_eq_ediv_of_nonneg h1,Int.tmod_eq_emod_of_nonneg h1]
 rw [Oa (n:=x / 16777216) (by omega) (by omega),Oa (n:=x / 65536) (by omega) (by omega),Oa (n:=x / 256) (by omega) (by omega)]
 rw [Int.tmod_eq_emod_of_nonneg (by omega),Int.tmod_eq_emod_of_nonneg (by omega)]
 simp only [four,w8_mod,List.cons.injEq,and_true]
 omega
theorem IAS {ws:List Int} (h:∀ x ∈ ws,R32 x) (hl:ws.length≤1000000000000):Yb ws=some (ofBytes (VX ws)):=by
 have key:=loopN (A:=Unit) (n:=ws.length) (Lp:=Py) (st:=fun i _=>.c0 ws (i:Int) (VX (ws.take i))) (Inv:=fun _ _=>True) (out:=fun _ _=>some (ofBytes (VX ws)))
  (fun m _ _=>by
   simp only [Py,VAC]
   rw [NM (by simp),List.take_length])
  (fun m i _ hi _=>.inr ⟨(),by
   have e:w64 ((i:Int)+1)=((i+1:Nat):Int):=by rw [w64_id (by omega) (by omega)];rfl
   simp only [Py,VAC,e,Int.toNat_natCast]
   rw [TB (by simp;omega),TB (by simp;omega),TB (by rw [Vr,List.length_take];simp;omega)]
   rw [getD_at hi,PAq (h _ (List.getElem_mem hi)),take_at hi,LAc]
   simp [VX],trivial,rfl⟩)
 exact key gas 0 () (Nat.zero_le _) (gas_lt (by omega)) trivial
def Lh:SHasher:=⟨ofBytes (VX Vb.l),⟨#[]⟩,0⟩
theorem QAq:Ry=some Lh:=by
 have h:=IAS (ws:=Vb.l) (Reg.Wn Ri) (by decide)
 have e:UAC=some Vb.l:=rfl
 simp only [Ry,FAM,e,h,Option.bind_some]
 rfl
def FN (x a b:Int):Bool:=decide (a≤x) && decide (x≤b)
theorem WX {x a b:Int}:FN x a b=true↔a≤x∧x≤b:=by simp [FN]
theorem La (x a b:Int):SX x a b=some (FN x a b):=by
 show (bif decide (a≤x) then some (decide (x≤b)) else some false)=some (FN x a b)
 unfold FN;cases decide (a≤x) <;> rfl
theorem OAc {h:SHasher} (h1:h.fState.size=32) (h2:h.fRest.size<64) (h3:0≤h.fCount∧h.fCount≤1000000000) (h4:h.fCount % 64=(h.fRest.size:Int)):Eb h=some true:=by
 have e:FN h.fCount 0 1000000000=true:=by rw [WX];omega
 simp only [Eb,GAM,La,Option.bind_some,e]
 rw [TB (by simp;omega),TB (by simp;omega),cond_true,Int.tmod_eq_emod_of_nonneg h3.1,h4]
 simp
theorem RAq {s:ByteArray} {i:Nat} (h:4*i+4≤s.size) (hs:s.size≤9000000000000000000):Nl s ((4*i:Nat):Int)=some (wordAt (bs s) i):=by
 have hb:=Dc s
 have e1:w64 (((4*i:Nat):Int)+1)=((4*i+1:Nat):Int):=by rw [w64_id (by omega) (by omega)];rfl
 have e2:w64 (((4*i:Nat):Int)+2)=((4*i+2:Nat):Int):=by rw [w64_id (by omega) (by omega)];rfl
 have e3:w64 (((4*i:Nat):Int)+3)=((4*i+3:Nat):Int):=by rw [w64_id (by omega) (by omega)];rfl
 simp only [Nl,HAM,e1,e2,e3]
 rw [TB (by simp;omega),TB (by simp;omega),TB (by simp;omega),TB (by simp;omega)]
 rw [Vd (by omega),Vd (by omega),Vd (by omega),Vd (by omega)]
 have b0:=OZ hb (4*i)
 have b1:=OZ hb (4*i+1)
 have b2:=OZ hb (4*i+2)
 have b3:=OZ hb (4*i+3)
 unfold wordAt be4
 simp only [Rn]
 congr 1
 omega
theorem PAc {s:ByteArray} (hs:s.size≤1000000000000):YZ s=some (AY (bs s) (s.size / 4)):=by
 have key:=loopN (A:=Unit) (n:=s.size / 4) (Lp:=Vy) (st:=fun i _=>.c0 s ((4*i:Nat):Int) (AY (bs s) i)) (Inv:=fun _ _=>True) (out:=fun _ _=>some (AY (bs s) (s.size / 4)))
  (fun m _ _=>by
   simp only [Vy,YAC]
   rw [w64_id (by omega) (by omega),NM (by simp;omega)])
  (fun m i _ hi _=>.inr ⟨(),by
   have e:w64 (((4*i:Nat):Int)+4)=((4*(i+1):Nat):Int):=by rw [w64_id (by omega) (by omega)];omega
   simp only [Vy,YAC,e,RAq (s:=s) (i:=i) (by omega) (by omega),Option.bind_some,Jh,IAc]
   rw [TB (by simp;omega),TB (by simp;omega)],trivial,rfl⟩)
 exact key gas 0 () (Nat.zero_le _) (gas_lt (by omega)) trivial
theorem Ye {x low high:Int} (h:R32 x) (hl:0<low) (hh:0<high) (hlh:low*high=4294967296):Wy x low high=some (rt low high x):=by
 have hr:=EAq h hl hh hlh
 obtain ⟨h1,h2⟩:=h
 have e0:(!(low == 0))=true:=by simp;omega
 have d1:0≤x / low:=Int.ediv_nonneg h1 (by omega)
 have d2:0≤x % low*high:=Int.mul_nonneg (Int.emod_nonneg _ (by omega)) (by omega)
 unfold R32 rt at hr
 simp only [Wy,KAM,e0,cond_true,Int.tdiv_eq_ediv_of_nonneg h1,Int.tmod_eq_emod_of_nonneg h1]
 rw [Oa d1 (by omega),Oa d2 (by omega),Oa (by omega) (by omega)]
 rfl
theorem SAq {x:Int} (h:R32 x):Fb x 131072 524288 1024 true=some (sg1 x):=by
 have e1:w32 (w32 ((2147483648:Int).tdiv 131072)*2)=32768:=by decide
 have e2:w32 (w32 ((2147483648:Int).tdiv 524288)*2)=8192:=by decide
 have e3:w32 (x.tdiv 1024)=x / 1024:=by
  obtain ⟨h1,h2⟩:=h
  rw [Int.tdiv_eq_ediv_of_nonneg h1,Oa (by omega) (by omega)]
 simp only [Fb,Qp,e1,e2,e3,Ye h (low:=131072) (high:=32768) (by omega) (by omega) (by omega),Ye h (low:=524288) (high:=8192) (by omega) (by omega) (by omega),Option.bind_some,Ud]
 rfl
theorem TAq {x:Int} (h:R32 x):Fb x 128 262144 8 true=some (sg0 x):=by
 have e1:w32 (w32 ((2147483648:Int).tdiv 128)*2)=33554432:=by decide
 have e2:w32 (w32 ((2147483648:Int).tdiv 262144)*2)=16384:=by decide
 have e3:w32 (x.tdiv 8)=x / 8:=by
  obtain ⟨h1,h2⟩:=h
  rw [Int.tdiv_eq_ediv_of_nonneg h1,Oa (by omega) (by omega)]
 simp only [Fb,Qp,e1,e2,e3,Ye h (low:=128) (high:=33554432) (by omega) (by omega) (by omega),Ye h (low:=262144) (high:=16384) (by omega) (by omega) (by omega),Option.bind_some,Ud]
 rfl
theorem UAq {x:Int} (h:R32 x):Fb x 64 2048 33554432 false=some (ep1 x):=by
 have e1:w32 (w32 ((2147483648:Int).tdiv 64)*2)=67108864:=by decide
 have e2:w32 (w32 ((2147483648:Int).tdiv 2048)*2)=2097152:=by decide
 have e3:w32 (w32 ((2147483648:Int).tdiv 33554432)*2)=128:=by decide
 simp only [Fb,Qp,e1,e2,e3,Ye h (low:=64) (high:=67108864) (by omega) (by omega) (by omega),Ye h (low:=2048) (high:=2097152) (by omega) (by omega) (by omega),Ye h (low:=33554432) (high:=128) (by omega) (by omega) (by omega),Option.bind_some,Ud]
 rfl
theorem VAq {x:Int} (h:R32 x):Fb x 4 8192 4194304 false=some (ep0 x):=by
 have e1:w32 (w32 ((2147483648:Int).tdiv 4)*2)=1073741824:=by decide
 have e2:w32 (w32 ((2147483648:Int).tdiv 8192)*2)=524288:=by decide
 have e3:w32 (w32 ((2147483648:Int).tdiv 4194304)*2)=1024:=by decide
 simp only [Fb,Qp,e1,e2,e3,Ye h (low:=4) (high:=1073741824) (by omega) (by omega) (by omega),Ye h (low:=8192) (high:=524288) (by omega) (by omega) (by omega),Ye h (low:=4194304) (high:=1024) (by omega) (by omega) (by omega),Option.bind_some,Ud]
 rfl
theorem QAc (s r:Reg):∀ i,i<8→(Tn s r).l.getD i 0=w32 (s.l.getD i 0+r.l.getD i 0)
 | 0,_=>rfl | 1,_=>rfl | 2,_=>rfl | 3,_=>rfl | 4,_=>rfl | 5,_=>rfl | 6,_=>rfl | 7,_=>rfl
 | n+8,h=>by omega
theorem XAu (n:Nat) (h:n<9223372036854775807):∃ m,gas=m+n:=⟨gas - n,by have:=gas_lt h;omega⟩
theorem WAq (s r:Reg):∀ (j i m:Nat),i+j=8→LZ (m+j+1) (.c3 s.l (i:Int) r.l ((Tn s r).l.take i))=some (Tn s r).l:=by
 intro j
 induction j with
 | zero=>
  intro i m h
  obtain rfl:i=8:=by omega
  simp only [LZ,Je]
  rfl
 | succ j ih=>
  intro i m h
  have e:w64 ((i:Int)+1)=((i+1:Nat):Int):=by rw [w64_id (by omega) (by omega)];rfl
  have hl:∀ q:Reg,q.l.length=8:=fun _=>rfl
  rw [show m+(j+1)+1=(m+j+1)+1 by omega]
  simp only [LZ,Je,e,Int.toNat_natCast]
  rw [TB (by simp;omega),TB (by simp [hl];omega),TB (by simp [hl];omega),TB (by simp [hl];omega)]
  have h3:=ih (i+1) m (by omega)
  rw [take_at (by rw [hl];omega),←getD_at (by rw [hl];omega) 0,QAc _ _ _ (by omega)] at h3
  exact h3
def shL:Nat→List Int→List Int
 | 0,v=>v
 | i+1,v=>shL i (v.set (i+1) (v.getD i 0))
theorem XAq (t o W:List Int) (k T1 T2:Int) (hk:0≤k∧k<64):∀ (i m:Nat) (v:List Int),i<8→v.length=8→LZ (m+i+1) (.c2 t o k T1 T2 (i:Int) W v)=LZ m (.c1 t o (k+1) W (((shL i v).set 4 (w32 ((shL i v).getD 4 0+T1))).set 0 (w32 (T1+T2)))):=by
 intro i
 induction i with
 | zero=>
  intro m v _ hl
  have e:w64 (k+1)=k+1:=w64_id (by omega) (by omega)
  simp only [LZ,Je,e]
  rw [NM (by simp),TB (by simp [hl]),TB (by simp [hl]),TB (by simp [hl])]
  rfl
 | succ i ih=>
  intro m v hi hl
  have e:w64 (((i+1:Nat):Int) - 1)=(i:Int):=by rw [w64_id (by omega) (by omega)];omega
  rw [show m+(i+1)+1=(m+i+1)+1 by omega]
  rw [LZ]
  simp only [Je,e,Int.toNat_natCast]
  rw [TB (by simp;try omega),TB (by simp [hl];try omega),TB (by simp [hl];try omega),ih m _ (by omega) (by simp [hl])]
  rfl
theorem YAq (t W:List Int) (r:Reg) (hr:r.ok) (hW:∀ x ∈ W,R32 x) (hWl:W.length=64) (i m:Nat) (hi:i<64) :
  LZ (m+9) (.c1 t keysL (i:Int) W r.l)=LZ m (.c1 t keysL ((i:Int)+1) W (Yd r (keysL.getD i 0) (W.getD i 0)).l):=by
 obtain ⟨h1,h2,h3,h4,h5,h6,h7,h8⟩:=hr
 have hk:keysL.length=64:=rfl
 have g (q:Reg):q.l.getD 0 0=q.a∧q.l.getD 1 0=q.b∧q.l.getD 2 0=q.c∧q.l.getD 4 0=q.e∧q.l.getD 5 0=q.f∧q.l.getD 6 0=q.g∧q.l.getD 7 0=q.h:=⟨rfl,rfl,rfl,rfl,rfl,rfl,rfl⟩
 obtain ⟨g0,g1,g2,g4,g5,g6,g7⟩:=g r
 have hl:r.l.length=8:=rfl
 have z4:(4:Int).toNat=4:=rfl
 have z5:(5:Int).toNat=5:=rfl
 have z6:(6:Int).toNat=6:=rfl
 have z7:(7:Int).toNat=7:=rfl
 have z0:(0:Int).toNat=0:=rfl
 have z1:(1:Int).toNat=1:=rfl
 have z2:(2:Int).toNat=2:=rfl
 rw [show m+9=(m+7+1)+1 by omega,LZ]
 simp only [Je,z0,z1,z2,z4,z5,z6,z7,g0,g1,g2,g4,g5,g6,g7,hl,hk,hWl,UAq h5,VAq h1,Option.bind_some,Ud,ZAR,Int.toNat_natCast]
 rw [TB (by simp;omega),TB (by simp),TB (by simp),TB (by simp),TB (by simp),TB (by simp;omega),TB (by simp;omega),TB (by simp),TB (by simp),TB (by simp),TB (by simp),TB (by simp),TB (by simp),TB (by simp)]
 exact XAq t keysL W (i:Int) (t1 r (keysL.getD i 0) (W.getD i 0)) (t2 r) (by omega) 7 m r.l (by omega) rfl
theorem ZAq (s:Reg) (hs:s.ok) (W:List Int) (hW:∀ x ∈ W,R32 x) (hWl:W.length=64):∀ (j i m:Nat),i+j=64→LZ (m+9*j+10) (.c1 s.l keysL (i:Int) W (EZ keysL W s i).l)=some (Tn s (EZ keysL W s 64)).l:=by
 intro j
 induction j with
 | zero=>
  intro i m h
  obtain rfl:i=64:=by omega
  rw [show m+9*0+10=(m+8+1)+1 by omega,LZ]
  simp only [Je]
  rw [NM (by simp)]
  exact WAq s _ 8 0 m (by omega)
 | succ j ih=>
  intro i m h
  rw [show m+9*(j+1)+10=(m+9*j+10)+9 by omega,YAq s.l W _ (HAc keysL W hs i) hW hWl i _ (by omega)]
  exact ih (i+1) m (by omega)
theorem AAr (s:Reg) (hs:s.ok) (w:List Int) (hw:∀ x ∈ w,R32 x) (hwl:w.length=16):∀ (j i m:Nat),i+j=48→LZ (m+9*64+10+1+j) (.c0 s.l keysL ((16+i:Nat):Int) (sched w i))=some (Tn s (EZ keysL (sched w 48) s 64)).l:=by
 intro j
 induction j with
 | zero=>
  intro i m h
  obtain rfl:i=48:=by omega
  rw [show m+9*64+10+1+0=(m+9*64+10)+1 by omega,LZ]
  simp only [Je]
  rw [NM (by simp),TB (by simp [Reg.l])]
  exact ZAq s hs _ (AAG hw 48) (D9 hwl 48) 64 0 m (by omega)
 | succ j ih=>
  intro i m h
  have hl:=D9 hwl i
  have hr:=AAG hw i
  have e2:w64 (((16+i:Nat):Int) - 2)=((16+i - 2:Nat):Int):=by rw [w64_id (by omega) (by omega)];omega
  have e7:w64 (((16+i:Nat):Int) - 7)=((16+i - 7:Nat):Int):=by rw [w64_id (by omega) (by omega)];omega
  have e15:w64 (((16+i:Nat):Int) - 15)=((16+i - 15:Nat):Int):=by rw [w64_id (by omega) (by omega)];omega
  have e16:w64 (((16+i:Nat):Int) - 16)=((16+i - 16:Nat):Int):=by rw [w64_id (by omega) (by omega)];omega
  have e1:w64 (((16+i:Nat):Int)+1)=((16+(i+1):Nat):Int):=by rw [w64_id (by omega) (by omega)];omega
  rw [show m+9*64+10+1+(j+1)=(m+9*64+10+1+j)+1 by omega,LZ]
  simp only [Je,e1,e2,e7,e15,e16,Int.toNat_natCast,hl,SAq (F9 hr _),TAq (F9 hr _),Option.bind_some]
  rw [TB (by simp;omega),TB (by simp;omega),TB (by simp;omega),TB (by simp;omega),TB (by simp;omega),TB (by simp;omega)]
  exact ih (i+1) m (by omega)
theorem RAc {s:Reg} (hs:s.ok) {b:ByteArray} (hb:b.size=64):Tc s.l keysL b=some (comp s (bs b)).l:=by
 have hr:=DAS (Dc b) 16
 obtain ⟨m,hm⟩:∃ m,gas=m+9*64+10+1+48:=⟨gas - 635,by have:=gas_lt (n:=635) (by omega);omega⟩
 have h:=AAr s hs _ hr (Jh _ 16) 48 0 m (by omega)
 have e0:((16+0:Nat):Int)=16:=rfl
 rw [e0,show sched (AY (bs b) 16) 0=AY (bs b) 16 from rfl] at h
 rw [Tc,LAM,PAc (s:=b) (by omega),Option.bind_some,hb,hm]
 exact h
theorem SAc:Ie=some keysL:=rfl
theorem BAr (b:List Int) (i:Nat):(b.take (64*i+64)).drop (64*i)=(b.drop (64*i)).take 64:=by
 rw [List.drop_take];congr 1;omega
theorem TAc (i:Nat) (s:Reg) (b:List Int):comps (i+1) s b=comp (comps i s b) ((b.drop (64*i)).take 64):=by
 rw [KAc i 1];rfl
theorem UAc {r:Reg} (h:r.ok):YZ (ofBytes (VX r.l))=some r.l:=by
 have hs:(ofBytes (VX r.l)).size=32:=by rw [ofBytes_size,Vr];rfl
 rw [PAc (by omega),hs,SN (EAS (Reg.Wn h))]
 exact congrArg some (NAq (Reg.Wn h))
theorem CAr {s:ByteArray} (hs:s.size≤1000000000):Az Lh s=some ⟨ofBytes (VX (comps (s.size / 64) Vb (bs s)).l),s.extract (64*(s.size / 64)) s.size,(s.size:Int)⟩:=by
 have e0:Eb Lh=some true:=OAc (by rw [Lh,ofBytes_size,Vr];rfl) (by decide) (by decide) (by decide)
 have e1:((⟨#[]⟩:ByteArray)++s)=s:=Ia (by rw [PY];rfl)
 have key:=loopN (A:=Unit) (n:=s.size / 64) (Lp:=Zy) (st:=fun i _=>.c0 s s ((64*i:Nat):Int) Lh (⟨(⟨#[]⟩:ByteArray),(⟨#[]⟩:ByteArray),(0:Int)⟩:SHasher) (comps i Vb (bs s)).l keysL) (Inv:=fun _ _=>True)
  (out:=fun _ _=>some ⟨ofBytes (VX (comps (s.size / 64) Vb (bs s)).l),s.extract (64*(s.size / 64)) s.size,(s.size:Int)⟩)
  (fun m _ _=>by
   have hw:w64 (Lh.fCount+(s.size:Int))=(s.size:Int):=by
    show w64 ((0:Int)+(s.size:Int))=_
    rw [Int.zero_add,w64_id (by omega) (by omega)]
   rw [Zy]
   simp only [DAD,hw,Int.toNat_natCast]
   rw [w64_id (by omega) (by omega),NM (by simp;omega),IAS (Reg.Wn (Un Ri _ _)) (by simp [Reg.l]),Option.bind_some,TB (by simp;omega)])
  (fun m i _ hi _=>.inr ⟨(),by
   have e:w64 (((64*i:Nat):Int)+64)=((64*(i+1):Nat):Int):=by rw [w64_id (by omega) (by omega)];omega
   rw [Zy]
   simp only [DAD,e,Int.toNat_natCast]
   rw [TB (by simp;omega),TB (by simp;omega),RAc (Un Ri _ _) (by simp;omega),Option.bind_some,JZ,show 64*(i+1)=64*i+64 by omega,BAr,←TAc],trivial,rfl⟩)
 rw [Az,NAM,e0,Option.bind_some,NM (by rfl)]
 have hw:w64 (Lh.fCount+(s.size:Int))=(s.size:Int):=by
  show w64 ((0:Int)+(s.size:Int))=_
  rw [Int.zero_add,w64_id (by omega) (by omega)]
 rw [hw,NM (by simp;omega),show Lh.fState=ofBytes (VX Vb.l) from rfl,UAc Ri,Option.bind_some,SAc,Option.bind_some,show Lh.fRest=⟨#[]⟩ from rfl,e1]
 rw [TB (by (have:(⟨#[]⟩:ByteArray).size=0:=rfl);simp only [this,decide_eq_true_eq];omega)]
 exact key gas 0 () (Nat.zero_le _) (gas_lt (by omega)) trivial
def Xn (b:Int):Nat→List Int
 | 0=>[]
 | i+1=>(b / 256 ^ i % 256)::Xn b i
def Ze:Nat→Nat
 | 0=>0
 | i+1=>Ze i+(i+2)
theorem DAr (x:Int) (j:Nat):x / 256 / 256 ^ j=x / 256 ^ (j+1):=by
 rw [Int.ediv_ediv_of_nonneg (by omega)]
 congr 1
 rw [Int.pow_succ,Int.mul_comm]
theorem EAr (h:SHasher) (b:Int):∀ (j k i m:Nat) (x:Int) (t:List Int),k+j=i→i≤7→0≤x→x≤9223372036854775807→t.length≤1000→
  MZ (m+j+1) (.c2 b (i:Int) x (k:Int) h t)=MZ m (.c1 b ((i:Int) - 1) h (t++[x / 256 ^ j % 256])):=by
 intro j
 induction j with
 | zero=>
  intro k i m x t hk hi hx hx2 ht
  have e:w64 ((i:Int) - 1)=(i:Int) - 1:=w64_id (by omega) (by omega)
  have e2:w8 (x.tmod 256)=x % 256:=by rw [Int.tmod_eq_emod_of_nonneg hx,w8_id (by omega) (by omega)]
  rw [MZ]
  simp only [Me,e,e2]
  rw [NM (by simp;omega),TB (by simp;omega),Int.pow_zero,Int.ediv_one]
 | succ j ih=>
  intro k i m x t hk hi hx hx2 ht
  have e:w64 ((k:Int)+1)=((k+1:Nat):Int):=by rw [w64_id (by omega) (by omega)];rfl
  have e2:w64 (x.tdiv 256)=x / 256:=by rw [Int.tdiv_eq_ediv_of_nonneg hx,w64_id (by omega) (by omega)]
  rw [show m+(j+1)+1=(m+j+1)+1 by omega,MZ]
  simp only [Me,e,e2]
  rw [TB (by simp;omega),ih (k+1) i m (x / 256) t (by omega) hi (by omega) (by omega) ht,DAr]
theorem FAr (h:SHasher) (b:Int) (hb:0≤b) (hb2:b≤9223372036854775807):∀ (i m:Nat) (t:List Int),i≤8→t.length+i≤900→MZ (m+Ze i) (.c1 b ((i:Int) - 1) h t)=MZ m (.c1 b (-1) h (t++Xn b i)):=by
 intro i
 induction i with
 | zero=>intro m t _ _;simp [Ze,Xn]
 | succ i ih=>
  intro m t hi ht
  rw [Ze,show m+(Ze i+(i+2))=(m+Ze i)+i+1+1 by omega,MZ,show ((i+1:Nat):Int) - 1=(i:Int) by omega]
  simp only [Me]
  rw [TB (by simp),show (0:Int)=((0:Nat):Int) from rfl,EAr h b i 0 i _ b t (by omega) (by omega) hb hb2 (by omega),ih m _ (by omega) (by simp;omega)]
  simp [Xn]
theorem GAr {b:Int} (h:0≤b) (h2:b<1099511627776):Xn b 8=Zd b:=by
 simp only [Xn,Zd,List.cons.injEq,and_true]
 omega
theorem HAr (r:Reg) (hr:r.ok) (t:List Int) (ht:ZX t) (n:Nat) (hn:t.length=64*n) (hn2:n≤100):∀ (j i m:Nat),i+j=n→MZ (m+j+1) (.c3 ((64*i:Nat):Int) t (comps i r t).l keysL)=some (ofBytes (VX (comps n r t).l)):=by
 intro j
 induction j with
 | zero=>
  intro i m h
  obtain rfl:i=n:=by omega
  rw [MZ]
  simp only [Me]
  rw [NM (by simp;omega),IAS (Reg.Wn (Un hr _ _)) (by simp [Reg.l]),Option.bind_some]
 | succ j ih=>
  intro i m h
  have e:w64 (((64*i:Nat):Int)+64)=((64*(i+1):Nat):Int):=by rw [w64_id (by omega) (by omega)];omega
  have hl:((t.drop (64*i)).take (64*(i+1) - 64*i)).length=64:=by rw [List.length_take,List.length_drop];omega
  have hby:ZX ((t.drop (64*i)).take (64*(i+1) - 64*i)):=fun x hx=>ht x (List.mem_of_mem_drop (List.mem_of_mem_take hx))
  rw [show m+(j+1)+1=(m+j+1)+1 by omega,MZ]
  simp only [Me,e,Int.toNat_natCast]
  rw [TB (by simp;omega),TB (by simp;omega),RAc (Un hr _ _) (by rw [ofBytes_size,hl]),Option.bind_some,SN hby,show 64*(i+1) - 64*i=64 by omega,←TAc]
  exact ih (i+1) m (by omega)
theorem IAr (h:SHasher) (r:List Int) (hr:r.length<64):∀ (j i m:Nat),i+j=(119 - r.length) % 64→MZ (m+j+1) (.c0 h (r++128::List.replicate i 0))=MZ m (.c1 (w64 (8*h.fCount)) 7 h (r++128::List.replicate ((119 - r.length) % 64) 0)):=by
 intro j
 induction j with
 | zero=>
  intro i m hi
  rw [MZ]
  simp only [Me]
  rw [NM (by rw [Int.tmod_eq_emod_of_nonneg (by omega)];simp;omega),show i=(119 - r.length) % 64 by omega]
 | succ j ih=>
  intro i m hi
  rw [show m+(j+1)+1=(m+j+1)+1 by omega,MZ]
  simp only [Me]
  rw [TB (by rw [Int.tmod_eq_emod_of_nonneg (by omega)];simp;omega),TB (by simp;omega)]
  have e:(r++128::List.replicate i (0:Int))++[0]=r++128::List.replicate (i+1) 0:=by
   rw [List.replicate_succ'];simp
  rw [e]
  exact ih (i+1) m (by omega)
theorem JAr {r:Reg} (hr:r.ok) {s:ByteArray} {n:Nat} (hs:s.size=n % 64) (hn:n≤1000000000):Dz ⟨ofBytes (VX r.l),s,(n:Int)⟩=some (ofBytes (VX (comps ((s.size+(EY n).length) / 64) r (bs s++EY n)).l)):=by
 have e0:Eb ⟨ofBytes (VX r.l),s,(n:Int)⟩=some true:=OAc (by rw [ofBytes_size,Vr];rfl) (by simp only;omega) (by simp only;omega) (by simp only;omega)
 have hl:=bs_len s
 obtain ⟨m,hm⟩:∃ m,gas=((m+((s.size+(EY n).length) / 64)+1+1+Ze 8)+((119 - (bs s).length) % 64)+1):=⟨gas - (((s.size+(EY n).length) / 64)+1+1+Ze 8+((119 - (bs s).length) % 64)+1),by
  have:=gas_lt (n:=1000) (by omega)
  have h2:=BAG n
  have h3:Ze 8=44:=rfl
  omega⟩
 have hw:w64 (8*(n:Int))=8*(n:Int):=w64_id (by omega) (by omega)
 have hrep:(bs s++128::List.replicate ((119 - (bs s).length) % 64) 0)++Xn (8*(n:Int)) 8=bs s++EY n:=by
  rw [GAr (by omega) (by omega),EY,hl,hs,show (119 - n % 64) % 64=(119 - n % 64) % 64 from rfl]
  simp
 rw [Dz,PAM,e0,Option.bind_some,NM (by rfl),TB (by simp;omega),Z8,TB (by rw [hl];simp;omega),hm]
 have h0:=IAr ⟨ofBytes (VX r.l),s,(n:Int)⟩ (bs s) (by omega) ((119 - (bs s).length) % 64) 0 (m+((s.size+(EY n).length) / 64)+1+1+Ze 8) (by omega)
 rw [List.replicate_zero] at h0
 rw [h0,show (7:Int)=((8:Nat):Int) - 1 from rfl]
 simp only [hw]
 rw [FAr _ _ (by omega) (by omega) 8 _ _ (by omega) (by simp;omega),hrep,MZ]
 simp only [Me]
 rw [NM (by simp),UAc hr,Option.bind_some,SAc,Option.bind_some]
 have hb:ZX (bs s++EY n):=fun x hx=>by
  rcases List.mem_append.1 hx with hx | hx
  ·exact Dc s x hx
  ·exact FAS n x hx
 have hlen:(bs s++EY n).length=64*((s.size+(EY n).length) / 64):=by
  have:=OAq n
  rw [List.length_append,hl]
  omega
 exact HAr r hr _ hb _ hlen (by have:=BAG n;omega) ((s.size+(EY n).length) / 64) 0 m (by omega)
theorem KAr (b:List Int):comps ((b.length+(EY b.length).length) / 64) Vb (b++EY b.length)=comps ((b.length % 64+(EY b.length).length) / 64) (comps (b.length / 64) Vb b) (b.drop (64*(b.length / 64))++EY b.length):=by
 rw [show (b.length+(EY b.length).length) / 64=b.length / 64+(b.length % 64+(EY b.length).length) / 64 by omega,KAc,LAq _ _ _ _ (by omega),List.drop_append_of_le_length (by omega)]
theorem H9 {s:ByteArray} (hs:s.size≤1000000000):Aa s=some (FZ s):=by
 have h1:(s.extract (64*(s.size / 64)) s.size).size=s.size % 64:=by simp;omega
 have h:=JAr (Un Ri (s.size / 64) (bs s)) (s:=s.extract (64*(s.size / 64)) s.size) h1 hs
 rw [JZ,h1,List.take_of_length_le (by rw [bs_len];omega)] at h
 rw [Aa,QAM,QAq,Option.bind_some,CAr hs,Option.bind_some,h,Option.bind_some,FZ,Cb,KAr,bs_len]
theorem LAr {n:Nat} {x:Int} (h:n≤1000000000):Gz (n:Int) x=some (ofBytes (List.replicate n x)):=by
 have key:∀ (j i m:Nat),i+j=n→Fz (m+j+1) (.c0 (n:Int) x (i:Int) (List.replicate i x++List.replicate (n - i) 0))=some (ofBytes (List.replicate n x)):=by
  intro j
  induction j with
  | zero=>
   intro i m hi
   obtain rfl:i=n:=by omega
   rw [Fz]
   simp only [FAD]
   rw [NM (by simp),Nat.sub_self,List.replicate_zero,List.append_nil]
  | succ j ih=>
   intro i m hi
   have e:w64 ((i:Int)+1)=((i+1:Nat):Int):=by rw [w64_id (by omega) (by omega)];rfl
   rw [show m+(j+1)+1=(m+j+1)+1 by omega,Fz]
   simp only [FAD,e,Int.toNat_natCast]
   rw [TB (by simp;omega),TB (by simp;omega),show n - i=(n - (i+1))+1 by omega,List.replicate_succ,Qn (by simp)]
   have h2:=ih (i+1) m (by omega)
   rw [List.replicate_succ' (n:=i),List.append_assoc] at h2
   exact h2
 obtain ⟨m,hm⟩:∃ m,gas=m+n+1:=⟨gas - (n+1),by have:=gas_lt (n:=n+1) (by omega);omega⟩
 have h0:=key n 0 m (by omega)
 rw [List.replicate_zero,List.nil_append,Nat.sub_zero] at h0
 rw [Gz,SAM,TB (by simp;omega),hm]
 exact h0
def HY:SBook:=⟨FZ ⟨#[]⟩,0,[],0,ofBytes (List.replicate 32 0),0⟩
theorem RAF:Ba=some HY:=by
 rw [Ba,TAM,H9 (by decide),Option.bind_some,show (32:Int)=((32:Nat):Int) from rfl,LAr (by omega),Option.bind_some];rfl
theorem VAc {b:SBook} (h:b.fThings.length≤2932031007317):Uc b=some b:=by
 rw [Uc,UAM,TB (by simp;omega)];rfl
def IK (n:Int):List Int:=if n > 127 then (128+n % 128)::IK (n / 128) else [w8 n]
termination_by n.toNat
decreasing_by omega
theorem WAc:∀ (k:Nat) (n:Int),n<128 ^ k→(IK n).length≤max k 1:=by
 intro k
 induction k with
 | zero=>intro n h;rw [IK,if_neg (by omega)];simp
 | succ k ih=>
  intro n h
  rw [IK]
  split
  ·rename_i hn
   have h2:n / 128<128 ^ k:=by
    rw [Int.pow_succ] at h
    exact Int.ediv_lt_of_lt_mul (by omega) h
   have:=ih _ h2
   simp only [List.length_cons]
   by_cases hk:k=0
   ·subst hk;simp at h2;try omega
   ·omega
  ·simp;try omega
theorem PZ {n:Int} (h:n≤9223372036854775807):(IK n).length≤10:=by
 have:=WAc 10 n (by (have:(128:Int) ^ 10=1180591620717411303424:=by decide);omega)
 omega
theorem Xd (n:Int):1≤(IK n).length:=by rw [IK];split <;> simp
theorem XAc {n:Int} (h:n > 127) (h2:n≤9223372036854775807):w64 (n.tdiv 128)=n / 128∧w8 (w64 (n.tmod 128+128))=128+n % 128∧w8 (w64 (128+n.tmod 128))=128+n % 128:=by
 have e1:n.tdiv 128=n / 128:=Int.tdiv_eq_ediv_of_nonneg (by omega)
 have e2:n.tmod 128=n % 128:=Int.tmod_eq_emod_of_nonneg (by omega)
 refine ⟨by rw [e1,w64_id (by omega) (by omega)],?_,?_⟩
 ·rw [e2,w64_id (by omega) (by omega),w8_id (by omega) (by omega)];omega
 ·rw [e2,w64_id (by omega) (by omega),w8_id (by omega) (by omega)]
theorem Nh {n:Int} (h:n≤9223372036854775807):WY n=some (ofBytes (IK n)):=by
 have key:∀ (n:Int) (m:Nat) (out:List Int),n≤9223372036854775807→(IK n).length≤m→out.length+(IK n).length≤1000→Iz m (.c0 n out)=some (ofBytes (out++IK n)):=by
  intro n
  induction n using IK.induct with
  | case1 n hn ih=>
   intro m out h1 h2 h3
   rw [IK,if_pos hn] at h2 h3 ⊢
   simp only [List.length_cons] at h2 h3
   obtain ⟨m,rfl⟩:∃ k,m=k+1:=⟨m - 1,by omega⟩
   obtain ⟨e1,e2,_⟩:=XAc hn h1
   simp only [Iz,JAD,e1,e2]
   rw [show decide (n > 127)=true from decide_eq_true hn,show decide ((out.length+1)*1≤140737488355328)=true from decide_eq_true (by omega)]
   simp only [cond_true]
   rw [ih m _ (by omega) (by omega) (by simp;omega)]
   simp
  | case2 n hn=>
   intro m out h1 h2 h3
   rw [IK,if_neg hn] at h2 h3 ⊢
   simp at h2 h3
   obtain ⟨m,rfl⟩:∃ k,m=k+1:=⟨m - 1,by omega⟩
   simp only [Iz,JAD]
   rw [show decide (n > 127)=false from decide_eq_false hn,show decide ((out.length+1)*1≤140737488355328)=true from decide_eq_true (by omega)]
   rfl
 have hl:=PZ h
 exact key n gas [] h (Nat.le_of_lt (gas_lt (by omega))) (by simp;omega)
def GY (x:SThing):Bool:=FN x.fId 1 1000 && FN x.fKind 1 3 && FN x.fNext 0 16 && ((x.fKind == 2) || ((x.fNext == 0) && !x.fSigns)) && ((x.fKind == 1) || !x.fWraps) && (bif x.fKind == 3 then decide ((x.fValue.size:Int)≤100) else (x.fValue.size:Int) == 32)
theorem YAc (x:SThing):Gg x=some (GY x):=by
 simp only [Gg,VAM,La,Option.bind_some,GY,bne]
 cases FN x.fId 1 1000 <;> cases FN x.fKind 1 3 <;> cases FN x.fNext 0 16 <;> cases (x.fKind == 2) <;> cases (x.fKind == 1) <;> cases (x.fKind == 3) <;> cases (x.fNext == 0) <;> cases x.fSigns <;> cases x.fWraps <;> rfl
theorem Xe {x:SThing} (h:GY x=true):1≤x.fKind∧x.fKind≤3∧1≤x.fId∧x.fId≤1000∧0≤x.fNext∧x.fNext≤16∧x.fValue.size≤100:=by
 unfold GY at h
 simp only [Bool.and_eq_true] at h
 obtain ⟨⟨⟨⟨⟨h1,h2⟩,h3⟩,_⟩,_⟩,h4⟩:=h
 rw [WX] at h1 h2 h3
 refine ⟨h2.1,h2.2,h1.1,h1.2,h3.1,h3.2,?_⟩
 cases hk:x.fKind == 3
 ·rw [hk] at h4;simp at h4;omega
 ·rw [hk] at h4;simp at h4;omega
theorem MAr (b:Bool) (n:Int):KAD b n=some (bif b then n else 0):=by cases b <;> rfl
theorem KAS {n:Int} (h:0≤n) (h2:n≤255):Hg n=some (ofBytes [n]):=by
 have e:n.tmod 256=n:=by rw [Int.tmod_eq_emod_of_nonneg h];omega
 simp only [Hg,YAM,e]
 rw [show decide (n<0)=false from decide_eq_false (by omega),w8_id h h2]
 rfl
def Ae (s:ByteArray):ByteArray:=ofBytes (IK (s.size:Int))++s
theorem NAr {s:ByteArray} (h:s.size≤140737488351232):(Ae s).size≤s.size+10:=by
 unfold Ae;rw [ba_append_size,ofBytes_size];have:=PZ (n:=(s.size:Int)) (by omega);omega
theorem OAr {s:ByteArray} (h:s.size≤140737488351232):Nz s=some (Ae s):=by
 simp only [Nz,BAN,Nh (n:=(s.size:Int)) (by omega),Option.bind_some]
 have:=PZ (n:=(s.size:Int)) (by omega)
 rw [show decide ((ofBytes (IK (s.size:Int))).size+s.size≤9223372036854775807)=true from decide_eq_true (by rw [ofBytes_size];omega)]
 rfl
def AZ (x:SThing):Int:=(bif x.fHidden then 1 else 0)+(bif x.fFixed then 2 else 0)+(bif x.fSigns then 4 else 0)+(bif x.fWraps then 8 else 0)
theorem I9 (x:SThing):0≤AZ x∧AZ x≤15:=by
 unfold AZ;cases x.fHidden <;> cases x.fFixed <;> cases x.fSigns <;> cases x.fWraps <;> decide
theorem PAr (m:Nat) (a b c d:Bool):LAQ (m+5) (.c0 0 4 0 [a,b,c,d])=some ((bif a then 1 else 0)+(bif b then 2 else 0)+(bif c then 4 else 0)+(bif d then 8 else 0)):=by
 cases a <;> cases b <;> cases c <;> cases d <;> kernel_rfl
theorem QAr (x:SThing):Q7 x=some (AZ x):=by
 obtain ⟨m,this⟩:∃ m,gas=m+5:=⟨gas - 5,rfl⟩
 unfold Q7 KAQ
 rw [this]
 exact PAr _ _ _ _ _
def Af (x:SThing):ByteArray:=ofBytes (IK x.fId)++ofBytes [x.fKind]++ofBytes [AZ x]++Ae x.fValue++ofBytes (IK x.fNext)
def DY (x:SThing):ByteArray×Bool:=bif GY x then (Af x,true) else (⟨#[]⟩,false)
theorem LAS {x:SThing} (h:GY x=true):(ofBytes (IK x.fId)).size≤10∧(Ae x.fValue).size≤110∧(ofBytes (IK x.fNext)).size≤10:=by
 obtain ⟨_,_,_,h1,_,h2,h3⟩:=Xe h
 rw [ofBytes_size,ofBytes_size]
 have:=PZ (n:=x.fId) (by omega)
 have:=PZ (n:=x.fNext) (by omega)
 have:=NAr (s:=x.fValue) (by omega)
 omega
theorem ZAc {x:SThing} (h:GY x=true):(Af x).size≤200:=by
 obtain ⟨h1,h2,h3⟩:=LAS h
 unfold Af
 simp only [ba_append_size]
 have e1:∀ n:Int,(ofBytes [n]).size=1:=fun n=>ofBytes_size _
 rw [e1,e1];omega
theorem MAS (x:SThing):Ql x=some (DY x):=by
 simp only [Ql,DAN,YAc,Option.bind_some,DY]
 cases h:GY x
 ·rfl
 ·obtain ⟨k1,k2,k3,k4,k5,k6,k7⟩:=Xe h
  obtain ⟨z1,z2,z3⟩:=LAS h
  have hf:=I9 x
  have e1:∀ n:Int,(ofBytes [n]).size=1:=fun n=>ofBytes_size _
  have ef:w64 (w64 (w64 ((bif x.fHidden then (1:Int) else 0)+(bif x.fFixed then 2 else 0))+(bif x.fSigns then 4 else 0))+(bif x.fWraps then 8 else 0))=AZ x:=by
   unfold AZ;cases x.fHidden <;> cases x.fFixed <;> cases x.fSigns <;> cases x.fWraps <;> rfl
  simp only [MAr,Option.bind_some,ef,Nh (n:=x.fId) (by omega),KAS (n:=x.fKind) (by omega) (by omega),KAS hf.1 (by omega),OAr (s:=x.fValue) (by omega),Nh (n:=x.fNext) (by omega),ba_append_size,e1]
  simp only [Bool.not_true,cond_false,cond_true]
  rw [show decide ((ofBytes (IK x.fId)).size+1≤9223372036854775807)=true from decide_eq_true (by omega),show decide ((ofBytes (IK x.fId)).size+1+1≤9223372036854775807)=true from decide_eq_true (by omega),
   show decide ((ofBytes (IK x.fId)).size+1+1+(Ae x.fValue).size≤9223372036854775807)=true from decide_eq_true (by omega),show decide ((ofBytes (IK x.fId)).size+1+1+(Ae x.fValue).size+(ofBytes (IK x.fNext)).size≤9223372036854775807)=true from decide_eq_true (by omega)]
  rfl
def NY (x:SThing):Bool:=(x.fId == 0) && ((x.fKind == 0) && ((x.fHidden == false) && ((x.fFixed == false) && ((x.fSigns == false) && ((x.fWraps == false) && (((ByteArray.toList x.fValue) == (ByteArray.toList (⟨#[]⟩:ByteArray))) && ((x.fNext == 0) && true)))))))
theorem AAd (x:SThing):((x.fId == 0) && ((x.fKind == 0) && ((x.fHidden == false) && ((x.fFixed == false) && ((x.fSigns == false) && ((x.fWraps == false) && (((ByteArray.toList x.fValue) == (ByteArray.toList (⟨#[]⟩:ByteArray))) && ((x.fNext == 0) && true))))))))=NY x:=rfl
def JY (s:ByteArray):Bool:=(ByteArray.toList s) == (ByteArray.toList (⟨#[]⟩:ByteArray))
theorem NAS (s:ByteArray):((ByteArray.toList s) == (ByteArray.toList (⟨#[]⟩:ByteArray)))=JY s:=rfl
def noT:ByteArray×Bool:=((⟨#[]⟩:ByteArray),false)
def TT (r:SRec):ByteArray×Bool:=
 bif r.fKind == 1 then (bif (r.fText.size:Int) == 32 && r.fNum == 0 && NY r.fThing then (ofBytes [1]++r.fText,true) else noT)
 else bif r.fKind == 2 then (bif JY r.fText && NY r.fThing && FN r.fNum 0 3 then (ofBytes [2]++ofBytes (IK r.fNum),true) else noT)
 else bif r.fKind == 3 then (bif (DY r.fThing).2 && JY r.fText && r.fNum == 0 then (ofBytes [3]++(DY r.fThing).1,true) else noT)
 else bif r.fKind == 4 then (bif JY r.fText && NY r.fThing && FN r.fNum 1 1000 then (ofBytes [4]++ofBytes (IK r.fNum),true) else noT)
 else noT
theorem EAG {n a b:Int} (hb:b≤1000) (h:FN n a b=true) (k:Int):(ofBytes [k]).size+(ofBytes (IK n)).size≤9223372036854775807:=by
 rw [WX] at h
 have:=PZ (n:=n) (by omega)
 rw [ofBytes_size,ofBytes_size];simp only [List.length_singleton];omega
theorem BAd {x:SThing} (h:(DY x).2=true) (k:Int):(ofBytes [k]).size+(DY x).1.size≤9223372036854775807:=by
 unfold DY at h ⊢
 cases ho:GY x
 ·rw [ho] at h;cases h
 ·have:=ZAc ho
  rw [ofBytes_size];simp only [List.length_singleton,cond_true];omega
theorem Xr (r:SRec):Ig r=some (TT r):=by
 have h1:(⟨#[1]⟩:ByteArray)=ofBytes [1]:=rfl
 have h2:(⟨#[2]⟩:ByteArray)=ofBytes [2]:=rfl
 have h3:(⟨#[3]⟩:ByteArray)=ofBytes [3]:=rfl
 have h4:(⟨#[4]⟩:ByteArray)=ofBytes [4]:=rfl
 simp only [Ig,EAN,La,MAS,Option.bind_some,AAd,h1,h2,h3,h4]
 simp only [NAS,TT]
 cases r.fKind == 1
 ·simp only [cond_false]
  cases r.fKind == 2
  ·simp only [cond_false]
   cases r.fKind == 3
   ·simp only [cond_false]
    cases r.fKind == 4
    ·rfl
    ·cases JY r.fText <;> cases NY r.fThing <;> (try rfl)
     cases h:FN r.fNum 1 1000
     ·rfl
     ·have h':=h
      rw [WX] at h'
      simp only [cond_true,Nh (n:=r.fNum) (by omega),Option.bind_some,Bool.and_self,decide_eq_true (EAG (by omega) h 4)]
   ·cases h:(DY r.fThing).2
    ·rfl
    ·cases JY r.fText <;> cases r.fNum == 0 <;> (try rfl)
     simp only [cond_true,Bool.and_self,decide_eq_true (BAd h 3)]
  ·cases JY r.fText <;> cases NY r.fThing <;> (try rfl)
   cases h:FN r.fNum 0 3
   ·rfl
   ·have h':=h
    rw [WX] at h'
    simp only [cond_true,Nh (n:=r.fNum) (by omega),Option.bind_some,Bool.and_self,decide_eq_true (EAG (by omega) h 2)]
 ·cases h:(r.fText.size:Int) == 32 <;> cases r.fNum == 0 <;> cases NY r.fThing <;> (try rfl)
  have h':r.fText.size=32:=by have:=beq_iff_eq.1 h;omega
  have e:(ofBytes [1]).size+r.fText.size≤9223372036854775807:=by rw [ofBytes_size];simp only [List.length_singleton];omega
  simp only [cond_true,Bool.and_self,decide_eq_true e]
def rise (last:Int):Int→List SThing→Bool
 | _,[]=>true
 | p,x::xs=>GY x && (!decide (x.fId > last) && (!decide (p≥x.fId) && rise last x.fId xs))
def Ya (l:List SThing):Nat→Int
 | 0=>0
 | i+1=>((l[i]?).map (·.fId)).getD 0
theorem TAR {l:List SThing} {i:Nat} (hi:i<l.length):Ya l (i+1)=l[i].fId:=by simp [Ya,hi]
theorem IAb {l:List SThing} {last:Int} {i:Nat} (hi:i<l.length):rise last (Ya l i) (l.drop i)=(GY l[i] && (!decide (l[i].fId > last) && (!decide (Ya l i≥l[i].fId) && rise last (Ya l (i+1)) (l.drop (i+1))))):=by
 rw [drop_at hi,rise,TAR hi]
def XY (b:SBook):Bool:=(b.fWord.size:Int) == 32 && ((b.fChain.size:Int) == 32 && (FN b.fTries 0 3 && (decide ((b.fThings.length:Int)≤8) && (FN b.fLast 0 1000 && (FN b.fCount 0 10000 && rise b.fLast 0 b.fThings)))))
theorem RAr {b:SBook} (hb:b.fThings.length≤140737488351232):∀ m i,i≤b.fThings.length→b.fThings.length - i<m→Rl m (.c0 i b)=some (rise b.fLast (Ya b.fThings i) (b.fThings.drop i)):=fun m i h1 h2=>
 loopN (A:=Unit) (n:=b.fThings.length) (Lp:=Rl) (st:=fun i _=>.c0 i b) (Inv:=fun _ _=>True) (out:=fun i _=>some (rise b.fLast (Ya b.fThings i) (b.fThings.drop i)))
  (fun m _ _=>by
   simp only [Rl,MAD]
   rw [show decide ((b.fThings.length:Int)<(b.fThings.length:Int))=false from decide_eq_false (by omega),List.drop_of_length_le (Nat.le_refl _)]
   rfl)
  (fun m i _ hi _=>by
   have hw:w64 ((i:Int)+1)=((i+1:Nat):Int):=by rw [w64_id (by omega) (by omega)];rfl
   simp only [IAb hi]
   simp only [Rl,MAD,Int.toNat_natCast,getD_at hi,YAc,Option.bind_some,hw]
   rw [show decide ((i:Int)<(b.fThings.length:Int))=true from decide_eq_true (by omega),show decide ((0:Int)≤(i:Int))=true from decide_eq_true (by omega)]
   simp only [Bool.and_self,cond_true]
   cases h1:GY b.fThings[i]
   ·exact .inl rfl
   ·cases h2:decide (b.fThings[i].fId > b.fLast)
    ·by_cases h0:i=0
     ·subst h0
      refine .inr ⟨(),rfl,trivial,?_⟩
      rw [show decide (Ya b.fThings 0≥b.fThings[0].fId)=false from decide_eq_false (by have:=(Xe h1).2.2.1;simp only [Ya];omega)]
      rfl
     ·obtain ⟨j,rfl⟩:∃ j,i=j+1:=⟨i - 1,by omega⟩
      have hj:w64 (((j+1:Nat):Int) - 1)=(j:Int):=by rw [w64_id (by omega) (by omega)];omega
      have hjl:j<b.fThings.length:=by omega
      rw [TAR hjl]
      simp only [hj,Int.toNat_natCast,getD_at hjl,Bool.not_true,Bool.not_false,cond_false,Bool.true_and]
      rw [show decide (((j+1:Nat):Int) > 0)=true from decide_eq_true (by omega),show decide ((0:Int)≤(j:Int))=true from decide_eq_true (by omega),show decide ((j:Int)<(b.fThings.length:Int))=true from decide_eq_true (by omega)]
      simp only [Bool.and_self,cond_true]
      cases h3:decide (b.fThings[j].fId≥b.fThings[j+1].fId)
      ·exact .inr ⟨(),rfl,trivial,rfl⟩
      ·exact .inl rfl
    ·exact .inl rfl) m i () h1 h2 trivial
theorem Ym {b:SBook} (hb:b.fThings.length≤140737488351232):Yc b=some (XY b):=by
 have h0:Rl gas (.c0 0 b)=some (rise b.fLast 0 b.fThings):=RAr hb gas 0 (Nat.zero_le _) (gas_lt (by omega))
 simp only [Yc,GAN,La,Option.bind_some,XY,bne,h0]
 rw [show decide ((b.fThings.length:Int)≤8) = !decide ((b.fThings.length:Int) > 8) by rw [←decide_not];simp]
 cases (b.fWord.size:Int) == 32 <;> cases (b.fChain.size:Int) == 32 <;> cases FN b.fTries 0 3 <;> cases decide ((b.fThings.length:Int) > 8) <;> cases FN b.fLast 0 1000 <;> cases FN b.fCount 0 10000 <;> rfl
def IY (xs:List SThing) (t:Int):Option SThing:=xs.find? fun x=>x.fId == t
def Pn:SThing:=⟨0,0,false,false,false,false,⟨#[]⟩,0⟩
theorem SAF {b:SBook} {t:Int} (h:b.fThings.length≤140737488351232):Xa b t=some (match IY b.fThings t with | some x=>(x,true) | none=>(Pn,false)):=by
 have key:∀ m i,i≤b.fThings.length→b.fThings.length - i<m→Aq m (.c0 t i b Pn)=some (match IY (b.fThings.drop i) t with | some x=>(x,true) | none=>(Pn,false)):=fun m i h1 h2=>
  loopN (A:=Unit) (n:=b.fThings.length) (Lp:=Aq) (st:=fun i _=>.c0 t i b Pn) (Inv:=fun _ _=>True) (out:=fun i _=>some (match IY (b.fThings.drop i) t with | some x=>(x,true) | none=>(Pn,false)))
   (fun m _ _=>by simp [Aq,OAD,IY,Pn])
   (fun m i _ hi _=>by
    have hw:w64 ((i:Int)+1)=((i+1:Nat):Int):=by rw [w64_id (by omega) (by omega)];rfl
    simp only [Aq,OAD,Int.toNat_natCast,getD_at hi,hw,drop_at hi,IY,List.find?_cons]
    cases hq:b.fThings[i].fId == t
    ·exact .inr ⟨(),by simp [hi],trivial,by simp⟩
    ·exact .inl (by simp [hi])) m i () h1 h2 trivial
 have h0:=key gas 0 (Nat.zero_le _) (gas_lt (by omega))
 exact h0
theorem QAF {r:SRec} (h:(TT r).2=true):(r.fKind=1∧r.fText.size=32)∨(r.fKind=2∧0≤r.fNum∧r.fNum≤3)∨(r.fKind=3∧GY r.fThing=true)∨(r.fKind=4∧1≤r.fNum∧r.fNum≤1000):=by
 rw [TT] at h
 by_cases h1:r.fKind=1
 ·rw [show (r.fKind == 1)=true by rw [beq_iff_eq];exact h1,cond_true] at h
  cases hc:((r.fText.size:Int) == 32 && r.fNum == 0 && NY r.fThing)
  ·rw [hc] at h;cases h
  ·rw [Bool.and_eq_true,Bool.and_eq_true,beq_iff_eq] at hc
   exact .inl ⟨h1,by omega⟩
 rw [show (r.fKind == 1)=false by rw [beq_eq_false_iff_ne];exact h1,cond_false] at h
 by_cases h2:r.fKind=2
 ·rw [show (r.fKind == 2)=true by rw [beq_iff_eq];exact h2,cond_true] at h
  cases hc:(JY r.fText && NY r.fThing && FN r.fNum 0 3)
  ·rw [hc] at h;cases h
  ·rw [Bool.and_eq_true,WX] at hc
   exact .inr (.inl ⟨h2,hc.2⟩)
 rw [show (r.fKind == 2)=false by rw [beq_eq_false_iff_ne];exact h2,cond_false] at h
 by_cases h3:r.fKind=3
 ·rw [show (r.fKind == 3)=true by rw [beq_iff_eq];exact h3,cond_true] at h
  cases hc:((DY r.fThing).2 && JY r.fText && r.fNum == 0)
  ·rw [hc] at h;cases h
  ·rw [Bool.and_eq_true,Bool.and_eq_true] at hc
   refine .inr (.inr (.inl ⟨h3,?_⟩))
   have h4:=hc.1.1
   rw [DY] at h4
   cases ho:GY r.fThing
   ·rw [ho] at h4;cases h4
   ·rfl
 rw [show (r.fKind == 3)=false by rw [beq_eq_false_iff_ne];exact h3,cond_false] at h
 by_cases h4:r.fKind=4
 ·rw [show (r.fKind == 4)=true by rw [beq_iff_eq];exact h4,cond_true] at h
  cases hc:(JY r.fText && NY r.fThing && FN r.fNum 1 1000)
  ·rw [hc] at h;cases h
  ·rw [Bool.and_eq_true,WX] at hc
   exact .inr (.inr (.inr ⟨h4,hc.2⟩))
 rw [show (r.fKind == 4)=false by rw [beq_eq_false_iff_ne];exact h4] at h
 cases h
theorem MAb (r:SRec):(TT r).1.size≤300:=by
 rw [TT]
 have one:∀ n:Int,(ofBytes [n]).size=1:=fun n=>by rw [ofBytes_size];rfl
 cases hk1:(r.fKind == 1)
 ·rw [cond_false]
  cases hk2:(r.fKind == 2)
  ·rw [cond_false]
   cases hk3:(r.fKind == 3)
   ·rw [cond_false]
    cases hk4:(r.fKind == 4)
    ·exact Nat.zero_le _
    ·rw [cond_true]
     cases hc:(JY r.fText && NY r.fThing && FN r.fNum 1 1000)
     ·exact Nat.zero_le _
     ·rw [Bool.and_eq_true,WX] at hc
      have:=PZ (n:=r.fNum) (by omega)
      rw [cond_true,ByteArray.size_append,one,ofBytes_size];omega
   ·rw [cond_true]
    cases hc:((DY r.fThing).2 && JY r.fText && r.fNum == 0)
    ·exact Nat.zero_le _
    ·rw [cond_true,ByteArray.size_append,one,DY]
     cases ho:GY r.fThing
     ·exact Nat.le_of_ble_eq_true rfl
     ·have:=ZAc ho
      show 1+(Af r.fThing).size≤300;omega
  ·rw [cond_true]
   cases hc:(JY r.fText && NY r.fThing && FN r.fNum 0 3)
   ·exact Nat.zero_le _
   ·rw [Bool.and_eq_true,WX] at hc
    have:=PZ (n:=r.fNum) (by omega)
    rw [cond_true,ByteArray.size_append,one,ofBytes_size];omega
 ·rw [cond_true]
  cases hc:((r.fText.size:Int) == 32 && r.fNum == 0 && NY r.fThing)
  ·exact Nat.zero_le _
  ·rw [Bool.and_eq_true,Bool.and_eq_true,beq_iff_eq] at hc
   rw [cond_true,ByteArray.size_append,one];omega
def IZ:List SThing→Int→Nat→Option Nat
 | [],_,_=>none
 | x::xs,t,i=>if x.fId == t then some i else IZ xs t (i+1)
theorem YAb (t:Int):∀ (xs:List SThing) (i:Nat),match IZ xs t i with | some j=>i≤j∧j<i+xs.length∧IY xs t=xs[j - i]? | none=>IY xs t=none:=by
 intro xs
 induction xs with
 | nil=>intro i;rfl
 | cons x xs ih=>
  intro i
  simp only [IZ,IY,List.find?_cons]
  cases hq:x.fId == t
  ·have:=ih (i+1)
   simp only [Bool.false_eq_true,if_false]
   split at this
   ·rename_i j hj
    obtain ⟨h1,h2,h3⟩:=this
    refine ⟨by omega,by simp;omega,?_⟩
    rw [show j - i=(j - (i+1))+1 by omega,List.getElem?_cons_succ]
    exact h3
   ·exact this
  ·simp
theorem UAR {b:SBook} {t:Int} (h:b.fThings.length≤140737488351232):Xh b t=some (match IZ b.fThings t 0 with | some j=>(j:Int) | none=> -1):=by
 have key:∀ m i,i≤b.fThings.length→b.fThings.length - i<m→Vq m (.c0 t b.fThings b.fThings.length i)=some (match IZ (b.fThings.drop i) t i with | some j=>(j:Int) | none=> -1):=fun m i h1 h2=>
  loopN (A:=Unit) (n:=b.fThings.length) (Lp:=Vq) (st:=fun i _=>.c0 t b.fThings b.fThings.length i) (Inv:=fun _ _=>True) (out:=fun i _=>some (match IZ (b.fThings.drop i) t i with | some j=>(j:Int) | none=> -1))
   (fun m _ _=>by simp [Vq,JAF,IZ])
   (fun m i _ hi _=>by
    have hw:w64 ((i:Int)+1)=((i+1:Nat):Int):=by rw [w64_id (by omega) (by omega)];rfl
    simp only [Vq,JAF,Int.toNat_natCast,getD_at hi,hw,drop_at hi,IZ]
    cases hq:b.fThings[i].fId == t
    ·exact .inr ⟨(),by simp [hi],trivial,by simp⟩
    ·exact .inl (by simp [hi])) m i () h1 h2 trivial
 have h0:=key gas 0 (Nat.zero_le _) (gas_lt (by omega))
 exact h0
theorem Qd {b:SBook}:XY b=true↔b.fWord.size=32∧b.fChain.size=32∧(0≤b.fTries∧b.fTries≤3)∧b.fThings.length≤8∧(0≤b.fLast∧b.fLast≤1000)∧(0≤b.fCount∧b.fCount≤10000)∧rise b.fLast 0 b.fThings=true:=by
 simp only [XY,Bool.and_eq_true,beq_iff_eq,WX,decide_eq_true_eq]
 exact ⟨fun ⟨h1,h2,h3,h4,h5,h6,h7⟩=>⟨by omega,by omega,h3,by omega,h5,h6,h7⟩,fun ⟨h1,h2,h3,h4,h5,h6,h7⟩=>⟨by omega,by omega,h3,by omega,h5,h6,h7⟩⟩
theorem Ic {last p:Int} {x:SThing} {xs:List SThing}:rise last p (x::xs)=true↔GY x=true∧x.fId≤last∧p<x.fId∧rise last x.fId xs=true:=by
 simp only [rise,Bool.and_eq_true,Bool.not_eq_true',decide_eq_false_iff_not]
 exact ⟨fun ⟨h1,h2,h3,h4⟩=>⟨h1,by omega,by omega,h4⟩,fun ⟨h1,h2,h3,h4⟩=>⟨h1,by omega,by omega,h4⟩⟩
theorem FAG {last:Int}:∀ {xs:List SThing} {p:Int},rise last p xs=true→∀ x ∈ xs,p<x.fId∧x.fId≤last∧GY x=true
 | [],_,_,x,hx=>by cases hx
 | y::ys,p,h,x,hx=>by
  obtain ⟨h1,h2,h3,h4⟩:=Ic.1 h
  rcases List.mem_cons.1 hx with rfl | hx
  ·exact ⟨h3,h2,h1⟩
  ·have:=FAG h4 x hx
   exact ⟨by omega,this.2.1,this.2.2⟩
theorem OAS {last last2:Int} (hl:last≤last2):∀ {xs:List SThing} {p p2:Int},p2≤p→rise last p xs=true→rise last2 p2 xs=true
 | [],_,_,_,_=>rfl
 | y::ys,p,p2,hp,h=>by
  obtain ⟨h1,h2,h3,h4⟩:=Ic.1 h
  exact Ic.2 ⟨h1,by omega,by omega,OAS hl (Int.le_refl _) h4⟩
def Ce (x:SThing) (ts:List SThing):List SThing:=ts.filter fun t=>decide (t.fId<x.fId)
def Yn (x:SThing) (ts:List SThing):List SThing:=ts.filter fun t=>decide (t.fId > x.fId)
def putAt (ts:List SThing) (x:SThing):List SThing:=Ce x ts++x::Yn x ts
def without (ts:List SThing) (id:Int):List SThing:=ts.filter fun t=>t.fId != id
theorem SAr {last:Int} {x:SThing}:∀ {xs:List SThing} {p:Int},x.fId≤p→rise last p xs=true→Ce x xs=[]∧Yn x xs=xs∧without xs x.fId=xs:=by
 intro xs p hp h
 have ha:=FAG h
 refine ⟨List.filter_eq_nil_iff.2 fun t ht=>?_,List.filter_eq_self.2 fun t ht=>?_,List.filter_eq_self.2 fun t ht=>?_⟩
 ·have:=ha t ht;rw [decide_eq_true_eq];omega
 ·have:=ha t ht;rw [decide_eq_true_eq];omega
 ·have:=ha t ht;rw [bne_iff_ne];omega
theorem CAd {id:Int}:∀ {xs:List SThing} {i j:Nat},IZ xs id i=some j→i≤j∧∃ x ∈ xs,x.fId=id:=by
 intro xs
 induction xs with
 | nil=>intro i j h;cases h
 | cons y ys ih=>
  intro i j h
  rw [IZ] at h
  split at h
  ·rename_i hy;cases h;exact ⟨Nat.le_refl _,y,List.mem_cons_self ..,beq_iff_eq.1 hy⟩
  ·obtain ⟨h1,x,h2,h3⟩:=ih h;exact ⟨by omega,x,List.mem_cons_of_mem _ h2,h3⟩
theorem XAR {last:Int} {x:SThing}:∀ {xs:List SThing} {p:Int} {i j:Nat},rise last p xs=true→IZ xs x.fId i=some j→xs.set (j - i) x=putAt xs x∧(xs.take (j - i)++xs.drop (j - i+1))=without xs x.fId:=by
 intro xs
 induction xs with
 | nil=>intro p i j _ h;cases h
 | cons y ys ih=>
  intro p i j hr h
  obtain ⟨h1,h2,h3,h4⟩:=Ic.1 hr
  rw [IZ] at h
  split at h
  ·rename_i hy
   have hy:=beq_iff_eq.1 hy
   cases h
   obtain ⟨f1,f2,f3⟩:=SAr (x:=x) (by omega) h4
   rw [Nat.sub_self]
   simp only [putAt,Ce,Yn,without,List.filter_cons] at f1 f2 f3 ⊢
   rw [decide_eq_false (by omega),decide_eq_false (by omega),show (y.fId != x.fId)=false by rw [bne_eq_false_iff_eq];exact hy]
   simp [f1,f2,f3]
  ·rename_i hy
   obtain ⟨h5,z,h6,h7⟩:=CAd h
   have h8:=FAG h4 z h6
   obtain ⟨i1,i2⟩:=ih h4 h
   have e:j - i=(j - (i+1))+1:=by omega
   rw [e,List.set_cons_succ,i1,List.take_succ_cons,List.drop_succ_cons,List.cons_append,i2]
   simp only [putAt,Ce,Yn,without,List.filter_cons]
   rw [decide_eq_true (by omega),decide_eq_false (by omega),show (y.fId != x.fId)=true by rw [bne_iff_ne];omega]
   simp
theorem TAr {last:Int} {x:SThing} {xs:List SThing} {p:Int} (h:rise last p xs=true) (hx:last<x.fId):putAt xs x=xs++[x]∧IY xs x.fId=none:=by
 have ha:=FAG h
 constructor
 ·rw [putAt,Ce,Yn,List.filter_eq_self.2 fun t ht=>by have:=ha t ht;rw [decide_eq_true_eq];omega,List.filter_eq_nil_iff.2 fun t ht=>by have:=ha t ht;rw [decide_eq_true_eq];omega]
 ·rw [IY,List.find?_eq_none]
  intro t ht
  have:=ha t ht
  rw [beq_iff_eq];omega
theorem UAr {last:Int} {x:SThing} (hx:GY x=true) (hl:last<x.fId):∀ {xs:List SThing} {p:Int},p<x.fId→rise last p xs=true→rise x.fId p (xs++[x])=true:=by
 intro xs
 induction xs with
 | nil=>intro p hp _;exact Ic.2 ⟨hx,Int.le_refl _,hp,rfl⟩
 | cons y ys ih=>
  intro p hp h
  obtain ⟨h1,h2,h3,h4⟩:=Ic.1 h
  exact Ic.2 ⟨h1,by omega,h3,ih (by omega) h4⟩
theorem VAr {last:Int} {x:SThing} (hx:GY x=true):∀ {xs:List SThing} {p:Int} {i j:Nat},rise last p xs=true→IZ xs x.fId i=some j→rise last p (xs.set (j - i) x)=true:=by
 intro xs
 induction xs with
 | nil=>intro p i j _ h;cases h
 | cons y ys ih=>
  intro p i j hr h
  obtain ⟨h1,h2,h3,h4⟩:=Ic.1 hr
  rw [IZ] at h
  split at h
  ·rename_i hy
   have hy:=beq_iff_eq.1 hy
   cases h
   rw [Nat.sub_self,List.set_cons_zero]
   exact Ic.2 ⟨hx,by omega,by omega,OAS (Int.le_refl _) (by omega) h4⟩
  ·have h5:=(CAd h).1
   have e:j - i=(j - (i+1))+1:=by omega
   rw [e,List.set_cons_succ]
   exact Ic.2 ⟨h1,h2,h3,ih h4 h⟩
theorem WAr {last:Int} (id:Int):∀ {xs:List SThing} {p:Int},rise last p xs=true→rise last p (without xs id)=true:=by
 intro xs
 induction xs with
 | nil=>intro p _;rfl
 | cons y ys ih=>
  intro p h
  obtain ⟨h1,h2,h3,h4⟩:=Ic.1 h
  rw [without,List.filter_cons]
  split
  ·exact Ic.2 ⟨h1,h2,h3,ih h4⟩
  ·exact OAS (Int.le_refl _) (by omega) (ih h4)
def grown (x y:SThing):Bool:=y.fKind == x.fKind && ((bs y.fValue == bs x.fValue) && (y.fSigns == x.fSigns && (y.fWraps == x.fWraps && (decide (x.fNext≤y.fNext) && ((y.fHidden || !x.fHidden) && (y.fFixed || !x.fFixed))))))
def Zq:SBook:=⟨⟨#[]⟩,0,[],0,⟨#[]⟩,0⟩
def Sm (b:SBook) (x:SThing):Option (List SThing×Int):=match IY b.fThings x.fId with
 | some old=>bif grown old x then some (putAt b.fThings x,b.fLast) else none
 | none=>bif x.fId != b.fLast+1 || decide ((b.fThings.length:Int)≥8) then none else some (b.fThings++[x],x.fId)
def YX (b:SBook) (r:SRec):SBook×Bool:=
 bif !(XY b) || (!(TT r).2 || decide (b.fCount≥10000)) then (Zq,false)
 else bif r.fKind == 1 then (⟨r.fText,0,b.fThings,b.fLast,FZ (b.fChain++(TT r).1),b.fCount+1⟩,true)
 else bif r.fKind == 2 then (⟨b.fWord,r.fNum,b.fThings,b.fLast,FZ (b.fChain++(TT r).1),b.fCount+1⟩,true)
 else bif r.fKind == 3 then (match Sm b r.fThing with
  | some p=>(⟨b.fWord,b.fTries,p.1,p.2,FZ (b.fChain++(TT r).1),b.fCount+1⟩,true)
  | none=>(Zq,false))
 else (match IY b.fThings r.fNum with
  | some _=>(⟨b.fWord,b.fTries,without b.fThings r.fNum,b.fLast,FZ (b.fChain++(TT r).1),b.fCount+1⟩,true)
  | none=>(Zq,false))
theorem WAR {xs:List SThing} {id:Int}:(∃ x j,IY xs id=some x∧IZ xs id 0=some j∧j<xs.length∧xs[j]?=some x∧x.fId=id)∨(IY xs id=none∧IZ xs id 0=none):=by
 have h:=YAb id xs 0
 cases hp:IZ xs id 0 with
 | none=>rw [hp] at h;exact .inr ⟨h,rfl⟩
 | some j=>
  rw [hp] at h
  obtain ⟨_,h2,h3⟩:=h
  rw [Nat.sub_zero] at h3
  rw [Nat.zero_add] at h2
  refine .inl ⟨xs[j],j,?_,rfl,h2,List.getElem?_eq_getElem h2,?_⟩
  ·rw [h3,List.getElem?_eq_getElem h2]
  ·have h4:IY xs id=some xs[j]:=by rw [h3,List.getElem?_eq_getElem h2]
   have:=List.find?_some h4
   exact beq_iff_eq.1 this
theorem PAS {b:SBook} {r:SRec} (h:(YX b r).2=true):XY b=true∧(TT r).2=true∧b.fCount<10000∧XY (YX b r).1=true∧(YX b r).1.fCount=b.fCount+1∧(YX b r).1.fChain=FZ (b.fChain++(TT r).1):=by
 rw [YX] at h ⊢
 cases h1:XY b
 ·rw [h1] at h;cases h
 cases h2:(TT r).2
 ·rw [h1,h2] at h;cases h
 by_cases h3:b.fCount≥10000
 ·rw [h1,h2,decide_eq_true h3] at h;cases h
 rw [h1,h2,decide_eq_false h3] at h
 rw [decide_eq_false h3]
 simp only [Bool.not_true,Bool.or_false,cond_false] at h ⊢
 obtain ⟨b1,b2,b3,b4,b5,b6,b7⟩:=Qd.1 h1
 refine ⟨trivial,trivial,by omega,?_⟩
 have hd:∀ s,(FZ s).size=32:=Fh
 rcases QAF h2 with ⟨hk,hz⟩ | ⟨hk,hz⟩ | ⟨hk,hz⟩ | ⟨hk,hz⟩
 ·rw [hk]
  exact ⟨Qd.2 ⟨hz,hd _,(by decide:(0:Int)≤0∧(0:Int)≤3),b4,b5,by show 0≤b.fCount+1∧b.fCount+1≤10000;omega,b7⟩,rfl,rfl⟩
 ·rw [hk]
  exact ⟨Qd.2 ⟨b1,hd _,hz,b4,b5,by show 0≤b.fCount+1∧b.fCount+1≤10000;omega,b7⟩,rfl,rfl⟩
 ·rw [hk] at h ⊢
  simp only [show ((3:Int) == 1)=false from rfl,show ((3:Int) == 2)=false from rfl,show ((3:Int) == 3)=true from rfl,cond_true,cond_false] at h ⊢
  rw [Sm] at h ⊢
  rcases WAR (xs:=b.fThings) (id:=r.fThing.fId) with ⟨x,j,t1,t2,t3,t4,t5⟩ | ⟨t1,t2⟩
  ·rw [t1] at h ⊢
   simp only at h ⊢
   cases hg:grown x r.fThing
   ·rw [hg] at h;cases h
   ·have e:=(XAR b7 t2).1
    rw [Nat.sub_zero] at e
    have hrs:=VAr hz b7 t2
    rw [Nat.sub_zero,e] at hrs
    exact ⟨Qd.2 ⟨b1,hd _,b3,by show (putAt b.fThings r.fThing).length≤8;rw [←e,List.length_set];exact b4,b5,by show 0≤b.fCount+1∧b.fCount+1≤10000;omega,hrs⟩,rfl,rfl⟩
  ·rw [t1] at h ⊢
   simp only at h ⊢
   cases hg:(r.fThing.fId != b.fLast+1 || decide ((b.fThings.length:Int)≥8))
   ·rw [Bool.or_eq_false_iff,bne_eq_false_iff_eq,decide_eq_false_iff_not] at hg
    have hid:r.fThing.fId≤1000:=by
     have:=hz
     simp only [GY,Bool.and_eq_true,WX] at this
     omega
    exact ⟨Qd.2 ⟨b1,hd _,b3,by show (b.fThings++[r.fThing]).length≤8;rw [List.length_append,List.length_singleton];omega,by show 0≤r.fThing.fId∧r.fThing.fId≤1000;omega,by show 0≤b.fCount+1∧b.fCount+1≤10000;omega,UAr hz (by omega) (by omega) b7⟩,rfl,rfl⟩
   ·rw [hg] at h;cases h
 ·rw [hk] at h ⊢
  simp only [show ((4:Int) == 1)=false from rfl,show ((4:Int) == 2)=false from rfl,show ((4:Int) == 3)=false from rfl,cond_false] at h ⊢
  cases ht:IY b.fThings r.fNum with
  | none=>rw [ht] at h;cases h
  | some x=>exact ⟨Qd.2 ⟨b1,hd _,b3,by show (without b.fThings r.fNum).length≤8;exact Nat.le_trans (List.length_filter_le ..) b4,b5,by show 0≤b.fCount+1∧b.fCount+1≤10000;omega,WAr _ b7⟩,rfl,rfl⟩
theorem Gh (a b:ByteArray):(a.toList == b.toList)=(bs a == bs b):=by
 rw [toList_inj,Bool.eq_iff_iff,decide_eq_true_eq,beq_iff_eq]
 exact ⟨fun h=>by rw [h],Ia⟩
theorem XAr (x y:SThing):Sl x y=some (grown x y):=by
 rw [Sl,IAN,grown,Gh,show (bs x.fValue == bs y.fValue)=(bs y.fValue == bs x.fValue) by rw [Bool.eq_iff_iff,beq_iff_eq,beq_iff_eq];exact ⟨Eq.symm,Eq.symm⟩,
  show (x.fKind == y.fKind)=(y.fKind == x.fKind) by rw [Bool.eq_iff_iff,beq_iff_eq,beq_iff_eq];exact ⟨Eq.symm,Eq.symm⟩]
 cases (y.fKind == x.fKind) <;> cases (bs y.fValue == bs x.fValue) <;> cases y.fSigns <;> cases x.fSigns <;> cases y.fWraps <;> cases x.fWraps <;> cases decide (x.fNext≤y.fNext) <;> cases y.fHidden <;> cases x.fHidden <;> cases y.fFixed <;> cases x.fFixed <;> rfl
theorem QAS {f:SThing→Bool} {l:List SThing} {i:Nat} (h:i<l.length):(l.take (i+1)).filter f=(l.take i).filter f++(bif f l[i] then [l[i]] else []):=by
 rw [take_at h,List.filter_append]
 congr 1
theorem DAd {l:List SThing} {x:SThing} (hl:l.length≤1000000000):Ul l x=some (putAt l x):=by
 have k1:∀ (j i m:Nat),i+j=l.length→Jg (m+j) (.c1 l (i:Int) x (Ce x l++[x]++(l.take i).filter (fun t=>decide (t.fId > x.fId))))=Jg m (.c1 l (l.length:Int) x (Ce x l++[x]++Yn x l)):=by
  intro j
  induction j with
  | zero=>(intro i m h;obtain rfl:i=l.length:=by omega);rw [List.take_length];rfl
  | succ j ih=>
   intro i m h
   have hi:i<l.length:=by omega
   have e:w64 ((i:Int)+1)=((i+1:Nat):Int):=by rw [w64_id (by omega) (by omega)];rfl
   have h2:=ih (i+1) m (by omega)
   rw [QAS hi] at h2
   have hf1:(Ce x l).length≤l.length:=List.length_filter_le ..
   have hf2:((l.take i).filter (fun t=>decide (t.fId > x.fId))).length≤i:=Nat.le_trans (List.length_filter_le ..) (by simp;omega)
   rw [show m+(j+1)=(m+j)+1 by omega,Jg]
   simp only [Dq,e,Int.toNat_natCast,getD_at hi]
   rw [TB (by simp;omega),TB (by simp;omega)]
   by_cases h3:l[i].fId > x.fId
   ·rw [decide_eq_true h3] at h2 ⊢
    rw [cond_true,TB (by simp;omega),TB (by simp only [List.length_append,List.length_singleton,decide_eq_true_eq];omega),←h2]
    simp
   ·rw [decide_eq_false h3] at h2 ⊢
    rw [cond_false,←h2]
    simp
 have k0:∀ (j i m:Nat),i+j=l.length→Jg (m+1+l.length+1+j) (.c0 l (i:Int) x ((l.take i).filter (fun t=>decide (t.fId<x.fId))))=some (putAt l x):=by
  intro j
  induction j with
  | zero=>
   intro i m h
   obtain rfl:i=l.length:=by omega
   have hf1:(Ce x l).length≤l.length:=List.length_filter_le ..
   rw [List.take_length,show l.filter (fun t=>decide (t.fId<x.fId))=Ce x l from rfl,Nat.add_zero,Jg]
   simp only [Dq]
   rw [NM (by simp),TB (by simp;omega)]
   have h2:=k1 l.length 0 (m+1) (by omega)
   rw [List.take_zero,List.filter_nil,List.append_nil,show ((0:Nat):Int)=0 from rfl] at h2
   rw [h2,Jg]
   simp only [Dq]
   rw [NM (by simp),putAt,List.append_assoc];rfl
  | succ j ih=>
   intro i m h
   have hi:i<l.length:=by omega
   have e:w64 ((i:Int)+1)=((i+1:Nat):Int):=by rw [w64_id (by omega) (by omega)];rfl
   have h2:=ih (i+1) m (by omega)
   rw [QAS hi] at h2
   have hf2:((l.take i).filter (fun t=>decide (t.fId<x.fId))).length≤i:=Nat.le_trans (List.length_filter_le ..) (by simp;omega)
   rw [show m+1+l.length+1+(j+1)=(m+1+l.length+1+j)+1 by omega,Jg]
   simp only [Dq,e,Int.toNat_natCast,getD_at hi]
   rw [TB (by simp;omega),TB (by simp;omega)]
   by_cases h3:l[i].fId<x.fId
   ·rw [decide_eq_true h3] at h2 ⊢
    rw [cond_true,TB (by simp;omega),TB (by simp only [decide_eq_true_eq];omega),←h2]
    simp
   ·rw [decide_eq_false h3] at h2 ⊢
    rw [cond_false,←h2]
    simp
 obtain ⟨m,hm⟩:∃ m,gas=m+1+l.length+1+l.length:=⟨gas - (2*l.length+2),by have:=gas_lt (n:=2*l.length+2) (by omega);omega⟩
 rw [Ul,JAN,hm]
 have h:=k0 l.length 0 m (by omega)
 rw [List.take_zero,List.filter_nil] at h
 exact h
theorem EAb {b:SBook} {r:SRec} (hb:b.fThings.length≤140737488351232):Ad b r=some (YX b r):=by
 have hok:=@PAS b r
 rw [Ad,KAN,Xr,Option.bind_some,Ym hb,Option.bind_some]
 rw [YX] at hok ⊢
 cases h1:XY b
 ·rfl
 cases h2:(TT r).2
 ·rfl
 obtain ⟨b1,b2,b3,b4,b5,b6,b7⟩:=Qd.1 h1
 by_cases h3:b.fCount≥10000
 ·have h3':(b.fCount == 10000)=true:=by rw [beq_iff_eq];omega
  simp only [decide_eq_true h3,h3',Bool.not_true,Bool.or_true,Bool.false_or,cond_false,cond_true]
  rfl
 have hz:=MAb r
 have hw:w64 (b.fCount+1)=b.fCount+1:=w64_id (by omega) (by omega)
 have hdig:=H9 (s:=b.fChain++(TT r).1) (by rw [ByteArray.size_append];omega)
 have hsz:decide (b.fChain.size+(TT r).1.size≤9223372036854775807)=true:=by rw [decide_eq_true_eq];omega
 have h3':(b.fCount == 10000)=false:=by rw [beq_eq_false_iff_ne];omega
 rw [h1,h2,decide_eq_false h3] at hok
 simp only [Bool.not_true,Bool.or_self,cond_false] at hok
 simp only [decide_eq_false h3,h3',Bool.not_true,Bool.or_self,cond_false,VAc (show b.fThings.length≤2932031007317 by omega),hdig,hsz,hw,Option.bind_some,cond_true]
 rcases QAF h2 with ⟨hk,hc⟩ | ⟨hk,hc⟩ | ⟨hk,hc⟩ | ⟨hk,hc⟩
 ·rw [hk] at hok ⊢
  simp only [show ((1:Int) == 1)=true from rfl,cond_true] at hok ⊢
  have h5:=(hok trivial).2.2.2.1
  rw [Ym (by simp only;omega),Option.bind_some,h5];rfl
 ·rw [hk] at hok ⊢
  simp only [show ((2:Int) == 1)=false from rfl,show ((2:Int) == 2)=true from rfl,cond_true,cond_false] at hok ⊢
  have h5:=(hok trivial).2.2.2.1
  rw [Ym (by simp only;omega),Option.bind_some,h5];rfl
 ·rw [hk] at hok ⊢
  simp only [show ((3:Int) == 1)=false from rfl,show ((3:Int) == 2)=false from rfl,show ((3:Int) == 3)=true from rfl,cond_true,cond_false] at hok ⊢
  have hid:=(Xe hc)
  have hpl:(putAt b.fThings r.fThing).length≤1000:=by
   have f1:(Ce r.fThing b.fThings).length≤b.fThings.length:=List.length_filter_le ..
   have f2:(Yn r.fThing b.fThings).length≤b.fThings.length:=List.length_filter_le ..
   rw [putAt,List.length_append,List.length_cons];omega
  rw [SAF hb,Option.bind_some]
  rw [Sm] at hok ⊢
  cases ht:IY b.fThings r.fThing.fId with
  | some o=>
   rw [ht] at hok
   simp only [cond_true,XAr,Option.bind_some,Bool.not_true,cond_false,DAd (show b.fThings.length≤1000000000 by omega)] at hok ⊢
   cases hg:grown o r.fThing
   ·rfl
   ·rw [hg] at hok
    simp only [cond_true] at hok
    have h5:=(hok trivial).2.2.2.1
    simp only [Bool.not_true,cond_false,cond_true]
    rw [Ym (by simp only;omega),Option.bind_some,h5];rfl
  | none=>
   rw [ht] at hok
   have hw2:w64 (b.fLast+1)=b.fLast+1:=w64_id (by omega) (by omega)
   simp only [cond_false,Bool.not_false,cond_true,hw2,DAd (show b.fThings.length≤1000000000 by omega),Option.bind_some] at hok ⊢
   cases hg:(r.fThing.fId != b.fLast+1)
   ·rw [hg] at hok
    rw [bne_eq_false_iff_eq] at hg
    have hpn:=(TAr b7 (show b.fLast<r.fThing.fId by omega)).1
    by_cases h8:(b.fThings.length:Int)≥8
    ·rw [decide_eq_true h8,cond_false,TB (by rw [beq_iff_eq];omega)];rfl
    ·rw [decide_eq_false h8] at hok ⊢
     simp only [Bool.or_false,cond_false] at hok
     have h5:=(hok trivial).2.2.2.1
     rw [hpn] at hpl ⊢
     rw [cond_false,NM (by rw [beq_eq_false_iff_ne];omega),Ym (by simp only;omega),Option.bind_some,h5];rfl
   ·rfl
 ·rw [hk] at hok ⊢
  simp only [show ((4:Int) == 1)=false from rfl,show ((4:Int) == 2)=false from rfl,show ((4:Int) == 3)=false from rfl,show ((4:Int) == 4)=true from rfl,cond_true,cond_false] at hok ⊢
  rw [SAF hb,Option.bind_some]
  cases ht:IY b.fThings r.fNum with
  | none=>rfl
  | some o=>
   rw [ht] at hok
   simp only [Bool.not_true,cond_false] at hok ⊢
   have h5:=(hok trivial).2.2.2.1
   have key:∀ (j i m:Nat),i+j=b.fThings.length→Tz (m+j+1) (.c0 (TT r).1 (i:Int) b r ⟨#[]⟩ 0 0 ⟨#[]⟩ 0 b.fWord b.fTries b.fLast b.fChain b.fCount ((b.fThings.take i).filter (fun t=>t.fId != r.fNum)) [] b.fThings)=some (⟨b.fWord,b.fTries,without b.fThings r.fNum,b.fLast,FZ (b.fChain++(TT r).1),b.fCount+1⟩,true):=by
    intro j
    induction j with
    | zero=>
     intro i m hi
     obtain rfl:i=b.fThings.length:=by omega
     have hf1:(without b.fThings r.fNum).length≤b.fThings.length:=List.length_filter_le ..
     rw [List.take_length,show b.fThings.filter (fun t=>t.fId != r.fNum)=without b.fThings r.fNum from rfl,Tz]
     simp only [RAD,hdig,hsz,hw,Option.bind_some,cond_true]
     rw [NM (by simp),Ym (by simp only;omega),Option.bind_some,h5];rfl
    | succ j ih=>
     intro i m hi
     have hil:i<b.fThings.length:=by omega
     have e:w64 ((i:Int)+1)=((i+1:Nat):Int):=by rw [w64_id (by omega) (by omega)];rfl
     have h6:=ih (i+1) m (by omega)
     rw [QAS hil] at h6
     have hf2:((b.fThings.take i).filter (fun t=>t.fId != r.fNum)).length≤i:=Nat.le_trans (List.length_filter_le ..) (by simp;omega)
     rw [show m+(j+1)+1=(m+j+1)+1 by omega,Tz]
     simp only [RAD,e,Int.toNat_natCast,getD_at hil]
     rw [TB (by simp;omega),TB (by simp;omega)]
     cases h7:(b.fThings[i].fId != r.fNum)
     ·rw [h7] at h6
      rw [cond_false,←h6];simp
     ·rw [h7] at h6
      rw [cond_true,TB (by simp;omega),TB (by simp only [decide_eq_true_eq];omega),←h6];simp
   obtain ⟨m,hm⟩:∃ m,gas=m+b.fThings.length+1:=⟨gas - (b.fThings.length+1),by have:=gas_lt (n:=b.fThings.length+1) (by omega);omega⟩
   have h0:=key b.fThings.length 0 m (by omega)
   rw [List.take_zero,List.filter_nil] at h0
   rw [hm]
   exact h0
def LY (b:SBook):List SRec→SBook×Bool
 | []=>(b,true)
 | r::rs=>bif (YX b r).2 then LY (YX b r).1 rs else (Zq,false)
theorem Ar {b:SBook} {r:SRec} (h:(YX b r).2=true):(YX b r).1.fThings.length≤8:=(Qd.1 (PAS h).2.2.2.1).2.2.2.1
theorem YAu {rs:List SRec}:∀ {b:SBook},XY b=true→(LY b rs).2=true→XY (LY b rs).1=true:=by
 induction rs with
 | nil=>intro b h _;exact h
 | cons r rs ih=>
  intro b h h2
  rw [LY] at h2 ⊢
  cases h3:(YX b r).2
  ·rw [h3] at h2;cases h2
  ·rw [h3,cond_true] at h2
   rw [cond_true]
   exact ih (PAS h3).2.2.2.1 h2
theorem BAb {b:SBook} {l:List SRec} (hb:b.fThings.length≤2932031007317) (hl:l.length≤140737488351232):Vl b l=some (LY b l):=by
 have key:∀ (j i m:Nat) (b:SBook),i+j=l.length→b.fThings.length≤2932031007317→Vz (m+j+1) (.c0 l (i:Int) ⟨#[]⟩ 0 0 ⟨#[]⟩ 0 b.fWord b.fTries b.fLast b.fChain b.fCount [] b.fThings)=some (LY b (l.drop i)):=by
  intro j
  induction j with
  | zero=>
   intro i m b h hb
   obtain rfl:i=l.length:=by omega
   rw [Vz]
   simp only [UAD]
   rw [NM (by simp),List.drop_length];rfl
  | succ j ih=>
   intro i m b h hb
   have hi:i<l.length:=by omega
   have e:w64 ((i:Int)+1)=((i+1:Nat):Int):=by rw [w64_id (by omega) (by omega)];rfl
   rw [show m+(j+1)+1=(m+j+1)+1 by omega,Vz]
   simp only [UAD,e,Int.toNat_natCast,getD_at hi]
   rw [TB (by simp;omega),TB (by simp;omega),EAb (by show b.fThings.length≤_;omega),Option.bind_some,drop_at hi,LY]
   cases h2:(YX b l[i]).2
   ·rfl
   ·have h3:=Ar h2
    rw [NM (by rfl),cond_true]
    exact ih (i+1) m (YX b l[i]).1 (by omega) (by omega)
 obtain ⟨m,hm⟩:∃ m,gas=m+l.length+1:=⟨gas - (l.length+1),by have:=gas_lt (n:=l.length+1) (by omega);omega⟩
 rw [Vl,LAN,VAc hb,Option.bind_some,hm]
 exact key l.length 0 m b (by omega) hb
def Lr (x y:SThing):Bool:=(x.fId == y.fId) && ((x.fKind == y.fKind) && ((x.fHidden == y.fHidden) && ((x.fFixed == y.fFixed) && ((x.fSigns == y.fSigns) && ((x.fWraps == y.fWraps) && (((ByteArray.toList x.fValue) == (ByteArray.toList y.fValue)) && ((x.fNext == y.fNext) && true)))))))
theorem OAb (x y:SThing):((x.fId == y.fId) && ((x.fKind == y.fKind) && ((x.fHidden == y.fHidden) && ((x.fFixed == y.fFixed) && ((x.fSigns == y.fSigns) && ((x.fWraps == y.fWraps) && (((ByteArray.toList x.fValue) == (ByteArray.toList y.fValue)) && ((x.fNext == y.fNext) && true))))))))=Lr x y:=rfl
theorem YAr {x y:SThing}:Lr x y=true↔x=y:=by
 simp only [Lr,Bool.and_eq_true,beq_iff_eq]
 constructor
 ·rintro ⟨h1,h2,h3,h4,h5,h6,h7,h8,_⟩
  have h7':x.fValue=y.fValue:=by
   have:=toList_inj (s:=x.fValue) (t:=y.fValue)
   rw [h7] at this
   simpa using this
  cases x;cases y;simp_all
 ·rintro rfl;simp
def RZ:List SThing→List SThing→Bool
 | [],[]=>true
 | x::a,y::b=>Lr x y && RZ a b
 | _,_=>false
theorem RAS:∀ {a b:List SThing},RZ a b=true↔a=b
 | [],[]=>by simp [RZ]
 | x::a,y::b=>by simp [RZ,YAr,RAS]
 | [],_::_=>by simp [RZ]
 | _::_,[]=>by simp [RZ]
theorem PAb {a b:List SThing} (h:a.length≠b.length):RZ a b=false:=by
 cases h2:RZ a b
 ·rfl
 ·rw [RAS] at h2;subst h2;exact absurd rfl h
def Bc (a b:SBook):Bool:=(a.fWord.toList == b.fWord.toList) && ((a.fTries == b.fTries) && (RZ a.fThings b.fThings && ((a.fLast == b.fLast) && ((a.fChain.toList == b.fChain.toList) && (a.fCount == b.fCount)))))
theorem ZAu {a b:SBook}:Bc a b=true↔a=b:=by
 simp only [Bc,Bool.and_eq_true,toList_inj,decide_eq_true_eq,beq_iff_eq,RAS]
 constructor
 ·rintro ⟨h1,h2,h3,h4,h5,h6⟩
  cases a;cases b;simp_all
 ·rintro rfl;simp
theorem OAR {a b:SBook} (h0:a.fThings.length≤140737488351232):Og a b=some (Bc a b):=by
 rw [Og,MAN,Bc]
 by_cases hl:a.fThings.length=b.fThings.length
 ·have key:∀ (j i m:Nat),i+j=a.fThings.length→Zz (m+j+1) (.c0 (i:Int) a b)=some (RZ (a.fThings.drop i) (b.fThings.drop i)):=by
   intro j
   induction j with
   | zero=>
    intro i m h
    obtain rfl:i=a.fThings.length:=by omega
    rw [Zz]
    simp only [VAD]
    rw [NM (by simp),List.drop_length,hl,List.drop_length];rfl
   | succ j ih=>
    intro i m h
    have hi:i<a.fThings.length:=by omega
    have hi2:i<b.fThings.length:=by omega
    have e:w64 ((i:Int)+1)=((i+1:Nat):Int):=by rw [w64_id (by omega) (by omega)];rfl
    rw [show m+(j+1)+1=(m+j+1)+1 by omega,Zz]
    simp only [VAD,e,Int.toNat_natCast,getD_at hi,getD_at hi2,OAb,ih (i+1) m (by omega)]
    rw [TB (by simp;omega),TB (by simp;omega),TB (by simp;omega),drop_at hi,drop_at hi2,RZ]
    cases Lr a.fThings[i] b.fThings[i] <;> rfl
  obtain ⟨m,hm⟩:∃ m,gas=m+a.fThings.length+1:=⟨gas - (a.fThings.length+1),by have:=gas_lt (n:=a.fThings.length+1) (by omega);omega⟩
  have hz:=key a.fThings.length 0 m (by omega)
  rw [List.drop_zero,List.drop_zero,show ((0:Nat):Int)=0 from rfl] at hz
  have h1:((a.fThings.length:Int) != (b.fThings.length:Int))=false:=by rw [bne_eq_false_iff_eq];omega
  rw [h1,hm,hz]
  simp only [bne]
  cases a.fWord.toList == b.fWord.toList <;> cases a.fTries == b.fTries <;> cases RZ a.fThings b.fThings <;> cases a.fLast == b.fLast <;> cases a.fChain.toList == b.fChain.toList <;> cases a.fCount == b.fCount <;> rfl
 ·have h1:((a.fThings.length:Int) != (b.fThings.length:Int))=true:=by rw [bne_iff_ne];omega
  rw [h1,PAb hl]
  simp only [bne]
  cases a.fWord.toList == b.fWord.toList <;> cases a.fTries == b.fTries <;> cases a.fLast == b.fLast <;> cases a.fChain.toList == b.fChain.toList <;> cases a.fCount == b.fCount <;> rfl
theorem ZAr (s:ByteArray):Wl s=some (FN (s.size:Int) 1 8):=by
 rw [Wl,OAN,La];rfl
def fOk (f:SFile):Bool:=FN (f.fName.size:Int) 1 8 && (!decide ((f.fText.size:Int) > 20000) && FN f.fKept 0 (f.fText.size:Int))
def Qi:ByteArray→List SFile→Bool
 | _,[]=>true
 | p,f::fs=>fOk f && (Op.bytesLess p.toList f.fName.toList && Qi f.fName fs)
def Ih (l:List SFile):Nat→ByteArray
 | 0=>⟨#[]⟩
 | i+1=>((l[i]?).map (·.fName)).getD ⟨#[]⟩
theorem BAS {l:List SFile} {i:Nat} (hi:i<l.length):Ih l (i+1)=l[i].fName:=by simp [Ih,hi]
theorem UAb {l:List SFile} {i:Nat} (hi:i<l.length):Qi (Ih l i) (l.drop i)=(fOk l[i] && (Op.bytesLess (Ih l i).toList l[i].fName.toList && Qi (Ih l (i+1)) (l.drop (i+1)))):=by
 rw [drop_at hi,Qi,BAS hi]
def Td (d:SDisk):Bool:=decide ((d.fFiles.length:Int)≤30) && Qi ⟨#[]⟩ d.fFiles
theorem VAb {s:ByteArray} (h:1≤s.size):Op.bytesLess (⟨#[]⟩:ByteArray).toList s.toList=true:=by
 rw [ByteArray.toList_eq,ByteArray.toList_eq]
 obtain ⟨⟨l⟩⟩:=s
 cases l with
 | nil=>exact absurd h (Nat.not_succ_le_zero 0)
 | cons x l=>rfl
def Zb:List SFile→ByteArray→Nat→Option Nat
 | [],_,_=>none
 | f::fs,n,i=>if f.fName.toList == n.toList then some i else Zb fs n (i+1)
theorem MAR {n:ByteArray}:∀ {fs:List SFile} {i j:Nat},Zb fs n i=some j→i≤j∧j<i+fs.length:=by
 intro fs
 induction fs with
 | nil=>intro i j h;cases h
 | cons f fs ih=>
  intro i j h
  rw [Zb] at h
  rw [List.length_cons]
  split at h
  ·cases h;omega
  ·have:=ih h;omega
def Ac (d:SDisk) (n:ByteArray):Int:=match Zb d.fFiles n 0 with | some j=>(j:Int) | none=> -1
def XAa:SFile:=⟨⟨#[]⟩,⟨#[]⟩,0⟩
def CV (d:SDisk) (n:ByteArray):ByteArray×Bool:=match Zb d.fFiles n 0 with | some j=>((d.fFiles.getD j XAa).fText,true) | none=>(⟨#[]⟩,false)
theorem AAb (d:SDisk):Pg d=some (Td d):=by
 rw [Pg,PAN,Td]
 by_cases h0:(d.fFiles.length:Int)≤30
 ·rw [NM (by simp;omega),decide_eq_true h0,Bool.true_and]
  have key:∀ (j i m:Nat),i+j=d.fFiles.length→X0 (m+j+1) (.c0 (i:Int) d)=some (Qi (Ih d.fFiles i) (d.fFiles.drop i)):=by
   intro j
   induction j with
   | zero=>
    intro i m h
    obtain rfl:i=d.fFiles.length:=by omega
    rw [X0]
    simp only [XAD]
    rw [NM (by simp),List.drop_length];rfl
   | succ j ih=>
    intro i m h
    have hi:i<d.fFiles.length:=by omega
    have e:w64 ((i:Int)+1)=((i+1:Nat):Int):=by rw [w64_id (by omega) (by omega)];rfl
    have h2:=ih (i+1) m (by omega)
    rw [show m+(j+1)+1=(m+j+1)+1 by omega,X0]
    simp only [XAD,e,Int.toNat_natCast,getD_at hi,ZAr,La,Option.bind_some]
    rw [TB (by simp;omega),TB (by simp;omega),UAb hi,fOk,h2]
    cases hn:FN (d.fFiles[i].fName.size:Int) 1 8
    ·rfl
    cases decide ((d.fFiles[i].fText.size:Int) > 20000)
    ·cases FN d.fFiles[i].fKept 0 (d.fFiles[i].fText.size:Int)
     ·rfl
     ·by_cases hz:i=0
      ·subst hz
       rw [WX] at hn
       rw [show Ih d.fFiles 0=⟨#[]⟩ from rfl,VAb (by omega)];rfl
      ·obtain ⟨i',rfl⟩:∃ q,i=q+1:=⟨i - 1,by omega⟩
       have e2:w64 (((i'+1:Nat):Int) - 1)=(i':Int):=by rw [w64_id (by omega) (by omega)];omega
       rw [e2,Int.toNat_natCast,getD_at (show i'<d.fFiles.length by omega),BAS (i:=i') (by omega),NM (by rfl),NM (by rfl),NM (by rfl),TB (by simp;try omega),TB (by simp;try omega)]
       cases Op.bytesLess d.fFiles[i'].fName.toList d.fFiles[i'+1].fName.toList <;> rfl
    ·rfl
  obtain ⟨m,hm⟩:∃ m,gas=m+d.fFiles.length+1:=⟨gas - (d.fFiles.length+1),by have:=gas_lt (n:=d.fFiles.length+1) (by omega);omega⟩
  rw [hm]
  exact key d.fFiles.length 0 m (by omega)
 ·rw [TB (by simp;omega),decide_eq_false h0];rfl
theorem CAb {d:SDisk} {n:ByteArray} (h0:d.fFiles.length≤140737488351232):Xl d n=some (Ac d n):=by
 have key:∀ (j i m:Nat),i+j=d.fFiles.length→O1 (m+j+1) (.c0 n (i:Int) d)=some (match Zb (d.fFiles.drop i) n i with | some j=>(j:Int) | none=> -1):=by
  intro j
  induction j with
  | zero=>
   intro i m h
   obtain rfl:i=d.fFiles.length:=by omega
   rw [O1]
   simp only [ZAD]
   rw [NM (by simp),List.drop_length];rfl
  | succ j ih=>
   intro i m h
   have hi:i<d.fFiles.length:=by omega
   have e:w64 ((i:Int)+1)=((i+1:Nat):Int):=by rw [w64_id (by omega) (by omega)];rfl
   rw [show m+(j+1)+1=(m+j+1)+1 by omega,O1]
   simp only [ZAD,e,Int.toNat_natCast,getD_at hi,ih (i+1) m (by omega)]
   rw [TB (by simp;omega),TB (by simp;omega),drop_at hi,Zb]
   cases d.fFiles[i].fName.toList == n.toList <;> rfl
 obtain ⟨m,hm⟩:∃ m,gas=m+d.fFiles.length+1:=⟨gas - (d.fFiles.length+1),by have:=gas_lt (n:=d.fFiles.length+1) (by omega);omega⟩
 rw [Xl,SAN,hm,Ac]
 exact key d.fFiles.length 0 m (by omega)
theorem OAm {d:SDisk} {n:ByteArray} (h0:d.fFiles.length≤140737488351232):U1 d n=some (CV d n):=by
 rw [U1,UAN,CAb h0,Option.bind_some,Ac,CV]
 cases h:Zb d.fFiles n 0 with
 | none=>rfl
 | some j=>
  have:=MAR h
  simp only [Int.toNat_natCast]
  rw [NM (by simp),TB (by simp;omega)];rfl
def pw (k:Nat):Int:=128 ^ k
theorem Oh:pw 0=1:=rfl
theorem GAG (k:Nat):pw (k+1)=pw k*128:=Int.pow_succ ..
theorem Zn {k:Nat} (h:k<5):pw k=1∨pw k=128∨pw k=16384∨pw k=2097152∨pw k=268435456:=by
 rcases (by omega:k=0∨k=1∨k=2∨k=3∨k=4) with rfl | rfl | rfl | rfl | rfl
 ·exact .inl rfl
 ·exact .inr (.inl rfl)
 ·exact .inr (.inr (.inl rfl))
 ·exact .inr (.inr (.inr (.inl rfl)))
 ·exact .inr (.inr (.inr (.inr rfl)))
def Ld:Int×Int×Bool:=(0,0,false)
def RV (text:ByteArray) (a:Nat) (r:Int×Int×Bool):Prop:=r=Ld∨∃ v:Int,∃ q:Nat,r=(v,((q:Nat):Int),true)∧0≤v∧v≤1000000000∧a<q∧q≤text.size
def At (text:ByteArray) (p:Nat) (l:List Int):Prop:=∃ rest,(bs text).drop p=l++rest
theorem At.left {text:ByteArray} {p:Nat} {l m:List Int} (h:At text p (l++m)):At text p l:=by
 obtain ⟨r,hr⟩:=h;exact ⟨m++r,by rw [hr,List.append_assoc]⟩
theorem At.right {text:ByteArray} {p:Nat} {l m:List Int} (h:At text p (l++m)):At text (p+l.length) m:=by
 obtain ⟨r,hr⟩:=h;exact ⟨r,by rw [←List.drop_drop,hr,List.append_assoc,List.drop_left]⟩
theorem At.size {text:ByteArray} {p:Nat} {l:List Int} (h:At text p l):l=[]∨p+l.length≤text.size:=by
 obtain ⟨r,hr⟩:=h
 have:=congrArg List.length hr
 rw [List.length_drop,bs_len,List.length_append] at this
 cases l with
 | nil=>exact .inl rfl
 | cons x xs=>right;simp only [List.length_cons] at this ⊢;omega
theorem At.head {text:ByteArray} {p:Nat} {x:Int} {l:List Int} (h:At text p (x::l)):p<text.size∧bt text (p:Int)=x:=by
 have hs:p+(x::l).length≤text.size:=by rcases h.size with h | h;exact absurd h (by simp);exact h
 simp only [List.length_cons] at hs
 have hp:p<text.size:=by omega
 refine ⟨hp,?_⟩
 rw [ZAF hp]
 obtain ⟨r,hr⟩:=h
 have hl:p<(bs text).length:=by rw [bs_len];exact hp
 rw [List.drop_eq_getElem_cons hl] at hr
 injection hr
theorem At.tail {text:ByteArray} {p:Nat} {x:Int} {l:List Int} (h:At text p (x::l)):At text (p+1) l:=At.right (l:=[x]) h
theorem At.extract {text:ByteArray} {p:Nat} {l:List Int} (h:At text p l) (hl:∀ n,n ∈ l→0≤n∧n≤255):text.extract p (p+l.length)=ofBytes l:=by
 apply Ia
 rw [JZ,SN hl]
 obtain ⟨r,hr⟩:=h
 rw [List.drop_take,hr]
 simp
theorem Md:∀ (n:Int),0≤n→∀ x,x ∈ IK n→0≤x∧x≤255:=by
 intro n
 induction n using IK.induct with
 | case1 n hn ih=>
  intro h x hx
  rw [IK,if_pos hn] at hx
  rcases List.mem_cons.1 hx with rfl | hx
  ·omega
  ·exact ih (by omega) x hx
 | case2 n hn=>
  intro h x hx
  rw [IK,if_neg hn,w8_id h (by omega)] at hx
  rw [List.mem_singleton] at hx
  omega
theorem J9 {n:Int} (h:0≤n) (h2:n≤127):IK n=[n]:=by
 rw [IK,if_neg (by omega),w8_id h (by omega)]
theorem EAd {n:Int} (h:n≤1000000000):(IK n).length≤5:=by
 have:=WAc 5 n (by (have:(128:Int) ^ 5=34359738368:=by decide);omega)
 omega
theorem HAG {text:ByteArray} {a k m:Nat} {n s:Int} (hs:text.size≤140737488351232) (ha:a≤text.size) (hi:text.size≤a+k∨5≤k):Oe (m+1) (.c0 text a n s ((a+k:Nat):Int))=some Ld:=by
 simp only [Oe,AAE]
 by_cases h:a+k<text.size
 ·rw [show decide (((a+k:Nat):Int)<(text.size:Int))=true from decide_eq_true (by omega),w64_id (n:=(a:Int)+5) (by omega) (by omega),show decide (((a+k:Nat):Int)<(a:Int)+5)=false from decide_eq_false (by omega)]
  rfl
 ·rw [show decide (((a+k:Nat):Int)<(text.size:Int))=false from decide_eq_false (by omega)]
  rfl
theorem Si {k:Nat} {n b:Int} (hk:k<5) (h0:0≤n) (h1:n<pw k) (hb:0≤b∧b≤255) :
  (b<128→b.tmod 128=b∧w64 (b*pw k)=b*pw k∧w64 (n+b*pw k)=n+b*pw k∧0≤n+b*pw k∧n+b*pw k<pw (k+1))∧
  (¬ b<128→b.tmod 128=b - 128∧w64 ((b - 128)*pw k)=(b - 128)*pw k∧w64 (n+(b - 128)*pw k)=n+(b - 128)*pw k∧0≤n+(b - 128)*pw k∧n+(b - 128)*pw k<pw (k+1))∧w64 (pw k*128)=pw (k+1):=by
 rw [GAG]
 have e:b.tmod 128=b % 128:=Int.tmod_eq_emod_of_nonneg hb.1
 refine ⟨fun h=>?_,fun h=>?_,?_⟩
 ·have hc:0≤b*pw k∧b*pw k≤34091302912∧b*pw k≤127*pw k:=by rcases Zn hk with e | e | e | e | e <;> rw [e] <;> omega
  have hp:pw k≤268435456:=by rcases Zn hk with e | e | e | e | e <;> rw [e] <;> omega
  exact ⟨by rw [e];omega,w64_id (by omega) (by omega),w64_id (by omega) (by omega),by omega,by omega⟩
 ·have hc:0≤(b - 128)*pw k∧(b - 128)*pw k≤34091302912∧(b - 128)*pw k≤127*pw k:=by rcases Zn hk with e | e | e | e | e <;> rw [e] <;> omega
  have hp:pw k≤268435456:=by rcases Zn hk with e | e | e | e | e <;> rw [e] <;> omega
  exact ⟨by rw [e];omega,w64_id (by omega) (by omega),w64_id (by omega) (by omega),by omega,by omega⟩
 ·rcases Zn hk with e | e | e | e | e <;> rw [e,w64_id (by omega) (by omega)]
theorem IAG {text:ByteArray} {a k m:Nat} {n b:Int} (hs:text.size≤140737488351232) (hk:k<5) (hi:a+k<text.size) (h0:0≤n) (h1:n<pw k) (hb:bt text ((a+k:Nat):Int)=b) :
  Oe (m+1) (.c0 text a n (pw k) ((a+k:Nat):Int))=if b<128 then (if n+b*pw k > 1000000000 then some Ld else if ofBytes (IK (n+b*pw k))=text.extract a (a+k+1) then some (n+b*pw k,((a+k+1:Nat):Int),true) else some Ld) else Oe m (.c0 text a (n+(b - 128)*pw k) (pw (k+1)) ((a+k+1:Nat):Int)):=by
 have hb':=Eh text ((a+k:Nat):Int)
 rw [hb] at hb'
 obtain ⟨n1,n2,n3⟩:=Si hk h0 h1 hb'
 have hw:w64 (((a+k:Nat):Int)+1)=((a+k+1:Nat):Int):=by rw [w64_id (by omega) (by omega)];omega
 simp only [Oe,AAE,hb,w64_id (n:=b) (by omega) (by omega),n3,hw,Int.toNat_natCast]
 rw [show decide (((a+k:Nat):Int)<(text.size:Int))=true from decide_eq_true (by omega),w64_id (n:=(a:Int)+5) (by omega) (by omega),show decide (((a+k:Nat):Int)<(a:Int)+5)=true from decide_eq_true (by omega),
  show decide ((0:Int)≤((a+k:Nat):Int))=true from decide_eq_true (by omega)]
 simp only [Bool.and_self,cond_true]
 by_cases h:b<128
 ·obtain ⟨e1,e2,e3,e4,_⟩:=n1 h
  rw [if_pos h,e1,e2,e3,show decide (b<128)=true from decide_eq_true h]
  by_cases h2:n+b*pw k > 1000000000
  ·rw [if_pos h2,show decide (n+b*pw k > 1000000000)=true from decide_eq_true h2];rfl
  ·rw [if_neg h2,show decide (n+b*pw k > 1000000000)=false from decide_eq_false h2,Nh (by omega)]
   simp only [cond_true,cond_false,Option.bind_some]
   rw [show decide ((0:Int)≤(a:Int))=true from decide_eq_true (by omega),show decide ((a:Int)≤((a+k+1:Nat):Int))=true from decide_eq_true (by omega),show decide (((a+k+1:Nat):Int)≤(text.size:Int))=true from decide_eq_true (by omega),toList_inj]
   by_cases h3:ofBytes (IK (n+b*pw k))=text.extract a (a+k+1)
   ·rw [if_pos h3,decide_eq_true h3];rfl
   ·rw [if_neg h3,decide_eq_false h3];rfl
 ·obtain ⟨e1,e2,e3,_,_⟩:=n2 h
  rw [if_neg h,e1,e2,e3,show decide (b<128)=false from decide_eq_false h]
  rfl
theorem AAs {text:ByteArray} {a:Nat} (hs:text.size≤140737488351232) (ha:a≤text.size):∀ j k m n,k+j=5→j<m→0≤n→n<pw k→∃ r,Oe m (.c0 text a n (pw k) ((a+k:Nat):Int))=some r∧RV text a r:=by
 intro j
 induction j with
 | zero=>
  intro k m n hk hm _ _
  obtain ⟨m,rfl⟩:∃ q,m=q+1:=⟨m - 1,by omega⟩
  exact ⟨_,HAG hs ha (.inr (by omega)),.inl rfl⟩
 | succ j ih=>
  intro k m n hk hm h0 h1
  obtain ⟨m,rfl⟩:∃ q,m=q+1:=⟨m - 1,by omega⟩
  by_cases hi:a+k<text.size
  ·have hb:=Eh text ((a+k:Nat):Int)
   generalize hbe:bt text ((a+k:Nat):Int)=b at hb
   obtain ⟨n1,n2,_⟩:=Si (b:=b) (by omega:k<5) h0 h1 hb
   rw [IAG hs (by omega) hi h0 h1 hbe]
   split
   ·rename_i h
    split
    ·exact ⟨_,rfl,.inl rfl⟩
    ·split
     ·exact ⟨_,rfl,.inr ⟨_,_,rfl,(n1 h).2.2.2.1,by omega,by omega,by omega⟩⟩
     ·exact ⟨_,rfl,.inl rfl⟩
   ·rename_i h
    obtain ⟨_,_,_,e4,e5⟩:=n2 h
    exact ih (k+1) m _ (by omega) (by omega) e4 e5
  ·exact ⟨_,HAG hs ha (.inl (by omega)),.inl rfl⟩
theorem BAs {text:ByteArray} {a:Nat} {V:Int} (hs:text.size≤140737488351232) (hV0:0≤V) (hV:V≤1000000000) (hA:At text a (IK V)):∀ U k m n,IK U=(IK V).drop k→0≤U→n+pw k*U=V→0≤n→n<pw k→5<m+k→Oe m (.c0 text a n (pw k) ((a+k:Nat):Int))=some (V,((a+(IK V).length:Nat):Int),true):=by
 have h5:=EAd hV
 intro U
 induction U using IK.induct with
 | case1 U hU ih=>
  intro k m n e1 u0 e2 h0 h1 hm
  have hl:=congrArg List.length e1
  rw [List.length_drop] at hl
  have hp:=Xd U
  have hk:k<5:=by omega
  obtain ⟨m,rfl⟩:∃ q,m=q+1:=⟨m - 1,by omega⟩
  have hA':At text (a+k) (IK U):=by
   have:At text a ((IK V).take k++(IK V).drop k):=by rw [List.take_append_drop];exact hA
   have:=this.right
   rw [List.length_take,Nat.min_eq_left (by omega),←e1] at this
   exact this
  have e3:=e1
  rw [IK,if_pos hU] at hA' e3
  obtain ⟨hi,hb⟩:=hA'.head
  obtain ⟨n1,n2,_⟩:=Si (b:=128+U % 128) hk h0 h1 (by omega)
  obtain ⟨_,_,_,e4,e5⟩:=n2 (by omega)
  rw [IAG hs hk hi h0 h1 hb,if_neg (by omega)]
  refine ih (k+1) m _ ?_ (by omega) ?_ e4 e5 (by omega)
  ·rw [←List.drop_drop,←e3];rfl
  ·rw [GAG]
   rcases Zn hk with e | e | e | e | e <;> rw [e] at e2 ⊢ <;> omega
 | case2 U hU=>
  intro k m n e1 u0 e2 h0 h1 hm
  have hl:=congrArg List.length e1
  rw [List.length_drop] at hl
  have hp:=Xd U
  have hk:k<5:=by omega
  obtain ⟨m,rfl⟩:∃ q,m=q+1:=⟨m - 1,by omega⟩
  have hA':At text (a+k) (IK U):=by
   have:At text a ((IK V).take k++(IK V).drop k):=by rw [List.take_append_drop];exact hA
   have:=this.right
   rw [List.length_take,Nat.min_eq_left (by omega),←e1] at this
   exact this
  rw [J9 u0 (by omega)] at hA' hl
  simp only [List.length_singleton] at hl
  obtain ⟨hi,hb⟩:=hA'.head
  have e3:n+U*pw k=V:=by rw [Int.mul_comm];exact e2
  have e4:a+k+1=a+(IK V).length:=by omega
  rw [IAG hs hk hi h0 h1 hb,if_pos (by omega),e3,if_neg (by omega),e4,if_pos (hA.extract (Md V hV0)).symm]
theorem CAs {text:ByteArray} {a:Nat} (hs:text.size≤140737488351232) (ha:a≤text.size):∃ r,Ea text a=some r∧RV text a r:=by
 simp only [Ea,Y2,La,Option.bind_some]
 rw [show FN (a:Int) 0 (text.size:Int)=true from WX.2 ⟨by omega,by omega⟩]
 exact AAs hs ha 5 0 gas 0 rfl (gas_lt (by omega)) (by omega) (by rw [Oh];omega)
theorem SAS {text:ByteArray} {a:Nat} {V:Int} (hs:text.size≤140737488351232) (hV0:0≤V) (hV:V≤1000000000) (hA:At text a (IK V)):Ea text a=some (V,((a+(IK V).length:Nat):Int),true):=by
 have ha:a+(IK V).length≤text.size:=by
  rcases hA.size with h | h
  ·have:=Xd V;rw [h] at this;simp at this
  ·exact h
 simp only [Ea,Y2,La,Option.bind_some]
 rw [show FN (a:Int) 0 (text.size:Int)=true from WX.2 ⟨by omega,by omega⟩]
 exact BAs hs hV0 hV hA V 0 gas 0 (by simp) hV0 (by rw [Oh];omega) (by omega) (by rw [Oh];omega) (by have:=gas_lt (n:=5) (by omega);omega)
def Dn (s:Int):Int:=if s % 2=1 then xr (s / 2) 3558460437 else s / 2
def Zm:Nat→Int→Int
 | 0,s=>s
 | n+1,s=>Zm n (Dn s)
def Qr (s:Int) (l:List Int):Int:=l.foldl (fun s b=>Zm 8 (xr s b)) s
theorem DAs {s:Int} (h:R32 s):R32 (Dn s):=by
 unfold Dn;split
 ·exact Nr _ _
 ·unfold R32 at *;omega
theorem FAd:∀ (n:Nat) {s:Int},R32 s→R32 (Zm n s)
 | 0,_,h=>h
 | n+1,_,h=>FAd n (DAs h)
theorem GAd:∀ (l:List Int) {s:Int},R32 s→R32 (Qr s l)
 | [],_,h=>h
 | b::l,s,_=>GAd l (FAd 8 (Nr s b))
def Ja (l:List Int):Int:=Qr 4294967295 l
theorem Sr (l:List Int):R32 (Ja l):=GAd l (by unfold R32;omega)
theorem EAs (t:ByteArray) (i:Nat) (hi:i<t.size) (ht:t.size≤140737488351232):∀ (j k m:Nat) (s:Int),k+j=8→R32 s→Qg (m+j+1) (.c1 s t (i:Int) (k:Int))=Qg m (.c0 (Zm j s) t ((i+1:Nat):Int)):=by
 intro j
 induction j with
 | zero=>
  intro k m s hk hs
  have e:w64 ((i:Int)+1)=((i+1:Nat):Int):=by rw [w64_id (by omega) (by omega)];rfl
  rw [Qg]
  simp only [Gq,e]
  rw [NM (by simp;omega)]
  rfl
 | succ j ih=>
  intro k m s hk hs
  have e:w64 ((k:Int)+1)=((k+1:Nat):Int):=by rw [w64_id (by omega) (by omega)];rfl
  have h2:w32 (s.tdiv 2)=s / 2:=by
   obtain ⟨h1,h2⟩:=hs
   rw [Int.tdiv_eq_ediv_of_nonneg h1,Oa (by omega) (by omega)]
  have h3:s.tmod 2=s % 2:=Int.tmod_eq_emod_of_nonneg hs.1
  rw [show m+(j+1)+1=(m+j+1)+1 by omega,Qg]
  simp only [Gq,e,h2,h3,Ud]
  rw [TB (by simp;omega),Zm]
  by_cases h:s % 2=1
  ·rw [TB (by simp [h]),ih (k+1) m _ (by omega) (Nr _ _),Dn,if_pos h]
  ·rw [NM (by simp [h]),ih (k+1) m _ (by omega) (by unfold R32 at *;omega),Dn,if_neg h]
theorem FAs {t:ByteArray} {s:Int} (ht:t.size≤140737488351232):O3 s t=some (Qr s (bs t)):=by
 have hl:=bs_len t
 have key:∀ (j i m:Nat) (s:Int),i+j=t.size→Qg (m+10*j+1) (.c0 s t (i:Int))=some (Qr s ((bs t).drop i)):=by
  intro j
  induction j with
  | zero=>
   intro i m s h
   rw [Qg]
   simp only [Gq]
   rw [NM (by simp;omega),List.drop_of_length_le (by omega)];rfl
  | succ j ih=>
   intro i m s h
   have hb:=OZ (Dc t) i
   rw [show m+10*(j+1)+1=(m+10*j+1)+8+1+1 by omega,Qg]
   simp only [Gq,Ud]
   rw [TB (by simp;omega),TB (by simp;omega),Vd (by omega),Oa (by omega) (by omega)]
   have h1:=EAs t i (by omega) ht 8 0 (m+10*j+1) (xr s ((bs t).getD i 0)) (by omega) (Nr _ _)
   rw [show ((0:Nat):Int)=0 from rfl] at h1
   rw [h1,ih (i+1) m _ (by omega),drop_at (by omega:i<(bs t).length),getD_at (by omega)]
   rfl
 obtain ⟨m,hm⟩:∃ m,gas=m+10*t.size+1:=⟨gas - (10*t.size+1),by have:=gas_lt (n:=10*t.size+1) (by omega);omega⟩
 rw [O3,XAN,hm]
 have:=key t.size 0 m s (by omega)
 rw [List.drop_zero] at this
 exact this
theorem GAs {t:ByteArray} (ht:t.size≤140737488351232):U3 t=some (Ja (bs t)):=by
 rw [U3,ZAN,FAs ht];rfl
theorem HAs {x:Int} (h:R32 x):V3 x=some (ofBytes (four x)):=by
 obtain ⟨h1,h2⟩:=h
 have e1:Int.fdiv x (2 ^ (Min.min (24:Int).toNat (IntKind.bits IntKind.u32)))=x / 16777216:=Int.fdiv_eq_ediv_of_nonneg _ (by decide)
 have e2:Int.fdiv x (2 ^ (Min.min (16:Int).toNat (IntKind.bits IntKind.u32)))=x / 65536:=Int.fdiv_eq_ediv_of_nonneg _ (by decide)
 have e3:Int.fdiv x (2 ^ (Min.min (8:Int).toNat (IntKind.bits IntKind.u32)))=x / 256:=Int.fdiv_eq_ediv_of_nonneg _ (by decide)
 simp only [V3,BAO,e1,e2,e3,w8_mod,four]
 rw [show x / 16777216 % 256=x / 16777216 by omega]
def xb (x y:Int):Int:=w8 (((BitVec.toNat ((BitVec.ofInt (IntKind.bits IntKind.u8) x) ^^^ (BitVec.ofInt (IntKind.bits IntKind.u8) y))):Nat):Int)
theorem JAG (x y:Int):w8 (((BitVec.toNat ((BitVec.ofInt (IntKind.bits IntKind.u8) x) ^^^ (BitVec.ofInt (IntKind.bits IntKind.u8) y))):Nat):Int)=xb x y:=rfl
theorem HAd (x y:Int):0≤xb x y∧xb x y≤255:=by unfold xb;rw [w8_mod];omega
theorem IAs {x:Int} (h:0≤x∧x≤255) (y:Int):xb (xb x y) y=x:=by
 have e:∀ (a b:BitVec 8),BitVec.ofInt 8 (((a ^^^ b).toNat:Nat):Int) ^^^ b=a:=by
  intro a b
  rw [BitVec.ofInt_natCast,BitVec.ofNat_toNat,BitVec.setWidth_eq,BitVec.xor_assoc,BitVec.xor_self,BitVec.xor_zero]
 have h8:∀ (a b:BitVec 8),w8 (((a ^^^ b).toNat:Nat):Int)=(((a ^^^ b).toNat:Nat):Int):=fun a b=>by
  have:=(a ^^^ b).isLt;rw [w8_id (by omega) (by omega)]
 unfold xb
 show w8 (((BitVec.ofInt 8 (w8 (((BitVec.ofInt 8 x ^^^ BitVec.ofInt 8 y).toNat:Nat):Int)) ^^^ BitVec.ofInt 8 y).toNat:Nat):Int)=x
 rw [h8 (BitVec.ofInt 8 x),e,BitVec.toNat_ofInt,w8_mod]
 omega
def QZ (x:Int) (l:List Int):List Int:=l.map fun b=>xb b x
theorem KAG (x:Int) (l:List Int):(QZ x l).length=l.length:=by simp [QZ]
theorem LAG (x:Int) (l:List Int):ZX (QZ x l):=fun n hn=>by
 simp only [QZ,List.mem_map] at hn
 obtain ⟨b,_,rfl⟩:=hn
 exact HAd _ _
def QY (k:List Int):List Int:=k++List.replicate (64 - k.length) 0
def Ee (k:List Int):List Int:=if 64<k.length then QY (Cb k) else QY k
theorem JAs (k:List Int):(Ee k).length=64:=by
 unfold Ee QY
 split
 ·rw [List.length_append,List.length_replicate,GAS]
 ·rw [List.length_append,List.length_replicate];omega
def Fe (k s:List Int):List Int:=Cb (QZ 92 (Ee k)++Cb (QZ 54 (Ee k)++s))
def Bf (k s:ByteArray):ByteArray:=ofBytes (Fe (bs k) (bs s))
theorem Yr (k s:List Int):(Fe k s).length=32:=GAS _
theorem L9 (k s:List Int):ZX (Fe k s):=NAc _
theorem IAd (k s:ByteArray):bs (Bf k s)=Fe (bs k) (bs s):=SN (L9 _ _)
theorem JAd (k s:ByteArray):(Bf k s).size=32:=by rw [Bf,ofBytes_size,Yr]
theorem KAs {α:Type} (f:α→α) {l:List α} {i:Nat} (h:i<l.length):((l.take i).map f++l.drop i).set i (f l[i])=(l.take (i+1)).map f++l.drop (i+1):=by
 rw [drop_at h,Qn (by simp;omega),take_at h,List.map_append,List.append_assoc]
 rfl
theorem LAs {f:Int→Int} {l:List Int} {i:Nat} (h:i<l.length):((l.take i).map f++l.drop i).getD i 0=l[i]:=by
 rw [Ur (by simp;omega)]
 simp [List.getD,Nat.min_eq_left (Nat.le_of_lt h),h]
def Df (k v:List Int):Nat→List Int
 | 0=>[]
 | i+1=>Df k v i++Fe k (109::(v++[(i:Int)]))
theorem Ph (k v:List Int) (i:Nat):(Df k v i).length=32*i:=by
 induction i with
 | zero=>rfl
 | succ i ih=>rw [Df,List.length_append,ih,Yr];omega
theorem MAG (k v:List Int) (i:Nat):ZX (Df k v i):=by
 induction i with
 | zero=>intro n hn;cases hn
 | succ i ih=>
  intro n hn
  rcases List.mem_append.1 hn with hn | hn
  ·exact ih n hn
  ·exact L9 _ _ n hn
def BZ (k v:List Int) (n:Nat):List Int:=(Df k v ((n+31) / 32)).take n
theorem Ef (k v:List Int) (n:Nat):(BZ k v n).length=n:=by rw [BZ,List.length_take,Ph];omega
theorem TAS (k v:List Int) (n:Nat):ZX (BZ k v n):=fun x hx=>MAG _ _ _ x (List.mem_of_mem_take hx)
def maskOk (num:Int) (n:Int):Bool:=FN num 0 1000000000 && FN n 0 8000
def Zr (k:ByteArray) (num:Int) (n:Int):ByteArray×Bool:=bif maskOk num n then (ofBytes (BZ (bs k) (IK num) n.toNat),true) else (⟨#[]⟩,false)
theorem Bo:∀ {n:Int},0≤n→ZX (IK n):=by
 intro n
 induction n using IK.induct with
 | case1 n hn ih=>
  intro h x hx
  rw [IK,if_pos hn] at hx
  rcases List.mem_cons.1 hx with rfl | hx
  ·omega
  ·exact ih (by omega) x hx
 | case2 n hn=>
  intro h x hx
  rw [IK,if_neg hn] at hx
  rw [List.mem_singleton] at hx
  subst hx
  rw [w8_mod];omega
theorem KAd (k:ByteArray) {num:Int} (hn:0≤num) (hn2:num≤1000000000) (i:Nat) (hi:i≤255) :
  Bf k (((⟨#[109]⟩:ByteArray)++ofBytes (IK num))++ofBytes [(i:Int)])=ofBytes (Fe (bs k) (109::(IK num++[(i:Int)]))):=by
 have e:bs (⟨#[109]⟩:ByteArray)=[109]:=rfl
 rw [Bf,PY,PY,SN (Bo hn),e,SN (fun x hx=>by rw [List.mem_singleton] at hx;omega)]
 rfl
def FY (a b:List Int):List Int:=List.zipWith xb a b
theorem NAG {a b:List Int} (h:a.length≤b.length):(FY a b).length=a.length:=by rw [FY,List.length_zipWith];omega
theorem LAd (a b:List Int):ZX (FY a b):=by
 intro n hn
 rw [FY,List.mem_iff_getElem] at hn
 obtain ⟨i,hi,rfl⟩:=hn
 rw [List.getElem_zipWith]
 exact HAd _ _
theorem UAS {α:Type} (f:α→α→α):∀ (a b:List α),List.zipWith f a (b.take a.length)=List.zipWith f a b
 | [],_=>rfl
 | _::_,[]=>rfl
 | x::a,y::b=>by rw [List.length_cons,List.take_succ_cons,List.zipWith_cons_cons,List.zipWith_cons_cons,UAS f a b]
theorem MAd {a b:List Int} {i:Nat} (h:i<a.length) (h2:i<b.length):(List.zipWith xb (a.take i) (b.take i)++a.drop i).set i (xb a[i] (b.getD i 0))=List.zipWith xb (a.take (i+1)) (b.take (i+1))++a.drop (i+1):=by
 rw [drop_at h,Qn (by simp;omega),take_at h,take_at h2,getD_at h2,List.zipWith_append (by simp;omega),List.append_assoc]
 rfl
theorem NAd {a b:List Int} {i:Nat} (h:i<a.length) (h2:i<b.length):(List.zipWith xb (a.take i) (b.take i)++a.drop i).getD i 0=a[i]:=by
 rw [Ur (by simp;omega)]
 simp [List.getD,Nat.min_eq_left (Nat.le_of_lt h),Nat.min_eq_left (Nat.le_of_lt h2),h]
def VZ (k:List Int) (num:Int) (s:List Int):List Int:=(Fe k (116::(IK num++s))).take 16
theorem VAS (k:List Int) (num:Int) (s:List Int):(VZ k num s).length=16:=by rw [VZ,List.length_take,Yr];rfl
theorem N9 (k:List Int) (num:Int) (s:List Int):ZX (VZ k num s):=fun x hx=>L9 _ _ x (List.mem_of_mem_take hx)
def Qa (k:List Int) (num:Int) (s:List Int):List Int:=FY s (BZ k (IK num) s.length)++VZ k num (FY s (BZ k (IK num) s.length))
def AAv (k:ByteArray) (num:Int) (s:ByteArray):ByteArray×Bool:=bif maskOk num s.size then (ofBytes (Qa (bs k) num (bs s)),true) else (⟨#[]⟩,false)
def RX (k:ByteArray) (num:Int) (t:ByteArray):ByteArray×Bool:=
 bif decide ((t.size:Int)<16) || !(maskOk num ((t.size:Int) - 16)) then (⟨#[]⟩,false)
 else bif VZ (bs k) num ((bs t).take (t.size - 16)) == (bs t).drop (t.size - 16) then (ofBytes (FY ((bs t).take (t.size - 16)) (BZ (bs k) (IK num) (t.size - 16))),true)
 else (⟨#[]⟩,false)
theorem OAd {num n:Int}:maskOk num n=true↔(0≤num∧num≤1000000000)∧0≤n∧n≤8000:=by rw [maskOk,Bool.and_eq_true,WX,WX]
def Ji (l:List Int):List Int:=IK (l.length:Int)++(four (Ja l)++l)
def frameT (t:ByteArray):ByteArray×Bool:=bif FN (t.size:Int) 1 9000 then (ofBytes (Ji (bs t)),true) else (⟨#[]⟩,false)
theorem XAS {l:List Int} (h:ZX l):ZX (Ji l):=by
 intro x hx
 rcases List.mem_append.1 hx with hx | hx
 ·exact Bo (by omega) x hx
 ·rcases List.mem_append.1 hx with hx | hx
  ·exact En (Sr l) x hx
  ·exact h x hx
theorem SAb (t:ByteArray):(ofBytes (IK (t.size:Int))++ofBytes (four (Ja (bs t))))++t=ofBytes (Ji (bs t)):=by
 apply Ia
 rw [PY,PY,SN (Bo (by omega)),SN (En (Sr _)),SN (XAS (Dc t)),Ji,bs_len,List.append_assoc]
theorem TAa {t:ByteArray} (h:t.size≤140737488351232):(frameT t).1.size≤t.size+14:=by
 rw [frameT]
 cases FN (t.size:Int) 1 9000
 ·exact Nat.zero_le _
 ·rw [cond_true,ofBytes_size,Ji,List.length_append,List.length_append,bs_len]
  have:(four (Ja (bs t))).length=4:=rfl
  have:=PZ (n:=(t.size:Int)) (by omega)
  omega
theorem UAa {t:ByteArray} (h:t.size≤140737488351232):Bd t=some (frameT t):=by
 rw [Bd,CAO,La,Option.bind_some,frameT]
 cases h1:FN (t.size:Int) 1 9000
 ·rfl
 ·rw [WX] at h1
  have:=PZ (n:=(t.size:Int)) (by omega)
  rw [NM (by rfl),Nh (by omega),Option.bind_some,GAs h,Option.bind_some,HAs (Sr _),Option.bind_some,TB (by rw [ofBytes_size,ofBytes_size,decide_eq_true_eq];have:(four (Ja (bs t))).length=4:=rfl;omega)]
  rw [TB (by rw [ByteArray.size_append,ofBytes_size,ofBytes_size,decide_eq_true_eq];have:(four (Ja (bs t))).length=4:=rfl;omega),SAb,cond_true]
theorem Za (x a b:Int):QX x a b=some (FN x a b):=by
 show (bif decide (a≤x) then some (decide (x≤b)) else some false)=some (FN x a b)
 unfold FN;cases decide (a≤x) <;> rfl
theorem MAs {k:Nat} (h:k<5):(2:Int) ^ (Min.min (w64 (7*(k:Int))).toNat (IntKind.bits IntKind.i64))=pw k∧w64 (7*(k:Int))=7*(k:Int):=by
 refine ⟨?_,w64_id (by omega) (by omega)⟩
 rcases (by omega:k=0∨k=1∨k=2∨k=3∨k=4) with rfl | rfl | rfl | rfl | rfl <;> kernel_rfl
theorem OAG {text:ByteArray} {a k m:Nat} {n:Int} (hs:text.size≤140737488351232) (ha:a≤text.size) (hk:k≤5) (hi:text.size≤a+k∨5≤k):Qe (m+1) (.c0 text a n k)=some Ld:=by
 simp only [Qe,NAF]
 by_cases h:k<5
 ·rw [show decide ((k:Int)<5)=true from decide_eq_true (by omega),w64_id (n:=(a:Int)+k) (by omega) (by omega),show decide ((a:Int)+k<(text.size:Int))=false from decide_eq_false (by omega)]
  rfl
 ·rw [show decide ((k:Int)<5)=false from decide_eq_false (by omega)]
  rfl
theorem PAG {text:ByteArray} {a k m:Nat} {n b:Int} (hs:text.size≤140737488351232) (hk:k<5) (hi:a+k<text.size) (h0:0≤n) (h1:n<pw k) (hb:bt text ((a+k:Nat):Int)=b) :
  Qe (m+1) (.c0 text a n k)=if b<128 then (if b=0∧0<k∨n+b*pw k > 1000000000 then some Ld else some (n+b*pw k,((a+k+1:Nat):Int),true)) else Qe m (.c0 text a (n+(b - 128)*pw k) ((k+1:Nat):Int)):=by
 have hb':=Eh text ((a+k:Nat):Int)
 rw [hb] at hb'
 obtain ⟨n1,n2,n3⟩:=Si hk h0 h1 hb'
 obtain ⟨p1,p2⟩:=MAs hk
 rw [p2] at p1
 have ha:w64 ((a:Int)+(k:Int))=((a+k:Nat):Int):=by rw [w64_id (by omega) (by omega)];omega
 have hw:w64 (((a+k:Nat):Int)+1)=((a+k+1:Nat):Int):=by rw [w64_id (by omega) (by omega)];omega
 have hw2:w64 ((k:Int)+1)=((k+1:Nat):Int):=by rw [w64_id (by omega) (by omega)];omega
 simp only [Qe,NAF,ha,hb,w64_id (n:=b) (by omega) (by omega),p2,p1,hw,hw2]
 rw [show decide (((a+k:Nat):Int)<(text.size:Int))=true from decide_eq_true (by omega),show decide ((k:Int)<5)=true from decide_eq_true (by omega),show decide ((0:Int)≤7*(k:Int))=true from decide_eq_true (by omega),
  show decide ((0:Int)≤((a+k:Nat):Int))=true from decide_eq_true (by omega)]
 simp only [Bool.and_self,cond_true]
 by_cases h:b<128
 ·obtain ⟨e1,e2,e3,e4,_⟩:=n1 h
  rw [if_pos h,e1,e2,e3,show decide (b<128)=true from decide_eq_true h]
  simp only [cond_true]
  by_cases hz:b=0
  ·rw [show (b == 0)=true from beq_iff_eq.2 hz]
   by_cases hk0:0<k
   ·rw [if_pos (.inl ⟨hz,hk0⟩),show decide ((k:Int) > 0)=true from decide_eq_true (by omega)];rfl
   ·rw [show decide ((k:Int) > 0)=false from decide_eq_false (by omega)]
    by_cases h2:n+b*pw k > 1000000000
    ·rw [if_pos (.inr h2),show decide (n+b*pw k > 1000000000)=true from decide_eq_true h2];rfl
    ·rw [if_neg (by omega),show decide (n+b*pw k > 1000000000)=false from decide_eq_false h2];rfl
  ·rw [show (b == 0)=false from beq_eq_false_iff_ne.2 hz]
   by_cases h2:n+b*pw k > 1000000000
   ·rw [if_pos (.inr h2),show decide (n+b*pw k > 1000000000)=true from decide_eq_true h2];rfl
   ·rw [if_neg (by omega),show decide (n+b*pw k > 1000000000)=false from decide_eq_false h2];rfl
 ·obtain ⟨e1,e2,e3,_,_⟩:=n2 h
  rw [if_neg h,e1,e2,e3,show decide (b<128)=false from decide_eq_false h]
  rfl
theorem NAs {text:ByteArray} {a:Nat} (hs:text.size≤140737488351232) (ha:a≤text.size):∀ j k m n,k+j=5→j<m→0≤n→n<pw k→∃ r,Qe m (.c0 text a n k)=some r∧RV text a r:=by
 intro j
 induction j with
 | zero=>
  intro k m n hk hm _ _
  obtain ⟨m,rfl⟩:∃ q,m=q+1:=⟨m - 1,by omega⟩
  exact ⟨_,OAG hs ha (by omega) (.inr (by omega)),.inl rfl⟩
 | succ j ih=>
  intro k m n hk hm h0 h1
  obtain ⟨m,rfl⟩:∃ q,m=q+1:=⟨m - 1,by omega⟩
  by_cases hi:a+k<text.size
  ·have hb:=Eh text ((a+k:Nat):Int)
   generalize hbe:bt text ((a+k:Nat):Int)=b at hb
   obtain ⟨n1,n2,_⟩:=Si (b:=b) (by omega:k<5) h0 h1 hb
   rw [PAG hs (by omega) hi h0 h1 hbe]
   split
   ·rename_i h
    split
    ·exact ⟨_,rfl,.inl rfl⟩
    ·exact ⟨_,rfl,.inr ⟨_,_,rfl,(n1 h).2.2.2.1,by omega,by omega,by omega⟩⟩
   ·rename_i h
    obtain ⟨_,_,_,e4,e5⟩:=n2 h
    exact ih (k+1) m _ (by omega) (by omega) e4 e5
  ·exact ⟨_,OAG hs ha (by omega) (.inl (by omega)),.inl rfl⟩
theorem OAs {text:ByteArray} {a:Nat} {V:Int} (hs:text.size≤140737488351232) (hV:V≤1000000000) (hA:At text a (IK V)):∀ U k m n,IK U=(IK V).drop k→0≤U→(0<k→0<U)→n+pw k*U=V→0≤n→n<pw k→5<m+k→Qe m (.c0 text a n k)=some (V,((a+(IK V).length:Nat):Int),true):=by
 have h5:=EAd hV
 intro U
 induction U using IK.induct with
 | case1 U hU ih=>
  intro k m n e1 u0 uz e2 h0 h1 hm
  have hl:=congrArg List.length e1
  rw [List.length_drop] at hl
  have hp:=Xd U
  have hk:k<5:=by omega
  obtain ⟨m,rfl⟩:∃ q,m=q+1:=⟨m - 1,by omega⟩
  have hA':At text (a+k) (IK U):=by
   have:At text a ((IK V).take k++(IK V).drop k):=by rw [List.take_append_drop];exact hA
   have:=this.right
   rw [List.length_take,Nat.min_eq_left (by omega),←e1] at this
   exact this
  have e3:=e1
  rw [IK,if_pos hU] at hA' e3
  obtain ⟨hi,hb⟩:=hA'.head
  obtain ⟨n1,n2,_⟩:=Si (b:=128+U % 128) hk h0 h1 (by omega)
  obtain ⟨_,_,_,e4,e5⟩:=n2 (by omega)
  rw [PAG hs hk hi h0 h1 hb,if_neg (by omega)]
  refine ih (k+1) m _ ?_ (by omega) (fun _=>by omega) ?_ e4 e5 (by omega)
  ·rw [←List.drop_drop,←e3];rfl
  ·rw [GAG]
   rcases Zn hk with e | e | e | e | e <;> rw [e] at e2 ⊢ <;> omega
 | case2 U hU=>
  intro k m n e1 u0 uz e2 h0 h1 hm
  have hl:=congrArg List.length e1
  rw [List.length_drop] at hl
  have hp:=Xd U
  have hk:k<5:=by omega
  obtain ⟨m,rfl⟩:∃ q,m=q+1:=⟨m - 1,by omega⟩
  have hA':At text (a+k) (IK U):=by
   have:At text a ((IK V).take k++(IK V).drop k):=by rw [List.take_append_drop];exact hA
   have:=this.right
   rw [List.length_take,Nat.min_eq_left (by omega),←e1] at this
   exact this
  rw [J9 u0 (by omega)] at hA' hl
  simp only [List.length_singleton] at hl
  obtain ⟨hi,hb⟩:=hA'.head
  have e3:n+U*pw k=V:=by rw [Int.mul_comm];exact e2
  have e4:a+k+1=a+(IK V).length:=by omega
  rw [PAG hs hk hi h0 h1 hb,if_pos (by omega),e3,if_neg (by omega),e4]
theorem IAR {text:ByteArray} {a:Nat} (hs:text.size≤140737488351232) (ha:a≤text.size):∃ r,TY text a=some r∧RV text a r:=by
 simp only [TY,L8,Za,Option.bind_some]
 rw [show FN (a:Int) 0 (text.size:Int)=true from WX.2 ⟨by omega,by omega⟩]
 exact NAs hs ha 5 0 gas 0 rfl (gas_lt (by omega)) (by omega) (by rw [Oh];omega)
theorem P8 {text:ByteArray} {a:Nat} {V:Int} (hs:text.size≤140737488351232) (hV0:0≤V) (hV:V≤1000000000) (hA:At text a (IK V)):TY text a=some (V,((a+(IK V).length:Nat):Int),true):=by
 have ha:a+(IK V).length≤text.size:=by
  rcases hA.size with h | h
  ·have:=Xd V;rw [h] at this;simp at this
  ·exact h
 simp only [TY,L8,Za,Option.bind_some]
 rw [show FN (a:Int) 0 (text.size:Int)=true from WX.2 ⟨by omega,by omega⟩]
 exact OAs hs hV hA V 0 gas 0 (by simp) hV0 (fun h=>absurd h (Nat.lt_irrefl 0)) (by rw [Oh];omega) (by omega) (by rw [Oh];omega) (by have:=gas_lt (n:=5) (by omega);omega)
def RVx (text:ByteArray) (a:Nat) (r:Int×Int×Bool):Prop:=r=Ld∨∃ v:Int,r=(v,((a+(IK v).length:Nat):Int),true)∧0≤v∧v≤1000000000∧At text a (IK v)
theorem PAs {text:ByteArray} {a:Nat} (hs:text.size≤140737488351232) (ha:a≤text.size):∀ j k m n,k+j=5→j<m→0≤n→n<pw k→∃ r,Oe m (.c0 text a n (pw k) ((a+k:Nat):Int))=some r∧RVx text a r:=by
 intro j
 induction j with
 | zero=>
  intro k m n hk hm _ _
  obtain ⟨m,rfl⟩:∃ q,m=q+1:=⟨m - 1,by omega⟩
  exact ⟨_,HAG hs ha (.inr (by omega)),.inl rfl⟩
 | succ j ih=>
  intro k m n hk hm h0 h1
  obtain ⟨m,rfl⟩:∃ q,m=q+1:=⟨m - 1,by omega⟩
  by_cases hi:a+k<text.size
  ·have hb:=Eh text ((a+k:Nat):Int)
   generalize hbe:bt text ((a+k:Nat):Int)=b at hb
   obtain ⟨n1,n2,_⟩:=Si (b:=b) (by omega:k<5) h0 h1 hb
   rw [IAG hs (by omega) hi h0 h1 hbe]
   split
   ·rename_i h
    have hv0:=(n1 h).2.2.2.1
    split
    ·exact ⟨_,rfl,.inl rfl⟩
    ·split
     ·rename_i h2
      have h3:=congrArg bs h2
      rw [SN (Md _ hv0),JZ] at h3
      have hl:=congrArg List.length h3
      rw [List.length_drop,List.length_take,bs_len,Nat.min_eq_left (by omega)] at hl
      refine ⟨_,rfl,.inr ⟨_,by rw [show a+k+1=a+(IK (n+b*pw k)).length by omega],hv0,by omega,(bs text).drop (a+k+1),?_⟩⟩
      rw [h3,List.drop_take,show a+k+1=a+(a+k+1 - a) by omega,←List.drop_drop,Nat.add_sub_cancel_left,List.take_append_drop]
     ·exact ⟨_,rfl,.inl rfl⟩
   ·rename_i h
    obtain ⟨_,_,_,e4,e5⟩:=n2 h
    exact ih (k+1) m _ (by omega) (by omega) e4 e5
  ·exact ⟨_,HAG hs ha (.inl (by omega)),.inl rfl⟩
theorem PAd {text:ByteArray} {p:Nat} (hp:p<text.size) {l:List Int} (h:At text (p+1) l):At text p (bt text (p:Int)::l):=by
 obtain ⟨r,hr⟩:=h
 refine ⟨r,?_⟩
 rw [drop_at (by rw [bs_len];exact hp),hr,ZAF hp]
 rfl
theorem QAs {text:ByteArray} {a:Nat} (hs:text.size≤140737488351232) (ha:a≤text.size):∀ j k m n,k+j=5→j<m→0≤n→n<pw k→∃ r,Qe m (.c0 text a n k)=some r∧(r=Ld∨∃ U:Int,r=(n+pw k*U,((a+k+(IK U).length:Nat):Int),true)∧0≤U∧(0<k→0<U)∧n+pw k*U≤1000000000∧At text (a+k) (IK U)):=by
 intro j
 induction j with
 | zero=>
  intro k m n hk hm _ _
  obtain ⟨m,rfl⟩:∃ q,m=q+1:=⟨m - 1,by omega⟩
  exact ⟨_,OAG hs ha (by omega) (.inr (by omega)),.inl rfl⟩
 | succ j ih=>
  intro k m n hk hm h0 h1
  obtain ⟨m,rfl⟩:∃ q,m=q+1:=⟨m - 1,by omega⟩
  by_cases hi:a+k<text.size
  ·have hb:=Eh text ((a+k:Nat):Int)
   generalize hbe:bt text ((a+k:Nat):Int)=b at hb
   obtain ⟨n1,n2,_⟩:=Si (b:=b) (by omega:k<5) h0 h1 hb
   rw [PAG hs (by omega) hi h0 h1 hbe]
   split
   ·rename_i h
    split
    ·exact ⟨_,rfl,.inl rfl⟩
    ·rename_i h2
     have e1:=J9 hb.1 (by omega:b≤127)
     refine ⟨_,rfl,.inr ⟨b,by rw [e1,Int.mul_comm b (pw k)];rfl,hb.1,fun hk0=>by omega,by rw [Int.mul_comm (pw k) b];omega,?_⟩⟩
     rw [e1,←hbe]
     exact PAd hi ⟨_,rfl⟩
   ·rename_i h
    obtain ⟨_,_,_,e4,e5⟩:=n2 h
    obtain ⟨r,hr,hR⟩:=ih (k+1) m _ (by omega) (by omega) e4 e5
    refine ⟨r,hr,?_⟩
    rcases hR with hR | ⟨U,hR,hU,hU0,hUb,hA⟩
    ·exact .inl hR
    ·have hU1:=hU0 (by omega)
     have e6:IK (b - 128+128*U)=b::IK U:=by
      rw [IK,if_pos (by omega),show (b - 128+128*U) / 128=U by omega,show 128+(b - 128+128*U) % 128=b by omega]
     have e7:n+(b - 128)*pw k+pw (k+1)*U=n+pw k*(b - 128+128*U):=by
      rw [GAG,Int.mul_add,Int.mul_comm (b - 128) (pw k),←Int.mul_assoc];omega
     refine .inr ⟨b - 128+128*U,?_,by omega,fun _=>by omega,by rw [←e7];exact hUb,?_⟩
     ·rw [hR,e6,e7,List.length_cons,show a+(k+1)+(IK U).length=a+k+((IK U).length+1) by omega]
     ·rw [e6,←hbe]
      exact PAd hi hA
  ·exact ⟨_,OAG hs ha (by omega) (.inl (by omega)),.inl rfl⟩
theorem YAS {text:ByteArray} {a:Nat} (hs:text.size≤140737488351232) (ha:a≤text.size):∃ r,Ea text a=some r∧RVx text a r:=by
 simp only [Ea,Y2,La,Option.bind_some]
 rw [show FN (a:Int) 0 (text.size:Int)=true from WX.2 ⟨by omega,by omega⟩]
 exact PAs hs ha 5 0 gas 0 rfl (gas_lt (by omega)) (by omega) (by rw [Oh];omega)
theorem RAs {text:ByteArray} {a:Nat} (hs:text.size≤140737488351232) (ha:a≤text.size):∃ r,TY text a=some r∧RVx text a r:=by
 simp only [TY,L8,Za,Option.bind_some]
 rw [show FN (a:Int) 0 (text.size:Int)=true from WX.2 ⟨by omega,by omega⟩]
 obtain ⟨r,hr,hR⟩:=QAs hs ha 5 0 gas 0 rfl (gas_lt (by omega)) (by omega) (by rw [Oh];omega)
 refine ⟨r,hr,?_⟩
 rcases hR with hR | ⟨U,hR,hU,_,hUb,hA⟩
 ·exact .inl hR
 ·rw [Oh,Int.zero_add,Int.one_mul] at hR hUb
  exact .inr ⟨U,hR,hU,hUb,hA⟩
noncomputable def KY (text:ByteArray) (a:Nat):Int×Int×Bool:=(Ea text a).getD Ld
theorem SAs {text:ByteArray} {a:Nat} (hs:text.size≤140737488351232) (ha:a≤text.size):Ea text a=some (KY text a):=by
 obtain ⟨r,hr,_⟩:=YAS hs ha
 rw [KY,hr];rfl
theorem TAn {text:ByteArray} {a:Nat} (hs:text.size≤140737488351232) (ha:a≤text.size):TY text a=some (KY text a):=by
 obtain ⟨r,hr,hR⟩:=YAS hs ha
 obtain ⟨r',hr',hR'⟩:=RAs hs ha
 have e:KY text a=r:=by rw [KY,hr];rfl
 rw [e]
 rcases hR with rfl | ⟨v,rfl,h0,h1,hA⟩
 ·rcases hR' with rfl | ⟨v,rfl,h0,h1,hA⟩
  ·exact hr'
  ·rw [SAS hs h0 h1 hA] at hr
   have h2:true=false:=congrArg (fun x=>(Option.getD x Ld).2.2) hr
   cases h2
 ·exact P8 hs h0 h1 hA
theorem AAS {text:ByteArray} {a:Nat} (hs:text.size≤140737488351232) (ha:a≤text.size):RVx text a (KY text a):=by
 obtain ⟨r,hr,hR⟩:=YAS hs ha
 have e:KY text a=r:=by rw [KY,hr];rfl
 rw [e];exact hR
theorem BAv {text:ByteArray} {a:Nat} {V:Int} (hs:text.size≤140737488351232) (hV0:0≤V) (hV:V≤1000000000) (hA:At text a (IK V)):KY text a=(V,((a+(IK V).length:Nat):Int),true):=by
 rw [KY,SAS hs hV0 hV hA];rfl
noncomputable def Qb (file:ByteArray) (a:Nat):Option (ByteArray×Nat):=
 bif (KY file a).2.2 && (FN (KY file a).1 1 9000 && (decide ((KY file a).1≤(file.size:Int) - (KY file a).2.1 - 4) &&
  (bs (file.extract (KY file a).2.1.toNat ((KY file a).2.1+4).toNat) == four (Ja (bs (file.extract ((KY file a).2.1+4).toNat ((KY file a).2.1+4+(KY file a).1).toNat))))))
 then some (file.extract ((KY file a).2.1+4).toNat ((KY file a).2.1+4+(KY file a).1).toNat,((KY file a).2.1+4+(KY file a).1).toNat) else none
noncomputable def OY:Nat→ByteArray→Nat→List ByteArray×Nat
 | 0,_,a=>([],a)
 | j+1,file,a=>match Qb file a with
  | none=>([],a)
  | some p=>(p.1::(OY j file p.2).1,(OY j file p.2).2)
noncomputable def Ob (file:ByteArray):List ByteArray×Int:=bif decide ((file.size:Int) > 20000) then ([],0) else ((OY (file.size+1) file 0).1,((OY (file.size+1) file 0).2:Int))
theorem OAF {file:ByteArray} {a:Nat} (hs:file.size≤140737488351232) (ha:a≤file.size):(Qb file a=none)∨∃ (v:Int) (q:Nat),KY file a=(v,(q:Int),true)∧a<q∧q=a+(IK v).length∧1≤v∧v≤9000∧q+4+v.toNat≤file.size∧At file a (IK v)∧
  bs (file.extract q (q+4))=four (Ja (bs (file.extract (q+4) (q+4+v.toNat))))∧Qb file a=some (file.extract (q+4) (q+4+v.toNat),q+4+v.toNat):=by
 rw [Qb]
 rcases AAS hs ha with h | ⟨v,h,h0,h1,hA⟩
 ·left;rw [h];rfl
 ·rw [h]
  have hp:=Xd v
  have hsz:=hA.size.resolve_left (by intro h;rw [h] at hp;simp at hp)
  generalize hq:a+(IK v).length=q at hsz
  simp only [Bool.true_and]
  cases h2:FN v 1 9000
  ·left;rfl
  ·rw [WX] at h2
   by_cases h3:v≤(file.size:Int) - (q:Int) - 4
   ·rw [decide_eq_true h3]
    have e1:((q:Int)).toNat=q:=Int.toNat_natCast q
    have e2:((q:Int)+4).toNat=q+4:=by omega
    have e3:((q:Int)+4+v).toNat=q+4+v.toNat:=by omega
    rw [e1,e2,e3]
    cases h4:(bs (file.extract q (q+4)) == four (Ja (bs (file.extract (q+4) (q+4+v.toNat)))))
    ·left;rfl
    ·right
     exact ⟨v,q,rfl,by omega,hq.symm,by omega,by omega,by omega,hA,beq_iff_eq.1 h4,rfl⟩
   ·left;rw [decide_eq_false h3];rfl
theorem RAG (f:ByteArray) {a b c:Nat} (h:a≤b) (h2:b≤c) (h3:c≤f.size):bs (f.extract a c)=bs (f.extract a b)++bs (f.extract b c):=by
 rw [JZ,JZ,JZ,List.drop_take,List.drop_take,List.drop_take]
 rw [show (bs f).drop b=((bs f).drop a).drop (b - a) by rw [List.drop_drop];congr 1;omega]
 rw [show c - a=(b - a)+(c - b) by omega,List.take_add]
theorem IAm {f:ByteArray} (hf:f.size≤140737488351232):Yl f=some (Ob f):=by
 rw [Yl,DAO,Ob]
 by_cases h0:20000<f.size
 ·rw [TB (by simp;omega),TB (by simp;omega)]
 ·rw [NM (by simp;omega),NM (by simp;omega)]
  have key:∀ (j a m:Nat) (out:List ByteArray),a≤f.size→f.size<a+j→out.length≤a→DAE (m+j+1) (.c0 f (a:Int) out)=some (out++(OY j f a).1,((OY j f a).2:Int)):=by
   intro j
   induction j with
   | zero=>intro a m out ha hj;omega
   | succ j ih=>
    intro a m out ha hj ho
    rw [show m+(j+1)+1=(m+j+1)+1 by omega,DAE]
    simp only [EAO,OY]
    by_cases he:a=f.size
    ·subst he
     rw [NM (by simp)]
     rcases OAF hf (Nat.le_refl _) with h | ⟨v,q,_,_,hq,h1,_,h3,_⟩
     ·rw [h,List.append_nil]
     ·omega
    ·rw [TB (by simp;omega),SAs hf ha,Option.bind_some]
     rcases AAS hf ha with h | ⟨v,h,hv0,hv1,hA⟩
     ·rw [show Qb f a=none by rw [Qb,h];rfl,h]
      rw [List.append_nil];rfl
     ·have hp:=Xd v
      have hsz:=hA.size.resolve_left (by intro h;rw [h] at hp;simp at hp)
      have hn:=OAF hf ha
      have hex:bs (f.extract a (a+(IK v).length))=IK v:=by rw [hA.extract (Md v hv0),SN (Md v hv0)]
      rw [h] at hn ⊢
      generalize hq:a+(IK v).length=q at hsz hn hex
      simp only [Bool.not_true,cond_false]
      rw [w64_id (n:=(f.size:Int) - (q:Int)) (by omega) (by omega),w64_id (n:=(f.size:Int) - (q:Int) - 4) (by omega) (by omega),w64_id (n:=(q:Int)+4) (by omega) (by omega),w64_id (n:=(q:Int)+4+v) (by omega) (by omega)]
      by_cases h3:v > (f.size:Int) - (q:Int) - 4
      ·rw [TB (by simp;omega)]
       rcases hn with hn | ⟨v',q',he',_,_,_,_,h4,_⟩
       ·rw [hn,List.append_nil]
       ·simp only [Prod.mk.injEq,and_true] at he';omega
      ·have e2:((q:Int)+4).toNat=q+4:=by omega
       have e3:((q:Int)+4+v).toNat=q+4+v.toNat:=by omega
       have hxs:(f.extract (q+4) (q+4+v.toNat)).size=v.toNat:=by rw [ByteArray.size_extract];omega
       rw [NM (by simp;omega),TB (by simp;omega),e2,e3,Int.toNat_natCast,UAa (by omega),Option.bind_some,frameT,hxs]
       rcases hn with hn | ⟨v',q',he',_,_,h5,h6,h4,hA',hb,hn⟩
       ·rw [hn,List.append_nil]
        cases hr:FN ((v.toNat:Nat):Int) 1 9000
        ·rfl
        ·rw [cond_true,NM (by rfl),TB (by simp;omega)]
         rw [TB]
         rw [Bool.not_eq_true',Gh,SN (XAS (Dc _)),beq_eq_false_iff_ne]
         intro hc
         rw [Ji,bs_len,hxs,show ((v.toNat:Nat):Int)=v by omega,RAG f (a:=a) (b:=q) (by omega) (by omega) (by omega),hex,RAG f (a:=q) (b:=q+4) (by omega) (by omega) (by omega)] at hc
         have hc2:=(List.append_inj (List.append_cancel_left hc) (by rw [bs_len,ByteArray.size_extract];show 4=_;omega)).1
         rw [Qb,h] at hn
         have hr':FN v 1 9000=true:=by rw [show ((v.toNat:Nat):Int)=v by omega] at hr;exact hr
         rw [hq] at hn
         simp only [hr',e2,e3,Int.toNat_natCast,←hc2,beq_self_eq_true,Bool.true_and,Bool.and_true] at hn
         rw [decide_eq_true (by omega:v≤(f.size:Int) - (q:Int) - 4)] at hn
         cases hn
       ·simp only [Prod.mk.injEq,and_true] at he'
        obtain ⟨rfl,he'⟩:=he'
        have:q=q':=by omega
        subst this
        have hr:FN ((v.toNat:Nat):Int) 1 9000=true:=by rw [WX];omega
        rw [hn,hr,cond_true,NM (by rfl),TB (by simp;omega)]
        rw [NM (by
         rw [Bool.not_eq_false',Gh,SN (XAS (Dc _)),beq_iff_eq]
         rw [Ji,bs_len,hxs,show ((v.toNat:Nat):Int)=v by omega,RAG f (a:=a) (b:=q) (by omega) (by omega) (by omega),hex,RAG f (a:=q) (b:=q+4) (by omega) (by omega) (by omega),hb])]
        rw [TB (by simp;omega),show (q:Int)+4+v=((q+4+v.toNat:Nat):Int) by omega,ih (q+4+v.toNat) m _ (by omega) (by omega) (by simp;omega)]
        simp
  obtain ⟨m,hm⟩:∃ m,gas=m+(f.size+1)+1:=⟨gas - (f.size+2),by have:=gas_lt (n:=f.size+2) (by omega);omega⟩
  rw [hm,show (0:Int)=((0:Nat):Int) from rfl,key (f.size+1) 0 m [] (by omega) (by omega) (Nat.le_refl _)]
  rfl
theorem QAd (k:List Int) {i:Nat}:(QY k).getD i 0=k.getD i 0:=by
 by_cases h:i<k.length
 ·rw [QY,Y8 h]
 ·rw [QY,Ur (by omega)]
  simp only [List.getD]
  rw [List.getElem?_eq_none (by omega:k.length≤i)]
  by_cases h2:i - k.length<64 - k.length
  ·rw [List.getElem?_replicate,if_pos h2];rfl
  ·rw [List.getElem?_replicate,if_neg h2]
theorem RAd (f:Int→Int) {l:List Int} (hl:l.length=64) {i:Nat} (h:i<64) (y:Int) (hy:y=f (l.getD i 0)):((l.take i).map f++List.replicate (64 - i) 0).set i y=(l.take (i+1)).map f++List.replicate (64 - (i+1)) 0:=by
 rw [show 64 - i=(64 - (i+1))+1 by omega,List.replicate_succ,Qn (by simp;omega),take_at (by omega),hy,getD_at (by omega),List.map_append,List.append_assoc]
 rfl
theorem SAd {k:ByteArray} (hk:k.size≤64) (x:Int):Iq gas (.c0 k x (0:Int) (List.replicate (64:Int).toNat (0:Int)))=some (ofBytes (QZ x (QY (bs k)))):=by
 have hl:(QY (bs k)).length=64:=by rw [QY,List.length_append,List.length_replicate,bs_len];omega
 have key:=loopN (A:=Unit) (n:=64) (Lp:=Iq) (st:=fun i _=>.c0 k x (i:Int) (((QY (bs k)).take i).map (fun b=>xb b x)++List.replicate (64 - i) 0)) (Inv:=fun _ _=>True) (out:=fun _ _=>some (ofBytes (QZ x (QY (bs k)))))
  (fun m _ _=>by
   rw [Iq]
   simp only [EAE]
   rw [NM (by simp),List.take_of_length_le (by omega),Nat.sub_self,List.replicate_zero,List.append_nil];rfl)
  (fun m i _ hi _=>.inr ⟨(),by
   have e:w64 ((i:Int)+1)=((i+1:Nat):Int):=by rw [w64_id (by omega) (by omega)];rfl
   have hlen:(((QY (bs k)).take i).map (fun b=>xb b x)++List.replicate (64 - i) 0).length=64:=by simp [hl];omega
   have hm:(((QY (bs k)).take i).map (fun b=>xb b x)).length=i:=by simp [hl];omega
   rw [Iq]
   simp only [EAE,e,Int.toNat_natCast,List.length_set,hlen,JAG]
   rw [TB (by simp;omega)]
   by_cases h:i<k.size
   ·rw [TB (by simp;omega),TB (by simp;omega),TB (by simp;omega),TB (by simp;omega),TB (by simp;omega),Vd h]
    rw [List.set_set,CAq (by omega)]
    rw [RAd (fun b=>xb b x) hl hi _ (by rw [QAd])]
   ·rw [NM (by simp;omega),TB (by simp;omega),TB (by simp;omega)]
    rw [Ur (by omega),hm,Nat.sub_self]
    rw [RAd (fun b=>xb b x) hl hi _ (by
     rw [QAd,show (bs k).getD i 0=0 by simp [List.getD,List.getElem?_eq_none (show (bs k).length≤i by rw [bs_len];omega)]]
     rw [show 64 - i=(63 - i)+1 by omega,List.replicate_succ];rfl)],trivial,rfl⟩)
 exact key gas 0 () (Nat.zero_le _) (gas_lt (by omega)) trivial
theorem TAd {k:ByteArray} (hk:k.size≤1000000000) (x:Int):I4 k x=some (ofBytes (QZ x (Ee (bs k)))):=by
 rw [I4,GAO]
 by_cases h:64<k.size
 ·rw [TB (by simp;omega),H9 hk,Option.bind_some,SAd (by rw [Fh];omega),Ee,if_pos (by rw [bs_len];omega),CAG]
 ·rw [NM (by simp;omega),SAd (by omega),Ee,if_neg (by rw [bs_len];omega)]
theorem UAd {k s:ByteArray} (hk:k.size≤900000000) (hs:s.size≤900000000):Ug k s=some (Bf k s):=by
 have x1:=KAG 92 (Ee (bs k))
 have x2:=KAG 54 (Ee (bs k))
 have x3:=JAs (bs k)
 rw [Ug,HAO,TAd (by omega),Option.bind_some,TAd (by omega),Option.bind_some,TB (by rw [ofBytes_size,decide_eq_true_eq];omega)]
 rw [H9 (by rw [ByteArray.size_append,ofBytes_size];omega),Option.bind_some,TB (by rw [ofBytes_size,Fh,decide_eq_true_eq];omega),H9 (by rw [ByteArray.size_append,ofBytes_size,Fh];omega),Option.bind_some]
 rw [FZ,PY,CAG,PY,SN (LAG _ _),SN (LAG _ _),Bf,Fe]
theorem TAs {k:ByteArray} {num n:Int} (hk:k.size≤900000000):V4 k num n=some (Zr k num n):=by
 rw [V4,KAO,La,Option.bind_some,Zr,maskOk]
 cases h:FN num 0 1000000000
 ·rfl
 ·rw [WX] at h
  rw [NM (by rfl),La,Option.bind_some]
  cases h2:FN n 0 8000
  ·rfl
  ·rw [WX] at h2
   rw [NM (by rfl),Bool.and_self,cond_true]
   have hv:=PZ (n:=num) (by omega)
   have hvb:=Bo h.1
   have key:=loopN (A:=Unit) (n:=(n.toNat+31) / 32) (Lp:=U4) (st:=fun i _=>.c0 k num n (i:Int) (Df (bs k) (IK num) i)) (Inv:=fun _ _=>True) (out:=fun _ _=>some (ofBytes (BZ (bs k) (IK num) n.toNat),true))
    (fun m _ _=>by
     rw [U4]
     simp only [FAE]
     rw [NM (by rw [Ph,decide_eq_false_iff_not];omega),TB (by rw [Ph];simp;omega)]
     rfl)
    (fun m i _ hi _=>.inr ⟨(),by
     have e:w64 ((i:Int)+1)=((i+1:Nat):Int):=by rw [w64_id (by omega) (by omega)];rfl
     have h9:(⟨#[109]⟩:ByteArray).size=1:=rfl
     rw [U4]
     simp only [FAE,e]
     rw [TB (by rw [Ph,decide_eq_true_eq];omega),Nh (by omega),Option.bind_some,TB (by rw [ofBytes_size,h9,decide_eq_true_eq];omega),KAS (by omega) (by omega),Option.bind_some,TB (by rw [ByteArray.size_append,ofBytes_size,ofBytes_size,h9,decide_eq_true_eq,List.length_singleton];omega)]
     rw [UAd hk (by rw [ByteArray.size_append,ByteArray.size_append,ofBytes_size,ofBytes_size,h9,List.length_singleton];omega),Option.bind_some,KAd k h.1 h.2 i (by omega),Z8,SN (L9 _ _),TB (by rw [ofBytes_size,Yr];rfl),TB (by rw [Ph,Yr,decide_eq_true_eq];omega)]
     rfl,trivial,rfl⟩)
   exact key gas 0 () (Nat.zero_le _) (gas_lt (by omega)) trivial
theorem UAs {k s:ByteArray} {num:Int} (hk:k.size≤900000000) (hn:0≤num∧num≤1000000000) (hs:s.size≤800000000):X4 k num s=some (ofBytes (VZ (bs k) num (bs s))):=by
 have hv:=PZ (n:=num) (by omega)
 have h9:(⟨#[116]⟩:ByteArray).size=1:=rfl
 have e:bs (⟨#[116]⟩:ByteArray)=[116]:=rfl
 have h16:(16:Int).toNat=16:=rfl
 rw [X4,MAO,Nh (by omega),Option.bind_some,TB (by rw [ofBytes_size,h9,decide_eq_true_eq];omega),TB (by rw [ByteArray.size_append,ofBytes_size,h9,decide_eq_true_eq];omega)]
 rw [UAd hk (by rw [ByteArray.size_append,ByteArray.size_append,ofBytes_size,h9];omega),Option.bind_some,TB (by rw [JAd];decide)]
 refine congrArg some (Ia ?_)
 rw [JZ,IAd,h16,SN (N9 _ _ _),PY,PY,e,SN (Bo hn.1),VZ,List.drop_zero,List.append_assoc]
 rfl
theorem VAs {a b:ByteArray} (ha:a.size≤140737488351232) (h:a.size≤b.size):D5 a b=some (ofBytes (FY (bs a) (bs b))):=by
 have hl:=bs_len a
 have hl2:=bs_len b
 have key:=loopN (A:=Unit) (n:=(bs a).length) (Lp:=Z4) (st:=fun i _=>.c0 b (i:Int) (List.zipWith xb ((bs a).take i) ((bs b).take i)++(bs a).drop i)) (Inv:=fun _ _=>True) (out:=fun _ _=>some (ofBytes (FY (bs a) (bs b))))
  (fun m _ _=>by
   rw [Z4]
   simp only [HAE]
   rw [NM (by simp;omega),List.take_length,List.drop_length,List.append_nil,FY,UAS])
  (fun m i _ hi _=>.inr ⟨(),by
   have e:w64 ((i:Int)+1)=((i+1:Nat):Int):=by rw [w64_id (by omega) (by omega)];rfl
   have hlen:(List.zipWith xb ((bs a).take i) ((bs b).take i)++(bs a).drop i).length=(bs a).length:=by simp;omega
   rw [Z4]
   simp only [HAE,e,Int.toNat_natCast,hlen,JAG,NAd hi (show i<(bs b).length by omega)]
   rw [TB (by simp;omega),TB (by simp;omega),TB (by simp;omega),TB (by simp;omega),Vd (by omega),MAd hi (by omega)],trivial,rfl⟩)
 rw [D5,QAO,TB (by simp;omega),Z8]
 exact key gas 0 () (Nat.zero_le _) (gas_lt (by omega)) trivial
theorem Gn {n:Int} (h:n≤9223372036854775807):Ua n=some (ofBytes (IK n)):=by
 have key:∀ (n:Int) (m:Nat) (out:List Int),n≤9223372036854775807→(IK n).length≤m→out.length+(IK n).length≤1000→N7 m (.c0 n out)=some (ofBytes (out++IK n)):=by
  intro n
  induction n using IK.induct with
  | case1 n hn ih=>
   intro m out h1 h2 h3
   rw [IK,if_pos hn] at h2 h3 ⊢
   simp only [List.length_cons] at h2 h3
   obtain ⟨m,rfl⟩:∃ k,m=k+1:=⟨m - 1,by omega⟩
   obtain ⟨e1,_,e2⟩:=XAc hn h1
   simp only [N7,HAF,e1,e2]
   rw [show decide (n > 127)=true from decide_eq_true hn,show decide ((out.length+1)*1≤140737488355328)=true from decide_eq_true (by omega)]
   simp only [cond_true]
   rw [ih m _ (by omega) (by omega) (by simp;omega)]
   simp
  | case2 n hn=>
   intro m out h1 h2 h3
   rw [IK,if_neg hn] at h2 h3 ⊢
   simp at h2 h3
   obtain ⟨m,rfl⟩:∃ k,m=k+1:=⟨m - 1,by omega⟩
   simp only [N7,HAF]
   rw [show decide (n > 127)=false from decide_eq_false hn,show decide ((out.length+1)*1≤140737488355328)=true from decide_eq_true (by omega)]
   rfl
 have hl:=PZ h
 exact key n gas [] h (Nat.le_of_lt (gas_lt (by omega))) (by simp;omega)
theorem WAs {n:Int}:Xi n=some (bif FN n 0 1000000000 then (ofBytes (IK n),true) else (⟨#[]⟩,false)):=by
 simp only [Xi,BAH,Za,Option.bind_some]
 cases h:FN n 0 1000000000
 ·rfl
 ·rw [WX] at h
  rw [Bool.not_true,cond_false,Gn (by omega),Option.bind_some,cond_true]
theorem Eo {n:Int} (h:0≤n) (h2:n≤255):Mc n=some (ofBytes [n]):=by
 simp only [Mc,IAQ,w8_id h h2]
theorem SAR {n:Nat} (h:n≤1000000000):He (n:Int)=some (ofBytes (List.replicate n 0)):=by
 simp only [He,NAP,Int.toNat_natCast]
 rw [TB (by simp;omega)]
theorem WAF {x:Int} (h:R32 x):WZ x=some (ofBytes (four x)):=by
 obtain ⟨h1,h2⟩:=h
 have e1:Int.fdiv x (2 ^ (Min.min (24:Int).toNat (IntKind.bits IntKind.u32)))=x / 16777216:=Int.fdiv_eq_ediv_of_nonneg _ (by decide)
 have e2:Int.fdiv x (2 ^ (Min.min (16:Int).toNat (IntKind.bits IntKind.u32)))=x / 65536:=Int.fdiv_eq_ediv_of_nonneg _ (by decide)
 have e3:Int.fdiv x (2 ^ (Min.min (8:Int).toNat (IntKind.bits IntKind.u32)))=x / 256:=Int.fdiv_eq_ediv_of_nonneg _ (by decide)
 simp only [WZ,OAP,e1,e2,e3,w8_mod,four]
 rw [show x / 16777216 % 256=x / 16777216 by omega]
theorem XAs {n:Nat} (h:n<1099511627776):L6 (n:Int)=some (ofBytes (Zd (n:Int))):=by
 have e1:Int.fdiv (n:Int) (2 ^ (Min.min (32:Int).toNat (IntKind.bits IntKind.i64)))=(n:Int) / 4294967296:=Int.fdiv_eq_ediv_of_nonneg _ (by decide)
 simp only [L6,QAP,e1,WAF (UZ _),Option.bind_some]
 rw [TB (by rw [ofBytes_size,ofBytes_size];simp [four])]
 congr 1
 apply Ia
 rw [PY,SN (En (UZ _)),SN (En (UZ _)),SN (fun x hx=>by
  simp only [Zd,List.mem_cons,List.not_mem_nil,or_false] at hx
  omega)]
 simp only [four,Zd,Rn,List.cons_append,List.nil_append,List.cons.injEq,and_true]
 omega
theorem YAs {n:Nat} (h:n≤100000000000):O6 (n:Int)=some (ofBytes (EY n)):=by
 have e1:(w64 (119 - ((n:Int).tmod 64))).tmod 64=(((119 - n % 64) % 64:Nat):Int):=by
  have a:(n:Int).tmod 64=(n:Int) % 64:=Int.tmod_eq_emod_of_nonneg (by omega)
  rw [a,w64_id (by omega) (by omega),Int.tmod_eq_emod_of_nonneg (by omega)]
  omega
 have e2:w64 (8*(n:Int))=((8*n:Nat):Int):=by rw [w64_id (by omega) (by omega)];omega
 have h0:(⟨#[128]⟩:ByteArray).size=1:=rfl
 simp only [O6,SAP,e1,e2,SAR (n:=(119 - n % 64) % 64) (by omega),XAs (n:=8*n) (by omega),Option.bind_some]
 rw [TB (by rw [ofBytes_size];simp [h0];omega),TB (by rw [ByteArray.size_append,ofBytes_size,ofBytes_size];simp [h0,Zd];omega)]
 congr 1
 apply Ia
 have hb:ZX (List.replicate ((119 - n % 64) % 64) (0:Int)):=fun x hx=>by
  have:=List.eq_of_mem_replicate hx;omega
 have hb2:ZX (Zd ((8*n:Nat):Int)):=fun x hx=>by
  simp only [Zd,List.mem_cons,List.not_mem_nil,or_false] at hx
  omega
 rw [PY,PY,SN hb,SN hb2,SN (FAS n),EY]
 have e3:bs (⟨#[128]⟩:ByteArray)=[128]:=rfl
 rw [e3]
 simp
theorem ZAs {x:Int} (h:R32 x) (n:Nat) (hn:0<n) (hn2:n<32) (k:Int) (hk:wu64 (((BitVec.toNat ((BitVec.ofInt (IntKind.bits IntKind.u64) (wu64 k)) &&& (BitVec.ofInt (IntKind.bits IntKind.u64) (31:Int)))):Nat):Int)=((32 - n:Nat):Int))
  (hk2:wu64 (32 - ((32 - n:Nat):Int))=(n:Int)):P6 x k=some (rt (2 ^ n) (2 ^ (32 - n)) x):=by
 have e1:Min.min ((32 - n:Nat):Int).toNat (IntKind.bits IntKind.u32)=32 - n:=by
  show Min.min ((32 - n:Nat):Int).toNat 32=_
  omega
 have e2:Min.min (n:Int).toNat (IntKind.bits IntKind.u32)=n:=by
  show Min.min (n:Int).toNat 32=_
  omega
 have e3:Int.fdiv x (2 ^ n)=x / 2 ^ n:=Int.fdiv_eq_ediv_of_nonneg _ (Int.le_of_lt (Int.pow_pos (by omega)))
 simp only [P6,UAP,hk,hk2,e1,e2,e3]
 rw [show decide ((0:Int)≤(n:Int))=true from decide_eq_true (by omega)]
 simp only [cond_true,CAc]
 rw [FAq h n hn hn2]
theorem Gf {x:Int} (h:R32 x) (n:Nat) (hn:0<n) (hn2:n<32) (hk:wu64 (((BitVec.toNat ((BitVec.ofInt (IntKind.bits IntKind.u64) (wu64 (w64 (0 - (n:Int))))) &&& (BitVec.ofInt (IntKind.bits IntKind.u64) (31:Int)))):Nat):Int)=((32 - n:Nat):Int))
  (hk2:wu64 (32 - ((32 - n:Nat):Int))=(n:Int)):UY x (n:Int)=some (rt (2 ^ n) (2 ^ (32 - n)) x):=by
 simp only [UY,VAP,ZAs h n hn hn2 _ hk hk2,Option.bind_some]
theorem AAt {x:Int} (h:R32 x):UY x 2=some (rt 4 1073741824 x):=Gf h 2 (by decide) (by decide) (by decide) (by decide)
theorem BAt {x:Int} (h:R32 x):UY x 13=some (rt 8192 524288 x):=Gf h 13 (by decide) (by decide) (by decide) (by decide)
theorem CAt {x:Int} (h:R32 x):UY x 22=some (rt 4194304 1024 x):=Gf h 22 (by decide) (by decide) (by decide) (by decide)
theorem DAt {x:Int} (h:R32 x):UY x 6=some (rt 64 67108864 x):=Gf h 6 (by decide) (by decide) (by decide) (by decide)
theorem EAt {x:Int} (h:R32 x):UY x 11=some (rt 2048 2097152 x):=Gf h 11 (by decide) (by decide) (by decide) (by decide)
theorem FAt {x:Int} (h:R32 x):UY x 25=some (rt 33554432 128 x):=Gf h 25 (by decide) (by decide) (by decide) (by decide)
theorem GAt {x:Int} (h:R32 x):UY x 7=some (rt 128 33554432 x):=Gf h 7 (by decide) (by decide) (by decide) (by decide)
theorem IAt {x:Int} (h:R32 x):UY x 18=some (rt 262144 16384 x):=Gf h 18 (by decide) (by decide) (by decide) (by decide)
theorem JAt {x:Int} (h:R32 x):UY x 17=some (rt 131072 32768 x):=Gf h 17 (by decide) (by decide) (by decide) (by decide)
theorem KAt {x:Int} (h:R32 x):UY x 19=some (rt 524288 8192 x):=Gf h 19 (by decide) (by decide) (by decide) (by decide)
theorem LAt {a b:Int} (ha:0≤a∧a<16777216) (hb:0≤b∧b≤255):C9 (w32 (a*256)) (w32 b)=a*256+b:=by
 obtain ⟨x,rfl⟩:∃ x:Nat,a=(x:Int):=⟨a.toNat,by omega⟩
 obtain ⟨y,rfl⟩:∃ y:Nat,b=(y:Int):=⟨b.toNat,by omega⟩
 rw [Oa (by omega) (by omega),Oa (by omega) (by omega)]
 have:=DAc (a:=x) (b:=y) (s:=8) (by omega) (by omega) (by omega)
 have e:((x*2 ^ 8:Nat):Int)=(x:Int)*256:=by omega
 rw [Int.natCast_add,e] at this
 exact this
def Xb (l:List Int) (i:Nat):Nat→Int
 | 0=>0
 | k+1=>Xb l i k*256+l.getD (4*i+k) 0
theorem MAt (l:List Int) (i:Nat):Xb l i 4=wordAt l i:=by
 simp only [Xb,wordAt,be4,Nat.add_zero]
 omega
theorem NAt {l:List Int} (h:ZX l) (i:Nat):∀ k,k<4→0≤Xb l i k∧Xb l i k<16777216
 | 0,_=>by simp [Xb]
 | 1,_=>by have:=OZ h (4*i+0);simp only [Xb];omega
 | 2,_=>by have:=OZ h (4*i+0);have:=OZ h (4*i+1);simp only [Xb];omega
 | 3,_=>by have:=OZ h (4*i+0);have:=OZ h (4*i+1);have:=OZ h (4*i+2);simp only [Xb];omega
theorem OAt {b:ByteArray} (hb:b.size=64) (v:List Int) (i:Nat) (hi:i<16):∀ (j k m:Nat),k+j=4→
  Nb (m+j+1) (.c1 b (i:Int) (i:Int) (k:Int) v (AY (bs b) i++Xb (bs b) i k::List.replicate (63 - i) 0))=Nb m (.c0 b ((i+1:Nat):Int) v (AY (bs b) (i+1)++List.replicate (63 - i) 0)):=by
 have hby:=Dc b
 intro j
 induction j with
 | zero=>
  intro k m h
  obtain rfl:k=4:=by omega
  have e:w64 ((i:Int)+1)=((i+1:Nat):Int):=by rw [w64_id (by omega) (by omega)];rfl
  rw [Nb]
  simp only [Gi,e]
  rw [NM (by simp),MAt,IAc]
  simp
 | succ j ih=>
  intro k m h
  have hk:k<4:=by omega
  have hlen:(AY (bs b) i++Xb (bs b) i k::List.replicate (63 - i) 0).length=64:=by
   simp only [List.length_append,List.length_cons,List.length_replicate,Jh];omega
  have e:w64 ((k:Int)+1)=((k+1:Nat):Int):=by rw [w64_id (by omega) (by omega)];rfl
  have e4:w64 (4*(i:Int))=((4*i:Nat):Int):=by rw [w64_id (by omega) (by omega)];omega
  have e5:w64 (((4*i:Nat):Int)+(k:Int))=((4*i+k:Nat):Int):=by rw [w64_id (by omega) (by omega)];omega
  have e8:(2:Int) ^ (Min.min (8:Int).toNat (IntKind.bits IntKind.u32))=256:=by decide
  have hg:(AY (bs b) i++Xb (bs b) i k::List.replicate (63 - i) 0).getD i 0=Xb (bs b) i k:=by
   rw [Ur (by rw [Jh];omega),Jh,Nat.sub_self];rfl
  rw [show m+(j+1)+1=(m+j+1)+1 by omega,Nb]
  simp only [Gi,e,e4,e5,e8,Int.toNat_natCast,hlen,hg,CAc]
  rw [TB (by simp;omega),TB (by rfl),TB (by simp;omega),TB (by simp;omega),TB (by rfl),TB (by simp;omega)]
  rw [Vd (by omega),LAt (NAt hby i k hk) (OZ hby _),Qn (Jh _ i)]
  exact ih (k+1) m (by omega)
theorem PAt {b:ByteArray} (hb:b.size=64) (v:List Int):∀ (j i m:Nat),i+j=16→Nb (m+6*j+1) (.c0 b (i:Int) v (AY (bs b) i++List.replicate (64 - i) 0))=Nb m (.c2 16 v (AY (bs b) 16++List.replicate 48 0)):=by
 intro j
 induction j with
 | zero=>
  intro i m h
  obtain rfl:i=16:=by omega
  rw [Nb]
  simp only [Gi]
  rw [NM (by simp)]
 | succ j ih=>
  intro i m h
  rw [show m+6*(j+1)+1=(m+6*j+1)+4+1+1 by omega,Nb]
  simp only [Gi]
  rw [TB (by simp;omega)]
  have h1:=OAt hb v i (by omega) 4 0 (m+6*j+1) (by omega)
  rw [show 64 - i=(63 - i)+1 by omega,List.replicate_succ]
  have h2:=ih (i+1) m (by omega)
  rw [show 64 - (i+1)=63 - i by omega] at h2
  exact h1.trans h2
theorem QAt {w v:List Int} (hw:∀ x ∈ w,R32 x) (hwl:w.length=16) (hv:v.length=64):∀ (j i m:Nat),i+j=48→Nb (m+j+1) (.c2 ((16+i:Nat):Int) v (sched w i++List.replicate (48 - i) 0))=some (sched w 48):=by
 intro j
 induction j with
 | zero=>
  intro i m h
  obtain rfl:i=48:=by omega
  have hl:=D9 hwl 48
  rw [Nb]
  simp only [Gi,Nat.sub_self,List.replicate_zero,List.append_nil,hl,hv]
  rfl
 | succ j ih=>
  intro i m h
  have hl:=D9 hwl i
  have hr:=AAG hw i
  have hlen:(sched w i++List.replicate (48 - i) 0).length=64:=by
   simp only [List.length_append,List.length_replicate,hl];omega
  have e2:w64 (((16+i:Nat):Int) - 2)=((16+i - 2:Nat):Int):=by rw [w64_id (by omega) (by omega)];omega
  have e7:w64 (((16+i:Nat):Int) - 7)=((16+i - 7:Nat):Int):=by rw [w64_id (by omega) (by omega)];omega
  have e15:w64 (((16+i:Nat):Int) - 15)=((16+i - 15:Nat):Int):=by rw [w64_id (by omega) (by omega)];omega
  have e16:w64 (((16+i:Nat):Int) - 16)=((16+i - 16:Nat):Int):=by rw [w64_id (by omega) (by omega)];omega
  have e1:w64 (((16+i:Nat):Int)+1)=((16+(i+1):Nat):Int):=by rw [w64_id (by omega) (by omega)];omega
  have g2:(sched w i++List.replicate (48 - i) 0).getD (16+i - 2) 0=(sched w i).getD (16+i - 2) 0:=Y8 (by omega) 0
  have g7:(sched w i++List.replicate (48 - i) 0).getD (16+i - 7) 0=(sched w i).getD (16+i - 7) 0:=Y8 (by omega) 0
  have g15:(sched w i++List.replicate (48 - i) 0).getD (16+i - 15) 0=(sched w i).getD (16+i - 15) 0:=Y8 (by omega) 0
  have g16:(sched w i++List.replicate (48 - i) 0).getD (16+i - 16) 0=(sched w i).getD (16+i - 16) 0:=Y8 (by omega) 0
  have f10:∀ x:Int,Int.fdiv x (2 ^ (Min.min (10:Int).toNat (IntKind.bits IntKind.u32)))=x / 1024:=fun x=>Int.fdiv_eq_ediv_of_nonneg _ (by decide)
  have f3:∀ x:Int,Int.fdiv x (2 ^ (Min.min (3:Int).toNat (IntKind.bits IntKind.u32)))=x / 8:=fun x=>Int.fdiv_eq_ediv_of_nonneg _ (by decide)
  have r15:=F9 hr (16+i - 15)
  have r2:=F9 hr (16+i - 2)
  rw [show m+(j+1)+1=(m+j+1)+1 by omega,Nb]
  simp only [Gi,e1,e2,e7,e15,e16,Int.toNat_natCast,hlen,g2,g7,g15,g16,GAt r15,IAt r15,JAt r2,KAt r2,Option.bind_some,f10,f3,Ud]
  rw [TB (by simp;omega),TB (by rfl),TB (by simp;omega),TB (by rfl),TB (by simp;omega),TB (by rfl),TB (by simp;omega),TB (by rfl),TB (by simp;omega),TB (by rfl),TB (by simp;omega)]
  rw [show 48 - i=(48 - (i+1))+1 by omega,List.replicate_succ,Qn (by omega)]
  have h2:=ih (i+1) m (by omega)
  rw [sched,List.append_assoc] at h2
  exact h2
theorem RAt {b:ByteArray} (hb:b.size=64):Om b=some (sched (AY (bs b) 16) 48):=by
 obtain ⟨m,hm⟩:∃ m,gas=(m+48+1)+6*16+1:=⟨gas - 146,by have:=gas_lt (n:=146) (by omega);omega⟩
 rw [Om,WAP,hm]
 have h0:=PAt hb (List.replicate 64 0) 16 0 (m+48+1) (by omega)
 have h2:=QAt (w:=AY (bs b) 16) (v:=List.replicate 64 0) (DAS (Dc b) 16) (Jh _ 16) (List.length_replicate ..) 48 0 m (by omega)
 rw [show AY (bs b) 0++List.replicate (64 - 0) 0=List.replicate 64 (0:Int) from rfl,show ((0:Nat):Int)=0 from rfl] at h0
 rw [show ((16+0:Nat):Int)=16 from rfl,show sched (AY (bs b) 16) 0=AY (bs b) 16 from rfl,show 48 - 0=48 from rfl] at h2
 rw [h0,h2]
theorem SAt (s r v:List Int) (hs:s.length=8) (hv:v.length=8) (f:Nat→Int) (hf:∀ i,i<8→f i=w32 (r.getD i 0+s.getD i 0)) (hr:r.length=8):∀ (j i m:Nat),i+j=8→Jd (m+j+1) (.c1 (i:Int) s v ((List.range i).map f++r.drop i))=some ((List.range 8).map f):=by
 intro j
 induction j with
 | zero=>
  intro i m h
  obtain rfl:i=8:=by omega
  rw [Jd]
  simp only [Rq]
  rw [NM (by simp),List.drop_of_length_le (by omega),List.append_nil,TB (by simp),TB (by simp [hv]),TB (by simp)]
 | succ j ih=>
  intro i m h
  have e:w64 ((i:Int)+1)=((i+1:Nat):Int):=by rw [w64_id (by omega) (by omega)];rfl
  have hl:((List.range i).map f++r.drop i).length=8:=by simp [hr];omega
  have hm:((List.range i).map f).length=i:=by simp
  have hg:((List.range i).map f++r.drop i).getD i 0=r.getD i 0:=by
   rw [Ur (by omega),hm,Nat.sub_self]
   simp [List.getD]
  rw [show m+(j+1)+1=(m+j+1)+1 by omega,Jd]
  simp only [Rq,e,Int.toNat_natCast,hl,hs,hg]
  rw [TB (by simp;omega),TB (by rfl),TB (by simp;omega),TB (by rfl),TB (by simp;omega),TB (by rfl),TB (by simp;omega)]
  rw [drop_at (by omega:i<r.length),Qn hm,←hf i (by omega)]
  have h2:=ih (i+1) m (by omega)
  rw [List.range_succ,List.map_append,List.append_assoc] at h2
  exact h2
theorem TAt (s v W:List Int) (hW:∀ x ∈ W,R32 x) (hWl:W.length=64) (r:Reg) (hr:r.ok) (i m:Nat) (hi:i<64) :
  Jd (m+1) (.c0 r.a r.b r.c r.d r.e r.f r.g r.h (i:Int) s v W)=Jd m (.c0 (Yd r (keysL.getD i 0) (W.getD i 0)).a (Yd r (keysL.getD i 0) (W.getD i 0)).b (Yd r (keysL.getD i 0) (W.getD i 0)).c (Yd r (keysL.getD i 0) (W.getD i 0)).d (Yd r (keysL.getD i 0) (W.getD i 0)).e (Yd r (keysL.getD i 0) (W.getD i 0)).f (Yd r (keysL.getD i 0) (W.getD i 0)).g (Yd r (keysL.getD i 0) (W.getD i 0)).h ((i+1:Nat):Int) s v W):=by
 obtain ⟨h1,h2,h3,h4,h5,h6,h7,h8⟩:=hr
 have e:w64 ((i:Int)+1)=((i+1:Nat):Int):=by rw [w64_id (by omega) (by omega)];rfl
 rw [Jd]
 simp only [Rq,e,Int.toNat_natCast,hWl,DAt h5,EAt h5,FAt h5,AAt h1,BAt h1,CAt h1,Option.bind_some,Ud,ZAR,DAq h5]
 rw [TB (by simp;omega),TB (by simp;omega),TB (by rw [Nat.blt_eq];omega),TB (by rfl),TB (by simp;omega)]
 rfl
theorem UAt (s v W:List Int) (hW:∀ x ∈ W,R32 x) (hWl:W.length=64) (r:Reg) (hr:r.ok):∀ (j i m:Nat),i+j=64→
  Jd (m+j+1) (.c0 (EZ keysL W r i).a (EZ keysL W r i).b (EZ keysL W r i).c (EZ keysL W r i).d (EZ keysL W r i).e (EZ keysL W r i).f (EZ keysL W r i).g (EZ keysL W r i).h (i:Int) s v W)=Jd m (.c1 0 s v (EZ keysL W r 64).l):=by
 intro j
 induction j with
 | zero=>
  intro i m h
  obtain rfl:i=64:=by omega
  rw [Jd]
  simp only [Rq]
  rw [NM (by simp)]
  rfl
 | succ j ih=>
  intro i m h
  rw [show m+(j+1)+1=(m+j+1)+1 by omega,TAt s v W hW hWl _ (HAc keysL W hr i) i _ (by omega)]
  exact ih (i+1) m (by omega)
theorem VAt {s:Reg} (hs:s.ok) {b:ByteArray} (hb:b.size=64):Pm s.l b=some (comp s (bs b)).l:=by
 obtain ⟨m,hm⟩:∃ m,gas=(m+8+1)+64+1:=⟨gas - 74,by have:=gas_lt (n:=74) (by omega);omega⟩
 have hr:=AAG (DAS (Dc b) 16) 48
 have hl:=D9 (Jh (bs b) 16) 48
 have hsl:s.l.length=8:=rfl
 have z0:(0:Int).toNat=0:=rfl
 have z1:(1:Int).toNat=1:=rfl
 have z2:(2:Int).toNat=2:=rfl
 have z3:(3:Int).toNat=3:=rfl
 have z4:(4:Int).toNat=4:=rfl
 have z5:(5:Int).toNat=5:=rfl
 have z6:(6:Int).toNat=6:=rfl
 have z7:(7:Int).toNat=7:=rfl
 rw [Pm,XAP,RAt hb,Option.bind_some,hm]
 simp only [hl,hsl,List.length_replicate,z0,z1,z2,z3,z4,z5,z6,z7]
 rw [TB (by rfl),TB (by rfl),TB (by rfl),TB (by rfl),TB (by rfl),TB (by rfl),TB (by rfl),TB (by rfl),TB (by rfl),TB (by rfl),TB (by rfl),TB (by rfl),TB (by rfl),TB (by rfl),TB (by rfl),TB (by rfl),TB (by rfl)]
 have h0:=UAt s.l [0,0,0,0,0,0,0,0] _ hr hl s hs 64 0 (m+8+1) (by omega)
 rw [show ((0:Nat):Int)=0 from rfl] at h0
 have hf:∀ i,i<8→(fun i=>w32 ((EZ keysL (sched (AY (bs b) 16) 48) s 64).l.getD i 0+s.l.getD i 0)) i=w32 ((EZ keysL (sched (AY (bs b) 16) 48) s 64).l.getD i 0+s.l.getD i 0):=fun _ _=>rfl
 have h1:=SAt s.l (EZ keysL (sched (AY (bs b) 16) 48) s 64).l [0,0,0,0,0,0,0,0] rfl rfl _ hf rfl 8 0 m (by omega)
 rw [show ((0:Nat):Int)=0 from rfl,List.range_zero,List.map_nil,List.nil_append,List.drop_zero] at h1
 have e:(List.range 8).map (fun i=>w32 ((EZ keysL (sched (AY (bs b) 16) 48) s 64).l.getD i 0+s.l.getD i 0))=(comp s (bs b)).l:=by
  apply List.ext_getElem
  ·rw [Reg.G9,List.length_map,List.length_range]
  ·intro i h1 h2
   have hi:i<8:=by simpa using h1
   rw [List.getElem_map,List.getElem_range,←getD_at h2 0]
   rw [comp,QAc _ _ i hi,Int.add_comm]
 rw [e] at h1
 exact h0.trans h1
theorem WAt {s:Reg} (hs:s.ok) {t:ByteArray} (ht:t.size≤1000000000000):D7 s.l t=some ((comps (t.size / 64) s (bs t)).l,t.extract (64*(t.size / 64)) t.size):=by
 have key:∀ (j:Nat) (s:Reg) (t:ByteArray) (m:Nat),s.ok→t.size / 64=j→t.size≤1000000000000→Y6 (m+j+1) (.c0 t s.l [0,0,0,0,0,0,0,0])=some ((comps j s (bs t)).l,t.extract (64*j) t.size):=by
  intro j
  induction j with
  | zero=>
   intro s t m hs hj ht
   rw [Y6]
   simp only [FAF,Reg.G9]
   rw [NM (by simp;omega),TB (by rfl),TB (by rfl),TB (by rfl)]
   congr 2
   apply Ia
   rw [JZ,List.take_of_length_le (by rw [bs_len];omega)]
   rfl
  | succ j ih=>
   intro s t m hs hj ht
   have h64:(64:Int).toNat=64:=rfl
   have e1:bs (t.extract 0 64)=(bs t).take 64:=by rw [JZ];rfl
   have e2:bs (t.extract 64 t.size)=(bs t).drop 64:=by rw [JZ,List.take_of_length_le (by rw [bs_len];omega)]
   rw [show m+(j+1)+1=(m+j+1)+1 by omega,Y6]
   simp only [FAF,h64,Reg.G9]
   rw [TB (by simp;omega),TB (by rfl),TB (by simp;omega)]
   rw [VAt hs (b:=t.extract 0 64) (by simp;omega),Option.bind_some]
   rw [Reg.G9]
   rw [TB (by rfl)]
   rw [TB (by simp;omega)]
   rw [ih (comp s (bs (t.extract 0 64))) (t.extract 64 t.size) m (JAc _ _) (by simp;omega) (by simp;omega),e1,e2]
   have e3:(t.extract 64 t.size).extract (64*j) (t.extract 64 t.size).size=t.extract (64*(j+1)) t.size:=by
    apply Ia
    rw [JZ,e2,JZ,List.take_of_length_le (by simp [bs_len]),List.take_of_length_le (by rw [bs_len];omega),List.drop_drop]
    congr 1
    omega
   rw [e3,comps]
 obtain ⟨m,hm⟩:∃ m,gas=m+t.size / 64+1:=⟨gas - (t.size / 64+1),by have:=gas_lt (n:=t.size / 64+1) (by omega);omega⟩
 rw [D7,ZAP,hm]
 exact key _ s t m hs rfl ht
theorem XAt {r:Reg} (hr:r.ok):H7 r.l=some (ofBytes (VX r.l)):=by
 have hl:r.l.length=8:=rfl
 have hrl:=Reg.Wn hr
 have hby:∀ i,ZX (VX (r.l.take i)):=fun i=>EAS (fun x hx=>hrl x (List.mem_of_mem_take hx))
 have key:=loopN (A:=Unit) (n:=8) (Lp:=G7) (st:=fun i _=>.c0 (ofBytes (VX (r.l.take i))) r.l (i:Int)) (Inv:=fun _ _=>True) (out:=fun _ _=>some (ofBytes (VX r.l)))
  (fun m _ _=>by
   rw [G7]
   simp only [GAF]
   rw [NM (by simp)]
   rfl)
  (fun m i _ hi _=>.inr ⟨(),by
   have e:w64 ((i:Int)+1)=((i+1:Nat):Int):=by rw [w64_id (by omega) (by omega)];rfl
   have hg:r.l.getD i 0=r.l[i]'(by omega):=getD_at (by omega) 0
   have hx:R32 (r.l.getD i 0):=F9 hrl i
   rw [G7]
   simp only [GAF,e,Int.toNat_natCast,WAF hx,Option.bind_some,hl]
   rw [TB (by simp;omega),TB (by rfl),TB (by simp;omega),TB (by rw [ofBytes_size,ofBytes_size,Vr];simp [four];omega)]
   congr 2
   apply Ia
   rw [PY,SN (hby i),SN (hby (i+1)),SN (En hx),take_at (by omega),LAc,hg]
   simp [VX],trivial,rfl⟩)
 rw [H7,BAQ,hl,TB (by rfl)]
 exact key gas 0 () (Nat.zero_le _) (gas_lt (by omega)) trivial
theorem YAt:BAF=some Vb.l:=rfl
theorem X8 {s:ByteArray} (hs:s.size≤1000000000):Lc s=some (FZ s):=by
 have h1:=BAG s.size
 have hsz:(s++ofBytes (EY s.size)).size=s.size+(EY s.size).length:=by rw [ByteArray.size_append,ofBytes_size]
 rw [Lc,CAQ,YAt,Option.bind_some,YAs (n:=s.size) (by omega),Option.bind_some,TB (by rw [ofBytes_size];simp;omega),WAt Ri (by omega),Option.bind_some]
 simp only [Reg.G9]
 rw [TB (by rfl),TB (by rfl),XAt (Un Ri _ _),Option.bind_some,hsz,PY,SN (FAS _),FZ,Cb,bs_len]
theorem VAd {s:ByteArray} {x:Int} (hs:s.size≤140737488351232):Yi s x=some (ofBytes (QZ x (bs s))):=by
 have hl:=bs_len s
 have key:=loopN (A:=Unit) (n:=(bs s).length) (Lp:=Qs) (st:=fun i _=>.c0 x ((bs s).length:Int) (i:Int) (((bs s).take i).map (fun b=>xb b x)++(bs s).drop i)) (Inv:=fun _ _=>True) (out:=fun _ _=>some (ofBytes (QZ x (bs s))))
  (fun m _ _=>by
   rw [Qs]
   simp only [X9]
   rw [NM (by simp),List.take_length,List.drop_length,List.append_nil];rfl)
  (fun m i _ hi _=>.inr ⟨(),by
   have e:w64 ((i:Int)+1)=((i+1:Nat):Int):=by rw [w64_id (by omega) (by omega)];rfl
   have hlen:(((bs s).take i).map (fun b=>xb b x)++(bs s).drop i).length=(bs s).length:=by simp;omega
   rw [Qs]
   simp only [X9,e,Int.toNat_natCast,hlen,JAG,LAs hi]
   rw [TB (by simp;omega),TB (by simp;omega),TB (by simp;omega),KAs (fun b=>xb b x) hi],trivial,rfl⟩)
 rw [Yi,DAH,TB (by simp;omega),Z8]
 exact key gas 0 () (Nat.zero_le _) (gas_lt (by omega)) trivial
theorem CAv {l:List Int} (h:ZX l):ZX (QY l):=fun x hx=>by
 simp only [QY,List.mem_append,List.mem_replicate] at hx
 rcases hx with hx | hx
 ·exact h x hx
 ·omega
theorem ZAt {k:ByteArray} (h:k.size≤64):bs (k++ofBytes (List.replicate (64 - k.size) 0))=QY (bs k):=by
 rw [PY,SN (fun x hx=>by have:=List.eq_of_mem_replicate hx;omega),QY,bs_len]
theorem AAu {K:ByteArray} (h:K.size=64) {s:ByteArray}:FZ (ofBytes (QZ 92 (bs K))++FZ (ofBytes (QZ 54 (bs K))++s))=ofBytes (Cb (QZ 92 (bs K)++Cb (QZ 54 (bs K)++bs s))):=by
 rw [FZ,PY,CAG,PY,SN (LAG _ _),SN (LAG _ _)]
theorem WAd {k s:ByteArray} (hk:k.size≤900000000) (hs:s.size≤900000000):Jf k s=some (Bf k s):=by
 have fin:∀ {K:ByteArray} {m:Int},K.size≤64→m=((64 - K.size:Nat):Int)→∀ (f:Option ByteArray),f=some (ofBytes (Cb (QZ 92 (QY (bs K))++Cb (QZ 54 (QY (bs K))++bs s))))→
   ((He m).bind fun r1=>bif decide (K.size+r1.size≤9223372036854775807) then (Yi (K++r1) 92).bind fun r2=>(Yi (K++r1) 54).bind fun r3=>bif decide (r3.size+s.size≤9223372036854775807) then (Lc (r3++s)).bind fun r4=>bif decide (r2.size+r4.size≤9223372036854775807) then (Lc (r2++r4)).bind fun r5=>some r5 else none else none else none)=f:=by
  intro K m hK hm f hf
  have h64:(K++ofBytes (List.replicate (64 - K.size) 0)).size=64:=by rw [ByteArray.size_append,ofBytes_size,List.length_replicate];omega
  subst hm
  have x1:=KAG 92 (QY (bs K))
  have x2:=KAG 54 (QY (bs K))
  have x3:(QY (bs K)).length=64:=by rw [QY,List.length_append,List.length_replicate,bs_len];omega
  have hb:=ZAt hK
  have hf2:=AAu h64 (s:=s)
  rw [hb] at hf2
  rw [SAR (by omega),Option.bind_some,TB (by rw [ofBytes_size,List.length_replicate,decide_eq_true_eq];omega),VAd (by omega),Option.bind_some,VAd (by omega),Option.bind_some,hb]
  rw [TB (by rw [ofBytes_size,decide_eq_true_eq];omega),X8 (by rw [ByteArray.size_append,ofBytes_size];omega),Option.bind_some,TB (by rw [ofBytes_size,Fh,decide_eq_true_eq];omega)]
  rw [X8 (by rw [ByteArray.size_append,ofBytes_size,Fh];omega),Option.bind_some,hf,hf2]
 rw [Jf,EAH]
 by_cases h:64<k.size
 ·rw [TB (by simp;omega),X8 (by omega),Option.bind_some]
  apply fin (by rw [Fh];omega) (by rw [Fh];decide)
  rw [Bf,Fe,Ee,if_pos (by rw [bs_len];omega),CAG]
 ·rw [NM (by simp;omega)]
  apply fin (by omega) (by rw [w64_id (by omega) (by omega)];omega)
  rw [Bf,Fe,Ee,if_neg (by rw [bs_len];omega)]
theorem BAu {k:ByteArray} {num n:Int} (hk:k.size≤900000000):Gt k num n=some (Zr k num n):=by
 rw [Gt,LAH,WAs,Option.bind_some,Zr,maskOk]
 cases h:FN num 0 1000000000
 ·rfl
 ·rw [WX] at h
  rw [cond_true,NM (by rfl),Za,Option.bind_some]
  cases h2:FN n 0 8000
  ·rfl
  ·rw [WX] at h2
   rw [NM (by rfl),Bool.and_self,cond_true]
   have hv:=PZ (n:=num) (by omega)
   have hvb:=Bo h.1
   have key:=loopN (A:=Unit) (n:=(n.toNat+31) / 32) (Lp:=Et) (st:=fun i _=>.c0 k n (ofBytes (IK num)) (ofBytes (Df (bs k) (IK num) i)) (i:Int)) (Inv:=fun _ _=>True) (out:=fun _ _=>some (ofBytes (BZ (bs k) (IK num) n.toNat),true))
    (fun m _ _=>by
     rw [Et]
     simp only [Y9]
     rw [NM (by rw [ofBytes_size,Ph,decide_eq_false_iff_not];omega),TB (by rw [ofBytes_size,Ph];simp;omega)]
     refine congrArg (fun x=>some (x,true)) (Ia ?_)
     rw [JZ,SN (MAG _ _ _),SN (TAS _ _ _),BZ,List.drop_zero])
    (fun m i _ hi _=>.inr ⟨(),by
     have e:w64 ((i:Int)+1)=((i+1:Nat):Int):=by rw [w64_id (by omega) (by omega)];rfl
     have h9:(⟨#[109]⟩:ByteArray).size=1:=rfl
     rw [Et]
     simp only [Y9,e]
     rw [TB (by rw [ofBytes_size,Ph,decide_eq_true_eq];omega),TB (by rw [ofBytes_size,h9,decide_eq_true_eq];omega),Eo (by omega) (by omega),Option.bind_some,TB (by rw [ByteArray.size_append,ofBytes_size,ofBytes_size,h9,decide_eq_true_eq,List.length_singleton];omega)]
     rw [WAd hk (by rw [ByteArray.size_append,ByteArray.size_append,ofBytes_size,ofBytes_size,h9,List.length_singleton];omega),Option.bind_some,KAd k h.1 h.2 i (by omega),TB (by rw [ofBytes_size,ofBytes_size,Ph,Yr,decide_eq_true_eq];omega)]
     rw [show ofBytes (Df (bs k) (IK num) i)++ofBytes (Fe (bs k) (109::(IK num++[(i:Int)])))=ofBytes (Df (bs k) (IK num) (i+1)) from Ia (by
      rw [PY,SN (MAG _ _ _),SN (MAG _ _ _),SN (L9 _ _),Df])],trivial,rfl⟩)
   exact key gas 0 () (Nat.zero_le _) (gas_lt (by omega)) trivial
theorem CAu {k s:ByteArray} {num:Int} (hk:k.size≤900000000) (hn:0≤num∧num≤1000000000) (hs:s.size≤800000000):Ht k num s=some (ofBytes (VZ (bs k) num (bs s))):=by
 have hv:=PZ (n:=num) (by omega)
 have h9:(⟨#[116]⟩:ByteArray).size=1:=rfl
 have e:bs (⟨#[116]⟩:ByteArray)=[116]:=rfl
 have h16:(16:Int).toNat=16:=rfl
 rw [Ht,OAH,Gn (by omega),Option.bind_some,TB (by rw [ofBytes_size,h9,decide_eq_true_eq];omega),TB (by rw [ByteArray.size_append,ofBytes_size,h9,decide_eq_true_eq];omega)]
 rw [WAd hk (by rw [ByteArray.size_append,ByteArray.size_append,ofBytes_size,h9];omega),Option.bind_some,TB (by rw [JAd];decide)]
 refine congrArg some (Ia ?_)
 rw [JZ,IAd,h16,SN (N9 _ _ _),PY,PY,e,SN (Bo hn.1),VZ,List.drop_zero,List.append_assoc]
 rfl
theorem DAu {a b:ByteArray} (ha:a.size≤140737488351232) (h:a.size≤b.size):Ot a b=some (ofBytes (FY (bs a) (bs b))):=by
 have hl:=bs_len a
 have hl2:=bs_len b
 have key:=loopN (A:=Unit) (n:=(bs a).length) (Lp:=Kt) (st:=fun i _=>.c0 b ((bs a).length:Int) (i:Int) (List.zipWith xb ((bs a).take i) ((bs b).take i)++(bs a).drop i)) (Inv:=fun _ _=>True) (out:=fun _ _=>some (ofBytes (FY (bs a) (bs b))))
  (fun m _ _=>by
   rw [Kt]
   simp only [AAA]
   rw [NM (by simp),List.take_length,List.drop_length,List.append_nil,FY,UAS])
  (fun m i _ hi _=>.inr ⟨(),by
   have e:w64 ((i:Int)+1)=((i+1:Nat):Int):=by rw [w64_id (by omega) (by omega)];rfl
   have hlen:(List.zipWith xb ((bs a).take i) ((bs b).take i)++(bs a).drop i).length=(bs a).length:=by simp;omega
   rw [Kt]
   simp only [AAA,e,Int.toNat_natCast,hlen,JAG,NAd hi (show i<(bs b).length by omega)]
   rw [TB (by simp;omega),TB (by simp;omega),TB (by simp;omega),TB (by simp;omega),Vd (by omega),MAd hi (by omega)],trivial,rfl⟩)
 rw [Ot,QAH,TB (by simp;omega),Z8]
 exact key gas 0 () (Nat.zero_le _) (gas_lt (by omega)) trivial
theorem XAd (t:ByteArray) {n:Nat} (h:t.size=n+16):bs (t.extract 0 n)=(bs t).take (t.size - 16)∧bs (t.extract n t.size)=(bs t).drop (t.size - 16):=by
 rw [JZ,JZ,List.take_of_length_le (by rw [bs_len];omega:(bs t).length≤t.size),h,Nat.add_sub_cancel]
 exact ⟨rfl,rfl⟩
theorem WAn {k t:ByteArray} {num:Int} (hk:k.size≤900000000) (ht:t.size≤800000000):Zi k num t=some (RX k num t):=by
 rw [Zi,RAH,RX]
 have hw:w64 ((t.size:Int) - 16)=(t.size:Int) - 16:=w64_id (by omega) (by omega)
 rw [hw]
 by_cases h:t.size<16
 ·rw [TB (by simp;omega),TB (by simp;omega)]
 ·obtain ⟨n,hn⟩:∃ n,t.size=n+16:=⟨t.size - 16,by omega⟩
  obtain ⟨e1,e2⟩:=XAd t hn
  have hz:(t.size:Int) - 16=(n:Int):=by omega
  have hb:=bs_len t
  rw [NM (by simp;omega),BAu hk,Option.bind_some,Zr,hz,show decide ((t.size:Int)<16)=false by simp;omega,Bool.false_or]
  cases hm:maskOk num n
  ·rfl
  ·have h':=OAd.1 hm
   have hml:=Ef (bs k) (IK num) n
   have hes:(t.extract 0 n).size=n:=by simp;omega
   rw [Bool.not_true,cond_false,cond_true,NM (by rfl),Int.toNat_natCast,TB (by simp;omega),CAu hk h'.1 (by omega),Option.bind_some,TB (by simp;omega),Gh,SN (N9 _ _ _),e1,e2]
   cases hc:(VZ (bs k) num ((bs t).take (t.size - 16)) == (bs t).drop (t.size - 16))
   ·rfl
   ·rw [Bool.not_true,cond_false,TB (by simp;omega),DAu (by omega) (by rw [ofBytes_size,hml];omega),Option.bind_some,SN (TAS _ _ _),e1,cond_true,show t.size - 16=n by omega]
theorem JAm {k t:ByteArray} {num:Int} (hk:k.size≤900000000) (ht:t.size≤800000000):Zl k num t=some (RX k num t):=by
 rw [Zl,RAO,RX]
 have hw:w64 ((t.size:Int) - 16)=(t.size:Int) - 16:=w64_id (by omega) (by omega)
 rw [hw]
 by_cases h:t.size<16
 ·rw [TB (by simp;omega),TB (by simp;omega)]
 ·obtain ⟨n,hn⟩:∃ n,t.size=n+16:=⟨t.size - 16,by omega⟩
  obtain ⟨e1,e2⟩:=XAd t hn
  have hz:(t.size:Int) - 16=(n:Int):=by omega
  have hb:=bs_len t
  have hes:(t.extract 0 n).size=n:=by simp;omega
  rw [NM (by simp;omega),hz,Int.toNat_natCast,hes,TB (by simp;omega),TAs hk,Option.bind_some,Zr,show decide ((t.size:Int)<16)=false by simp;omega,Bool.false_or]
  cases hm:maskOk num n
  ·rfl
  ·have h':=OAd.1 hm
   have hml:=Ef (bs k) (IK num) n
   rw [Bool.not_true,cond_false,cond_true,NM (by rfl),Int.toNat_natCast,UAs hk h'.1 (by omega),Option.bind_some,TB (by simp;omega)]
   simp only [GAE,OAO,Option.bind_some,Gh,SN (N9 _ _ _),e1,e2]
   cases hc:(VZ (bs k) num ((bs t).take (t.size - 16)) == (bs t).drop (t.size - 16))
   ·rfl
   ·rw [Bool.not_true,cond_false,VAs (by omega) (by rw [ofBytes_size,hml];omega),Option.bind_some,SN (TAS _ _ _),e1,cond_true,show t.size - 16=n by omega]
def Ti (text:ByteArray) (c:SL19Cur):Prop:=∃ p:Nat,∃ b:Bool,c=⟨text,(p:Int),b⟩∧p≤text.size
theorem SAG {text:ByteArray} {c:SL19Cur} (hs:text.size≤140737488351232) (h:Ti text c):∃ v c',Ed c=some (v,c')∧Ti text c'∧0≤v∧v≤1000000000:=by
 obtain ⟨p,b,rfl,hp⟩:=h
 obtain ⟨r,hr,hR⟩:=CAs hs hp
 simp only [Ed,MAE,hr,Option.bind_some]
 cases b
 ·rcases hR with rfl | ⟨v,q,rfl,h0,h1,_,h3⟩
  ·exact ⟨_,_,rfl,⟨p,true,rfl,hp⟩,by omega,by omega⟩
  ·exact ⟨_,_,rfl,⟨q,false,rfl,h3⟩,h0,h1⟩
 ·exact ⟨_,_,rfl,⟨p,true,rfl,hp⟩,by omega,by omega⟩
theorem O9 {text:ByteArray} {a:Nat} {V:Int} (hs:text.size≤140737488351232) (hV0:0≤V) (hV:V≤1000000000) (hA:At text a (IK V)):Ed ⟨text,(a:Int),false⟩=some (V,⟨text,((a+(IK V).length:Nat):Int),false⟩):=by
 simp only [Ed,MAE,SAS hs hV0 hV hA,Option.bind_some]
 rfl
theorem ZAS {text:ByteArray} {c:SL19Cur} {n:Int} (hs:text.size≤140737488351232) (h:Ti text c) (h0:0≤n) (h1:n≤1000000000):∃ s c',Ib c n=some (s,c')∧Ti text c'∧s.size≤1000000000∧(c'.fBad=false→(s.size:Int)=n∧c.fAt+n≤(text.size:Int)):=by
 obtain ⟨p,b,rfl,hp⟩:=h
 simp only [Ib,JAE]
 have e1:w64 ((text.size:Int) - (p:Int))=(text.size:Int) - p:=w64_id (by omega) (by omega)
 have e2:w64 ((p:Int)+n)=p+n:=w64_id (by omega) (by omega)
 have e3:w64 ((p:Int)+n - n)=p:=by rw [w64_id (by omega) (by omega)];omega
 rw [e1,e2,e3]
 cases b
 ·by_cases hn:n > (text.size:Int) - p
  ·rw [show decide (n > (text.size:Int) - p)=true from decide_eq_true hn]
   exact ⟨_,_,rfl,⟨p,true,rfl,hp⟩,by show 0≤_;omega,fun h=>by cases h⟩
  ·rw [show decide (n > (text.size:Int) - p)=false from decide_eq_false hn,show decide ((0:Int)≤(p:Int))=true from decide_eq_true (by omega),show decide ((p:Int)≤p+n)=true from decide_eq_true (by omega),show decide ((p:Int)+n≤(text.size:Int))=true from decide_eq_true (by omega)]
   have hz:(text.extract (p:Int).toNat ((p:Int)+n).toNat).size=n.toNat:=by rw [ByteArray.size_extract];omega
   refine ⟨_,_,rfl,⟨((p:Int)+n).toNat,false,?_,by omega⟩,by rw [hz];omega,fun _=>⟨by rw [hz];omega,by show (p:Int)+n≤_;omega⟩⟩
   rw [Int.toNat_of_nonneg (by omega)]
 ·exact ⟨_,_,rfl,⟨p,true,rfl,hp⟩,by show 0≤_;omega,fun h=>by cases h⟩
theorem AAT {text:ByteArray} {p:Nat} {s:ByteArray} (hs:text.size≤140737488351232) (hA:At text p (bs s)) (hp:p≤text.size):Ib ⟨text,(p:Int),false⟩ (s.size:Int)=some (s,⟨text,((p+s.size:Nat):Int),false⟩):=by
 have hz:p+s.size≤text.size:=by
  rcases hA.size with h | h
  ·have:=congrArg List.length h;rw [bs_len,List.length_nil] at this;omega
  ·rw [bs_len] at h;exact h
 have e1:w64 ((text.size:Int) - (p:Int))=(text.size:Int) - p:=w64_id (by omega) (by omega)
 have e2:w64 ((p:Int)+(s.size:Int))=((p+s.size:Nat):Int):=by rw [w64_id (by omega) (by omega)];omega
 have e3:w64 (((p+s.size:Nat):Int) - (s.size:Int))=p:=by rw [w64_id (by omega) (by omega)];omega
 simp only [Ib,JAE,e1,e2,e3,Int.toNat_natCast]
 have hx:=hA.extract (fun n hn=>CAS hn)
 rw [bs_len,YAF] at hx
 rw [show decide ((s.size:Int) > (text.size:Int) - p)=false from decide_eq_false (by omega),show decide ((0:Int)≤(p:Int))=true from decide_eq_true (by omega),show decide ((p:Int)≤((p+s.size:Nat):Int))=true from decide_eq_true (by omega),show decide (((p+s.size:Nat):Int)≤(text.size:Int))=true from decide_eq_true (by omega),hx]
 rfl
theorem BAT {text:ByteArray} {c:SL19Cur} (hs:text.size≤140737488351232) (h:Ti text c):∃ v c',Jb c=some (v,c')∧Ti text c'∧0≤v∧v≤255∧(c'.fBad=true→v=0)∧(c'.fBad=false→c.fAt+1≤(text.size:Int)):=by
 obtain ⟨s,c',e,hc,_,hn⟩:=ZAS (n:=1) hs h (by omega) (by omega)
 simp only [Jb,LAE,e,Option.bind_some]
 cases hb:c'.fBad
 ·obtain ⟨h1,h2⟩:=hn hb
  rw [show decide ((0:Int)≤(0:Int))=true from rfl,show decide ((0:Int)<(s.size:Int))=true from decide_eq_true (by omega)]
  have:=Eh s 0
  rw [w64_id (n:=bt s 0) (by omega) (by omega)]
  exact ⟨_,_,rfl,hc,this.1,this.2,fun h=>(by rw [hb] at h;cases h),fun _=>h2⟩
 ·exact ⟨_,_,rfl,hc,by omega,by omega,fun _=>rfl,fun h=>(by rw [hb] at h;cases h)⟩
theorem Es {text:ByteArray} {p:Nat} {b:Int} (hs:text.size≤140737488351232) (hA:At text p [b]):Jb ⟨text,(p:Int),false⟩=some (b,⟨text,((p+1:Nat):Int),false⟩):=by
 obtain ⟨h1,h2⟩:=hA.head
 have hb:=Eh text p
 rw [h2] at hb
 have hB:bs (ofBytes [b])=[b]:=SN (by simpa using hb)
 have e:=AAT (s:=ofBytes [b]) hs (by rw [hB];exact hA) (Nat.le_of_lt h1)
 have h0:bt (ofBytes [b]) 0=b:=by
  have:=ZAF (s:=ofBytes [b]) (i:=0) (by rw [ofBytes_size];simp)
  simp only [hB] at this
  exact this
 simp only [Jb,LAE]
 rw [show Ib ⟨text,(p:Int),false⟩ 1=_ from e]
 simp only [Option.bind_some,h0,w64_id (n:=b) (by omega) (by omega)]
 rfl
theorem EAu {text:ByteArray} {c:SL19Cur} (hs:text.size≤140737488351232) (h:Ti text c):∃ s c',Am c=some (s,c')∧Ti text c'∧s.size≤1000000000:=by
 obtain ⟨v,c1,e1,h1,h2,h3⟩:=SAG hs h
 obtain ⟨s,c2,e2,h4,h5,_⟩:=ZAS hs h1 h2 h3
 simp only [Am,NAE,e1,e2,Option.bind_some]
 exact ⟨_,_,rfl,h4,h5⟩
theorem FAu {text:ByteArray} {p:Nat} {s:ByteArray} (hs:text.size≤140737488351232) (hz:s.size≤1000000000) (hA:At text p (IK (s.size:Int)++bs s)):Am ⟨text,(p:Int),false⟩=some (s,⟨text,((p+(IK (s.size:Int)).length+s.size:Nat):Int),false⟩):=by
 have hp:p+(IK (s.size:Int)).length≤text.size:=by
  rcases hA.left.size with h | h
  ·have:=Xd (s.size:Int);rw [h] at this;simp at this
  ·exact h
 simp only [Am,NAE,O9 hs (by omega) (by omega) hA.left,AAT hs hA.right hp,Option.bind_some]
def DAv (f:Int) (h a b c:Bool):Prop:=f=(bif h then 1 else 0)+(bif a then 2 else 0)+(bif b then 4 else 0)+(bif c then 8 else 0)
theorem GAu (x:SThing):(((AZ x).tmod 2 == 1)=x.fHidden)∧(((w64 ((AZ x).tdiv 2)).tmod 2 == 1)=x.fFixed)∧(((w64 ((AZ x).tdiv 4)).tmod 2 == 1)=x.fSigns)∧(((w64 ((AZ x).tdiv 8)).tmod 2 == 1)=x.fWraps):=by
 unfold AZ
 cases x.fHidden <;> cases x.fFixed <;> cases x.fSigns <;> cases x.fWraps <;> decide
theorem YAd {x:SThing} (h:GY x=true):bs (Af x)=IK x.fId++([x.fKind]++([AZ x]++((IK (x.fValue.size:Int)++bs x.fValue)++IK x.fNext))):=by
 obtain ⟨k1,k2,k3,k4,k5,k6,k7⟩:=Xe h
 have hf:=I9 x
 unfold Af Ae
 simp only [PY,SN (Md x.fId (by omega)),SN (Md x.fNext (by omega)),SN (Md (x.fValue.size:Int) (by omega)),SN (l:=[x.fKind]) (by simp;omega),SN (l:=[AZ x]) (by simp;omega),List.append_assoc]
def CAT (text:ByteArray) (r:SThing×Bool):Prop:=(r.2=true∧DY r.1=(text,true))∨r=(⟨(0:Int),(0:Int),false,false,false,false,(⟨#[]⟩:ByteArray),(0:Int)⟩,false)
theorem ZAd {text:ByteArray} (hs:text.size≤140737488351232):∃ r,Ei text=some r∧CAT text r:=by
 obtain ⟨v0,c0,e0,h0,_⟩:=SAG hs (c:=⟨text,(0:Int),false⟩) ⟨0,false,rfl,by omega⟩
 obtain ⟨v1,c1,e1,h1,_⟩:=BAT hs h0
 obtain ⟨v2,c2,e2,h2,_⟩:=BAT hs h1
 obtain ⟨v3,c3,e3,h3,_⟩:=EAu hs h2
 obtain ⟨v4,c4,e4,h4,_⟩:=SAG hs h3
 simp only [Ei,OAE,e0,e1,e2,e3,e4,MAS,Option.bind_some]
 cases c4.fBad
 ·cases h5:(DY (⟨v0,v1,v2.tmod 2 == 1,(w64 (v2.tdiv 2)).tmod 2 == 1,(w64 (v2.tdiv 4)).tmod 2 == 1,(w64 (v2.tdiv 8)).tmod 2 == 1,v3,v4⟩:SThing)).2
  ·exact ⟨_,rfl,.inr rfl⟩
  ·rw [toList_inj]
   by_cases h6:(DY (⟨v0,v1,v2.tmod 2 == 1,(w64 (v2.tdiv 2)).tmod 2 == 1,(w64 (v2.tdiv 4)).tmod 2 == 1,(w64 (v2.tdiv 8)).tmod 2 == 1,v3,v4⟩:SThing)).1=text
   ·rw [decide_eq_true h6];exact ⟨_,rfl,.inl ⟨rfl,Prod.ext h6 h5⟩⟩
   ·rw [decide_eq_false h6];exact ⟨_,rfl,.inr rfl⟩
 ·exact ⟨_,rfl,.inr rfl⟩
theorem AAe {text:ByteArray} {x:SThing} (h:DY x=(text,true)):GY x=true∧text=Af x:=by
 unfold DY at h
 cases ho:GY x <;> rw [ho] at h
 ·simp at h
 ·exact ⟨rfl,(congrArg Prod.fst h).symm⟩
theorem BAe {text:ByteArray} {x:SThing} (hs:text.size≤140737488351232) (h:DY x=(text,true)):Ei text=some (x,true):=by
 obtain ⟨ho,rfl⟩:=AAe h
 obtain ⟨k1,k2,k3,k4,k5,k6,k7⟩:=Xe ho
 have hf:=I9 x
 have hA:At (Af x) 0 _:=⟨[],by rw [List.drop_zero,YAd ho,List.append_nil]⟩
 have a1:=hA.right
 have a2:=a1.right
 have a3:=a2.right
 have a4:=a3.right
 have e0:=O9 hs (by omega) (by omega) hA.left
 have e1:=Es hs a1.left
 have e2:=Es hs a2.left
 have e3:=FAu hs (by omega) a3.left
 have e4:=O9 hs (by omega) (by omega) a4
 simp only [List.length_append,bs_len,List.length_singleton,Nat.zero_add,←Nat.add_assoc] at e0 e1 e2 e3 e4
 obtain ⟨b1,b2,b3,b4⟩:=GAu x
 simp only [Ei,OAE]
 rw [show ((0:Int))=((0:Nat):Int) from rfl,e0]
 simp only [e1,e2,e3,e4,Option.bind_some,b1,b2,b3,b4,MAS,h,toList_self]
 rfl
def NZ:SRec:=⟨(0:Int),(⟨#[]⟩:ByteArray),(0:Int),(⟨(0:Int),(0:Int),false,false,false,false,(⟨#[]⟩:ByteArray),(0:Int)⟩:SThing)⟩
def Xq (text:ByteArray) (r:SRec×Bool):Prop:=(r.2=true∧TT r.1=(text,true))∨r=(NZ,false)
theorem Yq {text:ByteArray} (x:SRec) (bad:Bool):∃ r,(bif bad then some (NZ,false) else bif !(TT x).2 then some (NZ,false) else bif !((ByteArray.toList (TT x).1) == (ByteArray.toList text)) then some (NZ,false) else some (x,true))=some r∧Xq text r:=by
 cases bad
 ·cases h5:(TT x).2
  ·exact ⟨_,rfl,.inr rfl⟩
  ·rw [toList_inj]
   by_cases h6:(TT x).1=text
   ·rw [decide_eq_true h6];exact ⟨_,rfl,.inl ⟨rfl,Prod.ext h6 h5⟩⟩
   ·rw [decide_eq_false h6];exact ⟨_,rfl,.inr rfl⟩
 ·exact ⟨_,rfl,.inr rfl⟩
theorem KAR {text:ByteArray} (hs:text.size≤140737488351232):∃ r,Fa text=some r∧Xq text r:=by
 obtain ⟨v0,c0,e0,h0,_,_,hz,hn⟩:=BAT hs (c:=⟨text,(0:Int),false⟩) ⟨0,false,rfl,by omega⟩
 obtain ⟨v1,c1,e1,h1,_⟩:=ZAS (n:=32) hs h0 (by omega) (by omega)
 obtain ⟨v3,c3,e3,h3,_⟩:=SAG hs h0
 simp only [Fa,Cm,e0,e1,e3,Xr,Option.bind_some]
 cases v0 == 1
 ·simp only [cond_false]
  cases v0 == 2
  ·simp only [cond_false]
   cases v0 == 4
   ·simp only [cond_false]
    cases h:v0 == 3
    ·exact Yq _ _
    ·have hv:v0=3:=beq_iff_eq.1 h
     have hsz:(0:Int)+1≤(text.size:Int):=by
      cases hb:c0.fBad
      ·exact hn hb
      ·have:=hz hb;omega
     obtain ⟨r,e5,_⟩:=ZAd (text:=text.extract (1:Int).toNat text.size) (by rw [ByteArray.size_extract];omega)
     rw [show decide ((1:Int)≤(text.size:Int))=true from decide_eq_true (by omega),e5]
     exact Yq _ _
   ·exact Yq _ _
  ·exact Yq _ _
 ·exact Yq _ _
theorem RAa {text:ByteArray} {x:SRec} (h:TT x=(text,true)) :
  (∃ s:ByteArray,x=⟨1,s,0,NZ.fThing⟩∧s.size=32∧text=ofBytes [1]++s)∨(∃ n:Int,x=⟨2,NZ.fText,n,NZ.fThing⟩∧0≤n∧n≤3∧text=ofBytes [2]++ofBytes (IK n))∨
  (∃ t:SThing,∃ s:ByteArray,x=⟨3,NZ.fText,0,t⟩∧DY t=(s,true)∧text=ofBytes [3]++s)∨(∃ n:Int,x=⟨4,NZ.fText,n,NZ.fThing⟩∧1≤n∧n≤1000∧text=ofBytes [4]++ofBytes (IK n)):=by
 have hE:∀ s:ByteArray,JY s=true→s=⟨#[]⟩:=fun s h=>by unfold JY at h;rw [toList_inj] at h;exact of_decide_eq_true h
 have hZ:∀ t:SThing,NY t=true→t=NZ.fThing:=fun t h=>by
  unfold NY at h
  simp only [NAS] at h
  obtain ⟨t1,t2,t3,t4,t5,t6,t7,t8⟩:=t
  simp only [Bool.and_eq_true,beq_iff_eq] at h
  obtain ⟨rfl,rfl,rfl,rfl,rfl,rfl,h7,rfl,_⟩:=h
  rw [hE _ h7];rfl
 obtain ⟨k,s,n,t⟩:=x
 unfold TT at h
 simp only at h
 cases k1:k == 1 <;> rw [k1] at h
 ·cases k2:k == 2 <;> rw [k2] at h
  ·cases k3:k == 3 <;> rw [k3] at h
   ·cases k4:k == 4 <;> rw [k4] at h
    ·exact Bool.noConfusion (congrArg Prod.snd h)
    ·simp only [cond_false,cond_true] at h
     cases hc:JY s && NY t && FN n 1 1000 <;> rw [hc] at h
     ·exact Bool.noConfusion (congrArg Prod.snd h)
     ·simp only [Bool.and_eq_true,WX] at hc
      refine .inr (.inr (.inr ⟨n,?_,hc.2.1,hc.2.2,(congrArg Prod.fst h).symm⟩))
      rw [beq_iff_eq.1 k4,hE _ hc.1.1,hZ _ hc.1.2];rfl
   ·simp only [cond_false,cond_true] at h
    cases hc:(DY t).2 && JY s && n == 0 <;> rw [hc] at h
    ·exact Bool.noConfusion (congrArg Prod.snd h)
    ·simp only [Bool.and_eq_true,beq_iff_eq] at hc
     refine .inr (.inr (.inl ⟨t,(DY t).1,?_,Prod.ext rfl hc.1.1,(congrArg Prod.fst h).symm⟩))
     rw [beq_iff_eq.1 k3,hE _ hc.1.2,hc.2];rfl
  ·simp only [cond_false,cond_true] at h
   cases hc:JY s && NY t && FN n 0 3 <;> rw [hc] at h
   ·exact Bool.noConfusion (congrArg Prod.snd h)
   ·simp only [Bool.and_eq_true,WX] at hc
    refine .inr (.inl ⟨n,?_,hc.2.1,hc.2.2,(congrArg Prod.fst h).symm⟩)
    rw [beq_iff_eq.1 k2,hE _ hc.1.1,hZ _ hc.1.2];rfl
 ·simp only [cond_false,cond_true] at h
  cases hc:(s.size:Int) == 32 && n == 0 && NY t <;> rw [hc] at h
  ·exact Bool.noConfusion (congrArg Prod.snd h)
  ·simp only [Bool.and_eq_true,beq_iff_eq] at hc
   refine .inl ⟨s,?_,by omega,(congrArg Prod.fst h).symm⟩
   rw [beq_iff_eq.1 k1,hZ _ hc.2,hc.1.2]
theorem Qm {k:Int} {s:ByteArray} (h0:0≤k) (h1:k≤255):At (ofBytes [k]++s) 0 ([k]++bs s):=⟨[],by rw [List.drop_zero,PY,SN (by simp;omega),List.append_nil]⟩
theorem JAR {k:Int} {s:ByteArray}:(ofBytes [k]++s).extract (1:Int).toNat (ofBytes [k]++s).size=s:=by
 apply Ia
 rw [JZ,←bs_len,List.take_length,PY]
 rfl
theorem BAm {text:ByteArray} {x:SRec} (hs:text.size≤140737488351232) (h:TT x=(text,true)):Fa text=some (x,true):=by
 rcases RAa h with ⟨s,rfl,hz,rfl⟩ | ⟨n,rfl,h0,h1,rfl⟩ | ⟨t,s,rfl,ht,rfl⟩ | ⟨n,rfl,h0,h1,rfl⟩
 ·have hA:=Qm (k:=1) (s:=s) (by omega) (by omega)
  have e0:=Es hs hA.left
  have e1:=AAT hs hA.right (by rw [ba_append_size,ofBytes_size];simp)
  simp only [List.length_singleton,Nat.zero_add,hz] at e0 e1
  simp only [Fa,Cm]
  rw [show Jb ⟨ofBytes [1]++s,(0:Int),false⟩=_ from e0]
  simp only [Option.bind_some]
  rw [show Ib ⟨ofBytes [1]++s,((1:Nat):Int),false⟩ 32=_ from e1]
  have h':TT ⟨1,s,0,⟨(0:Int),(0:Int),false,false,false,false,(⟨#[]⟩:ByteArray),(0:Int)⟩⟩=_:=h
  simp only [Option.bind_some,Xr,h',toList_self]
  rfl
 ·have hA:=Qm (k:=2) (s:=ofBytes (IK n)) (by omega) (by omega)
  rw [SN (Md n h0)] at hA
  have e0:=Es hs hA.left
  have e1:=O9 hs (by omega) (by omega) hA.right
  simp only [List.length_singleton,Nat.zero_add] at e0 e1
  simp only [Fa,Cm]
  rw [show Jb ⟨ofBytes [2]++ofBytes (IK n),(0:Int),false⟩=_ from e0]
  have h':TT ⟨2,⟨#[]⟩,n,⟨(0:Int),(0:Int),false,false,false,false,(⟨#[]⟩:ByteArray),(0:Int)⟩⟩=_:=h
  simp only [Option.bind_some,e1,Xr,h',toList_self]
  rfl
 ·have hA:=Qm (k:=3) (s:=s) (by omega) (by omega)
  have e0:=Es hs hA.left
  have hsz:s.size≤140737488351232:=by rw [ba_append_size] at hs;omega
  have e1:=BAe hsz ht
  simp only [List.length_singleton,Nat.zero_add] at e0
  simp only [Fa,Cm]
  rw [show Jb ⟨ofBytes [3]++s,(0:Int),false⟩=_ from e0]
  have h':TT ⟨3,⟨#[]⟩,0,t⟩=_:=h
  have hd:decide ((1:Int)≤((ofBytes [3]++s).size:Int))=true:=decide_eq_true (by rw [ba_append_size,ofBytes_size];simp only [List.length_singleton];omega)
  simp only [Option.bind_some,JAR,e1,Xr,h',toList_self,hd]
  rfl
 ·have hA:=Qm (k:=4) (s:=ofBytes (IK n)) (by omega) (by omega)
  rw [SN (Md n (by omega))] at hA
  have e0:=Es hs hA.left
  have e1:=O9 hs (by omega) (by omega) hA.right
  simp only [List.length_singleton,Nat.zero_add] at e0 e1
  simp only [Fa,Cm]
  rw [show Jb ⟨ofBytes [4]++ofBytes (IK n),(0:Int),false⟩=_ from e0]
  have h':TT ⟨4,⟨#[]⟩,n,⟨(0:Int),(0:Int),false,false,false,false,(⟨#[]⟩:ByteArray),(0:Int)⟩⟩=_:=h
  simp only [Option.bind_some,e1,Xr,h',toList_self]
  rfl
theorem P9:∀ {a m:List Int},ZX a→a.length≤m.length→FY (FY a m) m=a
 | [],_,_,_=>by simp [FY]
 | _::_,[],_,h=>by simp at h
 | x::a,y::m,hb,h=>by
  have h1:=P9 (a:=a) (m:=m) (fun n hn=>hb n (List.mem_cons_of_mem _ hn)) (by simpa using h)
  simp only [FY] at h1 ⊢
  rw [List.zipWith_cons_cons,List.zipWith_cons_cons,h1,IAs (hb x (List.mem_cons_self ..))]
theorem HAu {k t:ByteArray} {num:Int} (h:(RX k num t).2=true):16≤t.size∧maskOk num ((t.size:Int) - 16)=true∧VZ (bs k) num ((bs t).take (t.size - 16))=(bs t).drop (t.size - 16)∧bs (RX k num t).1=FY ((bs t).take (t.size - 16)) (BZ (bs k) (IK num) (t.size - 16))∧bs t=(bs t).take (t.size - 16)++VZ (bs k) num ((bs t).take (t.size - 16)):=by
 rw [RX] at h ⊢
 cases h1:decide ((t.size:Int)<16) || !(maskOk num ((t.size:Int) - 16))
 ·rw [h1,cond_false] at h
  rw [Bool.or_eq_false_iff,decide_eq_false_iff_not,Bool.not_eq_false'] at h1
  cases h2:(VZ (bs k) num ((bs t).take (t.size - 16)) == (bs t).drop (t.size - 16))
  ·rw [h2] at h;cases h
  ·rw [cond_false,cond_true,SN (LAd _ _)]
   have h3:=beq_iff_eq.1 h2
   exact ⟨by omega,h1.2,h3,rfl,by rw [h3,List.take_append_drop]⟩
 ·rw [h1] at h;cases h
theorem LAR (k t:ByteArray) (num:Int):(RX k num t).1.size≤t.size:=by
 have hl:=bs_len t
 rw [RX]
 cases decide ((t.size:Int)<16) || !(maskOk num ((t.size:Int) - 16))
 ·rw [cond_false]
  cases (VZ (bs k) num ((bs t).take (t.size - 16)) == (bs t).drop (t.size - 16))
  ·exact Nat.zero_le _
  ·rw [cond_true,ofBytes_size,FY,List.length_zipWith,List.length_take];omega
 ·exact Nat.zero_le _
theorem EAv {k:ByteArray} {num:Int} {s:List Int} (hs:ZX s) (hm:maskOk num s.length=true):RX k num (ofBytes (Qa (bs k) num s))=(ofBytes s,true):=by
 have hx:(FY s (BZ (bs k) (IK num) s.length)).length=s.length:=NAG (by rw [Ef];omega)
 have hb:ZX (Qa (bs k) num s):=fun x hx=>by
  rcases List.mem_append.1 hx with hx | hx
  ·exact LAd _ _ x hx
  ·exact N9 _ _ _ x hx
 have hsz:(ofBytes (Qa (bs k) num s)).size=s.length+16:=by rw [ofBytes_size,Qa,List.length_append,hx,VAS]
 rw [RX,SN hb,hsz,Nat.add_sub_cancel,show ((s.length+16:Nat):Int) - 16=(s.length:Int) by omega,hm]
 have h1:decide (((s.length+16:Nat):Int)<16)=false:=by rw [decide_eq_false_iff_not];omega
 have h2:(Qa (bs k) num s).take s.length=FY s (BZ (bs k) (IK num) s.length):=by rw [Qa,List.take_append_of_le_length (by omega),List.take_of_length_le (by omega)]
 have h3:(Qa (bs k) num s).drop s.length=VZ (bs k) num (FY s (BZ (bs k) (IK num) s.length)):=by rw [Qa,List.drop_append_of_le_length (by omega),List.drop_of_length_le (by omega),List.nil_append]
 rw [h1,h2,h3,beq_self_eq_true,P9 hs (by rw [Ef];omega)]
 rfl
theorem FAv {k t:ByteArray} {num:Int} (h:(RX k num t).2=true):Qa (bs k) num (bs (RX k num t).1)=bs t:=by
 obtain ⟨h1,h2,h3,h4,h5⟩:=HAu h
 have hl:((bs t).take (t.size - 16)).length=t.size - 16:=by rw [List.length_take,bs_len];omega
 have hx:(bs (RX k num t).1).length=t.size - 16:=by rw [h4,NAG (by rw [Ef];omega),hl]
 rw [Qa,hx,h4,P9 (fun n hn=>Dc t n (List.mem_of_mem_take hn)) (by rw [Ef];omega),←h5]
theorem GAv {k:ByteArray} {num:Int} {a b:List Int} (ha:ZX a) (hb:ZX b) (h:Qa (bs k) num a=Qa (bs k) num b):a=b:=by
 have xa:(FY a (BZ (bs k) (IK num) a.length)).length=a.length:=NAG (by rw [Ef];omega)
 have xb':(FY b (BZ (bs k) (IK num) b.length)).length=b.length:=NAG (by rw [Ef];omega)
 have hl:=congrArg List.length h
 rw [Qa,Qa,List.length_append,List.length_append,xa,xb',VAS,VAS] at hl
 have hab:a.length=b.length:=by omega
 have h1:=(List.append_inj h (by rw [xa,xb',hab])).1
 have h2:FY (FY a (BZ (bs k) (IK num) a.length)) (BZ (bs k) (IK num) a.length)=FY (FY b (BZ (bs k) (IK num) b.length)) (BZ (bs k) (IK num) b.length):=by rw [h1,hab]
 rw [P9 ha (by rw [Ef];omega),P9 hb (by rw [Ef];omega)] at h2
 exact h2
def UAG (text:ByteArray) (c:SFields):Prop:=∃ p:Nat,∃ b:Bool,c=⟨text,(p:Int),b⟩∧p≤text.size
theorem VAG {text:ByteArray} {c:SFields} (hs:text.size≤140737488351232) (h:UAG text c):∃ v c',Uh c=some (v,c')∧UAG text c':=by
 obtain ⟨p,b,rfl,hp⟩:=h
 obtain ⟨r,hr,hR⟩:=IAR hs hp
 simp only [Uh,CAA,hr,Option.bind_some]
 rcases hR with rfl | ⟨v,q,rfl,h0,h1,_,h3⟩
 ·exact ⟨_,_,rfl,⟨p,true,rfl,hp⟩⟩
 ·exact ⟨_,_,rfl,⟨q,b,rfl,h3⟩⟩
theorem WAG {text:ByteArray} {a:Nat} {V:Int} (hs:text.size≤140737488351232) (hV0:0≤V) (hV:V≤1000000000) (hA:At text a (IK V)):Uh ⟨text,(a:Int),false⟩=some (V,⟨text,((a+(IK V).length:Nat):Int),false⟩):=by
 simp only [Uh,CAA,P8 hs hV0 hV hA,Option.bind_some]
 rfl
theorem IAu {text:ByteArray} {a:Nat} (hs:text.size≤140737488351232) (ha:a≤text.size):∃ s q ok,Aj text a=some (s,q,ok)∧(ok=true→∃ p:Nat,q=(p:Int)∧p≤text.size):=by
 obtain ⟨r,hr,hR⟩:=IAR hs ha
 simp only [Aj,DAA,hr,Option.bind_some]
 rcases hR with rfl | ⟨v,q,rfl,h0,h1,h2,h3⟩
 ·exact ⟨_,_,_,rfl,fun h=>by cases h⟩
 ·rw [w64_id (n:=(text.size:Int) - (q:Int)) (by omega) (by omega),w64_id (n:=(q:Int)+v) (by omega) (by omega)]
  simp only [Bool.not_true,cond_false]
  cases decide (v > 20000)
  ·by_cases hv:v > (text.size:Int) - (q:Int)
   ·rw [decide_eq_true hv];exact ⟨_,_,_,rfl,fun h=>by cases h⟩
   ·rw [decide_eq_false hv,show decide ((0:Int)≤(q:Int))=true from decide_eq_true (by omega),show decide ((q:Int)≤q+v)=true from decide_eq_true (by omega),show decide ((q:Int)+v≤(text.size:Int))=true from decide_eq_true (by omega)]
    exact ⟨_,_,_,rfl,fun _=>⟨((q:Int)+v).toNat,by omega,by omega⟩⟩
  ·exact ⟨_,_,_,rfl,fun h=>by cases h⟩
theorem JAu {text:ByteArray} {p:Nat} {s:ByteArray} (hs:text.size≤140737488351232) (hz:s.size≤20000) (hA:At text p (IK (s.size:Int)++bs s)):Aj text p=some (s,((p+(IK (s.size:Int)).length+s.size:Nat):Int),true):=by
 have hp:p+(IK (s.size:Int)).length≤text.size:=by
  rcases hA.left.size with h | h
  ·have:=Xd (s.size:Int);rw [h] at this;simp at this
  ·exact h
 have hA2:=hA.right
 have hx:=hA2.extract (fun n hn=>CAS hn)
 rw [bs_len,YAF] at hx
 simp only [Aj,DAA,P8 hs (by omega) (by omega) hA.left,Option.bind_some]
 generalize p+(IK (s.size:Int)).length=q at *
 have hz:q+s.size≤text.size:=by
  rcases hA2.size with h | h
  ·have:=congrArg List.length h;rw [bs_len,List.length_nil] at this;omega
  ·rw [bs_len] at h;exact h
 have e2:w64 ((q:Int)+(s.size:Int))=((q+s.size:Nat):Int):=by rw [w64_id (by omega) (by omega)];omega
 rw [w64_id (n:=(text.size:Int) - (q:Int)) (by omega) (by omega),e2,Int.toNat_natCast,Int.toNat_natCast,hx,
  show decide ((s.size:Int) > 20000)=false from decide_eq_false (by omega),show decide ((s.size:Int) > (text.size:Int) - (q:Int))=false from decide_eq_false (by omega),show decide ((0:Int)≤(q:Int))=true from decide_eq_true (by omega),show decide ((q:Int)≤((q+s.size:Nat):Int))=true from decide_eq_true (by omega),show decide (((q+s.size:Nat):Int)≤(text.size:Int))=true from decide_eq_true (by omega)]
 rfl
theorem KAu {text:ByteArray} {c:SFields} (hs:text.size≤140737488351232) (h:UAG text c):∃ v c',Bj c=some (v,c')∧UAG text c':=by
 obtain ⟨p,b,rfl,hp⟩:=h
 obtain ⟨s,q,ok,hr,hR⟩:=IAu hs hp
 simp only [Bj,EAA,hr,Option.bind_some]
 cases ok
 ·exact ⟨_,_,rfl,⟨p,true,rfl,hp⟩⟩
 ·obtain ⟨q,rfl,h3⟩:=hR rfl
  exact ⟨_,_,rfl,⟨q,b,rfl,h3⟩⟩
theorem LAu {text:ByteArray} {p:Nat} {s:ByteArray} (hs:text.size≤140737488351232) (hz:s.size≤20000) (hA:At text p (IK (s.size:Int)++bs s)):Bj ⟨text,(p:Int),false⟩=some (s,⟨text,((p+(IK (s.size:Int)).length+s.size:Nat):Int),false⟩):=by
 simp only [Bj,EAA,JAu hs hz hA,Option.bind_some]
 rfl
theorem JAb (x:SThing):Bh x=some (GY x):=by
 simp only [Bh,GAQ,Za,Option.bind_some,GY,bne]
 by_cases k1:x.fKind=1
 ·rw [k1]
  cases FN x.fId 1 1000 <;> cases FN x.fNext 0 16 <;> cases (x.fNext == 0) <;> cases x.fSigns <;> cases x.fWraps <;> simp [FN]
 ·by_cases k2:x.fKind=2
  ·rw [k2]
   cases FN x.fId 1 1000 <;> cases FN x.fNext 0 16 <;> cases (x.fNext == 0) <;> cases x.fSigns <;> cases x.fWraps <;> simp [FN]
  ·by_cases k3:x.fKind=3
   ·rw [k3]
    cases FN x.fId 1 1000 <;> cases FN x.fNext 0 16 <;> cases (x.fNext == 0) <;> cases x.fSigns <;> cases x.fWraps <;> simp [FN]
   ·have hr:FN x.fKind 1 3=false:=by
     cases h:FN x.fKind 1 3
     ·rfl
     ·rw [WX] at h;omega
    have e1:(x.fKind == 1)=false:=by simpa using k1
    have e2:(x.fKind == 2)=false:=by simpa using k2
    have e3:(x.fKind == 3)=false:=by simpa using k3
    rw [hr,e1,e2,e3]
    cases FN x.fId 1 1000 <;> cases FN x.fNext 0 16 <;> cases (x.fNext == 0) <;> cases x.fSigns <;> cases x.fWraps <;> rfl
theorem MAu {s:ByteArray} (h:s.size≤140737488351232):U7 s=some (Ae s):=by
 simp only [U7,NAQ,Gn (n:=(s.size:Int)) (by omega),Option.bind_some]
 have:=PZ (n:=(s.size:Int)) (by omega)
 rw [show decide ((ofBytes (IK (s.size:Int))).size+s.size≤9223372036854775807)=true from decide_eq_true (by rw [ofBytes_size];omega)]
 rfl
theorem DAT (x:SThing):Cj x=some (DY x):=by
 simp only [Cj,OAQ,JAb,Option.bind_some,DY]
 cases h:GY x
 ·rfl
 ·obtain ⟨k1,k2,k3,k4,k5,k6,k7⟩:=Xe h
  obtain ⟨z1,z2,z3⟩:=LAS h
  have hf:=I9 x
  have e1:∀ n:Int,(ofBytes [n]).size=1:=fun n=>ofBytes_size _
  simp only [QAr,Option.bind_some,Gn (n:=x.fId) (by omega),Eo (n:=x.fKind) (by omega) (by omega),Eo hf.1 (by omega),MAu (s:=x.fValue) (by omega),Gn (n:=x.fNext) (by omega),ba_append_size,e1]
  simp only [Bool.not_true,cond_false,cond_true]
  rw [show decide ((ofBytes (IK x.fId)).size+1≤9223372036854775807)=true from decide_eq_true (by omega),show decide ((ofBytes (IK x.fId)).size+1+1≤9223372036854775807)=true from decide_eq_true (by omega),
   show decide ((ofBytes (IK x.fId)).size+1+1+(Ae x.fValue).size≤9223372036854775807)=true from decide_eq_true (by omega),show decide ((ofBytes (IK x.fId)).size+1+1+(Ae x.fValue).size+(ofBytes (IK x.fNext)).size≤9223372036854775807)=true from decide_eq_true (by omega)]
  rfl
theorem NAu (x:SThing):((w64 (((BitVec.toNat ((BitVec.ofInt (IntKind.bits IntKind.i64) (AZ x)) &&& (BitVec.ofInt (IntKind.bits IntKind.i64) (1:Int)))):Nat):Int) != 0)=x.fHidden)∧((w64 (((BitVec.toNat ((BitVec.ofInt (IntKind.bits IntKind.i64) (AZ x)) &&& (BitVec.ofInt (IntKind.bits IntKind.i64) (2:Int)))):Nat):Int) != 0)=x.fFixed)∧((w64 (((BitVec.toNat ((BitVec.ofInt (IntKind.bits IntKind.i64) (AZ x)) &&& (BitVec.ofInt (IntKind.bits IntKind.i64) (4:Int)))):Nat):Int) != 0)=x.fSigns)∧((w64 (((BitVec.toNat ((BitVec.ofInt (IntKind.bits IntKind.i64) (AZ x)) &&& (BitVec.ofInt (IntKind.bits IntKind.i64) (8:Int)))):Nat):Int) != 0)=x.fWraps):=by
 unfold AZ
 cases x.fHidden <;> cases x.fFixed <;> cases x.fSigns <;> cases x.fWraps <;> refine ⟨?_,?_,?_,?_⟩ <;> kernel_rfl
theorem QAa {text:ByteArray} (hs:text.size≤140737488351232):∃ r,Vh text=some r∧CAT text r:=by
 obtain ⟨v0,c0,e0,h0⟩:=VAG hs (c:=⟨text,(0:Int),false⟩) ⟨0,false,rfl,by omega⟩
 obtain ⟨v1,c1,e1,h1⟩:=VAG hs h0
 obtain ⟨v2,c2,e2,h2⟩:=VAG hs h1
 obtain ⟨v3,c3,e3,h3⟩:=KAu hs h2
 obtain ⟨v4,c4,e4,h4⟩:=VAG hs h3
 simp only [Vh,FAA,e0,e1,e2,e3,e4,DAT,Option.bind_some]
 generalize (w64 (((BitVec.toNat ((BitVec.ofInt (IntKind.bits IntKind.i64) v2) &&& (BitVec.ofInt (IntKind.bits IntKind.i64) (1:Int)))):Nat):Int) != 0)=b1
 generalize (w64 (((BitVec.toNat ((BitVec.ofInt (IntKind.bits IntKind.i64) v2) &&& (BitVec.ofInt (IntKind.bits IntKind.i64) (2:Int)))):Nat):Int) != 0)=b2
 generalize (w64 (((BitVec.toNat ((BitVec.ofInt (IntKind.bits IntKind.i64) v2) &&& (BitVec.ofInt (IntKind.bits IntKind.i64) (4:Int)))):Nat):Int) != 0)=b3
 generalize (w64 (((BitVec.toNat ((BitVec.ofInt (IntKind.bits IntKind.i64) v2) &&& (BitVec.ofInt (IntKind.bits IntKind.i64) (8:Int)))):Nat):Int) != 0)=b4
 cases c4.fBad
 ·cases h5:(DY (⟨v0,v1,b1,b2,b3,b4,v3,v4⟩:SThing)).2
  ·exact ⟨_,rfl,.inr rfl⟩
  ·rw [toList_inj]
   by_cases h6:(DY (⟨v0,v1,b1,b2,b3,b4,v3,v4⟩:SThing)).1=text
   ·rw [decide_eq_true h6];exact ⟨_,rfl,.inl ⟨rfl,Prod.ext h6 h5⟩⟩
   ·rw [decide_eq_false h6];exact ⟨_,rfl,.inr rfl⟩
 ·exact ⟨_,rfl,.inr rfl⟩
theorem SAa {text:ByteArray} {x:SThing} (hs:text.size≤140737488351232) (h:DY x=(text,true)):Vh text=some (x,true):=by
 obtain ⟨ho,rfl⟩:=AAe h
 obtain ⟨k1,k2,k3,k4,k5,k6,k7⟩:=Xe ho
 have hf:=I9 x
 have hA:At (Af x) 0 _:=⟨[],by rw [List.drop_zero,YAd ho,List.append_nil]⟩
 rw [←J9 (n:=x.fKind) (by omega) (by omega),←J9 (n:=AZ x) (by omega) (by omega)] at hA
 have a1:=hA.right
 have a2:=a1.right
 have a3:=a2.right
 have a4:=a3.right
 have e0:=WAG hs (by omega) (by omega) hA.left
 have e1:=WAG hs (by omega) (by omega) a1.left
 have e2:=WAG hs (by omega) (by omega) a2.left
 have e3:=LAu hs (by omega) a3.left
 have e4:=WAG hs (by omega) (by omega) a4
 simp only [List.length_append,bs_len,Nat.zero_add,←Nat.add_assoc] at e0 e1 e2 e3 e4
 obtain ⟨b1,b2,b3,b4⟩:=NAu x
 simp only [Vh,FAA]
 rw [show Uh ⟨Af x,(0:Int),false⟩=_ from e0]
 simp only [e1,e2,e3,e4,Option.bind_some,b1,b2,b3,b4,DAT,h,toList_self]
 rfl
theorem HAv {text:ByteArray} (hs:text.size≤140737488351232):∃ r,Ei text=some r∧Vh text=some r∧CAT text r:=by
 obtain ⟨r,hr,h⟩:=ZAd hs
 obtain ⟨q,hq,h'⟩:=QAa hs
 rcases h with ⟨h1,h2⟩ | h
 ·have:=SAa hs h2
  refine ⟨r,hr,?_,.inl ⟨h1,h2⟩⟩
  rw [this];congr 1;exact Prod.ext rfl h1.symm
 ·rcases h' with ⟨h1,h2⟩ | h'
  ·have:=BAe hs h2
   rw [hr] at this
   injection this with this
   rw [h] at this
   exact Bool.noConfusion (congrArg Prod.snd this)
  ·exact ⟨r,hr,by rw [hq,h',h],.inr h⟩
theorem Ii {r:SRec} (g:r.fNum≤9223372036854775807):Fj r=some (TT r):=by
 simp only [Fj,PAQ,Za,DAT,Gn g,Option.bind_some,AAd]
 simp only [NAS,TT]
 cases k1:r.fKind == 1
 ·simp only [cond_false]
  cases k2:r.fKind == 2
  ·simp only [cond_false]
   cases k3:r.fKind == 3
   ·simp only [cond_false]
    cases k4:r.fKind == 4
    ·rfl
    ·have k:r.fKind=4:=by simpa using k4
     rw [k]
     simp only [beq_self_eq_true,Eo (n:=4) (by omega) (by omega),Option.bind_some,Bool.true_and,cond_true]
     cases h:FN r.fNum 1 1000
     ·cases JY r.fText <;> cases NY r.fThing <;> rfl
     ·cases JY r.fText <;> cases NY r.fThing <;> (try rfl)
      simp only [Bool.not_true,cond_false,cond_true,Bool.and_self,decide_eq_true (EAG (by omega) h 4)]
   ·have k:r.fKind=3:=by simpa using k3
    rw [k]
    simp only [beq_self_eq_true,Eo (n:=3) (by omega) (by omega),Option.bind_some,Bool.true_and,cond_true,Bool.and_true]
    cases h:(DY r.fThing).2
    ·cases JY r.fText <;> cases r.fNum == 0 <;> rfl
    ·cases JY r.fText <;> cases r.fNum == 0 <;> (try rfl)
     simp only [Bool.not_true,cond_false,cond_true,Bool.and_self,decide_eq_true (BAd h 3)]
  ·have k:r.fKind=2:=by simpa using k2
   rw [k]
   simp only [beq_self_eq_true,Eo (n:=2) (by omega) (by omega),Option.bind_some,Bool.true_and,cond_true]
   cases h:FN r.fNum 0 3
   ·cases JY r.fText <;> cases NY r.fThing <;> rfl
   ·cases JY r.fText <;> cases NY r.fThing <;> (try rfl)
    simp only [Bool.not_true,cond_false,cond_true,Bool.and_self,decide_eq_true (EAG (by omega) h 2)]
 ·have k:r.fKind=1:=by simpa using k1
  rw [k]
  simp only [beq_self_eq_true,Eo (n:=1) (by omega) (by omega),Option.bind_some,Bool.true_and,cond_true]
  cases h:(r.fText.size:Int) == 32 <;> cases r.fNum == 0 <;> cases NY r.fThing <;> (try rfl)
  have h':r.fText.size=32:=by have:=beq_iff_eq.1 h;omega
  have e:(ofBytes [1]).size+r.fText.size≤9223372036854775807:=by rw [ofBytes_size];simp only [List.length_singleton];omega
  simp only [Bool.not_true,cond_false,cond_true,Bool.and_self,decide_eq_true e]
end Go.Proofs.YthfpmhalgimbbaaGreatDoor.G
