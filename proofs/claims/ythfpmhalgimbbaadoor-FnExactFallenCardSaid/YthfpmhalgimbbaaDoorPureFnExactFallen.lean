/- The plain law of FnExactFallen: whatever the arguments, it answers true. Conditions: what is read is in reach. Part 1 of 1. -/
import Derived.Test.YthfpmhalgimbbaaDoorFFnExactFallen
import Derived.Test.YthfpmhalgimbbaaDoorOpens
import Derived.Test.YthfpmhalgimbbaaDoorPBase
namespace Go.Proofs.YthfpmhalgimbbaaDoor.G
open Go Go.Ev
set_option linter.unusedVariables false
set_option linter.unusedSimpArgs false
theorem CAB {a:SFile} (g:GSFile a) (n:Int):∃ r,MZ a n=some r:=by
 unfold MZ Cm
 cases decide ((w64 (n - (a.fName.size:Int)))<0)
 rotate_left
 ·exact ⟨_,rfl⟩
 simp only [cond_false]
 cases decide ((w64 ((w64 (n - (a.fName.size:Int))) - (a.fText.size:Int)))<0)
 rotate_left
 ·exact ⟨_,rfl⟩
 simp only [cond_false]
 exact ⟨_,rfl⟩
theorem DAB {a:(List SFile)} (g:(GList 40 GSFile) a) (n:Int):∃ r,Jd a n=some r:=by
 have h:=g.1
 have key:∀ m i l,i≤a.length→a.length - i<m→∃ r,Bj m (.c0 a l i)=some r:=by
  intro m
  induction m with
  | zero=>intro i l _ h;omega
  | succ m ih=>
   intro i l h1 h2
   simp only [Bj,Jm]
   by_cases hi:i<a.length
   ·have hw:w64 ((i:Int)+1)=((i+1:Nat):Int):=by rw [w64_id (by omega) (by omega)];rfl
    obtain ⟨r,hr⟩:=CAB (g.2 _ (List.getElem_mem hi)) l
    simp only [Int.toNat_natCast,getD_at hi,hr,Option.bind_some,hw]
    rw [show (decide ((i:Int)<(a.length:Int)))=true from decide_eq_true (by omega),show (decide ((0:Int)≤(i:Int)))=true from decide_eq_true (by omega)]
    simp only [Bool.and_self,cond_true]
    cases decide (r<0)
    ·exact ih (i+1) r hi (by omega)
    ·exact ⟨_,rfl⟩
   ·rw [show (decide ((i:Int)<(a.length:Int)))=false from decide_eq_false (by omega)]
    exact ⟨_,rfl⟩
 unfold Jd Gm
 cases decide (w64 (n - (a.length:Int))<0)
 ·exact key gas 0 _ (Nat.zero_le _) (gas_lt (by omega))
 ·exact ⟨_,rfl⟩
theorem EAB {a:SDisk} (g:GSDisk a) (n:Int):∃ r,Ld a n=some r:=by
 unfold Ld Om
 obtain ⟨r0,hr0⟩:=DAB (g) (n)
 simp only [hr0,Option.bind_some]
 cases decide (r0<0)
 rotate_left
 ·exact ⟨_,rfl⟩
 simp only [cond_false]
 exact ⟨_,rfl⟩
theorem FAB {a:SThing} (g:GSThing a) (n:Int):∃ r,Qb a n=some r:=⟨_,cond_some _ _ _⟩
theorem GAB {a:(List SThing)} (g:(GList 48 GSThing) a) (n:Int):∃ r,Qd a n=some r:=by
 have h:=g.1
 have key:∀ m i l,i≤a.length→a.length - i<m→∃ r,Ej m (.c0 a l i)=some r:=by
  intro m
  induction m with
  | zero=>intro i l _ h;omega
  | succ m ih=>
   intro i l h1 h2
   simp only [Ej,Sm]
   by_cases hi:i<a.length
   ·have hw:w64 ((i:Int)+1)=((i+1:Nat):Int):=by rw [w64_id (by omega) (by omega)];rfl
    obtain ⟨r,hr⟩:=FAB (g.2 _ (List.getElem_mem hi)) l
    simp only [Int.toNat_natCast,getD_at hi,hr,Option.bind_some,hw]
    rw [show (decide ((i:Int)<(a.length:Int)))=true from decide_eq_true (by omega),show (decide ((0:Int)≤(i:Int)))=true from decide_eq_true (by omega)]
    simp only [Bool.and_self,cond_true]
    cases decide (r<0)
    ·exact ih (i+1) r hi (by omega)
    ·exact ⟨_,rfl⟩
   ·rw [show (decide ((i:Int)<(a.length:Int)))=false from decide_eq_false (by omega)]
    exact ⟨_,rfl⟩
 unfold Qd Qm
 cases decide (w64 (n - (a.length:Int))<0)
 ·exact key gas 0 _ (Nat.zero_le _) (gas_lt (by omega))
 ·exact ⟨_,rfl⟩
theorem IAB {a:SBook} (g:GSBook a) (n:Int):∃ r,Td a n=some r:=by
 unfold Td Vm
 cases decide ((w64 (n - (a.fWord.size:Int)))<0)
 rotate_left
 ·exact ⟨_,rfl⟩
 simp only [cond_false]
 obtain ⟨r0,hr0⟩:=GAB (g.2.2.1) ((w64 (n - (a.fWord.size:Int))))
 simp only [hr0,Option.bind_some]
 cases decide (r0<0)
 rotate_left
 ·exact ⟨_,rfl⟩
 simp only [cond_false]
 cases decide ((w64 (r0 - (a.fChain.size:Int)))<0)
 rotate_left
 ·exact ⟨_,rfl⟩
 simp only [cond_false]
 exact ⟨_,rfl⟩
theorem JAB {a:(List SSession)} (_:(GList 16 GSSession) a) (n:Int):∃ r,Fj a n=some r:=⟨_,cond_some _ _ _⟩
theorem KAB {a:(List SLive)} (_:(GList 16 GSLive) a) (n:Int):∃ r,Gj a n=some r:=⟨_,cond_some _ _ _⟩
theorem LAB {a:SBox} (g:GSBox a) (n:Int):∃ r,Ud a n=some r:=by
 unfold Ud Dn
 cases decide ((w64 (n - (a.fKey.size:Int)))<0)
 rotate_left
 ·exact ⟨_,rfl⟩
 simp only [cond_false]
 obtain ⟨r0,hr0⟩:=EAB (g.2.2.1) ((w64 (n - (a.fKey.size:Int))))
 simp only [hr0,Option.bind_some]
 cases decide (r0<0)
 rotate_left
 ·exact ⟨_,rfl⟩
 simp only [cond_false]
 obtain ⟨r1,hr1⟩:=IAB (g.2.2.2.1) (r0)
 simp only [hr1,Option.bind_some]
 cases decide (r1<0)
 rotate_left
 ·exact ⟨_,rfl⟩
 simp only [cond_false]
 obtain ⟨r2,hr2⟩:=JAB (g.2.2.2.2.1) (r1)
 simp only [hr2,Option.bind_some]
 cases decide (r2<0)
 rotate_left
 ·exact ⟨_,rfl⟩
 simp only [cond_false]
 obtain ⟨r3,hr3⟩:=KAB (g.2.2.2.2.2.1) (r2)
 simp only [hr3,Option.bind_some]
 cases decide (r3<0)
 rotate_left
 ·exact ⟨_,rfl⟩
 simp only [cond_false]
 exact ⟨_,rfl⟩
theorem MAB {a:SFile} (g:GSFile a):NZ a=some a:=by
 simp only [NZ,En,Option.bind_some]
theorem NAB {a:(List SFile)} (g:(GList 40 GSFile) a):Xd a=some a:=by
 have h:=g.1
 have key:∀ m i,i≤a.length→a.length - i<m→OZ m (.c0 a i (a.take i++List.replicate (a.length - i) (⟨(⟨#[]⟩:ByteArray),(⟨#[]⟩:ByteArray),(0:Int)⟩:SFile)))=some a:=fun m i h1 h2=>
  loopN (A:=Unit) (n:=a.length) (Lp:=OZ) (st:=fun i _=>.c0 a i (a.take i++List.replicate (a.length - i) (⟨(⟨#[]⟩:ByteArray),(⟨#[]⟩:ByteArray),(0:Int)⟩:SFile))) (Inv:=fun _ _=>True) (out:=fun _ _=>some a)
   (fun m _ _=>by simp [OZ,Jj])
   (fun m i _ hi _=>.inr ⟨(),by
    have hw:w64 ((i:Int)+1)=((i+1:Nat):Int):=by rw [w64_id (by omega) (by omega)];rfl
    have hc:=copied_len (Nat.le_of_lt hi) (⟨(⟨#[]⟩:ByteArray),(⟨#[]⟩:ByteArray),(0:Int)⟩:SFile)
    simp only [OZ,Jj,Int.toNat_natCast,getD_at hi,MAB (g.2 _ (List.getElem_mem hi)),Option.bind_some,hw,copied hi,hc]
    simp [hi],trivial,rfl⟩) m i () h1 h2 trivial
 have h0:OZ gas (.c0 a 0 (List.replicate a.length (⟨(⟨#[]⟩:ByteArray),(⟨#[]⟩:ByteArray),(0:Int)⟩:SFile)))=some a:=by
  have:=key gas 0 (Nat.zero_le _) (gas_lt (by omega))
  simpa using this
 unfold Xd Pn
 simp only [Int.toNat_natCast,h0]
 simp [show a.length*40≤140737488355328 from by omega,show ((a.length:Int)≤9223372036854775807) from by omega]
 try omega
theorem OAB {a:SDisk} (g:GSDisk a):Yd a=some a:=by
 simp only [Yd,Rn,NAB (g),Option.bind_some]
theorem PAB {a:SThing} (g:GSThing a):PZ a=some a:=by
 simp only [PZ,Tn,Option.bind_some]
theorem QAB {a:(List SThing)} (g:(GList 48 GSThing) a):Ae a=some a:=by
 have h:=g.1
 have key:∀ m i,i≤a.length→a.length - i<m→QZ m (.c0 a i (a.take i++List.replicate (a.length - i) (⟨(0:Int),(0:Int),false,false,false,false,(⟨#[]⟩:ByteArray),(0:Int)⟩:SThing)))=some a:=fun m i h1 h2=>
  loopN (A:=Unit) (n:=a.length) (Lp:=QZ) (st:=fun i _=>.c0 a i (a.take i++List.replicate (a.length - i) (⟨(0:Int),(0:Int),false,false,false,false,(⟨#[]⟩:ByteArray),(0:Int)⟩:SThing))) (Inv:=fun _ _=>True) (out:=fun _ _=>some a)
   (fun m _ _=>by simp [QZ,Nj])
   (fun m i _ hi _=>.inr ⟨(),by
    have hw:w64 ((i:Int)+1)=((i+1:Nat):Int):=by rw [w64_id (by omega) (by omega)];rfl
    have hc:=copied_len (Nat.le_of_lt hi) (⟨(0:Int),(0:Int),false,false,false,false,(⟨#[]⟩:ByteArray),(0:Int)⟩:SThing)
    simp only [QZ,Nj,Int.toNat_natCast,getD_at hi,PAB (g.2 _ (List.getElem_mem hi)),Option.bind_some,hw,copied hi,hc]
    simp [hi],trivial,rfl⟩) m i () h1 h2 trivial
 have h0:QZ gas (.c0 a 0 (List.replicate a.length (⟨(0:Int),(0:Int),false,false,false,false,(⟨#[]⟩:ByteArray),(0:Int)⟩:SThing)))=some a:=by
  have:=key gas 0 (Nat.zero_le _) (gas_lt (by omega))
  simpa using this
 unfold Ae Wn
 simp only [Int.toNat_natCast,h0]
 simp [show a.length*48≤140737488355328 from by omega,show ((a.length:Int)≤9223372036854775807) from by omega]
 try omega
theorem RAB {a:SBook} (g:GSBook a):Ce a=some a:=by
 simp only [Ce,Yn,QAB (g.2.2.1),Option.bind_some]
theorem SAB {a:SSession} (g:GSSession a):RZ a=some a:=by
 simp only [RZ,Zn,Option.bind_some]
theorem TAB {a:(List SSession)} (g:(GList 16 GSSession) a):Fe a=some a:=by
 have h:=g.1
 have key:∀ m i,i≤a.length→a.length - i<m→UZ m (.c0 a i (a.take i++List.replicate (a.length - i) (⟨(0:Int),false⟩:SSession)))=some a:=fun m i h1 h2=>
  loopN (A:=Unit) (n:=a.length) (Lp:=UZ) (st:=fun i _=>.c0 a i (a.take i++List.replicate (a.length - i) (⟨(0:Int),false⟩:SSession))) (Inv:=fun _ _=>True) (out:=fun _ _=>some a)
   (fun m _ _=>by simp [UZ,Pj])
   (fun m i _ hi _=>.inr ⟨(),by
    have hw:w64 ((i:Int)+1)=((i+1:Nat):Int):=by rw [w64_id (by omega) (by omega)];rfl
    have hc:=copied_len (Nat.le_of_lt hi) (⟨(0:Int),false⟩:SSession)
    simp only [UZ,Pj,Int.toNat_natCast,getD_at hi,SAB (g.2 _ (List.getElem_mem hi)),Option.bind_some,hw,copied hi,hc]
    simp [hi],trivial,rfl⟩) m i () h1 h2 trivial
 have h0:UZ gas (.c0 a 0 (List.replicate a.length (⟨(0:Int),false⟩:SSession)))=some a:=by
  have:=key gas 0 (Nat.zero_le _) (gas_lt (by omega))
  simpa using this
 unfold Fe Eo
 simp only [Int.toNat_natCast,h0]
 simp [show a.length*16≤140737488355328 from by omega,show ((a.length:Int)≤9223372036854775807) from by omega]
 try omega
theorem UAB {a:SLive} (g:GSLive a):VZ a=some a:=by
 simp only [VZ,Ho,Option.bind_some]
theorem VAB {a:(List SLive)} (g:(GList 16 GSLive) a):Ie a=some a:=by
 have h:=g.1
 have key:∀ m i,i≤a.length→a.length - i<m→WZ m (.c0 a i (a.take i++List.replicate (a.length - i) (⟨(0:Int),(0:Int)⟩:SLive)))=some a:=fun m i h1 h2=>
  loopN (A:=Unit) (n:=a.length) (Lp:=WZ) (st:=fun i _=>.c0 a i (a.take i++List.replicate (a.length - i) (⟨(0:Int),(0:Int)⟩:SLive))) (Inv:=fun _ _=>True) (out:=fun _ _=>some a)
   (fun m _ _=>by simp [WZ,Rj])
   (fun m i _ hi _=>.inr ⟨(),by
    have hw:w64 ((i:Int)+1)=((i+1:Nat):Int):=by rw [w64_id (by omega) (by omega)];rfl
    have hc:=copied_len (Nat.le_of_lt hi) (⟨(0:Int),(0:Int)⟩:SLive)
    simp only [WZ,Rj,Int.toNat_natCast,getD_at hi,UAB (g.2 _ (List.getElem_mem hi)),Option.bind_some,hw,copied hi,hc]
    simp [hi],trivial,rfl⟩) m i () h1 h2 trivial
 have h0:WZ gas (.c0 a 0 (List.replicate a.length (⟨(0:Int),(0:Int)⟩:SLive)))=some a:=by
  have:=key gas 0 (Nat.zero_le _) (gas_lt (by omega))
  simpa using this
 unfold Ie Jo
 simp only [Int.toNat_natCast,h0]
 simp [show a.length*16≤140737488355328 from by omega,show ((a.length:Int)≤9223372036854775807) from by omega]
 try omega
theorem WAB {a:SBox} (g:GSBox a):Je a=some a:=by
 simp only [Je,Oo,OAB (g.2.2.1),RAB (g.2.2.2.1),TAB (g.2.2.2.2.1),VAB (g.2.2.2.2.2.1),Option.bind_some]
theorem Za {n:Int}:w32 n=n % 4294967296:=by
 simp only [w32,IntKind.wrap,IntKind.signed,IntKind.bits]
 simp
theorem QY {n:Int} (h1:0≤n) (h2:n<4294967296):w32 n=n:=by rw [Za];omega
def R32 (n:Int):Prop:=0≤n∧n<4294967296
theorem WX (n:Int):R32 (w32 n):=by unfold R32;rw [Za];omega
theorem PAG {n:Int} (h:0≤n∧n≤255):R32 n:=by unfold R32;omega
def xr (x y:Int):Int:=w32 (((BitVec.toNat ((BitVec.ofInt (IntKind.bits IntKind.u32) x) ^^^ (BitVec.ofInt (IntKind.bits IntKind.u32) y))):Nat):Int)
def an (x y:Int):Int:=w32 (((BitVec.toNat ((BitVec.ofInt (IntKind.bits IntKind.u32) x) &&& (BitVec.ofInt (IntKind.bits IntKind.u32) y))):Nat):Int)
def Wi (x y:Int):Int:=w32 (((BitVec.toNat ((BitVec.ofInt (IntKind.bits IntKind.u32) x) ||| (BitVec.ofInt (IntKind.bits IntKind.u32) y))):Nat):Int)
theorem Cb (x y:Int):w32 (((BitVec.toNat ((BitVec.ofInt (IntKind.bits IntKind.u32) x) ^^^ (BitVec.ofInt (IntKind.bits IntKind.u32) y))):Nat):Int)=xr x y:=rfl
theorem Dz (x y:Int):w32 (((BitVec.toNat ((BitVec.ofInt (IntKind.bits IntKind.u32) x) &&& (BitVec.ofInt (IntKind.bits IntKind.u32) y))):Nat):Int)=an x y:=rfl
theorem Ez (x y:Int):w32 (((BitVec.toNat ((BitVec.ofInt (IntKind.bits IntKind.u32) x) ||| (BitVec.ofInt (IntKind.bits IntKind.u32) y))):Nat):Int)=Wi x y:=rfl
theorem QAG (x y:Int):R32 (xr x y):=WX _
theorem RAG (x y:Int):R32 (an x y):=WX _
theorem Fz {a b:Nat} {s:Nat} (hb:b<2 ^ s) (ha:a*2 ^ s<4294967296) (hs:b<4294967296):Wi ((a*2 ^ s:Nat):Int) (b:Int)=((a*2 ^ s+b:Nat):Int):=by
 have e:a*2 ^ s ||| b=a*2 ^ s+b:=by
  have:=Nat.shiftLeft_add_eq_or_of_lt hb a
  rw [Nat.shiftLeft_eq] at this
  exact this.symm
 unfold Wi
 have h3:a*2 ^ s ||| b<2 ^ 32:=Nat.or_lt_two_pow (by omega) (by omega)
 rw [BitVec.toNat_or]
 show w32 (((BitVec.ofInt 32 _).toNat ||| (BitVec.ofInt 32 _).toNat:Nat):Int)=_
 rw [BitVec.ofInt_natCast,BitVec.ofInt_natCast,BitVec.toNat_ofNat,BitVec.toNat_ofNat,Nat.mod_eq_of_lt (by omega),Nat.mod_eq_of_lt (by omega),e]
 rw [e] at h3
 exact QY (by omega) (by omega)
theorem XAB {e:Int} (h:R32 e):xr (ite ((IntKind.signed IntKind.u32)=true) (-(1:Int)) (IntKind.max IntKind.u32)) e=w32 (4294967295 - e):=by
 obtain ⟨h1,h2⟩:=h
 obtain ⟨n,rfl⟩:∃ n:Nat,e=(n:Int):=⟨e.toNat,by omega⟩
 have hn:n<4294967296:=by omega
 have e1:(ite ((IntKind.signed IntKind.u32)=true) (-(1:Int)) (IntKind.max IntKind.u32))=4294967295:=by decide
 rw [e1]
 unfold xr
 show w32 (((BitVec.ofInt 32 4294967295 ^^^ BitVec.ofInt 32 (n:Int)).toNat:Nat):Int)=_
 have e2:BitVec.ofInt 32 4294967295=BitVec.allOnes 32:=by decide
 rw [e2,BitVec.ofInt_natCast,BitVec.allOnes_xor,BitVec.toNat_not,BitVec.toNat_ofNat]
 rw [Za,Za]
 omega
def rt (low high x:Int):Int:=x / low+x % low*high
theorem YAB {low high x:Int} (h:R32 x) (hl:0<low) (hh:0<high) (hlh:low*high=4294967296):R32 (rt low high x):=by
 unfold R32 rt at *
 have h1:0≤x / low:=Int.ediv_nonneg h.1 (by omega)
 have h2:0≤x % low:=Int.emod_nonneg _ (by omega)
 have h3:x % low<low:=Int.emod_lt_of_pos _ hl
 have h4:x / low<high:=Int.ediv_lt_of_lt_mul hl (by rw [Int.mul_comm,hlh];exact h.2)
 have h5:0≤x % low*high:=Int.mul_nonneg h2 (by omega)
 have h6:x % low*high≤(low - 1)*high:=Int.mul_le_mul_of_nonneg_right (by omega) (by omega)
 have h7:(low - 1)*high=low*high - high:=by rw [Int.sub_mul,Int.one_mul]
 omega
theorem ZAB {x:Int} (h:R32 x) (n:Nat) (hn:0<n) (hn2:n<32):Wi (w32 (x*2 ^ (32 - n))) (x / 2 ^ n)=rt (2 ^ n) (2 ^ (32 - n)) x:=by
 obtain ⟨h1,h2⟩:=h
 obtain ⟨y,rfl⟩:∃ y:Nat,x=(y:Int):=⟨x.toNat,by omega⟩
 have hy:y<4294967296:=by omega
 have e0:(4294967296:Nat)=2 ^ n*2 ^ (32 - n):=by rw [←Nat.pow_add,show n+(32 - n)=32 by omega]
 have e1:w32 ((y:Int)*2 ^ (32 - n))=((y % 2 ^ n*2 ^ (32 - n):Nat):Int):=by
  rw [Za]
  have h5:((y:Int)*2 ^ (32 - n))=((y*2 ^ (32 - n):Nat):Int):=by push_cast;rfl
  have h6:y*2 ^ (32 - n) % 4294967296=y % 2 ^ n*2 ^ (32 - n):=by rw [e0,Nat.mul_mod_mul_right]
  rw [h5,←h6]
  omega
 have e2:((y:Int) / 2 ^ n)=((y / 2 ^ n:Nat):Int):=by push_cast;rfl
 have hp:0<2 ^ n:=Nat.two_pow_pos n
 have hp2:0<2 ^ (32 - n):=Nat.two_pow_pos _
 have hm:y % 2 ^ n<2 ^ n:=Nat.mod_lt _ hp
 have hd:y / 2 ^ n<2 ^ (32 - n):=Nat.div_lt_of_lt_mul (by rw [←e0];exact hy)
 rw [e1,e2,Fz hd (by rw [e0];exact Nat.mul_lt_mul_of_pos_right hm hp2) (Nat.lt_of_le_of_lt (Nat.div_le_self _ _) hy)]
 unfold rt
 push_cast
 omega
def bs (s:ByteArray):List Int:=s.data.toList.map fun b=>(b.toNat:Int)
theorem bs_len (s:ByteArray):(bs s).length=s.size:=by unfold bs;rw [List.length_map];rfl
theorem AAC {s:ByteArray} {n:Int} (h:n ∈ bs s):0≤n∧n≤255:=by
 unfold bs at h;rw [List.mem_map] at h;obtain ⟨b,_,rfl⟩:=h
 have:=b.toNat_lt;omega
theorem Lc (a b:ByteArray):bs (a++b)=bs a++bs b:=by simp [bs]
theorem Gz (s:ByteArray):ofBytes (bs s)=s:=by
 cases s;simp [ofBytes,bs,Function.comp_def]
theorem Mc {s t:ByteArray} (h:bs s=bs t):s=t:=by rw [←Gz s,h,Gz]
theorem IY {l:List Int} (h:∀ n,n ∈ l→0≤n∧n≤255):bs (ofBytes l)=l:=by
 simp only [bs,ofBytes,List.map_map]
 conv=>rhs;rw [←List.map_id l]
 apply List.map_congr_left
 intro n hn
 obtain ⟨h1,h2⟩:=h n hn
 simp only [Function.comp,UInt8.toNat_ofNat',id]
 omega
theorem BAC {s:ByteArray} {i:Nat} (h:i<s.size):bt s (i:Int)=(bs s)[i]'(by rw [bs_len];exact h):=by
 simp only [bt,Int.toNat_natCast,h,dite_true,bs,List.getElem_map]
 rfl
theorem SAG (s:ByteArray) (i:Int):0≤bt s i∧bt s i≤255:=by
 unfold bt;split
 ·have:=(s[i.toNat]).toNat_lt;omega
 ·omega
theorem Eb (s:ByteArray) (i j:Nat):bs (s.extract i j)=((bs s).take j).drop i:=by
 simp only [bs,ByteArray.data_extract,Array.toList_extract,List.extract_eq_take_drop,List.map_take,List.map_drop]
 rw [List.drop_take]
theorem TB {α:Type} {c:Bool} {a b:α} (h:c=true):(bif c then a else b)=a:=by rw [h];rfl
theorem IK {α:Type} {c:Bool} {a b:α} (h:c=false):(bif c then a else b)=b:=by rw [h];rfl
theorem Nc {s:ByteArray} {i:Nat} (h:i<s.size):bt s (i:Int)=(bs s).getD i 0:=by rw [BAC h,getD_at]
theorem UAG {s:ByteArray} {i:Int} {j:Nat} (e:i=(j:Int)) (h:j<s.size):bt s i=(bs s).getD j 0:=by rw [e,Nc h]
theorem Xl {α:Type} {a b:List α} {i:Nat} (h:i<a.length) (d:α):(a++b).getD i d=a.getD i d:=by simp [List.getD,List.getElem?_append_left h]
theorem Hz {α:Type} {a b:List α} {i:Nat} (h:a.length≤i) (d:α):(a++b).getD i d=b.getD (i - a.length) d:=by simp [List.getD,List.getElem?_append_right h]
theorem JZ {α:Type} {a b:List α} {x y:α} {i:Nat} (h:a.length=i):(a++x::b).set i y=a++y::b:=by
 rw [List.set_append_right _ _ (by omega),h,Nat.sub_self];rfl
theorem VAG {a b:Nat} (h:a=b):Nat.beq a b=true:=by subst h;exact Nat.beq_refl _
theorem WAG {P:Int→Prop} (n:Int) (h:0≤n) (k:∀ m:Nat,n=(m:Int)→P (m:Int)):P n:=by
 have:=k n.toNat (by omega)
 rwa [show ((n.toNat:Nat):Int)=n by omega] at this
theorem XAG:bs (⟨#[]⟩:ByteArray)=[]:=rfl
def ZX (l:List Int):Prop:=∀ n,n ∈ l→0≤n∧n≤255
theorem AY {l:List Int} (h:ZX l) (i:Nat):0≤l.getD i 0∧l.getD i 0≤255:=by
 by_cases hi:i<l.length
 ·rw [getD_at hi];exact h _ (List.getElem_mem hi)
 ·have:l.getD i 0=0:=by simp [List.getD,List.getElem?_eq_none (Nat.le_of_not_lt hi)]
  omega
theorem Oc (s:ByteArray):ZX (bs s):=fun _ h=>AAC h
theorem CAC (s:ByteArray):bytesOf s=bs s:=rfl
theorem RY {α:Type} {l:List α} {i:Nat} (h:i<l.length) (y d:α):(l.set i y).getD i d=y:=by simp [List.getD,h]
def Iz (x:Int):Int:=xr (xr (rt 128 33554432 x) (rt 262144 16384 x)) (x / 8)
def sg1 (x:Int):Int:=xr (xr (rt 131072 32768 x) (rt 524288 8192 x)) (x / 1024)
def Jz (x:Int):Int:=xr (xr (rt 64 67108864 x) (rt 2048 2097152 x)) (rt 33554432 128 x)
def Kz (x:Int):Int:=xr (xr (rt 4 1073741824 x) (rt 8192 524288 x)) (rt 4194304 1024 x)
def DAC (w:List Int) (t:Nat):Int:=w32 (w32 (w32 (sg1 (w.getD (t - 2) 0)+w.getD (t - 7) 0)+Iz (w.getD (t - 15) 0))+w.getD (t - 16) 0)
def sched (w:List Int):Nat→List Int
 | 0=>w
 | n+1=>sched w n++[DAC (sched w n) (16+n)]
theorem Xi {w:List Int} (h:w.length=16) (n:Nat):(sched w n).length=16+n:=by
 induction n with
 | zero=>exact h
 | succ n ih=>simp [sched,ih];omega
theorem Yl {w:List Int} (h:∀ x ∈ w,R32 x) (n:Nat):∀ x ∈ sched w n,R32 x:=by
 induction n with
 | zero=>exact h
 | succ n ih=>
  intro x hx
  rw [sched,List.mem_append,List.mem_singleton] at hx
  rcases hx with hx | rfl
  ·exact ih x hx
  ·exact WX _
theorem Yi {l:List Int} (h:∀ x ∈ l,R32 x) (i:Nat):R32 (l.getD i 0):=by
 by_cases hi:i<l.length
 ·rw [getD_at hi];exact h _ (List.getElem_mem hi)
 ·have:l.getD i 0=0:=by simp [List.getD,List.getElem?_eq_none (Nat.le_of_not_lt hi)]
  rw [this];unfold R32;omega
structure Reg where
 a:Int
 b:Int
 c:Int
 d:Int
 e:Int
 f:Int
 g:Int
 h:Int
def Reg.ok (r:Reg):Prop:=R32 r.a∧R32 r.b∧R32 r.c∧R32 r.d∧R32 r.e∧R32 r.f∧R32 r.g∧R32 r.h
def Reg.l (r:Reg):List Int:=[r.a,r.b,r.c,r.d,r.e,r.f,r.g,r.h]
theorem Reg.Zi (r:Reg):r.l.length=8:=rfl
def t1 (r:Reg) (k w:Int):Int:=w32 (w32 (w32 (w32 (r.h+Jz r.e)+xr (an r.e r.f) (an (w32 (4294967295 - r.e)) r.g))+k)+w)
def t2 (r:Reg):Int:=w32 (Kz r.a+xr (xr (an r.a r.b) (an r.a r.c)) (an r.b r.c))
def SY (r:Reg) (k w:Int):Reg:=⟨w32 (t1 r k w+t2 r),r.a,r.b,r.c,w32 (r.d+t1 r k w),r.e,r.f,r.g⟩
theorem EAC {r:Reg} (h:r.ok) (k w:Int):(SY r k w).ok:=⟨WX _,h.1,h.2.1,h.2.2.1,WX _,h.2.2.2.2.1,h.2.2.2.2.2.1,h.2.2.2.2.2.2.1⟩
def PX (K W:List Int) (r:Reg):Nat→Reg
 | 0=>r
 | n+1=>SY (PX K W r n) (K.getD n 0) (W.getD n 0)
theorem Nz (K W:List Int) {r:Reg} (h:r.ok) (n:Nat):(PX K W r n).ok:=by
 induction n with
 | zero=>exact h
 | succ n ih=>exact EAC ih _ _
def Fb (s r:Reg):Reg:=⟨w32 (s.a+r.a),w32 (s.b+r.b),w32 (s.c+r.c),w32 (s.d+r.d),w32 (s.e+r.e),w32 (s.f+r.f),w32 (s.g+r.g),w32 (s.h+r.h)⟩
theorem FAC (s r:Reg):(Fb s r).ok:=⟨WX _,WX _,WX _,WX _,WX _,WX _,WX _,WX _⟩
def keysL:List Int:=[1116352408,1899447441,3049323471,3921009573,961987163,1508970993,2453635748,2870763221,3624381080,310598401,607225278,1426881987,1925078388,2162078206,2614888103,3248222580,3835390401,4022224774,264347078,604807628,770255983,1249150122,1555081692,1996064986,2554220882,2821834349,2952996808,3210313671,3336571891,3584528711,113926993,338241895,666307205,773529912,1294757372,1396182291,1695183700,1986661051,2177026350,2456956037,2730485921,2820302411,3259730800,3345764771,3516065817,3600352804,4094571909,275423344,430227734,506948616,659060556,883997877,958139571,1322822218,1537002063,1747873779,1955562222,2024104815,2227730452,2361852424,2428436474,2756734187,3204031479,3329325298]
def be4 (a b c d:Int):Int:=a*16777216+b*65536+c*256+d
def wordAt (l:List Int) (i:Nat):Int:=be4 (l.getD (4*i) 0) (l.getD (4*i+1) 0) (l.getD (4*i+2) 0) (l.getD (4*i+3) 0)
def FN (l:List Int) (n:Nat):List Int:=(List.range n).map (wordAt l)
theorem DZ (l:List Int) (n:Nat):(FN l n).length=n:=by simp [FN]
theorem Oz (l:List Int) (n:Nat):FN l (n+1)=FN l n++[wordAt l n]:=by simp [FN,List.range_succ]
theorem GAC {a b c d:Int} (ha:0≤a∧a≤255) (hb:0≤b∧b≤255) (hc:0≤c∧c≤255) (hd:0≤d∧d≤255):R32 (be4 a b c d):=by unfold R32 be4;omega
theorem HAC {l:List Int} (h:ZX l) (i:Nat):R32 (wordAt l i):=GAC (AY h _) (AY h _) (AY h _) (AY h _)
theorem Yu {l:List Int} (h:ZX l) (n:Nat):∀ x ∈ FN l n,R32 x:=by
 intro x hx
 simp only [FN,List.mem_map] at hx
 obtain ⟨i,_,rfl⟩:=hx
 exact HAC h i
def comp (s:Reg) (b:List Int):Reg:=Fb s (PX keysL (sched (FN b 16) 48) s 64)
theorem Pz (s:Reg) (b:List Int):(comp s b).ok:=FAC _ _
def comps:Nat→Reg→List Int→Reg
 | 0,s,_=>s
 | n+1,s,b=>comps n (comp s (b.take 64)) (b.drop 64)
theorem Ib {s:Reg} (h:s.ok):∀ (n:Nat) (b:List Int),(comps n s b).ok:=by
 intro n
 induction n generalizing s with
 | zero=>intro b;exact h
 | succ n ih=>intro b;exact ih (Pz _ _) _
theorem Qz (n m:Nat):∀ (s:Reg) (b:List Int),comps (n+m) s b=comps m (comps n s b) (b.drop (64*n)):=by
 induction n with
 | zero=>intro s b;simp [comps]
 | succ n ih=>
  intro s b
  rw [Nat.add_right_comm,comps,comps,ih,List.drop_drop]
  congr 2
  omega
theorem IAC (n:Nat):∀ (s:Reg) (b c:List Int),64*n≤b.length→comps n s (b++c)=comps n s b:=by
 induction n with
 | zero=>intro s b c _;rfl
 | succ n ih=>
  intro s b c h
  rw [comps,comps,List.take_append_of_le_length (by omega),List.drop_append_of_le_length (by omega),ih _ _ _ (by simp;omega)]
def four (x:Int):List Int:=[x / 16777216,x / 65536 % 256,x / 256 % 256,x % 256]
theorem Zl {x:Int} (h:R32 x):ZX (four x):=by
 intro n hn
 unfold R32 at h
 simp only [four,List.mem_cons,List.not_mem_nil,or_false] at hn
 rcases hn with rfl | rfl | rfl | rfl <;> omega
def NM (ws:List Int):List Int:=ws.flatMap four
theorem Qc (ws:List Int):(NM ws).length=4*ws.length:=by
 induction ws with
 | nil=>rfl
 | cons w ws ih=>
  rw [show NM (w::ws)=four w++NM ws from rfl,List.length_append,ih]
  simp only [four,List.length_cons,List.length_nil];omega
theorem Zu {ws:List Int} (h:∀ x ∈ ws,R32 x):ZX (NM ws):=by
 intro n hn
 simp only [NM,List.mem_flatMap] at hn
 obtain ⟨x,hx,hn⟩:=hn
 exact Zl (h x hx) n hn
theorem Rz (a b:List Int):NM (a++b)=NM a++NM b:=by simp [NM]
theorem JAC {x:Int} (h:R32 x):be4 (x / 16777216) (x / 65536 % 256) (x / 256 % 256) (x % 256)=x:=by unfold R32 at h;unfold be4;omega
theorem Sz:∀ {ws:List Int} (_:∀ x ∈ ws,R32 x) {i:Nat} (hi:i<ws.length),wordAt (NM ws) i=ws[i]
 | w::ws,h,0,_=>by
  have:=JAC (h w (List.mem_cons_self ..))
  simpa [wordAt,NM,four] using this
 | w::ws,h,i+1,hi=>by
  have ih:=Sz (ws:=ws) (fun x hx=>h x (List.mem_cons_of_mem _ hx)) (i:=i) (by simpa using hi)
  rw [List.getElem_cons_succ,←ih]
  have e:∀ j,(NM (w::ws)).getD (j+4) 0=(NM ws).getD j 0:=fun j=>by simp [NM,four,List.getD]
  unfold wordAt
  rw [show 4*(i+1)=4*i+4 by omega,show 4*i+4+1=(4*i+1)+4 by omega,show 4*i+4+2=(4*i+2)+4 by omega,show 4*i+4+3=(4*i+3)+4 by omega,e,e,e,e]
theorem KAC {ws:List Int} (h:∀ x ∈ ws,R32 x):FN (NM ws) ws.length=ws:=by
 apply List.ext_getElem
 ·rw [DZ]
 ·intro i h1 h2
  simp only [FN,List.getElem_map,List.getElem_range]
  exact Sz h h2
theorem Reg.Jb {r:Reg} (h:r.ok):∀ x ∈ r.l,R32 x:=by
 intro x hx
 simp only [Reg.l,List.mem_cons,List.not_mem_nil,or_false] at hx
 obtain ⟨h1,h2,h3,h4,h5,h6,h7,h8⟩:=h
 rcases hx with rfl | rfl | rfl | rfl | rfl | rfl | rfl | rfl <;> assumption
def JY:Reg:=⟨1779033703,3144134277,1013904242,2773480762,1359893119,2600822924,528734635,1541459225⟩
theorem KZ:JY.ok:=by unfold Reg.ok R32 JY;decide
def TY (n:Int):List Int:=[0,0,0,n / 4294967296 % 256,n / 16777216 % 256,n / 65536 % 256,n / 256 % 256,n % 256]
def TT (n:Nat):List Int:=128::(List.replicate ((119 - n % 64) % 64) 0++TY (8*(n:Int)))
theorem Am (n:Nat):(TT n).length=9+(119 - n % 64) % 64:=by simp [TT,TY];omega
theorem LAC (n:Nat):(n+(TT n).length) % 64=0:=by rw [Am];omega
theorem Bv (n:Nat):ZX (TT n):=by
 intro x hx
 simp only [TT,TY,List.mem_cons,List.mem_append,List.mem_replicate,List.not_mem_nil,or_false] at hx
 omega
def Nb (b:List Int):List Int:=NM (comps ((b.length+(TT b.length).length) / 64) JY (b++TT b.length)).l
def LZ (s:ByteArray):ByteArray:=ofBytes (Nb (bs s))
theorem NAC (b:List Int):(Nb b).length=32:=by rw [Nb,Qc];rfl
theorem OAC (b:List Int):ZX (Nb b):=Zu (Reg.Jb (Ib KZ _ _))
theorem YAG (s:ByteArray):(LZ s).size=32:=by rw [LZ,ofBytes_size,NAC]
theorem AAH (s:ByteArray):bs (LZ s)=Nb (bs s):=IY (OAC _)
theorem PAC {x:Int} (h:R32 x):[w8 (w32 (x.tdiv 16777216)),w8 ((w32 (x.tdiv 65536)).tmod 256),w8 ((w32 (x.tdiv 256)).tmod 256),w8 (x.tmod 256)]=four x:=by
 obtain ⟨h1,h2⟩:=h
 rw [Int.tdiv_eq_ediv_of_nonneg h1,Int.tdiv_eq_ediv_of_nonneg h1,Int.tdiv_eq_ediv_of_nonneg h1,Int.tmod_eq_emod_of_nonneg h1]
 rw [QY (n:=x / 16777216) (by omega) (by omega),QY (n:=x / 65536) (by omega) (by omega),QY (n:=x / 256) (by omega) (by omega)]
 rw [Int.tmod_eq_emod_of_nonneg (by omega),Int.tmod_eq_emod_of_nonneg (by omega)]
 simp only [four,w8_mod,List.cons.injEq,and_true]
 omega
theorem Dv {ws:List Int} (h:∀ x ∈ ws,R32 x) (hl:ws.length≤1000000000000):LY ws=some (ofBytes (NM ws)):=by
 have key:=loopN (A:=Unit) (n:=ws.length) (Lp:=Oe) (st:=fun i _=>.c0 ws (i:Int) (NM (ws.take i))) (Inv:=fun _ _=>True) (out:=fun _ _=>some (ofBytes (NM ws)))
  (fun m _ _=>by
   simp only [Oe,Tj]
   rw [IK (by simp),List.take_length])
  (fun m i _ hi _=>.inr ⟨(),by
   have e:w64 ((i:Int)+1)=((i+1:Nat):Int):=by rw [w64_id (by omega) (by omega)];rfl
   simp only [Oe,Tj,e,Int.toNat_natCast]
   rw [TB (by simp;omega),TB (by simp;omega),TB (by rw [Qc,List.length_take];simp;omega)]
   rw [getD_at hi,PAC (h _ (List.getElem_mem hi)),take_at hi,Rz]
   simp [NM],trivial,rfl⟩)
 exact key gas 0 () (Nat.zero_le _) (gas_lt (by omega)) trivial
def EZ:SHasher:=⟨ofBytes (NM JY.l),⟨#[]⟩,0⟩
theorem QAC:Ue=some EZ:=by
 have h:=Dv (ws:=JY.l) (Reg.Jb KZ) (by decide)
 have e:Sj=some JY.l:=rfl
 simp only [Ue,Uo,e,h,Option.bind_some]
 rfl
def Tc (x a b:Int):Bool:=decide (a≤x) && decide (x≤b)
theorem RAC {x a b:Int}:Tc x a b=true↔a≤x∧x≤b:=by simp [Tc]
theorem SAC (x a b:Int):Uj x a b=some (Tc x a b):=by
 show (bif decide (a≤x) then some (decide (x≤b)) else some false)=some (Tc x a b)
 unfold Tc;cases decide (a≤x) <;> rfl
theorem Tz {h:SHasher} (h1:h.fState.size=32) (h2:h.fRest.size<64) (h3:0≤h.fCount∧h.fCount≤1000000000) (h4:h.fCount % 64=(h.fRest.size:Int)):FY h=some true:=by
 have e:Tc h.fCount 0 1000000000=true:=by rw [RAC];omega
 simp only [FY,Xo,SAC,Option.bind_some,e]
 rw [TB (by simp;omega),TB (by simp;omega),cond_true,Int.tmod_eq_emod_of_nonneg h3.1,h4]
 simp
theorem UAC {s:ByteArray} {i:Nat} (h:4*i+4≤s.size) (hs:s.size≤9000000000000000000):YZ s ((4*i:Nat):Int)=some (wordAt (bs s) i):=by
 have hb:=Oc s
 have e1:w64 (((4*i:Nat):Int)+1)=((4*i+1:Nat):Int):=by rw [w64_id (by omega) (by omega)];rfl
 have e2:w64 (((4*i:Nat):Int)+2)=((4*i+2:Nat):Int):=by rw [w64_id (by omega) (by omega)];rfl
 have e3:w64 (((4*i:Nat):Int)+3)=((4*i+3:Nat):Int):=by rw [w64_id (by omega) (by omega)];rfl
 simp only [YZ,Yo,e1,e2,e3]
 rw [TB (by simp;omega),TB (by simp;omega),TB (by simp;omega),TB (by simp;omega)]
 rw [Nc (by omega),Nc (by omega),Nc (by omega),Nc (by omega)]
 have b0:=AY hb (4*i)
 have b1:=AY hb (4*i+1)
 have b2:=AY hb (4*i+2)
 have b3:=AY hb (4*i+3)
 unfold wordAt be4
 simp only [Za]
 congr 1
 omega
theorem Uz {s:ByteArray} (hs:s.size≤1000000000000):YX s=some (FN (bs s) (s.size / 4)):=by
 have key:=loopN (A:=Unit) (n:=s.size / 4) (Lp:=Xe) (st:=fun i _=>.c0 s ((4*i:Nat):Int) (FN (bs s) i)) (Inv:=fun _ _=>True) (out:=fun _ _=>some (FN (bs s) (s.size / 4)))
  (fun m _ _=>by
   simp only [Xe,Xj]
   rw [w64_id (by omega) (by omega),IK (by simp;omega)])
  (fun m i _ hi _=>.inr ⟨(),by
   have e:w64 (((4*i:Nat):Int)+4)=((4*(i+1):Nat):Int):=by rw [w64_id (by omega) (by omega)];omega
   simp only [Xe,Xj,e,UAC (s:=s) (i:=i) (by omega) (by omega),Option.bind_some,DZ,Oz]
   rw [TB (by simp;omega),TB (by simp;omega)],trivial,rfl⟩)
 exact key gas 0 () (Nat.zero_le _) (gas_lt (by omega)) trivial
theorem ZY {x low high:Int} (h:R32 x) (hl:0<low) (hh:0<high) (hlh:low*high=4294967296):Ye x low high=some (rt low high x):=by
 have hr:=YAB h hl hh hlh
 obtain ⟨h1,h2⟩:=h
 have e0:(!(low == 0))=true:=by simp;omega
 have d1:0≤x / low:=Int.ediv_nonneg h1 (by omega)
 have d2:0≤x % low*high:=Int.mul_nonneg (Int.emod_nonneg _ (by omega)) (by omega)
 unfold R32 rt at hr
 simp only [Ye,Dp,e0,cond_true,Int.tdiv_eq_ediv_of_nonneg h1,Int.tmod_eq_emod_of_nonneg h1]
 rw [QY d1 (by omega),QY d2 (by omega),QY (by omega) (by omega)]
 rfl
theorem VAC {x:Int} (h:R32 x):GY x 131072 524288 1024 true=some (sg1 x):=by
 have e1:w32 (w32 ((2147483648:Int).tdiv 131072)*2)=32768:=by decide
 have e2:w32 (w32 ((2147483648:Int).tdiv 524288)*2)=8192:=by decide
 have e3:w32 (x.tdiv 1024)=x / 1024:=by
  obtain ⟨h1,h2⟩:=h
  rw [Int.tdiv_eq_ediv_of_nonneg h1,QY (by omega) (by omega)]
 simp only [GY,Yb,e1,e2,e3,ZY h (low:=131072) (high:=32768) (by omega) (by omega) (by omega),ZY h (low:=524288) (high:=8192) (by omega) (by omega) (by omega),Option.bind_some,Cb]
 rfl
theorem WAC {x:Int} (h:R32 x):GY x 128 262144 8 true=some (Iz x):=by
 have e1:w32 (w32 ((2147483648:Int).tdiv 128)*2)=33554432:=by decide
 have e2:w32 (w32 ((2147483648:Int).tdiv 262144)*2)=16384:=by decide
 have e3:w32 (x.tdiv 8)=x / 8:=by
  obtain ⟨h1,h2⟩:=h
  rw [Int.tdiv_eq_ediv_of_nonneg h1,QY (by omega) (by omega)]
 simp only [GY,Yb,e1,e2,e3,ZY h (low:=128) (high:=33554432) (by omega) (by omega) (by omega),ZY h (low:=262144) (high:=16384) (by omega) (by omega) (by omega),Option.bind_some,Cb]
 rfl
theorem XAC {x:Int} (h:R32 x):GY x 64 2048 33554432 false=some (Jz x):=by
 have e1:w32 (w32 ((2147483648:Int).tdiv 64)*2)=67108864:=by decide
 have e2:w32 (w32 ((2147483648:Int).tdiv 2048)*2)=2097152:=by decide
 have e3:w32 (w32 ((2147483648:Int).tdiv 33554432)*2)=128:=by decide
 simp only [GY,Yb,e1,e2,e3,ZY h (low:=64) (high:=67108864) (by omega) (by omega) (by omega),ZY h (low:=2048) (high:=2097152) (by omega) (by omega) (by omega),ZY h (low:=33554432) (high:=128) (by omega) (by omega) (by omega),Option.bind_some,Cb]
 rfl
theorem YAC {x:Int} (h:R32 x):GY x 4 8192 4194304 false=some (Kz x):=by
 have e1:w32 (w32 ((2147483648:Int).tdiv 4)*2)=1073741824:=by decide
 have e2:w32 (w32 ((2147483648:Int).tdiv 8192)*2)=524288:=by decide
 have e3:w32 (w32 ((2147483648:Int).tdiv 4194304)*2)=1024:=by decide
 simp only [GY,Yb,e1,e2,e3,ZY h (low:=4) (high:=1073741824) (by omega) (by omega) (by omega),ZY h (low:=8192) (high:=524288) (by omega) (by omega) (by omega),ZY h (low:=4194304) (high:=1024) (by omega) (by omega) (by omega),Option.bind_some,Cb]
 rfl
theorem Vz (s r:Reg):∀ i,i<8→(Fb s r).l.getD i 0=w32 (s.l.getD i 0+r.l.getD i 0)
 | 0,_=>rfl | 1,_=>rfl | 2,_=>rfl | 3,_=>rfl | 4,_=>rfl | 5,_=>rfl | 6,_=>rfl | 7,_=>rfl
 | n+8,h=>by omega
theorem BAH (n:Nat) (h:n<9223372036854775807):∃ m,gas=m+n:=⟨gas - n,by have:=gas_lt h;omega⟩
theorem ZAC (s r:Reg):∀ (j i m:Nat),i+j=8→QX (m+j+1) (.c3 s.l (i:Int) r.l ((Fb s r).l.take i))=some (Fb s r).l:=by
 intro j
 induction j with
 | zero=>
  intro i m h
  obtain rfl:i=8:=by omega
  simp only [QX,VY]
  rfl
 | succ j ih=>
  intro i m h
  have e:w64 ((i:Int)+1)=((i+1:Nat):Int):=by rw [w64_id (by omega) (by omega)];rfl
  have hl:∀ q:Reg,q.l.length=8:=fun _=>rfl
  rw [show m+(j+1)+1=(m+j+1)+1 by omega]
  simp only [QX,VY,e,Int.toNat_natCast]
  rw [TB (by simp;omega),TB (by simp [hl];omega),TB (by simp [hl];omega),TB (by simp [hl];omega)]
  have h3:=ih (i+1) m (by omega)
  rw [take_at (by rw [hl];omega),←getD_at (by rw [hl];omega) 0,Vz _ _ _ (by omega)] at h3
  exact h3
def Fv:Nat→List Int→List Int
 | 0,v=>v
 | i+1,v=>Fv i (v.set (i+1) (v.getD i 0))
theorem AAD (t o W:List Int) (k T1 T2:Int) (hk:0≤k∧k<64):∀ (i m:Nat) (v:List Int),i<8→v.length=8→QX (m+i+1) (.c2 t o k T1 T2 (i:Int) W v)=QX m (.c1 t o (k+1) W (((Fv i v).set 4 (w32 ((Fv i v).getD 4 0+T1))).set 0 (w32 (T1+T2)))):=by
 intro i
 induction i with
 | zero=>
  intro m v _ hl
  have e:w64 (k+1)=k+1:=w64_id (by omega) (by omega)
  simp only [QX,VY,e]
  rw [IK (by simp),TB (by simp [hl]),TB (by simp [hl]),TB (by simp [hl])]
  rfl
 | succ i ih=>
  intro m v hi hl
  have e:w64 (((i+1:Nat):Int) - 1)=(i:Int):=by rw [w64_id (by omega) (by omega)];omega
  rw [show m+(i+1)+1=(m+i+1)+1 by omega]
  rw [QX]
  simp only [VY,e,Int.toNat_natCast]
  rw [TB (by simp;try omega),TB (by simp [hl];try omega),TB (by simp [hl];try omega),ih m _ (by omega) (by simp [hl])]
  rfl
theorem CAD (t W:List Int) (r:Reg) (hr:r.ok) (hW:∀ x ∈ W,R32 x) (hWl:W.length=64) (i m:Nat) (hi:i<64) :
  QX (m+9) (.c1 t keysL (i:Int) W r.l)=QX m (.c1 t keysL ((i:Int)+1) W (SY r (keysL.getD i 0) (W.getD i 0)).l):=by
 obtain ⟨h1,h2,h3,h4,h5,h6,h7,h8⟩:=hr
 have hk:keysL.length=64:=rfl
 have g (q:Reg):q.l.getD 0 0=q.a∧q.l.getD 1 0=q.b∧q.l.getD 2 0=q.c∧q.l.getD 4 0=q.e∧q.l.getD 5 0=q.f∧q.l.getD 6 0=q.g∧q.l.getD 7 0=q.h:=⟨rfl,rfl,rfl,rfl,rfl,rfl,rfl⟩
 obtain ⟨g0,g1,g2,g4,g5,g6,g7⟩:=g r
 have hl:r.l.length=8:=rfl
 have z4:(4:Int).toNat=4:=rfl
 have z5:(5:Int).toNat=5:=rfl
 have z6:(6:Int).toNat=6:=rfl
 have z7:(7:Int).toNat=7:=rfl
 have z0:(0:Int).toNat=0:=rfl
 have z1:(1:Int).toNat=1:=rfl
 have z2:(2:Int).toNat=2:=rfl
 rw [show m+9=(m+7+1)+1 by omega,QX]
 simp only [VY,z0,z1,z2,z4,z5,z6,z7,g0,g1,g2,g4,g5,g6,g7,hl,hk,hWl,XAC h5,YAC h1,Option.bind_some,Cb,Dz,Int.toNat_natCast]
 rw [TB (by simp;omega),TB (by simp),TB (by simp),TB (by simp),TB (by simp),TB (by simp;omega),TB (by simp;omega),TB (by simp),TB (by simp),TB (by simp),TB (by simp),TB (by simp),TB (by simp),TB (by simp)]
 exact AAD t keysL W (i:Int) (t1 r (keysL.getD i 0) (W.getD i 0)) (t2 r) (by omega) 7 m r.l (by omega) rfl
theorem DAD (s:Reg) (hs:s.ok) (W:List Int) (hW:∀ x ∈ W,R32 x) (hWl:W.length=64):∀ (j i m:Nat),i+j=64→QX (m+9*j+10) (.c1 s.l keysL (i:Int) W (PX keysL W s i).l)=some (Fb s (PX keysL W s 64)).l:=by
 intro j
 induction j with
 | zero=>
  intro i m h
  obtain rfl:i=64:=by omega
  rw [show m+9*0+10=(m+8+1)+1 by omega,QX]
  simp only [VY]
  rw [IK (by simp)]
  exact ZAC s _ 8 0 m (by omega)
 | succ j ih=>
  intro i m h
  rw [show m+9*(j+1)+10=(m+9*j+10)+9 by omega,CAD s.l W _ (Nz keysL W hs i) hW hWl i _ (by omega)]
  exact ih (i+1) m (by omega)
theorem EAD (s:Reg) (hs:s.ok) (w:List Int) (hw:∀ x ∈ w,R32 x) (hwl:w.length=16):∀ (j i m:Nat),i+j=48→QX (m+9*64+10+1+j) (.c0 s.l keysL ((16+i:Nat):Int) (sched w i))=some (Fb s (PX keysL (sched w 48) s 64)).l:=by
 intro j
 induction j with
 | zero=>
  intro i m h
  obtain rfl:i=48:=by omega
  rw [show m+9*64+10+1+0=(m+9*64+10)+1 by omega,QX]
  simp only [VY]
  rw [IK (by simp),TB (by simp [Reg.l])]
  exact DAD s hs _ (Yl hw 48) (Xi hwl 48) 64 0 m (by omega)
 | succ j ih=>
  intro i m h
  have hl:=Xi hwl i
  have hr:=Yl hw i
  have e2:w64 (((16+i:Nat):Int) - 2)=((16+i - 2:Nat):Int):=by rw [w64_id (by omega) (by omega)];omega
  have e7:w64 (((16+i:Nat):Int) - 7)=((16+i - 7:Nat):Int):=by rw [w64_id (by omega) (by omega)];omega
  have e15:w64 (((16+i:Nat):Int) - 15)=((16+i - 15:Nat):Int):=by rw [w64_id (by omega) (by omega)];omega
  have e16:w64 (((16+i:Nat):Int) - 16)=((16+i - 16:Nat):Int):=by rw [w64_id (by omega) (by omega)];omega
  have e1:w64 (((16+i:Nat):Int)+1)=((16+(i+1):Nat):Int):=by rw [w64_id (by omega) (by omega)];omega
  rw [show m+9*64+10+1+(j+1)=(m+9*64+10+1+j)+1 by omega,QX]
  simp only [VY,e1,e2,e7,e15,e16,Int.toNat_natCast,hl,VAC (Yi hr _),WAC (Yi hr _),Option.bind_some]
  rw [TB (by simp;omega),TB (by simp;omega),TB (by simp;omega),TB (by simp;omega),TB (by simp;omega),TB (by simp;omega)]
  exact ih (i+1) m (by omega)
theorem Xz {s:Reg} (hs:s.ok) {b:ByteArray} (hb:b.size=64):NY s.l keysL b=some (comp s (bs b)).l:=by
 have hr:=Yu (Oc b) 16
 obtain ⟨m,hm⟩:∃ m,gas=m+9*64+10+1+48:=⟨gas - 635,by have:=gas_lt (n:=635) (by omega);omega⟩
 have h:=EAD s hs _ hr (DZ _ 16) 48 0 m (by omega)
 have e0:((16+0:Nat):Int)=16:=rfl
 rw [e0,show sched (FN (bs b) 16) 0=FN (bs b) 16 from rfl] at h
 rw [NY,Ep,Uz (s:=b) (by omega),Option.bind_some,hb,hm]
 exact h
theorem Yz:UY=some keysL:=rfl
theorem FAD (b:List Int) (i:Nat):(b.take (64*i+64)).drop (64*i)=(b.drop (64*i)).take 64:=by
 rw [List.drop_take];congr 1;omega
theorem Zz (i:Nat) (s:Reg) (b:List Int):comps (i+1) s b=comp (comps i s b) ((b.drop (64*i)).take 64):=by
 rw [Qz i 1];rfl
theorem O0 {r:Reg} (h:r.ok):YX (ofBytes (NM r.l))=some r.l:=by
 have hs:(ofBytes (NM r.l)).size=32:=by rw [ofBytes_size,Qc];rfl
 rw [Uz (by omega),hs,IY (Zu (Reg.Jb h))]
 exact congrArg some (KAC (Reg.Jb h))
theorem GAD {s:ByteArray} (hs:s.size≤1000000000):Df EZ s=some ⟨ofBytes (NM (comps (s.size / 64) JY (bs s)).l),s.extract (64*(s.size / 64)) s.size,(s.size:Int)⟩:=by
 have e0:FY EZ=some true:=Tz (by rw [EZ,ofBytes_size,Qc];rfl) (by decide) (by decide) (by decide)
 have e1:((⟨#[]⟩:ByteArray)++s)=s:=Mc (by rw [Lc];rfl)
 have key:=loopN (A:=Unit) (n:=s.size / 64) (Lp:=Bf) (st:=fun i _=>.c0 s s ((64*i:Nat):Int) EZ (⟨(⟨#[]⟩:ByteArray),(⟨#[]⟩:ByteArray),(0:Int)⟩:SHasher) (comps i JY (bs s)).l keysL) (Inv:=fun _ _=>True)
  (out:=fun _ _=>some ⟨ofBytes (NM (comps (s.size / 64) JY (bs s)).l),s.extract (64*(s.size / 64)) s.size,(s.size:Int)⟩)
  (fun m _ _=>by
   have hw:w64 (EZ.fCount+(s.size:Int))=(s.size:Int):=by
    show w64 ((0:Int)+(s.size:Int))=_
    rw [Int.zero_add,w64_id (by omega) (by omega)]
   rw [Bf]
   simp only [Dk,hw,Int.toNat_natCast]
   rw [w64_id (by omega) (by omega),IK (by simp;omega),Dv (Reg.Jb (Ib KZ _ _)) (by simp [Reg.l]),Option.bind_some,TB (by simp;omega)])
  (fun m i _ hi _=>.inr ⟨(),by
   have e:w64 (((64*i:Nat):Int)+64)=((64*(i+1):Nat):Int):=by rw [w64_id (by omega) (by omega)];omega
   rw [Bf]
   simp only [Dk,e,Int.toNat_natCast]
   rw [TB (by simp;omega),TB (by simp;omega),Xz (Ib KZ _ _) (by simp;omega),Option.bind_some,Eb,show 64*(i+1)=64*i+64 by omega,FAD,←Zz],trivial,rfl⟩)
 rw [Df,Gp,e0,Option.bind_some,IK (by rfl)]
 have hw:w64 (EZ.fCount+(s.size:Int))=(s.size:Int):=by
  show w64 ((0:Int)+(s.size:Int))=_
  rw [Int.zero_add,w64_id (by omega) (by omega)]
 rw [hw,IK (by simp;omega),show EZ.fState=ofBytes (NM JY.l) from rfl,O0 KZ,Option.bind_some,Yz,Option.bind_some,show EZ.fRest=⟨#[]⟩ from rfl,e1]
 rw [TB (by (have:(⟨#[]⟩:ByteArray).size=0:=rfl);simp only [this,decide_eq_true_eq];omega)]
 exact key gas 0 () (Nat.zero_le _) (gas_lt (by omega)) trivial
def Ob (b:Int):Nat→List Int
 | 0=>[]
 | i+1=>(b / 256 ^ i % 256)::Ob b i
def AZ:Nat→Nat
 | 0=>0
 | i+1=>AZ i+(i+2)
theorem IAD (x:Int) (j:Nat):x / 256 / 256 ^ j=x / 256 ^ (j+1):=by
 rw [Int.ediv_ediv_of_nonneg (by omega)]
 congr 1
 rw [Int.pow_succ,Int.mul_comm]
theorem JAD (h:SHasher) (b:Int):∀ (j k i m:Nat) (x:Int) (t:List Int),k+j=i→i≤7→0≤x→x≤9223372036854775807→t.length≤1000→
  RX (m+j+1) (.c2 b (i:Int) x (k:Int) h t)=RX m (.c1 b ((i:Int) - 1) h (t++[x / 256 ^ j % 256])):=by
 intro j
 induction j with
 | zero=>
  intro k i m x t hk hi hx hx2 ht
  have e:w64 ((i:Int) - 1)=(i:Int) - 1:=w64_id (by omega) (by omega)
  have e2:w8 (x.tmod 256)=x % 256:=by rw [Int.tmod_eq_emod_of_nonneg hx,w8_id (by omega) (by omega)]
  rw [RX]
  simp only [WY,e,e2]
  rw [IK (by simp;omega),TB (by simp;omega),Int.pow_zero,Int.ediv_one]
 | succ j ih=>
  intro k i m x t hk hi hx hx2 ht
  have e:w64 ((k:Int)+1)=((k+1:Nat):Int):=by rw [w64_id (by omega) (by omega)];rfl
  have e2:w64 (x.tdiv 256)=x / 256:=by rw [Int.tdiv_eq_ediv_of_nonneg hx,w64_id (by omega) (by omega)]
  rw [show m+(j+1)+1=(m+j+1)+1 by omega,RX]
  simp only [WY,e,e2]
  rw [TB (by simp;omega),ih (k+1) i m (x / 256) t (by omega) hi (by omega) (by omega) ht,IAD]
theorem KAD (h:SHasher) (b:Int) (hb:0≤b) (hb2:b≤9223372036854775807):∀ (i m:Nat) (t:List Int),i≤8→t.length+i≤900→RX (m+AZ i) (.c1 b ((i:Int) - 1) h t)=RX m (.c1 b (-1) h (t++Ob b i)):=by
 intro i
 induction i with
 | zero=>intro m t _ _;simp [AZ,Ob]
 | succ i ih=>
  intro m t hi ht
  rw [AZ,show m+(AZ i+(i+2))=(m+AZ i)+i+1+1 by omega,RX,show ((i+1:Nat):Int) - 1=(i:Int) by omega]
  simp only [WY]
  rw [TB (by simp),show (0:Int)=((0:Nat):Int) from rfl,JAD h b i 0 i _ b t (by omega) (by omega) hb hb2 (by omega),ih m _ (by omega) (by simp;omega)]
  simp [Ob]
theorem LAD {b:Int} (h:0≤b) (h2:b<1099511627776):Ob b 8=TY b:=by
 simp only [Ob,TY,List.cons.injEq,and_true]
 omega
theorem MAD (r:Reg) (hr:r.ok) (t:List Int) (ht:ZX t) (n:Nat) (hn:t.length=64*n) (hn2:n≤100):∀ (j i m:Nat),i+j=n→RX (m+j+1) (.c3 ((64*i:Nat):Int) t (comps i r t).l keysL)=some (ofBytes (NM (comps n r t).l)):=by
 intro j
 induction j with
 | zero=>
  intro i m h
  obtain rfl:i=n:=by omega
  rw [RX]
  simp only [WY]
  rw [IK (by simp;omega),Dv (Reg.Jb (Ib hr _ _)) (by simp [Reg.l]),Option.bind_some]
 | succ j ih=>
  intro i m h
  have e:w64 (((64*i:Nat):Int)+64)=((64*(i+1):Nat):Int):=by rw [w64_id (by omega) (by omega)];omega
  have hl:((t.drop (64*i)).take (64*(i+1) - 64*i)).length=64:=by rw [List.length_take,List.length_drop];omega
  have hby:ZX ((t.drop (64*i)).take (64*(i+1) - 64*i)):=fun x hx=>ht x (List.mem_of_mem_drop (List.mem_of_mem_take hx))
  rw [show m+(j+1)+1=(m+j+1)+1 by omega,RX]
  simp only [WY,e,Int.toNat_natCast]
  rw [TB (by simp;omega),TB (by simp;omega),Xz (Ib hr _ _) (by rw [ofBytes_size,hl]),Option.bind_some,IY hby,show 64*(i+1) - 64*i=64 by omega,←Zz]
  exact ih (i+1) m (by omega)
theorem NAD (h:SHasher) (r:List Int) (hr:r.length<64):∀ (j i m:Nat),i+j=(119 - r.length) % 64→RX (m+j+1) (.c0 h (r++128::List.replicate i 0))=RX m (.c1 (w64 (8*h.fCount)) 7 h (r++128::List.replicate ((119 - r.length) % 64) 0)):=by
 intro j
 induction j with
 | zero=>
  intro i m hi
  rw [RX]
  simp only [WY]
  rw [IK (by rw [Int.tmod_eq_emod_of_nonneg (by omega)];simp;omega),show i=(119 - r.length) % 64 by omega]
 | succ j ih=>
  intro i m hi
  rw [show m+(j+1)+1=(m+j+1)+1 by omega,RX]
  simp only [WY]
  rw [TB (by rw [Int.tmod_eq_emod_of_nonneg (by omega)];simp;omega),TB (by simp;omega)]
  have e:(r++128::List.replicate i (0:Int))++[0]=r++128::List.replicate (i+1) 0:=by
   rw [List.replicate_succ'];simp
  rw [e]
  exact ih (i+1) m (by omega)
theorem OAD {r:Reg} (hr:r.ok) {s:ByteArray} {n:Nat} (hs:s.size=n % 64) (hn:n≤1000000000):Gf ⟨ofBytes (NM r.l),s,(n:Int)⟩=some (ofBytes (NM (comps ((s.size+(TT n).length) / 64) r (bs s++TT n)).l)):=by
 have e0:FY ⟨ofBytes (NM r.l),s,(n:Int)⟩=some true:=Tz (by rw [ofBytes_size,Qc];rfl) (by simp only;omega) (by simp only;omega) (by simp only;omega)
 have hl:=bs_len s
 obtain ⟨m,hm⟩:∃ m,gas=((m+((s.size+(TT n).length) / 64)+1+1+AZ 8)+((119 - (bs s).length) % 64)+1):=⟨gas - (((s.size+(TT n).length) / 64)+1+1+AZ 8+((119 - (bs s).length) % 64)+1),by
  have:=gas_lt (n:=1000) (by omega)
  have h2:=Am n
  have h3:AZ 8=44:=rfl
  omega⟩
 have hw:w64 (8*(n:Int))=8*(n:Int):=w64_id (by omega) (by omega)
 have hrep:(bs s++128::List.replicate ((119 - (bs s).length) % 64) 0)++Ob (8*(n:Int)) 8=bs s++TT n:=by
  rw [LAD (by omega) (by omega),TT,hl,hs,show (119 - n % 64) % 64=(119 - n % 64) % 64 from rfl]
  simp
 rw [Gf,Jp,e0,Option.bind_some,IK (by rfl),TB (by simp;omega),CAC,TB (by rw [hl];simp;omega),hm]
 have h0:=NAD ⟨ofBytes (NM r.l),s,(n:Int)⟩ (bs s) (by omega) ((119 - (bs s).length) % 64) 0 (m+((s.size+(TT n).length) / 64)+1+1+AZ 8) (by omega)
 rw [List.replicate_zero] at h0
 rw [h0,show (7:Int)=((8:Nat):Int) - 1 from rfl]
 simp only [hw]
 rw [KAD _ _ (by omega) (by omega) 8 _ _ (by omega) (by simp;omega),hrep,RX]
 simp only [WY]
 rw [IK (by simp),O0 hr,Option.bind_some,Yz,Option.bind_some]
 have hb:ZX (bs s++TT n):=fun x hx=>by
  rcases List.mem_append.1 hx with hx | hx
  ·exact Oc s x hx
  ·exact Bv n x hx
 have hlen:(bs s++TT n).length=64*((s.size+(TT n).length) / 64):=by
  have:=LAC n
  rw [List.length_append,hl]
  omega
 exact MAD r hr _ hb _ hlen (by have:=Am n;omega) ((s.size+(TT n).length) / 64) 0 m (by omega)
theorem PAD (b:List Int):comps ((b.length+(TT b.length).length) / 64) JY (b++TT b.length)=comps ((b.length % 64+(TT b.length).length) / 64) (comps (b.length / 64) JY b) (b.drop (64*(b.length / 64))++TT b.length):=by
 rw [show (b.length+(TT b.length).length) / 64=b.length / 64+(b.length % 64+(TT b.length).length) / 64 by omega,Qz,IAC _ _ _ _ (by omega),List.drop_append_of_le_length (by omega)]
theorem QAD {s:ByteArray} (hs:s.size≤1000000000):Hf s=some (LZ s):=by
 have h1:(s.extract (64*(s.size / 64)) s.size).size=s.size % 64:=by simp;omega
 have h:=OAD (Ib KZ (s.size / 64) (bs s)) (s:=s.extract (64*(s.size / 64)) s.size) h1 hs
 rw [Eb,h1,List.take_of_length_le (by rw [bs_len];omega)] at h
 rw [Hf,Qp,QAC,Option.bind_some,GAD hs,Option.bind_some,h,Option.bind_some,LZ,Nb,PAD,bs_len]
theorem RAD {n:Nat} {x:Int} (h:n≤1000000000):Tf (n:Int) x=some (ofBytes (List.replicate n x)):=by
 have key:∀ (j i m:Nat),i+j=n→Rf (m+j+1) (.c0 (n:Int) x (i:Int) (List.replicate i x++List.replicate (n - i) 0))=some (ofBytes (List.replicate n x)):=by
  intro j
  induction j with
  | zero=>
   intro i m hi
   obtain rfl:i=n:=by omega
   rw [Rf]
   simp only [Ik]
   rw [IK (by simp),Nat.sub_self,List.replicate_zero,List.append_nil]
  | succ j ih=>
   intro i m hi
   have e:w64 ((i:Int)+1)=((i+1:Nat):Int):=by rw [w64_id (by omega) (by omega)];rfl
   rw [show m+(j+1)+1=(m+j+1)+1 by omega,Rf]
   simp only [Ik,e,Int.toNat_natCast]
   rw [TB (by simp;omega),TB (by simp;omega),show n - i=(n - (i+1))+1 by omega,List.replicate_succ,JZ (by simp)]
   have h2:=ih (i+1) m (by omega)
   rw [List.replicate_succ' (n:=i),List.append_assoc] at h2
   exact h2
 obtain ⟨m,hm⟩:∃ m,gas=m+n+1:=⟨gas - (n+1),by have:=gas_lt (n:=n+1) (by omega);omega⟩
 have h0:=key n 0 m (by omega)
 rw [List.replicate_zero,List.nil_append,Nat.sub_zero] at h0
 rw [Tf,Wp,TB (by simp;omega),hm]
 exact h0
def Gv:SBook:=⟨LZ ⟨#[]⟩,0,[],0,ofBytes (List.replicate 32 0),0⟩
theorem SAD:Uf=some Gv:=by
 rw [Uf,Yp,QAD (by decide),Option.bind_some,show (32:Int)=((32:Nat):Int) from rfl,RAD (by omega),Option.bind_some];rfl
def SN (b:SBox):SBox:=⟨b.fKey,false,b.fDisk,Gv,[],[],0⟩
theorem TAD {b:SBox} (h:b.fDisk.fFiles.length*40≤140737488355328):Vf b=some (SN b):=by
 rw [Vf,Aq,TB (by rw [Nat.zero_add,decide_eq_true_eq];exact h),SAD];rfl
theorem UAD {d:SDisk} (h:d.fFiles.length*40≤140737488355328):Xf d=some d:=by
 rw [Xf,Dq,TB (by rw [decide_eq_true_eq];exact h)]
theorem U0 {n:Nat} (h:n≤1000000000):Aa (n:Int)=some (ofBytes (List.replicate n 0)):=by
 simp only [Aa,Gq,Int.toNat_natCast]
 rw [TB (by simp;omega)]
theorem X0 {x:Int} (h:R32 x):CZ x=some (ofBytes (four x)):=by
 obtain ⟨h1,h2⟩:=h
 have e1:Int.fdiv x (2 ^ (Min.min (24:Int).toNat (IntKind.bits IntKind.u32)))=x / 16777216:=Int.fdiv_eq_ediv_of_nonneg _ (by decide)
 have e2:Int.fdiv x (2 ^ (Min.min (16:Int).toNat (IntKind.bits IntKind.u32)))=x / 65536:=Int.fdiv_eq_ediv_of_nonneg _ (by decide)
 have e3:Int.fdiv x (2 ^ (Min.min (8:Int).toNat (IntKind.bits IntKind.u32)))=x / 256:=Int.fdiv_eq_ediv_of_nonneg _ (by decide)
 simp only [CZ,Hq,e1,e2,e3,w8_mod,four]
 rw [show x / 16777216 % 256=x / 16777216 by omega]
theorem VAD {n:Nat} (h:n<1099511627776):Zf (n:Int)=some (ofBytes (TY (n:Int))):=by
 have e1:Int.fdiv (n:Int) (2 ^ (Min.min (32:Int).toNat (IntKind.bits IntKind.i64)))=(n:Int) / 4294967296:=Int.fdiv_eq_ediv_of_nonneg _ (by decide)
 simp only [Zf,Kq,e1,X0 (WX _),Option.bind_some]
 rw [TB (by rw [ofBytes_size,ofBytes_size];simp [four])]
 congr 1
 apply Mc
 rw [Lc,IY (Zl (WX _)),IY (Zl (WX _)),IY (fun x hx=>by
  simp only [TY,List.mem_cons,List.not_mem_nil,or_false] at hx
  omega)]
 simp only [four,TY,Za,List.cons_append,List.nil_append,List.cons.injEq,and_true]
 omega
theorem WAD {n:Nat} (h:n≤100000000000):Ag (n:Int)=some (ofBytes (TT n)):=by
 have e1:(w64 (119 - ((n:Int).tmod 64))).tmod 64=(((119 - n % 64) % 64:Nat):Int):=by
  have a:(n:Int).tmod 64=(n:Int) % 64:=Int.tmod_eq_emod_of_nonneg (by omega)
  rw [a,w64_id (by omega) (by omega),Int.tmod_eq_emod_of_nonneg (by omega)]
  omega
 have e2:w64 (8*(n:Int))=((8*n:Nat):Int):=by rw [w64_id (by omega) (by omega)];omega
 have h0:(⟨#[128]⟩:ByteArray).size=1:=rfl
 simp only [Ag,Oq,e1,e2,U0 (n:=(119 - n % 64) % 64) (by omega),VAD (n:=8*n) (by omega),Option.bind_some]
 rw [TB (by rw [ofBytes_size];simp [h0];omega),TB (by rw [ByteArray.size_append,ofBytes_size,ofBytes_size];simp [h0,TY];omega)]
 congr 1
 apply Mc
 have hb:ZX (List.replicate ((119 - n % 64) % 64) (0:Int)):=fun x hx=>by
  have:=List.eq_of_mem_replicate hx;omega
 have hb2:ZX (TY ((8*n:Nat):Int)):=fun x hx=>by
  simp only [TY,List.mem_cons,List.not_mem_nil,or_false] at hx
  omega
 rw [Lc,Lc,IY hb,IY hb2,IY (Bv n),TT]
 have e3:bs (⟨#[128]⟩:ByteArray)=[128]:=rfl
 rw [e3]
 simp
theorem XAD {x:Int} (h:R32 x) (n:Nat) (hn:0<n) (hn2:n<32) (k:Int) (hk:wu64 (((BitVec.toNat ((BitVec.ofInt (IntKind.bits IntKind.u64) (wu64 k)) &&& (BitVec.ofInt (IntKind.bits IntKind.u64) (31:Int)))):Nat):Int)=((32 - n:Nat):Int))
  (hk2:wu64 (32 - ((32 - n:Nat):Int))=(n:Int)):Bg x k=some (rt (2 ^ n) (2 ^ (32 - n)) x):=by
 have e1:Min.min ((32 - n:Nat):Int).toNat (IntKind.bits IntKind.u32)=32 - n:=by
  show Min.min ((32 - n:Nat):Int).toNat 32=_
  omega
 have e2:Min.min (n:Int).toNat (IntKind.bits IntKind.u32)=n:=by
  show Min.min (n:Int).toNat 32=_
  omega
 have e3:Int.fdiv x (2 ^ n)=x / 2 ^ n:=Int.fdiv_eq_ediv_of_nonneg _ (Int.le_of_lt (Int.pow_pos (by omega)))
 simp only [Bg,Qq,hk,hk2,e1,e2,e3]
 rw [show decide ((0:Int)≤(n:Int))=true from decide_eq_true (by omega)]
 simp only [cond_true,Ez]
 rw [ZAB h n hn hn2]
theorem BZ {x:Int} (h:R32 x) (n:Nat) (hn:0<n) (hn2:n<32) (hk:wu64 (((BitVec.toNat ((BitVec.ofInt (IntKind.bits IntKind.u64) (wu64 (w64 (0 - (n:Int))))) &&& (BitVec.ofInt (IntKind.bits IntKind.u64) (31:Int)))):Nat):Int)=((32 - n:Nat):Int))
  (hk2:wu64 (32 - ((32 - n:Nat):Int))=(n:Int)):CV x (n:Int)=some (rt (2 ^ n) (2 ^ (32 - n)) x):=by
 simp only [CV,Rq,XAD h n hn hn2 _ hk hk2,Option.bind_some]
theorem YAD {x:Int} (h:R32 x):CV x 2=some (rt 4 1073741824 x):=BZ h 2 (by decide) (by decide) (by decide) (by decide)
theorem ZAD {x:Int} (h:R32 x):CV x 13=some (rt 8192 524288 x):=BZ h 13 (by decide) (by decide) (by decide) (by decide)
theorem AAE {x:Int} (h:R32 x):CV x 22=some (rt 4194304 1024 x):=BZ h 22 (by decide) (by decide) (by decide) (by decide)
theorem BAE {x:Int} (h:R32 x):CV x 6=some (rt 64 67108864 x):=BZ h 6 (by decide) (by decide) (by decide) (by decide)
theorem CAE {x:Int} (h:R32 x):CV x 11=some (rt 2048 2097152 x):=BZ h 11 (by decide) (by decide) (by decide) (by decide)
theorem DAE {x:Int} (h:R32 x):CV x 25=some (rt 33554432 128 x):=BZ h 25 (by decide) (by decide) (by decide) (by decide)
theorem EAE {x:Int} (h:R32 x):CV x 7=some (rt 128 33554432 x):=BZ h 7 (by decide) (by decide) (by decide) (by decide)
theorem FAE {x:Int} (h:R32 x):CV x 18=some (rt 262144 16384 x):=BZ h 18 (by decide) (by decide) (by decide) (by decide)
theorem GAE {x:Int} (h:R32 x):CV x 17=some (rt 131072 32768 x):=BZ h 17 (by decide) (by decide) (by decide) (by decide)
theorem HAE {x:Int} (h:R32 x):CV x 19=some (rt 524288 8192 x):=BZ h 19 (by decide) (by decide) (by decide) (by decide)
theorem IAE {a b:Int} (ha:0≤a∧a<16777216) (hb:0≤b∧b≤255):Wi (w32 (a*256)) (w32 b)=a*256+b:=by
 obtain ⟨x,rfl⟩:∃ x:Nat,a=(x:Int):=⟨a.toNat,by omega⟩
 obtain ⟨y,rfl⟩:∃ y:Nat,b=(y:Int):=⟨b.toNat,by omega⟩
 rw [QY (by omega) (by omega),QY (by omega) (by omega)]
 have:=Fz (a:=x) (b:=y) (s:=8) (by omega) (by omega) (by omega)
 have e:((x*2 ^ 8:Nat):Int)=(x:Int)*256:=by omega
 rw [Int.natCast_add,e] at this
 exact this
def KY (l:List Int) (i:Nat):Nat→Int
 | 0=>0
 | k+1=>KY l i k*256+l.getD (4*i+k) 0
theorem JAE (l:List Int) (i:Nat):KY l i 4=wordAt l i:=by
 simp only [KY,wordAt,be4,Nat.add_zero]
 omega
theorem KAE {l:List Int} (h:ZX l) (i:Nat):∀ k,k<4→0≤KY l i k∧KY l i k<16777216
 | 0,_=>by simp [KY]
 | 1,_=>by have:=AY h (4*i+0);simp only [KY];omega
 | 2,_=>by have:=AY h (4*i+0);have:=AY h (4*i+1);simp only [KY];omega
 | 3,_=>by have:=AY h (4*i+0);have:=AY h (4*i+1);have:=AY h (4*i+2);simp only [KY];omega
theorem LAE {b:ByteArray} (hb:b.size=64) (v:List Int) (i:Nat) (hi:i<16):∀ (j k m:Nat),k+j=4→
  HY (m+j+1) (.c1 b (i:Int) (i:Int) (k:Int) v (FN (bs b) i++KY (bs b) i k::List.replicate (63 - i) 0))=HY m (.c0 b ((i+1:Nat):Int) v (FN (bs b) (i+1)++List.replicate (63 - i) 0)):=by
 have hby:=Oc b
 intro j
 induction j with
 | zero=>
  intro k m h
  obtain rfl:k=4:=by omega
  have e:w64 ((i:Int)+1)=((i+1:Nat):Int):=by rw [w64_id (by omega) (by omega)];rfl
  rw [HY]
  simp only [GZ,e]
  rw [IK (by simp),JAE,Oz]
  simp
 | succ j ih=>
  intro k m h
  have hk:k<4:=by omega
  have hlen:(FN (bs b) i++KY (bs b) i k::List.replicate (63 - i) 0).length=64:=by
   simp only [List.length_append,List.length_cons,List.length_replicate,DZ];omega
  have e:w64 ((k:Int)+1)=((k+1:Nat):Int):=by rw [w64_id (by omega) (by omega)];rfl
  have e4:w64 (4*(i:Int))=((4*i:Nat):Int):=by rw [w64_id (by omega) (by omega)];omega
  have e5:w64 (((4*i:Nat):Int)+(k:Int))=((4*i+k:Nat):Int):=by rw [w64_id (by omega) (by omega)];omega
  have e8:(2:Int) ^ (Min.min (8:Int).toNat (IntKind.bits IntKind.u32))=256:=by decide
  have hg:(FN (bs b) i++KY (bs b) i k::List.replicate (63 - i) 0).getD i 0=KY (bs b) i k:=by
   rw [Hz (by rw [DZ];omega),DZ,Nat.sub_self];rfl
  rw [show m+(j+1)+1=(m+j+1)+1 by omega,HY]
  simp only [GZ,e,e4,e5,e8,Int.toNat_natCast,hlen,hg,Ez]
  rw [TB (by simp;omega),TB (by rfl),TB (by simp;omega),TB (by simp;omega),TB (by rfl),TB (by simp;omega)]
  rw [Nc (by omega),IAE (KAE hby i k hk) (AY hby _),JZ (DZ _ i)]
  exact ih (k+1) m (by omega)
theorem MAE {b:ByteArray} (hb:b.size=64) (v:List Int):∀ (j i m:Nat),i+j=16→HY (m+6*j+1) (.c0 b (i:Int) v (FN (bs b) i++List.replicate (64 - i) 0))=HY m (.c2 16 v (FN (bs b) 16++List.replicate 48 0)):=by
 intro j
 induction j with
 | zero=>
  intro i m h
  obtain rfl:i=16:=by omega
  rw [HY]
  simp only [GZ]
  rw [IK (by simp)]
 | succ j ih=>
  intro i m h
  rw [show m+6*(j+1)+1=(m+6*j+1)+4+1+1 by omega,HY]
  simp only [GZ]
  rw [TB (by simp;omega)]
  have h1:=LAE hb v i (by omega) 4 0 (m+6*j+1) (by omega)
  rw [show 64 - i=(63 - i)+1 by omega,List.replicate_succ]
  have h2:=ih (i+1) m (by omega)
  rw [show 64 - (i+1)=63 - i by omega] at h2
  exact h1.trans h2
theorem NAE {w v:List Int} (hw:∀ x ∈ w,R32 x) (hwl:w.length=16) (hv:v.length=64):∀ (j i m:Nat),i+j=48→HY (m+j+1) (.c2 ((16+i:Nat):Int) v (sched w i++List.replicate (48 - i) 0))=some (sched w 48):=by
 intro j
 induction j with
 | zero=>
  intro i m h
  obtain rfl:i=48:=by omega
  have hl:=Xi hwl 48
  rw [HY]
  simp only [GZ,Nat.sub_self,List.replicate_zero,List.append_nil,hl,hv]
  rfl
 | succ j ih=>
  intro i m h
  have hl:=Xi hwl i
  have hr:=Yl hw i
  have hlen:(sched w i++List.replicate (48 - i) 0).length=64:=by
   simp only [List.length_append,List.length_replicate,hl];omega
  have e2:w64 (((16+i:Nat):Int) - 2)=((16+i - 2:Nat):Int):=by rw [w64_id (by omega) (by omega)];omega
  have e7:w64 (((16+i:Nat):Int) - 7)=((16+i - 7:Nat):Int):=by rw [w64_id (by omega) (by omega)];omega
  have e15:w64 (((16+i:Nat):Int) - 15)=((16+i - 15:Nat):Int):=by rw [w64_id (by omega) (by omega)];omega
  have e16:w64 (((16+i:Nat):Int) - 16)=((16+i - 16:Nat):Int):=by rw [w64_id (by omega) (by omega)];omega
  have e1:w64 (((16+i:Nat):Int)+1)=((16+(i+1):Nat):Int):=by rw [w64_id (by omega) (by omega)];omega
  have g2:(sched w i++List.replicate (48 - i) 0).getD (16+i - 2) 0=(sched w i).getD (16+i - 2) 0:=Xl (by omega) 0
  have g7:(sched w i++List.replicate (48 - i) 0).getD (16+i - 7) 0=(sched w i).getD (16+i - 7) 0:=Xl (by omega) 0
  have g15:(sched w i++List.replicate (48 - i) 0).getD (16+i - 15) 0=(sched w i).getD (16+i - 15) 0:=Xl (by omega) 0
  have g16:(sched w i++List.replicate (48 - i) 0).getD (16+i - 16) 0=(sched w i).getD (16+i - 16) 0:=Xl (by omega) 0
  have f10:∀ x:Int,Int.fdiv x (2 ^ (Min.min (10:Int).toNat (IntKind.bits IntKind.u32)))=x / 1024:=fun x=>Int.fdiv_eq_ediv_of_nonneg _ (by decide)
  have f3:∀ x:Int,Int.fdiv x (2 ^ (Min.min (3:Int).toNat (IntKind.bits IntKind.u32)))=x / 8:=fun x=>Int.fdiv_eq_ediv_of_nonneg _ (by decide)
  have r15:=Yi hr (16+i - 15)
  have r2:=Yi hr (16+i - 2)
  rw [show m+(j+1)+1=(m+j+1)+1 by omega,HY]
  simp only [GZ,e1,e2,e7,e15,e16,Int.toNat_natCast,hlen,g2,g7,g15,g16,EAE r15,FAE r15,GAE r2,HAE r2,Option.bind_some,f10,f3,Cb]
  rw [TB (by simp;omega),TB (by rfl),TB (by simp;omega),TB (by rfl),TB (by simp;omega),TB (by rfl),TB (by simp;omega),TB (by rfl),TB (by simp;omega),TB (by rfl),TB (by simp;omega)]
  rw [show 48 - i=(48 - (i+1))+1 by omega,List.replicate_succ,JZ (by omega)]
  have h2:=ih (i+1) m (by omega)
  rw [sched,List.append_assoc] at h2
  exact h2
theorem OAE {b:ByteArray} (hb:b.size=64):Ba b=some (sched (FN (bs b) 16) 48):=by
 obtain ⟨m,hm⟩:∃ m,gas=(m+48+1)+6*16+1:=⟨gas - 146,by have:=gas_lt (n:=146) (by omega);omega⟩
 rw [Ba,Tq,hm]
 have h0:=MAE hb (List.replicate 64 0) 16 0 (m+48+1) (by omega)
 have h2:=NAE (w:=FN (bs b) 16) (v:=List.replicate 64 0) (Yu (Oc b) 16) (DZ _ 16) (List.length_replicate ..) 48 0 m (by omega)
 rw [show FN (bs b) 0++List.replicate (64 - 0) 0=List.replicate 64 (0:Int) from rfl,show ((0:Nat):Int)=0 from rfl] at h0
 rw [show ((16+0:Nat):Int)=16 from rfl,show sched (FN (bs b) 16) 0=FN (bs b) 16 from rfl,show 48 - 0=48 from rfl] at h2
 rw [h0,h2]
theorem PAE (s r v:List Int) (hs:s.length=8) (hv:v.length=8) (f:Nat→Int) (hf:∀ i,i<8→f i=w32 (r.getD i 0+s.getD i 0)) (hr:r.length=8):∀ (j i m:Nat),i+j=8→OY (m+j+1) (.c1 (i:Int) s v ((List.range i).map f++r.drop i))=some ((List.range 8).map f):=by
 intro j
 induction j with
 | zero=>
  intro i m h
  obtain rfl:i=8:=by omega
  rw [OY]
  simp only [Bc]
  rw [IK (by simp),List.drop_of_length_le (by omega),List.append_nil,TB (by simp),TB (by simp [hv]),TB (by simp)]
 | succ j ih=>
  intro i m h
  have e:w64 ((i:Int)+1)=((i+1:Nat):Int):=by rw [w64_id (by omega) (by omega)];rfl
  have hl:((List.range i).map f++r.drop i).length=8:=by simp [hr];omega
  have hm:((List.range i).map f).length=i:=by simp
  have hg:((List.range i).map f++r.drop i).getD i 0=r.getD i 0:=by
   rw [Hz (by omega),hm,Nat.sub_self]
   simp [List.getD]
  rw [show m+(j+1)+1=(m+j+1)+1 by omega,OY]
  simp only [Bc,e,Int.toNat_natCast,hl,hs,hg]
  rw [TB (by simp;omega),TB (by rfl),TB (by simp;omega),TB (by rfl),TB (by simp;omega),TB (by rfl),TB (by simp;omega)]
  rw [drop_at (by omega:i<r.length),JZ hm,←hf i (by omega)]
  have h2:=ih (i+1) m (by omega)
  rw [List.range_succ,List.map_append,List.append_assoc] at h2
  exact h2
theorem QAE (s v W:List Int) (hW:∀ x ∈ W,R32 x) (hWl:W.length=64) (r:Reg) (hr:r.ok) (i m:Nat) (hi:i<64) :
  OY (m+1) (.c0 r.a r.b r.c r.d r.e r.f r.g r.h (i:Int) s v W)=OY m (.c0 (SY r (keysL.getD i 0) (W.getD i 0)).a (SY r (keysL.getD i 0) (W.getD i 0)).b (SY r (keysL.getD i 0) (W.getD i 0)).c (SY r (keysL.getD i 0) (W.getD i 0)).d (SY r (keysL.getD i 0) (W.getD i 0)).e (SY r (keysL.getD i 0) (W.getD i 0)).f (SY r (keysL.getD i 0) (W.getD i 0)).g (SY r (keysL.getD i 0) (W.getD i 0)).h ((i+1:Nat):Int) s v W):=by
 obtain ⟨h1,h2,h3,h4,h5,h6,h7,h8⟩:=hr
 have e:w64 ((i:Int)+1)=((i+1:Nat):Int):=by rw [w64_id (by omega) (by omega)];rfl
 rw [OY]
 simp only [Bc,e,Int.toNat_natCast,hWl,BAE h5,CAE h5,DAE h5,YAD h1,ZAD h1,AAE h1,Option.bind_some,Cb,Dz,XAB h5]
 rw [TB (by simp;omega),TB (by simp;omega),TB (by rw [Nat.blt_eq];omega),TB (by rfl),TB (by simp;omega)]
 rfl
theorem RAE (s v W:List Int) (hW:∀ x ∈ W,R32 x) (hWl:W.length=64) (r:Reg) (hr:r.ok):∀ (j i m:Nat),i+j=64→
  OY (m+j+1) (.c0 (PX keysL W r i).a (PX keysL W r i).b (PX keysL W r i).c (PX keysL W r i).d (PX keysL W r i).e (PX keysL W r i).f (PX keysL W r i).g (PX keysL W r i).h (i:Int) s v W)=OY m (.c1 0 s v (PX keysL W r 64).l):=by
 intro j
 induction j with
 | zero=>
  intro i m h
  obtain rfl:i=64:=by omega
  rw [OY]
  simp only [Bc]
  rw [IK (by simp)]
  rfl
 | succ j ih=>
  intro i m h
  rw [show m+(j+1)+1=(m+j+1)+1 by omega,QAE s v W hW hWl _ (Nz keysL W hr i) i _ (by omega)]
  exact ih (i+1) m (by omega)
theorem SAE {s:Reg} (hs:s.ok) {b:ByteArray} (hb:b.size=64):Ea s.l b=some (comp s (bs b)).l:=by
 obtain ⟨m,hm⟩:∃ m,gas=(m+8+1)+64+1:=⟨gas - 74,by have:=gas_lt (n:=74) (by omega);omega⟩
 have hr:=Yl (Yu (Oc b) 16) 48
 have hl:=Xi (DZ (bs b) 16) 48
 have hsl:s.l.length=8:=rfl
 have z0:(0:Int).toNat=0:=rfl
 have z1:(1:Int).toNat=1:=rfl
 have z2:(2:Int).toNat=2:=rfl
 have z3:(3:Int).toNat=3:=rfl
 have z4:(4:Int).toNat=4:=rfl
 have z5:(5:Int).toNat=5:=rfl
 have z6:(6:Int).toNat=6:=rfl
 have z7:(7:Int).toNat=7:=rfl
 rw [Ea,Vq,OAE hb,Option.bind_some,hm]
 simp only [hl,hsl,List.length_replicate,z0,z1,z2,z3,z4,z5,z6,z7]
 rw [TB (by rfl),TB (by rfl),TB (by rfl),TB (by rfl),TB (by rfl),TB (by rfl),TB (by rfl),TB (by rfl),TB (by rfl),TB (by rfl),TB (by rfl),TB (by rfl),TB (by rfl),TB (by rfl),TB (by rfl),TB (by rfl),TB (by rfl)]
 have h0:=RAE s.l [0,0,0,0,0,0,0,0] _ hr hl s hs 64 0 (m+8+1) (by omega)
 rw [show ((0:Nat):Int)=0 from rfl] at h0
 have hf:∀ i,i<8→(fun i=>w32 ((PX keysL (sched (FN (bs b) 16) 48) s 64).l.getD i 0+s.l.getD i 0)) i=w32 ((PX keysL (sched (FN (bs b) 16) 48) s 64).l.getD i 0+s.l.getD i 0):=fun _ _=>rfl
 have h1:=PAE s.l (PX keysL (sched (FN (bs b) 16) 48) s 64).l [0,0,0,0,0,0,0,0] rfl rfl _ hf rfl 8 0 m (by omega)
 rw [show ((0:Nat):Int)=0 from rfl,List.range_zero,List.map_nil,List.nil_append,List.drop_zero] at h1
 have e:(List.range 8).map (fun i=>w32 ((PX keysL (sched (FN (bs b) 16) 48) s 64).l.getD i 0+s.l.getD i 0))=(comp s (bs b)).l:=by
  apply List.ext_getElem
  ·rw [Reg.Zi,List.length_map,List.length_range]
  ·intro i h1 h2
   have hi:i<8:=by simpa using h1
   rw [List.getElem_map,List.getElem_range,←getD_at h2 0]
   rw [comp,Vz _ _ i hi,Int.add_comm]
 rw [e] at h1
 exact h0.trans h1
theorem TAE {s:Reg} (hs:s.ok) {t:ByteArray} (ht:t.size≤1000000000000):Jg s.l t=some ((comps (t.size / 64) s (bs t)).l,t.extract (64*(t.size / 64)) t.size):=by
 have key:∀ (j:Nat) (s:Reg) (t:ByteArray) (m:Nat),s.ok→t.size / 64=j→t.size≤1000000000000→Ig (m+j+1) (.c0 t s.l [0,0,0,0,0,0,0,0])=some ((comps j s (bs t)).l,t.extract (64*j) t.size):=by
  intro j
  induction j with
  | zero=>
   intro s t m hs hj ht
   rw [Ig]
   simp only [Vk,Reg.Zi]
   rw [IK (by simp;omega),TB (by rfl),TB (by rfl),TB (by rfl)]
   congr 2
   apply Mc
   rw [Eb,List.take_of_length_le (by rw [bs_len];omega)]
   rfl
  | succ j ih=>
   intro s t m hs hj ht
   have h64:(64:Int).toNat=64:=rfl
   have e1:bs (t.extract 0 64)=(bs t).take 64:=by rw [Eb];rfl
   have e2:bs (t.extract 64 t.size)=(bs t).drop 64:=by rw [Eb,List.take_of_length_le (by rw [bs_len];omega)]
   rw [show m+(j+1)+1=(m+j+1)+1 by omega,Ig]
   simp only [Vk,h64,Reg.Zi]
   rw [TB (by simp;omega),TB (by rfl),TB (by simp;omega)]
   rw [SAE hs (b:=t.extract 0 64) (by simp;omega),Option.bind_some]
   rw [Reg.Zi]
   rw [TB (by rfl)]
   rw [TB (by simp;omega)]
   rw [ih (comp s (bs (t.extract 0 64))) (t.extract 64 t.size) m (Pz _ _) (by simp;omega) (by simp;omega),e1,e2]
   have e3:(t.extract 64 t.size).extract (64*j) (t.extract 64 t.size).size=t.extract (64*(j+1)) t.size:=by
    apply Mc
    rw [Eb,e2,Eb,List.take_of_length_le (by simp [bs_len]),List.take_of_length_le (by rw [bs_len];omega),List.drop_drop]
    congr 1
    omega
   rw [e3,comps]
 obtain ⟨m,hm⟩:∃ m,gas=m+t.size / 64+1:=⟨gas - (t.size / 64+1),by have:=gas_lt (n:=t.size / 64+1) (by omega);omega⟩
 rw [Jg,Xq,hm]
 exact key _ s t m hs rfl ht
theorem UAE {r:Reg} (hr:r.ok):Qg r.l=some (ofBytes (NM r.l)):=by
 have hl:r.l.length=8:=rfl
 have hrl:=Reg.Jb hr
 have hby:∀ i,ZX (NM (r.l.take i)):=fun i=>Zu (fun x hx=>hrl x (List.mem_of_mem_take hx))
 have key:=loopN (A:=Unit) (n:=8) (Lp:=Pg) (st:=fun i _=>.c0 (ofBytes (NM (r.l.take i))) r.l (i:Int)) (Inv:=fun _ _=>True) (out:=fun _ _=>some (ofBytes (NM r.l)))
  (fun m _ _=>by
   rw [Pg]
   simp only [Xk]
   rw [IK (by simp)]
   rfl)
  (fun m i _ hi _=>.inr ⟨(),by
   have e:w64 ((i:Int)+1)=((i+1:Nat):Int):=by rw [w64_id (by omega) (by omega)];rfl
   have hg:r.l.getD i 0=r.l[i]'(by omega):=getD_at (by omega) 0
   have hx:R32 (r.l.getD i 0):=Yi hrl i
   rw [Pg]
   simp only [Xk,e,Int.toNat_natCast,X0 hx,Option.bind_some,hl]
   rw [TB (by simp;omega),TB (by rfl),TB (by simp;omega),TB (by rw [ofBytes_size,ofBytes_size,Qc];simp [four];omega)]
   congr 2
   apply Mc
   rw [Lc,IY (hby i),IY (hby (i+1)),IY (Zl hx),take_at (by omega),Rz,hg]
   simp [NM],trivial,rfl⟩)
 rw [Qg,Zq,hl,TB (by rfl)]
 exact key gas 0 () (Nat.zero_le _) (gas_lt (by omega)) trivial
theorem VAE:Jk=some JY.l:=rfl
theorem WAE {s:ByteArray} (hs:s.size≤1000000000):Ug s=some (LZ s):=by
 have h1:=Am s.size
 have hsz:(s++ofBytes (TT s.size)).size=s.size+(TT s.size).length:=by rw [ByteArray.size_append,ofBytes_size]
 rw [Ug,Hr,VAE,Option.bind_some,WAD (n:=s.size) (by omega),Option.bind_some,TB (by rw [ofBytes_size];simp;omega),TAE KZ (by omega),Option.bind_some]
 simp only [Reg.Zi]
 rw [TB (by rfl),TB (by rfl),UAE (Ib KZ _ _),Option.bind_some,hsz,Lc,IY (Bv _),LZ,Nb,bs_len]
theorem XAE:Vg=some Gv:=by
 rw [Vg,Jr,WAE (by decide),Option.bind_some,show (32:Int)=((32:Nat):Int) from rfl,U0 (by omega),Option.bind_some];rfl
theorem YAE {b:SBox} (h:b.fDisk.fFiles.length*40≤140737488355328):Xg b=some (SN b):=by
 rw [Xg,Lr,UAD h,Option.bind_some,XAE];rfl
theorem ZAE (a:SFile)  : Fa a a=some true:=by
 simp [Fa,Nr]
theorem AAF {a:(List SFile)} (h:a.length≤140737488351232):Zg a a=some true:=by
 have h0:a.length≤140737488351232:=h
 have key:∀ m i,i≤a.length→a.length - i<m→Cc m (.c0 a a i)=some true:=fun m i h1 h2=>
  loopN (A:=Unit) (n:=a.length) (Lp:=Cc) (st:=fun i _=>.c0 a a i) (Inv:=fun _ _=>True) (out:=fun _ _=>some true)
   (fun m _ _=>by simp [Cc,Zk])
   (fun m i _ hi _=>.inr ⟨(),by
    have hw:w64 ((i:Int)+1)=((i+1:Nat):Int):=by rw [w64_id (by omega) (by omega)];rfl
    simp only [Cc,Zk,Int.toNat_natCast,hw,ZAE _,getD_at hi,Option.bind_some]
    simp [hi],trivial,rfl⟩) m i () h1 h2 trivial
 have h0:=key gas 0 (Nat.zero_le _) (gas_lt (by omega))
 unfold Zg Sr
 simp only [bne_self_eq_false,cond_false]
 exact h0
theorem BAF {a:SDisk} (h:a.fFiles.length≤140737488351232):Ah a a=some true:=by
 simp [Ah,Vr,AAF h]
theorem CAF (a:SThing)  : Ia a a=some true:=by
 simp [Ia,Xr]
theorem DAF {a:(List SThing)} (h:a.length≤140737488351232):Dh a a=some true:=by
 have h0:a.length≤140737488351232:=h
 have key:∀ m i,i≤a.length→a.length - i<m→Dc m (.c0 a a i)=some true:=fun m i h1 h2=>
  loopN (A:=Unit) (n:=a.length) (Lp:=Dc) (st:=fun i _=>.c0 a a i) (Inv:=fun _ _=>True) (out:=fun _ _=>some true)
   (fun m _ _=>by simp [Dc,Dl])
   (fun m i _ hi _=>.inr ⟨(),by
    have hw:w64 ((i:Int)+1)=((i+1:Nat):Int):=by rw [w64_id (by omega) (by omega)];rfl
    simp only [Dc,Dl,Int.toNat_natCast,hw,CAF _,getD_at hi,Option.bind_some]
    simp [hi],trivial,rfl⟩) m i () h1 h2 trivial
 have h0:=key gas 0 (Nat.zero_le _) (gas_lt (by omega))
 unfold Dh Zr
 simp only [bne_self_eq_false,cond_false]
 exact h0
theorem EAF {a:SBook} (h:a.fThings.length≤140737488351232):Eh a a=some true:=by
 simp [Eh,Gs,DAF h]
theorem FAF (a:SSession)  : Ja a a=some true:=by
 simp [Ja,Js]
theorem GAF {a:(List SSession)} (h:a.length≤140737488351232):Gh a a=some true:=by
 have h0:a.length≤140737488351232:=h
 have key:∀ m i,i≤a.length→a.length - i<m→Ic m (.c0 a a i)=some true:=fun m i h1 h2=>
  loopN (A:=Unit) (n:=a.length) (Lp:=Ic) (st:=fun i _=>.c0 a a i) (Inv:=fun _ _=>True) (out:=fun _ _=>some true)
   (fun m _ _=>by simp [Ic,Hl])
   (fun m i _ hi _=>.inr ⟨(),by
    have hw:w64 ((i:Int)+1)=((i+1:Nat):Int):=by rw [w64_id (by omega) (by omega)];rfl
    simp only [Ic,Hl,Int.toNat_natCast,hw,FAF _,getD_at hi,Option.bind_some]
    simp [hi],trivial,rfl⟩) m i () h1 h2 trivial
 have h0:=key gas 0 (Nat.zero_le _) (gas_lt (by omega))
 unfold Gh Ns
 simp only [bne_self_eq_false,cond_false]
 exact h0
theorem HAF (a:SLive)  : La a a=some true:=by
 simp [La,Qs]
theorem IAF {a:(List SLive)} (h:a.length≤140737488351232):Jh a a=some true:=by
 have h0:a.length≤140737488351232:=h
 have key:∀ m i,i≤a.length→a.length - i<m→Jc m (.c0 a a i)=some true:=fun m i h1 h2=>
  loopN (A:=Unit) (n:=a.length) (Lp:=Jc) (st:=fun i _=>.c0 a a i) (Inv:=fun _ _=>True) (out:=fun _ _=>some true)
   (fun m _ _=>by simp [Jc,Jl])
   (fun m i _ hi _=>.inr ⟨(),by
    have hw:w64 ((i:Int)+1)=((i+1:Nat):Int):=by rw [w64_id (by omega) (by omega)];rfl
    simp only [Jc,Jl,Int.toNat_natCast,hw,HAF _,getD_at hi,Option.bind_some]
    simp [hi],trivial,rfl⟩) m i () h1 h2 trivial
 have h0:=key gas 0 (Nat.zero_le _) (gas_lt (by omega))
 unfold Jh Vs
 simp only [bne_self_eq_false,cond_false]
 exact h0
theorem Y0 {a:SBox} (h:(a.fDisk.fFiles.length≤140737488351232)∧(a.fBook.fThings.length≤140737488351232)∧(a.fSessions.length≤140737488351232)∧(a.fLives.length≤140737488351232)):Lh a a=some true:=by
 simp [Lh,Dt,BAF (h.1),EAF (h.2.1),GAF (h.2.2.1),IAF (h.2.2.2)]
theorem JAF:∀ (j:Nat) (k:Int) (m:Nat) (out:ByteArray),0≤k→k≤9223372036854775807→k<10 ^ j→out.size+j≤1000→∃ s,Oh (m+j+1) (.c0 k out)=some s:=by
 intro j
 induction j with
 | zero=>
  intro k m out hk _ hk2 ho
  have:k=0:=by rw [Int.pow_zero] at hk2;omega
  subst this
  rw [Oh]
  simp only [Ll]
  have h9:(⟨#[109]⟩:ByteArray).size=1:=rfl
  rw [IK (by simp),TB (by rw [h9,decide_eq_true_eq];omega)]
  exact ⟨_,rfl⟩
 | succ j ih=>
  intro k m out hk h64 hk2 ho
  rw [show m+(j+1)+1=(m+j+1)+1 by omega,Oh]
  simp only [Ll]
  by_cases h:0<k
  ·have e1:w64 (k.tdiv 10)=k / 10:=by rw [Int.tdiv_eq_ediv_of_nonneg hk,w64_id (by omega) (by omega)]
   have h3:k / 10<10 ^ j:=Int.ediv_lt_of_lt_mul (by omega) (by rw [←Int.pow_succ];exact hk2)
   rw [TB (by simp;omega),TB (by rw [ofBytes_size,decide_eq_true_eq,List.length_singleton];omega),e1]
   exact ih _ m _ (by omega) (by omega) h3 (by rw [ByteArray.size_append,ofBytes_size,List.length_singleton];omega)
  ·have:k=0:=by omega
   subst this
   have h9:(⟨#[109]⟩:ByteArray).size=1:=rfl
   rw [IK (by simp),TB (by rw [h9,decide_eq_true_eq];omega)]
   exact ⟨_,rfl⟩
noncomputable def markT (k:Int):ByteArray:=(RV k).getD ⟨#[]⟩
theorem Uc {k:Int} (h:k≤1000000000000000000):RV k=some (markT k):=by
 have:∃ s,RV k=some s:=by
  rw [RV,Et]
  by_cases hk:k≤0
  ·rw [TB (by simp;omega)];exact ⟨_,rfl⟩
  ·rw [IK (by simp;omega)]
   obtain ⟨m,hm⟩:∃ m,gas=m+19+1:=⟨gas - 20,by have:=gas_lt (n:=20) (by omega);omega⟩
   rw [hm]
   exact JAF 19 k m _ (by omega) (by omega) (by (have:(10:Int) ^ 19=10000000000000000000:=by decide);omega) (by show 0+19≤1000;omega)
 obtain ⟨s,hs⟩:=this
 rw [markT,hs];rfl
noncomputable def Xc (k:Int):SFile:=⟨markT (k),markT (k+1),k+1+1⟩
noncomputable def SX (k:Int):Nat→List SFile
 | 0=>[]
 | n+1=>Xc k::SX (k+1+1+1) n
theorem KAF (n:Nat):∀ k,(SX k n).length=n:=by
 induction n with
 | zero=>intro k;rfl
 | succ n ih=>intro k;rw [SX,List.length_cons,ih]
theorem LAF {a:List SFile} {k:Int} {i m:Nat} (hi:i<a.length) (hk:0<k) (hk2:k≤100000000000000000) (hl:a.length≤100000000000000000) :
  Na (m+1) (.c0 k (i:Int) a)=Na m (.c0 (k+1+1+1) ((i+1:Nat):Int) (a.set i (Xc k))):=by
 have hwi:w64 ((i:Int)+1)=((i+1:Nat):Int):=by rw [w64_id (by omega) (by omega)];rfl
 have hlt:decide ((i:Int)<(a.length:Int))=true:=decide_eq_true (by omega)
 have hle:decide ((0:Int)≤(i:Int))=true:=decide_eq_true (by omega)
 have hw1:w64 (k+1)=k+1:=w64_id (by omega) (by omega)
 have hw2:w64 (k+1+1)=k+1+1:=w64_id (by omega) (by omega)
 have hw3:w64 (k+1+1+1)=k+1+1+1:=w64_id (by omega) (by omega)
 have hm0:=Uc (k:=k) (by omega)
 have hm1:=Uc (k:=k+1) (by omega)
 rw [Na]
 simp only [Ol,Int.toNat_natCast,List.length_set,RY hi,List.set_set,hwi,hw1,hw2,hw3,hm0,hm1,Option.bind_some,hlt,hle,Bool.and_self,cond_true]
 rfl
theorem MAF {a:List SFile} {k:Int} (hk:0<k) (hb:k+3*a.length≤100000000000000000):Qh a k=some (k+3*a.length,SX k a.length):=by
 have key:∀ (j i m:Nat) (k:Int) (b d:List SFile),i+j=a.length→d.length=i→b.length=j→0<k→k+3*j≤100000000000000000→Na (m+1*j+1) (.c0 k (i:Int) (d++b))=some (k+3*j,d++SX k j):=by
  intro j
  induction j with
  | zero=>
   intro i m k b d h1 h2 h3 h4 h5
   have hb0:b=[]:=List.length_eq_zero_iff.1 h3
   subst hb0
   rw [Na]
   simp only [Ol,List.append_nil,h2,SX]
   rw [IK (by simp)]
   simp
  | succ j ih=>
   intro i m k b d h1 h2 h3 h4 h5
   obtain ⟨x,b,rfl⟩:∃ x c,b=x::c:=by cases b with
    | nil=>cases h3
    | cons x c=>exact ⟨x,c,rfl⟩
   rw [List.length_cons] at h3
   have hlen:(d++x::b).length=a.length:=by rw [List.length_append,List.length_cons];omega
   rw [show m+1*(j+1)+1=(m+1*j+1)+1 by omega,LAF (by omega) h4 (by omega) (by omega),JZ h2]
   have h6:=ih (i+1) m (k+1+1+1) b (d++[Xc k]) (by omega) (by rw [List.length_append,List.length_singleton];omega) (by omega) (by omega) (by omega)
   rw [List.append_assoc,List.append_assoc,List.singleton_append,List.singleton_append] at h6
   rw [h6,SX]
   congr 2
   omega
 obtain ⟨m,hm⟩:∃ m,gas=m+1*a.length+1:=⟨gas - (1*a.length+1),by have:=gas_lt (n:=1*a.length+1) (by omega);omega⟩
 rw [Qh,Ht,hm]
 exact key a.length 0 m k a [] (by omega) rfl rfl hk hb
theorem NAF {a:SDisk} {k:Int} (hk:0<k) (hb:k+3*a.fFiles.length≤100000000000000000):Rh a k=some (k+3*a.fFiles.length,SX k a.fFiles.length):=by
 rw [Rh,Kt,MAF hk hb];rfl
noncomputable def Yc (k:Int):SThing:=⟨k,k+1,((k+1+1).tmod 3 == 0),((k+1+1+1).tmod 3 == 0),((k+1+1+1+1).tmod 3 == 0),((k+1+1+1+1+1).tmod 3 == 0),markT (k+1+1+1+1+1+1),k+1+1+1+1+1+1+1⟩
noncomputable def VX (k:Int):Nat→List SThing
 | 0=>[]
 | n+1=>Yc k::VX (k+1+1+1+1+1+1+1+1) n
theorem OAF (n:Nat):∀ k,(VX k n).length=n:=by
 induction n with
 | zero=>intro k;rfl
 | succ n ih=>intro k;rw [VX,List.length_cons,ih]
theorem PAF {a:List SThing} {k:Int} {i m:Nat} (hi:i<a.length) (hk:0<k) (hk2:k≤100000000000000000) (hl:a.length≤100000000000000000) :
  EY (m+8) (.c0 k (i:Int) a)=EY m (.c0 (k+1+1+1+1+1+1+1+1) ((i+1:Nat):Int) (a.set i (Yc k))):=by
 have hwi:w64 ((i:Int)+1)=((i+1:Nat):Int):=by rw [w64_id (by omega) (by omega)];rfl
 have hlt:decide ((i:Int)<(a.length:Int))=true:=decide_eq_true (by omega)
 have hle:decide ((0:Int)≤(i:Int))=true:=decide_eq_true (by omega)
 have hw1:w64 (k+1)=k+1:=w64_id (by omega) (by omega)
 have hw2:w64 (k+1+1)=k+1+1:=w64_id (by omega) (by omega)
 have hw3:w64 (k+1+1+1)=k+1+1+1:=w64_id (by omega) (by omega)
 have hw4:w64 (k+1+1+1+1)=k+1+1+1+1:=w64_id (by omega) (by omega)
 have hw5:w64 (k+1+1+1+1+1)=k+1+1+1+1+1:=w64_id (by omega) (by omega)
 have hw6:w64 (k+1+1+1+1+1+1)=k+1+1+1+1+1+1:=w64_id (by omega) (by omega)
 have hw7:w64 (k+1+1+1+1+1+1+1)=k+1+1+1+1+1+1+1:=w64_id (by omega) (by omega)
 have hw8:w64 (k+1+1+1+1+1+1+1+1)=k+1+1+1+1+1+1+1+1:=w64_id (by omega) (by omega)
 have hm6:=Uc (k:=k+1+1+1+1+1+1) (by omega)
 rw [show m+8=m+1+1+1+1+1+1+1+1 from rfl]
 rw [EY]
 simp only [PY,Int.toNat_natCast,List.length_set,RY hi,List.set_set,hwi,hw1,hw2,hw3,hw4,hw5,hw6,hw7,hw8,hm6,Option.bind_some,hlt,hle,Bool.and_self,cond_true]
 rw [EY]
 simp only [PY,Int.toNat_natCast,List.length_set,RY hi,List.set_set,hwi,hw1,hw2,hw3,hw4,hw5,hw6,hw7,hw8,hm6,Option.bind_some,hlt,hle,Bool.and_self,cond_true]
 rw [EY]
 simp only [PY,Int.toNat_natCast,List.length_set,RY hi,List.set_set,hwi,hw1,hw2,hw3,hw4,hw5,hw6,hw7,hw8,hm6,Option.bind_some,hlt,hle,Bool.and_self,cond_true]
 rw [EY]
 simp only [PY,Int.toNat_natCast,List.length_set,RY hi,List.set_set,hwi,hw1,hw2,hw3,hw4,hw5,hw6,hw7,hw8,hm6,Option.bind_some,hlt,hle,Bool.and_self,cond_true]
 rw [EY]
 simp only [PY,Int.toNat_natCast,List.length_set,RY hi,List.set_set,hwi,hw1,hw2,hw3,hw4,hw5,hw6,hw7,hw8,hm6,Option.bind_some,hlt,hle,Bool.and_self,cond_true]
 rw [EY]
 simp only [PY,Int.toNat_natCast,List.length_set,RY hi,List.set_set,hwi,hw1,hw2,hw3,hw4,hw5,hw6,hw7,hw8,hm6,Option.bind_some,hlt,hle,Bool.and_self,cond_true]
 rw [EY]
 simp only [PY,Int.toNat_natCast,List.length_set,RY hi,List.set_set,hwi,hw1,hw2,hw3,hw4,hw5,hw6,hw7,hw8,hm6,Option.bind_some,hlt,hle,Bool.and_self,cond_true]
 rw [EY]
 simp only [PY,Int.toNat_natCast,List.length_set,RY hi,List.set_set,hwi,hw1,hw2,hw3,hw4,hw5,hw6,hw7,hw8,hm6,Option.bind_some,hlt,hle,Bool.and_self,cond_true]
 rfl
theorem QAF {a:List SThing} {k:Int} (hk:0<k) (hb:k+8*a.length≤100000000000000000):Vh a k=some (k+8*a.length,VX k a.length):=by
 have key:∀ (j i m:Nat) (k:Int) (b d:List SThing),i+j=a.length→d.length=i→b.length=j→0<k→k+8*j≤100000000000000000→EY (m+8*j+1) (.c0 k (i:Int) (d++b))=some (k+8*j,d++VX k j):=by
  intro j
  induction j with
  | zero=>
   intro i m k b d h1 h2 h3 h4 h5
   have hb0:b=[]:=List.length_eq_zero_iff.1 h3
   subst hb0
   rw [EY]
   simp only [PY,List.append_nil,h2,VX]
   rw [IK (by simp)]
   simp
  | succ j ih=>
   intro i m k b d h1 h2 h3 h4 h5
   obtain ⟨x,b,rfl⟩:∃ x c,b=x::c:=by cases b with
    | nil=>cases h3
    | cons x c=>exact ⟨x,c,rfl⟩
   rw [List.length_cons] at h3
   have hlen:(d++x::b).length=a.length:=by rw [List.length_append,List.length_cons];omega
   rw [show m+8*(j+1)+1=(m+8*j+1)+8 by omega,PAF (by omega) h4 (by omega) (by omega),JZ h2]
   have h6:=ih (i+1) m (k+1+1+1+1+1+1+1+1) b (d++[Yc k]) (by omega) (by rw [List.length_append,List.length_singleton];omega) (by omega) (by omega) (by omega)
   rw [List.append_assoc,List.append_assoc,List.singleton_append,List.singleton_append] at h6
   rw [h6,VX]
   congr 2
   omega
 obtain ⟨m,hm⟩:∃ m,gas=m+8*a.length+1:=⟨gas - (8*a.length+1),by have:=gas_lt (n:=8*a.length+1) (by omega);omega⟩
 rw [Vh,Rt,hm]
 exact key a.length 0 m k a [] (by omega) rfl rfl hk hb
theorem RAF {a:SBook} {k:Int} (hk:0<k) (hb:k+8*a.fThings.length≤100000000000000000):Wh a k=some (k+8*a.fThings.length,VX k a.fThings.length):=by
 rw [Wh,Ut,QAF hk hb];rfl
noncomputable def Ad (k:Int):SSession:=⟨k,((k+1).tmod 3 == 0)⟩
noncomputable def CY (k:Int):Nat→List SSession
 | 0=>[]
 | n+1=>Ad k::CY (k+1+1) n
theorem SAF (n:Nat):∀ k,(CY k n).length=n:=by
 induction n with
 | zero=>intro k;rfl
 | succ n ih=>intro k;rw [CY,List.length_cons,ih]
theorem TAF {a:List SSession} {k:Int} {i m:Nat} (hi:i<a.length) (hk:0<k) (hk2:k≤100000000000000000) (hl:a.length≤100000000000000000) :
  Oa (m+1) (.c0 k (i:Int) a)=Oa m (.c0 (k+1+1) ((i+1:Nat):Int) (a.set i (Ad k))):=by
 have hwi:w64 ((i:Int)+1)=((i+1:Nat):Int):=by rw [w64_id (by omega) (by omega)];rfl
 have hlt:decide ((i:Int)<(a.length:Int))=true:=decide_eq_true (by omega)
 have hle:decide ((0:Int)≤(i:Int))=true:=decide_eq_true (by omega)
 have hw1:w64 (k+1)=k+1:=w64_id (by omega) (by omega)
 have hw2:w64 (k+1+1)=k+1+1:=w64_id (by omega) (by omega)
 rw [Oa]
 simp only [Ql,Int.toNat_natCast,List.length_set,RY hi,List.set_set,hwi,hw1,hw2,Option.bind_some,hlt,hle,Bool.and_self,cond_true]
 rfl
theorem UAF {a:List SSession} {k:Int} (hk:0<k) (hb:k+2*a.length≤100000000000000000):Yh a k=some (k+2*a.length,CY k a.length):=by
 have key:∀ (j i m:Nat) (k:Int) (b d:List SSession),i+j=a.length→d.length=i→b.length=j→0<k→k+2*j≤100000000000000000→Oa (m+1*j+1) (.c0 k (i:Int) (d++b))=some (k+2*j,d++CY k j):=by
  intro j
  induction j with
  | zero=>
   intro i m k b d h1 h2 h3 h4 h5
   have hb0:b=[]:=List.length_eq_zero_iff.1 h3
   subst hb0
   rw [Oa]
   simp only [Ql,List.append_nil,h2,CY]
   rw [IK (by simp)]
   simp
  | succ j ih=>
   intro i m k b d h1 h2 h3 h4 h5
   obtain ⟨x,b,rfl⟩:∃ x c,b=x::c:=by cases b with
    | nil=>cases h3
    | cons x c=>exact ⟨x,c,rfl⟩
   rw [List.length_cons] at h3
   have hlen:(d++x::b).length=a.length:=by rw [List.length_append,List.length_cons];omega
   rw [show m+1*(j+1)+1=(m+1*j+1)+1 by omega,TAF (by omega) h4 (by omega) (by omega),JZ h2]
   have h6:=ih (i+1) m (k+1+1) b (d++[Ad k]) (by omega) (by rw [List.length_append,List.length_singleton];omega) (by omega) (by omega) (by omega)
   rw [List.append_assoc,List.append_assoc,List.singleton_append,List.singleton_append] at h6
   rw [h6,CY]
   congr 2
   omega
 obtain ⟨m,hm⟩:∃ m,gas=m+1*a.length+1:=⟨gas - (1*a.length+1),by have:=gas_lt (n:=1*a.length+1) (by omega);omega⟩
 rw [Yh,Xt,hm]
 exact key a.length 0 m k a [] (by omega) rfl rfl hk hb
noncomputable def Bd (k:Int):SLive:=⟨k,k+1⟩
noncomputable def DY (k:Int):Nat→List SLive
 | 0=>[]
 | n+1=>Bd k::DY (k+1+1) n
theorem VAF (n:Nat):∀ k,(DY k n).length=n:=by
 induction n with
 | zero=>intro k;rfl
 | succ n ih=>intro k;rw [DY,List.length_cons,ih]
theorem WAF {a:List SLive} {k:Int} {i m:Nat} (hi:i<a.length) (hk:0<k) (hk2:k≤100000000000000000) (hl:a.length≤100000000000000000) :
  Qa (m+1) (.c0 k (i:Int) a)=Qa m (.c0 (k+1+1) ((i+1:Nat):Int) (a.set i (Bd k))):=by
 have hwi:w64 ((i:Int)+1)=((i+1:Nat):Int):=by rw [w64_id (by omega) (by omega)];rfl
 have hlt:decide ((i:Int)<(a.length:Int))=true:=decide_eq_true (by omega)
 have hle:decide ((0:Int)≤(i:Int))=true:=decide_eq_true (by omega)
 have hw1:w64 (k+1)=k+1:=w64_id (by omega) (by omega)
 have hw2:w64 (k+1+1)=k+1+1:=w64_id (by omega) (by omega)
 rw [Qa]
 simp only [Rl,Int.toNat_natCast,List.length_set,RY hi,List.set_set,hwi,hw1,hw2,Option.bind_some,hlt,hle,Bool.and_self,cond_true]
 rfl
theorem XAF {a:List SLive} {k:Int} (hk:0<k) (hb:k+2*a.length≤100000000000000000):Ai a k=some (k+2*a.length,DY k a.length):=by
 have key:∀ (j i m:Nat) (k:Int) (b d:List SLive),i+j=a.length→d.length=i→b.length=j→0<k→k+2*j≤100000000000000000→Qa (m+1*j+1) (.c0 k (i:Int) (d++b))=some (k+2*j,d++DY k j):=by
  intro j
  induction j with
  | zero=>
   intro i m k b d h1 h2 h3 h4 h5
   have hb0:b=[]:=List.length_eq_zero_iff.1 h3
   subst hb0
   rw [Qa]
   simp only [Rl,List.append_nil,h2,DY]
   rw [IK (by simp)]
   simp
  | succ j ih=>
   intro i m k b d h1 h2 h3 h4 h5
   obtain ⟨x,b,rfl⟩:∃ x c,b=x::c:=by cases b with
    | nil=>cases h3
    | cons x c=>exact ⟨x,c,rfl⟩
   rw [List.length_cons] at h3
   have hlen:(d++x::b).length=a.length:=by rw [List.length_append,List.length_cons];omega
   rw [show m+1*(j+1)+1=(m+1*j+1)+1 by omega,WAF (by omega) h4 (by omega) (by omega),JZ h2]
   have h6:=ih (i+1) m (k+1+1) b (d++[Bd k]) (by omega) (by rw [List.length_append,List.length_singleton];omega) (by omega) (by omega) (by omega)
   rw [List.append_assoc,List.append_assoc,List.singleton_append,List.singleton_append] at h6
   rw [h6,DY]
   congr 2
   omega
 obtain ⟨m,hm⟩:∃ m,gas=m+1*a.length+1:=⟨gas - (1*a.length+1),by have:=gas_lt (n:=1*a.length+1) (by omega);omega⟩
 rw [Ai,Zt,hm]
 exact key a.length 0 m k a [] (by omega) rfl rfl hk hb
theorem O1 {a:SBox} (h1:a.fDisk.fFiles.length≤1000000000000000) (h2:a.fBook.fThings.length≤1000000000000000) (h3:a.fSessions.length≤1000000000000000) (h4:a.fLives.length≤1000000000000000) :
  Ci a 1=some ((1:Int)+3*a.fDisk.fFiles.length+8*a.fBook.fThings.length+2*a.fSessions.length+2*a.fLives.length,SX 1 a.fDisk.fFiles.length,VX (1+3*a.fDisk.fFiles.length) a.fBook.fThings.length,
   CY (1+3*a.fDisk.fFiles.length+8*a.fBook.fThings.length) a.fSessions.length,DY (1+3*a.fDisk.fFiles.length+8*a.fBook.fThings.length+2*a.fSessions.length) a.fLives.length):=by
 rw [Ci,Du,NAF (by omega) (by omega),Option.bind_some,RAF (by omega) (by simp only;omega),Option.bind_some,UAF (by omega) (by omega),Option.bind_some,XAF (by omega) (by omega),Option.bind_some]
theorem YAF {a:List SFile} {k:Int} {i m:Nat} (hi:i<a.length) (hg:∀ z,a.getD i z=Xc k) (hk:0<k) (hk2:k≤100000000000000000) (hl:a.length≤100000000000000000) :
  Ua (m+1) (.c0 a k (i:Int))=Ua m (.c0 a (k+1+1+1) ((i+1:Nat):Int)):=by
 have hwi:w64 ((i:Int)+1)=((i+1:Nat):Int):=by rw [w64_id (by omega) (by omega)];rfl
 have hlt:decide ((i:Int)<(a.length:Int))=true:=decide_eq_true (by omega)
 have hle:decide ((0:Int)≤(i:Int))=true:=decide_eq_true (by omega)
 have hw1:w64 (k+1)=k+1:=w64_id (by omega) (by omega)
 have hw2:w64 (k+1+1)=k+1+1:=w64_id (by omega) (by omega)
 have hw3:w64 (k+1+1+1)=k+1+1+1:=w64_id (by omega) (by omega)
 have hm0:=Uc (k:=k) (by omega)
 have hm1:=Uc (k:=k+1) (by omega)
 rw [Ua]
 simp only [Sl,Int.toNat_natCast,hwi,hw1,hw2,hw3,hm0,hm1,Option.bind_some,hlt,hle,Bool.and_self,cond_true,hg,Xc,bne_self_eq_false,cond_false,toList_self,beq_self_eq_true,Bool.not_true]
theorem ZAF:∀ (n:Nat) (k:Int) (i:Nat),i<n→∀ z,(SX k n).getD i z=Xc (k+3*i):=by
 intro n
 induction n with
 | zero=>intro k i h;omega
 | succ n ih=>
  intro k i h z
  cases i with
  | zero=>rw [SX,show k+3*((0:Nat):Int)=k by omega];rfl
  | succ i=>
   have h2:=ih (k+1+1+1) i (by omega) z
   rw [show k+1+1+1+3*(i:Int)=k+3*((i+1:Nat):Int) by omega] at h2
   rw [←h2,SX];rfl
theorem AAG {n:Nat} {k:Int} (hk:0<k) (hb:k+3*n≤100000000000000000):Ei (SX k n) k=some (k+3*n):=by
 have hl:=KAF n k
 have key:∀ (j i m:Nat),i+j=n→Ua (m+j+1) (.c0 (SX k n) (k+3*i) (i:Int))=some (k+3*n):=by
  intro j
  induction j with
  | zero=>
   intro i m h1
   obtain rfl:i=n:=by omega
   rw [Ua]
   simp only [Sl,hl]
   rw [IK (by simp)]
  | succ j ih=>
   intro i m h1
   rw [show m+(j+1)+1=(m+j+1)+1 by omega,YAF (by omega) (ZAF n k i (by omega)) (by omega) (by omega) (by omega)]
   have h2:=ih (i+1) m (by omega)
   rw [show k+3*((i+1:Nat):Int)=k+3*(i:Int)+1+1+1 by omega] at h2
   exact h2
 obtain ⟨m,hm⟩:∃ m,gas=m+n+1:=⟨gas - (n+1),by have:=gas_lt (n:=n+1) (by omega);omega⟩
 have h0:=key n 0 m (by omega)
 rw [show k+3*((0:Nat):Int)=k by omega] at h0
 rw [Ei,Gu,hm]
 exact h0
theorem BAG {a:SDisk} {n:Nat} {k:Int} (h:a.fFiles=SX k n) (hk:0<k) (hb:k+3*n≤100000000000000000):Gi a k=some (k+3*n):=by
 rw [Gi,Iu,h,AAG hk hb,Option.bind_some,IK (by simp;omega)]
theorem CAG {a:List SThing} {k:Int} {i m:Nat} (hi:i<a.length) (hg:∀ z,a.getD i z=Yc k) (hk:0<k) (hk2:k≤100000000000000000) (hl:a.length≤100000000000000000) :
  Va (m+1) (.c0 a k (i:Int))=Va m (.c0 a (k+1+1+1+1+1+1+1+1) ((i+1:Nat):Int)):=by
 have hwi:w64 ((i:Int)+1)=((i+1:Nat):Int):=by rw [w64_id (by omega) (by omega)];rfl
 have hlt:decide ((i:Int)<(a.length:Int))=true:=decide_eq_true (by omega)
 have hle:decide ((0:Int)≤(i:Int))=true:=decide_eq_true (by omega)
 have hw1:w64 (k+1)=k+1:=w64_id (by omega) (by omega)
 have hw2:w64 (k+1+1)=k+1+1:=w64_id (by omega) (by omega)
 have hw3:w64 (k+1+1+1)=k+1+1+1:=w64_id (by omega) (by omega)
 have hw4:w64 (k+1+1+1+1)=k+1+1+1+1:=w64_id (by omega) (by omega)
 have hw5:w64 (k+1+1+1+1+1)=k+1+1+1+1+1:=w64_id (by omega) (by omega)
 have hw6:w64 (k+1+1+1+1+1+1)=k+1+1+1+1+1+1:=w64_id (by omega) (by omega)
 have hw7:w64 (k+1+1+1+1+1+1+1)=k+1+1+1+1+1+1+1:=w64_id (by omega) (by omega)
 have hw8:w64 (k+1+1+1+1+1+1+1+1)=k+1+1+1+1+1+1+1+1:=w64_id (by omega) (by omega)
 have hm6:=Uc (k:=k+1+1+1+1+1+1) (by omega)
 rw [Va]
 simp only [Ul,Int.toNat_natCast,hwi,hw1,hw2,hw3,hw4,hw5,hw6,hw7,hw8,hm6,Option.bind_some,hlt,hle,Bool.and_self,cond_true,hg,Yc,bne_self_eq_false,cond_false,toList_self,beq_self_eq_true,Bool.not_true]
theorem EAG:∀ (n:Nat) (k:Int) (i:Nat),i<n→∀ z,(VX k n).getD i z=Yc (k+8*i):=by
 intro n
 induction n with
 | zero=>intro k i h;omega
 | succ n ih=>
  intro k i h z
  cases i with
  | zero=>rw [VX,show k+8*((0:Nat):Int)=k by omega];rfl
  | succ i=>
   have h2:=ih (k+1+1+1+1+1+1+1+1) i (by omega) z
   rw [show k+1+1+1+1+1+1+1+1+8*(i:Int)=k+8*((i+1:Nat):Int) by omega] at h2
   rw [←h2,VX];rfl
theorem FAG {n:Nat} {k:Int} (hk:0<k) (hb:k+8*n≤100000000000000000):Ji (VX k n) k=some (k+8*n):=by
 have hl:=OAF n k
 have key:∀ (j i m:Nat),i+j=n→Va (m+j+1) (.c0 (VX k n) (k+8*i) (i:Int))=some (k+8*n):=by
  intro j
  induction j with
  | zero=>
   intro i m h1
   obtain rfl:i=n:=by omega
   rw [Va]
   simp only [Ul,hl]
   rw [IK (by simp)]
  | succ j ih=>
   intro i m h1
   rw [show m+(j+1)+1=(m+j+1)+1 by omega,CAG (by omega) (EAG n k i (by omega)) (by omega) (by omega) (by omega)]
   have h2:=ih (i+1) m (by omega)
   rw [show k+8*((i+1:Nat):Int)=k+8*(i:Int)+1+1+1+1+1+1+1+1 by omega] at h2
   exact h2
 obtain ⟨m,hm⟩:∃ m,gas=m+n+1:=⟨gas - (n+1),by have:=gas_lt (n:=n+1) (by omega);omega⟩
 have h0:=key n 0 m (by omega)
 rw [show k+8*((0:Nat):Int)=k by omega] at h0
 rw [Ji,Ku,hm]
 exact h0
theorem GAG {a:SBook} {n:Nat} {k:Int} (h:a.fThings=VX k n) (hk:0<k) (hb:k+8*n≤100000000000000000):Oi a k=some (k+8*n):=by
 rw [Oi,Nu,h,FAG hk hb,Option.bind_some,IK (by simp;omega)]
theorem HAG {a:List SSession} {k:Int} {i m:Nat} (hi:i<a.length) (hg:∀ z,a.getD i z=Ad k) (hk:0<k) (hk2:k≤100000000000000000) (hl:a.length≤100000000000000000) :
  Xa (m+1) (.c0 a k (i:Int))=Xa m (.c0 a (k+1+1) ((i+1:Nat):Int)):=by
 have hwi:w64 ((i:Int)+1)=((i+1:Nat):Int):=by rw [w64_id (by omega) (by omega)];rfl
 have hlt:decide ((i:Int)<(a.length:Int))=true:=decide_eq_true (by omega)
 have hle:decide ((0:Int)≤(i:Int))=true:=decide_eq_true (by omega)
 have hw1:w64 (k+1)=k+1:=w64_id (by omega) (by omega)
 have hw2:w64 (k+1+1)=k+1+1:=w64_id (by omega) (by omega)
 rw [Xa]
 simp only [Vl,Int.toNat_natCast,hwi,hw1,hw2,Option.bind_some,hlt,hle,Bool.and_self,cond_true,hg,Ad,bne_self_eq_false,cond_false,toList_self,beq_self_eq_true,Bool.not_true]
theorem IAG:∀ (n:Nat) (k:Int) (i:Nat),i<n→∀ z,(CY k n).getD i z=Ad (k+2*i):=by
 intro n
 induction n with
 | zero=>intro k i h;omega
 | succ n ih=>
  intro k i h z
  cases i with
  | zero=>rw [CY,show k+2*((0:Nat):Int)=k by omega];rfl
  | succ i=>
   have h2:=ih (k+1+1) i (by omega) z
   rw [show k+1+1+2*(i:Int)=k+2*((i+1:Nat):Int) by omega] at h2
   rw [←h2,CY];rfl
theorem JAG {n:Nat} {k:Int} (hk:0<k) (hb:k+2*n≤100000000000000000):Ri (CY k n) k=some (k+2*n):=by
 have hl:=SAF n k
 have key:∀ (j i m:Nat),i+j=n→Xa (m+j+1) (.c0 (CY k n) (k+2*i) (i:Int))=some (k+2*n):=by
  intro j
  induction j with
  | zero=>
   intro i m h1
   obtain rfl:i=n:=by omega
   rw [Xa]
   simp only [Vl,hl]
   rw [IK (by simp)]
  | succ j ih=>
   intro i m h1
   rw [show m+(j+1)+1=(m+j+1)+1 by omega,HAG (by omega) (IAG n k i (by omega)) (by omega) (by omega) (by omega)]
   have h2:=ih (i+1) m (by omega)
   rw [show k+2*((i+1:Nat):Int)=k+2*(i:Int)+1+1 by omega] at h2
   exact h2
 obtain ⟨m,hm⟩:∃ m,gas=m+n+1:=⟨gas - (n+1),by have:=gas_lt (n:=n+1) (by omega);omega⟩
 have h0:=key n 0 m (by omega)
 rw [show k+2*((0:Nat):Int)=k by omega] at h0
 rw [Ri,Qu,hm]
 exact h0
theorem KAG {a:List SLive} {k:Int} {i m:Nat} (hi:i<a.length) (hg:∀ z,a.getD i z=Bd k) (hk:0<k) (hk2:k≤100000000000000000) (hl:a.length≤100000000000000000) :
  Ya (m+1) (.c0 a k (i:Int))=Ya m (.c0 a (k+1+1) ((i+1:Nat):Int)):=by
 have hwi:w64 ((i:Int)+1)=((i+1:Nat):Int):=by rw [w64_id (by omega) (by omega)];rfl
 have hlt:decide ((i:Int)<(a.length:Int))=true:=decide_eq_true (by omega)
 have hle:decide ((0:Int)≤(i:Int))=true:=decide_eq_true (by omega)
 have hw1:w64 (k+1)=k+1:=w64_id (by omega) (by omega)
 have hw2:w64 (k+1+1)=k+1+1:=w64_id (by omega) (by omega)
 rw [Ya]
 simp only [Wl,Int.toNat_natCast,hwi,hw1,hw2,Option.bind_some,hlt,hle,Bool.and_self,cond_true,hg,Bd,bne_self_eq_false,cond_false,toList_self,beq_self_eq_true,Bool.not_true]
theorem LAG:∀ (n:Nat) (k:Int) (i:Nat),i<n→∀ z,(DY k n).getD i z=Bd (k+2*i):=by
 intro n
 induction n with
 | zero=>intro k i h;omega
 | succ n ih=>
  intro k i h z
  cases i with
  | zero=>rw [DY,show k+2*((0:Nat):Int)=k by omega];rfl
  | succ i=>
   have h2:=ih (k+1+1) i (by omega) z
   rw [show k+1+1+2*(i:Int)=k+2*((i+1:Nat):Int) by omega] at h2
   rw [←h2,DY];rfl
theorem MAG {n:Nat} {k:Int} (hk:0<k) (hb:k+2*n≤100000000000000000):Ti (DY k n) k=some (k+2*n):=by
 have hl:=VAF n k
 have key:∀ (j i m:Nat),i+j=n→Ya (m+j+1) (.c0 (DY k n) (k+2*i) (i:Int))=some (k+2*n):=by
  intro j
  induction j with
  | zero=>
   intro i m h1
   obtain rfl:i=n:=by omega
   rw [Ya]
   simp only [Wl,hl]
   rw [IK (by simp)]
  | succ j ih=>
   intro i m h1
   rw [show m+(j+1)+1=(m+j+1)+1 by omega,KAG (by omega) (LAG n k i (by omega)) (by omega) (by omega) (by omega)]
   have h2:=ih (i+1) m (by omega)
   rw [show k+2*((i+1:Nat):Int)=k+2*(i:Int)+1+1 by omega] at h2
   exact h2
 obtain ⟨m,hm⟩:∃ m,gas=m+n+1:=⟨gas - (n+1),by have:=gas_lt (n:=n+1) (by omega);omega⟩
 have h0:=key n 0 m (by omega)
 rw [show k+2*((0:Nat):Int)=k by omega] at h0
 rw [Ti,Uu,hm]
 exact h0
theorem NAG {a:SBox} {f t s l:Nat} (h1:f≤1000000000000000) (h2:t≤1000000000000000) (h3:s≤1000000000000000) (h4:l≤1000000000000000) (e1:a.fDisk.fFiles=SX 1 f) (e2:a.fBook.fThings=VX (1+3*f) t)
  (e3:a.fSessions=CY (1+3*f+8*t) s) (e4:a.fLives=DY (1+3*f+8*t+2*s) l):Ui a 1=some ((1:Int)+3*f+8*t+2*s+2*l):=by
 rw [Ui,Wu,BAG e1 (by omega) (by omega),Option.bind_some,IK (by simp;omega),GAG e2 (by omega) (by omega),Option.bind_some,IK (by simp;omega),e3,JAG (by omega) (by omega),Option.bind_some,IK (by simp;omega),e4,MAG (by omega) (by omega),Option.bind_some,IK (by simp;omega)]
theorem law_FnExactFallen (x0:SBox) (g0:GSBox x0):laws_FnExactFallen x0=some true:=by
 obtain ⟨r,hr⟩:=LAB g0 1048576
 have h1:x0.fDisk.fFiles.length*40≤140737488351232:=g0.2.2.1.1
 have h2:x0.fBook.fThings.length*48≤140737488351232:=g0.2.2.2.1.2.2.1.1
 have h3:x0.fSessions.length*16≤140737488351232:=g0.2.2.2.2.1.1
 have h4:x0.fLives.length*16≤140737488351232:=g0.2.2.2.2.2.1.1
 have e1:=Y0 (a:=x0) ⟨by omega,by omega,by omega,by omega⟩
 have e2:=Y0 (a:=SN x0) ⟨by show x0.fDisk.fFiles.length≤_;omega,Nat.zero_le _,Nat.zero_le _,Nat.zero_le _⟩
 have m0:=O1 (a:=x0) (by omega) (by omega) (by omega) (by omega)
 have m1:=O1 (a:=SN x0) (by show x0.fDisk.fFiles.length≤_;omega) (Nat.zero_le _) (Nat.zero_le _) (Nat.zero_le _)
 have hh:=NAG (f:=(SN x0).fDisk.fFiles.length) (t:=(SN x0).fBook.fThings.length) (s:=(SN x0).fSessions.length) (l:=(SN x0).fLives.length) (a:=⟨(SN x0).fKey,(SN x0).fUp,⟨SX 1 (SN x0).fDisk.fFiles.length⟩,⟨(SN x0).fBook.fWord,(SN x0).fBook.fTries,VX (1+3*(SN x0).fDisk.fFiles.length) (SN x0).fBook.fThings.length,(SN x0).fBook.fLast,(SN x0).fBook.fChain,(SN x0).fBook.fCount⟩,
  CY (1+3*(SN x0).fDisk.fFiles.length+8*(SN x0).fBook.fThings.length) (SN x0).fSessions.length,DY (1+3*(SN x0).fDisk.fFiles.length+8*(SN x0).fBook.fThings.length+2*(SN x0).fSessions.length) (SN x0).fLives.length,(SN x0).fOpened⟩)
  (by show x0.fDisk.fFiles.length≤_;omega) (Nat.zero_le _) (Nat.zero_le _) (Nat.zero_le _) rfl rfl rfl rfl
 have d0:decide ((1:Int)+3*(x0.fDisk.fFiles.length:Int)+8*(x0.fBook.fThings.length:Int)+2*(x0.fSessions.length:Int)+2*(x0.fLives.length:Int)<0)=false:=by rw [decide_eq_false_iff_not];omega
 have d1:decide ((1:Int)+3*((SN x0).fDisk.fFiles.length:Int)+8*((SN x0).fBook.fThings.length:Int)+2*((SN x0).fSessions.length:Int)+2*((SN x0).fLives.length:Int)<0)=false:=by rw [decide_eq_false_iff_not];omega
 simp only [laws_FnExactFallen,Xu,hr,Option.bind_some,WAB g0,TAD (b:=x0) (by omega),YAE (b:=x0) (by omega),e1,e2,m0,m1,hh,d0,d1,Bool.not_true,cond_false,bne_self_eq_false]
 cases decide (r<0) <;> rfl
end Go.Proofs.YthfpmhalgimbbaaDoor.G
