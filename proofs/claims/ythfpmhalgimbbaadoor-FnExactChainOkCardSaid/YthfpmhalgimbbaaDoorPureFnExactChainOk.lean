/- The plain law of FnExactChainOk: whatever the arguments, it answers true. Conditions: what is read is in reach. Part 1 of 1. -/
import Derived.Test.YthfpmhalgimbbaaDoorFFnExactChainOk
import Derived.Test.YthfpmhalgimbbaaDoorOpens
import Derived.Test.YthfpmhalgimbbaaDoorPBase
namespace Go.Proofs.YthfpmhalgimbbaaDoor.G
open Go Go.Ev
set_option linter.unusedVariables false
set_option linter.unusedSimpArgs false
theorem D5 {a:SThing} (g:GSThing a) (n:Int):∃ r,Fa a n=some r:=⟨_,cond_some _ _ _⟩
theorem JAC {a:(List SThing)} (g:(GList 48 GSThing) a) (n:Int):∃ r,Ye a n=some r:=by
 have h:=g.1
 have key:∀ m i l,i≤a.length→a.length - i<m→∃ r,Zj m (.c0 a l i)=some r:=by
  intro m
  induction m with
  | zero=>intro i l _ h;omega
  | succ m ih=>
   intro i l h1 h2
   simp only [Zj,Po]
   by_cases hi:i<a.length
   ·have hw:w64 ((i:Int)+1)=((i+1:Nat):Int):=by rw [w64_id (by omega) (by omega)];rfl
    obtain ⟨r,hr⟩:=D5 (g.2 _ (List.getElem_mem hi)) l
    simp only [Int.toNat_natCast,getD_at hi,hr,Option.bind_some,hw]
    rw [show (decide ((i:Int)<(a.length:Int)))=true from decide_eq_true (by omega),show (decide ((0:Int)≤(i:Int)))=true from decide_eq_true (by omega)]
    simp only [Bool.and_self,cond_true]
    cases decide (r<0)
    ·exact ih (i+1) r hi (by omega)
    ·exact ⟨_,rfl⟩
   ·rw [show (decide ((i:Int)<(a.length:Int)))=false from decide_eq_false (by omega)]
    exact ⟨_,rfl⟩
 unfold Ye Oo
 cases decide (w64 (n - (a.length:Int))<0)
 ·exact key gas 0 _ (Nat.zero_le _) (gas_lt (by omega))
 ·exact ⟨_,rfl⟩
theorem KAC {a:SBook} (g:GSBook a) (n:Int):∃ r,Ze a n=some r:=by
 unfold Ze Ro
 cases decide ((w64 (n - (a.fWord.size:Int)))<0)
 rotate_left
 ·exact ⟨_,rfl⟩
 simp only [cond_false]
 obtain ⟨r0,hr0⟩:=JAC (g.2.2.1) ((w64 (n - (a.fWord.size:Int))))
 simp only [hr0,Option.bind_some]
 cases decide (r0<0)
 rotate_left
 ·exact ⟨_,rfl⟩
 simp only [cond_false]
 cases decide ((w64 (r0 - (a.fChain.size:Int)))<0)
 rotate_left
 ·exact ⟨_,rfl⟩
 simp only [cond_false]
 exact ⟨_,rfl⟩
theorem LAC {a:SRec} (g:GSRec a) (n:Int):∃ r,Qa a n=some r:=by
 unfold Qa Uo
 cases decide ((w64 (n - (a.fText.size:Int)))<0)
 rotate_left
 ·exact ⟨_,rfl⟩
 simp only [cond_false]
 obtain ⟨r0,hr0⟩:=D5 (g.2.2.2) ((w64 (n - (a.fText.size:Int))))
 simp only [hr0,Option.bind_some]
 cases decide (r0<0)
 rotate_left
 ·exact ⟨_,rfl⟩
 simp only [cond_false]
 exact ⟨_,rfl⟩
theorem NAC {a:(List SRec)} (g:(GList 80 GSRec) a) (n:Int):∃ r,Bf a n=some r:=by
 have h:=g.1
 have key:∀ m i l,i≤a.length→a.length - i<m→∃ r,Dk m (.c0 a l i)=some r:=by
  intro m
  induction m with
  | zero=>intro i l _ h;omega
  | succ m ih=>
   intro i l h1 h2
   simp only [Dk,Yo]
   by_cases hi:i<a.length
   ·have hw:w64 ((i:Int)+1)=((i+1:Nat):Int):=by rw [w64_id (by omega) (by omega)];rfl
    obtain ⟨r,hr⟩:=LAC (g.2 _ (List.getElem_mem hi)) l
    simp only [Int.toNat_natCast,getD_at hi,hr,Option.bind_some,hw]
    rw [show (decide ((i:Int)<(a.length:Int)))=true from decide_eq_true (by omega),show (decide ((0:Int)≤(i:Int)))=true from decide_eq_true (by omega)]
    simp only [Bool.and_self,cond_true]
    cases decide (r<0)
    ·exact ih (i+1) r hi (by omega)
    ·exact ⟨_,rfl⟩
   ·rw [show (decide ((i:Int)<(a.length:Int)))=false from decide_eq_false (by omega)]
    exact ⟨_,rfl⟩
 unfold Bf Xo
 cases decide (w64 (n - (a.length:Int))<0)
 ·exact key gas 0 _ (Nat.zero_le _) (gas_lt (by omega))
 ·exact ⟨_,rfl⟩
theorem E5 {a:SThing} (g:GSThing a):QZ a=some a:=by
 simp only [QZ,Zo,Option.bind_some]
theorem OAC {a:(List SThing)} (g:(GList 48 GSThing) a):Gf a=some a:=by
 have h:=g.1
 have key:∀ m i,i≤a.length→a.length - i<m→Ua m (.c0 a i (a.take i++List.replicate (a.length - i) (⟨(0:Int),(0:Int),false,false,false,false,(⟨#[]⟩:ByteArray),(0:Int)⟩:SThing)))=some a:=fun m i h1 h2=>
  loopN (A:=Unit) (n:=a.length) (Lp:=Ua) (st:=fun i _=>.c0 a i (a.take i++List.replicate (a.length - i) (⟨(0:Int),(0:Int),false,false,false,false,(⟨#[]⟩:ByteArray),(0:Int)⟩:SThing))) (Inv:=fun _ _=>True) (out:=fun _ _=>some a)
   (fun m _ _=>by simp [Ua,Ik])
   (fun m i _ hi _=>.inr ⟨(),by
    have hw:w64 ((i:Int)+1)=((i+1:Nat):Int):=by rw [w64_id (by omega) (by omega)];rfl
    have hc:=copied_len (Nat.le_of_lt hi) (⟨(0:Int),(0:Int),false,false,false,false,(⟨#[]⟩:ByteArray),(0:Int)⟩:SThing)
    simp only [Ua,Ik,Int.toNat_natCast,getD_at hi,E5 (g.2 _ (List.getElem_mem hi)),Option.bind_some,hw,copied hi,hc]
    simp [hi],trivial,rfl⟩) m i () h1 h2 trivial
 have h0:Ua gas (.c0 a 0 (List.replicate a.length (⟨(0:Int),(0:Int),false,false,false,false,(⟨#[]⟩:ByteArray),(0:Int)⟩:SThing)))=some a:=by
  have:=key gas 0 (Nat.zero_le _) (gas_lt (by omega))
  simpa using this
 unfold Gf Ep
 simp only [Int.toNat_natCast,h0]
 simp [show a.length*48≤140737488355328 from by omega,show ((a.length:Int)≤9223372036854775807) from by omega]
 try omega
theorem PAC {a:SBook} (g:GSBook a):Hf a=some a:=by
 simp only [Hf,Gp,OAC (g.2.2.1),Option.bind_some]
theorem QAC {a:SRec} (g:GSRec a):Va a=some a:=by
 simp only [Va,Ip,E5 (g.2.2.2),Option.bind_some]
theorem RAC {a:(List SRec)} (g:(GList 80 GSRec) a):Rf a=some a:=by
 have h:=g.1
 have key:∀ m i,i≤a.length→a.length - i<m→Xa m (.c0 a i (a.take i++List.replicate (a.length - i) (⟨(0:Int),(⟨#[]⟩:ByteArray),(0:Int),(⟨(0:Int),(0:Int),false,false,false,false,(⟨#[]⟩:ByteArray),(0:Int)⟩:SThing)⟩:SRec)))=some a:=fun m i h1 h2=>
  loopN (A:=Unit) (n:=a.length) (Lp:=Xa) (st:=fun i _=>.c0 a i (a.take i++List.replicate (a.length - i) (⟨(0:Int),(⟨#[]⟩:ByteArray),(0:Int),(⟨(0:Int),(0:Int),false,false,false,false,(⟨#[]⟩:ByteArray),(0:Int)⟩:SThing)⟩:SRec))) (Inv:=fun _ _=>True) (out:=fun _ _=>some a)
   (fun m _ _=>by simp [Xa,Nk])
   (fun m i _ hi _=>.inr ⟨(),by
    have hw:w64 ((i:Int)+1)=((i+1:Nat):Int):=by rw [w64_id (by omega) (by omega)];rfl
    have hc:=copied_len (Nat.le_of_lt hi) (⟨(0:Int),(⟨#[]⟩:ByteArray),(0:Int),(⟨(0:Int),(0:Int),false,false,false,false,(⟨#[]⟩:ByteArray),(0:Int)⟩:SThing)⟩:SRec)
    simp only [Xa,Nk,Int.toNat_natCast,getD_at hi,QAC (g.2 _ (List.getElem_mem hi)),Option.bind_some,hw,copied hi,hc]
    simp [hi],trivial,rfl⟩) m i () h1 h2 trivial
 have h0:Xa gas (.c0 a 0 (List.replicate a.length (⟨(0:Int),(⟨#[]⟩:ByteArray),(0:Int),(⟨(0:Int),(0:Int),false,false,false,false,(⟨#[]⟩:ByteArray),(0:Int)⟩:SThing)⟩:SRec)))=some a:=by
  have:=key gas 0 (Nat.zero_le _) (gas_lt (by omega))
  simpa using this
 unfold Rf Np
 simp only [Int.toNat_natCast,h0]
 simp [show a.length*80≤140737488355328 from by omega,show ((a.length:Int)≤9223372036854775807) from by omega]
 try omega
theorem Cc {n:Int}:w32 n=n % 4294967296:=by
 simp only [w32,IntKind.wrap,IntKind.signed,IntKind.bits]
 simp
theorem BZ {n:Int} (h1:0≤n) (h2:n<4294967296):w32 n=n:=by rw [Cc];omega
def R32 (n:Int):Prop:=0≤n∧n<4294967296
theorem DY (n:Int):R32 (w32 n):=by unfold R32;rw [Cc];omega
theorem SAG {n:Int} (h:0≤n∧n≤255):R32 n:=by unfold R32;omega
def xr (x y:Int):Int:=w32 (((BitVec.toNat ((BitVec.ofInt (IntKind.bits IntKind.u32) x) ^^^ (BitVec.ofInt (IntKind.bits IntKind.u32) y))):Nat):Int)
def an (x y:Int):Int:=w32 (((BitVec.toNat ((BitVec.ofInt (IntKind.bits IntKind.u32) x) &&& (BitVec.ofInt (IntKind.bits IntKind.u32) y))):Nat):Int)
def Sj (x y:Int):Int:=w32 (((BitVec.toNat ((BitVec.ofInt (IntKind.bits IntKind.u32) x) ||| (BitVec.ofInt (IntKind.bits IntKind.u32) y))):Nat):Int)
theorem Dc (x y:Int):w32 (((BitVec.toNat ((BitVec.ofInt (IntKind.bits IntKind.u32) x) ^^^ (BitVec.ofInt (IntKind.bits IntKind.u32) y))):Nat):Int)=xr x y:=rfl
theorem F5 (x y:Int):w32 (((BitVec.toNat ((BitVec.ofInt (IntKind.bits IntKind.u32) x) &&& (BitVec.ofInt (IntKind.bits IntKind.u32) y))):Nat):Int)=an x y:=rfl
theorem G5 (x y:Int):w32 (((BitVec.toNat ((BitVec.ofInt (IntKind.bits IntKind.u32) x) ||| (BitVec.ofInt (IntKind.bits IntKind.u32) y))):Nat):Int)=Sj x y:=rfl
theorem UAG (x y:Int):R32 (xr x y):=DY _
theorem VAG (x y:Int):R32 (an x y):=DY _
theorem I5 {a b:Nat} {s:Nat} (hb:b<2 ^ s) (ha:a*2 ^ s<4294967296) (hs:b<4294967296):Sj ((a*2 ^ s:Nat):Int) (b:Int)=((a*2 ^ s+b:Nat):Int):=by
 have e:a*2 ^ s ||| b=a*2 ^ s+b:=by
  have:=Nat.shiftLeft_add_eq_or_of_lt hb a
  rw [Nat.shiftLeft_eq] at this
  exact this.symm
 unfold Sj
 have h3:a*2 ^ s ||| b<2 ^ 32:=Nat.or_lt_two_pow (by omega) (by omega)
 rw [BitVec.toNat_or]
 show w32 (((BitVec.ofInt 32 _).toNat ||| (BitVec.ofInt 32 _).toNat:Nat):Int)=_
 rw [BitVec.ofInt_natCast,BitVec.ofInt_natCast,BitVec.toNat_ofNat,BitVec.toNat_ofNat,Nat.mod_eq_of_lt (by omega),Nat.mod_eq_of_lt (by omega),e]
 rw [e] at h3
 exact BZ (by omega) (by omega)
theorem SAC {e:Int} (h:R32 e):xr (ite ((IntKind.signed IntKind.u32)=true) (-(1:Int)) (IntKind.max IntKind.u32)) e=w32 (4294967295 - e):=by
 obtain ⟨h1,h2⟩:=h
 obtain ⟨n,rfl⟩:∃ n:Nat,e=(n:Int):=⟨e.toNat,by omega⟩
 have hn:n<4294967296:=by omega
 have e1:(ite ((IntKind.signed IntKind.u32)=true) (-(1:Int)) (IntKind.max IntKind.u32))=4294967295:=by decide
 rw [e1]
 unfold xr
 show w32 (((BitVec.ofInt 32 4294967295 ^^^ BitVec.ofInt 32 (n:Int)).toNat:Nat):Int)=_
 have e2:BitVec.ofInt 32 4294967295=BitVec.allOnes 32:=by decide
 rw [e2,BitVec.ofInt_natCast,BitVec.allOnes_xor,BitVec.toNat_not,BitVec.toNat_ofNat]
 rw [Cc,Cc]
 omega
def rt (low high x:Int):Int:=x / low+x % low*high
theorem UAC {low high x:Int} (h:R32 x) (hl:0<low) (hh:0<high) (hlh:low*high=4294967296):R32 (rt low high x):=by
 unfold R32 rt at *
 have h1:0≤x / low:=Int.ediv_nonneg h.1 (by omega)
 have h2:0≤x % low:=Int.emod_nonneg _ (by omega)
 have h3:x % low<low:=Int.emod_lt_of_pos _ hl
 have h4:x / low<high:=Int.ediv_lt_of_lt_mul hl (by rw [Int.mul_comm,hlh];exact h.2)
 have h5:0≤x % low*high:=Int.mul_nonneg h2 (by omega)
 have h6:x % low*high≤(low - 1)*high:=Int.mul_le_mul_of_nonneg_right (by omega) (by omega)
 have h7:(low - 1)*high=low*high - high:=by rw [Int.sub_mul,Int.one_mul]
 omega
theorem VAC {x:Int} (h:R32 x) (n:Nat) (hn:0<n) (hn2:n<32):Sj (w32 (x*2 ^ (32 - n))) (x / 2 ^ n)=rt (2 ^ n) (2 ^ (32 - n)) x:=by
 obtain ⟨h1,h2⟩:=h
 obtain ⟨y,rfl⟩:∃ y:Nat,x=(y:Int):=⟨x.toNat,by omega⟩
 have hy:y<4294967296:=by omega
 have e0:(4294967296:Nat)=2 ^ n*2 ^ (32 - n):=by rw [←Nat.pow_add,show n+(32 - n)=32 by omega]
 have e1:w32 ((y:Int)*2 ^ (32 - n))=((y % 2 ^ n*2 ^ (32 - n):Nat):Int):=by
  rw [Cc]
  have h5:((y:Int)*2 ^ (32 - n))=((y*2 ^ (32 - n):Nat):Int):=by push_cast;rfl
  have h6:y*2 ^ (32 - n) % 4294967296=y % 2 ^ n*2 ^ (32 - n):=by rw [e0,Nat.mul_mod_mul_right]
  rw [h5,←h6]
  omega
 have e2:((y:Int) / 2 ^ n)=((y / 2 ^ n:Nat):Int):=by push_cast;rfl
 have hp:0<2 ^ n:=Nat.two_pow_pos n
 have hp2:0<2 ^ (32 - n):=Nat.two_pow_pos _
 have hm:y % 2 ^ n<2 ^ n:=Nat.mod_lt _ hp
 have hd:y / 2 ^ n<2 ^ (32 - n):=Nat.div_lt_of_lt_mul (by rw [←e0];exact hy)
 rw [e1,e2,I5 hd (by rw [e0];exact Nat.mul_lt_mul_of_pos_right hm hp2) (Nat.lt_of_le_of_lt (Nat.div_le_self _ _) hy)]
 unfold rt
 push_cast
 omega
def bs (s:ByteArray):List Int:=s.data.toList.map fun b=>(b.toNat:Int)
theorem bs_len (s:ByteArray):(bs s).length=s.size:=by unfold bs;rw [List.length_map];rfl
theorem WAC {s:ByteArray} {n:Int} (h:n ∈ bs s):0≤n∧n≤255:=by
 unfold bs at h;rw [List.mem_map] at h;obtain ⟨b,_,rfl⟩:=h
 have:=b.toNat_lt;omega
theorem He (a b:ByteArray):bs (a++b)=bs a++bs b:=by simp [bs]
theorem J5 (s:ByteArray):ofBytes (bs s)=s:=by
 cases s;simp [ofBytes,bs,Function.comp_def]
theorem Ic {s t:ByteArray} (h:bs s=bs t):s=t:=by rw [←J5 s,h,J5]
theorem QY {l:List Int} (h:∀ n,n ∈ l→0≤n∧n≤255):bs (ofBytes l)=l:=by
 simp only [bs,ofBytes,List.map_map]
 conv=>rhs;rw [←List.map_id l]
 apply List.map_congr_left
 intro n hn
 obtain ⟨h1,h2⟩:=h n hn
 simp only [Function.comp,UInt8.toNat_ofNat',id]
 omega
theorem XAC {s:ByteArray} {i:Nat} (h:i<s.size):bt s (i:Int)=(bs s)[i]'(by rw [bs_len];exact h):=by
 simp only [bt,Int.toNat_natCast,h,dite_true,bs,List.getElem_map]
 rfl
theorem WAG (s:ByteArray) (i:Int):0≤bt s i∧bt s i≤255:=by
 unfold bt;split
 ·have:=(s[i.toNat]).toNat_lt;omega
 ·omega
theorem Jc (s:ByteArray) (i j:Nat):bs (s.extract i j)=((bs s).take j).drop i:=by
 simp only [bs,ByteArray.data_extract,Array.toList_extract,List.extract_eq_take_drop,List.map_take,List.map_drop]
 rw [List.drop_take]
theorem TB {α:Type} {c:Bool} {a b:α} (h:c=true):(bif c then a else b)=a:=by rw [h];rfl
theorem SN {α:Type} {c:Bool} {a b:α} (h:c=false):(bif c then a else b)=b:=by rw [h];rfl
theorem Ie {s:ByteArray} {i:Nat} (h:i<s.size):bt s (i:Int)=(bs s).getD i 0:=by rw [XAC h,getD_at]
theorem XAG {s:ByteArray} {i:Int} {j:Nat} (e:i=(j:Int)) (h:j<s.size):bt s i=(bs s).getD j 0:=by rw [e,Ie h]
theorem Qn {α:Type} {a b:List α} {i:Nat} (h:i<a.length) (d:α):(a++b).getD i d=a.getD i d:=by simp [List.getD,List.getElem?_append_left h]
theorem O5 {α:Type} {a b:List α} {i:Nat} (h:a.length≤i) (d:α):(a++b).getD i d=b.getD (i - a.length) d:=by simp [List.getD,List.getElem?_append_right h]
theorem Rn {α:Type} {a b:List α} {x y:α} {i:Nat} (h:a.length=i):(a++x::b).set i y=a++y::b:=by
 rw [List.set_append_right _ _ (by omega),h,Nat.sub_self];rfl
theorem YAG {a b:Nat} (h:a=b):Nat.beq a b=true:=by subst h;exact Nat.beq_refl _
theorem AAH {P:Int→Prop} (n:Int) (h:0≤n) (k:∀ m:Nat,n=(m:Int)→P (m:Int)):P n:=by
 have:=k n.toNat (by omega)
 rwa [show ((n.toNat:Nat):Int)=n by omega] at this
theorem BAH:bs (⟨#[]⟩:ByteArray)=[]:=rfl
def GY (l:List Int):Prop:=∀ n,n ∈ l→0≤n∧n≤255
theorem HY {l:List Int} (h:GY l) (i:Nat):0≤l.getD i 0∧l.getD i 0≤255:=by
 by_cases hi:i<l.length
 ·rw [getD_at hi];exact h _ (List.getElem_mem hi)
 ·have:l.getD i 0=0:=by simp [List.getD,List.getElem?_eq_none (Nat.le_of_not_lt hi)]
  omega
theorem Je (s:ByteArray):GY (bs s):=fun _ h=>WAC h
theorem YAC (s:ByteArray):bytesOf s=bs s:=rfl
theorem CAH {α:Type} {l:List α} {i:Nat} (h:i<l.length) (y d:α):(l.set i y).getD i d=y:=by simp [List.getD,h]
def P5 (x:Int):Int:=xr (xr (rt 128 33554432 x) (rt 262144 16384 x)) (x / 8)
def sg1 (x:Int):Int:=xr (xr (rt 131072 32768 x) (rt 524288 8192 x)) (x / 1024)
def Q5 (x:Int):Int:=xr (xr (rt 64 67108864 x) (rt 2048 2097152 x)) (rt 33554432 128 x)
def U5 (x:Int):Int:=xr (xr (rt 4 1073741824 x) (rt 8192 524288 x)) (rt 4194304 1024 x)
def ZAC (w:List Int) (t:Nat):Int:=w32 (w32 (w32 (sg1 (w.getD (t - 2) 0)+w.getD (t - 7) 0)+P5 (w.getD (t - 15) 0))+w.getD (t - 16) 0)
def sched (w:List Int):Nat→List Int
 | 0=>w
 | n+1=>sched w n++[ZAC (sched w n) (16+n)]
theorem Tj {w:List Int} (h:w.length=16) (n:Nat):(sched w n).length=16+n:=by
 induction n with
 | zero=>exact h
 | succ n ih=>simp [sched,ih];omega
theorem Tn {w:List Int} (h:∀ x ∈ w,R32 x) (n:Nat):∀ x ∈ sched w n,R32 x:=by
 induction n with
 | zero=>exact h
 | succ n ih=>
  intro x hx
  rw [sched,List.mem_append,List.mem_singleton] at hx
  rcases hx with hx | rfl
  ·exact ih x hx
  ·exact DY _
theorem Uj {l:List Int} (h:∀ x ∈ l,R32 x) (i:Nat):R32 (l.getD i 0):=by
 by_cases hi:i<l.length
 ·rw [getD_at hi];exact h _ (List.getElem_mem hi)
 ·have:l.getD i 0=0:=by simp [List.getD,List.getElem?_eq_none (Nat.le_of_not_lt hi)]
  rw [this];unfold R32;omega
structure Reg where
 a:Int
 b:Int
 c:Int
 d:Int
 e:Int
 f:Int
 g:Int
 h:Int
def Reg.ok (r:Reg):Prop:=R32 r.a∧R32 r.b∧R32 r.c∧R32 r.d∧R32 r.e∧R32 r.f∧R32 r.g∧R32 r.h
def Reg.l (r:Reg):List Int:=[r.a,r.b,r.c,r.d,r.e,r.f,r.g,r.h]
theorem Reg.Vj (r:Reg):r.l.length=8:=rfl
def t1 (r:Reg) (k w:Int):Int:=w32 (w32 (w32 (w32 (r.h+Q5 r.e)+xr (an r.e r.f) (an (w32 (4294967295 - r.e)) r.g))+k)+w)
def t2 (r:Reg):Int:=w32 (U5 r.a+xr (xr (an r.a r.b) (an r.a r.c)) (an r.b r.c))
def CZ (r:Reg) (k w:Int):Reg:=⟨w32 (t1 r k w+t2 r),r.a,r.b,r.c,w32 (r.d+t1 r k w),r.e,r.f,r.g⟩
theorem AAD {r:Reg} (h:r.ok) (k w:Int):(CZ r k w).ok:=⟨DY _,h.1,h.2.1,h.2.2.1,DY _,h.2.2.2.2.1,h.2.2.2.2.2.1,h.2.2.2.2.2.2.1⟩
def SX (K W:List Int) (r:Reg):Nat→Reg
 | 0=>r
 | n+1=>CZ (SX K W r n) (K.getD n 0) (W.getD n 0)
theorem V5 (K W:List Int) {r:Reg} (h:r.ok) (n:Nat):(SX K W r n).ok:=by
 induction n with
 | zero=>exact h
 | succ n ih=>exact AAD ih _ _
def Lc (s r:Reg):Reg:=⟨w32 (s.a+r.a),w32 (s.b+r.b),w32 (s.c+r.c),w32 (s.d+r.d),w32 (s.e+r.e),w32 (s.f+r.f),w32 (s.g+r.g),w32 (s.h+r.h)⟩
theorem CAD (s r:Reg):(Lc s r).ok:=⟨DY _,DY _,DY _,DY _,DY _,DY _,DY _,DY _⟩
def keysL:List Int:=[1116352408,1899447441,3049323471,3921009573,961987163,1508970993,2453635748,2870763221,3624381080,310598401,607225278,1426881987,1925078388,2162078206,2614888103,3248222580,3835390401,4022224774,264347078,604807628,770255983,1249150122,1555081692,1996064986,2554220882,2821834349,2952996808,3210313671,3336571891,3584528711,113926993,338241895,666307205,773529912,1294757372,1396182291,1695183700,1986661051,2177026350,2456956037,2730485921,2820302411,3259730800,3345764771,3516065817,3600352804,4094571909,275423344,430227734,506948616,659060556,883997877,958139571,1322822218,1537002063,1747873779,1955562222,2024104815,2227730452,2361852424,2428436474,2756734187,3204031479,3329325298]
def be4 (a b c d:Int):Int:=a*16777216+b*65536+c*256+d
def wordAt (l:List Int) (i:Nat):Int:=be4 (l.getD (4*i) 0) (l.getD (4*i+1) 0) (l.getD (4*i+2) 0) (l.getD (4*i+3) 0)
def TT (l:List Int) (n:Nat):List Int:=(List.range n).map (wordAt l)
theorem Ba (l:List Int) (n:Nat):(TT l n).length=n:=by simp [TT]
theorem X5 (l:List Int) (n:Nat):TT l (n+1)=TT l n++[wordAt l n]:=by simp [TT,List.range_succ]
theorem DAD {a b c d:Int} (ha:0≤a∧a≤255) (hb:0≤b∧b≤255) (hc:0≤c∧c≤255) (hd:0≤d∧d≤255):R32 (be4 a b c d):=by unfold R32 be4;omega
theorem EAD {l:List Int} (h:GY l) (i:Nat):R32 (wordAt l i):=DAD (HY h _) (HY h _) (HY h _) (HY h _)
theorem Aw {l:List Int} (h:GY l) (n:Nat):∀ x ∈ TT l n,R32 x:=by
 intro x hx
 simp only [TT,List.mem_map] at hx
 obtain ⟨i,_,rfl⟩:=hx
 exact EAD h i
def comp (s:Reg) (b:List Int):Reg:=Lc s (SX keysL (sched (TT b 16) 48) s 64)
theorem Y5 (s:Reg) (b:List Int):(comp s b).ok:=CAD _ _
def comps:Nat→Reg→List Int→Reg
 | 0,s,_=>s
 | n+1,s,b=>comps n (comp s (b.take 64)) (b.drop 64)
theorem Mc {s:Reg} (h:s.ok):∀ (n:Nat) (b:List Int),(comps n s b).ok:=by
 intro n
 induction n generalizing s with
 | zero=>intro b;exact h
 | succ n ih=>intro b;exact ih (Y5 _ _) _
theorem Z5 (n m:Nat):∀ (s:Reg) (b:List Int),comps (n+m) s b=comps m (comps n s b) (b.drop (64*n)):=by
 induction n with
 | zero=>intro s b;simp [comps]
 | succ n ih=>
  intro s b
  rw [Nat.add_right_comm,comps,comps,ih,List.drop_drop]
  congr 2
  omega
theorem FAD (n:Nat):∀ (s:Reg) (b c:List Int),64*n≤b.length→comps n s (b++c)=comps n s b:=by
 induction n with
 | zero=>intro s b c _;rfl
 | succ n ih=>
  intro s b c h
  rw [comps,comps,List.take_append_of_le_length (by omega),List.drop_append_of_le_length (by omega),ih _ _ _ (by simp;omega)]
def four (x:Int):List Int:=[x / 16777216,x / 65536 % 256,x / 256 % 256,x % 256]
theorem Un {x:Int} (h:R32 x):GY (four x):=by
 intro n hn
 unfold R32 at h
 simp only [four,List.mem_cons,List.not_mem_nil,or_false] at hn
 rcases hn with rfl | rfl | rfl | rfl <;> omega
def FN (ws:List Int):List Int:=ws.flatMap four
theorem Me (ws:List Int):(FN ws).length=4*ws.length:=by
 induction ws with
 | nil=>rfl
 | cons w ws ih=>
  rw [show FN (w::ws)=four w++FN ws from rfl,List.length_append,ih]
  simp only [four,List.length_cons,List.length_nil];omega
theorem Dw {ws:List Int} (h:∀ x ∈ ws,R32 x):GY (FN ws):=by
 intro n hn
 simp only [FN,List.mem_flatMap] at hn
 obtain ⟨x,hx,hn⟩:=hn
 exact Un (h x hx) n hn
theorem D6 (a b:List Int):FN (a++b)=FN a++FN b:=by simp [FN]
theorem GAD {x:Int} (h:R32 x):be4 (x / 16777216) (x / 65536 % 256) (x / 256 % 256) (x % 256)=x:=by unfold R32 at h;unfold be4;omega
theorem F6:∀ {ws:List Int} (_:∀ x ∈ ws,R32 x) {i:Nat} (hi:i<ws.length),wordAt (FN ws) i=ws[i]
 | w::ws,h,0,_=>by
  have:=GAD (h w (List.mem_cons_self ..))
  simpa [wordAt,FN,four] using this
 | w::ws,h,i+1,hi=>by
  have ih:=F6 (ws:=ws) (fun x hx=>h x (List.mem_cons_of_mem _ hx)) (i:=i) (by simpa using hi)
  rw [List.getElem_cons_succ,←ih]
  have e:∀ j,(FN (w::ws)).getD (j+4) 0=(FN ws).getD j 0:=fun j=>by simp [FN,four,List.getD]
  unfold wordAt
  rw [show 4*(i+1)=4*i+4 by omega,show 4*i+4+1=(4*i+1)+4 by omega,show 4*i+4+2=(4*i+2)+4 by omega,show 4*i+4+3=(4*i+3)+4 by omega,e,e,e,e]
theorem IAD {ws:List Int} (h:∀ x ∈ ws,R32 x):TT (FN ws) ws.length=ws:=by
 apply List.ext_getElem
 ·rw [Ba]
 ·intro i h1 h2
  simp only [TT,List.getElem_map,List.getElem_range]
  exact F6 h h2
theorem Reg.Nc {r:Reg} (h:r.ok):∀ x ∈ r.l,R32 x:=by
 intro x hx
 simp only [Reg.l,List.mem_cons,List.not_mem_nil,or_false] at hx
 obtain ⟨h1,h2,h3,h4,h5,h6,h7,h8⟩:=h
 rcases hx with rfl | rfl | rfl | rfl | rfl | rfl | rfl | rfl <;> assumption
def RY:Reg:=⟨1779033703,3144134277,1013904242,2773480762,1359893119,2600822924,528734635,1541459225⟩
theorem Oa:RY.ok:=by unfold Reg.ok R32 RY;decide
def DZ (n:Int):List Int:=[0,0,0,n / 4294967296 % 256,n / 16777216 % 256,n / 65536 % 256,n / 256 % 256,n % 256]
def CV (n:Nat):List Int:=128::(List.replicate ((119 - n % 64) % 64) 0++DZ (8*(n:Int)))
theorem Wn (n:Nat):(CV n).length=9+(119 - n % 64) % 64:=by simp [CV,DZ];omega
theorem JAD (n:Nat):(n+(CV n).length) % 64=0:=by rw [Wn];omega
theorem Ew (n:Nat):GY (CV n):=by
 intro x hx
 simp only [CV,DZ,List.mem_cons,List.mem_append,List.mem_replicate,List.not_mem_nil,or_false] at hx
 omega
def Oc (b:List Int):List Int:=FN (comps ((b.length+(CV b.length).length) / 64) RY (b++CV b.length)).l
def IY (s:ByteArray):ByteArray:=ofBytes (Oc (bs s))
theorem KAD (b:List Int):(Oc b).length=32:=by rw [Oc,Me];rfl
theorem LAD (b:List Int):GY (Oc b):=Dw (Reg.Nc (Mc Oa _ _))
theorem MAD (s:ByteArray):(IY s).size=32:=by rw [IY,ofBytes_size,KAD]
theorem DAH (s:ByteArray):bs (IY s)=Oc (bs s):=QY (LAD _)
theorem NAD {x:Int} (h:R32 x):[w8 (w32 (x.tdiv 16777216)),w8 ((w32 (x.tdiv 65536)).tmod 256),w8 ((w32 (x.tdiv 256)).tmod 256),w8 (x.tmod 256)]=four x:=by
 obtain ⟨h1,h2⟩:=h
 rw [Int.tdiv_eq_ediv_of_nonneg h1,Int.tdiv_eq_ediv_of_nonneg h1,Int.tdiv_eq_ediv_of_nonneg h1,Int.tmod_eq_emod_of_nonneg h1]
 rw [BZ (n:=x / 16777216) (by omega) (by omega),BZ (n:=x / 65536) (by omega) (by omega),BZ (n:=x / 256) (by omega) (by omega)]
 rw [Int.tmod_eq_emod_of_nonneg (by omega),Int.tmod_eq_emod_of_nonneg (by omega)]
 simp only [four,w8_mod,List.cons.injEq,and_true]
 omega
theorem Gw {ws:List Int} (h:∀ x ∈ ws,R32 x) (hl:ws.length≤1000000000000):TY ws=some (ofBytes (FN ws)):=by
 have key:=loopN (A:=Unit) (n:=ws.length) (Lp:=Uf) (st:=fun i _=>.c0 ws (i:Int) (FN (ws.take i))) (Inv:=fun _ _=>True) (out:=fun _ _=>some (ofBytes (FN ws)))
  (fun m _ _=>by
   simp only [Uf,Rk]
   rw [SN (by simp),List.take_length])
  (fun m i _ hi _=>.inr ⟨(),by
   have e:w64 ((i:Int)+1)=((i+1:Nat):Int):=by rw [w64_id (by omega) (by omega)];rfl
   simp only [Uf,Rk,e,Int.toNat_natCast]
   rw [TB (by simp;omega),TB (by simp;omega),TB (by rw [Me,List.length_take];simp;omega)]
   rw [getD_at hi,NAD (h _ (List.getElem_mem hi)),take_at hi,D6]
   simp [FN],trivial,rfl⟩)
 exact key gas 0 () (Nat.zero_le _) (gas_lt (by omega)) trivial
def Ea:SHasher:=⟨ofBytes (FN RY.l),⟨#[]⟩,0⟩
theorem OAD:Xf=some Ea:=by
 have h:=Gw (ws:=RY.l) (Reg.Nc Oa) (by decide)
 have e:Qk=some RY.l:=rfl
 simp only [Xf,Xp,e,h,Option.bind_some]
 rfl
def IK (x a b:Int):Bool:=decide (a≤x) && decide (x≤b)
theorem VY {x a b:Int}:IK x a b=true↔a≤x∧x≤b:=by simp [IK]
theorem Xn (x a b:Int):UY x a b=some (IK x a b):=by
 show (bif decide (a≤x) then some (decide (x≤b)) else some false)=some (IK x a b)
 unfold IK;cases decide (a≤x) <;> rfl
theorem G6 {h:SHasher} (h1:h.fState.size=32) (h2:h.fRest.size<64) (h3:0≤h.fCount∧h.fCount≤1000000000) (h4:h.fCount % 64=(h.fRest.size:Int)):NY h=some true:=by
 have e:IK h.fCount 0 1000000000=true:=by rw [VY];omega
 simp only [NY,Yp,Xn,Option.bind_some,e]
 rw [TB (by simp;omega),TB (by simp;omega),cond_true,Int.tmod_eq_emod_of_nonneg h3.1,h4]
 simp
theorem PAD {s:ByteArray} {i:Nat} (h:4*i+4≤s.size) (hs:s.size≤9000000000000000000):Cb s ((4*i:Nat):Int)=some (wordAt (bs s) i):=by
 have hb:=Je s
 have e1:w64 (((4*i:Nat):Int)+1)=((4*i+1:Nat):Int):=by rw [w64_id (by omega) (by omega)];rfl
 have e2:w64 (((4*i:Nat):Int)+2)=((4*i+2:Nat):Int):=by rw [w64_id (by omega) (by omega)];rfl
 have e3:w64 (((4*i:Nat):Int)+3)=((4*i+3:Nat):Int):=by rw [w64_id (by omega) (by omega)];rfl
 simp only [Cb,Zp,e1,e2,e3]
 rw [TB (by simp;omega),TB (by simp;omega),TB (by simp;omega),TB (by simp;omega)]
 rw [Ie (by omega),Ie (by omega),Ie (by omega),Ie (by omega)]
 have b0:=HY hb (4*i)
 have b1:=HY hb (4*i+1)
 have b2:=HY hb (4*i+2)
 have b3:=HY hb (4*i+3)
 unfold wordAt be4
 simp only [Cc]
 congr 1
 omega
theorem H6 {s:ByteArray} (hs:s.size≤1000000000000):FY s=some (TT (bs s) (s.size / 4)):=by
 have key:=loopN (A:=Unit) (n:=s.size / 4) (Lp:=Ag) (st:=fun i _=>.c0 s ((4*i:Nat):Int) (TT (bs s) i)) (Inv:=fun _ _=>True) (out:=fun _ _=>some (TT (bs s) (s.size / 4)))
  (fun m _ _=>by
   simp only [Ag,Yk]
   rw [w64_id (by omega) (by omega),SN (by simp;omega)])
  (fun m i _ hi _=>.inr ⟨(),by
   have e:w64 (((4*i:Nat):Int)+4)=((4*(i+1):Nat):Int):=by rw [w64_id (by omega) (by omega)];omega
   simp only [Ag,Yk,e,PAD (s:=s) (i:=i) (by omega) (by omega),Option.bind_some,Ba,X5]
   rw [TB (by simp;omega),TB (by simp;omega)],trivial,rfl⟩)
 exact key gas 0 () (Nat.zero_le _) (gas_lt (by omega)) trivial
theorem KZ {x low high:Int} (h:R32 x) (hl:0<low) (hh:0<high) (hlh:low*high=4294967296):Bg x low high=some (rt low high x):=by
 have hr:=UAC h hl hh hlh
 obtain ⟨h1,h2⟩:=h
 have e0:(!(low == 0))=true:=by simp;omega
 have d1:0≤x / low:=Int.ediv_nonneg h1 (by omega)
 have d2:0≤x % low*high:=Int.mul_nonneg (Int.emod_nonneg _ (by omega)) (by omega)
 unfold R32 rt at hr
 simp only [Bg,Dq,e0,cond_true,Int.tdiv_eq_ediv_of_nonneg h1,Int.tmod_eq_emod_of_nonneg h1]
 rw [BZ d1 (by omega),BZ d2 (by omega),BZ (by omega) (by omega)]
 rfl
theorem QAD {x:Int} (h:R32 x):OY x 131072 524288 1024 true=some (sg1 x):=by
 have e1:w32 (w32 ((2147483648:Int).tdiv 131072)*2)=32768:=by decide
 have e2:w32 (w32 ((2147483648:Int).tdiv 524288)*2)=8192:=by decide
 have e3:w32 (x.tdiv 1024)=x / 1024:=by
  obtain ⟨h1,h2⟩:=h
  rw [Int.tdiv_eq_ediv_of_nonneg h1,BZ (by omega) (by omega)]
 simp only [OY,Jd,e1,e2,e3,KZ h (low:=131072) (high:=32768) (by omega) (by omega) (by omega),KZ h (low:=524288) (high:=8192) (by omega) (by omega) (by omega),Option.bind_some,Dc]
 rfl
theorem RAD {x:Int} (h:R32 x):OY x 128 262144 8 true=some (P5 x):=by
 have e1:w32 (w32 ((2147483648:Int).tdiv 128)*2)=33554432:=by decide
 have e2:w32 (w32 ((2147483648:Int).tdiv 262144)*2)=16384:=by decide
 have e3:w32 (x.tdiv 8)=x / 8:=by
  obtain ⟨h1,h2⟩:=h
  rw [Int.tdiv_eq_ediv_of_nonneg h1,BZ (by omega) (by omega)]
 simp only [OY,Jd,e1,e2,e3,KZ h (low:=128) (high:=33554432) (by omega) (by omega) (by omega),KZ h (low:=262144) (high:=16384) (by omega) (by omega) (by omega),Option.bind_some,Dc]
 rfl
theorem SAD {x:Int} (h:R32 x):OY x 64 2048 33554432 false=some (Q5 x):=by
 have e1:w32 (w32 ((2147483648:Int).tdiv 64)*2)=67108864:=by decide
 have e2:w32 (w32 ((2147483648:Int).tdiv 2048)*2)=2097152:=by decide
 have e3:w32 (w32 ((2147483648:Int).tdiv 33554432)*2)=128:=by decide
 simp only [OY,Jd,e1,e2,e3,KZ h (low:=64) (high:=67108864) (by omega) (by omega) (by omega),KZ h (low:=2048) (high:=2097152) (by omega) (by omega) (by omega),KZ h (low:=33554432) (high:=128) (by omega) (by omega) (by omega),Option.bind_some,Dc]
 rfl
theorem TAD {x:Int} (h:R32 x):OY x 4 8192 4194304 false=some (U5 x):=by
 have e1:w32 (w32 ((2147483648:Int).tdiv 4)*2)=1073741824:=by decide
 have e2:w32 (w32 ((2147483648:Int).tdiv 8192)*2)=524288:=by decide
 have e3:w32 (w32 ((2147483648:Int).tdiv 4194304)*2)=1024:=by decide
 simp only [OY,Jd,e1,e2,e3,KZ h (low:=4) (high:=1073741824) (by omega) (by omega) (by omega),KZ h (low:=8192) (high:=524288) (by omega) (by omega) (by omega),KZ h (low:=4194304) (high:=1024) (by omega) (by omega) (by omega),Option.bind_some,Dc]
 rfl
theorem J6 (s r:Reg):∀ i,i<8→(Lc s r).l.getD i 0=w32 (s.l.getD i 0+r.l.getD i 0)
 | 0,_=>rfl | 1,_=>rfl | 2,_=>rfl | 3,_=>rfl | 4,_=>rfl | 5,_=>rfl | 6,_=>rfl | 7,_=>rfl
 | n+8,h=>by omega
theorem EAH (n:Nat) (h:n<9223372036854775807):∃ m,gas=m+n:=⟨gas - n,by have:=gas_lt h;omega⟩
theorem UAD (s r:Reg):∀ (j i m:Nat),i+j=8→ZX (m+j+1) (.c3 s.l (i:Int) r.l ((Lc s r).l.take i))=some (Lc s r).l:=by
 intro j
 induction j with
 | zero=>
  intro i m h
  obtain rfl:i=8:=by omega
  simp only [ZX,GZ]
  rfl
 | succ j ih=>
  intro i m h
  have e:w64 ((i:Int)+1)=((i+1:Nat):Int):=by rw [w64_id (by omega) (by omega)];rfl
  have hl:∀ q:Reg,q.l.length=8:=fun _=>rfl
  rw [show m+(j+1)+1=(m+j+1)+1 by omega]
  simp only [ZX,GZ,e,Int.toNat_natCast]
  rw [TB (by simp;omega),TB (by simp [hl];omega),TB (by simp [hl];omega),TB (by simp [hl];omega)]
  have h3:=ih (i+1) m (by omega)
  rw [take_at (by rw [hl];omega),←getD_at (by rw [hl];omega) 0,J6 _ _ _ (by omega)] at h3
  exact h3
def Hw:Nat→List Int→List Int
 | 0,v=>v
 | i+1,v=>Hw i (v.set (i+1) (v.getD i 0))
theorem VAD (t o W:List Int) (k T1 T2:Int) (hk:0≤k∧k<64):∀ (i m:Nat) (v:List Int),i<8→v.length=8→ZX (m+i+1) (.c2 t o k T1 T2 (i:Int) W v)=ZX m (.c1 t o (k+1) W (((Hw i v).set 4 (w32 ((Hw i v).getD 4 0+T1))).set 0 (w32 (T1+T2)))):=by
 intro i
 induction i with
 | zero=>
  intro m v _ hl
  have e:w64 (k+1)=k+1:=w64_id (by omega) (by omega)
  simp only [ZX,GZ,e]
  rw [SN (by simp),TB (by simp [hl]),TB (by simp [hl]),TB (by simp [hl])]
  rfl
 | succ i ih=>
  intro m v hi hl
  have e:w64 (((i+1:Nat):Int) - 1)=(i:Int):=by rw [w64_id (by omega) (by omega)];omega
  rw [show m+(i+1)+1=(m+i+1)+1 by omega]
  rw [ZX]
  simp only [GZ,e,Int.toNat_natCast]
  rw [TB (by simp;try omega),TB (by simp [hl];try omega),TB (by simp [hl];try omega),ih m _ (by omega) (by simp [hl])]
  rfl
theorem WAD (t W:List Int) (r:Reg) (hr:r.ok) (hW:∀ x ∈ W,R32 x) (hWl:W.length=64) (i m:Nat) (hi:i<64) :
  ZX (m+9) (.c1 t keysL (i:Int) W r.l)=ZX m (.c1 t keysL ((i:Int)+1) W (CZ r (keysL.getD i 0) (W.getD i 0)).l):=by
 obtain ⟨h1,h2,h3,h4,h5,h6,h7,h8⟩:=hr
 have hk:keysL.length=64:=rfl
 have g (q:Reg):q.l.getD 0 0=q.a∧q.l.getD 1 0=q.b∧q.l.getD 2 0=q.c∧q.l.getD 4 0=q.e∧q.l.getD 5 0=q.f∧q.l.getD 6 0=q.g∧q.l.getD 7 0=q.h:=⟨rfl,rfl,rfl,rfl,rfl,rfl,rfl⟩
 obtain ⟨g0,g1,g2,g4,g5,g6,g7⟩:=g r
 have hl:r.l.length=8:=rfl
 have z4:(4:Int).toNat=4:=rfl
 have z5:(5:Int).toNat=5:=rfl
 have z6:(6:Int).toNat=6:=rfl
 have z7:(7:Int).toNat=7:=rfl
 have z0:(0:Int).toNat=0:=rfl
 have z1:(1:Int).toNat=1:=rfl
 have z2:(2:Int).toNat=2:=rfl
 rw [show m+9=(m+7+1)+1 by omega,ZX]
 simp only [GZ,z0,z1,z2,z4,z5,z6,z7,g0,g1,g2,g4,g5,g6,g7,hl,hk,hWl,SAD h5,TAD h1,Option.bind_some,Dc,F5,Int.toNat_natCast]
 rw [TB (by simp;omega),TB (by simp),TB (by simp),TB (by simp),TB (by simp),TB (by simp;omega),TB (by simp;omega),TB (by simp),TB (by simp),TB (by simp),TB (by simp),TB (by simp),TB (by simp),TB (by simp)]
 exact VAD t keysL W (i:Int) (t1 r (keysL.getD i 0) (W.getD i 0)) (t2 r) (by omega) 7 m r.l (by omega) rfl
theorem XAD (s:Reg) (hs:s.ok) (W:List Int) (hW:∀ x ∈ W,R32 x) (hWl:W.length=64):∀ (j i m:Nat),i+j=64→ZX (m+9*j+10) (.c1 s.l keysL (i:Int) W (SX keysL W s i).l)=some (Lc s (SX keysL W s 64)).l:=by
 intro j
 induction j with
 | zero=>
  intro i m h
  obtain rfl:i=64:=by omega
  rw [show m+9*0+10=(m+8+1)+1 by omega,ZX]
  simp only [GZ]
  rw [SN (by simp)]
  exact UAD s _ 8 0 m (by omega)
 | succ j ih=>
  intro i m h
  rw [show m+9*(j+1)+10=(m+9*j+10)+9 by omega,WAD s.l W _ (V5 keysL W hs i) hW hWl i _ (by omega)]
  exact ih (i+1) m (by omega)
theorem YAD (s:Reg) (hs:s.ok) (w:List Int) (hw:∀ x ∈ w,R32 x) (hwl:w.length=16):∀ (j i m:Nat),i+j=48→ZX (m+9*64+10+1+j) (.c0 s.l keysL ((16+i:Nat):Int) (sched w i))=some (Lc s (SX keysL (sched w 48) s 64)).l:=by
 intro j
 induction j with
 | zero=>
  intro i m h
  obtain rfl:i=48:=by omega
  rw [show m+9*64+10+1+0=(m+9*64+10)+1 by omega,ZX]
  simp only [GZ]
  rw [SN (by simp),TB (by simp [Reg.l])]
  exact XAD s hs _ (Tn hw 48) (Tj hwl 48) 64 0 m (by omega)
 | succ j ih=>
  intro i m h
  have hl:=Tj hwl i
  have hr:=Tn hw i
  have e2:w64 (((16+i:Nat):Int) - 2)=((16+i - 2:Nat):Int):=by rw [w64_id (by omega) (by omega)];omega
  have e7:w64 (((16+i:Nat):Int) - 7)=((16+i - 7:Nat):Int):=by rw [w64_id (by omega) (by omega)];omega
  have e15:w64 (((16+i:Nat):Int) - 15)=((16+i - 15:Nat):Int):=by rw [w64_id (by omega) (by omega)];omega
  have e16:w64 (((16+i:Nat):Int) - 16)=((16+i - 16:Nat):Int):=by rw [w64_id (by omega) (by omega)];omega
  have e1:w64 (((16+i:Nat):Int)+1)=((16+(i+1):Nat):Int):=by rw [w64_id (by omega) (by omega)];omega
  rw [show m+9*64+10+1+(j+1)=(m+9*64+10+1+j)+1 by omega,ZX]
  simp only [GZ,e1,e2,e7,e15,e16,Int.toNat_natCast,hl,QAD (Uj hr _),RAD (Uj hr _),Option.bind_some]
  rw [TB (by simp;omega),TB (by simp;omega),TB (by simp;omega),TB (by simp;omega),TB (by simp;omega),TB (by simp;omega)]
  exact ih (i+1) m (by omega)
theorem L6 {s:Reg} (hs:s.ok) {b:ByteArray} (hb:b.size=64):XY s.l keysL b=some (comp s (bs b)).l:=by
 have hr:=Aw (Je b) 16
 obtain ⟨m,hm⟩:∃ m,gas=m+9*64+10+1+48:=⟨gas - 635,by have:=gas_lt (n:=635) (by omega);omega⟩
 have h:=YAD s hs _ hr (Ba _ 16) 48 0 m (by omega)
 have e0:((16+0:Nat):Int)=16:=rfl
 rw [e0,show sched (TT (bs b) 16) 0=TT (bs b) 16 from rfl] at h
 rw [XY,Fq,H6 (s:=b) (by omega),Option.bind_some,hb,hm]
 exact h
theorem O6:FZ=some keysL:=rfl
theorem ZAD (b:List Int) (i:Nat):(b.take (64*i+64)).drop (64*i)=(b.drop (64*i)).take 64:=by
 rw [List.drop_take];congr 1;omega
theorem P6 (i:Nat) (s:Reg) (b:List Int):comps (i+1) s b=comp (comps i s b) ((b.drop (64*i)).take 64):=by
 rw [Z5 i 1];rfl
theorem U6 {r:Reg} (h:r.ok):FY (ofBytes (FN r.l))=some r.l:=by
 have hs:(ofBytes (FN r.l)).size=32:=by rw [ofBytes_size,Me];rfl
 rw [H6 (by omega),hs,QY (Dw (Reg.Nc h))]
 exact congrArg some (IAD (Reg.Nc h))
theorem AAE {s:ByteArray} (hs:s.size≤1000000000):Ig Ea s=some ⟨ofBytes (FN (comps (s.size / 64) RY (bs s)).l),s.extract (64*(s.size / 64)) s.size,(s.size:Int)⟩:=by
 have e0:NY Ea=some true:=G6 (by rw [Ea,ofBytes_size,Me];rfl) (by decide) (by decide) (by decide)
 have e1:((⟨#[]⟩:ByteArray)++s)=s:=Ic (by rw [He];rfl)
 have key:=loopN (A:=Unit) (n:=s.size / 64) (Lp:=Hg) (st:=fun i _=>.c0 s s ((64*i:Nat):Int) Ea (⟨(⟨#[]⟩:ByteArray),(⟨#[]⟩:ByteArray),(0:Int)⟩:SHasher) (comps i RY (bs s)).l keysL) (Inv:=fun _ _=>True)
  (out:=fun _ _=>some ⟨ofBytes (FN (comps (s.size / 64) RY (bs s)).l),s.extract (64*(s.size / 64)) s.size,(s.size:Int)⟩)
  (fun m _ _=>by
   have hw:w64 (Ea.fCount+(s.size:Int))=(s.size:Int):=by
    show w64 ((0:Int)+(s.size:Int))=_
    rw [Int.zero_add,w64_id (by omega) (by omega)]
   rw [Hg]
   simp only [Gl,hw,Int.toNat_natCast]
   rw [w64_id (by omega) (by omega),SN (by simp;omega),Gw (Reg.Nc (Mc Oa _ _)) (by simp [Reg.l]),Option.bind_some,TB (by simp;omega)])
  (fun m i _ hi _=>.inr ⟨(),by
   have e:w64 (((64*i:Nat):Int)+64)=((64*(i+1):Nat):Int):=by rw [w64_id (by omega) (by omega)];omega
   rw [Hg]
   simp only [Gl,e,Int.toNat_natCast]
   rw [TB (by simp;omega),TB (by simp;omega),L6 (Mc Oa _ _) (by simp;omega),Option.bind_some,Jc,show 64*(i+1)=64*i+64 by omega,ZAD,←P6],trivial,rfl⟩)
 rw [Ig,Hq,e0,Option.bind_some,SN (by rfl)]
 have hw:w64 (Ea.fCount+(s.size:Int))=(s.size:Int):=by
  show w64 ((0:Int)+(s.size:Int))=_
  rw [Int.zero_add,w64_id (by omega) (by omega)]
 rw [hw,SN (by simp;omega),show Ea.fState=ofBytes (FN RY.l) from rfl,U6 Oa,Option.bind_some,O6,Option.bind_some,show Ea.fRest=⟨#[]⟩ from rfl,e1]
 rw [TB (by (have:(⟨#[]⟩:ByteArray).size=0:=rfl);simp only [this,decide_eq_true_eq];omega)]
 exact key gas 0 () (Nat.zero_le _) (gas_lt (by omega)) trivial
def Qc (b:Int):Nat→List Int
 | 0=>[]
 | i+1=>(b / 256 ^ i % 256)::Qc b i
def LZ:Nat→Nat
 | 0=>0
 | i+1=>LZ i+(i+2)
theorem BAE (x:Int) (j:Nat):x / 256 / 256 ^ j=x / 256 ^ (j+1):=by
 rw [Int.ediv_ediv_of_nonneg (by omega)]
 congr 1
 rw [Int.pow_succ,Int.mul_comm]
theorem CAE (h:SHasher) (b:Int):∀ (j k i m:Nat) (x:Int) (t:List Int),k+j=i→i≤7→0≤x→x≤9223372036854775807→t.length≤1000→
  AY (m+j+1) (.c2 b (i:Int) x (k:Int) h t)=AY m (.c1 b ((i:Int) - 1) h (t++[x / 256 ^ j % 256])):=by
 intro j
 induction j with
 | zero=>
  intro k i m x t hk hi hx hx2 ht
  have e:w64 ((i:Int) - 1)=(i:Int) - 1:=w64_id (by omega) (by omega)
  have e2:w8 (x.tmod 256)=x % 256:=by rw [Int.tmod_eq_emod_of_nonneg hx,w8_id (by omega) (by omega)]
  rw [AY]
  simp only [IZ,e,e2]
  rw [SN (by simp;omega),TB (by simp;omega),Int.pow_zero,Int.ediv_one]
 | succ j ih=>
  intro k i m x t hk hi hx hx2 ht
  have e:w64 ((k:Int)+1)=((k+1:Nat):Int):=by rw [w64_id (by omega) (by omega)];rfl
  have e2:w64 (x.tdiv 256)=x / 256:=by rw [Int.tdiv_eq_ediv_of_nonneg hx,w64_id (by omega) (by omega)]
  rw [show m+(j+1)+1=(m+j+1)+1 by omega,AY]
  simp only [IZ,e,e2]
  rw [TB (by simp;omega),ih (k+1) i m (x / 256) t (by omega) hi (by omega) (by omega) ht,BAE]
theorem DAE (h:SHasher) (b:Int) (hb:0≤b) (hb2:b≤9223372036854775807):∀ (i m:Nat) (t:List Int),i≤8→t.length+i≤900→AY (m+LZ i) (.c1 b ((i:Int) - 1) h t)=AY m (.c1 b (-1) h (t++Qc b i)):=by
 intro i
 induction i with
 | zero=>intro m t _ _;simp [LZ,Qc]
 | succ i ih=>
  intro m t hi ht
  rw [LZ,show m+(LZ i+(i+2))=(m+LZ i)+i+1+1 by omega,AY,show ((i+1:Nat):Int) - 1=(i:Int) by omega]
  simp only [IZ]
  rw [TB (by simp),show (0:Int)=((0:Nat):Int) from rfl,CAE h b i 0 i _ b t (by omega) (by omega) hb hb2 (by omega),ih m _ (by omega) (by simp;omega)]
  simp [Qc]
theorem EAE {b:Int} (h:0≤b) (h2:b<1099511627776):Qc b 8=DZ b:=by
 simp only [Qc,DZ,List.cons.injEq,and_true]
 omega
theorem FAE (r:Reg) (hr:r.ok) (t:List Int) (ht:GY t) (n:Nat) (hn:t.length=64*n) (hn2:n≤100):∀ (j i m:Nat),i+j=n→AY (m+j+1) (.c3 ((64*i:Nat):Int) t (comps i r t).l keysL)=some (ofBytes (FN (comps n r t).l)):=by
 intro j
 induction j with
 | zero=>
  intro i m h
  obtain rfl:i=n:=by omega
  rw [AY]
  simp only [IZ]
  rw [SN (by simp;omega),Gw (Reg.Nc (Mc hr _ _)) (by simp [Reg.l]),Option.bind_some]
 | succ j ih=>
  intro i m h
  have e:w64 (((64*i:Nat):Int)+64)=((64*(i+1):Nat):Int):=by rw [w64_id (by omega) (by omega)];omega
  have hl:((t.drop (64*i)).take (64*(i+1) - 64*i)).length=64:=by rw [List.length_take,List.length_drop];omega
  have hby:GY ((t.drop (64*i)).take (64*(i+1) - 64*i)):=fun x hx=>ht x (List.mem_of_mem_drop (List.mem_of_mem_take hx))
  rw [show m+(j+1)+1=(m+j+1)+1 by omega,AY]
  simp only [IZ,e,Int.toNat_natCast]
  rw [TB (by simp;omega),TB (by simp;omega),L6 (Mc hr _ _) (by rw [ofBytes_size,hl]),Option.bind_some,QY hby,show 64*(i+1) - 64*i=64 by omega,←P6]
  exact ih (i+1) m (by omega)
theorem GAE (h:SHasher) (r:List Int) (hr:r.length<64):∀ (j i m:Nat),i+j=(119 - r.length) % 64→AY (m+j+1) (.c0 h (r++128::List.replicate i 0))=AY m (.c1 (w64 (8*h.fCount)) 7 h (r++128::List.replicate ((119 - r.length) % 64) 0)):=by
 intro j
 induction j with
 | zero=>
  intro i m hi
  rw [AY]
  simp only [IZ]
  rw [SN (by rw [Int.tmod_eq_emod_of_nonneg (by omega)];simp;omega),show i=(119 - r.length) % 64 by omega]
 | succ j ih=>
  intro i m hi
  rw [show m+(j+1)+1=(m+j+1)+1 by omega,AY]
  simp only [IZ]
  rw [TB (by rw [Int.tmod_eq_emod_of_nonneg (by omega)];simp;omega),TB (by simp;omega)]
  have e:(r++128::List.replicate i (0:Int))++[0]=r++128::List.replicate (i+1) 0:=by
   rw [List.replicate_succ'];simp
  rw [e]
  exact ih (i+1) m (by omega)
theorem HAE {r:Reg} (hr:r.ok) {s:ByteArray} {n:Nat} (hs:s.size=n % 64) (hn:n≤1000000000):Og ⟨ofBytes (FN r.l),s,(n:Int)⟩=some (ofBytes (FN (comps ((s.size+(CV n).length) / 64) r (bs s++CV n)).l)):=by
 have e0:NY ⟨ofBytes (FN r.l),s,(n:Int)⟩=some true:=G6 (by rw [ofBytes_size,Me];rfl) (by simp only;omega) (by simp only;omega) (by simp only;omega)
 have hl:=bs_len s
 obtain ⟨m,hm⟩:∃ m,gas=((m+((s.size+(CV n).length) / 64)+1+1+LZ 8)+((119 - (bs s).length) % 64)+1):=⟨gas - (((s.size+(CV n).length) / 64)+1+1+LZ 8+((119 - (bs s).length) % 64)+1),by
  have:=gas_lt (n:=1000) (by omega)
  have h2:=Wn n
  have h3:LZ 8=44:=rfl
  omega⟩
 have hw:w64 (8*(n:Int))=8*(n:Int):=w64_id (by omega) (by omega)
 have hrep:(bs s++128::List.replicate ((119 - (bs s).length) % 64) 0)++Qc (8*(n:Int)) 8=bs s++CV n:=by
  rw [EAE (by omega) (by omega),CV,hl,hs,show (119 - n % 64) % 64=(119 - n % 64) % 64 from rfl]
  simp
 rw [Og,Jq,e0,Option.bind_some,SN (by rfl),TB (by simp;omega),YAC,TB (by rw [hl];simp;omega),hm]
 have h0:=GAE ⟨ofBytes (FN r.l),s,(n:Int)⟩ (bs s) (by omega) ((119 - (bs s).length) % 64) 0 (m+((s.size+(CV n).length) / 64)+1+1+LZ 8) (by omega)
 rw [List.replicate_zero] at h0
 rw [h0,show (7:Int)=((8:Nat):Int) - 1 from rfl]
 simp only [hw]
 rw [DAE _ _ (by omega) (by omega) 8 _ _ (by omega) (by simp;omega),hrep,AY]
 simp only [IZ]
 rw [SN (by simp),U6 hr,Option.bind_some,O6,Option.bind_some]
 have hb:GY (bs s++CV n):=fun x hx=>by
  rcases List.mem_append.1 hx with hx | hx
  ·exact Je s x hx
  ·exact Ew n x hx
 have hlen:(bs s++CV n).length=64*((s.size+(CV n).length) / 64):=by
  have:=JAD n
  rw [List.length_append,hl]
  omega
 exact FAE r hr _ hb _ hlen (by have:=Wn n;omega) ((s.size+(CV n).length) / 64) 0 m (by omega)
theorem IAE (b:List Int):comps ((b.length+(CV b.length).length) / 64) RY (b++CV b.length)=comps ((b.length % 64+(CV b.length).length) / 64) (comps (b.length / 64) RY b) (b.drop (64*(b.length / 64))++CV b.length):=by
 rw [show (b.length+(CV b.length).length) / 64=b.length / 64+(b.length % 64+(CV b.length).length) / 64 by omega,Z5,FAD _ _ _ _ (by omega),List.drop_append_of_le_length (by omega)]
theorem V6 {s:ByteArray} (hs:s.size≤1000000000):RZ s=some (IY s):=by
 have h1:(s.extract (64*(s.size / 64)) s.size).size=s.size % 64:=by simp;omega
 have h:=HAE (Mc Oa (s.size / 64) (bs s)) (s:=s.extract (64*(s.size / 64)) s.size) h1 hs
 rw [Jc,h1,List.take_of_length_le (by rw [bs_len];omega)] at h
 rw [RZ,Kq,OAD,Option.bind_some,AAE hs,Option.bind_some,h,Option.bind_some,IY,Oc,IAE,bs_len]
theorem JAE {n:Nat} {x:Int} (h:n≤1000000000):Vg (n:Int) x=some (ofBytes (List.replicate n x)):=by
 have key:∀ (j i m:Nat),i+j=n→Ug (m+j+1) (.c0 (n:Int) x (i:Int) (List.replicate i x++List.replicate (n - i) 0))=some (ofBytes (List.replicate n x)):=by
  intro j
  induction j with
  | zero=>
   intro i m hi
   obtain rfl:i=n:=by omega
   rw [Ug]
   simp only [Hl]
   rw [SN (by simp),Nat.sub_self,List.replicate_zero,List.append_nil]
  | succ j ih=>
   intro i m hi
   have e:w64 ((i:Int)+1)=((i+1:Nat):Int):=by rw [w64_id (by omega) (by omega)];rfl
   rw [show m+(j+1)+1=(m+j+1)+1 by omega,Ug]
   simp only [Hl,e,Int.toNat_natCast]
   rw [TB (by simp;omega),TB (by simp;omega),show n - i=(n - (i+1))+1 by omega,List.replicate_succ,Rn (by simp)]
   have h2:=ih (i+1) m (by omega)
   rw [List.replicate_succ' (n:=i),List.append_assoc] at h2
   exact h2
 obtain ⟨m,hm⟩:∃ m,gas=m+n+1:=⟨gas - (n+1),by have:=gas_lt (n:=n+1) (by omega);omega⟩
 have h0:=key n 0 m (by omega)
 rw [List.replicate_zero,List.nil_append,Nat.sub_zero] at h0
 rw [Vg,Pq,TB (by simp;omega),hm]
 exact h0
def Wj:SBook:=⟨IY ⟨#[]⟩,0,[],0,ofBytes (List.replicate 32 0),0⟩
theorem X6:Xg=some Wj:=by
 rw [Xg,Rq,V6 (by decide),Option.bind_some,show (32:Int)=((32:Nat):Int) from rfl,JAE (by omega),Option.bind_some];rfl
theorem Y6 {b:SBook} (h:b.fThings.length≤2932031007317):ZY b=some b:=by
 rw [ZY,Tq,TB (by simp;omega)];rfl
def NM (n:Int):List Int:=if n > 127 then (128+n % 128)::NM (n / 128) else [w8 n]
termination_by n.toNat
decreasing_by omega
theorem KAE:∀ (k:Nat) (n:Int),n<128 ^ k→(NM n).length≤max k 1:=by
 intro k
 induction k with
 | zero=>intro n h;rw [NM,if_neg (by omega)];simp
 | succ k ih=>
  intro n h
  rw [NM]
  split
  ·rename_i hn
   have h2:n / 128<128 ^ k:=by
    rw [Int.pow_succ] at h
    exact Int.ediv_lt_of_lt_mul (by omega) h
   have:=ih _ h2
   simp only [List.length_cons]
   by_cases hk:k=0
   ·subst hk;simp at h2;try omega
   ·omega
  ·simp;try omega
theorem MZ {n:Int} (h:n≤9223372036854775807):(NM n).length≤10:=by
 have:=KAE 10 n (by (have:(128:Int) ^ 10=1180591620717411303424:=by decide);omega)
 omega
theorem FAH (n:Int):1≤(NM n).length:=by rw [NM];split <;> simp
theorem D7 {n:Int} (h:n > 127) (h2:n≤9223372036854775807):w64 (n.tdiv 128)=n / 128∧w8 (w64 (n.tmod 128+128))=128+n % 128∧w8 (w64 (128+n.tmod 128))=128+n % 128:=by
 have e1:n.tdiv 128=n / 128:=Int.tdiv_eq_ediv_of_nonneg (by omega)
 have e2:n.tmod 128=n % 128:=Int.tmod_eq_emod_of_nonneg (by omega)
 refine ⟨by rw [e1,w64_id (by omega) (by omega)],?_,?_⟩
 ·rw [e2,w64_id (by omega) (by omega),w8_id (by omega) (by omega)];omega
 ·rw [e2,w64_id (by omega) (by omega),w8_id (by omega) (by omega)]
theorem Xj {n:Int} (h:n≤9223372036854775807):Ja n=some (ofBytes (NM n)):=by
 have key:∀ (n:Int) (m:Nat) (out:List Int),n≤9223372036854775807→(NM n).length≤m→out.length+(NM n).length≤1000→Ah m (.c0 n out)=some (ofBytes (out++NM n)):=by
  intro n
  induction n using NM.induct with
  | case1 n hn ih=>
   intro m out h1 h2 h3
   rw [NM,if_pos hn] at h2 h3 ⊢
   simp only [List.length_cons] at h2 h3
   obtain ⟨m,rfl⟩:∃ k,m=k+1:=⟨m - 1,by omega⟩
   obtain ⟨e1,e2,_⟩:=D7 hn h1
   simp only [Ah,Jl,e1,e2]
   rw [show decide (n > 127)=true from decide_eq_true hn,show decide ((out.length+1)*1≤140737488355328)=true from decide_eq_true (by omega)]
   simp only [cond_true]
   rw [ih m _ (by omega) (by omega) (by simp;omega)]
   simp
  | case2 n hn=>
   intro m out h1 h2 h3
   rw [NM,if_neg hn] at h2 h3 ⊢
   simp at h2 h3
   obtain ⟨m,rfl⟩:∃ k,m=k+1:=⟨m - 1,by omega⟩
   simp only [Ah,Jl]
   rw [show decide (n > 127)=false from decide_eq_false hn,show decide ((out.length+1)*1≤140737488355328)=true from decide_eq_true (by omega)]
   rfl
 have hl:=MZ h
 exact key n gas [] h (Nat.le_of_lt (gas_lt (by omega))) (by simp;omega)
def PX (x:SThing):Bool:=IK x.fId 1 1000 && IK x.fKind 1 3 && IK x.fNext 0 16 && ((x.fKind == 2) || ((x.fNext == 0) && !x.fSigns)) && ((x.fKind == 1) || !x.fWraps) && (bif x.fKind == 3 then decide ((x.fValue.size:Int)≤100) else (x.fValue.size:Int) == 32)
theorem F7 (x:SThing):UZ x=some (PX x):=by
 simp only [UZ,Xq,Xn,Option.bind_some,PX,bne]
 cases IK x.fId 1 1000 <;> cases IK x.fKind 1 3 <;> cases IK x.fNext 0 16 <;> cases (x.fKind == 2) <;> cases (x.fKind == 1) <;> cases (x.fKind == 3) <;> cases (x.fNext == 0) <;> cases x.fSigns <;> cases x.fWraps <;> rfl
theorem Tc {x:SThing} (h:PX x=true):1≤x.fKind∧x.fKind≤3∧1≤x.fId∧x.fId≤1000∧0≤x.fNext∧x.fNext≤16∧x.fValue.size≤100:=by
 unfold PX at h
 simp only [Bool.and_eq_true] at h
 obtain ⟨⟨⟨⟨⟨h1,h2⟩,h3⟩,_⟩,_⟩,h4⟩:=h
 rw [VY] at h1 h2 h3
 refine ⟨h2.1,h2.2,h1.1,h1.2,h3.1,h3.2,?_⟩
 cases hk:x.fKind == 3
 ·rw [hk] at h4;simp at h4;omega
 ·rw [hk] at h4;simp at h4;omega
theorem LAE (b:Bool) (n:Int):Ll b n=some (bif b then n else 0):=by cases b <;> rfl
theorem G7 {n:Int} (h:0≤n) (h2:n≤255):Dh n=some (ofBytes [n]):=by
 have e:n.tmod 256=n:=by rw [Int.tmod_eq_emod_of_nonneg h];omega
 simp only [Dh,Hr,e]
 rw [show decide (n<0)=false from decide_eq_false (by omega),w8_id h h2]
 rfl
def NZ (s:ByteArray):ByteArray:=ofBytes (NM (s.size:Int))++s
theorem MAE {s:ByteArray} (h:s.size≤140737488351232):(NZ s).size≤s.size+10:=by
 unfold NZ;rw [ba_append_size,ofBytes_size];have:=MZ (n:=(s.size:Int)) (by omega);omega
theorem NAE {s:ByteArray} (h:s.size≤140737488351232):Eh s=some (NZ s):=by
 simp only [Eh,Jr,Xj (n:=(s.size:Int)) (by omega),Option.bind_some]
 have:=MZ (n:=(s.size:Int)) (by omega)
 rw [show decide ((ofBytes (NM (s.size:Int))).size+s.size≤9223372036854775807)=true from decide_eq_true (by rw [ofBytes_size];omega)]
 rfl
def Uc (x:SThing):Int:=(bif x.fHidden then 1 else 0)+(bif x.fFixed then 2 else 0)+(bif x.fSigns then 4 else 0)+(bif x.fWraps then 8 else 0)
theorem H7 (x:SThing):0≤Uc x∧Uc x≤15:=by
 unfold Uc;cases x.fHidden <;> cases x.fFixed <;> cases x.fSigns <;> cases x.fWraps <;> decide
theorem OAE (m:Nat) (a b c d:Bool):Ku (m+5) (.c0 0 4 0 [a,b,c,d])=some ((bif a then 1 else 0)+(bif b then 2 else 0)+(bif c then 4 else 0)+(bif d then 8 else 0)):=by
 cases a <;> cases b <;> cases c <;> cases d <;> kernel_rfl
theorem PAE (x:SThing):Ui x=some (Uc x):=by
 obtain ⟨m,this⟩:∃ m,gas=m+5:=⟨gas - 5,rfl⟩
 unfold Ui Ju
 rw [this]
 exact OAE _ _ _ _ _
def Yn (x:SThing):ByteArray:=ofBytes (NM x.fId)++ofBytes [x.fKind]++ofBytes [Uc x]++NZ x.fValue++ofBytes (NM x.fNext)
def JY (x:SThing):ByteArray×Bool:=bif PX x then (Yn x,true) else (⟨#[]⟩,false)
theorem Iw {x:SThing} (h:PX x=true):(ofBytes (NM x.fId)).size≤10∧(NZ x.fValue).size≤110∧(ofBytes (NM x.fNext)).size≤10:=by
 obtain ⟨_,_,_,h1,_,h2,h3⟩:=Tc h
 rw [ofBytes_size,ofBytes_size]
 have:=MZ (n:=x.fId) (by omega)
 have:=MZ (n:=x.fNext) (by omega)
 have:=MAE (s:=x.fValue) (by omega)
 omega
theorem I7 {x:SThing} (h:PX x=true):(Yn x).size≤200:=by
 obtain ⟨h1,h2,h3⟩:=Iw h
 unfold Yn
 simp only [ba_append_size]
 have e1:∀ n:Int,(ofBytes [n]).size=1:=fun n=>ofBytes_size _
 rw [e1,e1];omega
theorem QAE (x:SThing):Fh x=some (JY x):=by
 simp only [Fh,Lr,F7,Option.bind_some,JY]
 cases h:PX x
 ·rfl
 ·obtain ⟨k1,k2,k3,k4,k5,k6,k7⟩:=Tc h
  obtain ⟨z1,z2,z3⟩:=Iw h
  have hf:=H7 x
  have e1:∀ n:Int,(ofBytes [n]).size=1:=fun n=>ofBytes_size _
  have ef:w64 (w64 (w64 ((bif x.fHidden then (1:Int) else 0)+(bif x.fFixed then 2 else 0))+(bif x.fSigns then 4 else 0))+(bif x.fWraps then 8 else 0))=Uc x:=by
   unfold Uc;cases x.fHidden <;> cases x.fFixed <;> cases x.fSigns <;> cases x.fWraps <;> rfl
  simp only [LAE,Option.bind_some,ef,Xj (n:=x.fId) (by omega),G7 (n:=x.fKind) (by omega) (by omega),G7 hf.1 (by omega),NAE (s:=x.fValue) (by omega),Xj (n:=x.fNext) (by omega),ba_append_size,e1]
  simp only [Bool.not_true,cond_false,cond_true]
  rw [show decide ((ofBytes (NM x.fId)).size+1≤9223372036854775807)=true from decide_eq_true (by omega),show decide ((ofBytes (NM x.fId)).size+1+1≤9223372036854775807)=true from decide_eq_true (by omega),
   show decide ((ofBytes (NM x.fId)).size+1+1+(NZ x.fValue).size≤9223372036854775807)=true from decide_eq_true (by omega),show decide ((ofBytes (NM x.fId)).size+1+1+(NZ x.fValue).size+(ofBytes (NM x.fNext)).size≤9223372036854775807)=true from decide_eq_true (by omega)]
  rfl
def YX (x:SThing):Bool:=(x.fId == 0) && ((x.fKind == 0) && ((x.fHidden == false) && ((x.fFixed == false) && ((x.fSigns == false) && ((x.fWraps == false) && (((ByteArray.toList x.fValue) == (ByteArray.toList (⟨#[]⟩:ByteArray))) && ((x.fNext == 0) && true)))))))
theorem J7 (x:SThing):((x.fId == 0) && ((x.fKind == 0) && ((x.fHidden == false) && ((x.fFixed == false) && ((x.fSigns == false) && ((x.fWraps == false) && (((ByteArray.toList x.fValue) == (ByteArray.toList (⟨#[]⟩:ByteArray))) && ((x.fNext == 0) && true))))))))=YX x:=rfl
def VX (s:ByteArray):Bool:=(ByteArray.toList s) == (ByteArray.toList (⟨#[]⟩:ByteArray))
theorem N7 (s:ByteArray):((ByteArray.toList s) == (ByteArray.toList (⟨#[]⟩:ByteArray)))=VX s:=rfl
def noT:ByteArray×Bool:=((⟨#[]⟩:ByteArray),false)
def RV (r:SRec):ByteArray×Bool:=
 bif r.fKind == 1 then (bif (r.fText.size:Int) == 32 && r.fNum == 0 && YX r.fThing then (ofBytes [1]++r.fText,true) else noT)
 else bif r.fKind == 2 then (bif VX r.fText && YX r.fThing && IK r.fNum 0 3 then (ofBytes [2]++ofBytes (NM r.fNum),true) else noT)
 else bif r.fKind == 3 then (bif (JY r.fThing).2 && VX r.fText && r.fNum == 0 then (ofBytes [3]++(JY r.fThing).1,true) else noT)
 else bif r.fKind == 4 then (bif VX r.fText && YX r.fThing && IK r.fNum 1 1000 then (ofBytes [4]++ofBytes (NM r.fNum),true) else noT)
 else noT
theorem Zn {n a b:Int} (hb:b≤1000) (h:IK n a b=true) (k:Int):(ofBytes [k]).size+(ofBytes (NM n)).size≤9223372036854775807:=by
 rw [VY] at h
 have:=MZ (n:=n) (by omega)
 rw [ofBytes_size,ofBytes_size];simp only [List.length_singleton];omega
theorem O7 {x:SThing} (h:(JY x).2=true) (k:Int):(ofBytes [k]).size+(JY x).1.size≤9223372036854775807:=by
 unfold JY at h ⊢
 cases ho:PX x
 ·rw [ho] at h;cases h
 ·have:=I7 ho
  rw [ofBytes_size];simp only [List.length_singleton,cond_true];omega
theorem RAE (r:SRec):Eb r=some (RV r):=by
 have h1:(⟨#[1]⟩:ByteArray)=ofBytes [1]:=rfl
 have h2:(⟨#[2]⟩:ByteArray)=ofBytes [2]:=rfl
 have h3:(⟨#[3]⟩:ByteArray)=ofBytes [3]:=rfl
 have h4:(⟨#[4]⟩:ByteArray)=ofBytes [4]:=rfl
 simp only [Eb,Nr,Xn,QAE,Option.bind_some,J7,h1,h2,h3,h4]
 simp only [N7,RV]
 cases r.fKind == 1
 ·simp only [cond_false]
  cases r.fKind == 2
  ·simp only [cond_false]
   cases r.fKind == 3
   ·simp only [cond_false]
    cases r.fKind == 4
    ·rfl
    ·cases VX r.fText <;> cases YX r.fThing <;> (try rfl)
     cases h:IK r.fNum 1 1000
     ·rfl
     ·have h':=h
      rw [VY] at h'
      simp only [cond_true,Xj (n:=r.fNum) (by omega),Option.bind_some,Bool.and_self,decide_eq_true (Zn (by omega) h 4)]
   ·cases h:(JY r.fThing).2
    ·rfl
    ·cases VX r.fText <;> cases r.fNum == 0 <;> (try rfl)
     simp only [cond_true,Bool.and_self,decide_eq_true (O7 h 3)]
  ·cases VX r.fText <;> cases YX r.fThing <;> (try rfl)
   cases h:IK r.fNum 0 3
   ·rfl
   ·have h':=h
    rw [VY] at h'
    simp only [cond_true,Xj (n:=r.fNum) (by omega),Option.bind_some,Bool.and_self,decide_eq_true (Zn (by omega) h 2)]
 ·cases h:(r.fText.size:Int) == 32 <;> cases r.fNum == 0 <;> cases YX r.fThing <;> (try rfl)
  have h':r.fText.size=32:=by have:=beq_iff_eq.1 h;omega
  have e:(ofBytes [1]).size+r.fText.size≤9223372036854775807:=by rw [ofBytes_size];simp only [List.length_singleton];omega
  simp only [cond_true,Bool.and_self,decide_eq_true e]
def rise (last:Int):Int→List SThing→Bool
 | _,[]=>true
 | p,x::xs=>PX x && (!decide (x.fId > last) && (!decide (p≥x.fId) && rise last x.fId xs))
def KY (l:List SThing):Nat→Int
 | 0=>0
 | i+1=>((l[i]?).map (·.fId)).getD 0
theorem Jw {l:List SThing} {i:Nat} (hi:i<l.length):KY l (i+1)=l[i].fId:=by simp [KY,hi]
theorem P7 {l:List SThing} {last:Int} {i:Nat} (hi:i<l.length):rise last (KY l i) (l.drop i)=(PX l[i] && (!decide (l[i].fId > last) && (!decide (KY l i≥l[i].fId) && rise last (KY l (i+1)) (l.drop (i+1))))):=by
 rw [drop_at hi,rise,Jw hi]
def EY (b:SBook):Bool:=(b.fWord.size:Int) == 32 && ((b.fChain.size:Int) == 32 && (IK b.fTries 0 3 && (decide ((b.fThings.length:Int)≤8) && (IK b.fLast 0 1000 && (IK b.fCount 0 10000 && rise b.fLast 0 b.fThings)))))
theorem SAE {b:SBook} (hb:b.fThings.length≤140737488351232):∀ m i,i≤b.fThings.length→b.fThings.length - i<m→Fb m (.c0 i b)=some (rise b.fLast (KY b.fThings i) (b.fThings.drop i)):=fun m i h1 h2=>
 loopN (A:=Unit) (n:=b.fThings.length) (Lp:=Fb) (st:=fun i _=>.c0 i b) (Inv:=fun _ _=>True) (out:=fun i _=>some (rise b.fLast (KY b.fThings i) (b.fThings.drop i)))
  (fun m _ _=>by
   simp only [Fb,Ql]
   rw [show decide ((b.fThings.length:Int)<(b.fThings.length:Int))=false from decide_eq_false (by omega),List.drop_of_length_le (Nat.le_refl _)]
   rfl)
  (fun m i _ hi _=>by
   have hw:w64 ((i:Int)+1)=((i+1:Nat):Int):=by rw [w64_id (by omega) (by omega)];rfl
   simp only [P7 hi]
   simp only [Fb,Ql,Int.toNat_natCast,getD_at hi,F7,Option.bind_some,hw]
   rw [show decide ((i:Int)<(b.fThings.length:Int))=true from decide_eq_true (by omega),show decide ((0:Int)≤(i:Int))=true from decide_eq_true (by omega)]
   simp only [Bool.and_self,cond_true]
   cases h1:PX b.fThings[i]
   ·exact .inl rfl
   ·cases h2:decide (b.fThings[i].fId > b.fLast)
    ·by_cases h0:i=0
     ·subst h0
      refine .inr ⟨(),rfl,trivial,?_⟩
      rw [show decide (KY b.fThings 0≥b.fThings[0].fId)=false from decide_eq_false (by have:=(Tc h1).2.2.1;simp only [KY];omega)]
      rfl
     ·obtain ⟨j,rfl⟩:∃ j,i=j+1:=⟨i - 1,by omega⟩
      have hj:w64 (((j+1:Nat):Int) - 1)=(j:Int):=by rw [w64_id (by omega) (by omega)];omega
      have hjl:j<b.fThings.length:=by omega
      rw [Jw hjl]
      simp only [hj,Int.toNat_natCast,getD_at hjl,Bool.not_true,Bool.not_false,cond_false,Bool.true_and]
      rw [show decide (((j+1:Nat):Int) > 0)=true from decide_eq_true (by omega),show decide ((0:Int)≤(j:Int))=true from decide_eq_true (by omega),show decide ((j:Int)<(b.fThings.length:Int))=true from decide_eq_true (by omega)]
      simp only [Bool.and_self,cond_true]
      cases h3:decide (b.fThings[j].fId≥b.fThings[j+1].fId)
      ·exact .inr ⟨(),rfl,trivial,rfl⟩
      ·exact .inl rfl
    ·exact .inl rfl) m i () h1 h2 trivial
theorem Oe {b:SBook} (hb:b.fThings.length≤140737488351232):Ib b=some (EY b):=by
 have h0:Fb gas (.c0 0 b)=some (rise b.fLast 0 b.fThings):=SAE hb gas 0 (Nat.zero_le _) (gas_lt (by omega))
 simp only [Ib,Qr,Xn,Option.bind_some,EY,bne,h0]
 rw [show decide ((b.fThings.length:Int)≤8) = !decide ((b.fThings.length:Int) > 8) by rw [←decide_not];simp]
 cases (b.fWord.size:Int) == 32 <;> cases (b.fChain.size:Int) == 32 <;> cases IK b.fTries 0 3 <;> cases decide ((b.fThings.length:Int) > 8) <;> cases IK b.fLast 0 1000 <;> cases IK b.fCount 0 10000 <;> rfl
def WX (xs:List SThing) (t:Int):Option SThing:=xs.find? fun x=>x.fId == t
def Qe:SThing:=⟨0,0,false,false,false,false,⟨#[]⟩,0⟩
theorem Q7 {b:SBook} {t:Int} (h:b.fThings.length≤140737488351232):Td b t=some (match WX b.fThings t with | some x=>(x,true) | none=>(Qe,false)):=by
 have key:∀ m i,i≤b.fThings.length→b.fThings.length - i<m→Qd m (.c0 t i b Qe)=some (match WX (b.fThings.drop i) t with | some x=>(x,true) | none=>(Qe,false)):=fun m i h1 h2=>
  loopN (A:=Unit) (n:=b.fThings.length) (Lp:=Qd) (st:=fun i _=>.c0 t i b Qe) (Inv:=fun _ _=>True) (out:=fun i _=>some (match WX (b.fThings.drop i) t with | some x=>(x,true) | none=>(Qe,false)))
   (fun m _ _=>by simp [Qd,Sl,WX,Qe])
   (fun m i _ hi _=>by
    have hw:w64 ((i:Int)+1)=((i+1:Nat):Int):=by rw [w64_id (by omega) (by omega)];rfl
    simp only [Qd,Sl,Int.toNat_natCast,getD_at hi,hw,drop_at hi,WX,List.find?_cons]
    cases hq:b.fThings[i].fId == t
    ·exact .inr ⟨(),by simp [hi],trivial,by simp⟩
    ·exact .inl (by simp [hi])) m i () h1 h2 trivial
 have h0:=key gas 0 (Nat.zero_le _) (gas_lt (by omega))
 exact h0
theorem Kw {r:SRec} (h:(RV r).2=true):(r.fKind=1∧r.fText.size=32)∨(r.fKind=2∧0≤r.fNum∧r.fNum≤3)∨(r.fKind=3∧PX r.fThing=true)∨(r.fKind=4∧1≤r.fNum∧r.fNum≤1000):=by
 rw [RV] at h
 by_cases h1:r.fKind=1
 ·rw [show (r.fKind == 1)=true by rw [beq_iff_eq];exact h1,cond_true] at h
  cases hc:((r.fText.size:Int) == 32 && r.fNum == 0 && YX r.fThing)
  ·rw [hc] at h;cases h
  ·rw [Bool.and_eq_true,Bool.and_eq_true,beq_iff_eq] at hc
   exact .inl ⟨h1,by omega⟩
 rw [show (r.fKind == 1)=false by rw [beq_eq_false_iff_ne];exact h1,cond_false] at h
 by_cases h2:r.fKind=2
 ·rw [show (r.fKind == 2)=true by rw [beq_iff_eq];exact h2,cond_true] at h
  cases hc:(VX r.fText && YX r.fThing && IK r.fNum 0 3)
  ·rw [hc] at h;cases h
  ·rw [Bool.and_eq_true,VY] at hc
   exact .inr (.inl ⟨h2,hc.2⟩)
 rw [show (r.fKind == 2)=false by rw [beq_eq_false_iff_ne];exact h2,cond_false] at h
 by_cases h3:r.fKind=3
 ·rw [show (r.fKind == 3)=true by rw [beq_iff_eq];exact h3,cond_true] at h
  cases hc:((JY r.fThing).2 && VX r.fText && r.fNum == 0)
  ·rw [hc] at h;cases h
  ·rw [Bool.and_eq_true,Bool.and_eq_true] at hc
   refine .inr (.inr (.inl ⟨h3,?_⟩))
   have h4:=hc.1.1
   rw [JY] at h4
   cases ho:PX r.fThing
   ·rw [ho] at h4;cases h4
   ·rfl
 rw [show (r.fKind == 3)=false by rw [beq_eq_false_iff_ne];exact h3,cond_false] at h
 by_cases h4:r.fKind=4
 ·rw [show (r.fKind == 4)=true by rw [beq_iff_eq];exact h4,cond_true] at h
  cases hc:(VX r.fText && YX r.fThing && IK r.fNum 1 1000)
  ·rw [hc] at h;cases h
  ·rw [Bool.and_eq_true,VY] at hc
   exact .inr (.inr (.inr ⟨h4,hc.2⟩))
 rw [show (r.fKind == 4)=false by rw [beq_eq_false_iff_ne];exact h4] at h
 cases h
theorem U7 (r:SRec):(RV r).1.size≤300:=by
 rw [RV]
 have one:∀ n:Int,(ofBytes [n]).size=1:=fun n=>by rw [ofBytes_size];rfl
 cases hk1:(r.fKind == 1)
 ·rw [cond_false]
  cases hk2:(r.fKind == 2)
  ·rw [cond_false]
   cases hk3:(r.fKind == 3)
   ·rw [cond_false]
    cases hk4:(r.fKind == 4)
    ·exact Nat.zero_le _
    ·rw [cond_true]
     cases hc:(VX r.fText && YX r.fThing && IK r.fNum 1 1000)
     ·exact Nat.zero_le _
     ·rw [Bool.and_eq_true,VY] at hc
      have:=MZ (n:=r.fNum) (by omega)
      rw [cond_true,ByteArray.size_append,one,ofBytes_size];omega
   ·rw [cond_true]
    cases hc:((JY r.fThing).2 && VX r.fText && r.fNum == 0)
    ·exact Nat.zero_le _
    ·rw [cond_true,ByteArray.size_append,one,JY]
     cases ho:PX r.fThing
     ·exact Nat.le_of_ble_eq_true rfl
     ·have:=I7 ho
      show 1+(Yn r.fThing).size≤300;omega
  ·rw [cond_true]
   cases hc:(VX r.fText && YX r.fThing && IK r.fNum 0 3)
   ·exact Nat.zero_le _
   ·rw [Bool.and_eq_true,VY] at hc
    have:=MZ (n:=r.fNum) (by omega)
    rw [cond_true,ByteArray.size_append,one,ofBytes_size];omega
 ·rw [cond_true]
  cases hc:((r.fText.size:Int) == 32 && r.fNum == 0 && YX r.fThing)
  ·exact Nat.zero_le _
  ·rw [Bool.and_eq_true,Bool.and_eq_true,beq_iff_eq] at hc
   rw [cond_true,ByteArray.size_append,one];omega
def CY:List SThing→Int→Nat→Option Nat
 | [],_,_=>none
 | x::xs,t,i=>if x.fId == t then some i else CY xs t (i+1)
theorem TAE (t:Int):∀ (xs:List SThing) (i:Nat),match CY xs t i with | some j=>i≤j∧j<i+xs.length∧WX xs t=xs[j - i]? | none=>WX xs t=none:=by
 intro xs
 induction xs with
 | nil=>intro i;rfl
 | cons x xs ih=>
  intro i
  simp only [CY,WX,List.find?_cons]
  cases hq:x.fId == t
  ·have:=ih (i+1)
   simp only [Bool.false_eq_true,if_false]
   split at this
   ·rename_i j hj
    obtain ⟨h1,h2,h3⟩:=this
    refine ⟨by omega,by simp;omega,?_⟩
    rw [show j - i=(j - (i+1))+1 by omega,List.getElem?_cons_succ]
    exact h3
   ·exact this
  ·simp
theorem V7 {b:SBook} {t:Int} (h:b.fThings.length≤140737488351232):Ce b t=some (match CY b.fThings t 0 with | some j=>(j:Int) | none=> -1):=by
 have key:∀ m i,i≤b.fThings.length→b.fThings.length - i<m→Ae m (.c0 t b.fThings b.fThings.length i)=some (match CY (b.fThings.drop i) t i with | some j=>(j:Int) | none=> -1):=fun m i h1 h2=>
  loopN (A:=Unit) (n:=b.fThings.length) (Lp:=Ae) (st:=fun i _=>.c0 t b.fThings b.fThings.length i) (Inv:=fun _ _=>True) (out:=fun i _=>some (match CY (b.fThings.drop i) t i with | some j=>(j:Int) | none=> -1))
   (fun m _ _=>by simp [Ae,Ym,CY])
   (fun m i _ hi _=>by
    have hw:w64 ((i:Int)+1)=((i+1:Nat):Int):=by rw [w64_id (by omega) (by omega)];rfl
    simp only [Ae,Ym,Int.toNat_natCast,getD_at hi,hw,drop_at hi,CY]
    cases hq:b.fThings[i].fId == t
    ·exact .inr ⟨(),by simp [hi],trivial,by simp⟩
    ·exact .inl (by simp [hi])) m i () h1 h2 trivial
 have h0:=key gas 0 (Nat.zero_le _) (gas_lt (by omega))
 exact h0
theorem OZ {b:SBook}:EY b=true↔b.fWord.size=32∧b.fChain.size=32∧(0≤b.fTries∧b.fTries≤3)∧b.fThings.length≤8∧(0≤b.fLast∧b.fLast≤1000)∧(0≤b.fCount∧b.fCount≤10000)∧rise b.fLast 0 b.fThings=true:=by
 simp only [EY,Bool.and_eq_true,beq_iff_eq,VY,decide_eq_true_eq]
 exact ⟨fun ⟨h1,h2,h3,h4,h5,h6,h7⟩=>⟨by omega,by omega,h3,by omega,h5,h6,h7⟩,fun ⟨h1,h2,h3,h4,h5,h6,h7⟩=>⟨by omega,by omega,h3,by omega,h5,h6,h7⟩⟩
theorem WY {last p:Int} {x:SThing} {xs:List SThing}:rise last p (x::xs)=true↔PX x=true∧x.fId≤last∧p<x.fId∧rise last x.fId xs=true:=by
 simp only [rise,Bool.and_eq_true,Bool.not_eq_true',decide_eq_false_iff_not]
 exact ⟨fun ⟨h1,h2,h3,h4⟩=>⟨h1,by omega,by omega,h4⟩,fun ⟨h1,h2,h3,h4⟩=>⟨h1,by omega,by omega,h4⟩⟩
theorem Bo {last:Int}:∀ {xs:List SThing} {p:Int},rise last p xs=true→∀ x ∈ xs,p<x.fId∧x.fId≤last∧PX x=true
 | [],_,_,x,hx=>by cases hx
 | y::ys,p,h,x,hx=>by
  obtain ⟨h1,h2,h3,h4⟩:=WY.1 h
  rcases List.mem_cons.1 hx with rfl | hx
  ·exact ⟨h3,h2,h1⟩
  ·have:=Bo h4 x hx
   exact ⟨by omega,this.2.1,this.2.2⟩
theorem Nw {last last2:Int} (hl:last≤last2):∀ {xs:List SThing} {p p2:Int},p2≤p→rise last p xs=true→rise last2 p2 xs=true
 | [],_,_,_,_=>rfl
 | y::ys,p,p2,hp,h=>by
  obtain ⟨h1,h2,h3,h4⟩:=WY.1 h
  exact WY.2 ⟨h1,by omega,by omega,Nw hl (Int.le_refl _) h4⟩
def EZ (x:SThing) (ts:List SThing):List SThing:=ts.filter fun t=>decide (t.fId<x.fId)
def Xc (x:SThing) (ts:List SThing):List SThing:=ts.filter fun t=>decide (t.fId > x.fId)
def putAt (ts:List SThing) (x:SThing):List SThing:=EZ x ts++x::Xc x ts
def without (ts:List SThing) (id:Int):List SThing:=ts.filter fun t=>t.fId != id
theorem UAE {last:Int} {x:SThing}:∀ {xs:List SThing} {p:Int},x.fId≤p→rise last p xs=true→EZ x xs=[]∧Xc x xs=xs∧without xs x.fId=xs:=by
 intro xs p hp h
 have ha:=Bo h
 refine ⟨List.filter_eq_nil_iff.2 fun t ht=>?_,List.filter_eq_self.2 fun t ht=>?_,List.filter_eq_self.2 fun t ht=>?_⟩
 ·have:=ha t ht;rw [decide_eq_true_eq];omega
 ·have:=ha t ht;rw [decide_eq_true_eq];omega
 ·have:=ha t ht;rw [bne_iff_ne];omega
theorem X7 {id:Int}:∀ {xs:List SThing} {i j:Nat},CY xs id i=some j→i≤j∧∃ x ∈ xs,x.fId=id:=by
 intro xs
 induction xs with
 | nil=>intro i j h;cases h
 | cons y ys ih=>
  intro i j h
  rw [CY] at h
  split at h
  ·rename_i hy;cases h;exact ⟨Nat.le_refl _,y,List.mem_cons_self ..,beq_iff_eq.1 hy⟩
  ·obtain ⟨h1,x,h2,h3⟩:=ih h;exact ⟨by omega,x,List.mem_cons_of_mem _ h2,h3⟩
theorem Qw {last:Int} {x:SThing}:∀ {xs:List SThing} {p:Int} {i j:Nat},rise last p xs=true→CY xs x.fId i=some j→xs.set (j - i) x=putAt xs x∧(xs.take (j - i)++xs.drop (j - i+1))=without xs x.fId:=by
 intro xs
 induction xs with
 | nil=>intro p i j _ h;cases h
 | cons y ys ih=>
  intro p i j hr h
  obtain ⟨h1,h2,h3,h4⟩:=WY.1 hr
  rw [CY] at h
  split at h
  ·rename_i hy
   have hy:=beq_iff_eq.1 hy
   cases h
   obtain ⟨f1,f2,f3⟩:=UAE (x:=x) (by omega) h4
   rw [Nat.sub_self]
   simp only [putAt,EZ,Xc,without,List.filter_cons] at f1 f2 f3 ⊢
   rw [decide_eq_false (by omega),decide_eq_false (by omega),show (y.fId != x.fId)=false by rw [bne_eq_false_iff_eq];exact hy]
   simp [f1,f2,f3]
  ·rename_i hy
   obtain ⟨h5,z,h6,h7⟩:=X7 h
   have h8:=Bo h4 z h6
   obtain ⟨i1,i2⟩:=ih h4 h
   have e:j - i=(j - (i+1))+1:=by omega
   rw [e,List.set_cons_succ,i1,List.take_succ_cons,List.drop_succ_cons,List.cons_append,i2]
   simp only [putAt,EZ,Xc,without,List.filter_cons]
   rw [decide_eq_true (by omega),decide_eq_false (by omega),show (y.fId != x.fId)=true by rw [bne_iff_ne];omega]
   simp
theorem VAE {last:Int} {x:SThing} {xs:List SThing} {p:Int} (h:rise last p xs=true) (hx:last<x.fId):putAt xs x=xs++[x]∧WX xs x.fId=none:=by
 have ha:=Bo h
 constructor
 ·rw [putAt,EZ,Xc,List.filter_eq_self.2 fun t ht=>by have:=ha t ht;rw [decide_eq_true_eq];omega,List.filter_eq_nil_iff.2 fun t ht=>by have:=ha t ht;rw [decide_eq_true_eq];omega]
 ·rw [WX,List.find?_eq_none]
  intro t ht
  have:=ha t ht
  rw [beq_iff_eq];omega
theorem WAE {last:Int} {x:SThing} (hx:PX x=true) (hl:last<x.fId):∀ {xs:List SThing} {p:Int},p<x.fId→rise last p xs=true→rise x.fId p (xs++[x])=true:=by
 intro xs
 induction xs with
 | nil=>intro p hp _;exact WY.2 ⟨hx,Int.le_refl _,hp,rfl⟩
 | cons y ys ih=>
  intro p hp h
  obtain ⟨h1,h2,h3,h4⟩:=WY.1 h
  exact WY.2 ⟨h1,by omega,h3,ih (by omega) h4⟩
theorem XAE {last:Int} {x:SThing} (hx:PX x=true):∀ {xs:List SThing} {p:Int} {i j:Nat},rise last p xs=true→CY xs x.fId i=some j→rise last p (xs.set (j - i) x)=true:=by
 intro xs
 induction xs with
 | nil=>intro p i j _ h;cases h
 | cons y ys ih=>
  intro p i j hr h
  obtain ⟨h1,h2,h3,h4⟩:=WY.1 hr
  rw [CY] at h
  split at h
  ·rename_i hy
   have hy:=beq_iff_eq.1 hy
   cases h
   rw [Nat.sub_self,List.set_cons_zero]
   exact WY.2 ⟨hx,by omega,by omega,Nw (Int.le_refl _) (by omega) h4⟩
  ·have h5:=(X7 h).1
   have e:j - i=(j - (i+1))+1:=by omega
   rw [e,List.set_cons_succ]
   exact WY.2 ⟨h1,h2,h3,ih h4 h⟩
theorem YAE {last:Int} (id:Int):∀ {xs:List SThing} {p:Int},rise last p xs=true→rise last p (without xs id)=true:=by
 intro xs
 induction xs with
 | nil=>intro p _;rfl
 | cons y ys ih=>
  intro p h
  obtain ⟨h1,h2,h3,h4⟩:=WY.1 h
  rw [without,List.filter_cons]
  split
  ·exact WY.2 ⟨h1,h2,h3,ih h4⟩
  ·exact Nw (Int.le_refl _) (by omega) (ih h4)
def grown (x y:SThing):Bool:=y.fKind == x.fKind && ((bs y.fValue == bs x.fValue) && (y.fSigns == x.fSigns && (y.fWraps == x.fWraps && (decide (x.fNext≤y.fNext) && ((y.fHidden || !x.fHidden) && (y.fFixed || !x.fFixed))))))
def Yj:SBook:=⟨⟨#[]⟩,0,[],0,⟨#[]⟩,0⟩
def Yc (b:SBook) (x:SThing):Option (List SThing×Int):=match WX b.fThings x.fId with
 | some old=>bif grown old x then some (putAt b.fThings x,b.fLast) else none
 | none=>bif x.fId != b.fLast+1 || decide ((b.fThings.length:Int)≥8) then none else some (b.fThings++[x],x.fId)
def QX (b:SBook) (r:SRec):SBook×Bool:=
 bif !(EY b) || (!(RV r).2 || decide (b.fCount≥10000)) then (Yj,false)
 else bif r.fKind == 1 then (⟨r.fText,0,b.fThings,b.fLast,IY (b.fChain++(RV r).1),b.fCount+1⟩,true)
 else bif r.fKind == 2 then (⟨b.fWord,r.fNum,b.fThings,b.fLast,IY (b.fChain++(RV r).1),b.fCount+1⟩,true)
 else bif r.fKind == 3 then (match Yc b r.fThing with
  | some p=>(⟨b.fWord,b.fTries,p.1,p.2,IY (b.fChain++(RV r).1),b.fCount+1⟩,true)
  | none=>(Yj,false))
 else (match WX b.fThings r.fNum with
  | some _=>(⟨b.fWord,b.fTries,without b.fThings r.fNum,b.fLast,IY (b.fChain++(RV r).1),b.fCount+1⟩,true)
  | none=>(Yj,false))
theorem Rw {xs:List SThing} {id:Int}:(∃ x j,WX xs id=some x∧CY xs id 0=some j∧j<xs.length∧xs[j]?=some x∧x.fId=id)∨(WX xs id=none∧CY xs id 0=none):=by
 have h:=TAE id xs 0
 cases hp:CY xs id 0 with
 | none=>rw [hp] at h;exact .inr ⟨h,rfl⟩
 | some j=>
  rw [hp] at h
  obtain ⟨_,h2,h3⟩:=h
  rw [Nat.sub_zero] at h3
  rw [Nat.zero_add] at h2
  refine .inl ⟨xs[j],j,?_,rfl,h2,List.getElem?_eq_getElem h2,?_⟩
  ·rw [h3,List.getElem?_eq_getElem h2]
  ·have h4:WX xs id=some xs[j]:=by rw [h3,List.getElem?_eq_getElem h2]
   have:=List.find?_some h4
   exact beq_iff_eq.1 this
theorem Uw {b:SBook} {r:SRec} (h:(QX b r).2=true):EY b=true∧(RV r).2=true∧b.fCount<10000∧EY (QX b r).1=true∧(QX b r).1.fCount=b.fCount+1∧(QX b r).1.fChain=IY (b.fChain++(RV r).1):=by
 rw [QX] at h ⊢
 cases h1:EY b
 ·rw [h1] at h;cases h
 cases h2:(RV r).2
 ·rw [h1,h2] at h;cases h
 by_cases h3:b.fCount≥10000
 ·rw [h1,h2,decide_eq_true h3] at h;cases h
 rw [h1,h2,decide_eq_false h3] at h
 rw [decide_eq_false h3]
 simp only [Bool.not_true,Bool.or_false,cond_false] at h ⊢
 obtain ⟨b1,b2,b3,b4,b5,b6,b7⟩:=OZ.1 h1
 refine ⟨trivial,trivial,by omega,?_⟩
 have hd:∀ s,(IY s).size=32:=MAD
 rcases Kw h2 with ⟨hk,hz⟩ | ⟨hk,hz⟩ | ⟨hk,hz⟩ | ⟨hk,hz⟩
 ·rw [hk]
  exact ⟨OZ.2 ⟨hz,hd _,(by decide:(0:Int)≤0∧(0:Int)≤3),b4,b5,by show 0≤b.fCount+1∧b.fCount+1≤10000;omega,b7⟩,rfl,rfl⟩
 ·rw [hk]
  exact ⟨OZ.2 ⟨b1,hd _,hz,b4,b5,by show 0≤b.fCount+1∧b.fCount+1≤10000;omega,b7⟩,rfl,rfl⟩
 ·rw [hk] at h ⊢
  simp only [show ((3:Int) == 1)=false from rfl,show ((3:Int) == 2)=false from rfl,show ((3:Int) == 3)=true from rfl,cond_true,cond_false] at h ⊢
  rw [Yc] at h ⊢
  rcases Rw (xs:=b.fThings) (id:=r.fThing.fId) with ⟨x,j,t1,t2,t3,t4,t5⟩ | ⟨t1,t2⟩
  ·rw [t1] at h ⊢
   simp only at h ⊢
   cases hg:grown x r.fThing
   ·rw [hg] at h;cases h
   ·have e:=(Qw b7 t2).1
    rw [Nat.sub_zero] at e
    have hrs:=XAE hz b7 t2
    rw [Nat.sub_zero,e] at hrs
    exact ⟨OZ.2 ⟨b1,hd _,b3,by show (putAt b.fThings r.fThing).length≤8;rw [←e,List.length_set];exact b4,b5,by show 0≤b.fCount+1∧b.fCount+1≤10000;omega,hrs⟩,rfl,rfl⟩
  ·rw [t1] at h ⊢
   simp only at h ⊢
   cases hg:(r.fThing.fId != b.fLast+1 || decide ((b.fThings.length:Int)≥8))
   ·rw [Bool.or_eq_false_iff,bne_eq_false_iff_eq,decide_eq_false_iff_not] at hg
    have hid:r.fThing.fId≤1000:=by
     have:=hz
     simp only [PX,Bool.and_eq_true,VY] at this
     omega
    exact ⟨OZ.2 ⟨b1,hd _,b3,by show (b.fThings++[r.fThing]).length≤8;rw [List.length_append,List.length_singleton];omega,by show 0≤r.fThing.fId∧r.fThing.fId≤1000;omega,by show 0≤b.fCount+1∧b.fCount+1≤10000;omega,WAE hz (by omega) (by omega) b7⟩,rfl,rfl⟩
   ·rw [hg] at h;cases h
 ·rw [hk] at h ⊢
  simp only [show ((4:Int) == 1)=false from rfl,show ((4:Int) == 2)=false from rfl,show ((4:Int) == 3)=false from rfl,cond_false] at h ⊢
  cases ht:WX b.fThings r.fNum with
  | none=>rw [ht] at h;cases h
  | some x=>exact ⟨OZ.2 ⟨b1,hd _,b3,by show (without b.fThings r.fNum).length≤8;exact Nat.le_trans (List.length_filter_le ..) b4,b5,by show 0≤b.fCount+1∧b.fCount+1≤10000;omega,YAE _ b7⟩,rfl,rfl⟩
theorem Y7 (a b:ByteArray):(a.toList == b.toList)=(bs a == bs b):=by
 rw [toList_inj,Bool.eq_iff_iff,decide_eq_true_eq,beq_iff_eq]
 exact ⟨fun h=>by rw [h],Ic⟩
theorem ZAE (x y:SThing):Jb x y=some (grown x y):=by
 rw [Jb,Sr,grown,Y7,show (bs x.fValue == bs y.fValue)=(bs y.fValue == bs x.fValue) by rw [Bool.eq_iff_iff,beq_iff_eq,beq_iff_eq];exact ⟨Eq.symm,Eq.symm⟩,
  show (x.fKind == y.fKind)=(y.fKind == x.fKind) by rw [Bool.eq_iff_iff,beq_iff_eq,beq_iff_eq];exact ⟨Eq.symm,Eq.symm⟩]
 cases (y.fKind == x.fKind) <;> cases (bs y.fValue == bs x.fValue) <;> cases y.fSigns <;> cases x.fSigns <;> cases y.fWraps <;> cases x.fWraps <;> cases decide (x.fNext≤y.fNext) <;> cases y.fHidden <;> cases x.fHidden <;> cases y.fFixed <;> cases x.fFixed <;> rfl
theorem Vw {f:SThing→Bool} {l:List SThing} {i:Nat} (h:i<l.length):(l.take (i+1)).filter f=(l.take i).filter f++(bif f l[i] then [l[i]] else []):=by
 rw [take_at h,List.filter_append]
 congr 1
theorem Z7 {l:List SThing} {x:SThing} (hl:l.length≤1000000000):Nb l x=some (putAt l x):=by
 have k1:∀ (j i m:Nat),i+j=l.length→VZ (m+j) (.c1 l (i:Int) x (EZ x l++[x]++(l.take i).filter (fun t=>decide (t.fId > x.fId))))=VZ m (.c1 l (l.length:Int) x (EZ x l++[x]++Xc x l)):=by
  intro j
  induction j with
  | zero=>(intro i m h;obtain rfl:i=l.length:=by omega);rw [List.take_length];rfl
  | succ j ih=>
   intro i m h
   have hi:i<l.length:=by omega
   have e:w64 ((i:Int)+1)=((i+1:Nat):Int):=by rw [w64_id (by omega) (by omega)];rfl
   have h2:=ih (i+1) m (by omega)
   rw [Vw hi] at h2
   have hf1:(EZ x l).length≤l.length:=List.length_filter_le ..
   have hf2:((l.take i).filter (fun t=>decide (t.fId > x.fId))).length≤i:=Nat.le_trans (List.length_filter_le ..) (by simp;omega)
   rw [show m+(j+1)=(m+j)+1 by omega,VZ]
   simp only [Ud,e,Int.toNat_natCast,getD_at hi]
   rw [TB (by simp;omega),TB (by simp;omega)]
   by_cases h3:l[i].fId > x.fId
   ·rw [decide_eq_true h3] at h2 ⊢
    rw [cond_true,TB (by simp;omega),TB (by simp only [List.length_append,List.length_singleton,decide_eq_true_eq];omega),←h2]
    simp
   ·rw [decide_eq_false h3] at h2 ⊢
    rw [cond_false,←h2]
    simp
 have k0:∀ (j i m:Nat),i+j=l.length→VZ (m+1+l.length+1+j) (.c0 l (i:Int) x ((l.take i).filter (fun t=>decide (t.fId<x.fId))))=some (putAt l x):=by
  intro j
  induction j with
  | zero=>
   intro i m h
   obtain rfl:i=l.length:=by omega
   have hf1:(EZ x l).length≤l.length:=List.length_filter_le ..
   rw [List.take_length,show l.filter (fun t=>decide (t.fId<x.fId))=EZ x l from rfl,Nat.add_zero,VZ]
   simp only [Ud]
   rw [SN (by simp),TB (by simp;omega)]
   have h2:=k1 l.length 0 (m+1) (by omega)
   rw [List.take_zero,List.filter_nil,List.append_nil,show ((0:Nat):Int)=0 from rfl] at h2
   rw [h2,VZ]
   simp only [Ud]
   rw [SN (by simp),putAt,List.append_assoc];rfl
  | succ j ih=>
   intro i m h
   have hi:i<l.length:=by omega
   have e:w64 ((i:Int)+1)=((i+1:Nat):Int):=by rw [w64_id (by omega) (by omega)];rfl
   have h2:=ih (i+1) m (by omega)
   rw [Vw hi] at h2
   have hf2:((l.take i).filter (fun t=>decide (t.fId<x.fId))).length≤i:=Nat.le_trans (List.length_filter_le ..) (by simp;omega)
   rw [show m+1+l.length+1+(j+1)=(m+1+l.length+1+j)+1 by omega,VZ]
   simp only [Ud,e,Int.toNat_natCast,getD_at hi]
   rw [TB (by simp;omega),TB (by simp;omega)]
   by_cases h3:l[i].fId<x.fId
   ·rw [decide_eq_true h3] at h2 ⊢
    rw [cond_true,TB (by simp;omega),TB (by simp only [decide_eq_true_eq];omega),←h2]
    simp
   ·rw [decide_eq_false h3] at h2 ⊢
    rw [cond_false,←h2]
    simp
 obtain ⟨m,hm⟩:∃ m,gas=m+1+l.length+1+l.length:=⟨gas - (2*l.length+2),by have:=gas_lt (n:=2*l.length+2) (by omega);omega⟩
 rw [Nb,Ur,hm]
 have h:=k0 l.length 0 m (by omega)
 rw [List.take_zero,List.filter_nil] at h
 exact h
theorem AAF {b:SBook} {r:SRec} (hb:b.fThings.length≤140737488351232):Ob b r=some (QX b r):=by
 have hok:=@Uw b r
 rw [Ob,Vr,RAE,Option.bind_some,Oe hb,Option.bind_some]
 rw [QX] at hok ⊢
 cases h1:EY b
 ·rfl
 cases h2:(RV r).2
 ·rfl
 obtain ⟨b1,b2,b3,b4,b5,b6,b7⟩:=OZ.1 h1
 by_cases h3:b.fCount≥10000
 ·have h3':(b.fCount == 10000)=true:=by rw [beq_iff_eq];omega
  simp only [decide_eq_true h3,h3',Bool.not_true,Bool.or_true,Bool.false_or,cond_false,cond_true]
  rfl
 have hz:=U7 r
 have hw:w64 (b.fCount+1)=b.fCount+1:=w64_id (by omega) (by omega)
 have hdig:=V6 (s:=b.fChain++(RV r).1) (by rw [ByteArray.size_append];omega)
 have hsz:decide (b.fChain.size+(RV r).1.size≤9223372036854775807)=true:=by rw [decide_eq_true_eq];omega
 have h3':(b.fCount == 10000)=false:=by rw [beq_eq_false_iff_ne];omega
 rw [h1,h2,decide_eq_false h3] at hok
 simp only [Bool.not_true,Bool.or_self,cond_false] at hok
 simp only [decide_eq_false h3,h3',Bool.not_true,Bool.or_self,cond_false,Y6 (show b.fThings.length≤2932031007317 by omega),hdig,hsz,hw,Option.bind_some,cond_true]
 rcases Kw h2 with ⟨hk,hc⟩ | ⟨hk,hc⟩ | ⟨hk,hc⟩ | ⟨hk,hc⟩
 ·rw [hk] at hok ⊢
  simp only [show ((1:Int) == 1)=true from rfl,cond_true] at hok ⊢
  have h5:=(hok trivial).2.2.2.1
  rw [Oe (by simp only;omega),Option.bind_some,h5];rfl
 ·rw [hk] at hok ⊢
  simp only [show ((2:Int) == 1)=false from rfl,show ((2:Int) == 2)=true from rfl,cond_true,cond_false] at hok ⊢
  have h5:=(hok trivial).2.2.2.1
  rw [Oe (by simp only;omega),Option.bind_some,h5];rfl
 ·rw [hk] at hok ⊢
  simp only [show ((3:Int) == 1)=false from rfl,show ((3:Int) == 2)=false from rfl,show ((3:Int) == 3)=true from rfl,cond_true,cond_false] at hok ⊢
  have hid:=(Tc hc)
  have hpl:(putAt b.fThings r.fThing).length≤1000:=by
   have f1:(EZ r.fThing b.fThings).length≤b.fThings.length:=List.length_filter_le ..
   have f2:(Xc r.fThing b.fThings).length≤b.fThings.length:=List.length_filter_le ..
   rw [putAt,List.length_append,List.length_cons];omega
  rw [Q7 hb,Option.bind_some]
  rw [Yc] at hok ⊢
  cases ht:WX b.fThings r.fThing.fId with
  | some o=>
   rw [ht] at hok
   simp only [cond_true,ZAE,Option.bind_some,Bool.not_true,cond_false,Z7 (show b.fThings.length≤1000000000 by omega)] at hok ⊢
   cases hg:grown o r.fThing
   ·rfl
   ·rw [hg] at hok
    simp only [cond_true] at hok
    have h5:=(hok trivial).2.2.2.1
    simp only [Bool.not_true,cond_false,cond_true]
    rw [Oe (by simp only;omega),Option.bind_some,h5];rfl
  | none=>
   rw [ht] at hok
   have hw2:w64 (b.fLast+1)=b.fLast+1:=w64_id (by omega) (by omega)
   simp only [cond_false,Bool.not_false,cond_true,hw2,Z7 (show b.fThings.length≤1000000000 by omega),Option.bind_some] at hok ⊢
   cases hg:(r.fThing.fId != b.fLast+1)
   ·rw [hg] at hok
    rw [bne_eq_false_iff_eq] at hg
    have hpn:=(VAE b7 (show b.fLast<r.fThing.fId by omega)).1
    by_cases h8:(b.fThings.length:Int)≥8
    ·rw [decide_eq_true h8,cond_false,TB (by rw [beq_iff_eq];omega)];rfl
    ·rw [decide_eq_false h8] at hok ⊢
     simp only [Bool.or_false,cond_false] at hok
     have h5:=(hok trivial).2.2.2.1
     rw [hpn] at hpl ⊢
     rw [cond_false,SN (by rw [beq_eq_false_iff_ne];omega),Oe (by simp only;omega),Option.bind_some,h5];rfl
   ·rfl
 ·rw [hk] at hok ⊢
  simp only [show ((4:Int) == 1)=false from rfl,show ((4:Int) == 2)=false from rfl,show ((4:Int) == 3)=false from rfl,show ((4:Int) == 4)=true from rfl,cond_true,cond_false] at hok ⊢
  rw [Q7 hb,Option.bind_some]
  cases ht:WX b.fThings r.fNum with
  | none=>rfl
  | some o=>
   rw [ht] at hok
   simp only [Bool.not_true,cond_false] at hok ⊢
   have h5:=(hok trivial).2.2.2.1
   have key:∀ (j i m:Nat),i+j=b.fThings.length→Nh (m+j+1) (.c0 (RV r).1 (i:Int) b r ⟨#[]⟩ 0 0 ⟨#[]⟩ 0 b.fWord b.fTries b.fLast b.fChain b.fCount ((b.fThings.take i).filter (fun t=>t.fId != r.fNum)) [] b.fThings)=some (⟨b.fWord,b.fTries,without b.fThings r.fNum,b.fLast,IY (b.fChain++(RV r).1),b.fCount+1⟩,true):=by
    intro j
    induction j with
    | zero=>
     intro i m hi
     obtain rfl:i=b.fThings.length:=by omega
     have hf1:(without b.fThings r.fNum).length≤b.fThings.length:=List.length_filter_le ..
     rw [List.take_length,show b.fThings.filter (fun t=>t.fId != r.fNum)=without b.fThings r.fNum from rfl,Nh]
     simp only [Xl,hdig,hsz,hw,Option.bind_some,cond_true]
     rw [SN (by simp),Oe (by simp only;omega),Option.bind_some,h5];rfl
    | succ j ih=>
     intro i m hi
     have hil:i<b.fThings.length:=by omega
     have e:w64 ((i:Int)+1)=((i+1:Nat):Int):=by rw [w64_id (by omega) (by omega)];rfl
     have h6:=ih (i+1) m (by omega)
     rw [Vw hil] at h6
     have hf2:((b.fThings.take i).filter (fun t=>t.fId != r.fNum)).length≤i:=Nat.le_trans (List.length_filter_le ..) (by simp;omega)
     rw [show m+(j+1)+1=(m+j+1)+1 by omega,Nh]
     simp only [Xl,e,Int.toNat_natCast,getD_at hil]
     rw [TB (by simp;omega),TB (by simp;omega)]
     cases h7:(b.fThings[i].fId != r.fNum)
     ·rw [h7] at h6
      rw [cond_false,←h6];simp
     ·rw [h7] at h6
      rw [cond_true,TB (by simp;omega),TB (by simp only [decide_eq_true_eq];omega),←h6];simp
   obtain ⟨m,hm⟩:∃ m,gas=m+b.fThings.length+1:=⟨gas - (b.fThings.length+1),by have:=gas_lt (n:=b.fThings.length+1) (by omega);omega⟩
   have h0:=key b.fThings.length 0 m (by omega)
   rw [List.take_zero,List.filter_nil] at h0
   rw [hm]
   exact h0
def LY (b:SBook):List SRec→SBook×Bool
 | []=>(b,true)
 | r::rs=>bif (QX b r).2 then LY (QX b r).1 rs else (Yj,false)
theorem Eo {b:SBook} {r:SRec} (h:(QX b r).2=true):(QX b r).1.fThings.length≤8:=(OZ.1 (Uw h).2.2.2.1).2.2.2.1
theorem GAH {rs:List SRec}:∀ {b:SBook},EY b=true→(LY b rs).2=true→EY (LY b rs).1=true:=by
 induction rs with
 | nil=>intro b h _;exact h
 | cons r rs ih=>
  intro b h h2
  rw [LY] at h2 ⊢
  cases h3:(QX b r).2
  ·rw [h3] at h2;cases h2
  ·rw [h3,cond_true] at h2
   rw [cond_true]
   exact ih (Uw h3).2.2.2.1 h2
theorem A8 {b:SBook} {l:List SRec} (hb:b.fThings.length≤2932031007317) (hl:l.length≤140737488351232):Qh b l=some (LY b l):=by
 have key:∀ (j i m:Nat) (b:SBook),i+j=l.length→b.fThings.length≤2932031007317→Ph (m+j+1) (.c0 l (i:Int) ⟨#[]⟩ 0 0 ⟨#[]⟩ 0 b.fWord b.fTries b.fLast b.fChain b.fCount [] b.fThings)=some (LY b (l.drop i)):=by
  intro j
  induction j with
  | zero=>
   intro i m b h hb
   obtain rfl:i=l.length:=by omega
   rw [Ph]
   simp only [Yl]
   rw [SN (by simp),List.drop_length];rfl
  | succ j ih=>
   intro i m b h hb
   have hi:i<l.length:=by omega
   have e:w64 ((i:Int)+1)=((i+1:Nat):Int):=by rw [w64_id (by omega) (by omega)];rfl
   rw [show m+(j+1)+1=(m+j+1)+1 by omega,Ph]
   simp only [Yl,e,Int.toNat_natCast,getD_at hi]
   rw [TB (by simp;omega),TB (by simp;omega),AAF (by show b.fThings.length≤_;omega),Option.bind_some,drop_at hi,LY]
   cases h2:(QX b l[i]).2
   ·rfl
   ·have h3:=Eo h2
    rw [SN (by rfl),cond_true]
    exact ih (i+1) m (QX b l[i]).1 (by omega) (by omega)
 obtain ⟨m,hm⟩:∃ m,gas=m+l.length+1:=⟨gas - (l.length+1),by have:=gas_lt (n:=l.length+1) (by omega);omega⟩
 rw [Qh,Yr,Y6 hb,Option.bind_some,hm]
 exact key l.length 0 m b (by omega) hb
theorem D8 {n:Nat} (h:n≤1000000000):Ub (n:Int)=some (ofBytes (List.replicate n 0)):=by
 simp only [Ub,Gs,Int.toNat_natCast]
 rw [TB (by simp;omega)]
theorem E8 {x:Int} (h:R32 x):WZ x=some (ofBytes (four x)):=by
 obtain ⟨h1,h2⟩:=h
 have e1:Int.fdiv x (2 ^ (Min.min (24:Int).toNat (IntKind.bits IntKind.u32)))=x / 16777216:=Int.fdiv_eq_ediv_of_nonneg _ (by decide)
 have e2:Int.fdiv x (2 ^ (Min.min (16:Int).toNat (IntKind.bits IntKind.u32)))=x / 65536:=Int.fdiv_eq_ediv_of_nonneg _ (by decide)
 have e3:Int.fdiv x (2 ^ (Min.min (8:Int).toNat (IntKind.bits IntKind.u32)))=x / 256:=Int.fdiv_eq_ediv_of_nonneg _ (by decide)
 simp only [WZ,Js,e1,e2,e3,w8_mod,four]
 rw [show x / 16777216 % 256=x / 16777216 by omega]
theorem BAF {n:Nat} (h:n<1099511627776):Uh (n:Int)=some (ofBytes (DZ (n:Int))):=by
 have e1:Int.fdiv (n:Int) (2 ^ (Min.min (32:Int).toNat (IntKind.bits IntKind.i64)))=(n:Int) / 4294967296:=Int.fdiv_eq_ediv_of_nonneg _ (by decide)
 simp only [Uh,Qs,e1,E8 (DY _),Option.bind_some]
 rw [TB (by rw [ofBytes_size,ofBytes_size];simp [four])]
 congr 1
 apply Ic
 rw [He,QY (Un (DY _)),QY (Un (DY _)),QY (fun x hx=>by
  simp only [DZ,List.mem_cons,List.not_mem_nil,or_false] at hx
  omega)]
 simp only [four,DZ,Cc,List.cons_append,List.nil_append,List.cons.injEq,and_true]
 omega
theorem CAF {n:Nat} (h:n≤100000000000):Vh (n:Int)=some (ofBytes (CV n)):=by
 have e1:(w64 (119 - ((n:Int).tmod 64))).tmod 64=(((119 - n % 64) % 64:Nat):Int):=by
  have a:(n:Int).tmod 64=(n:Int) % 64:=Int.tmod_eq_emod_of_nonneg (by omega)
  rw [a,w64_id (by omega) (by omega),Int.tmod_eq_emod_of_nonneg (by omega)]
  omega
 have e2:w64 (8*(n:Int))=((8*n:Nat):Int):=by rw [w64_id (by omega) (by omega)];omega
 have h0:(⟨#[128]⟩:ByteArray).size=1:=rfl
 simp only [Vh,Vs,e1,e2,D8 (n:=(119 - n % 64) % 64) (by omega),BAF (n:=8*n) (by omega),Option.bind_some]
 rw [TB (by rw [ofBytes_size];simp [h0];omega),TB (by rw [ByteArray.size_append,ofBytes_size,ofBytes_size];simp [h0,DZ];omega)]
 congr 1
 apply Ic
 have hb:GY (List.replicate ((119 - n % 64) % 64) (0:Int)):=fun x hx=>by
  have:=List.eq_of_mem_replicate hx;omega
 have hb2:GY (DZ ((8*n:Nat):Int)):=fun x hx=>by
  simp only [DZ,List.mem_cons,List.not_mem_nil,or_false] at hx
  omega
 rw [He,He,QY hb,QY hb2,QY (Ew n),CV]
 have e3:bs (⟨#[128]⟩:ByteArray)=[128]:=rfl
 rw [e3]
 simp
theorem DAF {x:Int} (h:R32 x) (n:Nat) (hn:0<n) (hn2:n<32) (k:Int) (hk:wu64 (((BitVec.toNat ((BitVec.ofInt (IntKind.bits IntKind.u64) (wu64 k)) &&& (BitVec.ofInt (IntKind.bits IntKind.u64) (31:Int)))):Nat):Int)=((32 - n:Nat):Int))
  (hk2:wu64 (32 - ((32 - n:Nat):Int))=(n:Int)):Wh x k=some (rt (2 ^ n) (2 ^ (32 - n)) x):=by
 have e1:Min.min ((32 - n:Nat):Int).toNat (IntKind.bits IntKind.u32)=32 - n:=by
  show Min.min ((32 - n:Nat):Int).toNat 32=_
  omega
 have e2:Min.min (n:Int).toNat (IntKind.bits IntKind.u32)=n:=by
  show Min.min (n:Int).toNat 32=_
  omega
 have e3:Int.fdiv x (2 ^ n)=x / 2 ^ n:=Int.fdiv_eq_ediv_of_nonneg _ (Int.le_of_lt (Int.pow_pos (by omega)))
 simp only [Wh,Dt,hk,hk2,e1,e2,e3]
 rw [show decide ((0:Int)≤(n:Int))=true from decide_eq_true (by omega)]
 simp only [cond_true,G5]
 rw [VAC h n hn hn2]
theorem PZ {x:Int} (h:R32 x) (n:Nat) (hn:0<n) (hn2:n<32) (hk:wu64 (((BitVec.toNat ((BitVec.ofInt (IntKind.bits IntKind.u64) (wu64 (w64 (0 - (n:Int))))) &&& (BitVec.ofInt (IntKind.bits IntKind.u64) (31:Int)))):Nat):Int)=((32 - n:Nat):Int))
  (hk2:wu64 (32 - ((32 - n:Nat):Int))=(n:Int)):RX x (n:Int)=some (rt (2 ^ n) (2 ^ (32 - n)) x):=by
 simp only [RX,Et,DAF h n hn hn2 _ hk hk2,Option.bind_some]
theorem EAF {x:Int} (h:R32 x):RX x 2=some (rt 4 1073741824 x):=PZ h 2 (by decide) (by decide) (by decide) (by decide)
theorem FAF {x:Int} (h:R32 x):RX x 13=some (rt 8192 524288 x):=PZ h 13 (by decide) (by decide) (by decide) (by decide)
theorem GAF {x:Int} (h:R32 x):RX x 22=some (rt 4194304 1024 x):=PZ h 22 (by decide) (by decide) (by decide) (by decide)
theorem HAF {x:Int} (h:R32 x):RX x 6=some (rt 64 67108864 x):=PZ h 6 (by decide) (by decide) (by decide) (by decide)
theorem IAF {x:Int} (h:R32 x):RX x 11=some (rt 2048 2097152 x):=PZ h 11 (by decide) (by decide) (by decide) (by decide)
theorem JAF {x:Int} (h:R32 x):RX x 25=some (rt 33554432 128 x):=PZ h 25 (by decide) (by decide) (by decide) (by decide)
theorem KAF {x:Int} (h:R32 x):RX x 7=some (rt 128 33554432 x):=PZ h 7 (by decide) (by decide) (by decide) (by decide)
theorem LAF {x:Int} (h:R32 x):RX x 18=some (rt 262144 16384 x):=PZ h 18 (by decide) (by decide) (by decide) (by decide)
theorem MAF {x:Int} (h:R32 x):RX x 17=some (rt 131072 32768 x):=PZ h 17 (by decide) (by decide) (by decide) (by decide)
theorem NAF {x:Int} (h:R32 x):RX x 19=some (rt 524288 8192 x):=PZ h 19 (by decide) (by decide) (by decide) (by decide)
theorem OAF {a b:Int} (ha:0≤a∧a<16777216) (hb:0≤b∧b≤255):Sj (w32 (a*256)) (w32 b)=a*256+b:=by
 obtain ⟨x,rfl⟩:∃ x:Nat,a=(x:Int):=⟨a.toNat,by omega⟩
 obtain ⟨y,rfl⟩:∃ y:Nat,b=(y:Int):=⟨b.toNat,by omega⟩
 rw [BZ (by omega) (by omega),BZ (by omega) (by omega)]
 have:=I5 (a:=x) (b:=y) (s:=8) (by omega) (by omega) (by omega)
 have e:((x*2 ^ 8:Nat):Int)=(x:Int)*256:=by omega
 rw [Int.natCast_add,e] at this
 exact this
def SY (l:List Int) (i:Nat):Nat→Int
 | 0=>0
 | k+1=>SY l i k*256+l.getD (4*i+k) 0
theorem PAF (l:List Int) (i:Nat):SY l i 4=wordAt l i:=by
 simp only [SY,wordAt,be4,Nat.add_zero]
 omega
theorem QAF {l:List Int} (h:GY l) (i:Nat):∀ k,k<4→0≤SY l i k∧SY l i k<16777216
 | 0,_=>by simp [SY]
 | 1,_=>by have:=HY h (4*i+0);simp only [SY];omega
 | 2,_=>by have:=HY h (4*i+0);have:=HY h (4*i+1);simp only [SY];omega
 | 3,_=>by have:=HY h (4*i+0);have:=HY h (4*i+1);have:=HY h (4*i+2);simp only [SY];omega
theorem RAF {b:ByteArray} (hb:b.size=64) (v:List Int) (i:Nat) (hi:i<16):∀ (j k m:Nat),k+j=4→
  PY (m+j+1) (.c1 b (i:Int) (i:Int) (k:Int) v (TT (bs b) i++SY (bs b) i k::List.replicate (63 - i) 0))=PY m (.c0 b ((i+1:Nat):Int) v (TT (bs b) (i+1)++List.replicate (63 - i) 0)):=by
 have hby:=Je b
 intro j
 induction j with
 | zero=>
  intro k m h
  obtain rfl:k=4:=by omega
  have e:w64 ((i:Int)+1)=((i+1:Nat):Int):=by rw [w64_id (by omega) (by omega)];rfl
  rw [PY]
  simp only [La,e]
  rw [SN (by simp),PAF,X5]
  simp
 | succ j ih=>
  intro k m h
  have hk:k<4:=by omega
  have hlen:(TT (bs b) i++SY (bs b) i k::List.replicate (63 - i) 0).length=64:=by
   simp only [List.length_append,List.length_cons,List.length_replicate,Ba];omega
  have e:w64 ((k:Int)+1)=((k+1:Nat):Int):=by rw [w64_id (by omega) (by omega)];rfl
  have e4:w64 (4*(i:Int))=((4*i:Nat):Int):=by rw [w64_id (by omega) (by omega)];omega
  have e5:w64 (((4*i:Nat):Int)+(k:Int))=((4*i+k:Nat):Int):=by rw [w64_id (by omega) (by omega)];omega
  have e8:(2:Int) ^ (Min.min (8:Int).toNat (IntKind.bits IntKind.u32))=256:=by decide
  have hg:(TT (bs b) i++SY (bs b) i k::List.replicate (63 - i) 0).getD i 0=SY (bs b) i k:=by
   rw [O5 (by rw [Ba];omega),Ba,Nat.sub_self];rfl
  rw [show m+(j+1)+1=(m+j+1)+1 by omega,PY]
  simp only [La,e,e4,e5,e8,Int.toNat_natCast,hlen,hg,G5]
  rw [TB (by simp;omega),TB (by rfl),TB (by simp;omega),TB (by simp;omega),TB (by rfl),TB (by simp;omega)]
  rw [Ie (by omega),OAF (QAF hby i k hk) (HY hby _),Rn (Ba _ i)]
  exact ih (k+1) m (by omega)
theorem SAF {b:ByteArray} (hb:b.size=64) (v:List Int):∀ (j i m:Nat),i+j=16→PY (m+6*j+1) (.c0 b (i:Int) v (TT (bs b) i++List.replicate (64 - i) 0))=PY m (.c2 16 v (TT (bs b) 16++List.replicate 48 0)):=by
 intro j
 induction j with
 | zero=>
  intro i m h
  obtain rfl:i=16:=by omega
  rw [PY]
  simp only [La]
  rw [SN (by simp)]
 | succ j ih=>
  intro i m h
  rw [show m+6*(j+1)+1=(m+6*j+1)+4+1+1 by omega,PY]
  simp only [La]
  rw [TB (by simp;omega)]
  have h1:=RAF hb v i (by omega) 4 0 (m+6*j+1) (by omega)
  rw [show 64 - i=(63 - i)+1 by omega,List.replicate_succ]
  have h2:=ih (i+1) m (by omega)
  rw [show 64 - (i+1)=63 - i by omega] at h2
  exact h1.trans h2
theorem TAF {w v:List Int} (hw:∀ x ∈ w,R32 x) (hwl:w.length=16) (hv:v.length=64):∀ (j i m:Nat),i+j=48→PY (m+j+1) (.c2 ((16+i:Nat):Int) v (sched w i++List.replicate (48 - i) 0))=some (sched w 48):=by
 intro j
 induction j with
 | zero=>
  intro i m h
  obtain rfl:i=48:=by omega
  have hl:=Tj hwl 48
  rw [PY]
  simp only [La,Nat.sub_self,List.replicate_zero,List.append_nil,hl,hv]
  rfl
 | succ j ih=>
  intro i m h
  have hl:=Tj hwl i
  have hr:=Tn hw i
  have hlen:(sched w i++List.replicate (48 - i) 0).length=64:=by
   simp only [List.length_append,List.length_replicate,hl];omega
  have e2:w64 (((16+i:Nat):Int) - 2)=((16+i - 2:Nat):Int):=by rw [w64_id (by omega) (by omega)];omega
  have e7:w64 (((16+i:Nat):Int) - 7)=((16+i - 7:Nat):Int):=by rw [w64_id (by omega) (by omega)];omega
  have e15:w64 (((16+i:Nat):Int) - 15)=((16+i - 15:Nat):Int):=by rw [w64_id (by omega) (by omega)];omega
  have e16:w64 (((16+i:Nat):Int) - 16)=((16+i - 16:Nat):Int):=by rw [w64_id (by omega) (by omega)];omega
  have e1:w64 (((16+i:Nat):Int)+1)=((16+(i+1):Nat):Int):=by rw [w64_id (by omega) (by omega)];omega
  have g2:(sched w i++List.replicate (48 - i) 0).getD (16+i - 2) 0=(sched w i).getD (16+i - 2) 0:=Qn (by omega) 0
  have g7:(sched w i++List.replicate (48 - i) 0).getD (16+i - 7) 0=(sched w i).getD (16+i - 7) 0:=Qn (by omega) 0
  have g15:(sched w i++List.replicate (48 - i) 0).getD (16+i - 15) 0=(sched w i).getD (16+i - 15) 0:=Qn (by omega) 0
  have g16:(sched w i++List.replicate (48 - i) 0).getD (16+i - 16) 0=(sched w i).getD (16+i - 16) 0:=Qn (by omega) 0
  have f10:∀ x:Int,Int.fdiv x (2 ^ (Min.min (10:Int).toNat (IntKind.bits IntKind.u32)))=x / 1024:=fun x=>Int.fdiv_eq_ediv_of_nonneg _ (by decide)
  have f3:∀ x:Int,Int.fdiv x (2 ^ (Min.min (3:Int).toNat (IntKind.bits IntKind.u32)))=x / 8:=fun x=>Int.fdiv_eq_ediv_of_nonneg _ (by decide)
  have r15:=Uj hr (16+i - 15)
  have r2:=Uj hr (16+i - 2)
  rw [show m+(j+1)+1=(m+j+1)+1 by omega,PY]
  simp only [La,e1,e2,e7,e15,e16,Int.toNat_natCast,hlen,g2,g7,g15,g16,KAF r15,LAF r15,MAF r2,NAF r2,Option.bind_some,f10,f3,Dc]
  rw [TB (by simp;omega),TB (by rfl),TB (by simp;omega),TB (by rfl),TB (by simp;omega),TB (by rfl),TB (by simp;omega),TB (by rfl),TB (by simp;omega),TB (by rfl),TB (by simp;omega)]
  rw [show 48 - i=(48 - (i+1))+1 by omega,List.replicate_succ,Rn (by omega)]
  have h2:=ih (i+1) m (by omega)
  rw [sched,List.append_assoc] at h2
  exact h2
theorem UAF {b:ByteArray} (hb:b.size=64):Vb b=some (sched (TT (bs b) 16) 48):=by
 obtain ⟨m,hm⟩:∃ m,gas=(m+48+1)+6*16+1:=⟨gas - 146,by have:=gas_lt (n:=146) (by omega);omega⟩
 rw [Vb,Gt,hm]
 have h0:=SAF hb (List.replicate 64 0) 16 0 (m+48+1) (by omega)
 have h2:=TAF (w:=TT (bs b) 16) (v:=List.replicate 64 0) (Aw (Je b) 16) (Ba _ 16) (List.length_replicate ..) 48 0 m (by omega)
 rw [show TT (bs b) 0++List.replicate (64 - 0) 0=List.replicate 64 (0:Int) from rfl,show ((0:Nat):Int)=0 from rfl] at h0
 rw [show ((16+0:Nat):Int)=16 from rfl,show sched (TT (bs b) 16) 0=TT (bs b) 16 from rfl,show 48 - 0=48 from rfl] at h2
 rw [h0,h2]
theorem VAF (s r v:List Int) (hs:s.length=8) (hv:v.length=8) (f:Nat→Int) (hf:∀ i,i<8→f i=w32 (r.getD i 0+s.getD i 0)) (hr:r.length=8):∀ (j i m:Nat),i+j=8→AZ (m+j+1) (.c1 (i:Int) s v ((List.range i).map f++r.drop i))=some ((List.range 8).map f):=by
 intro j
 induction j with
 | zero=>
  intro i m h
  obtain rfl:i=8:=by omega
  rw [AZ]
  simp only [Xd]
  rw [SN (by simp),List.drop_of_length_le (by omega),List.append_nil,TB (by simp),TB (by simp [hv]),TB (by simp)]
 | succ j ih=>
  intro i m h
  have e:w64 ((i:Int)+1)=((i+1:Nat):Int):=by rw [w64_id (by omega) (by omega)];rfl
  have hl:((List.range i).map f++r.drop i).length=8:=by simp [hr];omega
  have hm:((List.range i).map f).length=i:=by simp
  have hg:((List.range i).map f++r.drop i).getD i 0=r.getD i 0:=by
   rw [O5 (by omega),hm,Nat.sub_self]
   simp [List.getD]
  rw [show m+(j+1)+1=(m+j+1)+1 by omega,AZ]
  simp only [Xd,e,Int.toNat_natCast,hl,hs,hg]
  rw [TB (by simp;omega),TB (by rfl),TB (by simp;omega),TB (by rfl),TB (by simp;omega),TB (by rfl),TB (by simp;omega)]
  rw [drop_at (by omega:i<r.length),Rn hm,←hf i (by omega)]
  have h2:=ih (i+1) m (by omega)
  rw [List.range_succ,List.map_append,List.append_assoc] at h2
  exact h2
theorem WAF (s v W:List Int) (hW:∀ x ∈ W,R32 x) (hWl:W.length=64) (r:Reg) (hr:r.ok) (i m:Nat) (hi:i<64) :
  AZ (m+1) (.c0 r.a r.b r.c r.d r.e r.f r.g r.h (i:Int) s v W)=AZ m (.c0 (CZ r (keysL.getD i 0) (W.getD i 0)).a (CZ r (keysL.getD i 0) (W.getD i 0)).b (CZ r (keysL.getD i 0) (W.getD i 0)).c (CZ r (keysL.getD i 0) (W.getD i 0)).d (CZ r (keysL.getD i 0) (W.getD i 0)).e (CZ r (keysL.getD i 0) (W.getD i 0)).f (CZ r (keysL.getD i 0) (W.getD i 0)).g (CZ r (keysL.getD i 0) (W.getD i 0)).h ((i+1:Nat):Int) s v W):=by
 obtain ⟨h1,h2,h3,h4,h5,h6,h7,h8⟩:=hr
 have e:w64 ((i:Int)+1)=((i+1:Nat):Int):=by rw [w64_id (by omega) (by omega)];rfl
 rw [AZ]
 simp only [Xd,e,Int.toNat_natCast,hWl,HAF h5,IAF h5,JAF h5,EAF h1,FAF h1,GAF h1,Option.bind_some,Dc,F5,SAC h5]
 rw [TB (by simp;omega),TB (by simp;omega),TB (by rw [Nat.blt_eq];omega),TB (by rfl),TB (by simp;omega)]
 rfl
theorem XAF (s v W:List Int) (hW:∀ x ∈ W,R32 x) (hWl:W.length=64) (r:Reg) (hr:r.ok):∀ (j i m:Nat),i+j=64→
  AZ (m+j+1) (.c0 (SX keysL W r i).a (SX keysL W r i).b (SX keysL W r i).c (SX keysL W r i).d (SX keysL W r i).e (SX keysL W r i).f (SX keysL W r i).g (SX keysL W r i).h (i:Int) s v W)=AZ m (.c1 0 s v (SX keysL W r 64).l):=by
 intro j
 induction j with
 | zero=>
  intro i m h
  obtain rfl:i=64:=by omega
  rw [AZ]
  simp only [Xd]
  rw [SN (by simp)]
  rfl
 | succ j ih=>
  intro i m h
  rw [show m+(j+1)+1=(m+j+1)+1 by omega,WAF s v W hW hWl _ (V5 keysL W hr i) i _ (by omega)]
  exact ih (i+1) m (by omega)
theorem YAF {s:Reg} (hs:s.ok) {b:ByteArray} (hb:b.size=64):Xb s.l b=some (comp s (bs b)).l:=by
 obtain ⟨m,hm⟩:∃ m,gas=(m+8+1)+64+1:=⟨gas - 74,by have:=gas_lt (n:=74) (by omega);omega⟩
 have hr:=Tn (Aw (Je b) 16) 48
 have hl:=Tj (Ba (bs b) 16) 48
 have hsl:s.l.length=8:=rfl
 have z0:(0:Int).toNat=0:=rfl
 have z1:(1:Int).toNat=1:=rfl
 have z2:(2:Int).toNat=2:=rfl
 have z3:(3:Int).toNat=3:=rfl
 have z4:(4:Int).toNat=4:=rfl
 have z5:(5:Int).toNat=5:=rfl
 have z6:(6:Int).toNat=6:=rfl
 have z7:(7:Int).toNat=7:=rfl
 rw [Xb,Ht,UAF hb,Option.bind_some,hm]
 simp only [hl,hsl,List.length_replicate,z0,z1,z2,z3,z4,z5,z6,z7]
 rw [TB (by rfl),TB (by rfl),TB (by rfl),TB (by rfl),TB (by rfl),TB (by rfl),TB (by rfl),TB (by rfl),TB (by rfl),TB (by rfl),TB (by rfl),TB (by rfl),TB (by rfl),TB (by rfl),TB (by rfl),TB (by rfl),TB (by rfl)]
 have h0:=XAF s.l [0,0,0,0,0,0,0,0] _ hr hl s hs 64 0 (m+8+1) (by omega)
 rw [show ((0:Nat):Int)=0 from rfl] at h0
 have hf:∀ i,i<8→(fun i=>w32 ((SX keysL (sched (TT (bs b) 16) 48) s 64).l.getD i 0+s.l.getD i 0)) i=w32 ((SX keysL (sched (TT (bs b) 16) 48) s 64).l.getD i 0+s.l.getD i 0):=fun _ _=>rfl
 have h1:=VAF s.l (SX keysL (sched (TT (bs b) 16) 48) s 64).l [0,0,0,0,0,0,0,0] rfl rfl _ hf rfl 8 0 m (by omega)
 rw [show ((0:Nat):Int)=0 from rfl,List.range_zero,List.map_nil,List.nil_append,List.drop_zero] at h1
 have e:(List.range 8).map (fun i=>w32 ((SX keysL (sched (TT (bs b) 16) 48) s 64).l.getD i 0+s.l.getD i 0))=(comp s (bs b)).l:=by
  apply List.ext_getElem
  ·rw [Reg.Vj,List.length_map,List.length_range]
  ·intro i h1 h2
   have hi:i<8:=by simpa using h1
   rw [List.getElem_map,List.getElem_range,←getD_at h2 0]
   rw [comp,J6 _ _ i hi,Int.add_comm]
 rw [e] at h1
 exact h0.trans h1
theorem ZAF {s:Reg} (hs:s.ok) {t:ByteArray} (ht:t.size≤1000000000000):Ci s.l t=some ((comps (t.size / 64) s (bs t)).l,t.extract (64*(t.size / 64)) t.size):=by
 have key:∀ (j:Nat) (s:Reg) (t:ByteArray) (m:Nat),s.ok→t.size / 64=j→t.size≤1000000000000→Ai (m+j+1) (.c0 t s.l [0,0,0,0,0,0,0,0])=some ((comps j s (bs t)).l,t.extract (64*j) t.size):=by
  intro j
  induction j with
  | zero=>
   intro s t m hs hj ht
   rw [Ai]
   simp only [Lm,Reg.Vj]
   rw [SN (by simp;omega),TB (by rfl),TB (by rfl),TB (by rfl)]
   congr 2
   apply Ic
   rw [Jc,List.take_of_length_le (by rw [bs_len];omega)]
   rfl
  | succ j ih=>
   intro s t m hs hj ht
   have h64:(64:Int).toNat=64:=rfl
   have e1:bs (t.extract 0 64)=(bs t).take 64:=by rw [Jc];rfl
   have e2:bs (t.extract 64 t.size)=(bs t).drop 64:=by rw [Jc,List.take_of_length_le (by rw [bs_len];omega)]
   rw [show m+(j+1)+1=(m+j+1)+1 by omega,Ai]
   simp only [Lm,h64,Reg.Vj]
   rw [TB (by simp;omega),TB (by rfl),TB (by simp;omega)]
   rw [YAF hs (b:=t.extract 0 64) (by simp;omega),Option.bind_some]
   rw [Reg.Vj]
   rw [TB (by rfl)]
   rw [TB (by simp;omega)]
   rw [ih (comp s (bs (t.extract 0 64))) (t.extract 64 t.size) m (Y5 _ _) (by simp;omega) (by simp;omega),e1,e2]
   have e3:(t.extract 64 t.size).extract (64*j) (t.extract 64 t.size).size=t.extract (64*(j+1)) t.size:=by
    apply Ic
    rw [Jc,e2,Jc,List.take_of_length_le (by simp [bs_len]),List.take_of_length_le (by rw [bs_len];omega),List.drop_drop]
    congr 1
    omega
   rw [e3,comps]
 obtain ⟨m,hm⟩:∃ m,gas=m+t.size / 64+1:=⟨gas - (t.size / 64+1),by have:=gas_lt (n:=t.size / 64+1) (by omega);omega⟩
 rw [Ci,Kt,hm]
 exact key _ s t m hs rfl ht
theorem AAG {r:Reg} (hr:r.ok):Gi r.l=some (ofBytes (FN r.l)):=by
 have hl:r.l.length=8:=rfl
 have hrl:=Reg.Nc hr
 have hby:∀ i,GY (FN (r.l.take i)):=fun i=>Dw (fun x hx=>hrl x (List.mem_of_mem_take hx))
 have key:=loopN (A:=Unit) (n:=8) (Lp:=Ei) (st:=fun i _=>.c0 (ofBytes (FN (r.l.take i))) r.l (i:Int)) (Inv:=fun _ _=>True) (out:=fun _ _=>some (ofBytes (FN r.l)))
  (fun m _ _=>by
   rw [Ei]
   simp only [Om]
   rw [SN (by simp)]
   rfl)
  (fun m i _ hi _=>.inr ⟨(),by
   have e:w64 ((i:Int)+1)=((i+1:Nat):Int):=by rw [w64_id (by omega) (by omega)];rfl
   have hg:r.l.getD i 0=r.l[i]'(by omega):=getD_at (by omega) 0
   have hx:R32 (r.l.getD i 0):=Uj hrl i
   rw [Ei]
   simp only [Om,e,Int.toNat_natCast,E8 hx,Option.bind_some,hl]
   rw [TB (by simp;omega),TB (by rfl),TB (by simp;omega),TB (by rw [ofBytes_size,ofBytes_size,Me];simp [four];omega)]
   congr 2
   apply Ic
   rw [He,QY (hby i),QY (hby (i+1)),QY (Un hx),take_at (by omega),D6,hg]
   simp [FN],trivial,rfl⟩)
 rw [Gi,Rt,hl,TB (by rfl)]
 exact key gas 0 () (Nat.zero_le _) (gas_lt (by omega)) trivial
theorem BAG:Am=some RY.l:=rfl
theorem F8 {s:ByteArray} (hs:s.size≤1000000000):Yb s=some (IY s):=by
 have h1:=Wn s.size
 have hsz:(s++ofBytes (CV s.size)).size=s.size+(CV s.size).length:=by rw [ByteArray.size_append,ofBytes_size]
 rw [Yb,Tt,BAG,Option.bind_some,CAF (n:=s.size) (by omega),Option.bind_some,TB (by rw [ofBytes_size];simp;omega),ZAF Oa (by omega),Option.bind_some]
 simp only [Reg.Vj]
 rw [TB (by rfl),TB (by rfl),AAG (Mc Oa _ _),Option.bind_some,hsz,He,QY (Ew _),IY,Oc,bs_len]
theorem CAG:Ii=some Wj:=by
 rw [Ii,Vt,F8 (by decide),Option.bind_some,show (32:Int)=((32:Nat):Int) from rfl,D8 (by omega),Option.bind_some];rfl
theorem G8 {b:SBook} (h:b.fThings.length≤2932031007317):XZ b=some b:=by
 rw [XZ,Xt,TB (by simp;omega)]
theorem Ho {n:Int} (h:n≤9223372036854775807):Na n=some (ofBytes (NM n)):=by
 have key:∀ (n:Int) (m:Nat) (out:List Int),n≤9223372036854775807→(NM n).length≤m→out.length+(NM n).length≤1000→Ri m (.c0 n out)=some (ofBytes (out++NM n)):=by
  intro n
  induction n using NM.induct with
  | case1 n hn ih=>
   intro m out h1 h2 h3
   rw [NM,if_pos hn] at h2 h3 ⊢
   simp only [List.length_cons] at h2 h3
   obtain ⟨m,rfl⟩:∃ k,m=k+1:=⟨m - 1,by omega⟩
   obtain ⟨e1,_,e2⟩:=D7 hn h1
   simp only [Ri,Qm,e1,e2]
   rw [show decide (n > 127)=true from decide_eq_true hn,show decide ((out.length+1)*1≤140737488355328)=true from decide_eq_true (by omega)]
   simp only [cond_true]
   rw [ih m _ (by omega) (by omega) (by simp;omega)]
   simp
  | case2 n hn=>
   intro m out h1 h2 h3
   rw [NM,if_neg hn] at h2 h3 ⊢
   simp at h2 h3
   obtain ⟨m,rfl⟩:∃ k,m=k+1:=⟨m - 1,by omega⟩
   simp only [Ri,Qm]
   rw [show decide (n > 127)=false from decide_eq_false hn,show decide ((out.length+1)*1≤140737488355328)=true from decide_eq_true (by omega)]
   rfl
 have hl:=MZ h
 exact key n gas [] h (Nat.le_of_lt (gas_lt (by omega))) (by simp;omega)
theorem Xw (x a b:Int):JZ x a b=some (IK x a b):=by
 show (bif decide (a≤x) then some (decide (x≤b)) else some false)=some (IK x a b)
 unfold IK;cases decide (a≤x) <;> rfl
theorem H8 (x:SThing):YZ x=some (PX x):=by
 simp only [YZ,Eu,Xw,Option.bind_some,PX,bne]
 by_cases k1:x.fKind=1
 ·rw [k1]
  cases IK x.fId 1 1000 <;> cases IK x.fNext 0 16 <;> cases (x.fNext == 0) <;> cases x.fSigns <;> cases x.fWraps <;> simp [IK]
 ·by_cases k2:x.fKind=2
  ·rw [k2]
   cases IK x.fId 1 1000 <;> cases IK x.fNext 0 16 <;> cases (x.fNext == 0) <;> cases x.fSigns <;> cases x.fWraps <;> simp [IK]
  ·by_cases k3:x.fKind=3
   ·rw [k3]
    cases IK x.fId 1 1000 <;> cases IK x.fNext 0 16 <;> cases (x.fNext == 0) <;> cases x.fSigns <;> cases x.fWraps <;> simp [IK]
   ·have hr:IK x.fKind 1 3=false:=by
     cases h:IK x.fKind 1 3
     ·rfl
     ·rw [VY] at h;omega
    have e1:(x.fKind == 1)=false:=by simpa using k1
    have e2:(x.fKind == 2)=false:=by simpa using k2
    have e3:(x.fKind == 3)=false:=by simpa using k3
    rw [hr,e1,e2,e3]
    cases IK x.fId 1 1000 <;> cases IK x.fNext 0 16 <;> cases (x.fNext == 0) <;> cases x.fSigns <;> cases x.fWraps <;> rfl
theorem Ue {n:Int} (h:0≤n) (h2:n≤255):Zb n=some (ofBytes [n]):=by
 simp only [Zb,Hu,w8_id h h2]
theorem EAG {s:ByteArray} (h:s.size≤140737488351232):Wi s=some (NZ s):=by
 simp only [Wi,Nu,Ho (n:=(s.size:Int)) (by omega),Option.bind_some]
 have:=MZ (n:=(s.size:Int)) (by omega)
 rw [show decide ((ofBytes (NM (s.size:Int))).size+s.size≤9223372036854775807)=true from decide_eq_true (by rw [ofBytes_size];omega)]
 rfl
theorem FAG (x:SThing):Xi x=some (JY x):=by
 simp only [Xi,Qu,H8,Option.bind_some,JY]
 cases h:PX x
 ·rfl
 ·obtain ⟨k1,k2,k3,k4,k5,k6,k7⟩:=Tc h
  obtain ⟨z1,z2,z3⟩:=Iw h
  have hf:=H7 x
  have e1:∀ n:Int,(ofBytes [n]).size=1:=fun n=>ofBytes_size _
  simp only [PAE,Option.bind_some,Ho (n:=x.fId) (by omega),Ue (n:=x.fKind) (by omega) (by omega),Ue hf.1 (by omega),EAG (s:=x.fValue) (by omega),Ho (n:=x.fNext) (by omega),ba_append_size,e1]
  simp only [Bool.not_true,cond_false,cond_true]
  rw [show decide ((ofBytes (NM x.fId)).size+1≤9223372036854775807)=true from decide_eq_true (by omega),show decide ((ofBytes (NM x.fId)).size+1+1≤9223372036854775807)=true from decide_eq_true (by omega),
   show decide ((ofBytes (NM x.fId)).size+1+1+(NZ x.fValue).size≤9223372036854775807)=true from decide_eq_true (by omega),show decide ((ofBytes (NM x.fId)).size+1+1+(NZ x.fValue).size+(ofBytes (NM x.fNext)).size≤9223372036854775807)=true from decide_eq_true (by omega)]
  rfl
theorem GAG {r:SRec} (g:r.fNum≤9223372036854775807):Yi r=some (RV r):=by
 simp only [Yi,Uu,Xw,FAG,Ho g,Option.bind_some,J7]
 simp only [N7,RV]
 cases k1:r.fKind == 1
 ·simp only [cond_false]
  cases k2:r.fKind == 2
  ·simp only [cond_false]
   cases k3:r.fKind == 3
   ·simp only [cond_false]
    cases k4:r.fKind == 4
    ·rfl
    ·have k:r.fKind=4:=by simpa using k4
     rw [k]
     simp only [beq_self_eq_true,Ue (n:=4) (by omega) (by omega),Option.bind_some,Bool.true_and,cond_true]
     cases h:IK r.fNum 1 1000
     ·cases VX r.fText <;> cases YX r.fThing <;> rfl
     ·cases VX r.fText <;> cases YX r.fThing <;> (try rfl)
      simp only [Bool.not_true,cond_false,cond_true,Bool.and_self,decide_eq_true (Zn (by omega) h 4)]
   ·have k:r.fKind=3:=by simpa using k3
    rw [k]
    simp only [beq_self_eq_true,Ue (n:=3) (by omega) (by omega),Option.bind_some,Bool.true_and,cond_true,Bool.and_true]
    cases h:(JY r.fThing).2
    ·cases VX r.fText <;> cases r.fNum == 0 <;> rfl
    ·cases VX r.fText <;> cases r.fNum == 0 <;> (try rfl)
     simp only [Bool.not_true,cond_false,cond_true,Bool.and_self,decide_eq_true (O7 h 3)]
  ·have k:r.fKind=2:=by simpa using k2
   rw [k]
   simp only [beq_self_eq_true,Ue (n:=2) (by omega) (by omega),Option.bind_some,Bool.true_and,cond_true]
   cases h:IK r.fNum 0 3
   ·cases VX r.fText <;> cases YX r.fThing <;> rfl
   ·cases VX r.fText <;> cases YX r.fThing <;> (try rfl)
    simp only [Bool.not_true,cond_false,cond_true,Bool.and_self,decide_eq_true (Zn (by omega) h 2)]
 ·have k:r.fKind=1:=by simpa using k1
  rw [k]
  simp only [beq_self_eq_true,Ue (n:=1) (by omega) (by omega),Option.bind_some,Bool.true_and,cond_true]
  cases h:(r.fText.size:Int) == 32 <;> cases r.fNum == 0 <;> cases YX r.fThing <;> (try rfl)
  have h':r.fText.size=32:=by have:=beq_iff_eq.1 h;omega
  have e:(ofBytes [1]).size+r.fText.size≤9223372036854775807:=by rw [ofBytes_size];simp only [List.length_singleton];omega
  simp only [Bool.not_true,cond_false,cond_true,Bool.and_self,decide_eq_true e]
def Io (b:SBook):Bool:=(b.fWord.size:Int) == 32 && ((b.fChain.size:Int) == 32 && (IK b.fTries 0 3 && (decide ((b.fThings.length:Int)≤8) && (IK b.fLast 0 1000 && IK b.fCount 0 10000))))
theorem HAG {b:SBook} (hb:b.fThings.length≤140737488351232):∀ m i,i≤b.fThings.length→b.fThings.length - i<m→Zd m (.c0 b.fThings b.fThings.length i b)=some (rise b.fLast (KY b.fThings i) (b.fThings.drop i) && Io b):=fun m i h1 h2=>
 loopN (A:=Unit) (n:=b.fThings.length) (Lp:=Zd) (st:=fun i _=>.c0 b.fThings b.fThings.length i b) (Inv:=fun _ _=>True) (out:=fun i _=>some (rise b.fLast (KY b.fThings i) (b.fThings.drop i) && Io b))
  (fun m _ _=>by
   simp only [Zd,Vm,Xw,Option.bind_some,Io]
   rw [show decide ((b.fThings.length:Int)<(b.fThings.length:Int))=false from decide_eq_false (by omega),List.drop_of_length_le (Nat.le_refl _)]
   cases (b.fWord.size:Int) == 32 <;> cases (b.fChain.size:Int) == 32 <;> cases IK b.fTries 0 3 <;> cases decide ((b.fThings.length:Int)≤8) <;> cases IK b.fLast 0 1000 <;> rfl)
  (fun m i _ hi _=>by
   have hw:w64 ((i:Int)+1)=((i+1:Nat):Int):=by rw [w64_id (by omega) (by omega)];rfl
   simp only [P7 hi]
   simp only [Zd,Vm,Int.toNat_natCast,getD_at hi,H8,Option.bind_some,hw]
   rw [show decide ((i:Int)<(b.fThings.length:Int))=true from decide_eq_true (by omega),show decide ((0:Int)≤(i:Int))=true from decide_eq_true (by omega)]
   simp only [Bool.and_self,cond_true]
   cases h1:PX b.fThings[i]
   ·exact .inl rfl
   ·cases h2:decide (b.fThings[i].fId > b.fLast)
    ·by_cases h0:i=0
     ·subst h0
      refine .inr ⟨(),rfl,trivial,?_⟩
      rw [show decide (KY b.fThings 0≥b.fThings[0].fId)=false from decide_eq_false (by have:=(Tc h1).2.2.1;simp only [KY];omega)]
      rfl
     ·obtain ⟨j,rfl⟩:∃ j,i=j+1:=⟨i - 1,by omega⟩
      have hj:w64 (((j+1:Nat):Int) - 1)=(j:Int):=by rw [w64_id (by omega) (by omega)];omega
      have hjl:j<b.fThings.length:=by omega
      rw [Jw hjl]
      simp only [hj,Int.toNat_natCast,getD_at hjl,Bool.not_true,Bool.not_false,cond_false,Bool.true_and]
      rw [show decide (((j+1:Nat):Int) > 0)=true from decide_eq_true (by omega),show decide ((0:Int)≤(j:Int))=true from decide_eq_true (by omega),show decide ((j:Int)<(b.fThings.length:Int))=true from decide_eq_true (by omega)]
      simp only [Bool.and_self,cond_true]
      cases h3:decide (b.fThings[j].fId≥b.fThings[j+1].fId)
      ·exact .inr ⟨(),rfl,trivial,rfl⟩
      ·exact .inl rfl
    ·exact .inl rfl) m i () h1 h2 trivial
theorem IAG {b:SBook} (hb:b.fThings.length≤140737488351232):Aj b=some (EY b):=by
 have h0:=HAG hb gas 0 (Nat.zero_le _) (gas_lt (by omega))
 simp only [Aj,Wu]
 refine h0.trans (congrArg some ?_)
 simp only [EY,Io,List.drop_zero,KY]
 cases rise b.fLast 0 b.fThings <;> simp
theorem JAG (x y:SThing):Cj x y=some (grown x y):=by
 rw [Cj,Yu,grown,Y7,show decide (y.fNext≥x.fNext)=decide (x.fNext≤y.fNext) from rfl]
 cases (y.fKind == x.fKind) <;> cases (bs y.fValue == bs x.fValue) <;> cases y.fSigns <;> cases x.fSigns <;> cases y.fWraps <;> cases x.fWraps <;> cases decide (x.fNext≤y.fNext) <;> cases y.fHidden <;> cases x.fHidden <;> cases y.fFixed <;> cases x.fFixed <;> rfl
theorem KAG {b:SBook} {x:SThing} (hb:EY b=true) (hx:x.fId≤1000):Ej b x=some (match Yc b x with
 | some p=>(true,⟨b.fWord,b.fTries,p.1,p.2,b.fChain,b.fCount⟩)
 | none=>(false,b)):=by
 obtain ⟨b1,b2,b3,b4,b5,b6,b7⟩:=OZ.1 hb
 rw [Ej,Bv,V7 (by omega),Option.bind_some,Yc]
 rcases Rw (xs:=b.fThings) (id:=x.fId) with ⟨o,j,t1,t2,t3,t4,t5⟩ | ⟨t1,t2⟩
 ·have hg:∀ z,b.fThings.getD j z=o:=fun z=>by rw [List.getD,t4];rfl
  have hs:=(Qw b7 t2).1
  rw [Nat.sub_zero] at hs
  rw [t1,t2]
  simp only [Int.toNat_natCast,hg,JAG,Option.bind_some,hs]
  rw [TB (by simp),TB (by simp;omega)]
  cases grown o x
  ·rfl
  ·rw [SN (by rfl),TB (by simp;omega)];rfl
 ·rw [t1,t2]
  simp only
  have hw:w64 (b.fLast+1)=b.fLast+1:=w64_id (by omega) (by omega)
  rw [SN (by rfl),hw]
  cases h1:(x.fId != b.fLast+1)
  ·by_cases h2:(b.fThings.length:Int)≥8
   ·rw [decide_eq_true h2];rfl
   ·rw [decide_eq_false h2,cond_false,cond_false,TB (by simp;omega)];rfl
  ·rfl
theorem LAG {b:SBook} {r:SRec} (hb:b.fThings.length≤140737488351232) (hr:r.fNum≤9223372036854775807):Ac b r=some (QX b r):=by
 rw [Ac,Dv,GAG hr,Option.bind_some,IAG hb,Option.bind_some,QX]
 cases h1:EY b
 ·rfl
 cases h2:(RV r).2
 ·rfl
 by_cases h3:b.fCount≥10000
 ·rw [decide_eq_true h3];rfl
 obtain ⟨b1,b2,b3,b4,b5,b6,b7⟩:=OZ.1 h1
 have hz:=U7 r
 have hw:w64 (b.fCount+1)=b.fCount+1:=w64_id (by omega) (by omega)
 have hdig:=F8 (s:=b.fChain++(RV r).1) (by rw [ByteArray.size_append];omega)
 have hsz:decide (b.fChain.size+(RV r).1.size≤9223372036854775807)=true:=by rw [decide_eq_true_eq];omega
 simp only [decide_eq_false h3,Bool.not_true,Bool.or_self,cond_false,G8 (show b.fThings.length≤2932031007317 by omega),hdig,hsz,hw,Option.bind_some,cond_true]
 rcases Kw h2 with ⟨hk,hc⟩ | ⟨hk,hc⟩ | ⟨hk,hc⟩ | ⟨hk,hc⟩
 ·rw [hk];rfl
 ·rw [hk];rfl
 ·rw [hk]
  simp only [show ((3:Int) == 1)=false from rfl,show ((3:Int) == 2)=false from rfl,show ((3:Int) == 3)=true from rfl,cond_true,cond_false]
  rw [KAG h1 (Tc hc).2.2.2.1,Option.bind_some]
  cases Yc b r.fThing with
  | none=>rfl
  | some p=>simp only [Bool.not_true,cond_false,hw]
 ·rw [hk]
  simp only [show ((4:Int) == 1)=false from rfl,show ((4:Int) == 2)=false from rfl,show ((4:Int) == 3)=false from rfl,show ((4:Int) == 4)=true from rfl,cond_true,cond_false]
  rw [V7 hb,Option.bind_some]
  rcases Rw (xs:=b.fThings) (id:=r.fNum) with ⟨o,j,t1,t2,t3,t4,t5⟩ | ⟨t1,t2⟩
  ·have hs:=(Qw (x:=⟨r.fNum,0,false,false,false,false,⟨#[]⟩,0⟩) b7 t2).2
   rw [Nat.sub_zero] at hs
   simp only at hs
   rw [t1,t2]
   simp only [Int.toNat_natCast]
   have e:w64 ((j:Int)+1)=((j+1:Nat):Int):=by rw [w64_id (by omega) (by omega)];rfl
   simp only [e,Int.toNat_natCast,List.drop_zero,List.take_length,hs]
   rw [SN (by simp),TB (by simp;omega),TB (by rw [List.length_take,decide_eq_true_eq];omega),TB (by simp;omega),TB (by rw [List.length_take,List.length_drop,decide_eq_true_eq];omega)]
  ·rw [t1,t2];rfl
theorem MAG {b:SBook} {l:List SRec} (hb:b.fThings.length≤2932031007317) (hl:l.length≤140737488351232) (hr:∀ r ∈ l,r.fNum≤9223372036854775807):Ij b l=some (LY b l):=by
 have key:∀ (j i m:Nat) (b:SBook),i+j=l.length→b.fThings.length≤2932031007317→Gj (m+j+1) (.c0 l (l.length:Int) (i:Int) ⟨#[]⟩ 0 0 ⟨#[]⟩ 0 b.fWord b.fTries b.fLast b.fChain b.fCount [] b.fThings)=some (LY b (l.drop i)):=by
  intro j
  induction j with
  | zero=>
   intro i m b h hb
   obtain rfl:i=l.length:=by omega
   rw [Gj]
   simp only [Dn]
   rw [SN (by simp),List.drop_length];rfl
  | succ j ih=>
   intro i m b h hb
   have hi:i<l.length:=by omega
   have e:w64 ((i:Int)+1)=((i+1:Nat):Int):=by rw [w64_id (by omega) (by omega)];rfl
   rw [show m+(j+1)+1=(m+j+1)+1 by omega,Gj]
   simp only [Dn,e,Int.toNat_natCast,getD_at hi]
   rw [TB (by simp;omega),TB (by simp;omega),LAG (by show b.fThings.length≤_;omega) (hr _ (List.getElem_mem hi)),Option.bind_some,drop_at hi,LY]
   cases h2:(QX b l[i]).2
   ·rfl
   ·have h3:=Eo h2
    rw [SN (by rfl),cond_true]
    exact ih (i+1) m (QX b l[i]).1 (by omega) (by omega)
 obtain ⟨m,hm⟩:∃ m,gas=m+l.length+1:=⟨gas - (l.length+1),by have:=gas_lt (n:=l.length+1) (by omega);omega⟩
 rw [Ij,Gv,G8 hb,Option.bind_some,hm]
 exact key l.length 0 m b (by omega) hb
theorem I8 (a:SThing)  : Aa a a=some true:=by
 simp [Aa,Nv]
theorem NAG {a:(List SThing)} (h:a.length≤140737488351232):Oj a a=some true:=by
 have h0:a.length≤140737488351232:=h
 have key:∀ m i,i≤a.length→a.length - i<m→Ee m (.c0 a a i)=some true:=fun m i h1 h2=>
  loopN (A:=Unit) (n:=a.length) (Lp:=Ee) (st:=fun i _=>.c0 a a i) (Inv:=fun _ _=>True) (out:=fun _ _=>some true)
   (fun m _ _=>by simp [Ee,En])
   (fun m i _ hi _=>.inr ⟨(),by
    have hw:w64 ((i:Int)+1)=((i+1:Nat):Int):=by rw [w64_id (by omega) (by omega)];rfl
    simp only [Ee,En,Int.toNat_natCast,hw,I8 _,getD_at hi,Option.bind_some]
    simp [hi],trivial,rfl⟩) m i () h1 h2 trivial
 have h0:=key gas 0 (Nat.zero_le _) (gas_lt (by omega))
 unfold Oj Qv
 simp only [bne_self_eq_false,cond_false]
 exact h0
theorem OAG {a:SBook} (h:a.fThings.length≤140737488351232):Pj a a=some true:=by
 simp [Pj,Tv,NAG h]
theorem PAG (a:SRec)  : Bc a a=some true:=by
 simp [Bc,Wv,I8 _]
theorem QAG {a:(List SRec)} (h:a.length≤140737488351232):Rj a a=some true:=by
 have h0:a.length≤140737488351232:=h
 have key:∀ m i,i≤a.length→a.length - i<m→Fe m (.c0 a a i)=some true:=fun m i h1 h2=>
  loopN (A:=Unit) (n:=a.length) (Lp:=Fe) (st:=fun i _=>.c0 a a i) (Inv:=fun _ _=>True) (out:=fun _ _=>some true)
   (fun m _ _=>by simp [Fe,Pn])
   (fun m i _ hi _=>.inr ⟨(),by
    have hw:w64 ((i:Int)+1)=((i+1:Nat):Int):=by rw [w64_id (by omega) (by omega)];rfl
    simp only [Fe,Pn,Int.toNat_natCast,hw,PAG _,getD_at hi,Option.bind_some]
    simp [hi],trivial,rfl⟩) m i () h1 h2 trivial
 have h0:=key gas 0 (Nat.zero_le _) (gas_lt (by omega))
 unfold Rj Yv
 simp only [bne_self_eq_false,cond_false]
 exact h0
theorem HAH (b:SBook) (r:SRec):(QX b r).1.fThings.length≤8:=by
 cases h:(QX b r).2
 ·have:(QX b r).1=Yj:=by
   rw [QX] at h ⊢
   cases hc:(!(EY b) || (!(RV r).2 || decide (b.fCount≥10000)))
   ·rw [hc] at h
    simp only [cond_false] at h ⊢
    cases h1:r.fKind == 1
    ·rw [h1] at h
     simp only [cond_false] at h ⊢
     cases h2:r.fKind == 2
     ·rw [h2] at h
      simp only [cond_false] at h ⊢
      cases h3:r.fKind == 3
      ·rw [h3] at h
       simp only [cond_false] at h ⊢
       cases ht:WX b.fThings r.fNum with
       | none=>rfl
       | some x=>rw [ht] at h;cases h
      ·rw [h3] at h
       simp only [cond_true] at h ⊢
       cases ht:Yc b r.fThing with
       | none=>rfl
       | some x=>rw [ht] at h;cases h
     ·rw [h2] at h;cases h
    ·rw [h1] at h;cases h
   ·rfl
  rw [this];exact Nat.zero_le _
 ·exact Eo h
theorem IAH {b:SBook} {l:List SRec} (h:b.fThings.length≤2932031007317):(LY b l).1.fThings.length≤2932031007317:=by
 induction l generalizing b with
 | nil=>exact h
 | cons r rs ih=>
  rw [LY]
  cases h3:(QX b r).2
  ·exact Nat.zero_le _
  ·have:=Eo h3
   exact ih (by omega)
theorem law_FnExactChainOk (x0:SBook) (x1:List SRec) (g0:GSBook x0) (g1:(GList 80 GSRec) x1):laws_FnExactChainOk x0 x1=some true:=by
 obtain ⟨r,hr⟩:=KAC g0 1048576
 obtain ⟨s,hs⟩:=NAC g1 r
 have hl:x0.fThings.length*48≤140737488351232:=g0.2.2.1.1
 have hl1:=g1.1
 have hb:Wj.fThings.length≤2932031007317:=Nat.zero_le _
 have e:Jj x0 x1=Qb x0 x1:=by
  rw [Jj,Kv,Qb,Zl,CAG,X6,Option.bind_some,Option.bind_some,MAG hb (by omega) (fun r hr=>(gint (g1.2 r hr).2.2.1).2),A8 hb (by omega)]
 obtain ⟨c,hc⟩:∃ c,Qb x0 x1=some c:=by
  rw [Qb,Zl,X6,Option.bind_some,A8 hb (by omega),Option.bind_some]
  cases (LY Wj x1).2
  ·exact ⟨_,rfl⟩
  ·cases (LY Wj x1).1.fChain.toList == x0.fChain.toList <;> exact ⟨_,rfl⟩
 simp only [laws_FnExactChainOk,Zv,hr,hs,Option.bind_some,PAC g0,RAC g1,e,hc,OAG (show x0.fThings.length≤140737488351232 by omega),QAG (show x1.length≤140737488351232 by omega),beq_self_eq_true,Bool.not_true,cond_false]
 cases decide (r<0) <;> cases decide (s<0) <;> rfl
end Go.Proofs.YthfpmhalgimbbaaDoor.G
