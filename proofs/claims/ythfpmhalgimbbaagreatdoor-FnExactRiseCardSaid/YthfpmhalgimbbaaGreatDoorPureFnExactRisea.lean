/- The plain law of FnExactRise: whatever the arguments, it answers true. Conditions: what is read is in reach. Part 1 of 2. -/
import Derived.Test.YthfpmhalgimbbaaGreatDoorFFnExactRise
import Derived.Test.YthfpmhalgimbbaaGreatDoorOpens
import Derived.Test.YthfpmhalgimbbaaGreatDoorPBase
namespace Go.Proofs.YthfpmhalgimbbaaGreatDoor.G
open Go Go.Ev
set_option linter.unusedVariables false
set_option linter.unusedSimpArgs false
theorem TAn {a:SFile} (g:GSFile a) (n:Int):∃ r,Ak a n=some r:=by
 unfold Ak DAJ
 cases decide ((w64 (n - (a.fName.size:Int)))<0)
 rotate_left
 ·exact ⟨_,rfl⟩
 simp only [cond_false]
 cases decide ((w64 ((w64 (n - (a.fName.size:Int))) - (a.fText.size:Int)))<0)
 rotate_left
 ·exact ⟨_,rfl⟩
 simp only [cond_false]
 exact ⟨_,rfl⟩
theorem UAn {a:(List SFile)} (g:(GList 40 GSFile) a) (n:Int):∃ r,Aw a n=some r:=by
 have h:=g.1
 have key:∀ m i l,i≤a.length→a.length - i<m→∃ r,SAA m (.c0 a l i)=some r:=by
  intro m
  induction m with
  | zero=>intro i l _ h;omega
  | succ m ih=>
   intro i l h1 h2
   simp only [SAA,GAJ]
   by_cases hi:i<a.length
   ·have hw:w64 ((i:Int)+1)=((i+1:Nat):Int):=by rw [w64_id (by omega) (by omega)];rfl
    obtain ⟨r,hr⟩:=TAn (g.2 _ (List.getElem_mem hi)) l
    simp only [Int.toNat_natCast,getD_at hi,hr,Option.bind_some,hw]
    rw [show (decide ((i:Int)<(a.length:Int)))=true from decide_eq_true (by omega),show (decide ((0:Int)≤(i:Int)))=true from decide_eq_true (by omega)]
    simp only [Bool.and_self,cond_true]
    cases decide (r<0)
    ·exact ih (i+1) r hi (by omega)
    ·exact ⟨_,rfl⟩
   ·rw [show (decide ((i:Int)<(a.length:Int)))=false from decide_eq_false (by omega)]
    exact ⟨_,rfl⟩
 unfold Aw FAJ
 cases decide (w64 (n - (a.length:Int))<0)
 ·exact key gas 0 _ (Nat.zero_le _) (gas_lt (by omega))
 ·exact ⟨_,rfl⟩
theorem VAn {a:SDisk} (g:GSDisk a) (n:Int):∃ r,Dw a n=some r:=by
 unfold Dw IAJ
 obtain ⟨r0,hr0⟩:=UAn (g) (n)
 simp only [hr0,Option.bind_some]
 cases decide (r0<0)
 rotate_left
 ·exact ⟨_,rfl⟩
 simp only [cond_false]
 exact ⟨_,rfl⟩
theorem WAn {a:SThing} (g:GSThing a) (n:Int):∃ r,Po a n=some r:=⟨_,cond_some _ _ _⟩
theorem XAn {a:(List SThing)} (g:(GList 48 GSThing) a) (n:Int):∃ r,Gw a n=some r:=by
 have h:=g.1
 have key:∀ m i l,i≤a.length→a.length - i<m→∃ r,UAA m (.c0 a l i)=some r:=by
  intro m
  induction m with
  | zero=>intro i l _ h;omega
  | succ m ih=>
   intro i l h1 h2
   simp only [UAA,LAJ]
   by_cases hi:i<a.length
   ·have hw:w64 ((i:Int)+1)=((i+1:Nat):Int):=by rw [w64_id (by omega) (by omega)];rfl
    obtain ⟨r,hr⟩:=WAn (g.2 _ (List.getElem_mem hi)) l
    simp only [Int.toNat_natCast,getD_at hi,hr,Option.bind_some,hw]
    rw [show (decide ((i:Int)<(a.length:Int)))=true from decide_eq_true (by omega),show (decide ((0:Int)≤(i:Int)))=true from decide_eq_true (by omega)]
    simp only [Bool.and_self,cond_true]
    cases decide (r<0)
    ·exact ih (i+1) r hi (by omega)
    ·exact ⟨_,rfl⟩
   ·rw [show (decide ((i:Int)<(a.length:Int)))=false from decide_eq_false (by omega)]
    exact ⟨_,rfl⟩
 unfold Gw KAJ
 cases decide (w64 (n - (a.length:Int))<0)
 ·exact key gas 0 _ (Nat.zero_le _) (gas_lt (by omega))
 ·exact ⟨_,rfl⟩
theorem YAn {a:SBook} (g:GSBook a) (n:Int):∃ r,Hw a n=some r:=by
 unfold Hw NAJ
 cases decide ((w64 (n - (a.fWord.size:Int)))<0)
 rotate_left
 ·exact ⟨_,rfl⟩
 simp only [cond_false]
 obtain ⟨r0,hr0⟩:=XAn (g.2.2.1) ((w64 (n - (a.fWord.size:Int))))
 simp only [hr0,Option.bind_some]
 cases decide (r0<0)
 rotate_left
 ·exact ⟨_,rfl⟩
 simp only [cond_false]
 cases decide ((w64 (r0 - (a.fChain.size:Int)))<0)
 rotate_left
 ·exact ⟨_,rfl⟩
 simp only [cond_false]
 exact ⟨_,rfl⟩
theorem ZAn {a:(List SSession)} (_:(GList 16 GSSession) a) (n:Int):∃ r,VAA a n=some r:=⟨_,cond_some _ _ _⟩
theorem AAo {a:(List SLive)} (_:(GList 16 GSLive) a) (n:Int):∃ r,WAA a n=some r:=⟨_,cond_some _ _ _⟩
theorem RAn {a:SBox} (g:GSBox a) (n:Int):∃ r,Zj a n=some r:=by
 unfold Zj XAA
 cases decide ((w64 (n - (a.fKey.size:Int)))<0)
 rotate_left
 ·exact ⟨_,rfl⟩
 simp only [cond_false]
 obtain ⟨r0,hr0⟩:=VAn (g.2.2.1) ((w64 (n - (a.fKey.size:Int))))
 simp only [hr0,Option.bind_some]
 cases decide (r0<0)
 rotate_left
 ·exact ⟨_,rfl⟩
 simp only [cond_false]
 obtain ⟨r1,hr1⟩:=YAn (g.2.2.2.1) (r0)
 simp only [hr1,Option.bind_some]
 cases decide (r1<0)
 rotate_left
 ·exact ⟨_,rfl⟩
 simp only [cond_false]
 obtain ⟨r2,hr2⟩:=ZAn (g.2.2.2.2.1) (r1)
 simp only [hr2,Option.bind_some]
 cases decide (r2<0)
 rotate_left
 ·exact ⟨_,rfl⟩
 simp only [cond_false]
 obtain ⟨r3,hr3⟩:=AAo (g.2.2.2.2.2.1) (r2)
 simp only [hr3,Option.bind_some]
 cases decide (r3<0)
 rotate_left
 ·exact ⟨_,rfl⟩
 simp only [cond_false]
 exact ⟨_,rfl⟩
theorem BAo {a:SFile} (g:GSFile a):Dk a=some a:=by
 simp only [Dk,QAJ,Option.bind_some]
theorem CAo {a:(List SFile)} (g:(GList 40 GSFile) a):Jw a=some a:=by
 have h:=g.1
 have key:∀ m i,i≤a.length→a.length - i<m→Ik m (.c0 a i (a.take i++List.replicate (a.length - i) (⟨(⟨#[]⟩:ByteArray),(⟨#[]⟩:ByteArray),(0:Int)⟩:SFile)))=some a:=fun m i h1 h2=>
  loopN (A:=Unit) (n:=a.length) (Lp:=Ik) (st:=fun i _=>.c0 a i (a.take i++List.replicate (a.length - i) (⟨(⟨#[]⟩:ByteArray),(⟨#[]⟩:ByteArray),(0:Int)⟩:SFile))) (Inv:=fun _ _=>True) (out:=fun _ _=>some a)
   (fun m _ _=>by simp [Ik,ZAA])
   (fun m i _ hi _=>.inr ⟨(),by
    have hw:w64 ((i:Int)+1)=((i+1:Nat):Int):=by rw [w64_id (by omega) (by omega)];rfl
    have hc:=copied_len (Nat.le_of_lt hi) (⟨(⟨#[]⟩:ByteArray),(⟨#[]⟩:ByteArray),(0:Int)⟩:SFile)
    simp only [Ik,ZAA,Int.toNat_natCast,getD_at hi,BAo (g.2 _ (List.getElem_mem hi)),Option.bind_some,hw,copied hi,hc]
    simp [hi],trivial,rfl⟩) m i () h1 h2 trivial
 have h0:Ik gas (.c0 a 0 (List.replicate a.length (⟨(⟨#[]⟩:ByteArray),(⟨#[]⟩:ByteArray),(0:Int)⟩:SFile)))=some a:=by
  have:=key gas 0 (Nat.zero_le _) (gas_lt (by omega))
  simpa using this
 unfold Jw SAJ
 simp only [Int.toNat_natCast,h0]
 simp [show a.length*40≤140737488355328 from by omega,show ((a.length:Int)≤9223372036854775807) from by omega]
 try omega
theorem DAo {a:SDisk} (g:GSDisk a):Kw a=some a:=by
 simp only [Kw,UAJ,CAo (g),Option.bind_some]
theorem EAo {a:SThing} (g:GSThing a):Jk a=some a:=by
 simp only [Jk,VAJ,Option.bind_some]
theorem FAo {a:(List SThing)} (g:(GList 48 GSThing) a):Qw a=some a:=by
 have h:=g.1
 have key:∀ m i,i≤a.length→a.length - i<m→Nk m (.c0 a i (a.take i++List.replicate (a.length - i) (⟨(0:Int),(0:Int),false,false,false,false,(⟨#[]⟩:ByteArray),(0:Int)⟩:SThing)))=some a:=fun m i h1 h2=>
  loopN (A:=Unit) (n:=a.length) (Lp:=Nk) (st:=fun i _=>.c0 a i (a.take i++List.replicate (a.length - i) (⟨(0:Int),(0:Int),false,false,false,false,(⟨#[]⟩:ByteArray),(0:Int)⟩:SThing))) (Inv:=fun _ _=>True) (out:=fun _ _=>some a)
   (fun m _ _=>by simp [Nk,BAB])
   (fun m i _ hi _=>.inr ⟨(),by
    have hw:w64 ((i:Int)+1)=((i+1:Nat):Int):=by rw [w64_id (by omega) (by omega)];rfl
    have hc:=copied_len (Nat.le_of_lt hi) (⟨(0:Int),(0:Int),false,false,false,false,(⟨#[]⟩:ByteArray),(0:Int)⟩:SThing)
    simp only [Nk,BAB,Int.toNat_natCast,getD_at hi,EAo (g.2 _ (List.getElem_mem hi)),Option.bind_some,hw,copied hi,hc]
    simp [hi],trivial,rfl⟩) m i () h1 h2 trivial
 have h0:Nk gas (.c0 a 0 (List.replicate a.length (⟨(0:Int),(0:Int),false,false,false,false,(⟨#[]⟩:ByteArray),(0:Int)⟩:SThing)))=some a:=by
  have:=key gas 0 (Nat.zero_le _) (gas_lt (by omega))
  simpa using this
 unfold Qw XAJ
 simp only [Int.toNat_natCast,h0]
 simp [show a.length*48≤140737488355328 from by omega,show ((a.length:Int)≤9223372036854775807) from by omega]
 try omega
theorem GAo {a:SBook} (g:GSBook a):Rw a=some a:=by
 simp only [Rw,ZAJ,FAo (g.2.2.1),Option.bind_some]
theorem HAo {a:SSession} (g:GSSession a):Qk a=some a:=by
 simp only [Qk,AAK,Option.bind_some]
theorem IAo {a:(List SSession)} (g:(GList 16 GSSession) a):Vw a=some a:=by
 have h:=g.1
 have key:∀ m i,i≤a.length→a.length - i<m→Rk m (.c0 a i (a.take i++List.replicate (a.length - i) (⟨(0:Int),false⟩:SSession)))=some a:=fun m i h1 h2=>
  loopN (A:=Unit) (n:=a.length) (Lp:=Rk) (st:=fun i _=>.c0 a i (a.take i++List.replicate (a.length - i) (⟨(0:Int),false⟩:SSession))) (Inv:=fun _ _=>True) (out:=fun _ _=>some a)
   (fun m _ _=>by simp [Rk,DAB])
   (fun m i _ hi _=>.inr ⟨(),by
    have hw:w64 ((i:Int)+1)=((i+1:Nat):Int):=by rw [w64_id (by omega) (by omega)];rfl
    have hc:=copied_len (Nat.le_of_lt hi) (⟨(0:Int),false⟩:SSession)
    simp only [Rk,DAB,Int.toNat_natCast,getD_at hi,HAo (g.2 _ (List.getElem_mem hi)),Option.bind_some,hw,copied hi,hc]
    simp [hi],trivial,rfl⟩) m i () h1 h2 trivial
 have h0:Rk gas (.c0 a 0 (List.replicate a.length (⟨(0:Int),false⟩:SSession)))=some a:=by
  have:=key gas 0 (Nat.zero_le _) (gas_lt (by omega))
  simpa using this
 unfold Vw CAK
 simp only [Int.toNat_natCast,h0]
 simp [show a.length*16≤140737488355328 from by omega,show ((a.length:Int)≤9223372036854775807) from by omega]
 try omega
theorem JAo {a:SLive} (g:GSLive a):Uk a=some a:=by
 simp only [Uk,DAK,Option.bind_some]
theorem KAo {a:(List SLive)} (g:(GList 16 GSLive) a):Yw a=some a:=by
 have h:=g.1
 have key:∀ m i,i≤a.length→a.length - i<m→Vk m (.c0 a i (a.take i++List.replicate (a.length - i) (⟨(0:Int),(0:Int)⟩:SLive)))=some a:=fun m i h1 h2=>
  loopN (A:=Unit) (n:=a.length) (Lp:=Vk) (st:=fun i _=>.c0 a i (a.take i++List.replicate (a.length - i) (⟨(0:Int),(0:Int)⟩:SLive))) (Inv:=fun _ _=>True) (out:=fun _ _=>some a)
   (fun m _ _=>by simp [Vk,FAB])
   (fun m i _ hi _=>.inr ⟨(),by
    have hw:w64 ((i:Int)+1)=((i+1:Nat):Int):=by rw [w64_id (by omega) (by omega)];rfl
    have hc:=copied_len (Nat.le_of_lt hi) (⟨(0:Int),(0:Int)⟩:SLive)
    simp only [Vk,FAB,Int.toNat_natCast,getD_at hi,JAo (g.2 _ (List.getElem_mem hi)),Option.bind_some,hw,copied hi,hc]
    simp [hi],trivial,rfl⟩) m i () h1 h2 trivial
 have h0:Vk gas (.c0 a 0 (List.replicate a.length (⟨(0:Int),(0:Int)⟩:SLive)))=some a:=by
  have:=key gas 0 (Nat.zero_le _) (gas_lt (by omega))
  simpa using this
 unfold Yw FAK
 simp only [Int.toNat_natCast,h0]
 simp [show a.length*16≤140737488355328 from by omega,show ((a.length:Int)≤9223372036854775807) from by omega]
 try omega
theorem SAn {a:SBox} (g:GSBox a):Xv a=some a:=by
 simp only [Xv,GAK,DAo (g.2.2.1),GAo (g.2.2.2.1),IAo (g.2.2.2.2.1),KAo (g.2.2.2.2.2.1),Option.bind_some]
def FN (x a b:Int):Bool:=decide (a≤x) && decide (x≤b)
theorem DY {x a b:Int}:FN x a b=true↔a≤x∧x≤b:=by simp [FN]
theorem Eb (x a b:Int):CY x a b=some (FN x a b):=by
 show (bif decide (a≤x) then some (decide (x≤b)) else some false)=some (FN x a b)
 unfold FN;cases decide (a≤x) <;> rfl
theorem FAZ (s:ByteArray):Zg s=some (FN (s.size:Int) 1 8):=by
 rw [Zg,HAK,Eb];rfl
def bs (s:ByteArray):List Int:=s.data.toList.map fun b=>(b.toNat:Int)
theorem bs_len (s:ByteArray):(bs s).length=s.size:=by unfold bs;rw [List.length_map];rfl
theorem GAR {s:ByteArray} {n:Int} (h:n ∈ bs s):0≤n∧n≤255:=by
 unfold bs at h;rw [List.mem_map] at h;obtain ⟨b,_,rfl⟩:=h
 have:=b.toNat_lt;omega
theorem XY (a b:ByteArray):bs (a++b)=bs a++bs b:=by simp [bs]
theorem WAE (s:ByteArray):ofBytes (bs s)=s:=by
 cases s;simp [ofBytes,bs,Function.comp_def]
theorem Ob {s t:ByteArray} (h:bs s=bs t):s=t:=by rw [←WAE s,h,WAE]
theorem SN {l:List Int} (h:∀ n,n ∈ l→0≤n∧n≤255):bs (ofBytes l)=l:=by
 simp only [bs,ofBytes,List.map_map]
 conv=>rhs;rw [←List.map_id l]
 apply List.map_congr_left
 intro n hn
 obtain ⟨h1,h2⟩:=h n hn
 simp only [Function.comp,UInt8.toNat_ofNat',id]
 omega
theorem XAE {s:ByteArray} {i:Nat} (h:i<s.size):bt s (i:Int)=(bs s)[i]'(by rw [bs_len];exact h):=by
 simp only [bt,Int.toNat_natCast,h,dite_true,bs,List.getElem_map]
 rfl
theorem Xh (s:ByteArray) (i:Int):0≤bt s i∧bt s i≤255:=by
 unfold bt;split
 ·have:=(s[i.toNat]).toNat_lt;omega
 ·omega
theorem UZ (s:ByteArray) (i j:Nat):bs (s.extract i j)=((bs s).take j).drop i:=by
 simp only [bs,ByteArray.data_extract,Array.toList_extract,List.extract_eq_take_drop,List.map_take,List.map_drop]
 rw [List.drop_take]
theorem Ym (a b:ByteArray):(a.toList == b.toList)=(bs a == bs b):=by
 rw [toList_inj,Bool.eq_iff_iff,decide_eq_true_eq,beq_iff_eq]
 exact ⟨fun h=>by rw [h],Ob⟩
theorem TB {α:Type} {c:Bool} {a b:α} (h:c=true):(bif c then a else b)=a:=by rw [h];rfl
theorem NM {α:Type} {c:Bool} {a b:α} (h:c=false):(bif c then a else b)=b:=by rw [h];rfl
theorem Me {s:ByteArray} {i:Nat} (h:i<s.size):bt s (i:Int)=(bs s).getD i 0:=by rw [XAE h,getD_at]
theorem OAt {s:ByteArray} {i:Int} {j:Nat} (e:i=(j:Int)) (h:j<s.size):bt s i=(bs s).getD j 0:=by rw [e,Me h]
theorem L8 {α:Type} {a b:List α} {i:Nat} (h:i<a.length) (d:α):(a++b).getD i d=a.getD i d:=by simp [List.getD,List.getElem?_append_left h]
theorem Xq {α:Type} {a b:List α} {i:Nat} (h:a.length≤i) (d:α):(a++b).getD i d=b.getD (i - a.length) d:=by simp [List.getD,List.getElem?_append_right h]
theorem Ue {α:Type} {a b:List α} {x y:α} {i:Nat} (h:a.length=i):(a++x::b).set i y=a++y::b:=by
 rw [List.set_append_right _ _ (by omega),h,Nat.sub_self];rfl
theorem PAt {a b:Nat} (h:a=b):Nat.beq a b=true:=by subst h;exact Nat.beq_refl _
theorem QAt {P:Int→Prop} (n:Int) (h:0≤n) (k:∀ m:Nat,n=(m:Int)→P (m:Int)):P n:=by
 have:=k n.toNat (by omega)
 rwa [show ((n.toNat:Nat):Int)=n by omega] at this
theorem RAt:bs (⟨#[]⟩:ByteArray)=[]:=rfl
def IY (l:List Int):Prop:=∀ n,n ∈ l→0≤n∧n≤255
theorem YZ {l:List Int} (h:IY l) (i:Nat):0≤l.getD i 0∧l.getD i 0≤255:=by
 by_cases hi:i<l.length
 ·rw [getD_at hi];exact h _ (List.getElem_mem hi)
 ·have:l.getD i 0=0:=by simp [List.getD,List.getElem?_eq_none (Nat.le_of_not_lt hi)]
  omega
theorem Yc (s:ByteArray):IY (bs s):=fun _ h=>GAR h
theorem N8 (s:ByteArray):bytesOf s=bs s:=rfl
theorem Ad {α:Type} {l:List α} {i:Nat} (h:i<l.length) (y d:α):(l.set i y).getD i d=y:=by simp [List.getD,h]
def La (f:SFile):Bool:=FN (f.fName.size:Int) 1 8 && (!decide ((f.fText.size:Int) > 20000) && FN f.fKept 0 (f.fText.size:Int))
def Uc:ByteArray→List SFile→Bool
 | _,[]=>true
 | p,f::fs=>La f && (Op.bytesLess p.toList f.fName.toList && Uc f.fName fs)
def Wh (l:List SFile):Nat→ByteArray
 | 0=>⟨#[]⟩
 | i+1=>((l[i]?).map (·.fName)).getD ⟨#[]⟩
theorem UAQ {l:List SFile} {i:Nat} (hi:i<l.length):Wh l (i+1)=l[i].fName:=by simp [Wh,hi]
theorem IAZ {l:List SFile} {i:Nat} (hi:i<l.length):Uc (Wh l i) (l.drop i)=(La l[i] && (Op.bytesLess (Wh l i).toList l[i].fName.toList && Uc (Wh l (i+1)) (l.drop (i+1)))):=by
 rw [drop_at hi,Uc,UAQ hi]
def GY (d:SDisk):Bool:=decide ((d.fFiles.length:Int)≤30) && Uc ⟨#[]⟩ d.fFiles
theorem JAZ {s:ByteArray} (h:1≤s.size):Op.bytesLess (⟨#[]⟩:ByteArray).toList s.toList=true:=by
 rw [ByteArray.toList_eq,ByteArray.toList_eq]
 obtain ⟨⟨l⟩⟩:=s
 cases l with
 | nil=>exact absurd h (Nat.not_succ_le_zero 0)
 | cons x l=>rfl
def RY:List SFile→ByteArray→Nat→Option Nat
 | [],_,_=>none
 | f::fs,n,i=>if f.fName.toList == n.toList then some i else RY fs n (i+1)
theorem Sm {n:ByteArray}:∀ {fs:List SFile} {i j:Nat},RY fs n i=some j→i≤j∧j<i+fs.length:=by
 intro fs
 induction fs with
 | nil=>intro i j h;cases h
 | cons f fs ih=>
  intro i j h
  rw [RY] at h
  rw [List.length_cons]
  split at h
  ·cases h;omega
  ·have:=ih h;omega
def AZ (d:SDisk) (n:ByteArray):Int:=match RY d.fFiles n 0 with | some j=>(j:Int) | none=> -1
def Ie:SFile:=⟨⟨#[]⟩,⟨#[]⟩,0⟩
def TT (d:SDisk) (n:ByteArray):ByteArray×Bool:=match RY d.fFiles n 0 with | some j=>((d.fFiles.getD j Ie).fText,true) | none=>(⟨#[]⟩,false)
theorem KAQ (d:SDisk):Ud d=some (GY d):=by
 rw [Ud,JAK,GY]
 by_cases h0:(d.fFiles.length:Int)≤30
 ·rw [NM (by simp;omega),decide_eq_true h0,Bool.true_and]
  have key:∀ (j i m:Nat),i+j=d.fFiles.length→Gx (m+j+1) (.c0 (i:Int) d)=some (Uc (Wh d.fFiles i) (d.fFiles.drop i)):=by
   intro j
   induction j with
   | zero=>
    intro i m h
    obtain rfl:i=d.fFiles.length:=by omega
    rw [Gx]
    simp only [GAB]
    rw [NM (by simp),List.drop_length];rfl
   | succ j ih=>
    intro i m h
    have hi:i<d.fFiles.length:=by omega
    have e:w64 ((i:Int)+1)=((i+1:Nat):Int):=by rw [w64_id (by omega) (by omega)];rfl
    have h2:=ih (i+1) m (by omega)
    rw [show m+(j+1)+1=(m+j+1)+1 by omega,Gx]
    simp only [GAB,e,Int.toNat_natCast,getD_at hi,FAZ,Eb,Option.bind_some]
    rw [TB (by simp;omega),TB (by simp;omega),IAZ hi,La,h2]
    cases hn:FN (d.fFiles[i].fName.size:Int) 1 8
    ·rfl
    cases decide ((d.fFiles[i].fText.size:Int) > 20000)
    ·cases FN d.fFiles[i].fKept 0 (d.fFiles[i].fText.size:Int)
     ·rfl
     ·by_cases hz:i=0
      ·subst hz
       rw [DY] at hn
       rw [show Wh d.fFiles 0=⟨#[]⟩ from rfl,JAZ (by omega)];rfl
      ·obtain ⟨i',rfl⟩:∃ q,i=q+1:=⟨i - 1,by omega⟩
       have e2:w64 (((i'+1:Nat):Int) - 1)=(i':Int):=by rw [w64_id (by omega) (by omega)];omega
       rw [e2,Int.toNat_natCast,getD_at (show i'<d.fFiles.length by omega),UAQ (i:=i') (by omega),NM (by rfl),NM (by rfl),NM (by rfl),TB (by simp;try omega),TB (by simp;try omega)]
       cases Op.bytesLess d.fFiles[i'].fName.toList d.fFiles[i'+1].fName.toList <;> rfl
    ·rfl
  obtain ⟨m,hm⟩:∃ m,gas=m+d.fFiles.length+1:=⟨gas - (d.fFiles.length+1),by have:=gas_lt (n:=d.fFiles.length+1) (by omega);omega⟩
  rw [hm]
  exact key d.fFiles.length 0 m (by omega)
 ·rw [TB (by simp;omega),decide_eq_false h0];rfl
theorem Gn {n:Int}:w32 n=n % 4294967296:=by
 simp only [w32,IntKind.wrap,IntKind.signed,IntKind.bits]
 simp
theorem Fb {n:Int} (h1:0≤n) (h2:n<4294967296):w32 n=n:=by rw [Gn];omega
def R32 (n:Int):Prop:=0≤n∧n<4294967296
theorem Qa (n:Int):R32 (w32 n):=by unfold R32;rw [Gn];omega
theorem SAt {n:Int} (h:0≤n∧n≤255):R32 n:=by unfold R32;omega
def xr (x y:Int):Int:=w32 (((BitVec.toNat ((BitVec.ofInt (IntKind.bits IntKind.u32) x) ^^^ (BitVec.ofInt (IntKind.bits IntKind.u32) y))):Nat):Int)
def an (x y:Int):Int:=w32 (((BitVec.toNat ((BitVec.ofInt (IntKind.bits IntKind.u32) x) &&& (BitVec.ofInt (IntKind.bits IntKind.u32) y))):Nat):Int)
def O8 (x y:Int):Int:=w32 (((BitVec.toNat ((BitVec.ofInt (IntKind.bits IntKind.u32) x) ||| (BitVec.ofInt (IntKind.bits IntKind.u32) y))):Nat):Int)
theorem Je (x y:Int):w32 (((BitVec.toNat ((BitVec.ofInt (IntKind.bits IntKind.u32) x) ^^^ (BitVec.ofInt (IntKind.bits IntKind.u32) y))):Nat):Int)=xr x y:=rfl
theorem WAQ (x y:Int):w32 (((BitVec.toNat ((BitVec.ofInt (IntKind.bits IntKind.u32) x) &&& (BitVec.ofInt (IntKind.bits IntKind.u32) y))):Nat):Int)=an x y:=rfl
theorem FAa (x y:Int):w32 (((BitVec.toNat ((BitVec.ofInt (IntKind.bits IntKind.u32) x) ||| (BitVec.ofInt (IntKind.bits IntKind.u32) y))):Nat):Int)=O8 x y:=rfl
theorem Kq (x y:Int):R32 (xr x y):=Qa _
theorem TAt (x y:Int):R32 (an x y):=Qa _
theorem GAa {a b:Nat} {s:Nat} (hb:b<2 ^ s) (ha:a*2 ^ s<4294967296) (hs:b<4294967296):O8 ((a*2 ^ s:Nat):Int) (b:Int)=((a*2 ^ s+b:Nat):Int):=by
 have e:a*2 ^ s ||| b=a*2 ^ s+b:=by
  have:=Nat.shiftLeft_add_eq_or_of_lt hb a
  rw [Nat.shiftLeft_eq] at this
  exact this.symm
 unfold O8
 have h3:a*2 ^ s ||| b<2 ^ 32:=Nat.or_lt_two_pow (by omega) (by omega)
 rw [BitVec.toNat_or]
 show w32 (((BitVec.ofInt 32 _).toNat ||| (BitVec.ofInt 32 _).toNat:Nat):Int)=_
 rw [BitVec.ofInt_natCast,BitVec.ofInt_natCast,BitVec.toNat_ofNat,BitVec.toNat_ofNat,Nat.mod_eq_of_lt (by omega),Nat.mod_eq_of_lt (by omega),e]
 rw [e] at h3
 exact Fb (by omega) (by omega)
theorem LAo {e:Int} (h:R32 e):xr (ite ((IntKind.signed IntKind.u32)=true) (-(1:Int)) (IntKind.max IntKind.u32)) e=w32 (4294967295 - e):=by
 obtain ⟨h1,h2⟩:=h
 obtain ⟨n,rfl⟩:∃ n:Nat,e=(n:Int):=⟨e.toNat,by omega⟩
 have hn:n<4294967296:=by omega
 have e1:(ite ((IntKind.signed IntKind.u32)=true) (-(1:Int)) (IntKind.max IntKind.u32))=4294967295:=by decide
 rw [e1]
 unfold xr
 show w32 (((BitVec.ofInt 32 4294967295 ^^^ BitVec.ofInt 32 (n:Int)).toNat:Nat):Int)=_
 have e2:BitVec.ofInt 32 4294967295=BitVec.allOnes 32:=by decide
 rw [e2,BitVec.ofInt_natCast,BitVec.allOnes_xor,BitVec.toNat_not,BitVec.toNat_ofNat]
 rw [Gn,Gn]
 omega
def rt (low high x:Int):Int:=x / low+x % low*high
theorem MAo {low high x:Int} (h:R32 x) (hl:0<low) (hh:0<high) (hlh:low*high=4294967296):R32 (rt low high x):=by
 unfold R32 rt at *
 have h1:0≤x / low:=Int.ediv_nonneg h.1 (by omega)
 have h2:0≤x % low:=Int.emod_nonneg _ (by omega)
 have h3:x % low<low:=Int.emod_lt_of_pos _ hl
 have h4:x / low<high:=Int.ediv_lt_of_lt_mul hl (by rw [Int.mul_comm,hlh];exact h.2)
 have h5:0≤x % low*high:=Int.mul_nonneg h2 (by omega)
 have h6:x % low*high≤(low - 1)*high:=Int.mul_le_mul_of_nonneg_right (by omega) (by omega)
 have h7:(low - 1)*high=low*high - high:=by rw [Int.sub_mul,Int.one_mul]
 omega
theorem NAo {x:Int} (h:R32 x) (n:Nat) (hn:0<n) (hn2:n<32):O8 (w32 (x*2 ^ (32 - n))) (x / 2 ^ n)=rt (2 ^ n) (2 ^ (32 - n)) x:=by
 obtain ⟨h1,h2⟩:=h
 obtain ⟨y,rfl⟩:∃ y:Nat,x=(y:Int):=⟨x.toNat,by omega⟩
 have hy:y<4294967296:=by omega
 have e0:(4294967296:Nat)=2 ^ n*2 ^ (32 - n):=by rw [←Nat.pow_add,show n+(32 - n)=32 by omega]
 have e1:w32 ((y:Int)*2 ^ (32 - n))=((y % 2 ^ n*2 ^ (32 - n):Nat):Int):=by
  rw [Gn]
  have h5:((y:Int)*2 ^ (32 - n))=((y*2 ^ (32 - n):Nat):Int):=by push_cast;rfl
  have h6:y*2 ^ (32 - n) % 4294967296=y % 2 ^ n*2 ^ (32 - n):=by rw [e0,Nat.mul_mod_mul_right]
  rw [h5,←h6]
  omega
 have e2:((y:Int) / 2 ^ n)=((y / 2 ^ n:Nat):Int):=by push_cast;rfl
 have hp:0<2 ^ n:=Nat.two_pow_pos n
 have hp2:0<2 ^ (32 - n):=Nat.two_pow_pos _
 have hm:y % 2 ^ n<2 ^ n:=Nat.mod_lt _ hp
 have hd:y / 2 ^ n<2 ^ (32 - n):=Nat.div_lt_of_lt_mul (by rw [←e0];exact hy)
 rw [e1,e2,GAa hd (by rw [e0];exact Nat.mul_lt_mul_of_pos_right hm hp2) (Nat.lt_of_le_of_lt (Nat.div_le_self _ _) hy)]
 unfold rt
 push_cast
 omega
def sg0 (x:Int):Int:=xr (xr (rt 128 33554432 x) (rt 262144 16384 x)) (x / 8)
def sg1 (x:Int):Int:=xr (xr (rt 131072 32768 x) (rt 524288 8192 x)) (x / 1024)
def ep1 (x:Int):Int:=xr (xr (rt 64 67108864 x) (rt 2048 2097152 x)) (rt 33554432 128 x)
def ep0 (x:Int):Int:=xr (xr (rt 4 1073741824 x) (rt 8192 524288 x)) (rt 4194304 1024 x)
def OAo (w:List Int) (t:Nat):Int:=w32 (w32 (w32 (sg1 (w.getD (t - 2) 0)+w.getD (t - 7) 0)+sg0 (w.getD (t - 15) 0))+w.getD (t - 16) 0)
def sched (w:List Int):Nat→List Int
 | 0=>w
 | n+1=>sched w n++[OAo (sched w n) (16+n)]
theorem P8 {w:List Int} (h:w.length=16) (n:Nat):(sched w n).length=16+n:=by
 induction n with
 | zero=>exact h
 | succ n ih=>simp [sched,ih];omega
theorem YAE {w:List Int} (h:∀ x ∈ w,R32 x) (n:Nat):∀ x ∈ sched w n,R32 x:=by
 induction n with
 | zero=>exact h
 | succ n ih=>
  intro x hx
  rw [sched,List.mem_append,List.mem_singleton] at hx
  rcases hx with hx | rfl
  ·exact ih x hx
  ·exact Qa _
theorem Q8 {l:List Int} (h:∀ x ∈ l,R32 x) (i:Nat):R32 (l.getD i 0):=by
 by_cases hi:i<l.length
 ·rw [getD_at hi];exact h _ (List.getElem_mem hi)
 ·have:l.getD i 0=0:=by simp [List.getD,List.getElem?_eq_none (Nat.le_of_not_lt hi)]
  rw [this];unfold R32;omega
structure Reg where
 a:Int
 b:Int
 c:Int
 d:Int
 e:Int
 f:Int
 g:Int
 h:Int
def Reg.ok (r:Reg):Prop:=R32 r.a∧R32 r.b∧R32 r.c∧R32 r.d∧R32 r.e∧R32 r.f∧R32 r.g∧R32 r.h
def Reg.l (r:Reg):List Int:=[r.a,r.b,r.c,r.d,r.e,r.f,r.g,r.h]
theorem Reg.U8 (r:Reg):r.l.length=8:=rfl
def t1 (r:Reg) (k w:Int):Int:=w32 (w32 (w32 (w32 (r.h+ep1 r.e)+xr (an r.e r.f) (an (w32 (4294967295 - r.e)) r.g))+k)+w)
def t2 (r:Reg):Int:=w32 (ep0 r.a+xr (xr (an r.a r.b) (an r.a r.c)) (an r.b r.c))
def Ve (r:Reg) (k w:Int):Reg:=⟨w32 (t1 r k w+t2 r),r.a,r.b,r.c,w32 (r.d+t1 r k w),r.e,r.f,r.g⟩
theorem PAo {r:Reg} (h:r.ok) (k w:Int):(Ve r k w).ok:=⟨Qa _,h.1,h.2.1,h.2.2.1,Qa _,h.2.2.2.2.1,h.2.2.2.2.2.1,h.2.2.2.2.2.2.1⟩
def NZ (K W:List Int) (r:Reg):Nat→Reg
 | 0=>r
 | n+1=>Ve (NZ K W r n) (K.getD n 0) (W.getD n 0)
theorem KAa (K W:List Int) {r:Reg} (h:r.ok) (n:Nat):(NZ K W r n).ok:=by
 induction n with
 | zero=>exact h
 | succ n ih=>exact PAo ih _ _
def Pn (s r:Reg):Reg:=⟨w32 (s.a+r.a),w32 (s.b+r.b),w32 (s.c+r.c),w32 (s.d+r.d),w32 (s.e+r.e),w32 (s.f+r.f),w32 (s.g+r.g),w32 (s.h+r.h)⟩
theorem QAo (s r:Reg):(Pn s r).ok:=⟨Qa _,Qa _,Qa _,Qa _,Qa _,Qa _,Qa _,Qa _⟩
def keysL:List Int:=[1116352408,1899447441,3049323471,3921009573,961987163,1508970993,2453635748,2870763221,3624381080,310598401,607225278,1426881987,1925078388,2162078206,2614888103,3248222580,3835390401,4022224774,264347078,604807628,770255983,1249150122,1555081692,1996064986,2554220882,2821834349,2952996808,3210313671,3336571891,3584528711,113926993,338241895,666307205,773529912,1294757372,1396182291,1695183700,1986661051,2177026350,2456956037,2730485921,2820302411,3259730800,3345764771,3516065817,3600352804,4094571909,275423344,430227734,506948616,659060556,883997877,958139571,1322822218,1537002063,1747873779,1955562222,2024104815,2227730452,2361852424,2428436474,2756734187,3204031479,3329325298]
def be4 (a b c d:Int):Int:=a*16777216+b*65536+c*256+d
def wordAt (l:List Int) (i:Nat):Int:=be4 (l.getD (4*i) 0) (l.getD (4*i+1) 0) (l.getD (4*i+2) 0) (l.getD (4*i+3) 0)
def JY (l:List Int) (n:Nat):List Int:=(List.range n).map (wordAt l)
theorem Yh (l:List Int) (n:Nat):(JY l n).length=n:=by simp [JY]
theorem LAa (l:List Int) (n:Nat):JY l (n+1)=JY l n++[wordAt l n]:=by simp [JY,List.range_succ]
theorem RAo {a b c d:Int} (ha:0≤a∧a≤255) (hb:0≤b∧b≤255) (hc:0≤c∧c≤255) (hd:0≤d∧d≤255):R32 (be4 a b c d):=by unfold R32 be4;omega
theorem SAo {l:List Int} (h:IY l) (i:Nat):R32 (wordAt l i):=RAo (YZ h _) (YZ h _) (YZ h _) (YZ h _)
theorem HAR {l:List Int} (h:IY l) (n:Nat):∀ x ∈ JY l n,R32 x:=by
 intro x hx
 simp only [JY,List.mem_map] at hx
 obtain ⟨i,_,rfl⟩:=hx
 exact SAo h i
def comp (s:Reg) (b:List Int):Reg:=Pn s (NZ keysL (sched (JY b 16) 48) s 64)
theorem MAa (s:Reg) (b:List Int):(comp s b).ok:=QAo _ _
def comps:Nat→Reg→List Int→Reg
 | 0,s,_=>s
 | n+1,s,b=>comps n (comp s (b.take 64)) (b.drop 64)
theorem Qn {s:Reg} (h:s.ok):∀ (n:Nat) (b:List Int),(comps n s b).ok:=by
 intro n
 induction n generalizing s with
 | zero=>intro b;exact h
 | succ n ih=>intro b;exact ih (MAa _ _) _
theorem NAa (n m:Nat):∀ (s:Reg) (b:List Int),comps (n+m) s b=comps m (comps n s b) (b.drop (64*n)):=by
 induction n with
 | zero=>intro s b;simp [comps]
 | succ n ih=>
  intro s b
  rw [Nat.add_right_comm,comps,comps,ih,List.drop_drop]
  congr 2
  omega
theorem TAo (n:Nat):∀ (s:Reg) (b c:List Int),64*n≤b.length→comps n s (b++c)=comps n s b:=by
 induction n with
 | zero=>intro s b c _;rfl
 | succ n ih=>
  intro s b c h
  rw [comps,comps,List.take_append_of_le_length (by omega),List.drop_append_of_le_length (by omega),ih _ _ _ (by simp;omega)]
def four (x:Int):List Int:=[x / 16777216,x / 65536 % 256,x / 256 % 256,x % 256]
theorem Zm {x:Int} (h:R32 x):IY (four x):=by
 intro n hn
 unfold R32 at h
 simp only [four,List.mem_cons,List.not_mem_nil,or_false] at hn
 rcases hn with rfl | rfl | rfl | rfl <;> omega
def EY (ws:List Int):List Int:=ws.flatMap four
theorem Yq (ws:List Int):(EY ws).length=4*ws.length:=by
 induction ws with
 | nil=>rfl
 | cons w ws ih=>
  rw [show EY (w::ws)=four w++EY ws from rfl,List.length_append,ih]
  simp only [four,List.length_cons,List.length_nil];omega
theorem IAR {ws:List Int} (h:∀ x ∈ ws,R32 x):IY (EY ws):=by
 intro n hn
 simp only [EY,List.mem_flatMap] at hn
 obtain ⟨x,hx,hn⟩:=hn
 exact Zm (h x hx) n hn
theorem OAa (a b:List Int):EY (a++b)=EY a++EY b:=by simp [EY]
theorem UAo {x:Int} (h:R32 x):be4 (x / 16777216) (x / 65536 % 256) (x / 256 % 256) (x % 256)=x:=by unfold R32 at h;unfold be4;omega
theorem PAa:∀ {ws:List Int} (_:∀ x ∈ ws,R32 x) {i:Nat} (hi:i<ws.length),wordAt (EY ws) i=ws[i]
 | w::ws,h,0,_=>by
  have:=UAo (h w (List.mem_cons_self ..))
  simpa [wordAt,EY,four] using this
 | w::ws,h,i+1,hi=>by
  have ih:=PAa (ws:=ws) (fun x hx=>h x (List.mem_cons_of_mem _ hx)) (i:=i) (by simpa using hi)
  rw [List.getElem_cons_succ,←ih]
  have e:∀ j,(EY (w::ws)).getD (j+4) 0=(EY ws).getD j 0:=fun j=>by simp [EY,four,List.getD]
  unfold wordAt
  rw [show 4*(i+1)=4*i+4 by omega,show 4*i+4+1=(4*i+1)+4 by omega,show 4*i+4+2=(4*i+2)+4 by omega,show 4*i+4+3=(4*i+3)+4 by omega,e,e,e,e]
theorem VAo {ws:List Int} (h:∀ x ∈ ws,R32 x):JY (EY ws) ws.length=ws:=by
 apply List.ext_getElem
 ·rw [Yh]
 ·intro i h1 h2
  simp only [JY,List.getElem_map,List.getElem_range]
  exact PAa h h2
theorem Reg.Rn {r:Reg} (h:r.ok):∀ x ∈ r.l,R32 x:=by
 intro x hx
 simp only [Reg.l,List.mem_cons,List.not_mem_nil,or_false] at hx
 obtain ⟨h1,h2,h3,h4,h5,h6,h7,h8⟩:=h
 rcases hx with rfl | rfl | rfl | rfl | rfl | rfl | rfl | rfl <;> assumption
def Oc:Reg:=⟨1779033703,3144134277,1013904242,2773480762,1359893119,2600822924,528734635,1541459225⟩
theorem Aj:Oc.ok:=by unfold Reg.ok R32 Oc;decide
def Xe (n:Int):List Int:=[0,0,0,n / 4294967296 % 256,n / 16777216 % 256,n / 65536 % 256,n / 256 % 256,n % 256]
def KY (n:Nat):List Int:=128::(List.replicate ((119 - n % 64) % 64) 0++Xe (8*(n:Int)))
theorem ZAE (n:Nat):(KY n).length=9+(119 - n % 64) % 64:=by simp [KY,Xe];omega
theorem WAo (n:Nat):(n+(KY n).length) % 64=0:=by rw [ZAE];omega
theorem JAR (n:Nat):IY (KY n):=by
 intro x hx
 simp only [KY,Xe,List.mem_cons,List.mem_append,List.mem_replicate,List.not_mem_nil,or_false] at hx
 omega
def Ac (b:List Int):List Int:=EY (comps ((b.length+(KY b.length).length) / 64) Oc (b++KY b.length)).l
def OZ (s:ByteArray):ByteArray:=ofBytes (Ac (bs s))
theorem KAR (b:List Int):(Ac b).length=32:=by rw [Ac,Yq];rfl
theorem QAa (b:List Int):IY (Ac b):=IAR (Reg.Rn (Qn Aj _ _))
theorem Zh (s:ByteArray):(OZ s).size=32:=by rw [OZ,ofBytes_size,KAR]
theorem AAF (s:ByteArray):bs (OZ s)=Ac (bs s):=SN (QAa _)
theorem XAo {x:Int} (h:R32 x):[w8 (w32 (x.tdiv 16777216)),w8 ((w32 (x.tdiv 65536)).tmod 256),w8 ((w32 (x.tdiv 256)).tmod 256),w8 (x.tmod 256)]=four x:=by
 obtain ⟨h1,h2⟩:=h
 rw [Int.tdiv_eq_ediv_of_nonneg h1,Int.tdiv_eq_ediv_of_nonneg h1,Int.tdiv_eq_ediv_of_nonneg h1,Int.tmod_eq_emod_of_nonneg h1]
 rw [Fb (n:=x / 16777216) (by omega) (by omega),Fb (n:=x / 65536) (by omega) (by omega),Fb (n:=x / 256) (by omega) (by omega)]
 rw [Int.tmod_eq_emod_of_nonneg (by omega),Int.tmod_eq_emod_of_nonneg (by omega)]
 simp only [four,w8_mod,List.cons.injEq,and_true]
 omega
theorem LAR {ws:List Int} (h:∀ x ∈ ws,R32 x) (hl:ws.length≤1000000000000):Tc ws=some (ofBytes (EY ws)):=by
 have key:=loopN (A:=Unit) (n:=ws.length) (Lp:=Px) (st:=fun i _=>.c0 ws (i:Int) (EY (ws.take i))) (Inv:=fun _ _=>True) (out:=fun _ _=>some (ofBytes (EY ws)))
  (fun m _ _=>by
   simp only [Px,KAB]
   rw [NM (by simp),List.take_length])
  (fun m i _ hi _=>.inr ⟨(),by
   have e:w64 ((i:Int)+1)=((i+1:Nat):Int):=by rw [w64_id (by omega) (by omega)];rfl
   simp only [Px,KAB,e,Int.toNat_natCast]
   rw [TB (by simp;omega),TB (by simp;omega),TB (by rw [Yq,List.length_take];simp;omega)]
   rw [getD_at hi,XAo (h _ (List.getElem_mem hi)),take_at hi,OAa]
   simp [EY],trivial,rfl⟩)
 exact key gas 0 () (Nat.zero_le _) (gas_lt (by omega)) trivial
def Ai:SHasher:=⟨ofBytes (EY Oc.l),⟨#[]⟩,0⟩
theorem YAo:Rx=some Ai:=by
 have h:=LAR (ws:=Oc.l) (Reg.Rn Aj) (by decide)
 have e:JAB=some Oc.l:=rfl
 simp only [Rx,OAK,e,h,Option.bind_some]
 rfl
theorem RAa {h:SHasher} (h1:h.fState.size=32) (h2:h.fRest.size<64) (h3:0≤h.fCount∧h.fCount≤1000000000) (h4:h.fCount % 64=(h.fRest.size:Int)):Bc h=some true:=by
 have e:FN h.fCount 0 1000000000=true:=by rw [DY];omega
 simp only [Bc,PAK,Eb,Option.bind_some,e]
 rw [TB (by simp;omega),TB (by simp;omega),cond_true,Int.tmod_eq_emod_of_nonneg h3.1,h4]
 simp
theorem ZAo {s:ByteArray} {i:Nat} (h:4*i+4≤s.size) (hs:s.size≤9000000000000000000):Yk s ((4*i:Nat):Int)=some (wordAt (bs s) i):=by
 have hb:=Yc s
 have e1:w64 (((4*i:Nat):Int)+1)=((4*i+1:Nat):Int):=by rw [w64_id (by omega) (by omega)];rfl
 have e2:w64 (((4*i:Nat):Int)+2)=((4*i+2:Nat):Int):=by rw [w64_id (by omega) (by omega)];rfl
 have e3:w64 (((4*i:Nat):Int)+3)=((4*i+3:Nat):Int):=by rw [w64_id (by omega) (by omega)];rfl
 simp only [Yk,QAK,e1,e2,e3]
 rw [TB (by simp;omega),TB (by simp;omega),TB (by simp;omega),TB (by simp;omega)]
 rw [Me (by omega),Me (by omega),Me (by omega),Me (by omega)]
 have b0:=YZ hb (4*i)
 have b1:=YZ hb (4*i+1)
 have b2:=YZ hb (4*i+2)
 have b3:=YZ hb (4*i+3)
 unfold wordAt be4
 simp only [Gn]
 congr 1
 omega
theorem SAa {s:ByteArray} (hs:s.size≤1000000000000):Va s=some (JY (bs s) (s.size / 4)):=by
 have key:=loopN (A:=Unit) (n:=s.size / 4) (Lp:=Vx) (st:=fun i _=>.c0 s ((4*i:Nat):Int) (JY (bs s) i)) (Inv:=fun _ _=>True) (out:=fun _ _=>some (JY (bs s) (s.size / 4)))
  (fun m _ _=>by
   simp only [Vx,NAB]
   rw [w64_id (by omega) (by omega),NM (by simp;omega)])
  (fun m i _ hi _=>.inr ⟨(),by
   have e:w64 (((4*i:Nat):Int)+4)=((4*(i+1):Nat):Int):=by rw [w64_id (by omega) (by omega)];omega
   simp only [Vx,NAB,e,ZAo (s:=s) (i:=i) (by omega) (by omega),Option.bind_some,Yh,LAa]
   rw [TB (by simp;omega),TB (by simp;omega)],trivial,rfl⟩)
 exact key gas 0 () (Nat.zero_le _) (gas_lt (by omega)) trivial
theorem Bg {x low high:Int} (h:R32 x) (hl:0<low) (hh:0<high) (hlh:low*high=4294967296):Wx x low high=some (rt low high x):=by
 have hr:=MAo h hl hh hlh
 obtain ⟨h1,h2⟩:=h
 have e0:(!(low == 0))=true:=by simp;omega
 have d1:0≤x / low:=Int.ediv_nonneg h1 (by omega)
 have d2:0≤x % low*high:=Int.mul_nonneg (Int.emod_nonneg _ (by omega)) (by omega)
 unfold R32 rt at hr
 simp only [Wx,TAK,e0,cond_true,Int.tdiv_eq_ediv_of_nonneg h1,Int.tmod_eq_emod_of_nonneg h1]
 rw [Fb d1 (by omega),Fb d2 (by omega),Fb (by omega) (by omega)]
 rfl
theorem AAp {x:Int} (h:R32 x):Cc x 131072 524288 1024 true=some (sg1 x):=by
 have e1:w32 (w32 ((2147483648:Int).tdiv 131072)*2)=32768:=by decide
 have e2:w32 (w32 ((2147483648:Int).tdiv 524288)*2)=8192:=by decide
 have e3:w32 (x.tdiv 1024)=x / 1024:=by
  obtain ⟨h1,h2⟩:=h
  rw [Int.tdiv_eq_ediv_of_nonneg h1,Fb (by omega) (by omega)]
 simp only [Cc,Xo,e1,e2,e3,Bg h (low:=131072) (high:=32768) (by omega) (by omega) (by omega),Bg h (low:=524288) (high:=8192) (by omega) (by omega) (by omega),Option.bind_some,Je]
 rfl
theorem BAp {x:Int} (h:R32 x):Cc x 128 262144 8 true=some (sg0 x):=by
 have e1:w32 (w32 ((2147483648:Int).tdiv 128)*2)=33554432:=by decide
 have e2:w32 (w32 ((2147483648:Int).tdiv 262144)*2)=16384:=by decide
 have e3:w32 (x.tdiv 8)=x / 8:=by
  obtain ⟨h1,h2⟩:=h
  rw [Int.tdiv_eq_ediv_of_nonneg h1,Fb (by omega) (by omega)]
 simp only [Cc,Xo,e1,e2,e3,Bg h (low:=128) (high:=33554432) (by omega) (by omega) (by omega),Bg h (low:=262144) (high:=16384) (by omega) (by omega) (by omega),Option.bind_some,Je]
 rfl
theorem CAp {x:Int} (h:R32 x):Cc x 64 2048 33554432 false=some (ep1 x):=by
 have e1:w32 (w32 ((2147483648:Int).tdiv 64)*2)=67108864:=by decide
 have e2:w32 (w32 ((2147483648:Int).tdiv 2048)*2)=2097152:=by decide
 have e3:w32 (w32 ((2147483648:Int).tdiv 33554432)*2)=128:=by decide
 simp only [Cc,Xo,e1,e2,e3,Bg h (low:=64) (high:=67108864) (by omega) (by omega) (by omega),Bg h (low:=2048) (high:=2097152) (by omega) (by omega) (by omega),Bg h (low:=33554432) (high:=128) (by omega) (by omega) (by omega),Option.bind_some,Je]
 rfl
theorem DAp {x:Int} (h:R32 x):Cc x 4 8192 4194304 false=some (ep0 x):=by
 have e1:w32 (w32 ((2147483648:Int).tdiv 4)*2)=1073741824:=by decide
 have e2:w32 (w32 ((2147483648:Int).tdiv 8192)*2)=524288:=by decide
 have e3:w32 (w32 ((2147483648:Int).tdiv 4194304)*2)=1024:=by decide
 simp only [Cc,Xo,e1,e2,e3,Bg h (low:=4) (high:=1073741824) (by omega) (by omega) (by omega),Bg h (low:=8192) (high:=524288) (by omega) (by omega) (by omega),Bg h (low:=4194304) (high:=1024) (by omega) (by omega) (by omega),Option.bind_some,Je]
 rfl
theorem TAa (s r:Reg):∀ i,i<8→(Pn s r).l.getD i 0=w32 (s.l.getD i 0+r.l.getD i 0)
 | 0,_=>rfl | 1,_=>rfl | 2,_=>rfl | 3,_=>rfl | 4,_=>rfl | 5,_=>rfl | 6,_=>rfl | 7,_=>rfl
 | n+8,h=>by omega
theorem UAt (n:Nat) (h:n<9223372036854775807):∃ m,gas=m+n:=⟨gas - n,by have:=gas_lt h;omega⟩
theorem EAp (s r:Reg):∀ (j i m:Nat),i+j=8→WZ (m+j+1) (.c3 s.l (i:Int) r.l ((Pn s r).l.take i))=some (Pn s r).l:=by
 intro j
 induction j with
 | zero=>
  intro i m h
  obtain rfl:i=8:=by omega
  simp only [WZ,Jf]
  rfl
 | succ j ih=>
  intro i m h
  have e:w64 ((i:Int)+1)=((i+1:Nat):Int):=by rw [w64_id (by omega) (by omega)];rfl
  have hl:∀ q:Reg,q.l.length=8:=fun _=>rfl
  rw [show m+(j+1)+1=(m+j+1)+1 by omega]
  simp only [WZ,Jf,e,Int.toNat_natCast]
  rw [TB (by simp;omega),TB (by simp [hl];omega),TB (by simp [hl];omega),TB (by simp [hl];omega)]
  have h3:=ih (i+1) m (by omega)
  rw [take_at (by rw [hl];omega),←getD_at (by rw [hl];omega) 0,TAa _ _ _ (by omega)] at h3
  exact h3
def shL:Nat→List Int→List Int
 | 0,v=>v
 | i+1,v=>shL i (v.set (i+1) (v.getD i 0))
theorem FAp (t o W:List Int) (k T1 T2:Int) (hk:0≤k∧k<64):∀ (i m:Nat) (v:List Int),i<8→v.length=8→WZ (m+i+1) (.c2 t o k T1 T2 (i:Int) W v)=WZ m (.c1 t o (k+1) W (((shL i v).set 4 (w32 ((shL i v).getD 4 0+T1))).set 0 (w32 (T1+T2)))):=by
 intro i
 induction i with
 | zero=>
  intro m v _ hl
  have e:w64 (k+1)=k+1:=w64_id (by omega) (by omega)
  simp only [WZ,Jf,e]
  rw [NM (by simp),TB (by simp [hl]),TB (by simp [hl]),TB (by simp [hl])]
  rfl
 | succ i ih=>
  intro m v hi hl
  have e:w64 (((i+1:Nat):Int) - 1)=(i:Int):=by rw [w64_id (by omega) (by omega)];omega
  rw [show m+(i+1)+1=(m+i+1)+1 by omega]
  rw [WZ]
  simp only [Jf,e,Int.toNat_natCast]
  rw [TB (by simp;try omega),TB (by simp [hl];try omega),TB (by simp [hl];try omega),ih m _ (by omega) (by simp [hl])]
  rfl
theorem GAp (t W:List Int) (r:Reg) (hr:r.ok) (hW:∀ x ∈ W,R32 x) (hWl:W.length=64) (i m:Nat) (hi:i<64) :
  WZ (m+9) (.c1 t keysL (i:Int) W r.l)=WZ m (.c1 t keysL ((i:Int)+1) W (Ve r (keysL.getD i 0) (W.getD i 0)).l):=by
 obtain ⟨h1,h2,h3,h4,h5,h6,h7,h8⟩:=hr
 have hk:keysL.length=64:=rfl
 have g (q:Reg):q.l.getD 0 0=q.a∧q.l.getD 1 0=q.b∧q.l.getD 2 0=q.c∧q.l.getD 4 0=q.e∧q.l.getD 5 0=q.f∧q.l.getD 6 0=q.g∧q.l.getD 7 0=q.h:=⟨rfl,rfl,rfl,rfl,rfl,rfl,rfl⟩
 obtain ⟨g0,g1,g2,g4,g5,g6,g7⟩:=g r
 have hl:r.l.length=8:=rfl
 have z4:(4:Int).toNat=4:=rfl
 have z5:(5:Int).toNat=5:=rfl
 have z6:(6:Int).toNat=6:=rfl
 have z7:(7:Int).toNat=7:=rfl
 have z0:(0:Int).toNat=0:=rfl
 have z1:(1:Int).toNat=1:=rfl
 have z2:(2:Int).toNat=2:=rfl
 rw [show m+9=(m+7+1)+1 by omega,WZ]
 simp only [Jf,z0,z1,z2,z4,z5,z6,z7,g0,g1,g2,g4,g5,g6,g7,hl,hk,hWl,CAp h5,DAp h1,Option.bind_some,Je,WAQ,Int.toNat_natCast]
 rw [TB (by simp;omega),TB (by simp),TB (by simp),TB (by simp),TB (by simp),TB (by simp;omega),TB (by simp;omega),TB (by simp),TB (by simp),TB (by simp),TB (by simp),TB (by simp),TB (by simp),TB (by simp)]
 exact FAp t keysL W (i:Int) (t1 r (keysL.getD i 0) (W.getD i 0)) (t2 r) (by omega) 7 m r.l (by omega) rfl
theorem HAp (s:Reg) (hs:s.ok) (W:List Int) (hW:∀ x ∈ W,R32 x) (hWl:W.length=64):∀ (j i m:Nat),i+j=64→WZ (m+9*j+10) (.c1 s.l keysL (i:Int) W (NZ keysL W s i).l)=some (Pn s (NZ keysL W s 64)).l:=by
 intro j
 induction j with
 | zero=>
  intro i m h
  obtain rfl:i=64:=by omega
  rw [show m+9*0+10=(m+8+1)+1 by omega,WZ]
  simp only [Jf]
  rw [NM (by simp)]
  exact EAp s _ 8 0 m (by omega)
 | succ j ih=>
  intro i m h
  rw [show m+9*(j+1)+10=(m+9*j+10)+9 by omega,GAp s.l W _ (KAa keysL W hs i) hW hWl i _ (by omega)]
  exact ih (i+1) m (by omega)
theorem IAp (s:Reg) (hs:s.ok) (w:List Int) (hw:∀ x ∈ w,R32 x) (hwl:w.length=16):∀ (j i m:Nat),i+j=48→WZ (m+9*64+10+1+j) (.c0 s.l keysL ((16+i:Nat):Int) (sched w i))=some (Pn s (NZ keysL (sched w 48) s 64)).l:=by
 intro j
 induction j with
 | zero=>
  intro i m h
  obtain rfl:i=48:=by omega
  rw [show m+9*64+10+1+0=(m+9*64+10)+1 by omega,WZ]
  simp only [Jf]
  rw [NM (by simp),TB (by simp [Reg.l])]
  exact HAp s hs _ (YAE hw 48) (P8 hwl 48) 64 0 m (by omega)
 | succ j ih=>
  intro i m h
  have hl:=P8 hwl i
  have hr:=YAE hw i
  have e2:w64 (((16+i:Nat):Int) - 2)=((16+i - 2:Nat):Int):=by rw [w64_id (by omega) (by omega)];omega
  have e7:w64 (((16+i:Nat):Int) - 7)=((16+i - 7:Nat):Int):=by rw [w64_id (by omega) (by omega)];omega
  have e15:w64 (((16+i:Nat):Int) - 15)=((16+i - 15:Nat):Int):=by rw [w64_id (by omega) (by omega)];omega
  have e16:w64 (((16+i:Nat):Int) - 16)=((16+i - 16:Nat):Int):=by rw [w64_id (by omega) (by omega)];omega
  have e1:w64 (((16+i:Nat):Int)+1)=((16+(i+1):Nat):Int):=by rw [w64_id (by omega) (by omega)];omega
  rw [show m+9*64+10+1+(j+1)=(m+9*64+10+1+j)+1 by omega,WZ]
  simp only [Jf,e1,e2,e7,e15,e16,Int.toNat_natCast,hl,AAp (Q8 hr _),BAp (Q8 hr _),Option.bind_some]
  rw [TB (by simp;omega),TB (by simp;omega),TB (by simp;omega),TB (by simp;omega),TB (by simp;omega),TB (by simp;omega)]
  exact ih (i+1) m (by omega)
theorem UAa {s:Reg} (hs:s.ok) {b:ByteArray} (hb:b.size=64):Vd s.l keysL b=some (comp s (bs b)).l:=by
 have hr:=HAR (Yc b) 16
 obtain ⟨m,hm⟩:∃ m,gas=m+9*64+10+1+48:=⟨gas - 635,by have:=gas_lt (n:=635) (by omega);omega⟩
 have h:=IAp s hs _ hr (Yh _ 16) 48 0 m (by omega)
 have e0:((16+0:Nat):Int)=16:=rfl
 rw [e0,show sched (JY (bs b) 16) 0=JY (bs b) 16 from rfl] at h
 rw [Vd,UAK,SAa (s:=b) (by omega),Option.bind_some,hb,hm]
 exact h
theorem VAa:Hf=some keysL:=rfl
theorem JAp (b:List Int) (i:Nat):(b.take (64*i+64)).drop (64*i)=(b.drop (64*i)).take 64:=by
 rw [List.drop_take];congr 1;omega
theorem WAa (i:Nat) (s:Reg) (b:List Int):comps (i+1) s b=comp (comps i s b) ((b.drop (64*i)).take 64):=by
 rw [NAa i 1];rfl
theorem XAa {r:Reg} (h:r.ok):Va (ofBytes (EY r.l))=some r.l:=by
 have hs:(ofBytes (EY r.l)).size=32:=by rw [ofBytes_size,Yq];rfl
 rw [SAa (by omega),hs,SN (IAR (Reg.Rn h))]
 exact congrArg some (VAo (Reg.Rn h))
theorem KAp {s:ByteArray} (hs:s.size≤1000000000):Dy Ai s=some ⟨ofBytes (EY (comps (s.size / 64) Oc (bs s)).l),s.extract (64*(s.size / 64)) s.size,(s.size:Int)⟩:=by
 have e0:Bc Ai=some true:=RAa (by rw [Ai,ofBytes_size,Yq];rfl) (by decide) (by decide) (by decide)
 have e1:((⟨#[]⟩:ByteArray)++s)=s:=Ob (by rw [XY];rfl)
 have key:=loopN (A:=Unit) (n:=s.size / 64) (Lp:=Zx) (st:=fun i _=>.c0 s s ((64*i:Nat):Int) Ai (⟨(⟨#[]⟩:ByteArray),(⟨#[]⟩:ByteArray),(0:Int)⟩:SHasher) (comps i Oc (bs s)).l keysL) (Inv:=fun _ _=>True)
  (out:=fun _ _=>some ⟨ofBytes (EY (comps (s.size / 64) Oc (bs s)).l),s.extract (64*(s.size / 64)) s.size,(s.size:Int)⟩)
  (fun m _ _=>by
   have hw:w64 (Ai.fCount+(s.size:Int))=(s.size:Int):=by
    show w64 ((0:Int)+(s.size:Int))=_
    rw [Int.zero_add,w64_id (by omega) (by omega)]
   rw [Zx]
   simp only [RAB,hw,Int.toNat_natCast]
   rw [w64_id (by omega) (by omega),NM (by simp;omega),LAR (Reg.Rn (Qn Aj _ _)) (by simp [Reg.l]),Option.bind_some,TB (by simp;omega)])
  (fun m i _ hi _=>.inr ⟨(),by
   have e:w64 (((64*i:Nat):Int)+64)=((64*(i+1):Nat):Int):=by rw [w64_id (by omega) (by omega)];omega
   rw [Zx]
   simp only [RAB,e,Int.toNat_natCast]
   rw [TB (by simp;omega),TB (by simp;omega),UAa (Qn Aj _ _) (by simp;omega),Option.bind_some,UZ,show 64*(i+1)=64*i+64 by omega,JAp,←WAa],trivial,rfl⟩)
 rw [Dy,WAK,e0,Option.bind_some,NM (by rfl)]
 have hw:w64 (Ai.fCount+(s.size:Int))=(s.size:Int):=by
  show w64 ((0:Int)+(s.size:Int))=_
  rw [Int.zero_add,w64_id (by omega) (by omega)]
 rw [hw,NM (by simp;omega),show Ai.fState=ofBytes (EY Oc.l) from rfl,XAa Aj,Option.bind_some,VAa,Option.bind_some,show Ai.fRest=⟨#[]⟩ from rfl,e1]
 rw [TB (by (have:(⟨#[]⟩:ByteArray).size=0:=rfl);simp only [this,decide_eq_true_eq];omega)]
 exact key gas 0 () (Nat.zero_le _) (gas_lt (by omega)) trivial
def Tn (b:Int):Nat→List Int
 | 0=>[]
 | i+1=>(b / 256 ^ i % 256)::Tn b i
def Fg:Nat→Nat
 | 0=>0
 | i+1=>Fg i+(i+2)
theorem LAp (x:Int) (j:Nat):x / 256 / 256 ^ j=x / 256 ^ (j+1):=by
 rw [Int.ediv_ediv_of_nonneg (by omega)]
 congr 1
 rw [Int.pow_succ,Int.mul_comm]
theorem MAp (h:SHasher) (b:Int):∀ (j k i m:Nat) (x:Int) (t:List Int),k+j=i→i≤7→0≤x→x≤9223372036854775807→t.length≤1000→
  XZ (m+j+1) (.c2 b (i:Int) x (k:Int) h t)=XZ m (.c1 b ((i:Int) - 1) h (t++[x / 256 ^ j % 256])):=by
 intro j
 induction j with
 | zero=>
  intro k i m x t hk hi hx hx2 ht
  have e:w64 ((i:Int) - 1)=(i:Int) - 1:=w64_id (by omega) (by omega)
  have e2:w8 (x.tmod 256)=x % 256:=by rw [Int.tmod_eq_emod_of_nonneg hx,w8_id (by omega) (by omega)]
  rw [XZ]
  simp only [Rf,e,e2]
  rw [NM (by simp;omega),TB (by simp;omega),Int.pow_zero,Int.ediv_one]
 | succ j ih=>
  intro k i m x t hk hi hx hx2 ht
  have e:w64 ((k:Int)+1)=((k+1:Nat):Int):=by rw [w64_id (by omega) (by omega)];rfl
  have e2:w64 (x.tdiv 256)=x / 256:=by rw [Int.tdiv_eq_ediv_of_nonneg hx,w64_id (by omega) (by omega)]
  rw [show m+(j+1)+1=(m+j+1)+1 by omega,XZ]
  simp only [Rf,e,e2]
  rw [TB (by simp;omega),ih (k+1) i m (x / 256) t (by omega) hi (by omega) (by omega) ht,LAp]
theorem NAp (h:SHasher) (b:Int) (hb:0≤b) (hb2:b≤9223372036854775807):∀ (i m:Nat) (t:List Int),i≤8→t.length+i≤900→XZ (m+Fg i) (.c1 b ((i:Int) - 1) h t)=XZ m (.c1 b (-1) h (t++Tn b i)):=by
 intro i
 induction i with
 | zero=>intro m t _ _;simp [Fg,Tn]
 | succ i ih=>
  intro m t hi ht
  rw [Fg,show m+(Fg i+(i+2))=(m+Fg i)+i+1+1 by omega,XZ,show ((i+1:Nat):Int) - 1=(i:Int) by omega]
  simp only [Rf]
  rw [TB (by simp),show (0:Int)=((0:Nat):Int) from rfl,MAp h b i 0 i _ b t (by omega) (by omega) hb hb2 (by omega),ih m _ (by omega) (by simp;omega)]
  simp [Tn]
theorem OAp {b:Int} (h:0≤b) (h2:b<1099511627776):Tn b 8=Xe b:=by
 simp only [Tn,Xe,List.cons.injEq,and_true]
 omega
theorem PAp (r:Reg) (hr:r.ok) (t:List Int) (ht:IY t) (n:Nat) (hn:t.length=64*n) (hn2:n≤100):∀ (j i m:Nat),i+j=n→XZ (m+j+1) (.c3 ((64*i:Nat):Int) t (comps i r t).l keysL)=some (ofBytes (EY (comps n r t).l)):=by
 intro j
 induction j with
 | zero=>
  intro i m h
  obtain rfl:i=n:=by omega
  rw [XZ]
  simp only [Rf]
  rw [NM (by simp;omega),LAR (Reg.Rn (Qn hr _ _)) (by simp [Reg.l]),Option.bind_some]
 | succ j ih=>
  intro i m h
  have e:w64 (((64*i:Nat):Int)+64)=((64*(i+1):Nat):Int):=by rw [w64_id (by omega) (by omega)];omega
  have hl:((t.drop (64*i)).take (64*(i+1) - 64*i)).length=64:=by rw [List.length_take,List.length_drop];omega
  have hby:IY ((t.drop (64*i)).take (64*(i+1) - 64*i)):=fun x hx=>ht x (List.mem_of_mem_drop (List.mem_of_mem_take hx))
  rw [show m+(j+1)+1=(m+j+1)+1 by omega,XZ]
  simp only [Rf,e,Int.toNat_natCast]
  rw [TB (by simp;omega),TB (by simp;omega),UAa (Qn hr _ _) (by rw [ofBytes_size,hl]),Option.bind_some,SN hby,show 64*(i+1) - 64*i=64 by omega,←WAa]
  exact ih (i+1) m (by omega)
theorem QAp (h:SHasher) (r:List Int) (hr:r.length<64):∀ (j i m:Nat),i+j=(119 - r.length) % 64→XZ (m+j+1) (.c0 h (r++128::List.replicate i 0))=XZ m (.c1 (w64 (8*h.fCount)) 7 h (r++128::List.replicate ((119 - r.length) % 64) 0)):=by
 intro j
 induction j with
 | zero=>
  intro i m hi
  rw [XZ]
  simp only [Rf]
  rw [NM (by rw [Int.tmod_eq_emod_of_nonneg (by omega)];simp;omega),show i=(119 - r.length) % 64 by omega]
 | succ j ih=>
  intro i m hi
  rw [show m+(j+1)+1=(m+j+1)+1 by omega,XZ]
  simp only [Rf]
  rw [TB (by rw [Int.tmod_eq_emod_of_nonneg (by omega)];simp;omega),TB (by simp;omega)]
  have e:(r++128::List.replicate i (0:Int))++[0]=r++128::List.replicate (i+1) 0:=by
   rw [List.replicate_succ'];simp
  rw [e]
  exact ih (i+1) m (by omega)
theorem RAp {r:Reg} (hr:r.ok) {s:ByteArray} {n:Nat} (hs:s.size=n % 64) (hn:n≤1000000000):Gy ⟨ofBytes (EY r.l),s,(n:Int)⟩=some (ofBytes (EY (comps ((s.size+(KY n).length) / 64) r (bs s++KY n)).l)):=by
 have e0:Bc ⟨ofBytes (EY r.l),s,(n:Int)⟩=some true:=RAa (by rw [ofBytes_size,Yq];rfl) (by simp only;omega) (by simp only;omega) (by simp only;omega)
 have hl:=bs_len s
 obtain ⟨m,hm⟩:∃ m,gas=((m+((s.size+(KY n).length) / 64)+1+1+Fg 8)+((119 - (bs s).length) % 64)+1):=⟨gas - (((s.size+(KY n).length) / 64)+1+1+Fg 8+((119 - (bs s).length) % 64)+1),by
  have:=gas_lt (n:=1000) (by omega)
  have h2:=ZAE n
  have h3:Fg 8=44:=rfl
  omega⟩
 have hw:w64 (8*(n:Int))=8*(n:Int):=w64_id (by omega) (by omega)
 have hrep:(bs s++128::List.replicate ((119 - (bs s).length) % 64) 0)++Tn (8*(n:Int)) 8=bs s++KY n:=by
  rw [OAp (by omega) (by omega),KY,hl,hs,show (119 - n % 64) % 64=(119 - n % 64) % 64 from rfl]
  simp
 rw [Gy,YAK,e0,Option.bind_some,NM (by rfl),TB (by simp;omega),N8,TB (by rw [hl];simp;omega),hm]
 have h0:=QAp ⟨ofBytes (EY r.l),s,(n:Int)⟩ (bs s) (by omega) ((119 - (bs s).length) % 64) 0 (m+((s.size+(KY n).length) / 64)+1+1+Fg 8) (by omega)
 rw [List.replicate_zero] at h0
 rw [h0,show (7:Int)=((8:Nat):Int) - 1 from rfl]
 simp only [hw]
 rw [NAp _ _ (by omega) (by omega) 8 _ _ (by omega) (by simp;omega),hrep,XZ]
 simp only [Rf]
 rw [NM (by simp),XAa hr,Option.bind_some,VAa,Option.bind_some]
 have hb:IY (bs s++KY n):=fun x hx=>by
  rcases List.mem_append.1 hx with hx | hx
  ·exact Yc s x hx
  ·exact JAR n x hx
 have hlen:(bs s++KY n).length=64*((s.size+(KY n).length) / 64):=by
  have:=WAo n
  rw [List.length_append,hl]
  omega
 exact PAp r hr _ hb _ hlen (by have:=ZAE n;omega) ((s.size+(KY n).length) / 64) 0 m (by omega)
theorem SAp (b:List Int):comps ((b.length+(KY b.length).length) / 64) Oc (b++KY b.length)=comps ((b.length % 64+(KY b.length).length) / 64) (comps (b.length / 64) Oc b) (b.drop (64*(b.length / 64))++KY b.length):=by
 rw [show (b.length+(KY b.length).length) / 64=b.length / 64+(b.length % 64+(KY b.length).length) / 64 by omega,NAa,TAo _ _ _ _ (by omega),List.drop_append_of_le_length (by omega)]
theorem V8 {s:ByteArray} (hs:s.size≤1000000000):Xa s=some (OZ s):=by
 have h1:(s.extract (64*(s.size / 64)) s.size).size=s.size % 64:=by simp;omega
 have h:=RAp (Qn Aj (s.size / 64) (bs s)) (s:=s.extract (64*(s.size / 64)) s.size) h1 hs
 rw [UZ,h1,List.take_of_length_le (by rw [bs_len];omega)] at h
 rw [Xa,ZAK,YAo,Option.bind_some,KAp hs,Option.bind_some,h,Option.bind_some,OZ,Ac,SAp,bs_len]
theorem TAp {n:Nat} {x:Int} (h:n≤1000000000):Jy (n:Int) x=some (ofBytes (List.replicate n x)):=by
 have key:∀ (j i m:Nat),i+j=n→Iy (m+j+1) (.c0 (n:Int) x (i:Int) (List.replicate i x++List.replicate (n - i) 0))=some (ofBytes (List.replicate n x)):=by
  intro j
  induction j with
  | zero=>
   intro i m hi
   obtain rfl:i=n:=by omega
   rw [Iy]
   simp only [TAB]
   rw [NM (by simp),Nat.sub_self,List.replicate_zero,List.append_nil]
  | succ j ih=>
   intro i m hi
   have e:w64 ((i:Int)+1)=((i+1:Nat):Int):=by rw [w64_id (by omega) (by omega)];rfl
   rw [show m+(j+1)+1=(m+j+1)+1 by omega,Iy]
   simp only [TAB,e,Int.toNat_natCast]
   rw [TB (by simp;omega),TB (by simp;omega),show n - i=(n - (i+1))+1 by omega,List.replicate_succ,Ue (by simp)]
   have h2:=ih (i+1) m (by omega)
   rw [List.replicate_succ' (n:=i),List.append_assoc] at h2
   exact h2
 obtain ⟨m,hm⟩:∃ m,gas=m+n+1:=⟨gas - (n+1),by have:=gas_lt (n:=n+1) (by omega);omega⟩
 have h0:=key n 0 m (by omega)
 rw [List.replicate_zero,List.nil_append,Nat.sub_zero] at h0
 rw [Jy,BAL,TB (by simp;omega),hm]
 exact h0
def He:SBook:=⟨OZ ⟨#[]⟩,0,[],0,ofBytes (List.replicate 32 0),0⟩
theorem UAY:Ah=some He:=by
 rw [Ah,CAL,V8 (by decide),Option.bind_some,show (32:Int)=((32:Nat):Int) from rfl,TAp (by omega),Option.bind_some];rfl
def Jq (x y:SThing):Bool:=(x.fId == y.fId) && ((x.fKind == y.fKind) && ((x.fHidden == y.fHidden) && ((x.fFixed == y.fFixed) && ((x.fSigns == y.fSigns) && ((x.fWraps == y.fWraps) && (((ByteArray.toList x.fValue) == (ByteArray.toList y.fValue)) && ((x.fNext == y.fNext) && true)))))))
theorem LAZ (x y:SThing):((x.fId == y.fId) && ((x.fKind == y.fKind) && ((x.fHidden == y.fHidden) && ((x.fFixed == y.fFixed) && ((x.fSigns == y.fSigns) && ((x.fWraps == y.fWraps) && (((ByteArray.toList x.fValue) == (ByteArray.toList y.fValue)) && ((x.fNext == y.fNext) && true))))))))=Jq x y:=rfl
theorem UAp {x y:SThing}:Jq x y=true↔x=y:=by
 simp only [Jq,Bool.and_eq_true,beq_iff_eq]
 constructor
 ·rintro ⟨h1,h2,h3,h4,h5,h6,h7,h8,_⟩
  have h7':x.fValue=y.fValue:=by
   have:=toList_inj (s:=x.fValue) (t:=y.fValue)
   rw [h7] at this
   simpa using this
  cases x;cases y;simp_all
 ·rintro rfl;simp
def Oa:List SThing→List SThing→Bool
 | [],[]=>true
 | x::a,y::b=>Jq x y && Oa a b
 | _,_=>false
theorem NAR:∀ {a b:List SThing},Oa a b=true↔a=b
 | [],[]=>by simp [Oa]
 | x::a,y::b=>by simp [Oa,UAp,NAR]
 | [],_::_=>by simp [Oa]
 | _::_,[]=>by simp [Oa]
theorem MAZ {a b:List SThing} (h:a.length≠b.length):Oa a b=false:=by
 cases h2:Oa a b
 ·rfl
 ·rw [NAR] at h2;subst h2;exact absurd rfl h
def Yf (a b:SBook):Bool:=(a.fWord.toList == b.fWord.toList) && ((a.fTries == b.fTries) && (Oa a.fThings b.fThings && ((a.fLast == b.fLast) && ((a.fChain.toList == b.fChain.toList) && (a.fCount == b.fCount)))))
theorem VAt {a b:SBook}:Yf a b=true↔a=b:=by
 simp only [Yf,Bool.and_eq_true,toList_inj,decide_eq_true_eq,beq_iff_eq,NAR]
 constructor
 ·rintro ⟨h1,h2,h3,h4,h5,h6⟩
  cases a;cases b;simp_all
 ·rintro rfl;simp
theorem XAY {a b:SBook} (h0:a.fThings.length≤140737488351232):Zk a b=some (Yf a b):=by
 rw [Zk,EAL,Yf]
 by_cases hl:a.fThings.length=b.fThings.length
 ·have key:∀ (j i m:Nat),i+j=a.fThings.length→Oy (m+j+1) (.c0 (i:Int) a b)=some (Oa (a.fThings.drop i) (b.fThings.drop i)):=by
   intro j
   induction j with
   | zero=>
    intro i m h
    obtain rfl:i=a.fThings.length:=by omega
    rw [Oy]
    simp only [VAB]
    rw [NM (by simp),List.drop_length,hl,List.drop_length];rfl
   | succ j ih=>
    intro i m h
    have hi:i<a.fThings.length:=by omega
    have hi2:i<b.fThings.length:=by omega
    have e:w64 ((i:Int)+1)=((i+1:Nat):Int):=by rw [w64_id (by omega) (by omega)];rfl
    rw [show m+(j+1)+1=(m+j+1)+1 by omega,Oy]
    simp only [VAB,e,Int.toNat_natCast,getD_at hi,getD_at hi2,LAZ,ih (i+1) m (by omega)]
    rw [TB (by simp;omega),TB (by simp;omega),TB (by simp;omega),drop_at hi,drop_at hi2,Oa]
    cases Jq a.fThings[i] b.fThings[i] <;> rfl
  obtain ⟨m,hm⟩:∃ m,gas=m+a.fThings.length+1:=⟨gas - (a.fThings.length+1),by have:=gas_lt (n:=a.fThings.length+1) (by omega);omega⟩
  have hz:=key a.fThings.length 0 m (by omega)
  rw [List.drop_zero,List.drop_zero,show ((0:Nat):Int)=0 from rfl] at hz
  have h1:((a.fThings.length:Int) != (b.fThings.length:Int))=false:=by rw [bne_eq_false_iff_eq];omega
  rw [h1,hm,hz]
  simp only [bne]
  cases a.fWord.toList == b.fWord.toList <;> cases a.fTries == b.fTries <;> cases Oa a.fThings b.fThings <;> cases a.fLast == b.fLast <;> cases a.fChain.toList == b.fChain.toList <;> cases a.fCount == b.fCount <;> rfl
 ·have h1:((a.fThings.length:Int) != (b.fThings.length:Int))=true:=by rw [bne_iff_ne];omega
  rw [h1,MAZ hl]
  simp only [bne]
  cases a.fWord.toList == b.fWord.toList <;> cases a.fTries == b.fTries <;> cases a.fLast == b.fLast <;> cases a.fChain.toList == b.fChain.toList <;> cases a.fCount == b.fCount <;> rfl
theorem RAQ {d:SDisk} {n:ByteArray} (h0:d.fFiles.length≤140737488351232):Bh d n=some (AZ d n):=by
 have key:∀ (j i m:Nat),i+j=d.fFiles.length→Ry (m+j+1) (.c0 n (i:Int) d)=some (match RY (d.fFiles.drop i) n i with | some j=>(j:Int) | none=> -1):=by
  intro j
  induction j with
  | zero=>
   intro i m h
   obtain rfl:i=d.fFiles.length:=by omega
   rw [Ry]
   simp only [WAB]
   rw [NM (by simp),List.drop_length];rfl
  | succ j ih=>
   intro i m h
   have hi:i<d.fFiles.length:=by omega
   have e:w64 ((i:Int)+1)=((i+1:Nat):Int):=by rw [w64_id (by omega) (by omega)];rfl
   rw [show m+(j+1)+1=(m+j+1)+1 by omega,Ry]
   simp only [WAB,e,Int.toNat_natCast,getD_at hi,ih (i+1) m (by omega)]
   rw [TB (by simp;omega),TB (by simp;omega),drop_at hi,RY]
   cases d.fFiles[i].fName.toList == n.toList <;> rfl
 obtain ⟨m,hm⟩:∃ m,gas=m+d.fFiles.length+1:=⟨gas - (d.fFiles.length+1),by have:=gas_lt (n:=d.fFiles.length+1) (by omega);omega⟩
 rw [Bh,FAL,hm,AZ]
 exact key d.fFiles.length 0 m (by omega)
theorem VAp {d:SDisk} {n:ByteArray} (h0:d.fFiles.length≤140737488351232):Uy d n=some (TT d n):=by
 rw [Uy,JAL,RAQ h0,Option.bind_some,AZ,TT]
 cases h:RY d.fFiles n 0 with
 | none=>rfl
 | some j=>
  have:=Sm h
  simp only [Int.toNat_natCast]
  rw [NM (by simp),TB (by simp;omega)];rfl
def IK (n:Int):List Int:=if n > 127 then (128+n % 128)::IK (n / 128) else [w8 n]
termination_by n.toNat
decreasing_by omega
theorem YAa:∀ (k:Nat) (n:Int),n<128 ^ k→(IK n).length≤max k 1:=by
 intro k
 induction k with
 | zero=>intro n h;rw [IK,if_neg (by omega)];simp
 | succ k ih=>
  intro n h
  rw [IK]
  split
  ·rename_i hn
   have h2:n / 128<128 ^ k:=by
    rw [Int.pow_succ] at h
    exact Int.ediv_lt_of_lt_mul (by omega) h
   have:=ih _ h2
   simp only [List.length_cons]
   by_cases hk:k=0
   ·subst hk;simp at h2;try omega
   ·omega
  ·simp;try omega
theorem Aa {n:Int} (h:n≤9223372036854775807):(IK n).length≤10:=by
 have:=YAa 10 n (by (have:(128:Int) ^ 10=1180591620717411303424:=by decide);omega)
 omega
theorem Oe (n:Int):1≤(IK n).length:=by rw [IK];split <;> simp
theorem ZAa {n:Int} (h:n > 127) (h2:n≤9223372036854775807):w64 (n.tdiv 128)=n / 128∧w8 (w64 (n.tmod 128+128))=128+n % 128∧w8 (w64 (128+n.tmod 128))=128+n % 128:=by
 have e1:n.tdiv 128=n / 128:=Int.tdiv_eq_ediv_of_nonneg (by omega)
 have e2:n.tmod 128=n % 128:=Int.tmod_eq_emod_of_nonneg (by omega)
 refine ⟨by rw [e1,w64_id (by omega) (by omega)],?_,?_⟩
 ·rw [e2,w64_id (by omega) (by omega),w8_id (by omega) (by omega)];omega
 ·rw [e2,w64_id (by omega) (by omega),w8_id (by omega) (by omega)]
theorem Ci {n:Int} (h:n≤9223372036854775807):GZ n=some (ofBytes (IK n)):=by
 have key:∀ (n:Int) (m:Nat) (out:List Int),n≤9223372036854775807→(IK n).length≤m→out.length+(IK n).length≤1000→Wy m (.c0 n out)=some (ofBytes (out++IK n)):=by
  intro n
  induction n using IK.induct with
  | case1 n hn ih=>
   intro m out h1 h2 h3
   rw [IK,if_pos hn] at h2 h3 ⊢
   simp only [List.length_cons] at h2 h3
   obtain ⟨m,rfl⟩:∃ k,m=k+1:=⟨m - 1,by omega⟩
   obtain ⟨e1,e2,_⟩:=ZAa hn h1
   simp only [Wy,XAB,e1,e2]
   rw [show decide (n > 127)=true from decide_eq_true hn,show decide ((out.length+1)*1≤140737488355328)=true from decide_eq_true (by omega)]
   simp only [cond_true]
   rw [ih m _ (by omega) (by omega) (by simp;omega)]
   simp
  | case2 n hn=>
   intro m out h1 h2 h3
   rw [IK,if_neg hn] at h2 h3 ⊢
   simp at h2 h3
   obtain ⟨m,rfl⟩:∃ k,m=k+1:=⟨m - 1,by omega⟩
   simp only [Wy,XAB]
   rw [show decide (n > 127)=false from decide_eq_false hn,show decide ((out.length+1)*1≤140737488355328)=true from decide_eq_true (by omega)]
   rfl
 have hl:=Aa h
 exact key n gas [] h (Nat.le_of_lt (gas_lt (by omega))) (by simp;omega)
def pw (k:Nat):Int:=128 ^ k
theorem Di:pw 0=1:=rfl
theorem BAF (k:Nat):pw (k+1)=pw k*128:=Int.pow_succ ..
theorem Un {k:Nat} (h:k<5):pw k=1∨pw k=128∨pw k=16384∨pw k=2097152∨pw k=268435456:=by
 rcases (by omega:k=0∨k=1∨k=2∨k=3∨k=4) with rfl | rfl | rfl | rfl | rfl
 ·exact .inl rfl
 ·exact .inr (.inl rfl)
 ·exact .inr (.inr (.inl rfl))
 ·exact .inr (.inr (.inr (.inl rfl)))
 ·exact .inr (.inr (.inr (.inr rfl)))
def Ye:Int×Int×Bool:=(0,0,false)
def RV (text:ByteArray) (a:Nat) (r:Int×Int×Bool):Prop:=r=Ye∨∃ v:Int,∃ q:Nat,r=(v,((q:Nat):Int),true)∧0≤v∧v≤1000000000∧a<q∧q≤text.size
def At (text:ByteArray) (p:Nat) (l:List Int):Prop:=∃ rest,(bs text).drop p=l++rest
theorem At.left {text:ByteArray} {p:Nat} {l m:List Int} (h:At text p (l++m)):At text p l:=by
 obtain ⟨r,hr⟩:=h;exact ⟨m++r,by rw [hr,List.append_assoc]⟩
theorem At.right {text:ByteArray} {p:Nat} {l m:List Int} (h:At text p (l++m)):At text (p+l.length) m:=by
 obtain ⟨r,hr⟩:=h;exact ⟨r,by rw [←List.drop_drop,hr,List.append_assoc,List.drop_left]⟩
theorem At.size {text:ByteArray} {p:Nat} {l:List Int} (h:At text p l):l=[]∨p+l.length≤text.size:=by
 obtain ⟨r,hr⟩:=h
 have:=congrArg List.length hr
 rw [List.length_drop,bs_len,List.length_append] at this
 cases l with
 | nil=>exact .inl rfl
 | cons x xs=>right;simp only [List.length_cons] at this ⊢;omega
theorem At.head {text:ByteArray} {p:Nat} {x:Int} {l:List Int} (h:At text p (x::l)):p<text.size∧bt text (p:Int)=x:=by
 have hs:p+(x::l).length≤text.size:=by rcases h.size with h | h;exact absurd h (by simp);exact h
 simp only [List.length_cons] at hs
 have hp:p<text.size:=by omega
 refine ⟨hp,?_⟩
 rw [XAE hp]
 obtain ⟨r,hr⟩:=h
 have hl:p<(bs text).length:=by rw [bs_len];exact hp
 rw [List.drop_eq_getElem_cons hl] at hr
 injection hr
theorem At.tail {text:ByteArray} {p:Nat} {x:Int} {l:List Int} (h:At text p (x::l)):At text (p+1) l:=At.right (l:=[x]) h
theorem At.extract {text:ByteArray} {p:Nat} {l:List Int} (h:At text p l) (hl:∀ n,n ∈ l→0≤n∧n≤255):text.extract p (p+l.length)=ofBytes l:=by
 apply Ob
 rw [UZ,SN hl]
 obtain ⟨r,hr⟩:=h
 rw [List.drop_take,hr]
 simp
theorem Ze:∀ (n:Int),0≤n→∀ x,x ∈ IK n→0≤x∧x≤255:=by
 intro n
 induction n using IK.induct with
 | case1 n hn ih=>
  intro h x hx
  rw [IK,if_pos hn] at hx
  rcases List.mem_cons.1 hx with rfl | hx
  ·omega
  ·exact ih (by omega) x hx
 | case2 n hn=>
  intro h x hx
  rw [IK,if_neg hn,w8_id h (by omega)] at hx
  rw [List.mem_singleton] at hx
  omega
theorem X8 {n:Int} (h:0≤n) (h2:n≤127):IK n=[n]:=by
 rw [IK,if_neg (by omega),w8_id h (by omega)]
theorem AAb {n:Int} (h:n≤1000000000):(IK n).length≤5:=by
 have:=YAa 5 n (by (have:(128:Int) ^ 5=34359738368:=by decide);omega)
 omega
theorem CAF {text:ByteArray} {a k m:Nat} {n s:Int} (hs:text.size≤140737488351232) (ha:a≤text.size) (hi:text.size≤a+k∨5≤k):Tf (m+1) (.c0 text a n s ((a+k:Nat):Int))=some Ye:=by
 simp only [Tf,YAB]
 by_cases h:a+k<text.size
 ·rw [show decide (((a+k:Nat):Int)<(text.size:Int))=true from decide_eq_true (by omega),w64_id (n:=(a:Int)+5) (by omega) (by omega),show decide (((a+k:Nat):Int)<(a:Int)+5)=false from decide_eq_false (by omega)]
  rfl
 ·rw [show decide (((a+k:Nat):Int)<(text.size:Int))=false from decide_eq_false (by omega)]
  rfl
theorem Bj {k:Nat} {n b:Int} (hk:k<5) (h0:0≤n) (h1:n<pw k) (hb:0≤b∧b≤255) :
  (b<128→b.tmod 128=b∧w64 (b*pw k)=b*pw k∧w64 (n+b*pw k)=n+b*pw k∧0≤n+b*pw k∧n+b*pw k<pw (k+1))∧
  (¬ b<128→b.tmod 128=b - 128∧w64 ((b - 128)*pw k)=(b - 128)*pw k∧w64 (n+(b - 128)*pw k)=n+(b - 128)*pw k∧0≤n+(b - 128)*pw k∧n+(b - 128)*pw k<pw (k+1))∧w64 (pw k*128)=pw (k+1):=by
 rw [BAF]
 have e:b.tmod 128=b % 128:=Int.tmod_eq_emod_of_nonneg hb.1
 refine ⟨fun h=>?_,fun h=>?_,?_⟩
 ·have hc:0≤b*pw k∧b*pw k≤34091302912∧b*pw k≤127*pw k:=by rcases Un hk with e | e | e | e | e <;> rw [e] <;> omega
  have hp:pw k≤268435456:=by rcases Un hk with e | e | e | e | e <;> rw [e] <;> omega
  exact ⟨by rw [e];omega,w64_id (by omega) (by omega),w64_id (by omega) (by omega),by omega,by omega⟩
 ·have hc:0≤(b - 128)*pw k∧(b - 128)*pw k≤34091302912∧(b - 128)*pw k≤127*pw k:=by rcases Un hk with e | e | e | e | e <;> rw [e] <;> omega
  have hp:pw k≤268435456:=by rcases Un hk with e | e | e | e | e <;> rw [e] <;> omega
  exact ⟨by rw [e];omega,w64_id (by omega) (by omega),w64_id (by omega) (by omega),by omega,by omega⟩
 ·rcases Un hk with e | e | e | e | e <;> rw [e,w64_id (by omega) (by omega)]
theorem DAF {text:ByteArray} {a k m:Nat} {n b:Int} (hs:text.size≤140737488351232) (hk:k<5) (hi:a+k<text.size) (h0:0≤n) (h1:n<pw k) (hb:bt text ((a+k:Nat):Int)=b) :
  Tf (m+1) (.c0 text a n (pw k) ((a+k:Nat):Int))=if b<128 then (if n+b*pw k > 1000000000 then some Ye else if ofBytes (IK (n+b*pw k))=text.extract a (a+k+1) then some (n+b*pw k,((a+k+1:Nat):Int),true) else some Ye) else Tf m (.c0 text a (n+(b - 128)*pw k) (pw (k+1)) ((a+k+1:Nat):Int)):=by
 have hb':=Xh text ((a+k:Nat):Int)
 rw [hb] at hb'
 obtain ⟨n1,n2,n3⟩:=Bj hk h0 h1 hb'
 have hw:w64 (((a+k:Nat):Int)+1)=((a+k+1:Nat):Int):=by rw [w64_id (by omega) (by omega)];omega
 simp only [Tf,YAB,hb,w64_id (n:=b) (by omega) (by omega),n3,hw,Int.toNat_natCast]
 rw [show decide (((a+k:Nat):Int)<(text.size:Int))=true from decide_eq_true (by omega),w64_id (n:=(a:Int)+5) (by omega) (by omega),show decide (((a+k:Nat):Int)<(a:Int)+5)=true from decide_eq_true (by omega),
  show decide ((0:Int)≤((a+k:Nat):Int))=true from decide_eq_true (by omega)]
 simp only [Bool.and_self,cond_true]
 by_cases h:b<128
 ·obtain ⟨e1,e2,e3,e4,_⟩:=n1 h
  rw [if_pos h,e1,e2,e3,show decide (b<128)=true from decide_eq_true h]
  by_cases h2:n+b*pw k > 1000000000
  ·rw [if_pos h2,show decide (n+b*pw k > 1000000000)=true from decide_eq_true h2];rfl
  ·rw [if_neg h2,show decide (n+b*pw k > 1000000000)=false from decide_eq_false h2,Ci (by omega)]
   simp only [cond_true,cond_false,Option.bind_some]
   rw [show decide ((0:Int)≤(a:Int))=true from decide_eq_true (by omega),show decide ((a:Int)≤((a+k+1:Nat):Int))=true from decide_eq_true (by omega),show decide (((a+k+1:Nat):Int)≤(text.size:Int))=true from decide_eq_true (by omega),toList_inj]
   by_cases h3:ofBytes (IK (n+b*pw k))=text.extract a (a+k+1)
   ·rw [if_pos h3,decide_eq_true h3];rfl
   ·rw [if_neg h3,decide_eq_false h3];rfl
 ·obtain ⟨e1,e2,e3,_,_⟩:=n2 h
  rw [if_neg h,e1,e2,e3,show decide (b<128)=false from decide_eq_false h]
  rfl
theorem WAp {text:ByteArray} {a:Nat} (hs:text.size≤140737488351232) (ha:a≤text.size):∀ j k m n,k+j=5→j<m→0≤n→n<pw k→∃ r,Tf m (.c0 text a n (pw k) ((a+k:Nat):Int))=some r∧RV text a r:=by
 intro j
 induction j with
 | zero=>
  intro k m n hk hm _ _
  obtain ⟨m,rfl⟩:∃ q,m=q+1:=⟨m - 1,by omega⟩
  exact ⟨_,CAF hs ha (.inr (by omega)),.inl rfl⟩
 | succ j ih=>
  intro k m n hk hm h0 h1
  obtain ⟨m,rfl⟩:∃ q,m=q+1:=⟨m - 1,by omega⟩
  by_cases hi:a+k<text.size
  ·have hb:=Xh text ((a+k:Nat):Int)
   generalize hbe:bt text ((a+k:Nat):Int)=b at hb
   obtain ⟨n1,n2,_⟩:=Bj (b:=b) (by omega:k<5) h0 h1 hb
   rw [DAF hs (by omega) hi h0 h1 hbe]
   split
   ·rename_i h
    split
    ·exact ⟨_,rfl,.inl rfl⟩
    ·split
     ·exact ⟨_,rfl,.inr ⟨_,_,rfl,(n1 h).2.2.2.1,by omega,by omega,by omega⟩⟩
     ·exact ⟨_,rfl,.inl rfl⟩
   ·rename_i h
    obtain ⟨_,_,_,e4,e5⟩:=n2 h
    exact ih (k+1) m _ (by omega) (by omega) e4 e5
  ·exact ⟨_,CAF hs ha (.inl (by omega)),.inl rfl⟩
theorem XAp {text:ByteArray} {a:Nat} {V:Int} (hs:text.size≤140737488351232) (hV0:0≤V) (hV:V≤1000000000) (hA:At text a (IK V)):∀ U k m n,IK U=(IK V).drop k→0≤U→n+pw k*U=V→0≤n→n<pw k→5<m+k→Tf m (.c0 text a n (pw k) ((a+k:Nat):Int))=some (V,((a+(IK V).length:Nat):Int),true):=by
 have h5:=AAb hV
 intro U
 induction U using IK.induct with
 | case1 U hU ih=>
  intro k m n e1 u0 e2 h0 h1 hm
  have hl:=congrArg List.length e1
  rw [List.length_drop] at hl
  have hp:=Oe U
  have hk:k<5:=by omega
  obtain ⟨m,rfl⟩:∃ q,m=q+1:=⟨m - 1,by omega⟩
  have hA':At text (a+k) (IK U):=by
   have:At text a ((IK V).take k++(IK V).drop k):=by rw [List.take_append_drop];exact hA
   have:=this.right
   rw [List.length_take,Nat.min_eq_left (by omega),←e1] at this
   exact this
  have e3:=e1
  rw [IK,if_pos hU] at hA' e3
  obtain ⟨hi,hb⟩:=hA'.head
  obtain ⟨n1,n2,_⟩:=Bj (b:=128+U % 128) hk h0 h1 (by omega)
  obtain ⟨_,_,_,e4,e5⟩:=n2 (by omega)
  rw [DAF hs hk hi h0 h1 hb,if_neg (by omega)]
  refine ih (k+1) m _ ?_ (by omega) ?_ e4 e5 (by omega)
  ·rw [←List.drop_drop,←e3];rfl
  ·rw [BAF]
   rcases Un hk with e | e | e | e | e <;> rw [e] at e2 ⊢ <;> omega
 | case2 U hU=>
  intro k m n e1 u0 e2 h0 h1 hm
  have hl:=congrArg List.length e1
  rw [List.length_drop] at hl
  have hp:=Oe U
  have hk:k<5:=by omega
  obtain ⟨m,rfl⟩:∃ q,m=q+1:=⟨m - 1,by omega⟩
  have hA':At text (a+k) (IK U):=by
   have:At text a ((IK V).take k++(IK V).drop k):=by rw [List.take_append_drop];exact hA
   have:=this.right
   rw [List.length_take,Nat.min_eq_left (by omega),←e1] at this
   exact this
  rw [X8 u0 (by omega)] at hA' hl
  simp only [List.length_singleton] at hl
  obtain ⟨hi,hb⟩:=hA'.head
  have e3:n+U*pw k=V:=by rw [Int.mul_comm];exact e2
  have e4:a+k+1=a+(IK V).length:=by omega
  rw [DAF hs hk hi h0 h1 hb,if_pos (by omega),e3,if_neg (by omega),e4,if_pos (hA.extract (Ze V hV0)).symm]
theorem YAp {text:ByteArray} {a:Nat} (hs:text.size≤140737488351232) (ha:a≤text.size):∃ r,Ya text a=some r∧RV text a r:=by
 simp only [Ya,Zy,Eb,Option.bind_some]
 rw [show FN (a:Int) 0 (text.size:Int)=true from DY.2 ⟨by omega,by omega⟩]
 exact WAp hs ha 5 0 gas 0 rfl (gas_lt (by omega)) (by omega) (by rw [Di];omega)
theorem OAR {text:ByteArray} {a:Nat} {V:Int} (hs:text.size≤140737488351232) (hV0:0≤V) (hV:V≤1000000000) (hA:At text a (IK V)):Ya text a=some (V,((a+(IK V).length:Nat):Int),true):=by
 have ha:a+(IK V).length≤text.size:=by
  rcases hA.size with h | h
  ·have:=Oe V;rw [h] at this;simp at this
  ·exact h
 simp only [Ya,Zy,Eb,Option.bind_some]
 rw [show FN (a:Int) 0 (text.size:Int)=true from DY.2 ⟨by omega,by omega⟩]
 exact XAp hs hV0 hV hA V 0 gas 0 (by simp) hV0 (by rw [Di];omega) (by omega) (by rw [Di];omega) (by have:=gas_lt (n:=5) (by omega);omega)
def Xm (s:Int):Int:=if s % 2=1 then xr (s / 2) 3558460437 else s / 2
def Vm:Nat→Int→Int
 | 0,s=>s
 | n+1,s=>Vm n (Xm s)
def Nq (s:Int) (l:List Int):Int:=l.foldl (fun s b=>Vm 8 (xr s b)) s
theorem ZAp {s:Int} (h:R32 s):R32 (Xm s):=by
 unfold Xm;split
 ·exact Kq _ _
 ·unfold R32 at *;omega
theorem BAb:∀ (n:Nat) {s:Int},R32 s→R32 (Vm n s)
 | 0,_,h=>h
 | n+1,_,h=>BAb n (ZAp h)
theorem CAb:∀ (l:List Int) {s:Int},R32 s→R32 (Nq s l)
 | [],_,h=>h
 | b::l,s,_=>CAb l (BAb 8 (Kq s b))
def Ib (l:List Int):Int:=Nq 4294967295 l
theorem Oq (l:List Int):R32 (Ib l):=CAb l (by unfold R32;omega)
theorem AAq (t:ByteArray) (i:Nat) (hi:i<t.size) (ht:t.size≤140737488351232):∀ (j k m:Nat) (s:Int),k+j=8→R32 s→Eh (m+j+1) (.c1 s t (i:Int) (k:Int))=Eh m (.c0 (Vm j s) t ((i+1:Nat):Int)):=by
 intro j
 induction j with
 | zero=>
  intro k m s hk hs
  have e:w64 ((i:Int)+1)=((i+1:Nat):Int):=by rw [w64_id (by omega) (by omega)];rfl
  rw [Eh]
  simp only [Ap,e]
  rw [NM (by simp;omega)]
  rfl
 | succ j ih=>
  intro k m s hk hs
  have e:w64 ((k:Int)+1)=((k+1:Nat):Int):=by rw [w64_id (by omega) (by omega)];rfl
  have h2:w32 (s.tdiv 2)=s / 2:=by
   obtain ⟨h1,h2⟩:=hs
   rw [Int.tdiv_eq_ediv_of_nonneg h1,Fb (by omega) (by omega)]
  have h3:s.tmod 2=s % 2:=Int.tmod_eq_emod_of_nonneg hs.1
  rw [show m+(j+1)+1=(m+j+1)+1 by omega,Eh]
  simp only [Ap,e,h2,h3,Je]
  rw [TB (by simp;omega),Vm]
  by_cases h:s % 2=1
  ·rw [TB (by simp [h]),ih (k+1) m _ (by omega) (Kq _ _),Xm,if_pos h]
  ·rw [NM (by simp [h]),ih (k+1) m _ (by omega) (by unfold R32 at *;omega),Xm,if_neg h]
theorem BAq {t:ByteArray} {s:Int} (ht:t.size≤140737488351232):Bz s t=some (Nq s (bs t)):=by
 have hl:=bs_len t
 have key:∀ (j i m:Nat) (s:Int),i+j=t.size→Eh (m+10*j+1) (.c0 s t (i:Int))=some (Nq s ((bs t).drop i)):=by
  intro j
  induction j with
  | zero=>
   intro i m s h
   rw [Eh]
   simp only [Ap]
   rw [NM (by simp;omega),List.drop_of_length_le (by omega)];rfl
  | succ j ih=>
   intro i m s h
   have hb:=YZ (Yc t) i
   rw [show m+10*(j+1)+1=(m+10*j+1)+8+1+1 by omega,Eh]
   simp only [Ap,Je]
   rw [TB (by simp;omega),TB (by simp;omega),Me (by omega),Fb (by omega) (by omega)]
   have h1:=AAq t i (by omega) ht 8 0 (m+10*j+1) (xr s ((bs t).getD i 0)) (by omega) (Kq _ _)
   rw [show ((0:Nat):Int)=0 from rfl] at h1
   rw [h1,ih (i+1) m _ (by omega),drop_at (by omega:i<(bs t).length),getD_at (by omega)]
   rfl
 obtain ⟨m,hm⟩:∃ m,gas=m+10*t.size+1:=⟨gas - (10*t.size+1),by have:=gas_lt (n:=10*t.size+1) (by omega);omega⟩
 rw [Bz,MAL,hm]
 have:=key t.size 0 m s (by omega)
 rw [List.drop_zero] at this
 exact this
theorem CAq {t:ByteArray} (ht:t.size≤140737488351232):Dz t=some (Ib (bs t)):=by
 rw [Dz,OAL,BAq ht];rfl
theorem DAq {x:Int} (h:R32 x):Ez x=some (ofBytes (four x)):=by
 obtain ⟨h1,h2⟩:=h
 have e1:Int.fdiv x (2 ^ (Min.min (24:Int).toNat (IntKind.bits IntKind.u32)))=x / 16777216:=Int.fdiv_eq_ediv_of_nonneg _ (by decide)
 have e2:Int.fdiv x (2 ^ (Min.min (16:Int).toNat (IntKind.bits IntKind.u32)))=x / 65536:=Int.fdiv_eq_ediv_of_nonneg _ (by decide)
 have e3:Int.fdiv x (2 ^ (Min.min (8:Int).toNat (IntKind.bits IntKind.u32)))=x / 256:=Int.fdiv_eq_ediv_of_nonneg _ (by decide)
 simp only [Ez,QAL,e1,e2,e3,w8_mod,four]
 rw [show x / 16777216 % 256=x / 16777216 by omega]
def xb (x y:Int):Int:=w8 (((BitVec.toNat ((BitVec.ofInt (IntKind.bits IntKind.u8) x) ^^^ (BitVec.ofInt (IntKind.bits IntKind.u8) y))):Nat):Int)
theorem EAF (x y:Int):w8 (((BitVec.toNat ((BitVec.ofInt (IntKind.bits IntKind.u8) x) ^^^ (BitVec.ofInt (IntKind.bits IntKind.u8) y))):Nat):Int)=xb x y:=rfl
theorem DAb (x y:Int):0≤xb x y∧xb x y≤255:=by unfold xb;rw [w8_mod];omega
theorem EAq {x:Int} (h:0≤x∧x≤255) (y:Int):xb (xb x y) y=x:=by
 have e:∀ (a b:BitVec 8),BitVec.ofInt 8 (((a ^^^ b).toNat:Nat):Int) ^^^ b=a:=by
  intro a b
  rw [BitVec.ofInt_natCast,BitVec.ofNat_toNat,BitVec.setWidth_eq,BitVec.xor_assoc,BitVec.xor_self,BitVec.xor_zero]
 have h8:∀ (a b:BitVec 8),w8 (((a ^^^ b).toNat:Nat):Int)=(((a ^^^ b).toNat:Nat):Int):=fun a b=>by
  have:=(a ^^^ b).isLt;rw [w8_id (by omega) (by omega)]
 unfold xb
 show w8 (((BitVec.ofInt 8 (w8 (((BitVec.ofInt 8 x ^^^ BitVec.ofInt 8 y).toNat:Nat):Int)) ^^^ BitVec.ofInt 8 y).toNat:Nat):Int)=x
 rw [h8 (BitVec.ofInt 8 x),e,BitVec.toNat_ofInt,w8_mod]
 omega
def Fa (x:Int) (l:List Int):List Int:=l.map fun b=>xb b x
theorem FAF (x:Int) (l:List Int):(Fa x l).length=l.length:=by simp [Fa]
theorem GAF (x:Int) (l:List Int):IY (Fa x l):=fun n hn=>by
 simp only [Fa,List.mem_map] at hn
 obtain ⟨b,_,rfl⟩:=hn
 exact DAb _ _
def ZY (k:List Int):List Int:=k++List.replicate (64 - k.length) 0
def Af (k:List Int):List Int:=if 64<k.length then ZY (Ac k) else ZY k
theorem FAq (k:List Int):(Af k).length=64:=by
 unfold Af ZY
 split
 ·rw [List.length_append,List.length_replicate,KAR]
 ·rw [List.length_append,List.length_replicate];omega
def Bf (k s:List Int):List Int:=Ac (Fa 92 (Af k)++Ac (Fa 54 (Af k)++s))
def Gg (k s:ByteArray):ByteArray:=ofBytes (Bf (bs k) (bs s))
theorem Zq (k s:List Int):(Bf k s).length=32:=KAR _
theorem Y8 (k s:List Int):IY (Bf k s):=QAa _
theorem EAb (k s:ByteArray):bs (Gg k s)=Bf (bs k) (bs s):=SN (Y8 _ _)
theorem FAb (k s:ByteArray):(Gg k s).size=32:=by rw [Gg,ofBytes_size,Zq]
theorem GAq {α:Type} (f:α→α) {l:List α} {i:Nat} (h:i<l.length):((l.take i).map f++l.drop i).set i (f l[i])=(l.take (i+1)).map f++l.drop (i+1):=by
 rw [drop_at h,Ue (by simp;omega),take_at h,List.map_append,List.append_assoc]
 rfl
theorem HAq {f:Int→Int} {l:List Int} {i:Nat} (h:i<l.length):((l.take i).map f++l.drop i).getD i 0=l[i]:=by
 rw [Xq (by simp;omega)]
 simp [List.getD,Nat.min_eq_left (Nat.le_of_lt h),h]
def Hg (k v:List Int):Nat→List Int
 | 0=>[]
 | i+1=>Hg k v i++Bf k (109::(v++[(i:Int)]))
theorem Ei (k v:List Int) (i:Nat):(Hg k v i).length=32*i:=by
 induction i with
 | zero=>rfl
 | succ i ih=>rw [Hg,List.length_append,ih,Zq];omega
theorem HAF (k v:List Int) (i:Nat):IY (Hg k v i):=by
 induction i with
 | zero=>intro n hn;cases hn
 | succ i ih=>
  intro n hn
  rcases List.mem_append.1 hn with hn | hn
  ·exact ih n hn
  ·exact Y8 _ _ n hn
def JZ (k v:List Int) (n:Nat):List Int:=(Hg k v ((n+31) / 32)).take n
theorem Ig (k v:List Int) (n:Nat):(JZ k v n).length=n:=by rw [JZ,List.length_take,Ei];omega
theorem PAR (k v:List Int) (n:Nat):IY (JZ k v n):=fun x hx=>HAF _ _ _ x (List.mem_of_mem_take hx)
def maskOk (num:Int) (n:Int):Bool:=FN num 0 1000000000 && FN n 0 8000
def Ar (k:ByteArray) (num:Int) (n:Int):ByteArray×Bool:=bif maskOk num n then (ofBytes (JZ (bs k) (IK num) n.toNat),true) else (⟨#[]⟩,false)
theorem Wn:∀ {n:Int},0≤n→IY (IK n):=by
 intro n
 induction n using IK.induct with
 | case1 n hn ih=>
  intro h x hx
  rw [IK,if_pos hn] at hx
  rcases List.mem_cons.1 hx with rfl | hx
  ·omega
  ·exact ih (by omega) x hx
 | case2 n hn=>
  intro h x hx
  rw [IK,if_neg hn] at hx
  rw [List.mem_singleton] at hx
  subst hx
  rw [w8_mod];omega
theorem GAb (k:ByteArray) {num:Int} (hn:0≤num) (hn2:num≤1000000000) (i:Nat) (hi:i≤255) :
  Gg k (((⟨#[109]⟩:ByteArray)++ofBytes (IK num))++ofBytes [(i:Int)])=ofBytes (Bf (bs k) (109::(IK num++[(i:Int)]))):=by
 have e:bs (⟨#[109]⟩:ByteArray)=[109]:=rfl
 rw [Gg,XY,XY,SN (Wn hn),e,SN (fun x hx=>by rw [List.mem_singleton] at hx;omega)]
 rfl
def LY (a b:List Int):List Int:=List.zipWith xb a b
theorem IAF {a b:List Int} (h:a.length≤b.length):(LY a b).length=a.length:=by rw [LY,List.length_zipWith];omega
theorem HAb (a b:List Int):IY (LY a b):=by
 intro n hn
 rw [LY,List.mem_iff_getElem] at hn
 obtain ⟨i,hi,rfl⟩:=hn
 rw [List.getElem_zipWith]
 exact DAb _ _
theorem QAR {α:Type} (f:α→α→α):∀ (a b:List α),List.zipWith f a (b.take a.length)=List.zipWith f a b
 | [],_=>rfl
 | _::_,[]=>rfl
 | x::a,y::b=>by rw [List.length_cons,List.take_succ_cons,List.zipWith_cons_cons,List.zipWith_cons_cons,QAR f a b]
theorem IAb {a b:List Int} {i:Nat} (h:i<a.length) (h2:i<b.length):(List.zipWith xb (a.take i) (b.take i)++a.drop i).set i (xb a[i] (b.getD i 0))=List.zipWith xb (a.take (i+1)) (b.take (i+1))++a.drop (i+1):=by
 rw [drop_at h,Ue (by simp;omega),take_at h,take_at h2,getD_at h2,List.zipWith_append (by simp;omega),List.append_assoc]
 rfl
theorem JAb {a b:List Int} {i:Nat} (h:i<a.length) (h2:i<b.length):(List.zipWith xb (a.take i) (b.take i)++a.drop i).getD i 0=a[i]:=by
 rw [Xq (by simp;omega)]
 simp [List.getD,Nat.min_eq_left (Nat.le_of_lt h),Nat.min_eq_left (Nat.le_of_lt h2),h]
def Ua (k:List Int) (num:Int) (s:List Int):List Int:=(Bf k (116::(IK num++s))).take 16
theorem RAR (k:List Int) (num:Int) (s:List Int):(Ua k num s).length=16:=by rw [Ua,List.length_take,Zq];rfl
theorem Z8 (k:List Int) (num:Int) (s:List Int):IY (Ua k num s):=fun x hx=>Y8 _ _ x (List.mem_of_mem_take hx)
def Qb (k:List Int) (num:Int) (s:List Int):List Int:=LY s (JZ k (IK num) s.length)++Ua k num (LY s (JZ k (IK num) s.length))
def WAt (k:ByteArray) (num:Int) (s:ByteArray):ByteArray×Bool:=bif maskOk num s.size then (ofBytes (Qb (bs k) num (bs s)),true) else (⟨#[]⟩,false)
def AY (k:ByteArray) (num:Int) (t:ByteArray):ByteArray×Bool:=
 bif decide ((t.size:Int)<16) || !(maskOk num ((t.size:Int) - 16)) then (⟨#[]⟩,false)
 else bif Ua (bs k) num ((bs t).take (t.size - 16)) == (bs t).drop (t.size - 16) then (ofBytes (LY ((bs t).take (t.size - 16)) (JZ (bs k) (IK num) (t.size - 16))),true)
 else (⟨#[]⟩,false)
theorem KAb {num n:Int}:maskOk num n=true↔(0≤num∧num≤1000000000)∧0≤n∧n≤8000:=by rw [maskOk,Bool.and_eq_true,DY,DY]
def Cj (l:List Int):List Int:=IK (l.length:Int)++(four (Ib l)++l)
def frameT (t:ByteArray):ByteArray×Bool:=bif FN (t.size:Int) 1 9000 then (ofBytes (Cj (bs t)),true) else (⟨#[]⟩,false)
theorem SAR {l:List Int} (h:IY l):IY (Cj l):=by
 intro x hx
 rcases List.mem_append.1 hx with hx | hx
 ·exact Wn (by omega) x hx
 ·rcases List.mem_append.1 hx with hx | hx
  ·exact Zm (Oq l) x hx
  ·exact h x hx
theorem PAZ (t:ByteArray):(ofBytes (IK (t.size:Int))++ofBytes (four (Ib (bs t))))++t=ofBytes (Cj (bs t)):=by
 apply Ob
 rw [XY,XY,SN (Wn (by omega)),SN (Zm (Oq _)),SN (SAR (Yc t)),Cj,bs_len,List.append_assoc]
theorem QAZ {t:ByteArray} (h:t.size≤140737488351232):(frameT t).1.size≤t.size+14:=by
 rw [frameT]
 cases FN (t.size:Int) 1 9000
 ·exact Nat.zero_le _
 ·rw [cond_true,ofBytes_size,Cj,List.length_append,List.length_append,bs_len]
  have:(four (Ib (bs t))).length=4:=rfl
  have:=Aa (n:=(t.size:Int)) (by omega)
  omega
theorem LAb {t:ByteArray} (h:t.size≤140737488351232):Yd t=some (frameT t):=by
 rw [Yd,RAL,Eb,Option.bind_some,frameT]
 cases h1:FN (t.size:Int) 1 9000
 ·rfl
 ·rw [DY] at h1
  have:=Aa (n:=(t.size:Int)) (by omega)
  rw [NM (by rfl),Ci (by omega),Option.bind_some,CAq h,Option.bind_some,DAq (Oq _),Option.bind_some,TB (by rw [ofBytes_size,ofBytes_size,decide_eq_true_eq];have:(four (Ib (bs t))).length=4:=rfl;omega)]
  rw [TB (by rw [ByteArray.size_append,ofBytes_size,ofBytes_size,decide_eq_true_eq];have:(four (Ib (bs t))).length=4:=rfl;omega),PAZ,cond_true]
theorem Yb (x a b:Int):YX x a b=some (FN x a b):=by
 show (bif decide (a≤x) then some (decide (x≤b)) else some false)=some (FN x a b)
 unfold FN;cases decide (a≤x) <;> rfl
theorem IAq {k:Nat} (h:k<5):(2:Int) ^ (Min.min (w64 (7*(k:Int))).toNat (IntKind.bits IntKind.i64))=pw k∧w64 (7*(k:Int))=7*(k:Int):=by
 refine ⟨?_,w64_id (by omega) (by omega)⟩
 rcases (by omega:k=0∨k=1∨k=2∨k=3∨k=4) with rfl | rfl | rfl | rfl | rfl <;> kernel_rfl
theorem JAF {text:ByteArray} {a k m:Nat} {n:Int} (hs:text.size≤140737488351232) (ha:a≤text.size) (hk:k≤5) (hi:text.size≤a+k∨5≤k):Xf (m+1) (.c0 text a n k)=some Ye:=by
 simp only [Xf,VAD]
 by_cases h:k<5
 ·rw [show decide ((k:Int)<5)=true from decide_eq_true (by omega),w64_id (n:=(a:Int)+k) (by omega) (by omega),show decide ((a:Int)+k<(text.size:Int))=false from decide_eq_false (by omega)]
  rfl
 ·rw [show decide ((k:Int)<5)=false from decide_eq_false (by omega)]
  rfl
theorem KAF {text:ByteArray} {a k m:Nat} {n b:Int} (hs:text.size≤140737488351232) (hk:k<5) (hi:a+k<text.size) (h0:0≤n) (h1:n<pw k) (hb:bt text ((a+k:Nat):Int)=b) :
  Xf (m+1) (.c0 text a n k)=if b<128 then (if b=0∧0<k∨n+b*pw k > 1000000000 then some Ye else some (n+b*pw k,((a+k+1:Nat):Int),true)) else Xf m (.c0 text a (n+(b - 128)*pw k) ((k+1:Nat):Int)):=by
 have hb':=Xh text ((a+k:Nat):Int)
 rw [hb] at hb'
 obtain ⟨n1,n2,n3⟩:=Bj hk h0 h1 hb'
 obtain ⟨p1,p2⟩:=IAq hk
 rw [p2] at p1
 have ha:w64 ((a:Int)+(k:Int))=((a+k:Nat):Int):=by rw [w64_id (by omega) (by omega)];omega
 have hw:w64 (((a+k:Nat):Int)+1)=((a+k+1:Nat):Int):=by rw [w64_id (by omega) (by omega)];omega
 have hw2:w64 ((k:Int)+1)=((k+1:Nat):Int):=by rw [w64_id (by omega) (by omega)];omega
 simp only [Xf,VAD,ha,hb,w64_id (n:=b) (by omega) (by omega),p2,p1,hw,hw2]
 rw [show decide (((a+k:Nat):Int)<(text.size:Int))=true from decide_eq_true (by omega),show decide ((k:Int)<5)=true from decide_eq_true (by omega),show decide ((0:Int)≤7*(k:Int))=true from decide_eq_true (by omega),
  show decide ((0:Int)≤((a+k:Nat):Int))=true from decide_eq_true (by omega)]
 simp only [Bool.and_self,cond_true]
 by_cases h:b<128
 ·obtain ⟨e1,e2,e3,e4,_⟩:=n1 h
  rw [if_pos h,e1,e2,e3,show decide (b<128)=true from decide_eq_true h]
  simp only [cond_true]
  by_cases hz:b=0
  ·rw [show (b == 0)=true from beq_iff_eq.2 hz]
   by_cases hk0:0<k
   ·rw [if_pos (.inl ⟨hz,hk0⟩),show decide ((k:Int) > 0)=true from decide_eq_true (by omega)];rfl
   ·rw [show decide ((k:Int) > 0)=false from decide_eq_false (by omega)]
    by_cases h2:n+b*pw k > 1000000000
    ·rw [if_pos (.inr h2),show decide (n+b*pw k > 1000000000)=true from decide_eq_true h2];rfl
    ·rw [if_neg (by omega),show decide (n+b*pw k > 1000000000)=false from decide_eq_false h2];rfl
  ·rw [show (b == 0)=false from beq_eq_false_iff_ne.2 hz]
   by_cases h2:n+b*pw k > 1000000000
   ·rw [if_pos (.inr h2),show decide (n+b*pw k > 1000000000)=true from decide_eq_true h2];rfl
   ·rw [if_neg (by omega),show decide (n+b*pw k > 1000000000)=false from decide_eq_false h2];rfl
 ·obtain ⟨e1,e2,e3,_,_⟩:=n2 h
  rw [if_neg h,e1,e2,e3,show decide (b<128)=false from decide_eq_false h]
  rfl
theorem JAq {text:ByteArray} {a:Nat} (hs:text.size≤140737488351232) (ha:a≤text.size):∀ j k m n,k+j=5→j<m→0≤n→n<pw k→∃ r,Xf m (.c0 text a n k)=some r∧RV text a r:=by
 intro j
 induction j with
 | zero=>
  intro k m n hk hm _ _
  obtain ⟨m,rfl⟩:∃ q,m=q+1:=⟨m - 1,by omega⟩
  exact ⟨_,JAF hs ha (by omega) (.inr (by omega)),.inl rfl⟩
 | succ j ih=>
  intro k m n hk hm h0 h1
  obtain ⟨m,rfl⟩:∃ q,m=q+1:=⟨m - 1,by omega⟩
  by_cases hi:a+k<text.size
  ·have hb:=Xh text ((a+k:Nat):Int)
   generalize hbe:bt text ((a+k:Nat):Int)=b at hb
   obtain ⟨n1,n2,_⟩:=Bj (b:=b) (by omega:k<5) h0 h1 hb
   rw [KAF hs (by omega) hi h0 h1 hbe]
   split
   ·rename_i h
    split
    ·exact ⟨_,rfl,.inl rfl⟩
    ·exact ⟨_,rfl,.inr ⟨_,_,rfl,(n1 h).2.2.2.1,by omega,by omega,by omega⟩⟩
   ·rename_i h
    obtain ⟨_,_,_,e4,e5⟩:=n2 h
    exact ih (k+1) m _ (by omega) (by omega) e4 e5
  ·exact ⟨_,JAF hs ha (by omega) (.inl (by omega)),.inl rfl⟩
theorem KAq {text:ByteArray} {a:Nat} {V:Int} (hs:text.size≤140737488351232) (hV:V≤1000000000) (hA:At text a (IK V)):∀ U k m n,IK U=(IK V).drop k→0≤U→(0<k→0<U)→n+pw k*U=V→0≤n→n<pw k→5<m+k→Xf m (.c0 text a n k)=some (V,((a+(IK V).length:Nat):Int),true):=by
 have h5:=AAb hV
 intro U
 induction U using IK.induct with
 | case1 U hU ih=>
  intro k m n e1 u0 uz e2 h0 h1 hm
  have hl:=congrArg List.length e1
  rw [List.length_drop] at hl
  have hp:=Oe U
  have hk:k<5:=by omega
  obtain ⟨m,rfl⟩:∃ q,m=q+1:=⟨m - 1,by omega⟩
  have hA':At text (a+k) (IK U):=by
   have:At text a ((IK V).take k++(IK V).drop k):=by rw [List.take_append_drop];exact hA
   have:=this.right
   rw [List.length_take,Nat.min_eq_left (by omega),←e1] at this
   exact this
  have e3:=e1
  rw [IK,if_pos hU] at hA' e3
  obtain ⟨hi,hb⟩:=hA'.head
  obtain ⟨n1,n2,_⟩:=Bj (b:=128+U % 128) hk h0 h1 (by omega)
  obtain ⟨_,_,_,e4,e5⟩:=n2 (by omega)
  rw [KAF hs hk hi h0 h1 hb,if_neg (by omega)]
  refine ih (k+1) m _ ?_ (by omega) (fun _=>by omega) ?_ e4 e5 (by omega)
  ·rw [←List.drop_drop,←e3];rfl
  ·rw [BAF]
   rcases Un hk with e | e | e | e | e <;> rw [e] at e2 ⊢ <;> omega
 | case2 U hU=>
  intro k m n e1 u0 uz e2 h0 h1 hm
  have hl:=congrArg List.length e1
  rw [List.length_drop] at hl
  have hp:=Oe U
  have hk:k<5:=by omega
  obtain ⟨m,rfl⟩:∃ q,m=q+1:=⟨m - 1,by omega⟩
  have hA':At text (a+k) (IK U):=by
   have:At text a ((IK V).take k++(IK V).drop k):=by rw [List.take_append_drop];exact hA
   have:=this.right
   rw [List.length_take,Nat.min_eq_left (by omega),←e1] at this
   exact this
  rw [X8 u0 (by omega)] at hA' hl
  simp only [List.length_singleton] at hl
  obtain ⟨hi,hb⟩:=hA'.head
  have e3:n+U*pw k=V:=by rw [Int.mul_comm];exact e2
  have e4:a+k+1=a+(IK V).length:=by omega
  rw [KAF hs hk hi h0 h1 hb,if_pos (by omega),e3,if_neg (by omega),e4]
theorem TAR {text:ByteArray} {a:Nat} (hs:text.size≤140737488351232) (ha:a≤text.size):∃ r,EZ text a=some r∧RV text a r:=by
 simp only [EZ,P6,Yb,Option.bind_some]
 rw [show FN (a:Int) 0 (text.size:Int)=true from DY.2 ⟨by omega,by omega⟩]
 exact JAq hs ha 5 0 gas 0 rfl (gas_lt (by omega)) (by omega) (by rw [Di];omega)
theorem C9 {text:ByteArray} {a:Nat} {V:Int} (hs:text.size≤140737488351232) (hV0:0≤V) (hV:V≤1000000000) (hA:At text a (IK V)):EZ text a=some (V,((a+(IK V).length:Nat):Int),true):=by
 have ha:a+(IK V).length≤text.size:=by
  rcases hA.size with h | h
  ·have:=Oe V;rw [h] at this;simp at this
  ·exact h
 simp only [EZ,P6,Yb,Option.bind_some]
 rw [show FN (a:Int) 0 (text.size:Int)=true from DY.2 ⟨by omega,by omega⟩]
 exact KAq hs hV hA V 0 gas 0 (by simp) hV0 (fun h=>absurd h (Nat.lt_irrefl 0)) (by rw [Di];omega) (by omega) (by rw [Di];omega) (by have:=gas_lt (n:=5) (by omega);omega)
def RVx (text:ByteArray) (a:Nat) (r:Int×Int×Bool):Prop:=r=Ye∨∃ v:Int,r=(v,((a+(IK v).length:Nat):Int),true)∧0≤v∧v≤1000000000∧At text a (IK v)
theorem LAq {text:ByteArray} {a:Nat} (hs:text.size≤140737488351232) (ha:a≤text.size):∀ j k m n,k+j=5→j<m→0≤n→n<pw k→∃ r,Tf m (.c0 text a n (pw k) ((a+k:Nat):Int))=some r∧RVx text a r:=by
 intro j
 induction j with
 | zero=>
  intro k m n hk hm _ _
  obtain ⟨m,rfl⟩:∃ q,m=q+1:=⟨m - 1,by omega⟩
  exact ⟨_,CAF hs ha (.inr (by omega)),.inl rfl⟩
 | succ j ih=>
  intro k m n hk hm h0 h1
  obtain ⟨m,rfl⟩:∃ q,m=q+1:=⟨m - 1,by omega⟩
  by_cases hi:a+k<text.size
  ·have hb:=Xh text ((a+k:Nat):Int)
   generalize hbe:bt text ((a+k:Nat):Int)=b at hb
   obtain ⟨n1,n2,_⟩:=Bj (b:=b) (by omega:k<5) h0 h1 hb
   rw [DAF hs (by omega) hi h0 h1 hbe]
   split
   ·rename_i h
    have hv0:=(n1 h).2.2.2.1
    split
    ·exact ⟨_,rfl,.inl rfl⟩
    ·split
     ·rename_i h2
      have h3:=congrArg bs h2
      rw [SN (Ze _ hv0),UZ] at h3
      have hl:=congrArg List.length h3
      rw [List.length_drop,List.length_take,bs_len,Nat.min_eq_left (by omega)] at hl
      refine ⟨_,rfl,.inr ⟨_,by rw [show a+k+1=a+(IK (n+b*pw k)).length by omega],hv0,by omega,(bs text).drop (a+k+1),?_⟩⟩
      rw [h3,List.drop_take,show a+k+1=a+(a+k+1 - a) by omega,←List.drop_drop,Nat.add_sub_cancel_left,List.take_append_drop]
     ·exact ⟨_,rfl,.inl rfl⟩
   ·rename_i h
    obtain ⟨_,_,_,e4,e5⟩:=n2 h
    exact ih (k+1) m _ (by omega) (by omega) e4 e5
  ·exact ⟨_,CAF hs ha (.inl (by omega)),.inl rfl⟩
theorem MAb {text:ByteArray} {p:Nat} (hp:p<text.size) {l:List Int} (h:At text (p+1) l):At text p (bt text (p:Int)::l):=by
 obtain ⟨r,hr⟩:=h
 refine ⟨r,?_⟩
 rw [drop_at (by rw [bs_len];exact hp),hr,XAE hp]
 rfl
theorem MAq {text:ByteArray} {a:Nat} (hs:text.size≤140737488351232) (ha:a≤text.size):∀ j k m n,k+j=5→j<m→0≤n→n<pw k→∃ r,Xf m (.c0 text a n k)=some r∧(r=Ye∨∃ U:Int,r=(n+pw k*U,((a+k+(IK U).length:Nat):Int),true)∧0≤U∧(0<k→0<U)∧n+pw k*U≤1000000000∧At text (a+k) (IK U)):=by
 intro j
 induction j with
 | zero=>
  intro k m n hk hm _ _
  obtain ⟨m,rfl⟩:∃ q,m=q+1:=⟨m - 1,by omega⟩
  exact ⟨_,JAF hs ha (by omega) (.inr (by omega)),.inl rfl⟩
 | succ j ih=>
  intro k m n hk hm h0 h1
  obtain ⟨m,rfl⟩:∃ q,m=q+1:=⟨m - 1,by omega⟩
  by_cases hi:a+k<text.size
  ·have hb:=Xh text ((a+k:Nat):Int)
   generalize hbe:bt text ((a+k:Nat):Int)=b at hb
   obtain ⟨n1,n2,_⟩:=Bj (b:=b) (by omega:k<5) h0 h1 hb
   rw [KAF hs (by omega) hi h0 h1 hbe]
   split
   ·rename_i h
    split
    ·exact ⟨_,rfl,.inl rfl⟩
    ·rename_i h2
     have e1:=X8 hb.1 (by omega:b≤127)
     refine ⟨_,rfl,.inr ⟨b,by rw [e1,Int.mul_comm b (pw k)];rfl,hb.1,fun hk0=>by omega,by rw [Int.mul_comm (pw k) b];omega,?_⟩⟩
     rw [e1,←hbe]
     exact MAb hi ⟨_,rfl⟩
   ·rename_i h
    obtain ⟨_,_,_,e4,e5⟩:=n2 h
    obtain ⟨r,hr,hR⟩:=ih (k+1) m _ (by omega) (by omega) e4 e5
    refine ⟨r,hr,?_⟩
    rcases hR with hR | ⟨U,hR,hU,hU0,hUb,hA⟩
    ·exact .inl hR
    ·have hU1:=hU0 (by omega)
     have e6:IK (b - 128+128*U)=b::IK U:=by
      rw [IK,if_pos (by omega),show (b - 128+128*U) / 128=U by omega,show 128+(b - 128+128*U) % 128=b by omega]
     have e7:n+(b - 128)*pw k+pw (k+1)*U=n+pw k*(b - 128+128*U):=by
      rw [BAF,Int.mul_add,Int.mul_comm (b - 128) (pw k),←Int.mul_assoc];omega
     refine .inr ⟨b - 128+128*U,?_,by omega,fun _=>by omega,by rw [←e7];exact hUb,?_⟩
     ·rw [hR,e6,e7,List.length_cons,show a+(k+1)+(IK U).length=a+k+((IK U).length+1) by omega]
     ·rw [e6,←hbe]
      exact MAb hi hA
  ·exact ⟨_,JAF hs ha (by omega) (.inl (by omega)),.inl rfl⟩
theorem UAR {text:ByteArray} {a:Nat} (hs:text.size≤140737488351232) (ha:a≤text.size):∃ r,Ya text a=some r∧RVx text a r:=by
 simp only [Ya,Zy,Eb,Option.bind_some]
 rw [show FN (a:Int) 0 (text.size:Int)=true from DY.2 ⟨by omega,by omega⟩]
 exact LAq hs ha 5 0 gas 0 rfl (gas_lt (by omega)) (by omega) (by rw [Di];omega)
theorem NAq {text:ByteArray} {a:Nat} (hs:text.size≤140737488351232) (ha:a≤text.size):∃ r,EZ text a=some r∧RVx text a r:=by
 simp only [EZ,P6,Yb,Option.bind_some]
 rw [show FN (a:Int) 0 (text.size:Int)=true from DY.2 ⟨by omega,by omega⟩]
 obtain ⟨r,hr,hR⟩:=MAq hs ha 5 0 gas 0 rfl (gas_lt (by omega)) (by omega) (by rw [Di];omega)
 refine ⟨r,hr,?_⟩
 rcases hR with hR | ⟨U,hR,hU,_,hUb,hA⟩
 ·exact .inl hR
 ·rw [Di,Int.zero_add,Int.one_mul] at hR hUb
  exact .inr ⟨U,hR,hU,hUb,hA⟩
noncomputable def PY (text:ByteArray) (a:Nat):Int×Int×Bool:=(Ya text a).getD Ye
theorem OAq {text:ByteArray} {a:Nat} (hs:text.size≤140737488351232) (ha:a≤text.size):Ya text a=some (PY text a):=by
 obtain ⟨r,hr,_⟩:=UAR hs ha
 rw [PY,hr];rfl
theorem KAl {text:ByteArray} {a:Nat} (hs:text.size≤140737488351232) (ha:a≤text.size):EZ text a=some (PY text a):=by
 obtain ⟨r,hr,hR⟩:=UAR hs ha
 obtain ⟨r',hr',hR'⟩:=NAq hs ha
 have e:PY text a=r:=by rw [PY,hr];rfl
 rw [e]
 rcases hR with rfl | ⟨v,rfl,h0,h1,hA⟩
 ·rcases hR' with rfl | ⟨v,rfl,h0,h1,hA⟩
  ·exact hr'
  ·rw [OAR hs h0 h1 hA] at hr
   have h2:true=false:=congrArg (fun x=>(Option.getD x Ye).2.2) hr
   cases h2
 ·exact C9 hs h0 h1 hA
theorem XAQ {text:ByteArray} {a:Nat} (hs:text.size≤140737488351232) (ha:a≤text.size):RVx text a (PY text a):=by
 obtain ⟨r,hr,hR⟩:=UAR hs ha
 have e:PY text a=r:=by rw [PY,hr];rfl
 rw [e];exact hR
theorem XAt {text:ByteArray} {a:Nat} {V:Int} (hs:text.size≤140737488351232) (hV0:0≤V) (hV:V≤1000000000) (hA:At text a (IK V)):PY text a=(V,((a+(IK V).length:Nat):Int),true):=by
 rw [PY,OAR hs hV0 hV hA];rfl
noncomputable def Nc (file:ByteArray) (a:Nat):Option (ByteArray×Nat):=
 bif (PY file a).2.2 && (FN (PY file a).1 1 9000 && (decide ((PY file a).1≤(file.size:Int) - (PY file a).2.1 - 4) &&
  (bs (file.extract (PY file a).2.1.toNat ((PY file a).2.1+4).toNat) == four (Ib (bs (file.extract ((PY file a).2.1+4).toNat ((PY file a).2.1+4+(PY file a).1).toNat))))))
 then some (file.extract ((PY file a).2.1+4).toNat ((PY file a).2.1+4+(PY file a).1).toNat,((PY file a).2.1+4+(PY file a).1).toNat) else none
noncomputable def WY:Nat→ByteArray→Nat→List ByteArray×Nat
 | 0,_,a=>([],a)
 | j+1,file,a=>match Nc file a with
  | none=>([],a)
  | some p=>(p.1::(WY j file p.2).1,(WY j file p.2).2)
noncomputable def Mc (file:ByteArray):List ByteArray×Int:=bif decide ((file.size:Int) > 20000) then ([],0) else ((WY (file.size+1) file 0).1,((WY (file.size+1) file 0).2:Int))
theorem MAF {file:ByteArray} {a:Nat} (hs:file.size≤140737488351232) (ha:a≤file.size):(Nc file a=none)∨∃ (v:Int) (q:Nat),PY file a=(v,(q:Int),true)∧a<q∧q=a+(IK v).length∧1≤v∧v≤9000∧q+4+v.toNat≤file.size∧At file a (IK v)∧
  bs (file.extract q (q+4))=four (Ib (bs (file.extract (q+4) (q+4+v.toNat))))∧Nc file a=some (file.extract (q+4) (q+4+v.toNat),q+4+v.toNat):=by
 rw [Nc]
 rcases XAQ hs ha with h | ⟨v,h,h0,h1,hA⟩
 ·left;rw [h];rfl
 ·rw [h]
  have hp:=Oe v
  have hsz:=hA.size.resolve_left (by intro h;rw [h] at hp;simp at hp)
  generalize hq:a+(IK v).length=q at hsz
  simp only [Bool.true_and]
  cases h2:FN v 1 9000
  ·left;rfl
  ·rw [DY] at h2
   by_cases h3:v≤(file.size:Int) - (q:Int) - 4
   ·rw [decide_eq_true h3]
    have e1:((q:Int)).toNat=q:=Int.toNat_natCast q
    have e2:((q:Int)+4).toNat=q+4:=by omega
    have e3:((q:Int)+4+v).toNat=q+4+v.toNat:=by omega
    rw [e1,e2,e3]
    cases h4:(bs (file.extract q (q+4)) == four (Ib (bs (file.extract (q+4) (q+4+v.toNat)))))
    ·left;rfl
    ·right
     exact ⟨v,q,rfl,by omega,hq.symm,by omega,by omega,by omega,hA,beq_iff_eq.1 h4,rfl⟩
   ·left;rw [decide_eq_false h3];rfl
theorem NAF (f:ByteArray) {a b c:Nat} (h:a≤b) (h2:b≤c) (h3:c≤f.size):bs (f.extract a c)=bs (f.extract a b)++bs (f.extract b c):=by
 rw [UZ,UZ,UZ,List.drop_take,List.drop_take,List.drop_take]
 rw [show (bs f).drop b=((bs f).drop a).drop (b - a) by rw [List.drop_drop];congr 1;omega]
 rw [show c - a=(b - a)+(c - b) by omega,List.take_add]
theorem PAq {f:ByteArray} (hf:f.size≤140737488351232):Dl f=some (Mc f):=by
 rw [Dl,SAL,Mc]
 by_cases h0:20000<f.size
 ·rw [TB (by simp;omega),TB (by simp;omega)]
 ·rw [NM (by simp;omega),NM (by simp;omega)]
  have key:∀ (j a m:Nat) (out:List ByteArray),a≤f.size→f.size<a+j→out.length≤a→BAC (m+j+1) (.c0 f (a:Int) out)=some (out++(WY j f a).1,((WY j f a).2:Int)):=by
   intro j
   induction j with
   | zero=>intro a m out ha hj;omega
   | succ j ih=>
    intro a m out ha hj ho
    rw [show m+(j+1)+1=(m+j+1)+1 by omega,BAC]
    simp only [TAL,WY]
    by_cases he:a=f.size
    ·subst he
     rw [NM (by simp)]
     rcases MAF hf (Nat.le_refl _) with h | ⟨v,q,_,_,hq,h1,_,h3,_⟩
     ·rw [h,List.append_nil]
     ·omega
    ·rw [TB (by simp;omega),OAq hf ha,Option.bind_some]
     rcases XAQ hf ha with h | ⟨v,h,hv0,hv1,hA⟩
     ·rw [show Nc f a=none by rw [Nc,h];rfl,h]
      rw [List.append_nil];rfl
     ·have hp:=Oe v
      have hsz:=hA.size.resolve_left (by intro h;rw [h] at hp;simp at hp)
      have hn:=MAF hf ha
      have hex:bs (f.extract a (a+(IK v).length))=IK v:=by rw [hA.extract (Ze v hv0),SN (Ze v hv0)]
      rw [h] at hn ⊢
      generalize hq:a+(IK v).length=q at hsz hn hex
      simp only [Bool.not_true,cond_false]
      rw [w64_id (n:=(f.size:Int) - (q:Int)) (by omega) (by omega),w64_id (n:=(f.size:Int) - (q:Int) - 4) (by omega) (by omega),w64_id (n:=(q:Int)+4) (by omega) (by omega),w64_id (n:=(q:Int)+4+v) (by omega) (by omega)]
      by_cases h3:v > (f.size:Int) - (q:Int) - 4
      ·rw [TB (by simp;omega)]
       rcases hn with hn | ⟨v',q',he',_,_,_,_,h4,_⟩
       ·rw [hn,List.append_nil]
       ·simp only [Prod.mk.injEq,and_true] at he';omega
      ·have e2:((q:Int)+4).toNat=q+4:=by omega
       have e3:((q:Int)+4+v).toNat=q+4+v.toNat:=by omega
       have hxs:(f.extract (q+4) (q+4+v.toNat)).size=v.toNat:=by rw [ByteArray.size_extract];omega
       rw [NM (by simp;omega),TB (by simp;omega),e2,e3,Int.toNat_natCast,LAb (by omega),Option.bind_some,frameT,hxs]
       rcases hn with hn | ⟨v',q',he',_,_,h5,h6,h4,hA',hb,hn⟩
       ·rw [hn,List.append_nil]
        cases hr:FN ((v.toNat:Nat):Int) 1 9000
        ·rfl
        ·rw [cond_true,NM (by rfl),TB (by simp;omega)]
         rw [TB]
         rw [Bool.not_eq_true',Ym,SN (SAR (Yc _)),beq_eq_false_iff_ne]
         intro hc
         rw [Cj,bs_len,hxs,show ((v.toNat:Nat):Int)=v by omega,NAF f (a:=a) (b:=q) (by omega) (by omega) (by omega),hex,NAF f (a:=q) (b:=q+4) (by omega) (by omega) (by omega)] at hc
         have hc2:=(List.append_inj (List.append_cancel_left hc) (by rw [bs_len,ByteArray.size_extract];show 4=_;omega)).1
         rw [Nc,h] at hn
         have hr':FN v 1 9000=true:=by rw [show ((v.toNat:Nat):Int)=v by omega] at hr;exact hr
         rw [hq] at hn
         simp only [hr',e2,e3,Int.toNat_natCast,←hc2,beq_self_eq_true,Bool.true_and,Bool.and_true] at hn
         rw [decide_eq_true (by omega:v≤(f.size:Int) - (q:Int) - 4)] at hn
         cases hn
       ·simp only [Prod.mk.injEq,and_true] at he'
        obtain ⟨rfl,he'⟩:=he'
        have:q=q':=by omega
        subst this
        have hr:FN ((v.toNat:Nat):Int) 1 9000=true:=by rw [DY];omega
        rw [hn,hr,cond_true,NM (by rfl),TB (by simp;omega)]
        rw [NM (by
         rw [Bool.not_eq_false',Ym,SN (SAR (Yc _)),beq_iff_eq]
         rw [Cj,bs_len,hxs,show ((v.toNat:Nat):Int)=v by omega,NAF f (a:=a) (b:=q) (by omega) (by omega) (by omega),hex,NAF f (a:=q) (b:=q+4) (by omega) (by omega) (by omega),hb])]
        rw [TB (by simp;omega),show (q:Int)+4+v=((q+4+v.toNat:Nat):Int) by omega,ih (q+4+v.toNat) m _ (by omega) (by omega) (by simp;omega)]
        simp
  obtain ⟨m,hm⟩:∃ m,gas=m+(f.size+1)+1:=⟨gas - (f.size+2),by have:=gas_lt (n:=f.size+2) (by omega);omega⟩
  rw [hm,show (0:Int)=((0:Nat):Int) from rfl,key (f.size+1) 0 m [] (by omega) (by omega) (Nat.le_refl _)]
  rfl
theorem WAR {n:Int} (h:0≤n) (h2:n≤255):Fh n=some (ofBytes [n]):=by
 have e:n.tmod 256=n:=by rw [Int.tmod_eq_emod_of_nonneg h];omega
 simp only [Fh,UAL,e]
 rw [show decide (n<0)=false from decide_eq_false (by omega),w8_id h h2]
 rfl
theorem NAb (k:List Int) {i:Nat}:(ZY k).getD i 0=k.getD i 0:=by
 by_cases h:i<k.length
 ·rw [ZY,L8 h]
 ·rw [ZY,Xq (by omega)]
  simp only [List.getD]
  rw [List.getElem?_eq_none (by omega:k.length≤i)]
  by_cases h2:i - k.length<64 - k.length
  ·rw [List.getElem?_replicate,if_pos h2];rfl
  ·rw [List.getElem?_replicate,if_neg h2]
theorem OAb (f:Int→Int) {l:List Int} (hl:l.length=64) {i:Nat} (h:i<64) (y:Int) (hy:y=f (l.getD i 0)):((l.take i).map f++List.replicate (64 - i) 0).set i y=(l.take (i+1)).map f++List.replicate (64 - (i+1)) 0:=by
 rw [show 64 - i=(64 - (i+1))+1 by omega,List.replicate_succ,Ue (by simp;omega),take_at (by omega),hy,getD_at (by omega),List.map_append,List.append_assoc]
 rfl
theorem PAb {k:ByteArray} (hk:k.size≤64) (x:Int):Ep gas (.c0 k x (0:Int) (List.replicate (64:Int).toNat (0:Int)))=some (ofBytes (Fa x (ZY (bs k)))):=by
 have hl:(ZY (bs k)).length=64:=by rw [ZY,List.length_append,List.length_replicate,bs_len];omega
 have key:=loopN (A:=Unit) (n:=64) (Lp:=Ep) (st:=fun i _=>.c0 k x (i:Int) (((ZY (bs k)).take i).map (fun b=>xb b x)++List.replicate (64 - i) 0)) (Inv:=fun _ _=>True) (out:=fun _ _=>some (ofBytes (Fa x (ZY (bs k)))))
  (fun m _ _=>by
   rw [Ep]
   simp only [CAC]
   rw [NM (by simp),List.take_of_length_le (by omega),Nat.sub_self,List.replicate_zero,List.append_nil];rfl)
  (fun m i _ hi _=>.inr ⟨(),by
   have e:w64 ((i:Int)+1)=((i+1:Nat):Int):=by rw [w64_id (by omega) (by omega)];rfl
   have hlen:(((ZY (bs k)).take i).map (fun b=>xb b x)++List.replicate (64 - i) 0).length=64:=by simp [hl];omega
   have hm:(((ZY (bs k)).take i).map (fun b=>xb b x)).length=i:=by simp [hl];omega
   rw [Ep]
   simp only [CAC,e,Int.toNat_natCast,List.length_set,hlen,EAF]
   rw [TB (by simp;omega)]
   by_cases h:i<k.size
   ·rw [TB (by simp;omega),TB (by simp;omega),TB (by simp;omega),TB (by simp;omega),TB (by simp;omega),Me h]
    rw [List.set_set,Ad (by omega)]
    rw [OAb (fun b=>xb b x) hl hi _ (by rw [NAb])]
   ·rw [NM (by simp;omega),TB (by simp;omega),TB (by simp;omega)]
    rw [Xq (by omega),hm,Nat.sub_self]
    rw [OAb (fun b=>xb b x) hl hi _ (by
     rw [NAb,show (bs k).getD i 0=0 by simp [List.getD,List.getElem?_eq_none (show (bs k).length≤i by rw [bs_len];omega)]]
     rw [show 64 - i=(63 - i)+1 by omega,List.replicate_succ];rfl)],trivial,rfl⟩)
 exact key gas 0 () (Nat.zero_le _) (gas_lt (by omega)) trivial
theorem QAb {k:ByteArray} (hk:k.size≤1000000000) (x:Int):Iz k x=some (ofBytes (Fa x (Af (bs k)))):=by
 rw [Iz,XAL]
 by_cases h:64<k.size
 ·rw [TB (by simp;omega),V8 hk,Option.bind_some,PAb (by rw [Zh];omega),Af,if_pos (by rw [bs_len];omega),AAF]
 ·rw [NM (by simp;omega),PAb (by omega),Af,if_neg (by rw [bs_len];omega)]
theorem RAb {k s:ByteArray} (hk:k.size≤900000000) (hs:s.size≤900000000):Gh k s=some (Gg k s):=by
 have x1:=FAF 92 (Af (bs k))
 have x2:=FAF 54 (Af (bs k))
 have x3:=FAq (bs k)
 rw [Gh,YAL,QAb (by omega),Option.bind_some,QAb (by omega),Option.bind_some,TB (by rw [ofBytes_size,decide_eq_true_eq];omega)]
 rw [V8 (by rw [ByteArray.size_append,ofBytes_size];omega),Option.bind_some,TB (by rw [ofBytes_size,Zh,decide_eq_true_eq];omega),V8 (by rw [ByteArray.size_append,ofBytes_size,Zh];omega),Option.bind_some]
 rw [OZ,XY,AAF,XY,SN (GAF _ _),SN (GAF _ _),Gg,Bf]
theorem QAq {k:ByteArray} {num n:Int} (hk:k.size≤900000000):Oz k num n=some (Ar k num n):=by
 rw [Oz,BAM,Eb,Option.bind_some,Ar,maskOk]
 cases h:FN num 0 1000000000
 ·rfl
 ·rw [DY] at h
  rw [NM (by rfl),Eb,Option.bind_some]
  cases h2:FN n 0 8000
  ·rfl
  ·rw [DY] at h2
   rw [NM (by rfl),Bool.and_self,cond_true]
   have hv:=Aa (n:=num) (by omega)
   have hvb:=Wn h.1
   have key:=loopN (A:=Unit) (n:=(n.toNat+31) / 32) (Lp:=Nz) (st:=fun i _=>.c0 k num n (i:Int) (Hg (bs k) (IK num) i)) (Inv:=fun _ _=>True) (out:=fun _ _=>some (ofBytes (JZ (bs k) (IK num) n.toNat),true))
    (fun m _ _=>by
     rw [Nz]
     simp only [DAC]
     rw [NM (by rw [Ei,decide_eq_false_iff_not];omega),TB (by rw [Ei];simp;omega)]
     rfl)
    (fun m i _ hi _=>.inr ⟨(),by
     have e:w64 ((i:Int)+1)=((i+1:Nat):Int):=by rw [w64_id (by omega) (by omega)];rfl
     have h9:(⟨#[109]⟩:ByteArray).size=1:=rfl
     rw [Nz]
     simp only [DAC,e]
     rw [TB (by rw [Ei,decide_eq_true_eq];omega),Ci (by omega),Option.bind_some,TB (by rw [ofBytes_size,h9,decide_eq_true_eq];omega),WAR (by omega) (by omega),Option.bind_some,TB (by rw [ByteArray.size_append,ofBytes_size,ofBytes_size,h9,decide_eq_true_eq,List.length_singleton];omega)]
     rw [RAb hk (by rw [ByteArray.size_append,ByteArray.size_append,ofBytes_size,ofBytes_size,h9,List.length_singleton];omega),Option.bind_some,GAb k h.1 h.2 i (by omega),N8,SN (Y8 _ _),TB (by rw [ofBytes_size,Zq];rfl),TB (by rw [Ei,Zq,decide_eq_true_eq];omega)]
     rfl,trivial,rfl⟩)
   exact key gas 0 () (Nat.zero_le _) (gas_lt (by omega)) trivial
theorem RAq {k s:ByteArray} {num:Int} (hk:k.size≤900000000) (hn:0≤num∧num≤1000000000) (hs:s.size≤800000000):Pz k num s=some (ofBytes (Ua (bs k) num (bs s))):=by
 have hv:=Aa (n:=num) (by omega)
 have h9:(⟨#[116]⟩:ByteArray).size=1:=rfl
 have e:bs (⟨#[116]⟩:ByteArray)=[116]:=rfl
 have h16:(16:Int).toNat=16:=rfl
 rw [Pz,DAM,Ci (by omega),Option.bind_some,TB (by rw [ofBytes_size,h9,decide_eq_true_eq];omega),TB (by rw [ByteArray.size_append,ofBytes_size,h9,decide_eq_true_eq];omega)]
 rw [RAb hk (by rw [ByteArray.size_append,ByteArray.size_append,ofBytes_size,h9];omega),Option.bind_some,TB (by rw [FAb];decide)]
 refine congrArg some (Ob ?_)
 rw [UZ,EAb,h16,SN (Z8 _ _ _),XY,XY,e,SN (Wn hn.1),Ua,List.drop_zero,List.append_assoc]
 rfl
theorem SAq {a b:ByteArray} (ha:a.size≤140737488351232) (h:a.size≤b.size):Sz a b=some (ofBytes (LY (bs a) (bs b))):=by
 have hl:=bs_len a
 have hl2:=bs_len b
 have key:=loopN (A:=Unit) (n:=(bs a).length) (Lp:=Rz) (st:=fun i _=>.c0 b (i:Int) (List.zipWith xb ((bs a).take i) ((bs b).take i)++(bs a).drop i)) (Inv:=fun _ _=>True) (out:=fun _ _=>some (ofBytes (LY (bs a) (bs b))))
  (fun m _ _=>by
   rw [Rz]
   simp only [FAC]
   rw [NM (by simp;omega),List.take_length,List.drop_length,List.append_nil,LY,QAR])
  (fun m i _ hi _=>.inr ⟨(),by
   have e:w64 ((i:Int)+1)=((i+1:Nat):Int):=by rw [w64_id (by omega) (by omega)];rfl
   have hlen:(List.zipWith xb ((bs a).take i) ((bs b).take i)++(bs a).drop i).length=(bs a).length:=by simp;omega
   rw [Rz]
   simp only [FAC,e,Int.toNat_natCast,hlen,EAF,JAb hi (show i<(bs b).length by omega)]
   rw [TB (by simp;omega),TB (by simp;omega),TB (by simp;omega),TB (by simp;omega),Me (by omega),IAb hi (by omega)],trivial,rfl⟩)
 rw [Sz,HAM,TB (by simp;omega),N8]
 exact key gas 0 () (Nat.zero_le _) (gas_lt (by omega)) trivial
theorem Dn {n:Int} (h:n≤9223372036854775807):Vb n=some (ofBytes (IK n)):=by
 have key:∀ (n:Int) (m:Nat) (out:List Int),n≤9223372036854775807→(IK n).length≤m→out.length+(IK n).length≤1000→G7 m (.c0 n out)=some (ofBytes (out++IK n)):=by
  intro n
  induction n using IK.induct with
  | case1 n hn ih=>
   intro m out h1 h2 h3
   rw [IK,if_pos hn] at h2 h3 ⊢
   simp only [List.length_cons] at h2 h3
   obtain ⟨m,rfl⟩:∃ k,m=k+1:=⟨m - 1,by omega⟩
   obtain ⟨e1,_,e2⟩:=ZAa hn h1
   simp only [G7,ZAD,e1,e2]
   rw [show decide (n > 127)=true from decide_eq_true hn,show decide ((out.length+1)*1≤140737488355328)=true from decide_eq_true (by omega)]
   simp only [cond_true]
   rw [ih m _ (by omega) (by omega) (by simp;omega)]
   simp
  | case2 n hn=>
   intro m out h1 h2 h3
   rw [IK,if_neg hn] at h2 h3 ⊢
   simp at h2 h3
   obtain ⟨m,rfl⟩:∃ k,m=k+1:=⟨m - 1,by omega⟩
   simp only [G7,ZAD]
   rw [show decide (n > 127)=false from decide_eq_false hn,show decide ((out.length+1)*1≤140737488355328)=true from decide_eq_true (by omega)]
   rfl
 have hl:=Aa h
 exact key n gas [] h (Nat.le_of_lt (gas_lt (by omega))) (by simp;omega)
theorem TAq {n:Int}:Yl n=some (bif FN n 0 1000000000 then (ofBytes (IK n),true) else (⟨#[]⟩,false)):=by
 simp only [Yl,BAP,Yb,Option.bind_some]
 cases h:FN n 0 1000000000
 ·rfl
 ·rw [DY] at h
  rw [Bool.not_true,cond_false,Dn (by omega),Option.bind_some,cond_true]
theorem Xn {n:Int} (h:0≤n) (h2:n≤255):Fe n=some (ofBytes [n]):=by
 simp only [Fe,CAP,w8_id h h2]
theorem VAQ {n:Nat} (h:n≤1000000000):Vf (n:Int)=some (ofBytes (List.replicate n 0)):=by
 simp only [Vf,XAN,Int.toNat_natCast]
 rw [TB (by simp;omega)]
theorem SAE {x:Int} (h:R32 x):Cb x=some (ofBytes (four x)):=by
 obtain ⟨h1,h2⟩:=h
 have e1:Int.fdiv x (2 ^ (Min.min (24:Int).toNat (IntKind.bits IntKind.u32)))=x / 16777216:=Int.fdiv_eq_ediv_of_nonneg _ (by decide)
 have e2:Int.fdiv x (2 ^ (Min.min (16:Int).toNat (IntKind.bits IntKind.u32)))=x / 65536:=Int.fdiv_eq_ediv_of_nonneg _ (by decide)
 have e3:Int.fdiv x (2 ^ (Min.min (8:Int).toNat (IntKind.bits IntKind.u32)))=x / 256:=Int.fdiv_eq_ediv_of_nonneg _ (by decide)
 simp only [Cb,AAO,e1,e2,e3,w8_mod,four]
 rw [show x / 16777216 % 256=x / 16777216 by omega]
theorem UAq {n:Nat} (h:n<1099511627776):I5 (n:Int)=some (ofBytes (Xe (n:Int))):=by
 have e1:Int.fdiv (n:Int) (2 ^ (Min.min (32:Int).toNat (IntKind.bits IntKind.i64)))=(n:Int) / 4294967296:=Int.fdiv_eq_ediv_of_nonneg _ (by decide)
 simp only [I5,CAO,e1,SAE (Qa _),Option.bind_some]
 rw [TB (by rw [ofBytes_size,ofBytes_size];simp [four])]
 congr 1
 apply Ob
 rw [XY,SN (Zm (Qa _)),SN (Zm (Qa _)),SN (fun x hx=>by
  simp only [Xe,List.mem_cons,List.not_mem_nil,or_false] at hx
  omega)]
 simp only [four,Xe,Gn,List.cons_append,List.nil_append,List.cons.injEq,and_true]
 omega
theorem VAq {n:Nat} (h:n≤100000000000):J5 (n:Int)=some (ofBytes (KY n)):=by
 have e1:(w64 (119 - ((n:Int).tmod 64))).tmod 64=(((119 - n % 64) % 64:Nat):Int):=by
  have a:(n:Int).tmod 64=(n:Int) % 64:=Int.tmod_eq_emod_of_nonneg (by omega)
  rw [a,w64_id (by omega) (by omega),Int.tmod_eq_emod_of_nonneg (by omega)]
  omega
 have e2:w64 (8*(n:Int))=((8*n:Nat):Int):=by rw [w64_id (by omega) (by omega)];omega
 have h0:(⟨#[128]⟩:ByteArray).size=1:=rfl
 simp only [J5,EAO,e1,e2,VAQ (n:=(119 - n % 64) % 64) (by omega),UAq (n:=8*n) (by omega),Option.bind_some]
 rw [TB (by rw [ofBytes_size];simp [h0];omega),TB (by rw [ByteArray.size_append,ofBytes_size,ofBytes_size];simp [h0,Xe];omega)]
 congr 1
 apply Ob
 have hb:IY (List.replicate ((119 - n % 64) % 64) (0:Int)):=fun x hx=>by
  have:=List.eq_of_mem_replicate hx;omega
 have hb2:IY (Xe ((8*n:Nat):Int)):=fun x hx=>by
  simp only [Xe,List.mem_cons,List.not_mem_nil,or_false] at hx
  omega
 rw [XY,XY,SN hb,SN hb2,SN (JAR n),KY]
 have e3:bs (⟨#[128]⟩:ByteArray)=[128]:=rfl
 rw [e3]
 simp
theorem WAq {x:Int} (h:R32 x) (n:Nat) (hn:0<n) (hn2:n<32) (k:Int) (hk:wu64 (((BitVec.toNat ((BitVec.ofInt (IntKind.bits IntKind.u64) (wu64 k)) &&& (BitVec.ofInt (IntKind.bits IntKind.u64) (31:Int)))):Nat):Int)=((32 - n:Nat):Int))
  (hk2:wu64 (32 - ((32 - n:Nat):Int))=(n:Int)):O5 x k=some (rt (2 ^ n) (2 ^ (32 - n)) x):=by
 have e1:Min.min ((32 - n:Nat):Int).toNat (IntKind.bits IntKind.u32)=32 - n:=by
  show Min.min ((32 - n:Nat):Int).toNat 32=_
  omega
 have e2:Min.min (n:Int).toNat (IntKind.bits IntKind.u32)=n:=by
  show Min.min (n:Int).toNat 32=_
  omega
 have e3:Int.fdiv x (2 ^ n)=x / 2 ^ n:=Int.fdiv_eq_ediv_of_nonneg _ (Int.le_of_lt (Int.pow_pos (by omega)))
 simp only [O5,GAO,hk,hk2,e1,e2,e3]
 rw [show decide ((0:Int)≤(n:Int))=true from decide_eq_true (by omega)]
 simp only [cond_true,FAa]
 rw [NAo h n hn hn2]
theorem Jg {x:Int} (h:R32 x) (n:Nat) (hn:0<n) (hn2:n<32) (hk:wu64 (((BitVec.toNat ((BitVec.ofInt (IntKind.bits IntKind.u64) (wu64 (w64 (0 - (n:Int))))) &&& (BitVec.ofInt (IntKind.bits IntKind.u64) (31:Int)))):Nat):Int)=((32 - n:Nat):Int))
  (hk2:wu64 (32 - ((32 - n:Nat):Int))=(n:Int)):DZ x (n:Int)=some (rt (2 ^ n) (2 ^ (32 - n)) x):=by
 simp only [DZ,HAO,WAq h n hn hn2 _ hk hk2,Option.bind_some]
theorem XAq {x:Int} (h:R32 x):DZ x 2=some (rt 4 1073741824 x):=Jg h 2 (by decide) (by decide) (by decide) (by decide)
theorem YAq {x:Int} (h:R32 x):DZ x 13=some (rt 8192 524288 x):=Jg h 13 (by decide) (by decide) (by decide) (by decide)
theorem ZAq {x:Int} (h:R32 x):DZ x 22=some (rt 4194304 1024 x):=Jg h 22 (by decide) (by decide) (by decide) (by decide)
theorem AAr {x:Int} (h:R32 x):DZ x 6=some (rt 64 67108864 x):=Jg h 6 (by decide) (by decide) (by decide) (by decide)
theorem BAr {x:Int} (h:R32 x):DZ x 11=some (rt 2048 2097152 x):=Jg h 11 (by decide) (by decide) (by decide) (by decide)
theorem CAr {x:Int} (h:R32 x):DZ x 25=some (rt 33554432 128 x):=Jg h 25 (by decide) (by decide) (by decide) (by decide)
theorem DAr {x:Int} (h:R32 x):DZ x 7=some (rt 128 33554432 x):=Jg h 7 (by decide) (by decide) (by decide) (by decide)
theorem EAr {x:Int} (h:R32 x):DZ x 18=some (rt 262144 16384 x):=Jg h 18 (by decide) (by decide) (by decide) (by decide)
theorem FAr {x:Int} (h:R32 x):DZ x 17=some (rt 131072 32768 x):=Jg h 17 (by decide) (by decide) (by decide) (by decide)
theorem GAr {x:Int} (h:R32 x):DZ x 19=some (rt 524288 8192 x):=Jg h 19 (by decide) (by decide) (by decide) (by decide)
theorem HAr {a b:Int} (ha:0≤a∧a<16777216) (hb:0≤b∧b≤255):O8 (w32 (a*256)) (w32 b)=a*256+b:=by
 obtain ⟨x,rfl⟩:∃ x:Nat,a=(x:Int):=⟨a.toNat,by omega⟩
 obtain ⟨y,rfl⟩:∃ y:Nat,b=(y:Int):=⟨b.toNat,by omega⟩
 rw [Fb (by omega) (by omega),Fb (by omega) (by omega)]
 have:=GAa (a:=x) (b:=y) (s:=8) (by omega) (by omega) (by omega)
 have e:((x*2 ^ 8:Nat):Int)=(x:Int)*256:=by omega
 rw [Int.natCast_add,e] at this
 exact this
def Qc (l:List Int) (i:Nat):Nat→Int
 | 0=>0
 | k+1=>Qc l i k*256+l.getD (4*i+k) 0
theorem IAr (l:List Int) (i:Nat):Qc l i 4=wordAt l i:=by
 simp only [Qc,wordAt,be4,Nat.add_zero]
 omega
theorem JAr {l:List Int} (h:IY l) (i:Nat):∀ k,k<4→0≤Qc l i k∧Qc l i k<16777216
 | 0,_=>by simp [Qc]
 | 1,_=>by have:=YZ h (4*i+0);simp only [Qc];omega
 | 2,_=>by have:=YZ h (4*i+0);have:=YZ h (4*i+1);simp only [Qc];omega
 | 3,_=>by have:=YZ h (4*i+0);have:=YZ h (4*i+1);have:=YZ h (4*i+2);simp only [Qc];omega
theorem KAr {b:ByteArray} (hb:b.size=64) (v:List Int) (i:Nat) (hi:i<16):∀ (j k m:Nat),k+j=4→
  Jc (m+j+1) (.c1 b (i:Int) (i:Int) (k:Int) v (JY (bs b) i++Qc (bs b) i k::List.replicate (63 - i) 0))=Jc m (.c0 b ((i+1:Nat):Int) v (JY (bs b) (i+1)++List.replicate (63 - i) 0)):=by
 have hby:=Yc b
 intro j
 induction j with
 | zero=>
  intro k m h
  obtain rfl:k=4:=by omega
  have e:w64 ((i:Int)+1)=((i+1:Nat):Int):=by rw [w64_id (by omega) (by omega)];rfl
  rw [Jc]
  simp only [Si,e]
  rw [NM (by simp),IAr,LAa]
  simp
 | succ j ih=>
  intro k m h
  have hk:k<4:=by omega
  have hlen:(JY (bs b) i++Qc (bs b) i k::List.replicate (63 - i) 0).length=64:=by
   simp only [List.length_append,List.length_cons,List.length_replicate,Yh];omega
  have e:w64 ((k:Int)+1)=((k+1:Nat):Int):=by rw [w64_id (by omega) (by omega)];rfl
  have e4:w64 (4*(i:Int))=((4*i:Nat):Int):=by rw [w64_id (by omega) (by omega)];omega
  have e5:w64 (((4*i:Nat):Int)+(k:Int))=((4*i+k:Nat):Int):=by rw [w64_id (by omega) (by omega)];omega
  have e8:(2:Int) ^ (Min.min (8:Int).toNat (IntKind.bits IntKind.u32))=256:=by decide
  have hg:(JY (bs b) i++Qc (bs b) i k::List.replicate (63 - i) 0).getD i 0=Qc (bs b) i k:=by
   rw [Xq (by rw [Yh];omega),Yh,Nat.sub_self];rfl
  rw [show m+(j+1)+1=(m+j+1)+1 by omega,Jc]
  simp only [Si,e,e4,e5,e8,Int.toNat_natCast,hlen,hg,FAa]
  rw [TB (by simp;omega),TB (by rfl),TB (by simp;omega),TB (by simp;omega),TB (by rfl),TB (by simp;omega)]
  rw [Me (by omega),HAr (JAr hby i k hk) (YZ hby _),Ue (Yh _ i)]
  exact ih (k+1) m (by omega)
theorem LAr {b:ByteArray} (hb:b.size=64) (v:List Int):∀ (j i m:Nat),i+j=16→Jc (m+6*j+1) (.c0 b (i:Int) v (JY (bs b) i++List.replicate (64 - i) 0))=Jc m (.c2 16 v (JY (bs b) 16++List.replicate 48 0)):=by
 intro j
 induction j with
 | zero=>
  intro i m h
  obtain rfl:i=16:=by omega
  rw [Jc]
  simp only [Si]
  rw [NM (by simp)]
 | succ j ih=>
  intro i m h
  rw [show m+6*(j+1)+1=(m+6*j+1)+4+1+1 by omega,Jc]
  simp only [Si]
  rw [TB (by simp;omega)]
  have h1:=KAr hb v i (by omega) 4 0 (m+6*j+1) (by omega)
  rw [show 64 - i=(63 - i)+1 by omega,List.replicate_succ]
  have h2:=ih (i+1) m (by omega)
  rw [show 64 - (i+1)=63 - i by omega] at h2
  exact h1.trans h2
theorem MAr {w v:List Int} (hw:∀ x ∈ w,R32 x) (hwl:w.length=16) (hv:v.length=64):∀ (j i m:Nat),i+j=48→Jc (m+j+1) (.c2 ((16+i:Nat):Int) v (sched w i++List.replicate (48 - i) 0))=some (sched w 48):=by
 intro j
 induction j with
 | zero=>
  intro i m h
  obtain rfl:i=48:=by omega
  have hl:=P8 hwl 48
  rw [Jc]
  simp only [Si,Nat.sub_self,List.replicate_zero,List.append_nil,hl,hv]
  rfl
 | succ j ih=>
  intro i m h
  have hl:=P8 hwl i
  have hr:=YAE hw i
  have hlen:(sched w i++List.replicate (48 - i) 0).length=64:=by
   simp only [List.length_append,List.length_replicate,hl];omega
  have e2:w64 (((16+i:Nat):Int) - 2)=((16+i - 2:Nat):Int):=by rw [w64_id (by omega) (by omega)];omega
  have e7:w64 (((16+i:Nat):Int) - 7)=((16+i - 7:Nat):Int):=by rw [w64_id (by omega) (by omega)];omega
  have e15:w64 (((16+i:Nat):Int) - 15)=((16+i - 15:Nat):Int):=by rw [w64_id (by omega) (by omega)];omega
  have e16:w64 (((16+i:Nat):Int) - 16)=((16+i - 16:Nat):Int):=by rw [w64_id (by omega) (by omega)];omega
  have e1:w64 (((16+i:Nat):Int)+1)=((16+(i+1):Nat):Int):=by rw [w64_id (by omega) (by omega)];omega
  have g2:(sched w i++List.replicate (48 - i) 0).getD (16+i - 2) 0=(sched w i).getD (16+i - 2) 0:=L8 (by omega) 0
  have g7:(sched w i++List.replicate (48 - i) 0).getD (16+i - 7) 0=(sched w i).getD (16+i - 7) 0:=L8 (by omega) 0
  have g15:(sched w i++List.replicate (48 - i) 0).getD (16+i - 15) 0=(sched w i).getD (16+i - 15) 0:=L8 (by omega) 0
  have g16:(sched w i++List.replicate (48 - i) 0).getD (16+i - 16) 0=(sched w i).getD (16+i - 16) 0:=L8 (by omega) 0
  have f10:∀ x:Int,Int.fdiv x (2 ^ (Min.min (10:Int).toNat (IntKind.bits IntKind.u32)))=x / 1024:=fun x=>Int.fdiv_eq_ediv_of_nonneg _ (by decide)
  have f3:∀ x:Int,Int.fdiv x (2 ^ (Min.min (3:Int).toNat (IntKind.bits IntKind.u32)))=x / 8:=fun x=>Int.fdiv_eq_ediv_of_nonneg _ (by decide)
  have r15:=Q8 hr (16+i - 15)
  have r2:=Q8 hr (16+i - 2)
  rw [show m+(j+1)+1=(m+j+1)+1 by omega,Jc]
  simp only [Si,e1,e2,e7,e15,e16,Int.toNat_natCast,hlen,g2,g7,g15,g16,DAr r15,EAr r15,FAr r2,GAr r2,Option.bind_some,f10,f3,Je]
  rw [TB (by simp;omega),TB (by rfl),TB (by simp;omega),TB (by rfl),TB (by simp;omega),TB (by rfl),TB (by simp;omega),TB (by rfl),TB (by simp;omega),TB (by rfl),TB (by simp;omega)]
  rw [show 48 - i=(48 - (i+1))+1 by omega,List.replicate_succ,Ue (by omega)]
  have h2:=ih (i+1) m (by omega)
  rw [sched,List.append_assoc] at h2
  exact h2
theorem NAr {b:ByteArray} (hb:b.size=64):Ul b=some (sched (JY (bs b) 16) 48):=by
 obtain ⟨m,hm⟩:∃ m,gas=(m+48+1)+6*16+1:=⟨gas - 146,by have:=gas_lt (n:=146) (by omega);omega⟩
 rw [Ul,IAO,hm]
 have h0:=LAr hb (List.replicate 64 0) 16 0 (m+48+1) (by omega)
 have h2:=MAr (w:=JY (bs b) 16) (v:=List.replicate 64 0) (HAR (Yc b) 16) (Yh _ 16) (List.length_replicate ..) 48 0 m (by omega)
 rw [show JY (bs b) 0++List.replicate (64 - 0) 0=List.replicate 64 (0:Int) from rfl,show ((0:Nat):Int)=0 from rfl] at h0
 rw [show ((16+0:Nat):Int)=16 from rfl,show sched (JY (bs b) 16) 0=JY (bs b) 16 from rfl,show 48 - 0=48 from rfl] at h2
 rw [h0,h2]
theorem OAr (s r v:List Int) (hs:s.length=8) (hv:v.length=8) (f:Nat→Int) (hf:∀ i,i<8→f i=w32 (r.getD i 0+s.getD i 0)) (hr:r.length=8):∀ (j i m:Nat),i+j=8→Ee (m+j+1) (.c1 (i:Int) s v ((List.range i).map f++r.drop i))=some ((List.range 8).map f):=by
 intro j
 induction j with
 | zero=>
  intro i m h
  obtain rfl:i=8:=by omega
  rw [Ee]
  simp only [Xp]
  rw [NM (by simp),List.drop_of_length_le (by omega),List.append_nil,TB (by simp),TB (by simp [hv]),TB (by simp)]
 | succ j ih=>
  intro i m h
  have e:w64 ((i:Int)+1)=((i+1:Nat):Int):=by rw [w64_id (by omega) (by omega)];rfl
  have hl:((List.range i).map f++r.drop i).length=8:=by simp [hr];omega
  have hm:((List.range i).map f).length=i:=by simp
  have hg:((List.range i).map f++r.drop i).getD i 0=r.getD i 0:=by
   rw [Xq (by omega),hm,Nat.sub_self]
   simp [List.getD]
  rw [show m+(j+1)+1=(m+j+1)+1 by omega,Ee]
  simp only [Xp,e,Int.toNat_natCast,hl,hs,hg]
  rw [TB (by simp;omega),TB (by rfl),TB (by simp;omega),TB (by rfl),TB (by simp;omega),TB (by rfl),TB (by simp;omega)]
  rw [drop_at (by omega:i<r.length),Ue hm,←hf i (by omega)]
  have h2:=ih (i+1) m (by omega)
  rw [List.range_succ,List.map_append,List.append_assoc] at h2
  exact h2
theorem PAr (s v W:List Int) (hW:∀ x ∈ W,R32 x) (hWl:W.length=64) (r:Reg) (hr:r.ok) (i m:Nat) (hi:i<64) :
  Ee (m+1) (.c0 r.a r.b r.c r.d r.e r.f r.g r.h (i:Int) s v W)=Ee m (.c0 (Ve r (keysL.getD i 0) (W.getD i 0)).a (Ve r (keysL.getD i 0) (W.getD i 0)).b (Ve r (keysL.getD i 0) (W.getD i 0)).c (Ve r (keysL.getD i 0) (W.getD i 0)).d (Ve r (keysL.getD i 0) (W.getD i 0)).e (Ve r (keysL.getD i 0) (W.getD i 0)).f (Ve r (keysL.getD i 0) (W.getD i 0)).g (Ve r (keysL.getD i 0) (W.getD i 0)).h ((i+1:Nat):Int) s v W):=by
 obtain ⟨h1,h2,h3,h4,h5,h6,h7,h8⟩:=hr
 have e:w64 ((i:Int)+1)=((i+1:Nat):Int):=by rw [w64_id (by omega) (by omega)];rfl
 rw [Ee]
 simp only [Xp,e,Int.toNat_natCast,hWl,AAr h5,BAr h5,CAr h5,XAq h1,YAq h1,ZAq h1,Option.bind_some,Je,WAQ,LAo h5]
 rw [TB (by simp;omega),TB (by simp;omega),TB (by rw [Nat.blt_eq];omega),TB (by rfl),TB (by simp;omega)]
 rfl
theorem QAr (s v W:List Int) (hW:∀ x ∈ W,R32 x) (hWl:W.length=64) (r:Reg) (hr:r.ok):∀ (j i m:Nat),i+j=64→
  Ee (m+j+1) (.c0 (NZ keysL W r i).a (NZ keysL W r i).b (NZ keysL W r i).c (NZ keysL W r i).d (NZ keysL W r i).e (NZ keysL W r i).f (NZ keysL W r i).g (NZ keysL W r i).h (i:Int) s v W)=Ee m (.c1 0 s v (NZ keysL W r 64).l):=by
 intro j
 induction j with
 | zero=>
  intro i m h
  obtain rfl:i=64:=by omega
  rw [Ee]
  simp only [Xp]
  rw [NM (by simp)]
  rfl
 | succ j ih=>
  intro i m h
  rw [show m+(j+1)+1=(m+j+1)+1 by omega,PAr s v W hW hWl _ (KAa keysL W hr i) i _ (by omega)]
  exact ih (i+1) m (by omega)
theorem RAr {s:Reg} (hs:s.ok) {b:ByteArray} (hb:b.size=64):Vl s.l b=some (comp s (bs b)).l:=by
 obtain ⟨m,hm⟩:∃ m,gas=(m+8+1)+64+1:=⟨gas - 74,by have:=gas_lt (n:=74) (by omega);omega⟩
 have hr:=YAE (HAR (Yc b) 16) 48
 have hl:=P8 (Yh (bs b) 16) 48
 have hsl:s.l.length=8:=rfl
 have z0:(0:Int).toNat=0:=rfl
 have z1:(1:Int).toNat=1:=rfl
 have z2:(2:Int).toNat=2:=rfl
 have z3:(3:Int).toNat=3:=rfl
 have z4:(4:Int).toNat=4:=rfl
 have z5:(5:Int).toNat=5:=rfl
 have z6:(6:Int).toNat=6:=rfl
 have z7:(7:Int).toNat=7:=rfl
 rw [Vl,JAO,NAr hb,Option.bind_some,hm]
 simp only [hl,hsl,List.length_replicate,z0,z1,z2,z3,z4,z5,z6,z7]
 rw [TB (by rfl),TB (by rfl),TB (by rfl),TB (by rfl),TB (by rfl),TB (by rfl),TB (by rfl),TB (by rfl),TB (by rfl),TB (by rfl),TB (by rfl),TB (by rfl),TB (by rfl),TB (by rfl),TB (by rfl),TB (by rfl),TB (by rfl)]
 have h0:=QAr s.l [0,0,0,0,0,0,0,0] _ hr hl s hs 64 0 (m+8+1) (by omega)
 rw [show ((0:Nat):Int)=0 from rfl] at h0
 have hf:∀ i,i<8→(fun i=>w32 ((NZ keysL (sched (JY (bs b) 16) 48) s 64).l.getD i 0+s.l.getD i 0)) i=w32 ((NZ keysL (sched (JY (bs b) 16) 48) s 64).l.getD i 0+s.l.getD i 0):=fun _ _=>rfl
 have h1:=OAr s.l (NZ keysL (sched (JY (bs b) 16) 48) s 64).l [0,0,0,0,0,0,0,0] rfl rfl _ hf rfl 8 0 m (by omega)
 rw [show ((0:Nat):Int)=0 from rfl,List.range_zero,List.map_nil,List.nil_append,List.drop_zero] at h1
 have e:(List.range 8).map (fun i=>w32 ((NZ keysL (sched (JY (bs b) 16) 48) s 64).l.getD i 0+s.l.getD i 0))=(comp s (bs b)).l:=by
  apply List.ext_getElem
  ·rw [Reg.U8,List.length_map,List.length_range]
  ·intro i h1 h2
   have hi:i<8:=by simpa using h1
   rw [List.getElem_map,List.getElem_range,←getD_at h2 0]
   rw [comp,TAa _ _ i hi,Int.add_comm]
 rw [e] at h1
 exact h0.trans h1
theorem SAr {s:Reg} (hs:s.ok) {t:ByteArray} (ht:t.size≤1000000000000):X5 s.l t=some ((comps (t.size / 64) s (bs t)).l,t.extract (64*(t.size / 64)) t.size):=by
 have key:∀ (j:Nat) (s:Reg) (t:ByteArray) (m:Nat),s.ok→t.size / 64=j→t.size≤1000000000000→V5 (m+j+1) (.c0 t s.l [0,0,0,0,0,0,0,0])=some ((comps j s (bs t)).l,t.extract (64*j) t.size):=by
  intro j
  induction j with
  | zero=>
   intro s t m hs hj ht
   rw [V5]
   simp only [RAD,Reg.U8]
   rw [NM (by simp;omega),TB (by rfl),TB (by rfl),TB (by rfl)]
   congr 2
   apply Ob
   rw [UZ,List.take_of_length_le (by rw [bs_len];omega)]
   rfl
  | succ j ih=>
   intro s t m hs hj ht
   have h64:(64:Int).toNat=64:=rfl
   have e1:bs (t.extract 0 64)=(bs t).take 64:=by rw [UZ];rfl
   have e2:bs (t.extract 64 t.size)=(bs t).drop 64:=by rw [UZ,List.take_of_length_le (by rw [bs_len];omega)]
   rw [show m+(j+1)+1=(m+j+1)+1 by omega,V5]
   simp only [RAD,h64,Reg.U8]
   rw [TB (by simp;omega),TB (by rfl),TB (by simp;omega)]
   rw [RAr hs (b:=t.extract 0 64) (by simp;omega),Option.bind_some]
   rw [Reg.U8]
   rw [TB (by rfl)]
   rw [TB (by simp;omega)]
   rw [ih (comp s (bs (t.extract 0 64))) (t.extract 64 t.size) m (MAa _ _) (by simp;omega) (by simp;omega),e1,e2]
   have e3:(t.extract 64 t.size).extract (64*j) (t.extract 64 t.size).size=t.extract (64*(j+1)) t.size:=by
    apply Ob
    rw [UZ,e2,UZ,List.take_of_length_le (by simp [bs_len]),List.take_of_length_le (by rw [bs_len];omega),List.drop_drop]
    congr 1
    omega
   rw [e3,comps]
 obtain ⟨m,hm⟩:∃ m,gas=m+t.size / 64+1:=⟨gas - (t.size / 64+1),by have:=gas_lt (n:=t.size / 64+1) (by omega);omega⟩
 rw [X5,LAO,hm]
 exact key _ s t m hs rfl ht
theorem TAr {r:Reg} (hr:r.ok):D6 r.l=some (ofBytes (EY r.l)):=by
 have hl:r.l.length=8:=rfl
 have hrl:=Reg.Rn hr
 have hby:∀ i,IY (EY (r.l.take i)):=fun i=>IAR (fun x hx=>hrl x (List.mem_of_mem_take hx))
 have key:=loopN (A:=Unit) (n:=8) (Lp:=Z5) (st:=fun i _=>.c0 (ofBytes (EY (r.l.take i))) r.l (i:Int)) (Inv:=fun _ _=>True) (out:=fun _ _=>some (ofBytes (EY r.l)))
  (fun m _ _=>by
   rw [Z5]
   simp only [SAD]
   rw [NM (by simp)]
   rfl)
  (fun m i _ hi _=>.inr ⟨(),by
   have e:w64 ((i:Int)+1)=((i+1:Nat):Int):=by rw [w64_id (by omega) (by omega)];rfl
   have hg:r.l.getD i 0=r.l[i]'(by omega):=getD_at (by omega) 0
   have hx:R32 (r.l.getD i 0):=Q8 hrl i
   rw [Z5]
   simp only [SAD,e,Int.toNat_natCast,SAE hx,Option.bind_some,hl]
   rw [TB (by simp;omega),TB (by rfl),TB (by simp;omega),TB (by rw [ofBytes_size,ofBytes_size,Yq];simp [four];omega)]
   congr 2
   apply Ob
   rw [XY,SN (hby i),SN (hby (i+1)),SN (Zm hx),take_at (by omega),OAa,hg]
   simp [EY],trivial,rfl⟩)
 rw [D6,NAO,hl,TB (by rfl)]
 exact key gas 0 () (Nat.zero_le _) (gas_lt (by omega)) trivial
theorem UAr:MAD=some Oc.l:=rfl
theorem J8 {s:ByteArray} (hs:s.size≤1000000000):Ed s=some (OZ s):=by
 have h1:=ZAE s.size
 have hsz:(s++ofBytes (KY s.size)).size=s.size+(KY s.size).length:=by rw [ByteArray.size_append,ofBytes_size]
 rw [Ed,OAO,UAr,Option.bind_some,VAq (n:=s.size) (by omega),Option.bind_some,TB (by rw [ofBytes_size];simp;omega),SAr Aj (by omega),Option.bind_some]
 simp only [Reg.U8]
 rw [TB (by rfl),TB (by rfl),TAr (Qn Aj _ _),Option.bind_some,hsz,XY,SN (JAR _),OZ,Ac,bs_len]
theorem SAb {s:ByteArray} {x:Int} (hs:s.size≤140737488351232):Zl s x=some (ofBytes (Fa x (bs s))):=by
 have hl:=bs_len s
 have key:=loopN (A:=Unit) (n:=(bs s).length) (Lp:=I7) (st:=fun i _=>.c0 x ((bs s).length:Int) (i:Int) (((bs s).take i).map (fun b=>xb b x)++(bs s).drop i)) (Inv:=fun _ _=>True) (out:=fun _ _=>some (ofBytes (Fa x (bs s))))
  (fun m _ _=>by
   rw [I7]
   simp only [CAE]
   rw [NM (by simp),List.take_length,List.drop_length,List.append_nil];rfl)
  (fun m i _ hi _=>.inr ⟨(),by
   have e:w64 ((i:Int)+1)=((i+1:Nat):Int):=by rw [w64_id (by omega) (by omega)];rfl
   have hlen:(((bs s).take i).map (fun b=>xb b x)++(bs s).drop i).length=(bs s).length:=by simp;omega
   rw [I7]
   simp only [CAE,e,Int.toNat_natCast,hlen,EAF,HAq hi]
   rw [TB (by simp;omega),TB (by simp;omega),TB (by simp;omega),GAq (fun b=>xb b x) hi],trivial,rfl⟩)
 rw [Zl,FAP,TB (by simp;omega),N8]
 exact key gas 0 () (Nat.zero_le _) (gas_lt (by omega)) trivial
theorem YAt {l:List Int} (h:IY l):IY (ZY l):=fun x hx=>by
 simp only [ZY,List.mem_append,List.mem_replicate] at hx
 rcases hx with hx | hx
 ·exact h x hx
 ·omega
theorem VAr {k:ByteArray} (h:k.size≤64):bs (k++ofBytes (List.replicate (64 - k.size) 0))=ZY (bs k):=by
 rw [XY,SN (fun x hx=>by have:=List.eq_of_mem_replicate hx;omega),ZY,bs_len]
theorem WAr {K:ByteArray} (h:K.size=64) {s:ByteArray}:OZ (ofBytes (Fa 92 (bs K))++OZ (ofBytes (Fa 54 (bs K))++s))=ofBytes (Ac (Fa 92 (bs K)++Ac (Fa 54 (bs K)++bs s))):=by
 rw [OZ,XY,AAF,XY,SN (GAF _ _),SN (GAF _ _)]
theorem TAb {k s:ByteArray} (hk:k.size≤900000000) (hs:s.size≤900000000):Rh k s=some (Gg k s):=by
 have fin:∀ {K:ByteArray} {m:Int},K.size≤64→m=((64 - K.size:Nat):Int)→∀ (f:Option ByteArray),f=some (ofBytes (Ac (Fa 92 (ZY (bs K))++Ac (Fa 54 (ZY (bs K))++bs s))))→
   ((Vf m).bind fun r1=>bif decide (K.size+r1.size≤9223372036854775807) then (Zl (K++r1) 92).bind fun r2=>(Zl (K++r1) 54).bind fun r3=>bif decide (r3.size+s.size≤9223372036854775807) then (Ed (r3++s)).bind fun r4=>bif decide (r2.size+r4.size≤9223372036854775807) then (Ed (r2++r4)).bind fun r5=>some r5 else none else none else none)=f:=by
  intro K m hK hm f hf
  have h64:(K++ofBytes (List.replicate (64 - K.size) 0)).size=64:=by rw [ByteArray.size_append,ofBytes_size,List.length_replicate];omega
  subst hm
  have x1:=FAF 92 (ZY (bs K))
  have x2:=FAF 54 (ZY (bs K))
  have x3:(ZY (bs K)).length=64:=by rw [ZY,List.length_append,List.length_replicate,bs_len];omega
  have hb:=VAr hK
  have hf2:=WAr h64 (s:=s)
  rw [hb] at hf2
  rw [VAQ (by omega),Option.bind_some,TB (by rw [ofBytes_size,List.length_replicate,decide_eq_true_eq];omega),SAb (by omega),Option.bind_some,SAb (by omega),Option.bind_some,hb]
  rw [TB (by rw [ofBytes_size,decide_eq_true_eq];omega),J8 (by rw [ByteArray.size_append,ofBytes_size];omega),Option.bind_some,TB (by rw [ofBytes_size,Zh,decide_eq_true_eq];omega)]
  rw [J8 (by rw [ByteArray.size_append,ofBytes_size,Zh];omega),Option.bind_some,hf,hf2]
 rw [Rh,HAP]
 by_cases h:64<k.size
 ·rw [TB (by simp;omega),J8 (by omega),Option.bind_some]
  apply fin (by rw [Zh];omega) (by rw [Zh];decide)
  rw [Gg,Bf,Af,if_pos (by rw [bs_len];omega),AAF]
 ·rw [NM (by simp;omega)]
  apply fin (by omega) (by rw [w64_id (by omega) (by omega)];omega)
  rw [Gg,Bf,Af,if_neg (by rw [bs_len];omega)]
theorem XAr {k:ByteArray} {num n:Int} (hk:k.size≤900000000):P7 k num n=some (Ar k num n):=by
 rw [P7,KAP,TAq,Option.bind_some,Ar,maskOk]
 cases h:FN num 0 1000000000
 ·rfl
 ·rw [DY] at h
  rw [cond_true,NM (by rfl),Yb,Option.bind_some]
  cases h2:FN n 0 8000
  ·rfl
  ·rw [DY] at h2
   rw [NM (by rfl),Bool.and_self,cond_true]
   have hv:=Aa (n:=num) (by omega)
   have hvb:=Wn h.1
   have key:=loopN (A:=Unit) (n:=(n.toNat+31) / 32) (Lp:=O7) (st:=fun i _=>.c0 k n (ofBytes (IK num)) (ofBytes (Hg (bs k) (IK num) i)) (i:Int)) (Inv:=fun _ _=>True) (out:=fun _ _=>some (ofBytes (JZ (bs k) (IK num) n.toNat),true))
    (fun m _ _=>by
     rw [O7]
     simp only [DAE]
     rw [NM (by rw [ofBytes_size,Ei,decide_eq_false_iff_not];omega),TB (by rw [ofBytes_size,Ei];simp;omega)]
     refine congrArg (fun x=>some (x,true)) (Ob ?_)
     rw [UZ,SN (HAF _ _ _),SN (PAR _ _ _),JZ,List.drop_zero])
    (fun m i _ hi _=>.inr ⟨(),by
     have e:w64 ((i:Int)+1)=((i+1:Nat):Int):=by rw [w64_id (by omega) (by omega)];rfl
     have h9:(⟨#[109]⟩:ByteArray).size=1:=rfl
     rw [O7]
     simp only [DAE,e]
     rw [TB (by rw [ofBytes_size,Ei,decide_eq_true_eq];omega),TB (by rw [ofBytes_size,h9,decide_eq_true_eq];omega),Xn (by omega) (by omega),Option.bind_some,TB (by rw [ByteArray.size_append,ofBytes_size,ofBytes_size,h9,decide_eq_true_eq,List.length_singleton];omega)]
     rw [TAb hk (by rw [ByteArray.size_append,ByteArray.size_append,ofBytes_size,ofBytes_size,h9,List.length_singleton];omega),Option.bind_some,GAb k h.1 h.2 i (by omega),TB (by rw [ofBytes_size,ofBytes_size,Ei,Zq,decide_eq_true_eq];omega)]
     rw [show ofBytes (Hg (bs k) (IK num) i)++ofBytes (Bf (bs k) (109::(IK num++[(i:Int)])))=ofBytes (Hg (bs k) (IK num) (i+1)) from Ob (by
      rw [XY,SN (HAF _ _ _),SN (HAF _ _ _),SN (Y8 _ _),Hg])],trivial,rfl⟩)
   exact key gas 0 () (Nat.zero_le _) (gas_lt (by omega)) trivial
theorem YAr {k s:ByteArray} {num:Int} (hk:k.size≤900000000) (hn:0≤num∧num≤1000000000) (hs:s.size≤800000000):Q7 k num s=some (ofBytes (Ua (bs k) num (bs s))):=by
 have hv:=Aa (n:=num) (by omega)
 have h9:(⟨#[116]⟩:ByteArray).size=1:=rfl
 have e:bs (⟨#[116]⟩:ByteArray)=[116]:=rfl
 have h16:(16:Int).toNat=16:=rfl
 rw [Q7,NAP,Dn (by omega),Option.bind_some,TB (by rw [ofBytes_size,h9,decide_eq_true_eq];omega),TB (by rw [ByteArray.size_append,ofBytes_size,h9,decide_eq_true_eq];omega)]
 rw [TAb hk (by rw [ByteArray.size_append,ByteArray.size_append,ofBytes_size,h9];omega),Option.bind_some,TB (by rw [FAb];decide)]
 refine congrArg some (Ob ?_)
 rw [UZ,EAb,h16,SN (Z8 _ _ _),XY,XY,e,SN (Wn hn.1),Ua,List.drop_zero,List.append_assoc]
 rfl
theorem ZAr {a b:ByteArray} (ha:a.size≤140737488351232) (h:a.size≤b.size):X7 a b=some (ofBytes (LY (bs a) (bs b))):=by
 have hl:=bs_len a
 have hl2:=bs_len b
 have key:=loopN (A:=Unit) (n:=(bs a).length) (Lp:=V7) (st:=fun i _=>.c0 b ((bs a).length:Int) (i:Int) (List.zipWith xb ((bs a).take i) ((bs b).take i)++(bs a).drop i)) (Inv:=fun _ _=>True) (out:=fun _ _=>some (ofBytes (LY (bs a) (bs b))))
  (fun m _ _=>by
   rw [V7]
   simp only [EAE]
   rw [NM (by simp),List.take_length,List.drop_length,List.append_nil,LY,QAR])
  (fun m i _ hi _=>.inr ⟨(),by
   have e:w64 ((i:Int)+1)=((i+1:Nat):Int):=by rw [w64_id (by omega) (by omega)];rfl
   have hlen:(List.zipWith xb ((bs a).take i) ((bs b).take i)++(bs a).drop i).length=(bs a).length:=by simp;omega
   rw [V7]
   simp only [EAE,e,Int.toNat_natCast,hlen,EAF,JAb hi (show i<(bs b).length by omega)]
   rw [TB (by simp;omega),TB (by simp;omega),TB (by simp;omega),TB (by simp;omega),Me (by omega),IAb hi (by omega)],trivial,rfl⟩)
 rw [X7,PAP,TB (by simp;omega),N8]
 exact key gas 0 () (Nat.zero_le _) (gas_lt (by omega)) trivial
theorem UAb (t:ByteArray) {n:Nat} (h:t.size=n+16):bs (t.extract 0 n)=(bs t).take (t.size - 16)∧bs (t.extract n t.size)=(bs t).drop (t.size - 16):=by
 rw [UZ,UZ,List.take_of_length_le (by rw [bs_len];omega:(bs t).length≤t.size),h,Nat.add_sub_cancel]
 exact ⟨rfl,rfl⟩
theorem NAl {k t:ByteArray} {num:Int} (hk:k.size≤900000000) (ht:t.size≤800000000):Am k num t=some (AY k num t):=by
 rw [Am,QAP,AY]
 have hw:w64 ((t.size:Int) - 16)=(t.size:Int) - 16:=w64_id (by omega) (by omega)
 rw [hw]
 by_cases h:t.size<16
 ·rw [TB (by simp;omega),TB (by simp;omega)]
 ·obtain ⟨n,hn⟩:∃ n,t.size=n+16:=⟨t.size - 16,by omega⟩
  obtain ⟨e1,e2⟩:=UAb t hn
  have hz:(t.size:Int) - 16=(n:Int):=by omega
  have hb:=bs_len t
  rw [NM (by simp;omega),XAr hk,Option.bind_some,Ar,hz,show decide ((t.size:Int)<16)=false by simp;omega,Bool.false_or]
  cases hm:maskOk num n
  ·rfl
  ·have h':=KAb.1 hm
   have hml:=Ig (bs k) (IK num) n
   have hes:(t.extract 0 n).size=n:=by simp;omega
   rw [Bool.not_true,cond_false,cond_true,NM (by rfl),Int.toNat_natCast,TB (by simp;omega),YAr hk h'.1 (by omega),Option.bind_some,TB (by simp;omega),Ym,SN (Z8 _ _ _),e1,e2]
   cases hc:(Ua (bs k) num ((bs t).take (t.size - 16)) == (bs t).drop (t.size - 16))
   ·rfl
   ·rw [Bool.not_true,cond_false,TB (by simp;omega),ZAr (by omega) (by rw [ofBytes_size,hml];omega),Option.bind_some,SN (PAR _ _ _),e1,cond_true,show t.size - 16=n by omega]
theorem AAs {k t:ByteArray} {num:Int} (hk:k.size≤900000000) (ht:t.size≤800000000):Gl k num t=some (AY k num t):=by
 rw [Gl,IAM,AY]
 have hw:w64 ((t.size:Int) - 16)=(t.size:Int) - 16:=w64_id (by omega) (by omega)
 rw [hw]
 by_cases h:t.size<16
 ·rw [TB (by simp;omega),TB (by simp;omega)]
 ·obtain ⟨n,hn⟩:∃ n,t.size=n+16:=⟨t.size - 16,by omega⟩
  obtain ⟨e1,e2⟩:=UAb t hn
  have hz:(t.size:Int) - 16=(n:Int):=by omega
  have hb:=bs_len t
  have hes:(t.extract 0 n).size=n:=by simp;omega
  rw [NM (by simp;omega),hz,Int.toNat_natCast,hes,TB (by simp;omega),QAq hk,Option.bind_some,Ar,show decide ((t.size:Int)<16)=false by simp;omega,Bool.false_or]
  cases hm:maskOk num n
  ·rfl
  ·have h':=KAb.1 hm
   have hml:=Ig (bs k) (IK num) n
   rw [Bool.not_true,cond_false,cond_true,NM (by rfl),Int.toNat_natCast,RAq hk h'.1 (by omega),Option.bind_some,TB (by simp;omega)]
   simp only [EAC,FAM,Option.bind_some,Ym,SN (Z8 _ _ _),e1,e2]
   cases hc:(Ua (bs k) num ((bs t).take (t.size - 16)) == (bs t).drop (t.size - 16))
   ·rfl
   ·rw [Bool.not_true,cond_false,SAq (by omega) (by rw [ofBytes_size,hml];omega),Option.bind_some,SN (PAR _ _ _),e1,cond_true,show t.size - 16=n by omega]
def Ej (text:ByteArray) (c:SL19Cur):Prop:=∃ p:Nat,∃ b:Bool,c=⟨text,(p:Int),b⟩∧p≤text.size
theorem OAF {text:ByteArray} {c:SL19Cur} (hs:text.size≤140737488351232) (h:Ej text c):∃ v c',Zd c=some (v,c')∧Ej text c'∧0≤v∧v≤1000000000:=by
 obtain ⟨p,b,rfl,hp⟩:=h
 obtain ⟨r,hr,hR⟩:=YAp hs hp
 simp only [Zd,KAC,hr,Option.bind_some]
 cases b
 ·rcases hR with rfl | ⟨v,q,rfl,h0,h1,_,h3⟩
  ·exact ⟨_,_,rfl,⟨p,true,rfl,hp⟩,by omega,by omega⟩
  ·exact ⟨_,_,rfl,⟨q,false,rfl,h3⟩,h0,h1⟩
 ·exact ⟨_,_,rfl,⟨p,true,rfl,hp⟩,by omega,by omega⟩
theorem D9 {text:ByteArray} {a:Nat} {V:Int} (hs:text.size≤140737488351232) (hV0:0≤V) (hV:V≤1000000000) (hA:At text a (IK V)):Zd ⟨text,(a:Int),false⟩=some (V,⟨text,((a+(IK V).length:Nat):Int),false⟩):=by
 simp only [Zd,KAC,OAR hs hV0 hV hA,Option.bind_some]
 rfl
theorem XAR {text:ByteArray} {c:SL19Cur} {n:Int} (hs:text.size≤140737488351232) (h:Ej text c) (h0:0≤n) (h1:n≤1000000000):∃ s c',Dc c n=some (s,c')∧Ej text c'∧s.size≤1000000000∧(c'.fBad=false→(s.size:Int)=n∧c.fAt+n≤(text.size:Int)):=by
 obtain ⟨p,b,rfl,hp⟩:=h
 simp only [Dc,HAC]
 have e1:w64 ((text.size:Int) - (p:Int))=(text.size:Int) - p:=w64_id (by omega) (by omega)
 have e2:w64 ((p:Int)+n)=p+n:=w64_id (by omega) (by omega)
 have e3:w64 ((p:Int)+n - n)=p:=by rw [w64_id (by omega) (by omega)];omega
 rw [e1,e2,e3]
 cases b
 ·by_cases hn:n > (text.size:Int) - p
  ·rw [show decide (n > (text.size:Int) - p)=true from decide_eq_true hn]
   exact ⟨_,_,rfl,⟨p,true,rfl,hp⟩,by show 0≤_;omega,fun h=>by cases h⟩
  ·rw [show decide (n > (text.size:Int) - p)=false from decide_eq_false hn,show decide ((0:Int)≤(p:Int))=true from decide_eq_true (by omega),show decide ((p:Int)≤p+n)=true from decide_eq_true (by omega),show decide ((p:Int)+n≤(text.size:Int))=true from decide_eq_true (by omega)]
   have hz:(text.extract (p:Int).toNat ((p:Int)+n).toNat).size=n.toNat:=by rw [ByteArray.size_extract];omega
   refine ⟨_,_,rfl,⟨((p:Int)+n).toNat,false,?_,by omega⟩,by rw [hz];omega,fun _=>⟨by rw [hz];omega,by show (p:Int)+n≤_;omega⟩⟩
   rw [Int.toNat_of_nonneg (by omega)]
 ·exact ⟨_,_,rfl,⟨p,true,rfl,hp⟩,by show 0≤_;omega,fun h=>by cases h⟩
theorem YAR {text:ByteArray} {p:Nat} {s:ByteArray} (hs:text.size≤140737488351232) (hA:At text p (bs s)) (hp:p≤text.size):Dc ⟨text,(p:Int),false⟩ (s.size:Int)=some (s,⟨text,((p+s.size:Nat):Int),false⟩):=by
 have hz:p+s.size≤text.size:=by
  rcases hA.size with h | h
  ·have:=congrArg List.length h;rw [bs_len,List.length_nil] at this;omega
  ·rw [bs_len] at h;exact h
 have e1:w64 ((text.size:Int) - (p:Int))=(text.size:Int) - p:=w64_id (by omega) (by omega)
 have e2:w64 ((p:Int)+(s.size:Int))=((p+s.size:Nat):Int):=by rw [w64_id (by omega) (by omega)];omega
 have e3:w64 (((p+s.size:Nat):Int) - (s.size:Int))=p:=by rw [w64_id (by omega) (by omega)];omega
 simp only [Dc,HAC,e1,e2,e3,Int.toNat_natCast]
 have hx:=hA.extract (fun n hn=>GAR hn)
 rw [bs_len,WAE] at hx
 rw [show decide ((s.size:Int) > (text.size:Int) - p)=false from decide_eq_false (by omega),show decide ((0:Int)≤(p:Int))=true from decide_eq_true (by omega),show decide ((p:Int)≤((p+s.size:Nat):Int))=true from decide_eq_true (by omega),show decide (((p+s.size:Nat):Int)≤(text.size:Int))=true from decide_eq_true (by omega),hx]
 rfl
theorem ZAR {text:ByteArray} {c:SL19Cur} (hs:text.size≤140737488351232) (h:Ej text c):∃ v c',Ic c=some (v,c')∧Ej text c'∧0≤v∧v≤255∧(c'.fBad=true→v=0)∧(c'.fBad=false→c.fAt+1≤(text.size:Int)):=by
 obtain ⟨s,c',e,hc,_,hn⟩:=XAR (n:=1) hs h (by omega) (by omega)
 simp only [Ic,JAC,e,Option.bind_some]
 cases hb:c'.fBad
 ·obtain ⟨h1,h2⟩:=hn hb
  rw [show decide ((0:Int)≤(0:Int))=true from rfl,show decide ((0:Int)<(s.size:Int))=true from decide_eq_true (by omega)]
  have:=Xh s 0
  rw [w64_id (n:=bt s 0) (by omega) (by omega)]
  exact ⟨_,_,rfl,hc,this.1,this.2,fun h=>(by rw [hb] at h;cases h),fun _=>h2⟩
 ·exact ⟨_,_,rfl,hc,by omega,by omega,fun _=>rfl,fun h=>(by rw [hb] at h;cases h)⟩
theorem Hr {text:ByteArray} {p:Nat} {b:Int} (hs:text.size≤140737488351232) (hA:At text p [b]):Ic ⟨text,(p:Int),false⟩=some (b,⟨text,((p+1:Nat):Int),false⟩):=by
 obtain ⟨h1,h2⟩:=hA.head
 have hb:=Xh text p
 rw [h2] at hb
 have hB:bs (ofBytes [b])=[b]:=SN (by simpa using hb)
 have e:=YAR (s:=ofBytes [b]) hs (by rw [hB];exact hA) (Nat.le_of_lt h1)
 have h0:bt (ofBytes [b]) 0=b:=by
  have:=XAE (s:=ofBytes [b]) (i:=0) (by rw [ofBytes_size];simp)
  simp only [hB] at this
  exact this
 simp only [Ic,JAC]
 rw [show Dc ⟨text,(p:Int),false⟩ 1=_ from e]
 simp only [Option.bind_some,h0,w64_id (n:=b) (by omega) (by omega)]
 rfl
theorem BAs {text:ByteArray} {c:SL19Cur} (hs:text.size≤140737488351232) (h:Ej text c):∃ s c',Hl c=some (s,c')∧Ej text c'∧s.size≤1000000000:=by
 obtain ⟨v,c1,e1,h1,h2,h3⟩:=OAF hs h
 obtain ⟨s,c2,e2,h4,h5,_⟩:=XAR hs h1 h2 h3
 simp only [Hl,LAC,e1,e2,Option.bind_some]
 exact ⟨_,_,rfl,h4,h5⟩
theorem CAs {text:ByteArray} {p:Nat} {s:ByteArray} (hs:text.size≤140737488351232) (hz:s.size≤1000000000) (hA:At text p (IK (s.size:Int)++bs s)):Hl ⟨text,(p:Int),false⟩=some (s,⟨text,((p+(IK (s.size:Int)).length+s.size:Nat):Int),false⟩):=by
 have hp:p+(IK (s.size:Int)).length≤text.size:=by
  rcases hA.left.size with h | h
  ·have:=Oe (s.size:Int);rw [h] at this;simp at this
  ·exact h
 simp only [Hl,LAC,D9 hs (by omega) (by omega) hA.left,YAR hs hA.right hp,Option.bind_some]
def OY (x:SThing):Bool:=FN x.fId 1 1000 && FN x.fKind 1 3 && FN x.fNext 0 16 && ((x.fKind == 2) || ((x.fNext == 0) && !x.fSigns)) && ((x.fKind == 1) || !x.fWraps) && (bif x.fKind == 3 then decide ((x.fValue.size:Int)≤100) else (x.fValue.size:Int) == 32)
theorem VAb (x:SThing):Ih x=some (OY x):=by
 simp only [Ih,OAM,Eb,Option.bind_some,OY,bne]
 cases FN x.fId 1 1000 <;> cases FN x.fKind 1 3 <;> cases FN x.fNext 0 16 <;> cases (x.fKind == 2) <;> cases (x.fKind == 1) <;> cases (x.fKind == 3) <;> cases (x.fNext == 0) <;> cases x.fSigns <;> cases x.fWraps <;> rfl
theorem Ag {x:SThing} (h:OY x=true):1≤x.fKind∧x.fKind≤3∧1≤x.fId∧x.fId≤1000∧0≤x.fNext∧x.fNext≤16∧x.fValue.size≤100:=by
 unfold OY at h
 simp only [Bool.and_eq_true] at h
 obtain ⟨⟨⟨⟨⟨h1,h2⟩,h3⟩,_⟩,_⟩,h4⟩:=h
 rw [DY] at h1 h2 h3
 refine ⟨h2.1,h2.2,h1.1,h1.2,h3.1,h3.2,?_⟩
 cases hk:x.fKind == 3
 ·rw [hk] at h4;simp at h4;omega
 ·rw [hk] at h4;simp at h4;omega
theorem DAs (b:Bool) (n:Int):NAC b n=some (bif b then n else 0):=by cases b <;> rfl
def Df (s:ByteArray):ByteArray:=ofBytes (IK (s.size:Int))++s
theorem EAs {s:ByteArray} (h:s.size≤140737488351232):(Df s).size≤s.size+10:=by
 unfold Df;rw [ba_append_size,ofBytes_size];have:=Aa (n:=(s.size:Int)) (by omega);omega
theorem FAs {s:ByteArray} (h:s.size≤140737488351232):Xz s=some (Df s):=by
 simp only [Xz,SAM,Ci (n:=(s.size:Int)) (by omega),Option.bind_some]
 have:=Aa (n:=(s.size:Int)) (by omega)
 rw [show decide ((ofBytes (IK (s.size:Int))).size+s.size≤9223372036854775807)=true from decide_eq_true (by rw [ofBytes_size];omega)]
 rfl
def KZ (x:SThing):Int:=(bif x.fHidden then 1 else 0)+(bif x.fFixed then 2 else 0)+(bif x.fSigns then 4 else 0)+(bif x.fWraps then 8 else 0)
theorem F9 (x:SThing):0≤KZ x∧KZ x≤15:=by
 unfold KZ;cases x.fHidden <;> cases x.fFixed <;> cases x.fSigns <;> cases x.fWraps <;> decide
theorem GAs (m:Nat) (a b c d:Bool):YAP (m+5) (.c0 0 4 0 [a,b,c,d])=some ((bif a then 1 else 0)+(bif b then 2 else 0)+(bif c then 4 else 0)+(bif d then 8 else 0)):=by
 cases a <;> cases b <;> cases c <;> cases d <;> kernel_rfl
theorem HAs (x:SThing):A8 x=some (KZ x):=by
 obtain ⟨m,this⟩:∃ m,gas=m+5:=⟨gas - 5,rfl⟩
 unfold A8 XAP
 rw [this]
 exact GAs _ _ _ _ _
def Og (x:SThing):ByteArray:=ofBytes (IK x.fId)++ofBytes [x.fKind]++ofBytes [KZ x]++Df x.fValue++ofBytes (IK x.fNext)
def NY (x:SThing):ByteArray×Bool:=bif OY x then (Og x,true) else (⟨#[]⟩,false)
theorem AAS {x:SThing} (h:OY x=true):(ofBytes (IK x.fId)).size≤10∧(Df x.fValue).size≤110∧(ofBytes (IK x.fNext)).size≤10:=by
 obtain ⟨_,_,_,h1,_,h2,h3⟩:=Ag h
 rw [ofBytes_size,ofBytes_size]
 have:=Aa (n:=x.fId) (by omega)
 have:=Aa (n:=x.fNext) (by omega)
 have:=EAs (s:=x.fValue) (by omega)
 omega
theorem WAb {x:SThing} (h:OY x=true):(Og x).size≤200:=by
 obtain ⟨h1,h2,h3⟩:=AAS h
 unfold Og
 simp only [ba_append_size]
 have e1:∀ n:Int,(ofBytes [n]).size=1:=fun n=>ofBytes_size _
 rw [e1,e1];omega
theorem BAS (x:SThing):Il x=some (NY x):=by
 simp only [Il,TAM,VAb,Option.bind_some,NY]
 cases h:OY x
 ·rfl
 ·obtain ⟨k1,k2,k3,k4,k5,k6,k7⟩:=Ag h
  obtain ⟨z1,z2,z3⟩:=AAS h
  have hf:=F9 x
  have e1:∀ n:Int,(ofBytes [n]).size=1:=fun n=>ofBytes_size _
  have ef:w64 (w64 (w64 ((bif x.fHidden then (1:Int) else 0)+(bif x.fFixed then 2 else 0))+(bif x.fSigns then 4 else 0))+(bif x.fWraps then 8 else 0))=KZ x:=by
   unfold KZ;cases x.fHidden <;> cases x.fFixed <;> cases x.fSigns <;> cases x.fWraps <;> rfl
  simp only [DAs,Option.bind_some,ef,Ci (n:=x.fId) (by omega),WAR (n:=x.fKind) (by omega) (by omega),WAR hf.1 (by omega),FAs (s:=x.fValue) (by omega),Ci (n:=x.fNext) (by omega),ba_append_size,e1]
  simp only [Bool.not_true,cond_false,cond_true]
  rw [show decide ((ofBytes (IK x.fId)).size+1≤9223372036854775807)=true from decide_eq_true (by omega),show decide ((ofBytes (IK x.fId)).size+1+1≤9223372036854775807)=true from decide_eq_true (by omega),
   show decide ((ofBytes (IK x.fId)).size+1+1+(Df x.fValue).size≤9223372036854775807)=true from decide_eq_true (by omega),show decide ((ofBytes (IK x.fId)).size+1+1+(Df x.fValue).size+(ofBytes (IK x.fNext)).size≤9223372036854775807)=true from decide_eq_true (by omega)]
  rfl
def ZAt (f:Int) (h a b c:Bool):Prop:=f=(bif h then 1 else 0)+(bif a then 2 else 0)+(bif b then 4 else 0)+(bif c then 8 else 0)
theorem IAs (x:SThing):(((KZ x).tmod 2 == 1)=x.fHidden)∧(((w64 ((KZ x).tdiv 2)).tmod 2 == 1)=x.fFixed)∧(((w64 ((KZ x).tdiv 4)).tmod 2 == 1)=x.fSigns)∧(((w64 ((KZ x).tdiv 8)).tmod 2 == 1)=x.fWraps):=by
 unfold KZ
 cases x.fHidden <;> cases x.fFixed <;> cases x.fSigns <;> cases x.fWraps <;> decide
theorem XAb {x:SThing} (h:OY x=true):bs (Og x)=IK x.fId++([x.fKind]++([KZ x]++((IK (x.fValue.size:Int)++bs x.fValue)++IK x.fNext))):=by
 obtain ⟨k1,k2,k3,k4,k5,k6,k7⟩:=Ag h
 have hf:=F9 x
 unfold Og Df
 simp only [XY,SN (Ze x.fId (by omega)),SN (Ze x.fNext (by omega)),SN (Ze (x.fValue.size:Int) (by omega)),SN (l:=[x.fKind]) (by simp;omega),SN (l:=[KZ x]) (by simp;omega),List.append_assoc]
def CAS (text:ByteArray) (r:SThing×Bool):Prop:=(r.2=true∧NY r.1=(text,true))∨r=(⟨(0:Int),(0:Int),false,false,false,false,(⟨#[]⟩:ByteArray),(0:Int)⟩,false)
theorem YAb {text:ByteArray} (hs:text.size≤140737488351232):∃ r,Qi text=some r∧CAS text r:=by
 obtain ⟨v0,c0,e0,h0,_⟩:=OAF hs (c:=⟨text,(0:Int),false⟩) ⟨0,false,rfl,by omega⟩
 obtain ⟨v1,c1,e1,h1,_⟩:=ZAR hs h0
 obtain ⟨v2,c2,e2,h2,_⟩:=ZAR hs h1
 obtain ⟨v3,c3,e3,h3,_⟩:=BAs hs h2
 obtain ⟨v4,c4,e4,h4,_⟩:=OAF hs h3
 simp only [Qi,PAC,e0,e1,e2,e3,e4,BAS,Option.bind_some]
 cases c4.fBad
 ·cases h5:(NY (⟨v0,v1,v2.tmod 2 == 1,(w64 (v2.tdiv 2)).tmod 2 == 1,(w64 (v2.tdiv 4)).tmod 2 == 1,(w64 (v2.tdiv 8)).tmod 2 == 1,v3,v4⟩:SThing)).2
  ·exact ⟨_,rfl,.inr rfl⟩
  ·rw [toList_inj]
   by_cases h6:(NY (⟨v0,v1,v2.tmod 2 == 1,(w64 (v2.tdiv 2)).tmod 2 == 1,(w64 (v2.tdiv 4)).tmod 2 == 1,(w64 (v2.tdiv 8)).tmod 2 == 1,v3,v4⟩:SThing)).1=text
   ·rw [decide_eq_true h6];exact ⟨_,rfl,.inl ⟨rfl,Prod.ext h6 h5⟩⟩
   ·rw [decide_eq_false h6];exact ⟨_,rfl,.inr rfl⟩
 ·exact ⟨_,rfl,.inr rfl⟩
theorem ZAb {text:ByteArray} {x:SThing} (h:NY x=(text,true)):OY x=true∧text=Og x:=by
 unfold NY at h
 cases ho:OY x <;> rw [ho] at h
 ·simp at h
 ·exact ⟨rfl,(congrArg Prod.fst h).symm⟩
theorem AAc {text:ByteArray} {x:SThing} (hs:text.size≤140737488351232) (h:NY x=(text,true)):Qi text=some (x,true):=by
 obtain ⟨ho,rfl⟩:=ZAb h
 obtain ⟨k1,k2,k3,k4,k5,k6,k7⟩:=Ag ho
 have hf:=F9 x
 have hA:At (Og x) 0 _:=⟨[],by rw [List.drop_zero,XAb ho,List.append_nil]⟩
 have a1:=hA.right
 have a2:=a1.right
 have a3:=a2.right
 have a4:=a3.right
 have e0:=D9 hs (by omega) (by omega) hA.left
 have e1:=Hr hs a1.left
 have e2:=Hr hs a2.left
 have e3:=CAs hs (by omega) a3.left
 have e4:=D9 hs (by omega) (by omega) a4
 simp only [List.length_append,bs_len,List.length_singleton,Nat.zero_add,←Nat.add_assoc] at e0 e1 e2 e3 e4
 obtain ⟨b1,b2,b3,b4⟩:=IAs x
 simp only [Qi,PAC]
 rw [show ((0:Int))=((0:Nat):Int) from rfl,e0]
 simp only [e1,e2,e3,e4,Option.bind_some,b1,b2,b3,b4,BAS,h,toList_self]
 rfl
def SY (x:SThing):Bool:=(x.fId == 0) && ((x.fKind == 0) && ((x.fHidden == false) && ((x.fFixed == false) && ((x.fSigns == false) && ((x.fWraps == false) && (((ByteArray.toList x.fValue) == (ByteArray.toList (⟨#[]⟩:ByteArray))) && ((x.fNext == 0) && true)))))))
theorem BAc (x:SThing):((x.fId == 0) && ((x.fKind == 0) && ((x.fHidden == false) && ((x.fFixed == false) && ((x.fSigns == false) && ((x.fWraps == false) && (((ByteArray.toList x.fValue) == (ByteArray.toList (⟨#[]⟩:ByteArray))) && ((x.fNext == 0) && true))))))))=SY x:=rfl
def QY (s:ByteArray):Bool:=(ByteArray.toList s) == (ByteArray.toList (⟨#[]⟩:ByteArray))
theorem DAS (s:ByteArray):((ByteArray.toList s) == (ByteArray.toList (⟨#[]⟩:ByteArray)))=QY s:=rfl
def noT:ByteArray×Bool:=((⟨#[]⟩:ByteArray),false)
def CV (r:SRec):ByteArray×Bool:=
 bif r.fKind == 1 then (bif (r.fText.size:Int) == 32 && r.fNum == 0 && SY r.fThing then (ofBytes [1]++r.fText,true) else noT)
 else bif r.fKind == 2 then (bif QY r.fText && SY r.fThing && FN r.fNum 0 3 then (ofBytes [2]++ofBytes (IK r.fNum),true) else noT)
 else bif r.fKind == 3 then (bif (NY r.fThing).2 && QY r.fText && r.fNum == 0 then (ofBytes [3]++(NY r.fThing).1,true) else noT)
 else bif r.fKind == 4 then (bif QY r.fText && SY r.fThing && FN r.fNum 1 1000 then (ofBytes [4]++ofBytes (IK r.fNum),true) else noT)
 else noT
theorem PAF {n a b:Int} (hb:b≤1000) (h:FN n a b=true) (k:Int):(ofBytes [k]).size+(ofBytes (IK n)).size≤9223372036854775807:=by
 rw [DY] at h
 have:=Aa (n:=n) (by omega)
 rw [ofBytes_size,ofBytes_size];simp only [List.length_singleton];omega
theorem CAc {x:SThing} (h:(NY x).2=true) (k:Int):(ofBytes [k]).size+(NY x).1.size≤9223372036854775807:=by
 unfold NY at h ⊢
 cases ho:OY x
 ·rw [ho] at h;cases h
 ·have:=WAb ho
  rw [ofBytes_size];simp only [List.length_singleton,cond_true];omega
theorem Ir (r:SRec):Jh r=some (CV r):=by
 have h1:(⟨#[1]⟩:ByteArray)=ofBytes [1]:=rfl
 have h2:(⟨#[2]⟩:ByteArray)=ofBytes [2]:=rfl
 have h3:(⟨#[3]⟩:ByteArray)=ofBytes [3]:=rfl
 have h4:(⟨#[4]⟩:ByteArray)=ofBytes [4]:=rfl
 simp only [Jh,VAM,Eb,BAS,Option.bind_some,BAc,h1,h2,h3,h4]
 simp only [DAS,CV]
 cases r.fKind == 1
 ·simp only [cond_false]
  cases r.fKind == 2
  ·simp only [cond_false]
   cases r.fKind == 3
   ·simp only [cond_false]
    cases r.fKind == 4
    ·rfl
    ·cases QY r.fText <;> cases SY r.fThing <;> (try rfl)
     cases h:FN r.fNum 1 1000
     ·rfl
     ·have h':=h
      rw [DY] at h'
      simp only [cond_true,Ci (n:=r.fNum) (by omega),Option.bind_some,Bool.and_self,decide_eq_true (PAF (by omega) h 4)]
   ·cases h:(NY r.fThing).2
    ·rfl
    ·cases QY r.fText <;> cases r.fNum == 0 <;> (try rfl)
     simp only [cond_true,Bool.and_self,decide_eq_true (CAc h 3)]
  ·cases QY r.fText <;> cases SY r.fThing <;> (try rfl)
   cases h:FN r.fNum 0 3
   ·rfl
   ·have h':=h
    rw [DY] at h'
    simp only [cond_true,Ci (n:=r.fNum) (by omega),Option.bind_some,Bool.and_self,decide_eq_true (PAF (by omega) h 2)]
 ·cases h:(r.fText.size:Int) == 32 <;> cases r.fNum == 0 <;> cases SY r.fThing <;> (try rfl)
  have h':r.fText.size=32:=by have:=beq_iff_eq.1 h;omega
  have e:(ofBytes [1]).size+r.fText.size≤9223372036854775807:=by rw [ofBytes_size];simp only [List.length_singleton];omega
  simp only [cond_true,Bool.and_self,decide_eq_true e]
def Ia:SRec:=⟨(0:Int),(⟨#[]⟩:ByteArray),(0:Int),(⟨(0:Int),(0:Int),false,false,false,false,(⟨#[]⟩:ByteArray),(0:Int)⟩:SThing)⟩
def Jr (text:ByteArray) (r:SRec×Bool):Prop:=(r.2=true∧CV r.1=(text,true))∨r=(Ia,false)
theorem Kr {text:ByteArray} (x:SRec) (bad:Bool):∃ r,(bif bad then some (Ia,false) else bif !(CV x).2 then some (Ia,false) else bif !((ByteArray.toList (CV x).1) == (ByteArray.toList text)) then some (Ia,false) else some (x,true))=some r∧Jr text r:=by
 cases bad
 ·cases h5:(CV x).2
  ·exact ⟨_,rfl,.inr rfl⟩
  ·rw [toList_inj]
   by_cases h6:(CV x).1=text
   ·rw [decide_eq_true h6];exact ⟨_,rfl,.inl ⟨rfl,Prod.ext h6 h5⟩⟩
   ·rw [decide_eq_false h6];exact ⟨_,rfl,.inr rfl⟩
 ·exact ⟨_,rfl,.inr rfl⟩
theorem EAS {text:ByteArray} (hs:text.size≤140737488351232):∃ r,Za text=some r∧Jr text r:=by
 obtain ⟨v0,c0,e0,h0,_,_,hz,hn⟩:=ZAR hs (c:=⟨text,(0:Int),false⟩) ⟨0,false,rfl,by omega⟩
 obtain ⟨v1,c1,e1,h1,_⟩:=XAR (n:=32) hs h0 (by omega) (by omega)
 obtain ⟨v3,c3,e3,h3,_⟩:=OAF hs h0
 simp only [Za,Jl,e0,e1,e3,Ir,Option.bind_some]
 cases v0 == 1
 ·simp only [cond_false]
  cases v0 == 2
  ·simp only [cond_false]
   cases v0 == 4
   ·simp only [cond_false]
    cases h:v0 == 3
    ·exact Kr _ _
    ·have hv:v0=3:=beq_iff_eq.1 h
     have hsz:(0:Int)+1≤(text.size:Int):=by
      cases hb:c0.fBad
      ·exact hn hb
      ·have:=hz hb;omega
     obtain ⟨r,e5,_⟩:=YAb (text:=text.extract (1:Int).toNat text.size) (by rw [ByteArray.size_extract];omega)
     rw [show decide ((1:Int)≤(text.size:Int))=true from decide_eq_true (by omega),e5]
     exact Kr _ _
   ·exact Kr _ _
  ·exact Kr _ _
 ·exact Kr _ _
theorem DAc {text:ByteArray} {x:SRec} (h:CV x=(text,true)) :
  (∃ s:ByteArray,x=⟨1,s,0,Ia.fThing⟩∧s.size=32∧text=ofBytes [1]++s)∨(∃ n:Int,x=⟨2,Ia.fText,n,Ia.fThing⟩∧0≤n∧n≤3∧text=ofBytes [2]++ofBytes (IK n))∨
  (∃ t:SThing,∃ s:ByteArray,x=⟨3,Ia.fText,0,t⟩∧NY t=(s,true)∧text=ofBytes [3]++s)∨(∃ n:Int,x=⟨4,Ia.fText,n,Ia.fThing⟩∧1≤n∧n≤1000∧text=ofBytes [4]++ofBytes (IK n)):=by
 have hE:∀ s:ByteArray,QY s=true→s=⟨#[]⟩:=fun s h=>by unfold QY at h;rw [toList_inj] at h;exact of_decide_eq_true h
 have hZ:∀ t:SThing,SY t=true→t=Ia.fThing:=fun t h=>by
  unfold SY at h
  simp only [DAS] at h
  obtain ⟨t1,t2,t3,t4,t5,t6,t7,t8⟩:=t
  simp only [Bool.and_eq_true,beq_iff_eq] at h
  obtain ⟨rfl,rfl,rfl,rfl,rfl,rfl,h7,rfl,_⟩:=h
  rw [hE _ h7];rfl
 obtain ⟨k,s,n,t⟩:=x
 unfold CV at h
 simp only at h
 cases k1:k == 1 <;> rw [k1] at h
 ·cases k2:k == 2 <;> rw [k2] at h
  ·cases k3:k == 3 <;> rw [k3] at h
   ·cases k4:k == 4 <;> rw [k4] at h
    ·exact Bool.noConfusion (congrArg Prod.snd h)
    ·simp only [cond_false,cond_true] at h
     cases hc:QY s && SY t && FN n 1 1000 <;> rw [hc] at h
     ·exact Bool.noConfusion (congrArg Prod.snd h)
     ·simp only [Bool.and_eq_true,DY] at hc
      refine .inr (.inr (.inr ⟨n,?_,hc.2.1,hc.2.2,(congrArg Prod.fst h).symm⟩))
      rw [beq_iff_eq.1 k4,hE _ hc.1.1,hZ _ hc.1.2];rfl
   ·simp only [cond_false,cond_true] at h
    cases hc:(NY t).2 && QY s && n == 0 <;> rw [hc] at h
    ·exact Bool.noConfusion (congrArg Prod.snd h)
    ·simp only [Bool.and_eq_true,beq_iff_eq] at hc
     refine .inr (.inr (.inl ⟨t,(NY t).1,?_,Prod.ext rfl hc.1.1,(congrArg Prod.fst h).symm⟩))
     rw [beq_iff_eq.1 k3,hE _ hc.1.2,hc.2];rfl
  ·simp only [cond_false,cond_true] at h
   cases hc:QY s && SY t && FN n 0 3 <;> rw [hc] at h
   ·exact Bool.noConfusion (congrArg Prod.snd h)
   ·simp only [Bool.and_eq_true,DY] at hc
    refine .inr (.inl ⟨n,?_,hc.2.1,hc.2.2,(congrArg Prod.fst h).symm⟩)
    rw [beq_iff_eq.1 k2,hE _ hc.1.1,hZ _ hc.1.2];rfl
 ·simp only [cond_false,cond_true] at h
  cases hc:(s.size:Int) == 32 && n == 0 && SY t <;> rw [hc] at h
  ·exact Bool.noConfusion (congrArg Prod.snd h)
  ·simp only [Bool.and_eq_true,beq_iff_eq] at hc
   refine .inl ⟨s,?_,by omega,(congrArg Prod.fst h).symm⟩
   rw [beq_iff_eq.1 k1,hZ _ hc.2,hc.1.2]
theorem Yn {k:Int} {s:ByteArray} (h0:0≤k) (h1:k≤255):At (ofBytes [k]++s) 0 ([k]++bs s):=⟨[],by rw [List.drop_zero,XY,SN (by simp;omega),List.append_nil]⟩
theorem FAS {k:Int} {s:ByteArray}:(ofBytes [k]++s).extract (1:Int).toNat (ofBytes [k]++s).size=s:=by
 apply Ob
 rw [UZ,←bs_len,List.take_length,XY]
 rfl
theorem JAs {text:ByteArray} {x:SRec} (hs:text.size≤140737488351232) (h:CV x=(text,true)):Za text=some (x,true):=by
 rcases DAc h with ⟨s,rfl,hz,rfl⟩ | ⟨n,rfl,h0,h1,rfl⟩ | ⟨t,s,rfl,ht,rfl⟩ | ⟨n,rfl,h0,h1,rfl⟩
 ·have hA:=Yn (k:=1) (s:=s) (by omega) (by omega)
  have e0:=Hr hs hA.left
  have e1:=YAR hs hA.right (by rw [ba_append_size,ofBytes_size];simp)
  simp only [List.length_singleton,Nat.zero_add,hz] at e0 e1
  simp only [Za,Jl]
  rw [show Ic ⟨ofBytes [1]++s,(0:Int),false⟩=_ from e0]
  simp only [Option.bind_some]
  rw [show Dc ⟨ofBytes [1]++s,((1:Nat):Int),false⟩ 32=_ from e1]
  have h':CV ⟨1,s,0,⟨(0:Int),(0:Int),false,false,false,false,(⟨#[]⟩:ByteArray),(0:Int)⟩⟩=_:=h
  simp only [Option.bind_some,Ir,h',toList_self]
  rfl
 ·have hA:=Yn (k:=2) (s:=ofBytes (IK n)) (by omega) (by omega)
  rw [SN (Ze n h0)] at hA
  have e0:=Hr hs hA.left
  have e1:=D9 hs (by omega) (by omega) hA.right
  simp only [List.length_singleton,Nat.zero_add] at e0 e1
  simp only [Za,Jl]
  rw [show Ic ⟨ofBytes [2]++ofBytes (IK n),(0:Int),false⟩=_ from e0]
  have h':CV ⟨2,⟨#[]⟩,n,⟨(0:Int),(0:Int),false,false,false,false,(⟨#[]⟩:ByteArray),(0:Int)⟩⟩=_:=h
  simp only [Option.bind_some,e1,Ir,h',toList_self]
  rfl
 ·have hA:=Yn (k:=3) (s:=s) (by omega) (by omega)
  have e0:=Hr hs hA.left
  have hsz:s.size≤140737488351232:=by rw [ba_append_size] at hs;omega
  have e1:=AAc hsz ht
  simp only [List.length_singleton,Nat.zero_add] at e0
  simp only [Za,Jl]
  rw [show Ic ⟨ofBytes [3]++s,(0:Int),false⟩=_ from e0]
  have h':CV ⟨3,⟨#[]⟩,0,t⟩=_:=h
  have hd:decide ((1:Int)≤((ofBytes [3]++s).size:Int))=true:=decide_eq_true (by rw [ba_append_size,ofBytes_size];simp only [List.length_singleton];omega)
  simp only [Option.bind_some,FAS,e1,Ir,h',toList_self,hd]
  rfl
 ·have hA:=Yn (k:=4) (s:=ofBytes (IK n)) (by omega) (by omega)
  rw [SN (Ze n (by omega))] at hA
  have e0:=Hr hs hA.left
  have e1:=D9 hs (by omega) (by omega) hA.right
  simp only [List.length_singleton,Nat.zero_add] at e0 e1
  simp only [Za,Jl]
  rw [show Ic ⟨ofBytes [4]++ofBytes (IK n),(0:Int),false⟩=_ from e0]
  have h':CV ⟨4,⟨#[]⟩,n,⟨(0:Int),(0:Int),false,false,false,false,(⟨#[]⟩:ByteArray),(0:Int)⟩⟩=_:=h
  simp only [Option.bind_some,e1,Ir,h',toList_self]
  rfl
theorem G9:∀ {a m:List Int},IY a→a.length≤m.length→LY (LY a m) m=a
 | [],_,_,_=>by simp [LY]
 | _::_,[],_,h=>by simp at h
 | x::a,y::m,hb,h=>by
  have h1:=G9 (a:=a) (m:=m) (fun n hn=>hb n (List.mem_cons_of_mem _ hn)) (by simpa using h)
  simp only [LY] at h1 ⊢
  rw [List.zipWith_cons_cons,List.zipWith_cons_cons,h1,EAq (hb x (List.mem_cons_self ..))]
theorem KAs {k t:ByteArray} {num:Int} (h:(AY k num t).2=true):16≤t.size∧maskOk num ((t.size:Int) - 16)=true∧Ua (bs k) num ((bs t).take (t.size - 16))=(bs t).drop (t.size - 16)∧bs (AY k num t).1=LY ((bs t).take (t.size - 16)) (JZ (bs k) (IK num) (t.size - 16))∧bs t=(bs t).take (t.size - 16)++Ua (bs k) num ((bs t).take (t.size - 16)):=by
 rw [AY] at h ⊢
 cases h1:decide ((t.size:Int)<16) || !(maskOk num ((t.size:Int) - 16))
 ·rw [h1,cond_false] at h
  rw [Bool.or_eq_false_iff,decide_eq_false_iff_not,Bool.not_eq_false'] at h1
  cases h2:(Ua (bs k) num ((bs t).take (t.size - 16)) == (bs t).drop (t.size - 16))
  ·rw [h2] at h;cases h
  ·rw [cond_false,cond_true,SN (HAb _ _)]
   have h3:=beq_iff_eq.1 h2
   exact ⟨by omega,h1.2,h3,rfl,by rw [h3,List.take_append_drop]⟩
 ·rw [h1] at h;cases h
theorem YAQ (k t:ByteArray) (num:Int):(AY k num t).1.size≤t.size:=by
 have hl:=bs_len t
 rw [AY]
 cases decide ((t.size:Int)<16) || !(maskOk num ((t.size:Int) - 16))
 ·rw [cond_false]
  cases (Ua (bs k) num ((bs t).take (t.size - 16)) == (bs t).drop (t.size - 16))
  ·exact Nat.zero_le _
  ·rw [cond_true,ofBytes_size,LY,List.length_zipWith,List.length_take];omega
 ·exact Nat.zero_le _
theorem AAu {k:ByteArray} {num:Int} {s:List Int} (hs:IY s) (hm:maskOk num s.length=true):AY k num (ofBytes (Qb (bs k) num s))=(ofBytes s,true):=by
 have hx:(LY s (JZ (bs k) (IK num) s.length)).length=s.length:=IAF (by rw [Ig];omega)
 have hb:IY (Qb (bs k) num s):=fun x hx=>by
  rcases List.mem_append.1 hx with hx | hx
  ·exact HAb _ _ x hx
  ·exact Z8 _ _ _ x hx
 have hsz:(ofBytes (Qb (bs k) num s)).size=s.length+16:=by rw [ofBytes_size,Qb,List.length_append,hx,RAR]
 rw [AY,SN hb,hsz,Nat.add_sub_cancel,show ((s.length+16:Nat):Int) - 16=(s.length:Int) by omega,hm]
 have h1:decide (((s.length+16:Nat):Int)<16)=false:=by rw [decide_eq_false_iff_not];omega
 have h2:(Qb (bs k) num s).take s.length=LY s (JZ (bs k) (IK num) s.length):=by rw [Qb,List.take_append_of_le_length (by omega),List.take_of_length_le (by omega)]
 have h3:(Qb (bs k) num s).drop s.length=Ua (bs k) num (LY s (JZ (bs k) (IK num) s.length)):=by rw [Qb,List.drop_append_of_le_length (by omega),List.drop_of_length_le (by omega),List.nil_append]
 rw [h1,h2,h3,beq_self_eq_true,G9 hs (by rw [Ig];omega)]
 rfl
theorem BAu {k t:ByteArray} {num:Int} (h:(AY k num t).2=true):Qb (bs k) num (bs (AY k num t).1)=bs t:=by
 obtain ⟨h1,h2,h3,h4,h5⟩:=KAs h
 have hl:((bs t).take (t.size - 16)).length=t.size - 16:=by rw [List.length_take,bs_len];omega
 have hx:(bs (AY k num t).1).length=t.size - 16:=by rw [h4,IAF (by rw [Ig];omega),hl]
 rw [Qb,hx,h4,G9 (fun n hn=>Yc t n (List.mem_of_mem_take hn)) (by rw [Ig];omega),←h5]
theorem CAu {k:ByteArray} {num:Int} {a b:List Int} (ha:IY a) (hb:IY b) (h:Qb (bs k) num a=Qb (bs k) num b):a=b:=by
 have xa:(LY a (JZ (bs k) (IK num) a.length)).length=a.length:=IAF (by rw [Ig];omega)
 have xb':(LY b (JZ (bs k) (IK num) b.length)).length=b.length:=IAF (by rw [Ig];omega)
 have hl:=congrArg List.length h
 rw [Qb,Qb,List.length_append,List.length_append,xa,xb',RAR,RAR] at hl
 have hab:a.length=b.length:=by omega
 have h1:=(List.append_inj h (by rw [xa,xb',hab])).1
 have h2:LY (LY a (JZ (bs k) (IK num) a.length)) (JZ (bs k) (IK num) a.length)=LY (LY b (JZ (bs k) (IK num) b.length)) (JZ (bs k) (IK num) b.length):=by rw [h1,hab]
 rw [G9 ha (by rw [Ig];omega),G9 hb (by rw [Ig];omega)] at h2
 exact h2
def QAF (text:ByteArray) (c:SFields):Prop:=∃ p:Nat,∃ b:Bool,c=⟨text,(p:Int),b⟩∧p≤text.size
theorem RAF {text:ByteArray} {c:SFields} (hs:text.size≤140737488351232) (h:QAF text c):∃ v c',Ui c=some (v,c')∧QAF text c':=by
 obtain ⟨p,b,rfl,hp⟩:=h
 obtain ⟨r,hr,hR⟩:=TAR hs hp
 simp only [Ui,GAE,hr,Option.bind_some]
 rcases hR with rfl | ⟨v,q,rfl,h0,h1,_,h3⟩
 ·exact ⟨_,_,rfl,⟨p,true,rfl,hp⟩⟩
 ·exact ⟨_,_,rfl,⟨q,b,rfl,h3⟩⟩
theorem SAF {text:ByteArray} {a:Nat} {V:Int} (hs:text.size≤140737488351232) (hV0:0≤V) (hV:V≤1000000000) (hA:At text a (IK V)):Ui ⟨text,(a:Int),false⟩=some (V,⟨text,((a+(IK V).length:Nat):Int),false⟩):=by
 simp only [Ui,GAE,C9 hs hV0 hV hA,Option.bind_some]
 rfl
theorem LAs {text:ByteArray} {a:Nat} (hs:text.size≤140737488351232) (ha:a≤text.size):∃ s q ok,Cm text a=some (s,q,ok)∧(ok=true→∃ p:Nat,q=(p:Int)∧p≤text.size):=by
 obtain ⟨r,hr,hR⟩:=TAR hs ha
 simp only [Cm,HAE,hr,Option.bind_some]
 rcases hR with rfl | ⟨v,q,rfl,h0,h1,h2,h3⟩
 ·exact ⟨_,_,_,rfl,fun h=>by cases h⟩
 ·rw [w64_id (n:=(text.size:Int) - (q:Int)) (by omega) (by omega),w64_id (n:=(q:Int)+v) (by omega) (by omega)]
  simp only [Bool.not_true,cond_false]
  cases decide (v > 20000)
  ·by_cases hv:v > (text.size:Int) - (q:Int)
   ·rw [decide_eq_true hv];exact ⟨_,_,_,rfl,fun h=>by cases h⟩
   ·rw [decide_eq_false hv,show decide ((0:Int)≤(q:Int))=true from decide_eq_true (by omega),show decide ((q:Int)≤q+v)=true from decide_eq_true (by omega),show decide ((q:Int)+v≤(text.size:Int))=true from decide_eq_true (by omega)]
    exact ⟨_,_,_,rfl,fun _=>⟨((q:Int)+v).toNat,by omega,by omega⟩⟩
  ·exact ⟨_,_,_,rfl,fun h=>by cases h⟩
theorem MAs {text:ByteArray} {p:Nat} {s:ByteArray} (hs:text.size≤140737488351232) (hz:s.size≤20000) (hA:At text p (IK (s.size:Int)++bs s)):Cm text p=some (s,((p+(IK (s.size:Int)).length+s.size:Nat):Int),true):=by
 have hp:p+(IK (s.size:Int)).length≤text.size:=by
  rcases hA.left.size with h | h
  ·have:=Oe (s.size:Int);rw [h] at this;simp at this
  ·exact h
 have hA2:=hA.right
 have hx:=hA2.extract (fun n hn=>GAR hn)
 rw [bs_len,WAE] at hx
 simp only [Cm,HAE,C9 hs (by omega) (by omega) hA.left,Option.bind_some]
 generalize p+(IK (s.size:Int)).length=q at *
 have hz:q+s.size≤text.size:=by
  rcases hA2.size with h | h
  ·have:=congrArg List.length h;rw [bs_len,List.length_nil] at this;omega
  ·rw [bs_len] at h;exact h
 have e2:w64 ((q:Int)+(s.size:Int))=((q+s.size:Nat):Int):=by rw [w64_id (by omega) (by omega)];omega
 rw [w64_id (n:=(text.size:Int) - (q:Int)) (by omega) (by omega),e2,Int.toNat_natCast,Int.toNat_natCast,hx,
  show decide ((s.size:Int) > 20000)=false from decide_eq_false (by omega),show decide ((s.size:Int) > (text.size:Int) - (q:Int))=false from decide_eq_false (by omega),show decide ((0:Int)≤(q:Int))=true from decide_eq_true (by omega),show decide ((q:Int)≤((q+s.size:Nat):Int))=true from decide_eq_true (by omega),show decide (((q+s.size:Nat):Int)≤(text.size:Int))=true from decide_eq_true (by omega)]
 rfl
theorem NAs {text:ByteArray} {c:SFields} (hs:text.size≤140737488351232) (h:QAF text c):∃ v c',Em c=some (v,c')∧QAF text c':=by
 obtain ⟨p,b,rfl,hp⟩:=h
 obtain ⟨s,q,ok,hr,hR⟩:=LAs hs hp
 simp only [Em,IAE,hr,Option.bind_some]
 cases ok
 ·exact ⟨_,_,rfl,⟨p,true,rfl,hp⟩⟩
 ·obtain ⟨q,rfl,h3⟩:=hR rfl
  exact ⟨_,_,rfl,⟨q,b,rfl,h3⟩⟩
theorem OAs {text:ByteArray} {p:Nat} {s:ByteArray} (hs:text.size≤140737488351232) (hz:s.size≤20000) (hA:At text p (IK (s.size:Int)++bs s)):Em ⟨text,(p:Int),false⟩=some (s,⟨text,((p+(IK (s.size:Int)).length+s.size:Nat):Int),false⟩):=by
 simp only [Em,IAE,MAs hs hz hA,Option.bind_some]
 rfl
theorem TAZ (x:SThing):Uh x=some (OY x):=by
 simp only [Uh,UAP,Yb,Option.bind_some,OY,bne]
 by_cases k1:x.fKind=1
 ·rw [k1]
  cases FN x.fId 1 1000 <;> cases FN x.fNext 0 16 <;> cases (x.fNext == 0) <;> cases x.fSigns <;> cases x.fWraps <;> simp [FN]
 ·by_cases k2:x.fKind=2
  ·rw [k2]
   cases FN x.fId 1 1000 <;> cases FN x.fNext 0 16 <;> cases (x.fNext == 0) <;> cases x.fSigns <;> cases x.fWraps <;> simp [FN]
  ·by_cases k3:x.fKind=3
   ·rw [k3]
    cases FN x.fId 1 1000 <;> cases FN x.fNext 0 16 <;> cases (x.fNext == 0) <;> cases x.fSigns <;> cases x.fWraps <;> simp [FN]
   ·have hr:FN x.fKind 1 3=false:=by
     cases h:FN x.fKind 1 3
     ·rfl
     ·rw [DY] at h;omega
    have e1:(x.fKind == 1)=false:=by simpa using k1
    have e2:(x.fKind == 2)=false:=by simpa using k2
    have e3:(x.fKind == 3)=false:=by simpa using k3
    rw [hr,e1,e2,e3]
    cases FN x.fId 1 1000 <;> cases FN x.fNext 0 16 <;> cases (x.fNext == 0) <;> cases x.fSigns <;> cases x.fWraps <;> rfl
theorem PAs {s:ByteArray} (h:s.size≤140737488351232):D8 s=some (Df s):=by
 simp only [D8,AAQ,Dn (n:=(s.size:Int)) (by omega),Option.bind_some]
 have:=Aa (n:=(s.size:Int)) (by omega)
 rw [show decide ((ofBytes (IK (s.size:Int))).size+s.size≤9223372036854775807)=true from decide_eq_true (by rw [ofBytes_size];omega)]
 rfl
theorem GAS (x:SThing):Gm x=some (NY x):=by
 simp only [Gm,BAQ,TAZ,Option.bind_some,NY]
 cases h:OY x
 ·rfl
 ·obtain ⟨k1,k2,k3,k4,k5,k6,k7⟩:=Ag h
  obtain ⟨z1,z2,z3⟩:=AAS h
  have hf:=F9 x
  have e1:∀ n:Int,(ofBytes [n]).size=1:=fun n=>ofBytes_size _
  simp only [HAs,Option.bind_some,Dn (n:=x.fId) (by omega),Xn (n:=x.fKind) (by omega) (by omega),Xn hf.1 (by omega),PAs (s:=x.fValue) (by omega),Dn (n:=x.fNext) (by omega),ba_append_size,e1]
  simp only [Bool.not_true,cond_false,cond_true]
  rw [show decide ((ofBytes (IK x.fId)).size+1≤9223372036854775807)=true from decide_eq_true (by omega),show decide ((ofBytes (IK x.fId)).size+1+1≤9223372036854775807)=true from decide_eq_true (by omega),
   show decide ((ofBytes (IK x.fId)).size+1+1+(Df x.fValue).size≤9223372036854775807)=true from decide_eq_true (by omega),show decide ((ofBytes (IK x.fId)).size+1+1+(Df x.fValue).size+(ofBytes (IK x.fNext)).size≤9223372036854775807)=true from decide_eq_true (by omega)]
  rfl
theorem QAs (x:SThing):((w64 (((BitVec.toNat ((BitVec.ofInt (IntKind.bits IntKind.i64) (KZ x)) &&& (BitVec.ofInt (IntKind.bits IntKind.i64) (1:Int)))):Nat):Int) != 0)=x.fHidden)∧((w64 (((BitVec.toNat ((BitVec.ofInt (IntKind.bits IntKind.i64) (KZ x)) &&& (BitVec.ofInt (IntKind.bits IntKind.i64) (2:Int)))):Nat):Int) != 0)=x.fFixed)∧((w64 (((BitVec.toNat ((BitVec.ofInt (IntKind.bits IntKind.i64) (KZ x)) &&& (BitVec.ofInt (IntKind.bits IntKind.i64) (4:Int)))):Nat):Int) != 0)=x.fSigns)∧((w64 (((BitVec.toNat ((BitVec.ofInt (IntKind.bits IntKind.i64) (KZ x)) &&& (BitVec.ofInt (IntKind.bits IntKind.i64) (8:Int)))):Nat):Int) != 0)=x.fWraps):=by
 unfold KZ
 cases x.fHidden <;> cases x.fFixed <;> cases x.fSigns <;> cases x.fWraps <;> refine ⟨?_,?_,?_,?_⟩ <;> kernel_rfl
theorem EAc {text:ByteArray} (hs:text.size≤140737488351232):∃ r,Wi text=some r∧CAS text r:=by
 obtain ⟨v0,c0,e0,h0⟩:=RAF hs (c:=⟨text,(0:Int),false⟩) ⟨0,false,rfl,by omega⟩
 obtain ⟨v1,c1,e1,h1⟩:=RAF hs h0
 obtain ⟨v2,c2,e2,h2⟩:=RAF hs h1
 obtain ⟨v3,c3,e3,h3⟩:=NAs hs h2
 obtain ⟨v4,c4,e4,h4⟩:=RAF hs h3
 simp only [Wi,KAE,e0,e1,e2,e3,e4,GAS,Option.bind_some]
 generalize (w64 (((BitVec.toNat ((BitVec.ofInt (IntKind.bits IntKind.i64) v2) &&& (BitVec.ofInt (IntKind.bits IntKind.i64) (1:Int)))):Nat):Int) != 0)=b1
 generalize (w64 (((BitVec.toNat ((BitVec.ofInt (IntKind.bits IntKind.i64) v2) &&& (BitVec.ofInt (IntKind.bits IntKind.i64) (2:Int)))):Nat):Int) != 0)=b2
 generalize (w64 (((BitVec.toNat ((BitVec.ofInt (IntKind.bits IntKind.i64) v2) &&& (BitVec.ofInt (IntKind.bits IntKind.i64) (4:Int)))):Nat):Int) != 0)=b3
 generalize (w64 (((BitVec.toNat ((BitVec.ofInt (IntKind.bits IntKind.i64) v2) &&& (BitVec.ofInt (IntKind.bits IntKind.i64) (8:Int)))):Nat):Int) != 0)=b4
 cases c4.fBad
 ·cases h5:(NY (⟨v0,v1,b1,b2,b3,b4,v3,v4⟩:SThing)).2
  ·exact ⟨_,rfl,.inr rfl⟩
  ·rw [toList_inj]
   by_cases h6:(NY (⟨v0,v1,b1,b2,b3,b4,v3,v4⟩:SThing)).1=text
   ·rw [decide_eq_true h6];exact ⟨_,rfl,.inl ⟨rfl,Prod.ext h6 h5⟩⟩
   ·rw [decide_eq_false h6];exact ⟨_,rfl,.inr rfl⟩
 ·exact ⟨_,rfl,.inr rfl⟩
theorem FAc {text:ByteArray} {x:SThing} (hs:text.size≤140737488351232) (h:NY x=(text,true)):Wi text=some (x,true):=by
 obtain ⟨ho,rfl⟩:=ZAb h
 obtain ⟨k1,k2,k3,k4,k5,k6,k7⟩:=Ag ho
 have hf:=F9 x
 have hA:At (Og x) 0 _:=⟨[],by rw [List.drop_zero,XAb ho,List.append_nil]⟩
 rw [←X8 (n:=x.fKind) (by omega) (by omega),←X8 (n:=KZ x) (by omega) (by omega)] at hA
 have a1:=hA.right
 have a2:=a1.right
 have a3:=a2.right
 have a4:=a3.right
 have e0:=SAF hs (by omega) (by omega) hA.left
 have e1:=SAF hs (by omega) (by omega) a1.left
 have e2:=SAF hs (by omega) (by omega) a2.left
 have e3:=OAs hs (by omega) a3.left
 have e4:=SAF hs (by omega) (by omega) a4
 simp only [List.length_append,bs_len,Nat.zero_add,←Nat.add_assoc] at e0 e1 e2 e3 e4
 obtain ⟨b1,b2,b3,b4⟩:=QAs x
 simp only [Wi,KAE]
 rw [show Ui ⟨Og x,(0:Int),false⟩=_ from e0]
 simp only [e1,e2,e3,e4,Option.bind_some,b1,b2,b3,b4,GAS,h,toList_self]
 rfl
theorem DAu {text:ByteArray} (hs:text.size≤140737488351232):∃ r,Qi text=some r∧Wi text=some r∧CAS text r:=by
 obtain ⟨r,hr,h⟩:=YAb hs
 obtain ⟨q,hq,h'⟩:=EAc hs
 rcases h with ⟨h1,h2⟩ | h
 ·have:=FAc hs h2
  refine ⟨r,hr,?_,.inl ⟨h1,h2⟩⟩
  rw [this];congr 1;exact Prod.ext rfl h1.symm
 ·rcases h' with ⟨h1,h2⟩ | h'
  ·have:=AAc hs h2
   rw [hr] at this
   injection this with this
   rw [h] at this
   exact Bool.noConfusion (congrArg Prod.snd this)
  ·exact ⟨r,hr,by rw [hq,h',h],.inr h⟩
theorem Zi {r:SRec} (g:r.fNum≤9223372036854775807):Gj r=some (CV r):=by
 simp only [Gj,DAQ,Yb,GAS,Dn g,Option.bind_some,BAc]
 simp only [DAS,CV]
 cases k1:r.fKind == 1
 ·simp only [cond_false]
  cases k2:r.fKind == 2
  ·simp only [cond_false]
   cases k3:r.fKind == 3
   ·simp only [cond_false]
    cases k4:r.fKind == 4
    ·rfl
    ·have k:r.fKind=4:=by simpa using k4
     rw [k]
     simp only [beq_self_eq_true,Xn (n:=4) (by omega) (by omega),Option.bind_some,Bool.true_and,cond_true]
     cases h:FN r.fNum 1 1000
     ·cases QY r.fText <;> cases SY r.fThing <;> rfl
     ·cases QY r.fText <;> cases SY r.fThing <;> (try rfl)
      simp only [Bool.not_true,cond_false,cond_true,Bool.and_self,decide_eq_true (PAF (by omega) h 4)]
   ·have k:r.fKind=3:=by simpa using k3
    rw [k]
    simp only [beq_self_eq_true,Xn (n:=3) (by omega) (by omega),Option.bind_some,Bool.true_and,cond_true,Bool.and_true]
    cases h:(NY r.fThing).2
    ·cases QY r.fText <;> cases r.fNum == 0 <;> rfl
    ·cases QY r.fText <;> cases r.fNum == 0 <;> (try rfl)
     simp only [Bool.not_true,cond_false,cond_true,Bool.and_self,decide_eq_true (CAc h 3)]
  ·have k:r.fKind=2:=by simpa using k2
   rw [k]
   simp only [beq_self_eq_true,Xn (n:=2) (by omega) (by omega),Option.bind_some,Bool.true_and,cond_true]
   cases h:FN r.fNum 0 3
   ·cases QY r.fText <;> cases SY r.fThing <;> rfl
   ·cases QY r.fText <;> cases SY r.fThing <;> (try rfl)
    simp only [Bool.not_true,cond_false,cond_true,Bool.and_self,decide_eq_true (PAF (by omega) h 2)]
 ·have k:r.fKind=1:=by simpa using k1
  rw [k]
  simp only [beq_self_eq_true,Xn (n:=1) (by omega) (by omega),Option.bind_some,Bool.true_and,cond_true]
  cases h:(r.fText.size:Int) == 32 <;> cases r.fNum == 0 <;> cases SY r.fThing <;> (try rfl)
  have h':r.fText.size=32:=by have:=beq_iff_eq.1 h;omega
  have e:(ofBytes [1]).size+r.fText.size≤9223372036854775807:=by rw [ofBytes_size];simp only [List.length_singleton];omega
  simp only [Bool.not_true,cond_false,cond_true,Bool.and_self,decide_eq_true e]
theorem IAS {text:ByteArray} (x:SRec):∃ r,(bif !(CV x).2 then some (Ia,false) else bif !((ByteArray.toList (CV x).1) == (ByteArray.toList text)) then some (Ia,false) else some (x,true))=some r∧Jr text r:=Kr x false
theorem RAs {text:ByteArray} (hs:text.size≤140737488351232):∃ r,Xb text=some r∧Jr text r:=by
 simp only [Xb,Jm]
 rw [toList_inj]
 by_cases he:text=⟨#[]⟩
 ·rw [decide_eq_true he];exact ⟨_,rfl,.inr rfl⟩
 ·have hz:0<text.size:=by
   rcases Nat.eq_zero_or_pos text.size with h | h
   ·exact absurd (Ob (List.eq_nil_of_length_eq_zero (by rw [bs_len];exact h)):text=⟨#[]⟩) he
   ·exact h
  rw [decide_eq_false he,show decide ((0:Int)<(text.size:Int))=true from decide_eq_true (by omega),show decide ((1:Int)≤(text.size:Int))=true from decide_eq_true (by omega)]
  have hb:=Xh text 0
  rw [w64_id (n:=bt text 0) (by omega) (by omega)]
  obtain ⟨⟨t,tb⟩,e1,_⟩:=EAc (text:=text.extract (1:Int).toNat text.size) (by rw [ByteArray.size_extract];omega)
  obtain ⟨⟨v,q,ok⟩,e2,hR⟩:=TAR (a:=1) hs hz
  have hv:v≤1000000000:=by
   rcases hR with h | ⟨v',_,h,_,h1,_⟩
   ·have:=congrArg Prod.fst h;simp only [Ye] at this;omega
   ·have:=congrArg Prod.fst h;simp only at this;omega
  rw [e1,show EZ text (1:Int)=_ from e2]
  simp only [Option.bind_some,cond_false,cond_true,Bool.and_self]
  cases bt text 0 == 1
  ·simp only [cond_false]
   cases bt text 0 == 3
   ·simp only [cond_false]
    rw [Zi (by simp only;omega)]
    exact IAS _
   ·simp only [cond_true]
    rw [Zi (by simp only;omega)]
    exact IAS _
  ·simp only [cond_true]
   rw [Zi (by simp only;omega)]
   exact IAS _
theorem SAs {text:ByteArray} {x:SRec} (hs:text.size≤140737488351232) (h:CV x=(text,true)):Xb text=some (x,true):=by
 have hne:∀ (k:Int) (s:ByteArray),(decide (ofBytes [k]++s=⟨#[]⟩))=false:=fun k s=>decide_eq_false fun h=>by
  have:=congrArg ByteArray.size h
  rw [ba_append_size,ofBytes_size] at this
  simp only [List.length_singleton] at this
  have h0:(⟨#[]⟩:ByteArray).size=0:=rfl
  omega
 have hd:∀ (k:Int) (s:ByteArray),decide ((0:Int)<((ofBytes [k]++s).size:Int))=true∧decide ((1:Int)≤((ofBytes [k]++s).size:Int))=true:=fun k s=>by
  rw [ba_append_size,ofBytes_size];simp only [List.length_singleton]
  exact ⟨decide_eq_true (by omega),decide_eq_true (by omega)⟩
 have hk:∀ (k:Int) (s:ByteArray),0≤k→k≤255→w64 (bt (ofBytes [k]++s) 0)=k:=fun k s h0 h1=>by
  rw [(Yn (k:=k) (s:=s) h0 h1).left.head.2 |> fun e=>(show bt (ofBytes [k]++s) 0=k from e),w64_id (by omega) (by omega)]
 rcases DAc h with ⟨s,rfl,hz,rfl⟩ | ⟨n,rfl,h0,h1,rfl⟩ | ⟨t,s,rfl,ht,rfl⟩ | ⟨n,rfl,h0,h1,rfl⟩
 ·have h':CV ⟨1,s,0,⟨(0:Int),(0:Int),false,false,false,false,(⟨#[]⟩:ByteArray),(0:Int)⟩⟩=_:=h
  simp only [Xb,Jm,hk 1 s (by omega) (by omega),hd,FAS,Zi (r:=⟨1,s,0,⟨(0:Int),(0:Int),false,false,false,false,(⟨#[]⟩:ByteArray),(0:Int)⟩⟩) (by simp only;omega),h',Option.bind_some,toList_inj,hne]
  simp [Ia]
 ·have hA:=Yn (k:=2) (s:=ofBytes (IK n)) (by omega) (by omega)
  rw [SN (Ze n h0)] at hA
  have e1:=C9 hs (by omega) (by omega) hA.right
  simp only [List.length_singleton,Nat.zero_add] at e1
  have e2:EZ (ofBytes [2]++ofBytes (IK n)) (1:Int)=_:=e1
  have h':CV ⟨2,⟨#[]⟩,n,⟨(0:Int),(0:Int),false,false,false,false,(⟨#[]⟩:ByteArray),(0:Int)⟩⟩=_:=h
  simp only [Xb,Jm,hk 2 _ (by omega) (by omega),hd,e2,Option.bind_some,Zi (r:=⟨2,⟨#[]⟩,n,⟨(0:Int),(0:Int),false,false,false,false,(⟨#[]⟩:ByteArray),(0:Int)⟩⟩) (by simp only;omega),h',toList_inj,hne]
  simp [Ia]
 ·have hsz:s.size≤140737488351232:=by rw [ba_append_size] at hs;omega
  have e1:=FAc hsz ht
  have h':CV ⟨3,⟨#[]⟩,0,t⟩=_:=h
  simp only [Xb,Jm,hk 3 s (by omega) (by omega),hd,FAS,e1,Option.bind_some,Zi (r:=⟨3,⟨#[]⟩,0,t⟩) (by simp only;omega),h',toList_inj,hne]
  simp [Ia]
 ·have hA:=Yn (k:=4) (s:=ofBytes (IK n)) (by omega) (by omega)
  rw [SN (Ze n (by omega))] at hA
  have e1:=C9 hs (by omega) (by omega) hA.right
  simp only [List.length_singleton,Nat.zero_add] at e1
  have e2:EZ (ofBytes [4]++ofBytes (IK n)) (1:Int)=_:=e1
  have h':CV ⟨4,⟨#[]⟩,n,⟨(0:Int),(0:Int),false,false,false,false,(⟨#[]⟩:ByteArray),(0:Int)⟩⟩=_:=h
  simp only [Xb,Jm,hk 4 _ (by omega) (by omega),hd,e2,Option.bind_some,Zi (r:=⟨4,⟨#[]⟩,n,⟨(0:Int),(0:Int),false,false,false,false,(⟨#[]⟩:ByteArray),(0:Int)⟩⟩) (by simp only;omega),h',toList_inj,hne]
  simp [Ia]
theorem TAs {text:ByteArray} (hs:text.size≤140737488351232):∃ r,Za text=some r∧Xb text=some r∧Jr text r:=by
 obtain ⟨r,hr,h⟩:=EAS hs
 obtain ⟨q,hq,h'⟩:=RAs hs
 rcases h with ⟨h1,h2⟩ | h
 ·have:=SAs hs h2
  refine ⟨r,hr,?_,.inl ⟨h1,h2⟩⟩
  rw [this];congr 1;exact Prod.ext rfl h1.symm
 ·rcases h' with ⟨h1,h2⟩ | h'
  ·have:=JAs hs h2
   rw [hr] at this
   injection this with this
   rw [h] at this
   exact Bool.noConfusion (congrArg Prod.snd this)
  ·exact ⟨r,hr,by rw [hq,h',h],.inr h⟩
noncomputable def BZ (t:ByteArray):SRec×Bool:=(Za t).getD (⟨0,⟨#[]⟩,0,⟨0,0,false,false,false,false,⟨#[]⟩,0⟩⟩,false)
theorem UAs {t:ByteArray} (h:t.size≤140737488351232):Za t=some (BZ t):=by
 obtain ⟨r,h1,_⟩:=EAS h
 rw [BZ,h1];rfl
theorem OAl {t:ByteArray} (h:t.size≤140737488351232):Xb t=some (BZ t):=by
 obtain ⟨r,h1,h2,_⟩:=TAs h
 rw [BZ,h1,h2];rfl
theorem VAs {t:ByteArray} (h:t.size≤140737488351232):Jr t (BZ t):=by
 obtain ⟨r,h1,h2⟩:=EAS h
 rw [BZ,h1];exact h2
noncomputable def MZ (k:ByteArray):Int→List ByteArray→List SRec×Int
 | _,[]=>([],0)
 | i,f::fs=>bif (AY k i f).2 && (BZ (AY k i f).1).2 then ((BZ (AY k i f).1).1::(MZ k (i+1) fs).1,((frameT f).1.size:Int)+(MZ k (i+1) fs).2) else ([],0)
noncomputable def HY (k file:ByteArray):List SRec×Int:=MZ k 1 (Mc file).1
theorem WAs {file:ByteArray} (hs:file.size≤140737488351232):∀ (j a:Nat),a≤file.size→(∀ f ∈ (WY j file a).1,f.size≤file.size)∧(WY j file a).1.length+a≤file.size∧(WY j file a).2≤file.size:=by
 intro j
 induction j with
 | zero=>intro a ha;exact ⟨fun f hf=>(by cases hf),by simpa [WY] using ha,ha⟩
 | succ j ih=>
  intro a ha
  rw [WY]
  rcases MAF hs ha with h | ⟨v,q,_,hq,_,_,_,h3,_,_,h⟩
  ·rw [h];exact ⟨fun f hf=>(by cases hf),by simpa using ha,ha⟩
  ·rw [h]
   obtain ⟨i1,i2,i3⟩:=ih (q+4+v.toNat) h3
   refine ⟨fun f hf=>?_,?_,i3⟩
   ·rcases List.mem_cons.1 hf with rfl | hf
    ·show (file.extract (q+4) (q+4+v.toNat)).size≤file.size
     rw [ByteArray.size_extract];omega
    ·exact i1 f hf
   ·show (_::(WY j file (q+4+v.toNat)).1).length+a≤file.size
    rw [List.length_cons];omega
theorem TAE {file:ByteArray}:(∀ f ∈ (Mc file).1,f.size≤20000)∧(Mc file).1.length≤20000∧0≤(Mc file).2∧(Mc file).2≤(file.size:Int):=by
 rw [Mc]
 by_cases h:(file.size:Int) > 20000
 ·rw [decide_eq_true h]
  exact ⟨fun f hf=>(by cases hf),(by decide:0≤20000),Int.le_refl 0,by show (0:Int)≤_;omega⟩
 ·rw [decide_eq_false h]
  obtain ⟨h1,h2,h3⟩:=WAs (file:=file) (by omega) (file.size+1) 0 (Nat.zero_le _)
  exact ⟨fun f hf=>by have:=h1 f hf;omega,by show (WY (file.size+1) file 0).1.length≤20000;omega,by show (0:Int)≤((WY (file.size+1) file 0).2:Int);omega,by show ((WY (file.size+1) file 0).2:Int)≤_;omega⟩
theorem XAs (k:ByteArray):∀ (fs:List ByteArray) (i:Int),(MZ k i fs).1.length≤fs.length:=by
 intro fs
 induction fs with
 | nil=>intro i;exact Nat.le_refl _
 | cons f fs ih=>
  intro i
  rw [MZ]
  cases (AY k i f).2 && (BZ (AY k i f).1).2
  ·exact Nat.zero_le _
  ·rw [cond_true,List.length_cons,List.length_cons];have:=ih (i+1);omega
theorem YAs {k file:ByteArray} (hk:k.size≤900000000) (hf:file.size≤140737488351232):U0 k file=some (HY k file):=by
 obtain ⟨u1,u2,_,_⟩:=TAE (file:=file)
 rw [U0,YAM,PAq hf,Option.bind_some,HY]
 generalize (Mc file).1=l at u1 u2
 have key:∀ (j i m:Nat) (e:Int) (out:List SRec),i+j=l.length→0≤e→e≤30000*i→out.length≤i→O0 (m+j+1) (.c0 k e (i:Int) out l)=some (out++(MZ k ((i:Int)+1) (l.drop i)).1,e+(MZ k ((i:Int)+1) (l.drop i)).2):=by
  intro j
  induction j with
  | zero=>
   intro i m e out h he he2 ho
   obtain rfl:i=l.length:=by omega
   rw [O0]
   simp only [RAC]
   rw [NM (by simp),List.drop_length,MZ,List.append_nil,Int.add_zero]
  | succ j ih=>
   intro i m e out h he he2 ho
   have hi:i<l.length:=by omega
   have hz:=u1 _ (List.getElem_mem hi)
   have ew:w64 ((i:Int)+1)=((i+1:Nat):Int):=by rw [w64_id (by omega) (by omega)];rfl
   have hoz:=YAQ k l[i] ((i+1:Nat):Int)
   have hfz:=QAZ (t:=l[i]) (by omega)
   rw [show m+(j+1)+1=(m+j+1)+1 by omega,O0]
   simp only [RAC,ew,Int.toNat_natCast,getD_at hi]
   rw [TB (by simp;omega),TB (by simp;omega),AAs hk (by omega),Option.bind_some,UAs (by omega),Option.bind_some,drop_at hi,MZ,show ((i:Int)+1)=((i+1:Nat):Int) from rfl]
   cases (AY k ((i+1:Nat):Int) l[i]).2
   ·rw [Bool.false_and,cond_false,List.append_nil,Int.add_zero];rfl
   ·rw [NM (by rfl),Bool.true_and]
    cases (BZ (AY k ((i+1:Nat):Int) l[i]).1).2
    ·rw [cond_false,List.append_nil,Int.add_zero];rfl
    ·have h2:=ih (i+1) m (e+((frameT l[i]).1.size:Int)) (out++[(BZ (AY k ((i+1:Nat):Int) l[i]).1).1]) (by omega) (by omega) (by omega) (by simp;omega)
     simp only [Bool.not_true,cond_false,cond_true]
     rw [TB (by simp;omega),TB (by simp;omega),LAb (by omega),Option.bind_some,w64_id (by omega) (by omega),h2,List.append_assoc,Int.add_assoc]
     rfl
 obtain ⟨m,hm⟩:∃ m,gas=m+l.length+1:=⟨gas - (l.length+1),by have:=gas_lt (n:=l.length+1) (by omega);omega⟩
 have h0:=key l.length 0 m 0 [] (by omega) (by omega) (by omega) (Nat.le_refl _)
 rw [List.nil_append,Int.zero_add,List.drop_zero] at h0
 rw [hm]
 exact h0
theorem GAc {b:SBook} (h:b.fThings.length≤2932031007317):Ae b=some b:=by
 rw [Ae,ZAM,TB (by simp;omega)];rfl
def rise (last:Int):Int→List SThing→Bool
 | _,[]=>true
 | p,x::xs=>OY x && (!decide (x.fId > last) && (!decide (p≥x.fId) && rise last x.fId xs))
def Zb (l:List SThing):Nat→Int
 | 0=>0
 | i+1=>((l[i]?).map (·.fId)).getD 0
theorem ZAQ {l:List SThing} {i:Nat} (hi:i<l.length):Zb l (i+1)=l[i].fId:=by simp [Zb,hi]
theorem SAZ {l:List SThing} {last:Int} {i:Nat} (hi:i<l.length):rise last (Zb l i) (l.drop i)=(OY l[i] && (!decide (l[i].fId > last) && (!decide (Zb l i≥l[i].fId) && rise last (Zb l (i+1)) (l.drop (i+1))))):=by
 rw [drop_at hi,rise,ZAQ hi]
def IZ (b:SBook):Bool:=(b.fWord.size:Int) == 32 && ((b.fChain.size:Int) == 32 && (FN b.fTries 0 3 && (decide ((b.fThings.length:Int)≤8) && (FN b.fLast 0 1000 && (FN b.fCount 0 10000 && rise b.fLast 0 b.fThings)))))
theorem ZAs {b:SBook} (hb:b.fThings.length≤140737488351232):∀ m i,i≤b.fThings.length→b.fThings.length - i<m→Ll m (.c0 i b)=some (rise b.fLast (Zb b.fThings i) (b.fThings.drop i)):=fun m i h1 h2=>
 loopN (A:=Unit) (n:=b.fThings.length) (Lp:=Ll) (st:=fun i _=>.c0 i b) (Inv:=fun _ _=>True) (out:=fun i _=>some (rise b.fLast (Zb b.fThings i) (b.fThings.drop i)))
  (fun m _ _=>by
   simp only [Ll,UAC]
   rw [show decide ((b.fThings.length:Int)<(b.fThings.length:Int))=false from decide_eq_false (by omega),List.drop_of_length_le (Nat.le_refl _)]
   rfl)
  (fun m i _ hi _=>by
   have hw:w64 ((i:Int)+1)=((i+1:Nat):Int):=by rw [w64_id (by omega) (by omega)];rfl
   simp only [SAZ hi]
   simp only [Ll,UAC,Int.toNat_natCast,getD_at hi,VAb,Option.bind_some,hw]
   rw [show decide ((i:Int)<(b.fThings.length:Int))=true from decide_eq_true (by omega),show decide ((0:Int)≤(i:Int))=true from decide_eq_true (by omega)]
   simp only [Bool.and_self,cond_true]
   cases h1:OY b.fThings[i]
   ·exact .inl rfl
   ·cases h2:decide (b.fThings[i].fId > b.fLast)
    ·by_cases h0:i=0
     ·subst h0
      refine .inr ⟨(),rfl,trivial,?_⟩
      rw [show decide (Zb b.fThings 0≥b.fThings[0].fId)=false from decide_eq_false (by have:=(Ag h1).2.2.1;simp only [Zb];omega)]
      rfl
     ·obtain ⟨j,rfl⟩:∃ j,i=j+1:=⟨i - 1,by omega⟩
      have hj:w64 (((j+1:Nat):Int) - 1)=(j:Int):=by rw [w64_id (by omega) (by omega)];omega
      have hjl:j<b.fThings.length:=by omega
      rw [ZAQ hjl]
      simp only [hj,Int.toNat_natCast,getD_at hjl,Bool.not_true,Bool.not_false,cond_false,Bool.true_and]
      rw [show decide (((j+1:Nat):Int) > 0)=true from decide_eq_true (by omega),show decide ((0:Int)≤(j:Int))=true from decide_eq_true (by omega),show decide ((j:Int)<(b.fThings.length:Int))=true from decide_eq_true (by omega)]
      simp only [Bool.and_self,cond_true]
      cases h3:decide (b.fThings[j].fId≥b.fThings[j+1].fId)
      ·exact .inr ⟨(),rfl,trivial,rfl⟩
      ·exact .inl rfl
    ·exact .inl rfl) m i () h1 h2 trivial
theorem Qm {b:SBook} (hb:b.fThings.length≤140737488351232):Ce b=some (IZ b):=by
 have h0:Ll gas (.c0 0 b)=some (rise b.fLast 0 b.fThings):=ZAs hb gas 0 (Nat.zero_le _) (gas_lt (by omega))
 simp only [Ce,AAN,Eb,Option.bind_some,IZ,bne,h0]
 rw [show decide ((b.fThings.length:Int)≤8) = !decide ((b.fThings.length:Int) > 8) by rw [←decide_not];simp]
 cases (b.fWord.size:Int) == 32 <;> cases (b.fChain.size:Int) == 32 <;> cases FN b.fTries 0 3 <;> cases decide ((b.fThings.length:Int) > 8) <;> cases FN b.fLast 0 1000 <;> cases FN b.fCount 0 10000 <;> rfl
def UY (xs:List SThing) (t:Int):Option SThing:=xs.find? fun x=>x.fId == t
def En:SThing:=⟨0,0,false,false,false,false,⟨#[]⟩,0⟩
theorem JAS {b:SBook} {t:Int} (h:b.fThings.length≤140737488351232):Uf b t=some (match UY b.fThings t with | some x=>(x,true) | none=>(En,false)):=by
 have key:∀ m i,i≤b.fThings.length→b.fThings.length - i<m→Jp m (.c0 t i b En)=some (match UY (b.fThings.drop i) t with | some x=>(x,true) | none=>(En,false)):=fun m i h1 h2=>
  loopN (A:=Unit) (n:=b.fThings.length) (Lp:=Jp) (st:=fun i _=>.c0 t i b En) (Inv:=fun _ _=>True) (out:=fun i _=>some (match UY (b.fThings.drop i) t with | some x=>(x,true) | none=>(En,false)))
   (fun m _ _=>by simp [Jp,WAC,UY,En])
   (fun m i _ hi _=>by
    have hw:w64 ((i:Int)+1)=((i+1:Nat):Int):=by rw [w64_id (by omega) (by omega)];rfl
    simp only [Jp,WAC,Int.toNat_natCast,getD_at hi,hw,drop_at hi,UY,List.find?_cons]
    cases hq:b.fThings[i].fId == t
    ·exact .inr ⟨(),by simp [hi],trivial,by simp⟩
    ·exact .inl (by simp [hi])) m i () h1 h2 trivial
 have h0:=key gas 0 (Nat.zero_le _) (gas_lt (by omega))
 exact h0
theorem VAE {r:SRec} (h:(CV r).2=true):(r.fKind=1∧r.fText.size=32)∨(r.fKind=2∧0≤r.fNum∧r.fNum≤3)∨(r.fKind=3∧OY r.fThing=true)∨(r.fKind=4∧1≤r.fNum∧r.fNum≤1000):=by
 rw [CV] at h
 by_cases h1:r.fKind=1
 ·rw [show (r.fKind == 1)=true by rw [beq_iff_eq];exact h1,cond_true] at h
  cases hc:((r.fText.size:Int) == 32 && r.fNum == 0 && SY r.fThing)
  ·rw [hc] at h;cases h
  ·rw [Bool.and_eq_true,Bool.and_eq_true,beq_iff_eq] at hc
   exact .inl ⟨h1,by omega⟩
 rw [show (r.fKind == 1)=false by rw [beq_eq_false_iff_ne];exact h1,cond_false] at h
 by_cases h2:r.fKind=2
 ·rw [show (r.fKind == 2)=true by rw [beq_iff_eq];exact h2,cond_true] at h
  cases hc:(QY r.fText && SY r.fThing && FN r.fNum 0 3)
  ·rw [hc] at h;cases h
  ·rw [Bool.and_eq_true,DY] at hc
   exact .inr (.inl ⟨h2,hc.2⟩)
 rw [show (r.fKind == 2)=false by rw [beq_eq_false_iff_ne];exact h2,cond_false] at h
 by_cases h3:r.fKind=3
 ·rw [show (r.fKind == 3)=true by rw [beq_iff_eq];exact h3,cond_true] at h
  cases hc:((NY r.fThing).2 && QY r.fText && r.fNum == 0)
  ·rw [hc] at h;cases h
  ·rw [Bool.and_eq_true,Bool.and_eq_true] at hc
   refine .inr (.inr (.inl ⟨h3,?_⟩))
   have h4:=hc.1.1
   rw [NY] at h4
   cases ho:OY r.fThing
   ·rw [ho] at h4;cases h4
   ·rfl
 rw [show (r.fKind == 3)=false by rw [beq_eq_false_iff_ne];exact h3,cond_false] at h
 by_cases h4:r.fKind=4
 ·rw [show (r.fKind == 4)=true by rw [beq_iff_eq];exact h4,cond_true] at h
  cases hc:(QY r.fText && SY r.fThing && FN r.fNum 1 1000)
  ·rw [hc] at h;cases h
  ·rw [Bool.and_eq_true,DY] at hc
   exact .inr (.inr (.inr ⟨h4,hc.2⟩))
 rw [show (r.fKind == 4)=false by rw [beq_eq_false_iff_ne];exact h4] at h
 cases h
theorem VAZ (r:SRec):(CV r).1.size≤300:=by
 rw [CV]
 have one:∀ n:Int,(ofBytes [n]).size=1:=fun n=>by rw [ofBytes_size];rfl
 cases hk1:(r.fKind == 1)
 ·rw [cond_false]
  cases hk2:(r.fKind == 2)
  ·rw [cond_false]
   cases hk3:(r.fKind == 3)
   ·rw [cond_false]
    cases hk4:(r.fKind == 4)
    ·exact Nat.zero_le _
    ·rw [cond_true]
     cases hc:(QY r.fText && SY r.fThing && FN r.fNum 1 1000)
     ·exact Nat.zero_le _
     ·rw [Bool.and_eq_true,DY] at hc
      have:=Aa (n:=r.fNum) (by omega)
      rw [cond_true,ByteArray.size_append,one,ofBytes_size];omega
   ·rw [cond_true]
    cases hc:((NY r.fThing).2 && QY r.fText && r.fNum == 0)
    ·exact Nat.zero_le _
    ·rw [cond_true,ByteArray.size_append,one,NY]
     cases ho:OY r.fThing
     ·exact Nat.le_of_ble_eq_true rfl
     ·have:=WAb ho
      show 1+(Og r.fThing).size≤300;omega
  ·rw [cond_true]
   cases hc:(QY r.fText && SY r.fThing && FN r.fNum 0 3)
   ·exact Nat.zero_le _
   ·rw [Bool.and_eq_true,DY] at hc
    have:=Aa (n:=r.fNum) (by omega)
    rw [cond_true,ByteArray.size_append,one,ofBytes_size];omega
 ·rw [cond_true]
  cases hc:((r.fText.size:Int) == 32 && r.fNum == 0 && SY r.fThing)
  ·exact Nat.zero_le _
  ·rw [Bool.and_eq_true,Bool.and_eq_true,beq_iff_eq] at hc
   rw [cond_true,ByteArray.size_append,one];omega
def RZ:List SThing→Int→Nat→Option Nat
 | [],_,_=>none
 | x::xs,t,i=>if x.fId == t then some i else RZ xs t (i+1)
theorem ZAZ (t:Int):∀ (xs:List SThing) (i:Nat),match RZ xs t i with | some j=>i≤j∧j<i+xs.length∧UY xs t=xs[j - i]? | none=>UY xs t=none:=by
 intro xs
 induction xs with
 | nil=>intro i;rfl
 | cons x xs ih=>
  intro i
  simp only [RZ,UY,List.find?_cons]
  cases hq:x.fId == t
  ·have:=ih (i+1)
   simp only [Bool.false_eq_true,if_false]
   split at this
   ·rename_i j hj
    obtain ⟨h1,h2,h3⟩:=this
    refine ⟨by omega,by simp;omega,?_⟩
    rw [show j - i=(j - (i+1))+1 by omega,List.getElem?_cons_succ]
    exact h3
   ·exact this
  ·simp
theorem AAR {b:SBook} {t:Int} (h:b.fThings.length≤140737488351232):Gi b t=some (match RZ b.fThings t 0 with | some j=>(j:Int) | none=> -1):=by
 have key:∀ m i,i≤b.fThings.length→b.fThings.length - i<m→Bo m (.c0 t b.fThings b.fThings.length i)=some (match RZ (b.fThings.drop i) t i with | some j=>(j:Int) | none=> -1):=fun m i h1 h2=>
  loopN (A:=Unit) (n:=b.fThings.length) (Lp:=Bo) (st:=fun i _=>.c0 t b.fThings b.fThings.length i) (Inv:=fun _ _=>True) (out:=fun i _=>some (match RZ (b.fThings.drop i) t i with | some j=>(j:Int) | none=> -1))
   (fun m _ _=>by simp [Bo,H9,RZ])
   (fun m i _ hi _=>by
    have hw:w64 ((i:Int)+1)=((i+1:Nat):Int):=by rw [w64_id (by omega) (by omega)];rfl
    simp only [Bo,H9,Int.toNat_natCast,getD_at hi,hw,drop_at hi,RZ]
    cases hq:b.fThings[i].fId == t
    ·exact .inr ⟨(),by simp [hi],trivial,by simp⟩
    ·exact .inl (by simp [hi])) m i () h1 h2 trivial
 have h0:=key gas 0 (Nat.zero_le _) (gas_lt (by omega))
 exact h0
theorem Qe {b:SBook}:IZ b=true↔b.fWord.size=32∧b.fChain.size=32∧(0≤b.fTries∧b.fTries≤3)∧b.fThings.length≤8∧(0≤b.fLast∧b.fLast≤1000)∧(0≤b.fCount∧b.fCount≤10000)∧rise b.fLast 0 b.fThings=true:=by
 simp only [IZ,Bool.and_eq_true,beq_iff_eq,DY,decide_eq_true_eq]
 exact ⟨fun ⟨h1,h2,h3,h4,h5,h6,h7⟩=>⟨by omega,by omega,h3,by omega,h5,h6,h7⟩,fun ⟨h1,h2,h3,h4,h5,h6,h7⟩=>⟨by omega,by omega,h3,by omega,h5,h6,h7⟩⟩
theorem Bd {last p:Int} {x:SThing} {xs:List SThing}:rise last p (x::xs)=true↔OY x=true∧x.fId≤last∧p<x.fId∧rise last x.fId xs=true:=by
 simp only [rise,Bool.and_eq_true,Bool.not_eq_true',decide_eq_false_iff_not]
 exact ⟨fun ⟨h1,h2,h3,h4⟩=>⟨h1,by omega,by omega,h4⟩,fun ⟨h1,h2,h3,h4⟩=>⟨h1,by omega,by omega,h4⟩⟩
theorem TAF {last:Int}:∀ {xs:List SThing} {p:Int},rise last p xs=true→∀ x ∈ xs,p<x.fId∧x.fId≤last∧OY x=true
 | [],_,_,x,hx=>by cases hx
 | y::ys,p,h,x,hx=>by
  obtain ⟨h1,h2,h3,h4⟩:=Bd.1 h
  rcases List.mem_cons.1 hx with rfl | hx
  ·exact ⟨h3,h2,h1⟩
  ·have:=TAF h4 x hx
   exact ⟨by omega,this.2.1,this.2.2⟩
theorem KAS {last last2:Int} (hl:last≤last2):∀ {xs:List SThing} {p p2:Int},p2≤p→rise last p xs=true→rise last2 p2 xs=true
 | [],_,_,_,_=>rfl
 | y::ys,p,p2,hp,h=>by
  obtain ⟨h1,h2,h3,h4⟩:=Bd.1 h
  exact Bd.2 ⟨h1,by omega,by omega,KAS hl (Int.le_refl _) h4⟩
def Ef (x:SThing) (ts:List SThing):List SThing:=ts.filter fun t=>decide (t.fId<x.fId)
def Zn (x:SThing) (ts:List SThing):List SThing:=ts.filter fun t=>decide (t.fId > x.fId)
def putAt (ts:List SThing) (x:SThing):List SThing:=Ef x ts++x::Zn x ts
def without (ts:List SThing) (id:Int):List SThing:=ts.filter fun t=>t.fId != id
theorem AAt {last:Int} {x:SThing}:∀ {xs:List SThing} {p:Int},x.fId≤p→rise last p xs=true→Ef x xs=[]∧Zn x xs=xs∧without xs x.fId=xs:=by
 intro xs p hp h
 have ha:=TAF h
 refine ⟨List.filter_eq_nil_iff.2 fun t ht=>?_,List.filter_eq_self.2 fun t ht=>?_,List.filter_eq_self.2 fun t ht=>?_⟩
 ·have:=ha t ht;rw [decide_eq_true_eq];omega
 ·have:=ha t ht;rw [decide_eq_true_eq];omega
 ·have:=ha t ht;rw [bne_iff_ne];omega
theorem HAc {id:Int}:∀ {xs:List SThing} {i j:Nat},RZ xs id i=some j→i≤j∧∃ x ∈ xs,x.fId=id:=by
 intro xs
 induction xs with
 | nil=>intro i j h;cases h
 | cons y ys ih=>
  intro i j h
  rw [RZ] at h
  split at h
  ·rename_i hy;cases h;exact ⟨Nat.le_refl _,y,List.mem_cons_self ..,beq_iff_eq.1 hy⟩
  ·obtain ⟨h1,x,h2,h3⟩:=ih h;exact ⟨by omega,x,List.mem_cons_of_mem _ h2,h3⟩
theorem DAR {last:Int} {x:SThing}:∀ {xs:List SThing} {p:Int} {i j:Nat},rise last p xs=true→RZ xs x.fId i=some j→xs.set (j - i) x=putAt xs x∧(xs.take (j - i)++xs.drop (j - i+1))=without xs x.fId:=by
 intro xs
 induction xs with
 | nil=>intro p i j _ h;cases h
 | cons y ys ih=>
  intro p i j hr h
  obtain ⟨h1,h2,h3,h4⟩:=Bd.1 hr
  rw [RZ] at h
  split at h
  ·rename_i hy
   have hy:=beq_iff_eq.1 hy
   cases h
   obtain ⟨f1,f2,f3⟩:=AAt (x:=x) (by omega) h4
   rw [Nat.sub_self]
   simp only [putAt,Ef,Zn,without,List.filter_cons] at f1 f2 f3 ⊢
   rw [decide_eq_false (by omega),decide_eq_false (by omega),show (y.fId != x.fId)=false by rw [bne_eq_false_iff_eq];exact hy]
   simp [f1,f2,f3]
  ·rename_i hy
   obtain ⟨h5,z,h6,h7⟩:=HAc h
   have h8:=TAF h4 z h6
   obtain ⟨i1,i2⟩:=ih h4 h
   have e:j - i=(j - (i+1))+1:=by omega
   rw [e,List.set_cons_succ,i1,List.take_succ_cons,List.drop_succ_cons,List.cons_append,i2]
   simp only [putAt,Ef,Zn,without,List.filter_cons]
   rw [decide_eq_true (by omega),decide_eq_false (by omega),show (y.fId != x.fId)=true by rw [bne_iff_ne];omega]
   simp
theorem BAt {last:Int} {x:SThing} {xs:List SThing} {p:Int} (h:rise last p xs=true) (hx:last<x.fId):putAt xs x=xs++[x]∧UY xs x.fId=none:=by
 have ha:=TAF h
 constructor
 ·rw [putAt,Ef,Zn,List.filter_eq_self.2 fun t ht=>by have:=ha t ht;rw [decide_eq_true_eq];omega,List.filter_eq_nil_iff.2 fun t ht=>by have:=ha t ht;rw [decide_eq_true_eq];omega]
 ·rw [UY,List.find?_eq_none]
  intro t ht
  have:=ha t ht
  rw [beq_iff_eq];omega
theorem CAt {last:Int} {x:SThing} (hx:OY x=true) (hl:last<x.fId):∀ {xs:List SThing} {p:Int},p<x.fId→rise last p xs=true→rise x.fId p (xs++[x])=true:=by
 intro xs
 induction xs with
 | nil=>intro p hp _;exact Bd.2 ⟨hx,Int.le_refl _,hp,rfl⟩
 | cons y ys ih=>
  intro p hp h
  obtain ⟨h1,h2,h3,h4⟩:=Bd.1 h
  exact Bd.2 ⟨h1,by omega,h3,ih (by omega) h4⟩
theorem DAt {last:Int} {x:SThing} (hx:OY x=true):∀ {xs:List SThing} {p:Int} {i j:Nat},rise last p xs=true→RZ xs x.fId i=some j→rise last p (xs.set (j - i) x)=true:=by
 intro xs
 induction xs with
 | nil=>intro p i j _ h;cases h
 | cons y ys ih=>
  intro p i j hr h
  obtain ⟨h1,h2,h3,h4⟩:=Bd.1 hr
  rw [RZ] at h
  split at h
  ·rename_i hy
   have hy:=beq_iff_eq.1 hy
   cases h
   rw [Nat.sub_self,List.set_cons_zero]
   exact Bd.2 ⟨hx,by omega,by omega,KAS (Int.le_refl _) (by omega) h4⟩
  ·have h5:=(HAc h).1
   have e:j - i=(j - (i+1))+1:=by omega
   rw [e,List.set_cons_succ]
   exact Bd.2 ⟨h1,h2,h3,ih h4 h⟩
theorem EAt {last:Int} (id:Int):∀ {xs:List SThing} {p:Int},rise last p xs=true→rise last p (without xs id)=true:=by
 intro xs
 induction xs with
 | nil=>intro p _;rfl
 | cons y ys ih=>
  intro p h
  obtain ⟨h1,h2,h3,h4⟩:=Bd.1 h
  rw [without,List.filter_cons]
  split
  ·exact Bd.2 ⟨h1,h2,h3,ih h4⟩
  ·exact KAS (Int.le_refl _) (by omega) (ih h4)
def grown (x y:SThing):Bool:=y.fKind == x.fKind && ((bs y.fValue == bs x.fValue) && (y.fSigns == x.fSigns && (y.fWraps == x.fWraps && (decide (x.fNext≤y.fNext) && ((y.fHidden || !x.fHidden) && (y.fFixed || !x.fFixed))))))
def Fq:SBook:=⟨⟨#[]⟩,0,[],0,⟨#[]⟩,0⟩
def Om (b:SBook) (x:SThing):Option (List SThing×Int):=match UY b.fThings x.fId with
 | some old=>bif grown old x then some (putAt b.fThings x,b.fLast) else none
 | none=>bif x.fId != b.fLast+1 || decide ((b.fThings.length:Int)≥8) then none else some (b.fThings++[x],x.fId)
def TY (b:SBook) (r:SRec):SBook×Bool:=
 bif !(IZ b) || (!(CV r).2 || decide (b.fCount≥10000)) then (Fq,false)
 else bif r.fKind == 1 then (⟨r.fText,0,b.fThings,b.fLast,OZ (b.fChain++(CV r).1),b.fCount+1⟩,true)
 else bif r.fKind == 2 then (⟨b.fWord,r.fNum,b.fThings,b.fLast,OZ (b.fChain++(CV r).1),b.fCount+1⟩,true)
 else bif r.fKind == 3 then (match Om b r.fThing with
  | some p=>(⟨b.fWord,b.fTries,p.1,p.2,OZ (b.fChain++(CV r).1),b.fCount+1⟩,true)
  | none=>(Fq,false))
 else (match UY b.fThings r.fNum with
  | some _=>(⟨b.fWord,b.fTries,without b.fThings r.fNum,b.fLast,OZ (b.fChain++(CV r).1),b.fCount+1⟩,true)
  | none=>(Fq,false))
theorem CAR {xs:List SThing} {id:Int}:(∃ x j,UY xs id=some x∧RZ xs id 0=some j∧j<xs.length∧xs[j]?=some x∧x.fId=id)∨(UY xs id=none∧RZ xs id 0=none):=by
 have h:=ZAZ id xs 0
 cases hp:RZ xs id 0 with
 | none=>rw [hp] at h;exact .inr ⟨h,rfl⟩
 | some j=>
  rw [hp] at h
  obtain ⟨_,h2,h3⟩:=h
  rw [Nat.sub_zero] at h3
  rw [Nat.zero_add] at h2
  refine .inl ⟨xs[j],j,?_,rfl,h2,List.getElem?_eq_getElem h2,?_⟩
  ·rw [h3,List.getElem?_eq_getElem h2]
  ·have h4:UY xs id=some xs[j]:=by rw [h3,List.getElem?_eq_getElem h2]
   have:=List.find?_some h4
   exact beq_iff_eq.1 this
theorem LAS {b:SBook} {r:SRec} (h:(TY b r).2=true):IZ b=true∧(CV r).2=true∧b.fCount<10000∧IZ (TY b r).1=true∧(TY b r).1.fCount=b.fCount+1∧(TY b r).1.fChain=OZ (b.fChain++(CV r).1):=by
 rw [TY] at h ⊢
 cases h1:IZ b
 ·rw [h1] at h;cases h
 cases h2:(CV r).2
 ·rw [h1,h2] at h;cases h
 by_cases h3:b.fCount≥10000
 ·rw [h1,h2,decide_eq_true h3] at h;cases h
 rw [h1,h2,decide_eq_false h3] at h
 rw [decide_eq_false h3]
 simp only [Bool.not_true,Bool.or_false,cond_false] at h ⊢
 obtain ⟨b1,b2,b3,b4,b5,b6,b7⟩:=Qe.1 h1
 refine ⟨trivial,trivial,by omega,?_⟩
 have hd:∀ s,(OZ s).size=32:=Zh
 rcases VAE h2 with ⟨hk,hz⟩ | ⟨hk,hz⟩ | ⟨hk,hz⟩ | ⟨hk,hz⟩
 ·rw [hk]
  exact ⟨Qe.2 ⟨hz,hd _,(by decide:(0:Int)≤0∧(0:Int)≤3),b4,b5,by show 0≤b.fCount+1∧b.fCount+1≤10000;omega,b7⟩,rfl,rfl⟩
 ·rw [hk]
  exact ⟨Qe.2 ⟨b1,hd _,hz,b4,b5,by show 0≤b.fCount+1∧b.fCount+1≤10000;omega,b7⟩,rfl,rfl⟩
 ·rw [hk] at h ⊢
  simp only [show ((3:Int) == 1)=false from rfl,show ((3:Int) == 2)=false from rfl,show ((3:Int) == 3)=true from rfl,cond_true,cond_false] at h ⊢
  rw [Om] at h ⊢
  rcases CAR (xs:=b.fThings) (id:=r.fThing.fId) with ⟨x,j,t1,t2,t3,t4,t5⟩ | ⟨t1,t2⟩
  ·rw [t1] at h ⊢
   simp only at h ⊢
   cases hg:grown x r.fThing
   ·rw [hg] at h;cases h
   ·have e:=(DAR b7 t2).1
    rw [Nat.sub_zero] at e
    have hrs:=DAt hz b7 t2
    rw [Nat.sub_zero,e] at hrs
    exact ⟨Qe.2 ⟨b1,hd _,b3,by show (putAt b.fThings r.fThing).length≤8;rw [←e,List.length_set];exact b4,b5,by show 0≤b.fCount+1∧b.fCount+1≤10000;omega,hrs⟩,rfl,rfl⟩
  ·rw [t1] at h ⊢
   simp only at h ⊢
   cases hg:(r.fThing.fId != b.fLast+1 || decide ((b.fThings.length:Int)≥8))
   ·rw [Bool.or_eq_false_iff,bne_eq_false_iff_eq,decide_eq_false_iff_not] at hg
    have hid:r.fThing.fId≤1000:=by
     have:=hz
     simp only [OY,Bool.and_eq_true,DY] at this
     omega
    exact ⟨Qe.2 ⟨b1,hd _,b3,by show (b.fThings++[r.fThing]).length≤8;rw [List.length_append,List.length_singleton];omega,by show 0≤r.fThing.fId∧r.fThing.fId≤1000;omega,by show 0≤b.fCount+1∧b.fCount+1≤10000;omega,CAt hz (by omega) (by omega) b7⟩,rfl,rfl⟩
   ·rw [hg] at h;cases h
 ·rw [hk] at h ⊢
  simp only [show ((4:Int) == 1)=false from rfl,show ((4:Int) == 2)=false from rfl,show ((4:Int) == 3)=false from rfl,cond_false] at h ⊢
  cases ht:UY b.fThings r.fNum with
  | none=>rw [ht] at h;cases h
  | some x=>exact ⟨Qe.2 ⟨b1,hd _,b3,by show (without b.fThings r.fNum).length≤8;exact Nat.le_trans (List.length_filter_le ..) b4,b5,by show 0≤b.fCount+1∧b.fCount+1≤10000;omega,EAt _ b7⟩,rfl,rfl⟩
theorem FAt (x y:SThing):Nl x y=some (grown x y):=by
 rw [Nl,BAN,grown,Ym,show (bs x.fValue == bs y.fValue)=(bs y.fValue == bs x.fValue) by rw [Bool.eq_iff_iff,beq_iff_eq,beq_iff_eq];exact ⟨Eq.symm,Eq.symm⟩,
  show (x.fKind == y.fKind)=(y.fKind == x.fKind) by rw [Bool.eq_iff_iff,beq_iff_eq,beq_iff_eq];exact ⟨Eq.symm,Eq.symm⟩]
 cases (y.fKind == x.fKind) <;> cases (bs y.fValue == bs x.fValue) <;> cases y.fSigns <;> cases x.fSigns <;> cases y.fWraps <;> cases x.fWraps <;> cases decide (x.fNext≤y.fNext) <;> cases y.fHidden <;> cases x.fHidden <;> cases y.fFixed <;> cases x.fFixed <;> rfl
theorem MAS {f:SThing→Bool} {l:List SThing} {i:Nat} (h:i<l.length):(l.take (i+1)).filter f=(l.take i).filter f++(bif f l[i] then [l[i]] else []):=by
 rw [take_at h,List.filter_append]
 congr 1
theorem IAc {l:List SThing} {x:SThing} (hl:l.length≤1000000000):Ol l x=some (putAt l x):=by
 have k1:∀ (j i m:Nat),i+j=l.length→Lh (m+j) (.c1 l (i:Int) x (Ef x l++[x]++(l.take i).filter (fun t=>decide (t.fId > x.fId))))=Lh m (.c1 l (l.length:Int) x (Ef x l++[x]++Zn x l)):=by
  intro j
  induction j with
  | zero=>(intro i m h;obtain rfl:i=l.length:=by omega);rw [List.take_length];rfl
  | succ j ih=>
   intro i m h
   have hi:i<l.length:=by omega
   have e:w64 ((i:Int)+1)=((i+1:Nat):Int):=by rw [w64_id (by omega) (by omega)];rfl
   have h2:=ih (i+1) m (by omega)
   rw [MAS hi] at h2
   have hf1:(Ef x l).length≤l.length:=List.length_filter_le ..
   have hf2:((l.take i).filter (fun t=>decide (t.fId > x.fId))).length≤i:=Nat.le_trans (List.length_filter_le ..) (by simp;omega)
   rw [show m+(j+1)=(m+j)+1 by omega,Lh]
   simp only [Np,e,Int.toNat_natCast,getD_at hi]
   rw [TB (by simp;omega),TB (by simp;omega)]
   by_cases h3:l[i].fId > x.fId
   ·rw [decide_eq_true h3] at h2 ⊢
    rw [cond_true,TB (by simp;omega),TB (by simp only [List.length_append,List.length_singleton,decide_eq_true_eq];omega),←h2]
    simp
   ·rw [decide_eq_false h3] at h2 ⊢
    rw [cond_false,←h2]
    simp
 have k0:∀ (j i m:Nat),i+j=l.length→Lh (m+1+l.length+1+j) (.c0 l (i:Int) x ((l.take i).filter (fun t=>decide (t.fId<x.fId))))=some (putAt l x):=by
  intro j
  induction j with
  | zero=>
   intro i m h
   obtain rfl:i=l.length:=by omega
   have hf1:(Ef x l).length≤l.length:=List.length_filter_le ..
   rw [List.take_length,show l.filter (fun t=>decide (t.fId<x.fId))=Ef x l from rfl,Nat.add_zero,Lh]
   simp only [Np]
   rw [NM (by simp),TB (by simp;omega)]
   have h2:=k1 l.length 0 (m+1) (by omega)
   rw [List.take_zero,List.filter_nil,List.append_nil,show ((0:Nat):Int)=0 from rfl] at h2
   rw [h2,Lh]
   simp only [Np]
   rw [NM (by simp),putAt,List.append_assoc];rfl
  | succ j ih=>
   intro i m h
   have hi:i<l.length:=by omega
   have e:w64 ((i:Int)+1)=((i+1:Nat):Int):=by rw [w64_id (by omega) (by omega)];rfl
   have h2:=ih (i+1) m (by omega)
   rw [MAS hi] at h2
   have hf2:((l.take i).filter (fun t=>decide (t.fId<x.fId))).length≤i:=Nat.le_trans (List.length_filter_le ..) (by simp;omega)
   rw [show m+1+l.length+1+(j+1)=(m+1+l.length+1+j)+1 by omega,Lh]
   simp only [Np,e,Int.toNat_natCast,getD_at hi]
   rw [TB (by simp;omega),TB (by simp;omega)]
   by_cases h3:l[i].fId<x.fId
   ·rw [decide_eq_true h3] at h2 ⊢
    rw [cond_true,TB (by simp;omega),TB (by simp only [decide_eq_true_eq];omega),←h2]
    simp
   ·rw [decide_eq_false h3] at h2 ⊢
    rw [cond_false,←h2]
    simp
 obtain ⟨m,hm⟩:∃ m,gas=m+1+l.length+1+l.length:=⟨gas - (2*l.length+2),by have:=gas_lt (n:=2*l.length+2) (by omega);omega⟩
 rw [Ol,DAN,hm]
 have h:=k0 l.length 0 m (by omega)
 rw [List.take_zero,List.filter_nil] at h
 exact h
theorem GAt {b:SBook} {r:SRec} (hb:b.fThings.length≤140737488351232):Ql b r=some (TY b r):=by
 have hok:=@LAS b r
 rw [Ql,EAN,Ir,Option.bind_some,Qm hb,Option.bind_some]
 rw [TY] at hok ⊢
 cases h1:IZ b
 ·rfl
 cases h2:(CV r).2
 ·rfl
 obtain ⟨b1,b2,b3,b4,b5,b6,b7⟩:=Qe.1 h1
 by_cases h3:b.fCount≥10000
 ·have h3':(b.fCount == 10000)=true:=by rw [beq_iff_eq];omega
  simp only [decide_eq_true h3,h3',Bool.not_true,Bool.or_true,Bool.false_or,cond_false,cond_true]
  rfl
 have hz:=VAZ r
 have hw:w64 (b.fCount+1)=b.fCount+1:=w64_id (by omega) (by omega)
 have hdig:=V8 (s:=b.fChain++(CV r).1) (by rw [ByteArray.size_append];omega)
 have hsz:decide (b.fChain.size+(CV r).1.size≤9223372036854775807)=true:=by rw [decide_eq_true_eq];omega
 have h3':(b.fCount == 10000)=false:=by rw [beq_eq_false_iff_ne];omega
 rw [h1,h2,decide_eq_false h3] at hok
 simp only [Bool.not_true,Bool.or_self,cond_false] at hok
 simp only [decide_eq_false h3,h3',Bool.not_true,Bool.or_self,cond_false,GAc (show b.fThings.length≤2932031007317 by omega),hdig,hsz,hw,Option.bind_some,cond_true]
 rcases VAE h2 with ⟨hk,hc⟩ | ⟨hk,hc⟩ | ⟨hk,hc⟩ | ⟨hk,hc⟩
 ·rw [hk] at hok ⊢
  simp only [show ((1:Int) == 1)=true from rfl,cond_true] at hok ⊢
  have h5:=(hok trivial).2.2.2.1
  rw [Qm (by simp only;omega),Option.bind_some,h5];rfl
 ·rw [hk] at hok ⊢
  simp only [show ((2:Int) == 1)=false from rfl,show ((2:Int) == 2)=true from rfl,cond_true,cond_false] at hok ⊢
  have h5:=(hok trivial).2.2.2.1
  rw [Qm (by simp only;omega),Option.bind_some,h5];rfl
 ·rw [hk] at hok ⊢
  simp only [show ((3:Int) == 1)=false from rfl,show ((3:Int) == 2)=false from rfl,show ((3:Int) == 3)=true from rfl,cond_true,cond_false] at hok ⊢
  have hid:=(Ag hc)
  have hpl:(putAt b.fThings r.fThing).length≤1000:=by
   have f1:(Ef r.fThing b.fThings).length≤b.fThings.length:=List.length_filter_le ..
   have f2:(Zn r.fThing b.fThings).length≤b.fThings.length:=List.length_filter_le ..
   rw [putAt,List.length_append,List.length_cons];omega
  rw [JAS hb,Option.bind_some]
  rw [Om] at hok ⊢
  cases ht:UY b.fThings r.fThing.fId with
  | some o=>
   rw [ht] at hok
   simp only [cond_true,FAt,Option.bind_some,Bool.not_true,cond_false,IAc (show b.fThings.length≤1000000000 by omega)] at hok ⊢
   cases hg:grown o r.fThing
   ·rfl
   ·rw [hg] at hok
    simp only [cond_true] at hok
    have h5:=(hok trivial).2.2.2.1
    simp only [Bool.not_true,cond_false,cond_true]
    rw [Qm (by simp only;omega),Option.bind_some,h5];rfl
  | none=>
   rw [ht] at hok
   have hw2:w64 (b.fLast+1)=b.fLast+1:=w64_id (by omega) (by omega)
   simp only [cond_false,Bool.not_false,cond_true,hw2,IAc (show b.fThings.length≤1000000000 by omega),Option.bind_some] at hok ⊢
   cases hg:(r.fThing.fId != b.fLast+1)
   ·rw [hg] at hok
    rw [bne_eq_false_iff_eq] at hg
    have hpn:=(BAt b7 (show b.fLast<r.fThing.fId by omega)).1
    by_cases h8:(b.fThings.length:Int)≥8
    ·rw [decide_eq_true h8,cond_false,TB (by rw [beq_iff_eq];omega)];rfl
    ·rw [decide_eq_false h8] at hok ⊢
     simp only [Bool.or_false,cond_false] at hok
     have h5:=(hok trivial).2.2.2.1
     rw [hpn] at hpl ⊢
     rw [cond_false,NM (by rw [beq_eq_false_iff_ne];omega),Qm (by simp only;omega),Option.bind_some,h5];rfl
   ·rfl
 ·rw [hk] at hok ⊢
  simp only [show ((4:Int) == 1)=false from rfl,show ((4:Int) == 2)=false from rfl,show ((4:Int) == 3)=false from rfl,show ((4:Int) == 4)=true from rfl,cond_true,cond_false] at hok ⊢
  rw [JAS hb,Option.bind_some]
  cases ht:UY b.fThings r.fNum with
  | none=>rfl
  | some o=>
   rw [ht] at hok
   simp only [Bool.not_true,cond_false] at hok ⊢
   have h5:=(hok trivial).2.2.2.1
   have key:∀ (j i m:Nat),i+j=b.fThings.length→Y1 (m+j+1) (.c0 (CV r).1 (i:Int) b r ⟨#[]⟩ 0 0 ⟨#[]⟩ 0 b.fWord b.fTries b.fLast b.fChain b.fCount ((b.fThings.take i).filter (fun t=>t.fId != r.fNum)) [] b.fThings)=some (⟨b.fWord,b.fTries,without b.fThings r.fNum,b.fLast,OZ (b.fChain++(CV r).1),b.fCount+1⟩,true):=by
    intro j
    induction j with
    | zero=>
     intro i m hi
     obtain rfl:i=b.fThings.length:=by omega
     have hf1:(without b.fThings r.fNum).length≤b.fThings.length:=List.length_filter_le ..
     rw [List.take_length,show b.fThings.filter (fun t=>t.fId != r.fNum)=without b.fThings r.fNum from rfl,Y1]
     simp only [CAD,hdig,hsz,hw,Option.bind_some,cond_true]
     rw [NM (by simp),Qm (by simp only;omega),Option.bind_some,h5];rfl
    | succ j ih=>
     intro i m hi
     have hil:i<b.fThings.length:=by omega
     have e:w64 ((i:Int)+1)=((i+1:Nat):Int):=by rw [w64_id (by omega) (by omega)];rfl
     have h6:=ih (i+1) m (by omega)
     rw [MAS hil] at h6
     have hf2:((b.fThings.take i).filter (fun t=>t.fId != r.fNum)).length≤i:=Nat.le_trans (List.length_filter_le ..) (by simp;omega)
     rw [show m+(j+1)+1=(m+j+1)+1 by omega,Y1]
     simp only [CAD,e,Int.toNat_natCast,getD_at hil]
     rw [TB (by simp;omega),TB (by simp;omega)]
     cases h7:(b.fThings[i].fId != r.fNum)
     ·rw [h7] at h6
      rw [cond_false,←h6];simp
     ·rw [h7] at h6
      rw [cond_true,TB (by simp;omega),TB (by simp only [decide_eq_true_eq];omega),←h6];simp
   obtain ⟨m,hm⟩:∃ m,gas=m+b.fThings.length+1:=⟨gas - (b.fThings.length+1),by have:=gas_lt (n:=b.fThings.length+1) (by omega);omega⟩
   have h0:=key b.fThings.length 0 m (by omega)
   rw [List.take_zero,List.filter_nil] at h0
   rw [hm]
   exact h0
def QZ (b:SBook):List SRec→SBook×Bool
 | []=>(b,true)
 | r::rs=>bif (TY b r).2 then QZ (TY b r).1 rs else (Fq,false)
theorem PAE {b:SBook} {r:SRec} (h:(TY b r).2=true):(TY b r).1.fThings.length≤8:=(Qe.1 (LAS h).2.2.2.1).2.2.2.1
theorem EAu {rs:List SRec}:∀ {b:SBook},IZ b=true→(QZ b rs).2=true→IZ (QZ b rs).1=true:=by
 induction rs with
 | nil=>intro b h _;exact h
 | cons r rs ih=>
  intro b h h2
  rw [QZ] at h2 ⊢
  cases h3:(TY b r).2
  ·rw [h3] at h2;cases h2
  ·rw [h3,cond_true] at h2
   rw [cond_true]
   exact ih (LAS h3).2.2.2.1 h2
theorem IAt {b:SBook} {l:List SRec} (hb:b.fThings.length≤2932031007317) (hl:l.length≤140737488351232):J3 b l=some (QZ b l):=by
 have key:∀ (j i m:Nat) (b:SBook),i+j=l.length→b.fThings.length≤2932031007317→Y2 (m+j+1) (.c0 l (i:Int) ⟨#[]⟩ 0 0 ⟨#[]⟩ 0 b.fWord b.fTries b.fLast b.fChain b.fCount [] b.fThings)=some (QZ b (l.drop i)):=by
  intro j
  induction j with
  | zero=>
   intro i m b h hb
   obtain rfl:i=l.length:=by omega
   rw [Y2]
   simp only [DAD]
   rw [NM (by simp),List.drop_length];rfl
  | succ j ih=>
   intro i m b h hb
   have hi:i<l.length:=by omega
   have e:w64 ((i:Int)+1)=((i+1:Nat):Int):=by rw [w64_id (by omega) (by omega)];rfl
   rw [show m+(j+1)+1=(m+j+1)+1 by omega,Y2]
   simp only [DAD,e,Int.toNat_natCast,getD_at hi]
   rw [TB (by simp;omega),TB (by simp;omega),GAt (by show b.fThings.length≤_;omega),Option.bind_some,drop_at hi,QZ]
   cases h2:(TY b l[i]).2
   ·rfl
   ·have h3:=PAE h2
    rw [NM (by rfl),cond_true]
    exact ih (i+1) m (TY b l[i]).1 (by omega) (by omega)
 obtain ⟨m,hm⟩:∃ m,gas=m+l.length+1:=⟨gas - (l.length+1),by have:=gas_lt (n:=l.length+1) (by omega);omega⟩
 rw [J3,GAN,GAc hb,Option.bind_some,hm]
 exact key l.length 0 m b (by omega) hb
theorem FAu:IZ He=true:=Qe.2 ⟨Zh _,by rw [He,ofBytes_size];rfl,(by decide:(0:Int)≤0∧(0:Int)≤3),(by decide:0≤8),(by decide:(0:Int)≤0∧(0:Int)≤1000),(by decide:(0:Int)≤0∧(0:Int)≤10000),rfl⟩
theorem JAt {file:ByteArray} {a:Nat} (hs:file.size≤140737488351232) (ha:a≤file.size) {p:ByteArray×Nat} (h:Nc file a=some p):p.2=a+(frameT p.1).1.size∧p.2≤file.size:=by
 rcases MAF hs ha with h1 | ⟨v,q,_,hq,hq2,hv1,hv2,h3,_,_,h1⟩
 ·rw [h1] at h;cases h
 ·rw [h1] at h
  cases h
  have hz:(file.extract (q+4) (q+4+v.toNat)).size=v.toNat:=by rw [ByteArray.size_extract];omega
  have hin:FN ((file.extract (q+4) (q+4+v.toNat)).size:Int) 1 9000=true:=by rw [hz,DY];omega
  refine ⟨?_,h3⟩
  show q+4+v.toNat=a+(frameT (file.extract (q+4) (q+4+v.toNat))).1.size
  rw [frameT,hin,cond_true,ofBytes_size,Cj,List.length_append,List.length_append,bs_len,hz,show ((v.toNat:Nat):Int)=v by omega]
  have:(four (Ib (bs (file.extract (q+4) (q+4+v.toNat))))).length=4:=rfl
  omega
theorem KAt (k:ByteArray) {file:ByteArray} (hs:file.size≤140737488351232):∀ (j a:Nat) (i:Int),a≤file.size→0≤(MZ k i (WY j file a).1).2∧(a:Int)+(MZ k i (WY j file a).1).2≤(file.size:Int):=by
 intro j
 induction j with
 | zero=>intro a i ha;exact ⟨Int.le_refl 0,by show (a:Int)+0≤_;omega⟩
 | succ j ih=>
  intro a i ha
  rw [WY]
  cases h:Nc file a with
  | none=>exact ⟨Int.le_refl 0,by show (a:Int)+0≤_;omega⟩
  | some p=>
   obtain ⟨h1,h2⟩:=JAt hs ha h
   obtain ⟨h3,h4⟩:=ih p.2 (i+1) h2
   simp only [MZ]
   cases (AY k i p.1).2 && (BZ (AY k i p.1).1).2
   ·exact ⟨Int.le_refl 0,by show (a:Int)+0≤_;omega⟩
   ·rw [cond_true]
    exact ⟨by simp only;omega,by simp only;omega⟩
theorem XAZ (k file:ByteArray):0≤(HY k file).2∧(HY k file).2≤(file.size:Int):=by
 rw [HY,Mc]
 by_cases h:(file.size:Int) > 20000
 ·rw [decide_eq_true h];exact ⟨Int.le_refl 0,by show (0:Int)≤_;omega⟩
 ·rw [decide_eq_false h,cond_false]
  have h2:=KAt k (file:=file) (by omega) (file.size+1) 0 1 (Nat.zero_le _)
  exact ⟨h2.1,by have:=h2.2;show (MZ k 1 (WY (file.size+1) file 0).1).2≤_;omega⟩
theorem TAQ {d:SDisk} {n:ByteArray} {B:Nat} (hf:∀ f ∈ d.fFiles,f.fText.size≤B):(TT d n).1.size≤B:=by
 rw [TT]
 cases h:RY d.fFiles n 0 with
 | none=>exact Nat.zero_le _
 | some j=>
  have h1:=(Sm h).2
  show ((d.fFiles.getD j Ie).fText).size≤B
  rw [getD_at (by omega)]
  exact hf _ (List.getElem_mem _)
def WX:ByteArray:=⟨#[98,111,111,107]⟩
def nNew:ByteArray:=⟨#[98,111,111,107,43]⟩
noncomputable def ZX (k:ByteArray) (d:SDisk):SBook×List SAct×Bool:=
 bif !(GY d) || !(QZ He (HY k (TT d WX).1).1).2 then (Fq,[],false)
 else ((QZ He (HY k (TT d WX).1).1).1,(bif decide (AZ d nNew≥0) then [⟨4,nNew,⟨#[]⟩,⟨#[]⟩⟩] else [])++(bif (HY k (TT d WX).1).2 == ((TT d WX).1.size:Int) then [] else [⟨1,nNew,(TT d WX).1.extract 0 (HY k (TT d WX).1).2.toNat,⟨#[]⟩⟩,⟨2,nNew,⟨#[]⟩,⟨#[]⟩⟩,⟨3,nNew,⟨#[]⟩,WX⟩]),true)
theorem LAt (k:ByteArray):∀ (fs:List ByteArray) (i:Int),(∀ f ∈ fs,f.size≤20000)→∀ r ∈ (MZ k i fs).1,r.fNum≤9223372036854775807:=by
 intro fs
 induction fs with
 | nil=>intro i _ r hr;cases hr
 | cons f fs ih=>
  intro i hf r hr
  rw [MZ] at hr
  cases h:(AY k i f).2 && (BZ (AY k i f).1).2
  ·rw [h] at hr;cases hr
  ·rw [h,cond_true] at hr
   rcases List.mem_cons.1 hr with rfl | hr
   ·have hz:=YAQ k f i
    have hfz:=hf f (List.mem_cons_self ..)
    rcases VAs (t:=(AY k i f).1) (by omega) with ⟨_,h2⟩ | h2
    ·have h3:(CV (BZ (AY k i f).1).1).2=true:=by rw [h2]
     rcases VAE h3 with ⟨hk,_⟩ | ⟨hk,hc⟩ | ⟨hk,_⟩ | ⟨hk,hc⟩
     ·rw [CV,hk] at h3
      simp only [show ((1:Int) == 1)=true from rfl,cond_true] at h3
      cases hc:(((BZ (AY k i f).1).1.fText.size:Int) == 32 && (BZ (AY k i f).1).1.fNum == 0 && SY (BZ (AY k i f).1).1.fThing)
      ·rw [hc] at h3;cases h3
      ·rw [Bool.and_eq_true,Bool.and_eq_true,beq_iff_eq,beq_iff_eq] at hc;omega
     ·omega
     ·rw [CV,hk] at h3
      simp only [show ((3:Int) == 1)=false from rfl,show ((3:Int) == 2)=false from rfl,show ((3:Int) == 3)=true from rfl,cond_true,cond_false] at h3
      cases hc:((NY (BZ (AY k i f).1).1.fThing).2 && QY (BZ (AY k i f).1).1.fText && (BZ (AY k i f).1).1.fNum == 0)
      ·rw [hc] at h3;cases h3
      ·rw [Bool.and_eq_true,beq_iff_eq] at hc;omega
     ·omega
    ·rw [h2];exact (by decide:(0:Int)≤9223372036854775807)
   ·exact ih (i+1) (fun f hf2=>hf f (List.mem_cons_of_mem _ hf2)) r hr
theorem UAl (k file:ByteArray):∀ r ∈ (HY k file).1,r.fNum≤9223372036854775807:=LAt k _ _ (TAE (file:=file)).1
theorem YAZ (k file:ByteArray):(HY k file).1.length≤20000:=Nat.le_trans (XAs k _ _) (TAE (file:=file)).2.1
theorem VAY {k:ByteArray} {d:SDisk} (hk:k.size≤900000000) (hd:d.fFiles.length≤140737488351232) (hf:∀ f ∈ d.fFiles,f.fText.size≤140737488351232):Nh k d=some (ZX k d):=by
 have hfs:(TT d WX).1.size≤140737488351232:=TAQ hf
 obtain ⟨r1,r2⟩:=XAZ k (TT d WX).1
 have hl:=YAZ k (TT d WX).1
 rw [Nh,HAN,KAQ,Option.bind_some,ZX]
 cases GY d
 ·rfl
 rw [NM (by rfl),show (⟨#[98,111,111,107]⟩:ByteArray)=WX from rfl,show (⟨#[98,111,111,107,43]⟩:ByteArray)=nNew from rfl,VAp hd,Option.bind_some,YAs hk hfs,Option.bind_some,UAY,Option.bind_some,IAt (Nat.zero_le _) (by omega),Option.bind_some,RAQ hd]
 cases (QZ He (HY k (TT d WX).1).1).2
 ·rfl
 simp only [Option.bind_some,Bool.not_true,Bool.or_self,cond_false]
 by_cases he:(HY k (TT d WX).1).2=((TT d WX).1.size:Int)
 ·rw [decide_eq_false (by omega:¬ (HY k (TT d WX).1).2<((TT d WX).1.size:Int)),show ((HY k (TT d WX).1).2 == ((TT d WX).1.size:Int))=true by rw [beq_iff_eq];exact he]
  cases decide (AZ d nNew≥0) <;> rfl
 ·rw [decide_eq_true (by omega:(HY k (TT d WX).1).2<((TT d WX).1.size:Int)),show ((HY k (TT d WX).1).2 == ((TT d WX).1.size:Int))=false by rw [beq_eq_false_iff_ne];exact he,cond_true,cond_true]
  have hg:(decide (0≤(HY k (TT d WX).1).2) && decide ((HY k (TT d WX).1).2≤((TT d WX).1.size:Int)))=true:=by rw [Bool.and_eq_true,decide_eq_true_eq,decide_eq_true_eq];exact ⟨r1,r2⟩
  simp only [hg,cond_true]
  cases decide (AZ d nNew≥0) <;> rfl
def EAR (b:SBox) (i:Nat):Bool:=match UY b.fBook.fThings (b.fLives.getD i ⟨0,0⟩).fId with
 | some x=>x.fKind == 2 && (FN (b.fLives.getD i ⟨0,0⟩).fNext 0 x.fNext && (i == 0 || !decide ((b.fLives.getD (i - 1) ⟨0,0⟩).fId≥(b.fLives.getD i ⟨0,0⟩).fId)))
 | none=>false
def Pq (b:SBox):Nat→Nat→Bool
 | 0,_=>true
 | j+1,i=>EAR b i && Pq b j (i+1)
def JAQ (b:SBox):Bool:=Pq b b.fLives.length 0
theorem OAk {b:SBox} (hl:b.fLives.length≤140737488351232) (ht:b.fBook.fThings.length≤140737488351232):Rl b=some (JAQ b):=by
 have key:∀ (j i m:Nat),i+j=b.fLives.length→V3 (m+j+1) (.c0 (i:Int) b)=some (Pq b j i):=by
  intro j
  induction j with
  | zero=>
   intro i m hi
   rw [V3];simp only [FAD]
   rw [NM (by simp;omega)];rfl
  | succ j ih=>
   intro i m hi
   have hw:w64 ((i:Int)+1)=((i+1:Nat):Int):=by rw [w64_id (by omega) (by omega)];rfl
   have d1:decide ((i:Int)<(b.fLives.length:Int))=true:=decide_eq_true (by omega)
   have d0:decide ((0:Int)≤(i:Int))=true:=decide_eq_true (by omega)
   rw [show m+(j+1)+1=(m+j+1)+1 from rfl,V3]
   simp only [FAD,JAS ht,Eb,Option.bind_some,d0,d1,Bool.and_self,cond_true,Int.toNat_natCast,hw,ih (i+1) m (by omega),Pq,EAR]
   cases UY b.fBook.fThings (b.fLives.getD i ⟨0,0⟩).fId with
   | none=>rfl
   | some x=>
    simp only [bne]
    cases x.fKind == 2
    ·rfl
    cases FN (b.fLives.getD i ⟨0,0⟩).fNext 0 x.fNext
    ·rfl
    by_cases h0:i=0
    ·subst h0;rfl
    ·obtain ⟨k,rfl⟩:∃ k,i=k+1:=⟨i - 1,by omega⟩
     have hk:w64 (((k+1:Nat):Int) - 1)=(k:Int):=by rw [w64_id (by omega) (by omega)];omega
     rw [show decide (((k+1:Nat):Int) > 0)=true from decide_eq_true (by omega)]
     simp only [hk,Int.toNat_natCast,show decide ((0:Int)≤(k:Int))=true from decide_eq_true (by omega),show decide ((k:Int)<(b.fLives.length:Int))=true from decide_eq_true (by omega),Bool.and_self,cond_true,Nat.add_sub_cancel]
     cases decide ((b.fLives.getD k ⟨0,0⟩).fId≥(b.fLives.getD (k+1) ⟨0,0⟩).fId) <;> rfl
 obtain ⟨m,hm⟩:∃ m,gas=m+b.fLives.length+1:=⟨gas - (b.fLives.length+1),by have:=gas_lt (n:=b.fLives.length) (by omega);omega⟩
 rw [Rl,JAN,hm]
 exact key b.fLives.length 0 m (Nat.zero_add _)
end Go.Proofs.YthfpmhalgimbbaaGreatDoor.G
