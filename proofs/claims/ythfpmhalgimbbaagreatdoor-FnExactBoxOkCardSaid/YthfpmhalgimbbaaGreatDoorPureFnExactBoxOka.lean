/- The plain law of FnExactBoxOk: whatever the arguments, it answers true. Conditions: what is read is in reach. Part 1 of 2. -/
import Derived.Test.YthfpmhalgimbbaaGreatDoorFFnExactBoxOk
import Derived.Test.YthfpmhalgimbbaaGreatDoorOpens
import Derived.Test.YthfpmhalgimbbaaGreatDoorPBase
namespace Go.Proofs.YthfpmhalgimbbaaGreatDoor.G
open Go Go.Ev
set_option linter.unusedVariables false
set_option linter.unusedSimpArgs false
theorem SAc {a:SFile} (g:GSFile a) (n:Int):∃ r,Lh a n=some r:=by
 unfold Lh YAB
 cases decide ((w64 (n - (a.fName.size:Int)))<0)
 rotate_left
 ·exact ⟨_,rfl⟩
 simp only [cond_false]
 cases decide ((w64 ((w64 (n - (a.fName.size:Int))) - (a.fText.size:Int)))<0)
 rotate_left
 ·exact ⟨_,rfl⟩
 simp only [cond_false]
 exact ⟨_,rfl⟩
theorem TAc {a:(List SFile)} (g:(GList 40 GSFile) a) (n:Int):∃ r,Ap a n=some r:=by
 have h:=g.1
 have key:∀ m i l,i≤a.length→a.length - i<m→∃ r,Uz m (.c0 a l i)=some r:=by
  intro m
  induction m with
  | zero=>intro i l _ h;omega
  | succ m ih=>
   intro i l h1 h2
   simp only [Uz,BAC]
   by_cases hi:i<a.length
   ·have hw:w64 ((i:Int)+1)=((i+1:Nat):Int):=by rw [w64_id (by omega) (by omega)];rfl
    obtain ⟨r,hr⟩:=SAc (g.2 _ (List.getElem_mem hi)) l
    simp only [Int.toNat_natCast,getD_at hi,hr,Option.bind_some,hw]
    rw [show (decide ((i:Int)<(a.length:Int)))=true from decide_eq_true (by omega),show (decide ((0:Int)≤(i:Int)))=true from decide_eq_true (by omega)]
    simp only [Bool.and_self,cond_true]
    cases decide (r<0)
    ·exact ih (i+1) r hi (by omega)
    ·exact ⟨_,rfl⟩
   ·rw [show (decide ((i:Int)<(a.length:Int)))=false from decide_eq_false (by omega)]
    exact ⟨_,rfl⟩
 unfold Ap AAC
 cases decide (w64 (n - (a.length:Int))<0)
 ·exact key gas 0 _ (Nat.zero_le _) (gas_lt (by omega))
 ·exact ⟨_,rfl⟩
theorem UAc {a:SDisk} (g:GSDisk a) (n:Int):∃ r,Dp a n=some r:=by
 unfold Dp DAC
 obtain ⟨r0,hr0⟩:=TAc (g) (n)
 simp only [hr0,Option.bind_some]
 cases decide (r0<0)
 rotate_left
 ·exact ⟨_,rfl⟩
 simp only [cond_false]
 exact ⟨_,rfl⟩
theorem VAc {a:SThing} (g:GSThing a) (n:Int):∃ r,Ll a n=some r:=⟨_,cond_some _ _ _⟩
theorem WAc {a:(List SThing)} (g:(GList 48 GSThing) a) (n:Int):∃ r,Fp a n=some r:=by
 have h:=g.1
 have key:∀ m i l,i≤a.length→a.length - i<m→∃ r,Xz m (.c0 a l i)=some r:=by
  intro m
  induction m with
  | zero=>intro i l _ h;omega
  | succ m ih=>
   intro i l h1 h2
   simp only [Xz,GAC]
   by_cases hi:i<a.length
   ·have hw:w64 ((i:Int)+1)=((i+1:Nat):Int):=by rw [w64_id (by omega) (by omega)];rfl
    obtain ⟨r,hr⟩:=VAc (g.2 _ (List.getElem_mem hi)) l
    simp only [Int.toNat_natCast,getD_at hi,hr,Option.bind_some,hw]
    rw [show (decide ((i:Int)<(a.length:Int)))=true from decide_eq_true (by omega),show (decide ((0:Int)≤(i:Int)))=true from decide_eq_true (by omega)]
    simp only [Bool.and_self,cond_true]
    cases decide (r<0)
    ·exact ih (i+1) r hi (by omega)
    ·exact ⟨_,rfl⟩
   ·rw [show (decide ((i:Int)<(a.length:Int)))=false from decide_eq_false (by omega)]
    exact ⟨_,rfl⟩
 unfold Fp FAC
 cases decide (w64 (n - (a.length:Int))<0)
 ·exact key gas 0 _ (Nat.zero_le _) (gas_lt (by omega))
 ·exact ⟨_,rfl⟩
theorem XAc {a:SBook} (g:GSBook a) (n:Int):∃ r,Gp a n=some r:=by
 unfold Gp IAC
 cases decide ((w64 (n - (a.fWord.size:Int)))<0)
 rotate_left
 ·exact ⟨_,rfl⟩
 simp only [cond_false]
 obtain ⟨r0,hr0⟩:=WAc (g.2.2.1) ((w64 (n - (a.fWord.size:Int))))
 simp only [hr0,Option.bind_some]
 cases decide (r0<0)
 rotate_left
 ·exact ⟨_,rfl⟩
 simp only [cond_false]
 cases decide ((w64 (r0 - (a.fChain.size:Int)))<0)
 rotate_left
 ·exact ⟨_,rfl⟩
 simp only [cond_false]
 exact ⟨_,rfl⟩
theorem YAc {a:(List SSession)} (_:(GList 16 GSSession) a) (n:Int):∃ r,Yz a n=some r:=⟨_,cond_some _ _ _⟩
theorem ZAc {a:(List SLive)} (_:(GList 16 GSLive) a) (n:Int):∃ r,Zz a n=some r:=⟨_,cond_some _ _ _⟩
theorem QAc {a:SBox} (g:GSBox a) (n:Int):∃ r,Uo a n=some r:=by
 unfold Uo LAC
 cases decide ((w64 (n - (a.fKey.size:Int)))<0)
 rotate_left
 ·exact ⟨_,rfl⟩
 simp only [cond_false]
 obtain ⟨r0,hr0⟩:=UAc (g.2.2.1) ((w64 (n - (a.fKey.size:Int))))
 simp only [hr0,Option.bind_some]
 cases decide (r0<0)
 rotate_left
 ·exact ⟨_,rfl⟩
 simp only [cond_false]
 obtain ⟨r1,hr1⟩:=XAc (g.2.2.2.1) (r0)
 simp only [hr1,Option.bind_some]
 cases decide (r1<0)
 rotate_left
 ·exact ⟨_,rfl⟩
 simp only [cond_false]
 obtain ⟨r2,hr2⟩:=YAc (g.2.2.2.2.1) (r1)
 simp only [hr2,Option.bind_some]
 cases decide (r2<0)
 rotate_left
 ·exact ⟨_,rfl⟩
 simp only [cond_false]
 obtain ⟨r3,hr3⟩:=ZAc (g.2.2.2.2.2.1) (r2)
 simp only [hr3,Option.bind_some]
 cases decide (r3<0)
 rotate_left
 ·exact ⟨_,rfl⟩
 simp only [cond_false]
 exact ⟨_,rfl⟩
theorem AAd {a:SFile} (g:GSFile a):Nh a=some a:=by
 simp only [Nh,NAC,Option.bind_some]
theorem BAd {a:(List SFile)} (g:(GList 40 GSFile) a):Jp a=some a:=by
 have h:=g.1
 have key:∀ m i,i≤a.length→a.length - i<m→Oh m (.c0 a i (a.take i++List.replicate (a.length - i) (⟨(⟨#[]⟩:ByteArray),(⟨#[]⟩:ByteArray),(0:Int)⟩:SFile)))=some a:=fun m i h1 h2=>
  loopN (A:=Unit) (n:=a.length) (Lp:=Oh) (st:=fun i _=>.c0 a i (a.take i++List.replicate (a.length - i) (⟨(⟨#[]⟩:ByteArray),(⟨#[]⟩:ByteArray),(0:Int)⟩:SFile))) (Inv:=fun _ _=>True) (out:=fun _ _=>some a)
   (fun m _ _=>by simp [Oh,U0])
   (fun m i _ hi _=>.inr ⟨(),by
    have hw:w64 ((i:Int)+1)=((i+1:Nat):Int):=by rw [w64_id (by omega) (by omega)];rfl
    have hc:=copied_len (Nat.le_of_lt hi) (⟨(⟨#[]⟩:ByteArray),(⟨#[]⟩:ByteArray),(0:Int)⟩:SFile)
    simp only [Oh,U0,Int.toNat_natCast,getD_at hi,AAd (g.2 _ (List.getElem_mem hi)),Option.bind_some,hw,copied hi,hc]
    simp [hi],trivial,rfl⟩) m i () h1 h2 trivial
 have h0:Oh gas (.c0 a 0 (List.replicate a.length (⟨(⟨#[]⟩:ByteArray),(⟨#[]⟩:ByteArray),(0:Int)⟩:SFile)))=some a:=by
  have:=key gas 0 (Nat.zero_le _) (gas_lt (by omega))
  simpa using this
 unfold Jp PAC
 simp only [Int.toNat_natCast,h0]
 simp [show a.length*40≤140737488355328 from by omega,show ((a.length:Int)≤9223372036854775807) from by omega]
 try omega
theorem CAd {a:SDisk} (g:GSDisk a):Np a=some a:=by
 simp only [Np,RAC,BAd (g),Option.bind_some]
theorem DAd {a:SThing} (g:GSThing a):Ph a=some a:=by
 simp only [Ph,SAC,Option.bind_some]
theorem EAd {a:(List SThing)} (g:(GList 48 GSThing) a):Vp a=some a:=by
 have h:=g.1
 have key:∀ m i,i≤a.length→a.length - i<m→Qh m (.c0 a i (a.take i++List.replicate (a.length - i) (⟨(0:Int),(0:Int),false,false,false,false,(⟨#[]⟩:ByteArray),(0:Int)⟩:SThing)))=some a:=fun m i h1 h2=>
  loopN (A:=Unit) (n:=a.length) (Lp:=Qh) (st:=fun i _=>.c0 a i (a.take i++List.replicate (a.length - i) (⟨(0:Int),(0:Int),false,false,false,false,(⟨#[]⟩:ByteArray),(0:Int)⟩:SThing))) (Inv:=fun _ _=>True) (out:=fun _ _=>some a)
   (fun m _ _=>by simp [Qh,Y0])
   (fun m i _ hi _=>.inr ⟨(),by
    have hw:w64 ((i:Int)+1)=((i+1:Nat):Int):=by rw [w64_id (by omega) (by omega)];rfl
    have hc:=copied_len (Nat.le_of_lt hi) (⟨(0:Int),(0:Int),false,false,false,false,(⟨#[]⟩:ByteArray),(0:Int)⟩:SThing)
    simp only [Qh,Y0,Int.toNat_natCast,getD_at hi,DAd (g.2 _ (List.getElem_mem hi)),Option.bind_some,hw,copied hi,hc]
    simp [hi],trivial,rfl⟩) m i () h1 h2 trivial
 have h0:Qh gas (.c0 a 0 (List.replicate a.length (⟨(0:Int),(0:Int),false,false,false,false,(⟨#[]⟩:ByteArray),(0:Int)⟩:SThing)))=some a:=by
  have:=key gas 0 (Nat.zero_le _) (gas_lt (by omega))
  simpa using this
 unfold Vp VAC
 simp only [Int.toNat_natCast,h0]
 simp [show a.length*48≤140737488355328 from by omega,show ((a.length:Int)≤9223372036854775807) from by omega]
 try omega
theorem FAd {a:SBook} (g:GSBook a):Wp a=some a:=by
 simp only [Wp,XAC,EAd (g.2.2.1),Option.bind_some]
theorem GAd {a:SSession} (g:GSSession a):Rh a=some a:=by
 simp only [Rh,YAC,Option.bind_some]
theorem HAd {a:(List SSession)} (g:(GList 16 GSSession) a):Yp a=some a:=by
 have h:=g.1
 have key:∀ m i,i≤a.length→a.length - i<m→Uh m (.c0 a i (a.take i++List.replicate (a.length - i) (⟨(0:Int),false⟩:SSession)))=some a:=fun m i h1 h2=>
  loopN (A:=Unit) (n:=a.length) (Lp:=Uh) (st:=fun i _=>.c0 a i (a.take i++List.replicate (a.length - i) (⟨(0:Int),false⟩:SSession))) (Inv:=fun _ _=>True) (out:=fun _ _=>some a)
   (fun m _ _=>by simp [Uh,U1])
   (fun m i _ hi _=>.inr ⟨(),by
    have hw:w64 ((i:Int)+1)=((i+1:Nat):Int):=by rw [w64_id (by omega) (by omega)];rfl
    have hc:=copied_len (Nat.le_of_lt hi) (⟨(0:Int),false⟩:SSession)
    simp only [Uh,U1,Int.toNat_natCast,getD_at hi,GAd (g.2 _ (List.getElem_mem hi)),Option.bind_some,hw,copied hi,hc]
    simp [hi],trivial,rfl⟩) m i () h1 h2 trivial
 have h0:Uh gas (.c0 a 0 (List.replicate a.length (⟨(0:Int),false⟩:SSession)))=some a:=by
  have:=key gas 0 (Nat.zero_le _) (gas_lt (by omega))
  simpa using this
 unfold Yp AAD
 simp only [Int.toNat_natCast,h0]
 simp [show a.length*16≤140737488355328 from by omega,show ((a.length:Int)≤9223372036854775807) from by omega]
 try omega
theorem IAd {a:SLive} (g:GSLive a):Vh a=some a:=by
 simp only [Vh,CAD,Option.bind_some]
theorem JAd {a:(List SLive)} (g:(GList 16 GSLive) a):Aq a=some a:=by
 have h:=g.1
 have key:∀ m i,i≤a.length→a.length - i<m→Wh m (.c0 a i (a.take i++List.replicate (a.length - i) (⟨(0:Int),(0:Int)⟩:SLive)))=some a:=fun m i h1 h2=>
  loopN (A:=Unit) (n:=a.length) (Lp:=Wh) (st:=fun i _=>.c0 a i (a.take i++List.replicate (a.length - i) (⟨(0:Int),(0:Int)⟩:SLive))) (Inv:=fun _ _=>True) (out:=fun _ _=>some a)
   (fun m _ _=>by simp [Wh,U2])
   (fun m i _ hi _=>.inr ⟨(),by
    have hw:w64 ((i:Int)+1)=((i+1:Nat):Int):=by rw [w64_id (by omega) (by omega)];rfl
    have hc:=copied_len (Nat.le_of_lt hi) (⟨(0:Int),(0:Int)⟩:SLive)
    simp only [Wh,U2,Int.toNat_natCast,getD_at hi,IAd (g.2 _ (List.getElem_mem hi)),Option.bind_some,hw,copied hi,hc]
    simp [hi],trivial,rfl⟩) m i () h1 h2 trivial
 have h0:Wh gas (.c0 a 0 (List.replicate a.length (⟨(0:Int),(0:Int)⟩:SLive)))=some a:=by
  have:=key gas 0 (Nat.zero_le _) (gas_lt (by omega))
  simpa using this
 unfold Aq EAD
 simp only [Int.toNat_natCast,h0]
 simp [show a.length*16≤140737488355328 from by omega,show ((a.length:Int)≤9223372036854775807) from by omega]
 try omega
theorem RAc {a:SBox} (g:GSBox a):Vo a=some a:=by
 simp only [Vo,FAD,CAd (g.2.2.1),FAd (g.2.2.2.1),HAd (g.2.2.2.2.1),JAd (g.2.2.2.2.2.1),Option.bind_some]
def NM (x a b:Int):Bool:=decide (a≤x) && decide (x≤b)
theorem WX {x a b:Int}:NM x a b=true↔a≤x∧x≤b:=by simp [NM]
theorem Aa (x a b:Int):SX x a b=some (NM x a b):=by
 show (bif decide (a≤x) then some (decide (x≤b)) else some false)=some (NM x a b)
 unfold NM;cases decide (a≤x) <;> rfl
theorem KAd (s:ByteArray):Xh s=some (NM (s.size:Int) 1 8):=by
 rw [Xh,GAD,Aa];rfl
def bs (s:ByteArray):List Int:=s.data.toList.map fun b=>(b.toNat:Int)
theorem bs_len (s:ByteArray):(bs s).length=s.size:=by unfold bs;rw [List.length_map];rfl
theorem HAK {s:ByteArray} {n:Int} (h:n ∈ bs s):0≤n∧n≤255:=by
 unfold bs at h;rw [List.mem_map] at h;obtain ⟨b,_,rfl⟩:=h
 have:=b.toNat_lt;omega
theorem NY (a b:ByteArray):bs (a++b)=bs a++bs b:=by simp [bs]
theorem HAA (s:ByteArray):ofBytes (bs s)=s:=by
 cases s;simp [ofBytes,bs,Function.comp_def]
theorem Fa {s t:ByteArray} (h:bs s=bs t):s=t:=by rw [←HAA s,h,HAA]
theorem SN {l:List Int} (h:∀ n,n ∈ l→0≤n∧n≤255):bs (ofBytes l)=l:=by
 simp only [bs,ofBytes,List.map_map]
 conv=>rhs;rw [←List.map_id l]
 apply List.map_congr_left
 intro n hn
 obtain ⟨h1,h2⟩:=h n hn
 simp only [Function.comp,UInt8.toNat_ofNat',id]
 omega
theorem IAA {s:ByteArray} {i:Nat} (h:i<s.size):bt s (i:Int)=(bs s)[i]'(by rw [bs_len];exact h):=by
 simp only [bt,Int.toNat_natCast,h,dite_true,bs,List.getElem_map]
 rfl
theorem Yf (s:ByteArray) (i:Int):0≤bt s i∧bt s i≤255:=by
 unfold bt;split
 ·have:=(s[i.toNat]).toNat_lt;omega
 ·omega
theorem FZ (s:ByteArray) (i j:Nat):bs (s.extract i j)=((bs s).take j).drop i:=by
 simp only [bs,ByteArray.data_extract,Array.toList_extract,List.extract_eq_take_drop,List.map_take,List.map_drop]
 rw [List.drop_take]
theorem Ak (a b:ByteArray):(a.toList == b.toList)=(bs a == bs b):=by
 rw [toList_inj,Bool.eq_iff_iff,decide_eq_true_eq,beq_iff_eq]
 exact ⟨fun h=>by rw [h],Fa⟩
theorem TB {α:Type} {c:Bool} {a b:α} (h:c=true):(bif c then a else b)=a:=by rw [h];rfl
theorem FN {α:Type} {c:Bool} {a b:α} (h:c=false):(bif c then a else b)=b:=by rw [h];rfl
theorem Oc {s:ByteArray} {i:Nat} (h:i<s.size):bt s (i:Int)=(bs s).getD i 0:=by rw [IAA h,getD_at]
theorem QAi {s:ByteArray} {i:Int} {j:Nat} (e:i=(j:Int)) (h:j<s.size):bt s i=(bs s).getD j 0:=by rw [e,Oc h]
theorem Wy {α:Type} {a b:List α} {i:Nat} (h:i<a.length) (d:α):(a++b).getD i d=a.getD i d:=by simp [List.getD,List.getElem?_append_left h]
theorem Rn {α:Type} {a b:List α} {i:Nat} (h:a.length≤i) (d:α):(a++b).getD i d=b.getD (i - a.length) d:=by simp [List.getD,List.getElem?_append_right h]
theorem Nk {α:Type} {a b:List α} {x y:α} {i:Nat} (h:a.length=i):(a++x::b).set i y=a++y::b:=by
 rw [List.set_append_right _ _ (by omega),h,Nat.sub_self];rfl
theorem RAi {a b:Nat} (h:a=b):Nat.beq a b=true:=by subst h;exact Nat.beq_refl _
theorem SAi {P:Int→Prop} (n:Int) (h:0≤n) (k:∀ m:Nat,n=(m:Int)→P (m:Int)):P n:=by
 have:=k n.toNat (by omega)
 rwa [show ((n.toNat:Nat):Int)=n by omega] at this
theorem TAi:bs (⟨#[]⟩:ByteArray)=[]:=rfl
def YX (l:List Int):Prop:=∀ n,n ∈ l→0≤n∧n≤255
theorem LZ {l:List Int} (h:YX l) (i:Nat):0≤l.getD i 0∧l.getD i 0≤255:=by
 by_cases hi:i<l.length
 ·rw [getD_at hi];exact h _ (List.getElem_mem hi)
 ·have:l.getD i 0=0:=by simp [List.getD,List.getElem?_eq_none (Nat.le_of_not_lt hi)]
  omega
theorem Qb (s:ByteArray):YX (bs s):=fun _ h=>HAK h
theorem Xy (s:ByteArray):bytesOf s=bs s:=rfl
theorem LAd {α:Type} {l:List α} {i:Nat} (h:i<l.length) (y d:α):(l.set i y).getD i d=y:=by simp [List.getD,h]
def fOk (f:SFile):Bool:=NM (f.fName.size:Int) 1 8 && (!decide ((f.fText.size:Int) > 20000) && NM f.fKept 0 (f.fText.size:Int))
def Zg:ByteArray→List SFile→Bool
 | _,[]=>true
 | p,f::fs=>fOk f && (Op.bytesLess p.toList f.fName.toList && Zg f.fName fs)
def Xf (l:List SFile):Nat→ByteArray
 | 0=>⟨#[]⟩
 | i+1=>((l[i]?).map (·.fName)).getD ⟨#[]⟩
theorem WAJ {l:List SFile} {i:Nat} (hi:i<l.length):Xf l (i+1)=l[i].fName:=by simp [Xf,hi]
theorem HAR {l:List SFile} {i:Nat} (hi:i<l.length):Zg (Xf l i) (l.drop i)=(fOk l[i] && (Op.bytesLess (Xf l i).toList l[i].fName.toList && Zg (Xf l (i+1)) (l.drop (i+1)))):=by
 rw [drop_at hi,Zg,WAJ hi]
def Mc (d:SDisk):Bool:=decide ((d.fFiles.length:Int)≤30) && Zg ⟨#[]⟩ d.fFiles
theorem IAR {s:ByteArray} (h:1≤s.size):Op.bytesLess (⟨#[]⟩:ByteArray).toList s.toList=true:=by
 rw [ByteArray.toList_eq,ByteArray.toList_eq]
 obtain ⟨⟨l⟩⟩:=s
 cases l with
 | nil=>exact absurd h (Nat.not_succ_le_zero 0)
 | cons x l=>rfl
def Ob:List SFile→ByteArray→Nat→Option Nat
 | [],_,_=>none
 | f::fs,n,i=>if f.fName.toList == n.toList then some i else Ob fs n (i+1)
theorem YAJ {n:ByteArray}:∀ {fs:List SFile} {i j:Nat},Ob fs n i=some j→i≤j∧j<i+fs.length:=by
 intro fs
 induction fs with
 | nil=>intro i j h;cases h
 | cons f fs ih=>
  intro i j h
  rw [Ob] at h
  rw [List.length_cons]
  split at h
  ·cases h;omega
  ·have:=ih h;omega
def Nb (d:SDisk) (n:ByteArray):Int:=match Ob d.fFiles n 0 with | some j=>(j:Int) | none=> -1
def BAS:SFile:=⟨⟨#[]⟩,⟨#[]⟩,0⟩
def CV (d:SDisk) (n:ByteArray):ByteArray×Bool:=match Ob d.fFiles n 0 with | some j=>((d.fFiles.getD j BAS).fText,true) | none=>(⟨#[]⟩,false)
theorem CAR (d:SDisk):Qe d=some (Mc d):=by
 rw [Qe,IAD,Mc]
 by_cases h0:(d.fFiles.length:Int)≤30
 ·rw [FN (by simp;omega),decide_eq_true h0,Bool.true_and]
  have key:∀ (j i m:Nat),i+j=d.fFiles.length→Fq (m+j+1) (.c0 (i:Int) d)=some (Zg (Xf d.fFiles i) (d.fFiles.drop i)):=by
   intro j
   induction j with
   | zero=>
    intro i m h
    obtain rfl:i=d.fFiles.length:=by omega
    rw [Fq]
    simp only [J3]
    rw [FN (by simp),List.drop_length];rfl
   | succ j ih=>
    intro i m h
    have hi:i<d.fFiles.length:=by omega
    have e:w64 ((i:Int)+1)=((i+1:Nat):Int):=by rw [w64_id (by omega) (by omega)];rfl
    have h2:=ih (i+1) m (by omega)
    rw [show m+(j+1)+1=(m+j+1)+1 by omega,Fq]
    simp only [J3,e,Int.toNat_natCast,getD_at hi,KAd,Aa,Option.bind_some]
    rw [TB (by simp;omega),TB (by simp;omega),HAR hi,fOk,h2]
    cases hn:NM (d.fFiles[i].fName.size:Int) 1 8
    ·rfl
    cases decide ((d.fFiles[i].fText.size:Int) > 20000)
    ·cases NM d.fFiles[i].fKept 0 (d.fFiles[i].fText.size:Int)
     ·rfl
     ·by_cases hz:i=0
      ·subst hz
       rw [WX] at hn
       rw [show Xf d.fFiles 0=⟨#[]⟩ from rfl,IAR (by omega)];rfl
      ·obtain ⟨i',rfl⟩:∃ q,i=q+1:=⟨i - 1,by omega⟩
       have e2:w64 (((i'+1:Nat):Int) - 1)=(i':Int):=by rw [w64_id (by omega) (by omega)];omega
       rw [e2,Int.toNat_natCast,getD_at (show i'<d.fFiles.length by omega),WAJ (i:=i') (by omega),FN (by rfl),FN (by rfl),FN (by rfl),TB (by simp;try omega),TB (by simp;try omega)]
       cases Op.bytesLess d.fFiles[i'].fName.toList d.fFiles[i'+1].fName.toList <;> rfl
    ·rfl
  obtain ⟨m,hm⟩:∃ m,gas=m+d.fFiles.length+1:=⟨gas - (d.fFiles.length+1),by have:=gas_lt (n:=d.fFiles.length+1) (by omega);omega⟩
  rw [hm]
  exact key d.fFiles.length 0 m (by omega)
 ·rw [TB (by simp;omega),decide_eq_false h0];rfl
theorem Qk {n:Int}:w32 n=n % 4294967296:=by
 simp only [w32,IntKind.wrap,IntKind.signed,IntKind.bits]
 simp
theorem Ba {n:Int} (h1:0≤n) (h2:n<4294967296):w32 n=n:=by rw [Qk];omega
def R32 (n:Int):Prop:=0≤n∧n<4294967296
theorem QZ (n:Int):R32 (w32 n):=by unfold R32;rw [Qk];omega
theorem UAi {n:Int} (h:0≤n∧n≤255):R32 n:=by unfold R32;omega
def xr (x y:Int):Int:=w32 (((BitVec.toNat ((BitVec.ofInt (IntKind.bits IntKind.u32) x) ^^^ (BitVec.ofInt (IntKind.bits IntKind.u32) y))):Nat):Int)
def an (x y:Int):Int:=w32 (((BitVec.toNat ((BitVec.ofInt (IntKind.bits IntKind.u32) x) &&& (BitVec.ofInt (IntKind.bits IntKind.u32) y))):Nat):Int)
def Yy (x y:Int):Int:=w32 (((BitVec.toNat ((BitVec.ofInt (IntKind.bits IntKind.u32) x) ||| (BitVec.ofInt (IntKind.bits IntKind.u32) y))):Nat):Int)
theorem Nc (x y:Int):w32 (((BitVec.toNat ((BitVec.ofInt (IntKind.bits IntKind.u32) x) ^^^ (BitVec.ofInt (IntKind.bits IntKind.u32) y))):Nat):Int)=xr x y:=rfl
theorem ZAJ (x y:Int):w32 (((BitVec.toNat ((BitVec.ofInt (IntKind.bits IntKind.u32) x) &&& (BitVec.ofInt (IntKind.bits IntKind.u32) y))):Nat):Int)=an x y:=rfl
theorem CAS (x y:Int):w32 (((BitVec.toNat ((BitVec.ofInt (IntKind.bits IntKind.u32) x) ||| (BitVec.ofInt (IntKind.bits IntKind.u32) y))):Nat):Int)=Yy x y:=rfl
theorem En (x y:Int):R32 (xr x y):=QZ _
theorem VAi (x y:Int):R32 (an x y):=QZ _
theorem DAS {a b:Nat} {s:Nat} (hb:b<2 ^ s) (ha:a*2 ^ s<4294967296) (hs:b<4294967296):Yy ((a*2 ^ s:Nat):Int) (b:Int)=((a*2 ^ s+b:Nat):Int):=by
 have e:a*2 ^ s ||| b=a*2 ^ s+b:=by
  have:=Nat.shiftLeft_add_eq_or_of_lt hb a
  rw [Nat.shiftLeft_eq] at this
  exact this.symm
 unfold Yy
 have h3:a*2 ^ s ||| b<2 ^ 32:=Nat.or_lt_two_pow (by omega) (by omega)
 rw [BitVec.toNat_or]
 show w32 (((BitVec.ofInt 32 _).toNat ||| (BitVec.ofInt 32 _).toNat:Nat):Int)=_
 rw [BitVec.ofInt_natCast,BitVec.ofInt_natCast,BitVec.toNat_ofNat,BitVec.toNat_ofNat,Nat.mod_eq_of_lt (by omega),Nat.mod_eq_of_lt (by omega),e]
 rw [e] at h3
 exact Ba (by omega) (by omega)
theorem MAd {e:Int} (h:R32 e):xr (ite ((IntKind.signed IntKind.u32)=true) (-(1:Int)) (IntKind.max IntKind.u32)) e=w32 (4294967295 - e):=by
 obtain ⟨h1,h2⟩:=h
 obtain ⟨n,rfl⟩:∃ n:Nat,e=(n:Int):=⟨e.toNat,by omega⟩
 have hn:n<4294967296:=by omega
 have e1:(ite ((IntKind.signed IntKind.u32)=true) (-(1:Int)) (IntKind.max IntKind.u32))=4294967295:=by decide
 rw [e1]
 unfold xr
 show w32 (((BitVec.ofInt 32 4294967295 ^^^ BitVec.ofInt 32 (n:Int)).toNat:Nat):Int)=_
 have e2:BitVec.ofInt 32 4294967295=BitVec.allOnes 32:=by decide
 rw [e2,BitVec.ofInt_natCast,BitVec.allOnes_xor,BitVec.toNat_not,BitVec.toNat_ofNat]
 rw [Qk,Qk]
 omega
def rt (low high x:Int):Int:=x / low+x % low*high
theorem NAd {low high x:Int} (h:R32 x) (hl:0<low) (hh:0<high) (hlh:low*high=4294967296):R32 (rt low high x):=by
 unfold R32 rt at *
 have h1:0≤x / low:=Int.ediv_nonneg h.1 (by omega)
 have h2:0≤x % low:=Int.emod_nonneg _ (by omega)
 have h3:x % low<low:=Int.emod_lt_of_pos _ hl
 have h4:x / low<high:=Int.ediv_lt_of_lt_mul hl (by rw [Int.mul_comm,hlh];exact h.2)
 have h5:0≤x % low*high:=Int.mul_nonneg h2 (by omega)
 have h6:x % low*high≤(low - 1)*high:=Int.mul_le_mul_of_nonneg_right (by omega) (by omega)
 have h7:(low - 1)*high=low*high - high:=by rw [Int.sub_mul,Int.one_mul]
 omega
theorem OAd {x:Int} (h:R32 x) (n:Nat) (hn:0<n) (hn2:n<32):Yy (w32 (x*2 ^ (32 - n))) (x / 2 ^ n)=rt (2 ^ n) (2 ^ (32 - n)) x:=by
 obtain ⟨h1,h2⟩:=h
 obtain ⟨y,rfl⟩:∃ y:Nat,x=(y:Int):=⟨x.toNat,by omega⟩
 have hy:y<4294967296:=by omega
 have e0:(4294967296:Nat)=2 ^ n*2 ^ (32 - n):=by rw [←Nat.pow_add,show n+(32 - n)=32 by omega]
 have e1:w32 ((y:Int)*2 ^ (32 - n))=((y % 2 ^ n*2 ^ (32 - n):Nat):Int):=by
  rw [Qk]
  have h5:((y:Int)*2 ^ (32 - n))=((y*2 ^ (32 - n):Nat):Int):=by push_cast;rfl
  have h6:y*2 ^ (32 - n) % 4294967296=y % 2 ^ n*2 ^ (32 - n):=by rw [e0,Nat.mul_mod_mul_right]
  rw [h5,←h6]
  omega
 have e2:((y:Int) / 2 ^ n)=((y / 2 ^ n:Nat):Int):=by push_cast;rfl
 have hp:0<2 ^ n:=Nat.two_pow_pos n
 have hp2:0<2 ^ (32 - n):=Nat.two_pow_pos _
 have hm:y % 2 ^ n<2 ^ n:=Nat.mod_lt _ hp
 have hd:y / 2 ^ n<2 ^ (32 - n):=Nat.div_lt_of_lt_mul (by rw [←e0];exact hy)
 rw [e1,e2,DAS hd (by rw [e0];exact Nat.mul_lt_mul_of_pos_right hm hp2) (Nat.lt_of_le_of_lt (Nat.div_le_self _ _) hy)]
 unfold rt
 push_cast
 omega
def sg0 (x:Int):Int:=xr (xr (rt 128 33554432 x) (rt 262144 16384 x)) (x / 8)
def sg1 (x:Int):Int:=xr (xr (rt 131072 32768 x) (rt 524288 8192 x)) (x / 1024)
def ep1 (x:Int):Int:=xr (xr (rt 64 67108864 x) (rt 2048 2097152 x)) (rt 33554432 128 x)
def ep0 (x:Int):Int:=xr (xr (rt 4 1073741824 x) (rt 8192 524288 x)) (rt 4194304 1024 x)
def PAd (w:List Int) (t:Nat):Int:=w32 (w32 (w32 (sg1 (w.getD (t - 2) 0)+w.getD (t - 7) 0)+sg0 (w.getD (t - 15) 0))+w.getD (t - 16) 0)
def sched (w:List Int):Nat→List Int
 | 0=>w
 | n+1=>sched w n++[PAd (sched w n) (16+n)]
theorem Zy {w:List Int} (h:w.length=16) (n:Nat):(sched w n).length=16+n:=by
 induction n with
 | zero=>exact h
 | succ n ih=>simp [sched,ih];omega
theorem JAA {w:List Int} (h:∀ x ∈ w,R32 x) (n:Nat):∀ x ∈ sched w n,R32 x:=by
 induction n with
 | zero=>exact h
 | succ n ih=>
  intro x hx
  rw [sched,List.mem_append,List.mem_singleton] at hx
  rcases hx with hx | rfl
  ·exact ih x hx
  ·exact QZ _
theorem Az {l:List Int} (h:∀ x ∈ l,R32 x) (i:Nat):R32 (l.getD i 0):=by
 by_cases hi:i<l.length
 ·rw [getD_at hi];exact h _ (List.getElem_mem hi)
 ·have:l.getD i 0=0:=by simp [List.getD,List.getElem?_eq_none (Nat.le_of_not_lt hi)]
  rw [this];unfold R32;omega
structure Reg where
 a:Int
 b:Int
 c:Int
 d:Int
 e:Int
 f:Int
 g:Int
 h:Int
def Reg.ok (r:Reg):Prop:=R32 r.a∧R32 r.b∧R32 r.c∧R32 r.d∧R32 r.e∧R32 r.f∧R32 r.g∧R32 r.h
def Reg.l (r:Reg):List Int:=[r.a,r.b,r.c,r.d,r.e,r.f,r.g,r.h]
theorem Reg.Bz (r:Reg):r.l.length=8:=rfl
def t1 (r:Reg) (k w:Int):Int:=w32 (w32 (w32 (w32 (r.h+ep1 r.e)+xr (an r.e r.f) (an (w32 (4294967295 - r.e)) r.g))+k)+w)
def t2 (r:Reg):Int:=w32 (ep0 r.a+xr (xr (an r.a r.b) (an r.a r.c)) (an r.b r.c))
def Uc (r:Reg) (k w:Int):Reg:=⟨w32 (t1 r k w+t2 r),r.a,r.b,r.c,w32 (r.d+t1 r k w),r.e,r.f,r.g⟩
theorem QAd {r:Reg} (h:r.ok) (k w:Int):(Uc r k w).ok:=⟨QZ _,h.1,h.2.1,h.2.2.1,QZ _,h.2.2.2.2.1,h.2.2.2.2.2.1,h.2.2.2.2.2.2.1⟩
def AZ (K W:List Int) (r:Reg):Nat→Reg
 | 0=>r
 | n+1=>Uc (AZ K W r n) (K.getD n 0) (W.getD n 0)
theorem IAS (K W:List Int) {r:Reg} (h:r.ok) (n:Nat):(AZ K W r n).ok:=by
 induction n with
 | zero=>exact h
 | succ n ih=>exact QAd ih _ _
def Rk (s r:Reg):Reg:=⟨w32 (s.a+r.a),w32 (s.b+r.b),w32 (s.c+r.c),w32 (s.d+r.d),w32 (s.e+r.e),w32 (s.f+r.f),w32 (s.g+r.g),w32 (s.h+r.h)⟩
theorem RAd (s r:Reg):(Rk s r).ok:=⟨QZ _,QZ _,QZ _,QZ _,QZ _,QZ _,QZ _,QZ _⟩
def keysL:List Int:=[1116352408,1899447441,3049323471,3921009573,961987163,1508970993,2453635748,2870763221,3624381080,310598401,607225278,1426881987,1925078388,2162078206,2614888103,3248222580,3835390401,4022224774,264347078,604807628,770255983,1249150122,1555081692,1996064986,2554220882,2821834349,2952996808,3210313671,3336571891,3584528711,113926993,338241895,666307205,773529912,1294757372,1396182291,1695183700,1986661051,2177026350,2456956037,2730485921,2820302411,3259730800,3345764771,3516065817,3600352804,4094571909,275423344,430227734,506948616,659060556,883997877,958139571,1322822218,1537002063,1747873779,1955562222,2024104815,2227730452,2361852424,2428436474,2756734187,3204031479,3329325298]
def be4 (a b c d:Int):Int:=a*16777216+b*65536+c*256+d
def wordAt (l:List Int) (i:Nat):Int:=be4 (l.getD (4*i) 0) (l.getD (4*i+1) 0) (l.getD (4*i+2) 0) (l.getD (4*i+3) 0)
def ZX (l:List Int) (n:Nat):List Int:=(List.range n).map (wordAt l)
theorem Zf (l:List Int) (n:Nat):(ZX l n).length=n:=by simp [ZX]
theorem JAS (l:List Int) (n:Nat):ZX l (n+1)=ZX l n++[wordAt l n]:=by simp [ZX,List.range_succ]
theorem SAd {a b c d:Int} (ha:0≤a∧a≤255) (hb:0≤b∧b≤255) (hc:0≤c∧c≤255) (hd:0≤d∧d≤255):R32 (be4 a b c d):=by unfold R32 be4;omega
theorem TAd {l:List Int} (h:YX l) (i:Nat):R32 (wordAt l i):=SAd (LZ h _) (LZ h _) (LZ h _) (LZ h _)
theorem IAK {l:List Int} (h:YX l) (n:Nat):∀ x ∈ ZX l n,R32 x:=by
 intro x hx
 simp only [ZX,List.mem_map] at hx
 obtain ⟨i,_,rfl⟩:=hx
 exact TAd h i
def comp (s:Reg) (b:List Int):Reg:=Rk s (AZ keysL (sched (ZX b 16) 48) s 64)
theorem KAS (s:Reg) (b:List Int):(comp s b).ok:=RAd _ _
def comps:Nat→Reg→List Int→Reg
 | 0,s,_=>s
 | n+1,s,b=>comps n (comp s (b.take 64)) (b.drop 64)
theorem Uk {s:Reg} (h:s.ok):∀ (n:Nat) (b:List Int),(comps n s b).ok:=by
 intro n
 induction n generalizing s with
 | zero=>intro b;exact h
 | succ n ih=>intro b;exact ih (KAS _ _) _
theorem LAS (n m:Nat):∀ (s:Reg) (b:List Int),comps (n+m) s b=comps m (comps n s b) (b.drop (64*n)):=by
 induction n with
 | zero=>intro s b;simp [comps]
 | succ n ih=>
  intro s b
  rw [Nat.add_right_comm,comps,comps,ih,List.drop_drop]
  congr 2
  omega
theorem UAd (n:Nat):∀ (s:Reg) (b c:List Int),64*n≤b.length→comps n s (b++c)=comps n s b:=by
 induction n with
 | zero=>intro s b c _;rfl
 | succ n ih=>
  intro s b c h
  rw [comps,comps,List.take_append_of_le_length (by omega),List.drop_append_of_le_length (by omega),ih _ _ _ (by simp;omega)]
def four (x:Int):List Int:=[x / 16777216,x / 65536 % 256,x / 256 % 256,x % 256]
theorem Dk {x:Int} (h:R32 x):YX (four x):=by
 intro n hn
 unfold R32 at h
 simp only [four,List.mem_cons,List.not_mem_nil,or_false] at hn
 rcases hn with rfl | rfl | rfl | rfl <;> omega
def VX (ws:List Int):List Int:=ws.flatMap four
theorem Tn (ws:List Int):(VX ws).length=4*ws.length:=by
 induction ws with
 | nil=>rfl
 | cons w ws ih=>
  rw [show VX (w::ws)=four w++VX ws from rfl,List.length_append,ih]
  simp only [four,List.length_cons,List.length_nil];omega
theorem JAK {ws:List Int} (h:∀ x ∈ ws,R32 x):YX (VX ws):=by
 intro n hn
 simp only [VX,List.mem_flatMap] at hn
 obtain ⟨x,hx,hn⟩:=hn
 exact Dk (h x hx) n hn
theorem MAS (a b:List Int):VX (a++b)=VX a++VX b:=by simp [VX]
theorem VAd {x:Int} (h:R32 x):be4 (x / 16777216) (x / 65536 % 256) (x / 256 % 256) (x % 256)=x:=by unfold R32 at h;unfold be4;omega
theorem NAS:∀ {ws:List Int} (_:∀ x ∈ ws,R32 x) {i:Nat} (hi:i<ws.length),wordAt (VX ws) i=ws[i]
 | w::ws,h,0,_=>by
  have:=VAd (h w (List.mem_cons_self ..))
  simpa [wordAt,VX,four] using this
 | w::ws,h,i+1,hi=>by
  have ih:=NAS (ws:=ws) (fun x hx=>h x (List.mem_cons_of_mem _ hx)) (i:=i) (by simpa using hi)
  rw [List.getElem_cons_succ,←ih]
  have e:∀ j,(VX (w::ws)).getD (j+4) 0=(VX ws).getD j 0:=fun j=>by simp [VX,four,List.getD]
  unfold wordAt
  rw [show 4*(i+1)=4*i+4 by omega,show 4*i+4+1=(4*i+1)+4 by omega,show 4*i+4+2=(4*i+2)+4 by omega,show 4*i+4+3=(4*i+3)+4 by omega,e,e,e,e]
theorem WAd {ws:List Int} (h:∀ x ∈ ws,R32 x):ZX (VX ws) ws.length=ws:=by
 apply List.ext_getElem
 ·rw [Zf]
 ·intro i h1 h2
  simp only [ZX,List.getElem_map,List.getElem_range]
  exact NAS h h2
theorem Reg.Vk {r:Reg} (h:r.ok):∀ x ∈ r.l,R32 x:=by
 intro x hx
 simp only [Reg.l,List.mem_cons,List.not_mem_nil,or_false] at hx
 obtain ⟨h1,h2,h3,h4,h5,h6,h7,h8⟩:=h
 rcases hx with rfl | rfl | rfl | rfl | rfl | rfl | rfl | rfl <;> assumption
def Fb:Reg:=⟨1779033703,3144134277,1013904242,2773480762,1359893119,2600822924,528734635,1541459225⟩
theorem Bh:Fb.ok:=by unfold Reg.ok R32 Fb;decide
def Xc (n:Int):List Int:=[0,0,0,n / 4294967296 % 256,n / 16777216 % 256,n / 65536 % 256,n / 256 % 256,n % 256]
def CY (n:Nat):List Int:=128::(List.replicate ((119 - n % 64) % 64) 0++Xc (8*(n:Int)))
theorem KAA (n:Nat):(CY n).length=9+(119 - n % 64) % 64:=by simp [CY,Xc];omega
theorem XAd (n:Nat):(n+(CY n).length) % 64=0:=by rw [KAA];omega
theorem KAK (n:Nat):YX (CY n):=by
 intro x hx
 simp only [CY,Xc,List.mem_cons,List.mem_append,List.mem_replicate,List.not_mem_nil,or_false] at hx
 omega
def Qa (b:List Int):List Int:=VX (comps ((b.length+(CY b.length).length) / 64) Fb (b++CY b.length)).l
def BZ (s:ByteArray):ByteArray:=ofBytes (Qa (bs s))
theorem LAK (b:List Int):(Qa b).length=32:=by rw [Qa,Tn];rfl
theorem OAS (b:List Int):YX (Qa b):=JAK (Reg.Vk (Uk Bh _ _))
theorem Ag (s:ByteArray):(BZ s).size=32:=by rw [BZ,ofBytes_size,LAK]
theorem LAA (s:ByteArray):bs (BZ s)=Qa (bs s):=SN (OAS _)
theorem YAd {x:Int} (h:R32 x):[w8 (w32 (x.tdiv 16777216)),w8 ((w32 (x.tdiv 65536)).tmod 256),w8 ((w32 (x.tdiv 256)).tmod 256),w8 (x.tmod 256)]=four x:=by
 obtain ⟨h1,h2⟩:=h
 rw [Int.tdiv_eq_ediv_of_nonneg h1,Int.tdiv_eq_ediv_of_nonneg h1,Int.tdiv_eq_ediv_of_nonneg h1,Int.tmod_eq_emod_of_nonneg h1]
 rw [Ba (n:=x / 16777216) (by omega) (by omega),Ba (n:=x / 65536) (by omega) (by omega),Ba (n:=x / 256) (by omega) (by omega)]
 rw [Int.tmod_eq_emod_of_nonneg (by omega),Int.tmod_eq_emod_of_nonneg (by omega)]
 simp only [four,w8_mod,List.cons.injEq,and_true]
 omega
theorem MAK {ws:List Int} (h:∀ x ∈ ws,R32 x) (hl:ws.length≤1000000000000):Jb ws=some (ofBytes (VX ws)):=by
 have key:=loopN (A:=Unit) (n:=ws.length) (Lp:=Hq) (st:=fun i _=>.c0 ws (i:Int) (VX (ws.take i))) (Inv:=fun _ _=>True) (out:=fun _ _=>some (ofBytes (VX ws)))
  (fun m _ _=>by
   simp only [Hq,U3]
   rw [FN (by simp),List.take_length])
  (fun m i _ hi _=>.inr ⟨(),by
   have e:w64 ((i:Int)+1)=((i+1:Nat):Int):=by rw [w64_id (by omega) (by omega)];rfl
   simp only [Hq,U3,e,Int.toNat_natCast]
   rw [TB (by simp;omega),TB (by simp;omega),TB (by rw [Tn,List.length_take];simp;omega)]
   rw [getD_at hi,YAd (h _ (List.getElem_mem hi)),take_at hi,MAS]
   simp [VX],trivial,rfl⟩)
 exact key gas 0 () (Nat.zero_le _) (gas_lt (by omega)) trivial
def Bg:SHasher:=⟨ofBytes (VX Fb.l),⟨#[]⟩,0⟩
theorem ZAd:Jq=some Bg:=by
 have h:=MAK (ws:=Fb.l) (Reg.Vk Bh) (by decide)
 have e:O3=some Fb.l:=rfl
 simp only [Jq,NAD,e,h,Option.bind_some]
 rfl
theorem PAS {h:SHasher} (h1:h.fState.size=32) (h2:h.fRest.size<64) (h3:0≤h.fCount∧h.fCount≤1000000000) (h4:h.fCount % 64=(h.fRest.size:Int)):Ua h=some true:=by
 have e:NM h.fCount 0 1000000000=true:=by rw [WX];omega
 simp only [Ua,OAD,Aa,Option.bind_some,e]
 rw [TB (by simp;omega),TB (by simp;omega),cond_true,Int.tmod_eq_emod_of_nonneg h3.1,h4]
 simp
theorem AAe {s:ByteArray} {i:Nat} (h:4*i+4≤s.size) (hs:s.size≤9000000000000000000):Zh s ((4*i:Nat):Int)=some (wordAt (bs s) i):=by
 have hb:=Qb s
 have e1:w64 (((4*i:Nat):Int)+1)=((4*i+1:Nat):Int):=by rw [w64_id (by omega) (by omega)];rfl
 have e2:w64 (((4*i:Nat):Int)+2)=((4*i+2:Nat):Int):=by rw [w64_id (by omega) (by omega)];rfl
 have e3:w64 (((4*i:Nat):Int)+3)=((4*i+3:Nat):Int):=by rw [w64_id (by omega) (by omega)];rfl
 simp only [Zh,PAD,e1,e2,e3]
 rw [TB (by simp;omega),TB (by simp;omega),TB (by simp;omega),TB (by simp;omega)]
 rw [Oc (by omega),Oc (by omega),Oc (by omega),Oc (by omega)]
 have b0:=LZ hb (4*i)
 have b1:=LZ hb (4*i+1)
 have b2:=LZ hb (4*i+2)
 have b3:=LZ hb (4*i+3)
 unfold wordAt be4
 simp only [Qk]
 congr 1
 omega
theorem QAS {s:ByteArray} (hs:s.size≤1000000000000):UZ s=some (ZX (bs s) (s.size / 4)):=by
 have key:=loopN (A:=Unit) (n:=s.size / 4) (Lp:=Nq) (st:=fun i _=>.c0 s ((4*i:Nat):Int) (ZX (bs s) i)) (Inv:=fun _ _=>True) (out:=fun _ _=>some (ZX (bs s) (s.size / 4)))
  (fun m _ _=>by
   simp only [Nq,Y3]
   rw [w64_id (by omega) (by omega),FN (by simp;omega)])
  (fun m i _ hi _=>.inr ⟨(),by
   have e:w64 (((4*i:Nat):Int)+4)=((4*(i+1):Nat):Int):=by rw [w64_id (by omega) (by omega)];omega
   simp only [Nq,Y3,e,AAe (s:=s) (i:=i) (by omega) (by omega),Option.bind_some,Zf,JAS]
   rw [TB (by simp;omega),TB (by simp;omega)],trivial,rfl⟩)
 exact key gas 0 () (Nat.zero_le _) (gas_lt (by omega)) trivial
theorem Ee {x low high:Int} (h:R32 x) (hl:0<low) (hh:0<high) (hlh:low*high=4294967296):Oq x low high=some (rt low high x):=by
 have hr:=NAd h hl hh hlh
 obtain ⟨h1,h2⟩:=h
 have e0:(!(low == 0))=true:=by simp;omega
 have d1:0≤x / low:=Int.ediv_nonneg h1 (by omega)
 have d2:0≤x % low*high:=Int.mul_nonneg (Int.emod_nonneg _ (by omega)) (by omega)
 unfold R32 rt at hr
 simp only [Oq,SAD,e0,cond_true,Int.tdiv_eq_ediv_of_nonneg h1,Int.tmod_eq_emod_of_nonneg h1]
 rw [Ba d1 (by omega),Ba d2 (by omega),Ba (by omega) (by omega)]
 rfl
theorem BAe {x:Int} (h:R32 x):Va x 131072 524288 1024 true=some (sg1 x):=by
 have e1:w32 (w32 ((2147483648:Int).tdiv 131072)*2)=32768:=by decide
 have e2:w32 (w32 ((2147483648:Int).tdiv 524288)*2)=8192:=by decide
 have e3:w32 (x.tdiv 1024)=x / 1024:=by
  obtain ⟨h1,h2⟩:=h
  rw [Int.tdiv_eq_ediv_of_nonneg h1,Ba (by omega) (by omega)]
 simp only [Va,Rl,e1,e2,e3,Ee h (low:=131072) (high:=32768) (by omega) (by omega) (by omega),Ee h (low:=524288) (high:=8192) (by omega) (by omega) (by omega),Option.bind_some,Nc]
 rfl
theorem CAe {x:Int} (h:R32 x):Va x 128 262144 8 true=some (sg0 x):=by
 have e1:w32 (w32 ((2147483648:Int).tdiv 128)*2)=33554432:=by decide
 have e2:w32 (w32 ((2147483648:Int).tdiv 262144)*2)=16384:=by decide
 have e3:w32 (x.tdiv 8)=x / 8:=by
  obtain ⟨h1,h2⟩:=h
  rw [Int.tdiv_eq_ediv_of_nonneg h1,Ba (by omega) (by omega)]
 simp only [Va,Rl,e1,e2,e3,Ee h (low:=128) (high:=33554432) (by omega) (by omega) (by omega),Ee h (low:=262144) (high:=16384) (by omega) (by omega) (by omega),Option.bind_some,Nc]
 rfl
theorem DAe {x:Int} (h:R32 x):Va x 64 2048 33554432 false=some (ep1 x):=by
 have e1:w32 (w32 ((2147483648:Int).tdiv 64)*2)=67108864:=by decide
 have e2:w32 (w32 ((2147483648:Int).tdiv 2048)*2)=2097152:=by decide
 have e3:w32 (w32 ((2147483648:Int).tdiv 33554432)*2)=128:=by decide
 simp only [Va,Rl,e1,e2,e3,Ee h (low:=64) (high:=67108864) (by omega) (by omega) (by omega),Ee h (low:=2048) (high:=2097152) (by omega) (by omega) (by omega),Ee h (low:=33554432) (high:=128) (by omega) (by omega) (by omega),Option.bind_some,Nc]
 rfl
theorem EAe {x:Int} (h:R32 x):Va x 4 8192 4194304 false=some (ep0 x):=by
 have e1:w32 (w32 ((2147483648:Int).tdiv 4)*2)=1073741824:=by decide
 have e2:w32 (w32 ((2147483648:Int).tdiv 8192)*2)=524288:=by decide
 have e3:w32 (w32 ((2147483648:Int).tdiv 4194304)*2)=1024:=by decide
 simp only [Va,Rl,e1,e2,e3,Ee h (low:=4) (high:=1073741824) (by omega) (by omega) (by omega),Ee h (low:=8192) (high:=524288) (by omega) (by omega) (by omega),Ee h (low:=4194304) (high:=1024) (by omega) (by omega) (by omega),Option.bind_some,Nc]
 rfl
theorem RAS (s r:Reg):∀ i,i<8→(Rk s r).l.getD i 0=w32 (s.l.getD i 0+r.l.getD i 0)
 | 0,_=>rfl | 1,_=>rfl | 2,_=>rfl | 3,_=>rfl | 4,_=>rfl | 5,_=>rfl | 6,_=>rfl | 7,_=>rfl
 | n+8,h=>by omega
theorem WAi (n:Nat) (h:n<9223372036854775807):∃ m,gas=m+n:=⟨gas - n,by have:=gas_lt h;omega⟩
theorem FAe (s r:Reg):∀ (j i m:Nat),i+j=8→IZ (m+j+1) (.c3 s.l (i:Int) r.l ((Rk s r).l.take i))=some (Rk s r).l:=by
 intro j
 induction j with
 | zero=>
  intro i m h
  obtain rfl:i=8:=by omega
  simp only [IZ,Qd]
  rfl
 | succ j ih=>
  intro i m h
  have e:w64 ((i:Int)+1)=((i+1:Nat):Int):=by rw [w64_id (by omega) (by omega)];rfl
  have hl:∀ q:Reg,q.l.length=8:=fun _=>rfl
  rw [show m+(j+1)+1=(m+j+1)+1 by omega]
  simp only [IZ,Qd,e,Int.toNat_natCast]
  rw [TB (by simp;omega),TB (by simp [hl];omega),TB (by simp [hl];omega),TB (by simp [hl];omega)]
  have h3:=ih (i+1) m (by omega)
  rw [take_at (by rw [hl];omega),←getD_at (by rw [hl];omega) 0,RAS _ _ _ (by omega)] at h3
  exact h3
def shL:Nat→List Int→List Int
 | 0,v=>v
 | i+1,v=>shL i (v.set (i+1) (v.getD i 0))
theorem GAe (t o W:List Int) (k T1 T2:Int) (hk:0≤k∧k<64):∀ (i m:Nat) (v:List Int),i<8→v.length=8→IZ (m+i+1) (.c2 t o k T1 T2 (i:Int) W v)=IZ m (.c1 t o (k+1) W (((shL i v).set 4 (w32 ((shL i v).getD 4 0+T1))).set 0 (w32 (T1+T2)))):=by
 intro i
 induction i with
 | zero=>
  intro m v _ hl
  have e:w64 (k+1)=k+1:=w64_id (by omega) (by omega)
  simp only [IZ,Qd,e]
  rw [FN (by simp),TB (by simp [hl]),TB (by simp [hl]),TB (by simp [hl])]
  rfl
 | succ i ih=>
  intro m v hi hl
  have e:w64 (((i+1:Nat):Int) - 1)=(i:Int):=by rw [w64_id (by omega) (by omega)];omega
  rw [show m+(i+1)+1=(m+i+1)+1 by omega]
  rw [IZ]
  simp only [Qd,e,Int.toNat_natCast]
  rw [TB (by simp;try omega),TB (by simp [hl];try omega),TB (by simp [hl];try omega),ih m _ (by omega) (by simp [hl])]
  rfl
theorem HAe (t W:List Int) (r:Reg) (hr:r.ok) (hW:∀ x ∈ W,R32 x) (hWl:W.length=64) (i m:Nat) (hi:i<64) :
  IZ (m+9) (.c1 t keysL (i:Int) W r.l)=IZ m (.c1 t keysL ((i:Int)+1) W (Uc r (keysL.getD i 0) (W.getD i 0)).l):=by
 obtain ⟨h1,h2,h3,h4,h5,h6,h7,h8⟩:=hr
 have hk:keysL.length=64:=rfl
 have g (q:Reg):q.l.getD 0 0=q.a∧q.l.getD 1 0=q.b∧q.l.getD 2 0=q.c∧q.l.getD 4 0=q.e∧q.l.getD 5 0=q.f∧q.l.getD 6 0=q.g∧q.l.getD 7 0=q.h:=⟨rfl,rfl,rfl,rfl,rfl,rfl,rfl⟩
 obtain ⟨g0,g1,g2,g4,g5,g6,g7⟩:=g r
 have hl:r.l.length=8:=rfl
 have z4:(4:Int).toNat=4:=rfl
 have z5:(5:Int).toNat=5:=rfl
 have z6:(6:Int).toNat=6:=rfl
 have z7:(7:Int).toNat=7:=rfl
 have z0:(0:Int).toNat=0:=rfl
 have z1:(1:Int).toNat=1:=rfl
 have z2:(2:Int).toNat=2:=rfl
 rw [show m+9=(m+7+1)+1 by omega,IZ]
 simp only [Qd,z0,z1,z2,z4,z5,z6,z7,g0,g1,g2,g4,g5,g6,g7,hl,hk,hWl,DAe h5,EAe h1,Option.bind_some,Nc,ZAJ,Int.toNat_natCast]
 rw [TB (by simp;omega),TB (by simp),TB (by simp),TB (by simp),TB (by simp),TB (by simp;omega),TB (by simp;omega),TB (by simp),TB (by simp),TB (by simp),TB (by simp),TB (by simp),TB (by simp),TB (by simp)]
 exact GAe t keysL W (i:Int) (t1 r (keysL.getD i 0) (W.getD i 0)) (t2 r) (by omega) 7 m r.l (by omega) rfl
theorem IAe (s:Reg) (hs:s.ok) (W:List Int) (hW:∀ x ∈ W,R32 x) (hWl:W.length=64):∀ (j i m:Nat),i+j=64→IZ (m+9*j+10) (.c1 s.l keysL (i:Int) W (AZ keysL W s i).l)=some (Rk s (AZ keysL W s 64)).l:=by
 intro j
 induction j with
 | zero=>
  intro i m h
  obtain rfl:i=64:=by omega
  rw [show m+9*0+10=(m+8+1)+1 by omega,IZ]
  simp only [Qd]
  rw [FN (by simp)]
  exact FAe s _ 8 0 m (by omega)
 | succ j ih=>
  intro i m h
  rw [show m+9*(j+1)+10=(m+9*j+10)+9 by omega,HAe s.l W _ (IAS keysL W hs i) hW hWl i _ (by omega)]
  exact ih (i+1) m (by omega)
theorem JAe (s:Reg) (hs:s.ok) (w:List Int) (hw:∀ x ∈ w,R32 x) (hwl:w.length=16):∀ (j i m:Nat),i+j=48→IZ (m+9*64+10+1+j) (.c0 s.l keysL ((16+i:Nat):Int) (sched w i))=some (Rk s (AZ keysL (sched w 48) s 64)).l:=by
 intro j
 induction j with
 | zero=>
  intro i m h
  obtain rfl:i=48:=by omega
  rw [show m+9*64+10+1+0=(m+9*64+10)+1 by omega,IZ]
  simp only [Qd]
  rw [FN (by simp),TB (by simp [Reg.l])]
  exact IAe s hs _ (JAA hw 48) (Zy hwl 48) 64 0 m (by omega)
 | succ j ih=>
  intro i m h
  have hl:=Zy hwl i
  have hr:=JAA hw i
  have e2:w64 (((16+i:Nat):Int) - 2)=((16+i - 2:Nat):Int):=by rw [w64_id (by omega) (by omega)];omega
  have e7:w64 (((16+i:Nat):Int) - 7)=((16+i - 7:Nat):Int):=by rw [w64_id (by omega) (by omega)];omega
  have e15:w64 (((16+i:Nat):Int) - 15)=((16+i - 15:Nat):Int):=by rw [w64_id (by omega) (by omega)];omega
  have e16:w64 (((16+i:Nat):Int) - 16)=((16+i - 16:Nat):Int):=by rw [w64_id (by omega) (by omega)];omega
  have e1:w64 (((16+i:Nat):Int)+1)=((16+(i+1):Nat):Int):=by rw [w64_id (by omega) (by omega)];omega
  rw [show m+9*64+10+1+(j+1)=(m+9*64+10+1+j)+1 by omega,IZ]
  simp only [Qd,e1,e2,e7,e15,e16,Int.toNat_natCast,hl,BAe (Az hr _),CAe (Az hr _),Option.bind_some]
  rw [TB (by simp;omega),TB (by simp;omega),TB (by simp;omega),TB (by simp;omega),TB (by simp;omega),TB (by simp;omega)]
  exact ih (i+1) m (by omega)
theorem SAS {s:Reg} (hs:s.ok) {b:ByteArray} (hb:b.size=64):Xb s.l keysL b=some (comp s (bs b)).l:=by
 have hr:=IAK (Qb b) 16
 obtain ⟨m,hm⟩:∃ m,gas=m+9*64+10+1+48:=⟨gas - 635,by have:=gas_lt (n:=635) (by omega);omega⟩
 have h:=JAe s hs _ hr (Zf _ 16) 48 0 m (by omega)
 have e0:((16+0:Nat):Int)=16:=rfl
 rw [e0,show sched (ZX (bs b) 16) 0=ZX (bs b) 16 from rfl] at h
 rw [Xb,TAD,QAS (s:=b) (by omega),Option.bind_some,hb,hm]
 exact h
theorem TAS:Md=some keysL:=rfl
theorem KAe (b:List Int) (i:Nat):(b.take (64*i+64)).drop (64*i)=(b.drop (64*i)).take 64:=by
 rw [List.drop_take];congr 1;omega
theorem UAS (i:Nat) (s:Reg) (b:List Int):comps (i+1) s b=comp (comps i s b) ((b.drop (64*i)).take 64):=by
 rw [LAS i 1];rfl
theorem VAS {r:Reg} (h:r.ok):UZ (ofBytes (VX r.l))=some r.l:=by
 have hs:(ofBytes (VX r.l)).size=32:=by rw [ofBytes_size,Tn];rfl
 rw [QAS (by omega),hs,SN (JAK (Reg.Vk h))]
 exact congrArg some (WAd (Reg.Vk h))
theorem LAe {s:ByteArray} (hs:s.size≤1000000000):Tq Bg s=some ⟨ofBytes (VX (comps (s.size / 64) Fb (bs s)).l),s.extract (64*(s.size / 64)) s.size,(s.size:Int)⟩:=by
 have e0:Ua Bg=some true:=PAS (by rw [Bg,ofBytes_size,Tn];rfl) (by decide) (by decide) (by decide)
 have e1:((⟨#[]⟩:ByteArray)++s)=s:=Fa (by rw [NY];rfl)
 have key:=loopN (A:=Unit) (n:=s.size / 64) (Lp:=Rq) (st:=fun i _=>.c0 s s ((64*i:Nat):Int) Bg (⟨(⟨#[]⟩:ByteArray),(⟨#[]⟩:ByteArray),(0:Int)⟩:SHasher) (comps i Fb (bs s)).l keysL) (Inv:=fun _ _=>True)
  (out:=fun _ _=>some ⟨ofBytes (VX (comps (s.size / 64) Fb (bs s)).l),s.extract (64*(s.size / 64)) s.size,(s.size:Int)⟩)
  (fun m _ _=>by
   have hw:w64 (Bg.fCount+(s.size:Int))=(s.size:Int):=by
    show w64 ((0:Int)+(s.size:Int))=_
    rw [Int.zero_add,w64_id (by omega) (by omega)]
   rw [Rq]
   simp only [U4,hw,Int.toNat_natCast]
   rw [w64_id (by omega) (by omega),FN (by simp;omega),MAK (Reg.Vk (Uk Bh _ _)) (by simp [Reg.l]),Option.bind_some,TB (by simp;omega)])
  (fun m i _ hi _=>.inr ⟨(),by
   have e:w64 (((64*i:Nat):Int)+64)=((64*(i+1):Nat):Int):=by rw [w64_id (by omega) (by omega)];omega
   rw [Rq]
   simp only [U4,e,Int.toNat_natCast]
   rw [TB (by simp;omega),TB (by simp;omega),SAS (Uk Bh _ _) (by simp;omega),Option.bind_some,FZ,show 64*(i+1)=64*i+64 by omega,KAe,←UAS],trivial,rfl⟩)
 rw [Tq,VAD,e0,Option.bind_some,FN (by rfl)]
 have hw:w64 (Bg.fCount+(s.size:Int))=(s.size:Int):=by
  show w64 ((0:Int)+(s.size:Int))=_
  rw [Int.zero_add,w64_id (by omega) (by omega)]
 rw [hw,FN (by simp;omega),show Bg.fState=ofBytes (VX Fb.l) from rfl,VAS Bh,Option.bind_some,TAS,Option.bind_some,show Bg.fRest=⟨#[]⟩ from rfl,e1]
 rw [TB (by (have:(⟨#[]⟩:ByteArray).size=0:=rfl);simp only [this,decide_eq_true_eq];omega)]
 exact key gas 0 () (Nat.zero_le _) (gas_lt (by omega)) trivial
def Xk (b:Int):Nat→List Int
 | 0=>[]
 | i+1=>(b / 256 ^ i % 256)::Xk b i
def Fe:Nat→Nat
 | 0=>0
 | i+1=>Fe i+(i+2)
theorem MAe (x:Int) (j:Nat):x / 256 / 256 ^ j=x / 256 ^ (j+1):=by
 rw [Int.ediv_ediv_of_nonneg (by omega)]
 congr 1
 rw [Int.pow_succ,Int.mul_comm]
theorem NAe (h:SHasher) (b:Int):∀ (j k i m:Nat) (x:Int) (t:List Int),k+j=i→i≤7→0≤x→x≤9223372036854775807→t.length≤1000→
  JZ (m+j+1) (.c2 b (i:Int) x (k:Int) h t)=JZ m (.c1 b ((i:Int) - 1) h (t++[x / 256 ^ j % 256])):=by
 intro j
 induction j with
 | zero=>
  intro k i m x t hk hi hx hx2 ht
  have e:w64 ((i:Int) - 1)=(i:Int) - 1:=w64_id (by omega) (by omega)
  have e2:w8 (x.tmod 256)=x % 256:=by rw [Int.tmod_eq_emod_of_nonneg hx,w8_id (by omega) (by omega)]
  rw [JZ]
  simp only [Td,e,e2]
  rw [FN (by simp;omega),TB (by simp;omega),Int.pow_zero,Int.ediv_one]
 | succ j ih=>
  intro k i m x t hk hi hx hx2 ht
  have e:w64 ((k:Int)+1)=((k+1:Nat):Int):=by rw [w64_id (by omega) (by omega)];rfl
  have e2:w64 (x.tdiv 256)=x / 256:=by rw [Int.tdiv_eq_ediv_of_nonneg hx,w64_id (by omega) (by omega)]
  rw [show m+(j+1)+1=(m+j+1)+1 by omega,JZ]
  simp only [Td,e,e2]
  rw [TB (by simp;omega),ih (k+1) i m (x / 256) t (by omega) hi (by omega) (by omega) ht,MAe]
theorem OAe (h:SHasher) (b:Int) (hb:0≤b) (hb2:b≤9223372036854775807):∀ (i m:Nat) (t:List Int),i≤8→t.length+i≤900→JZ (m+Fe i) (.c1 b ((i:Int) - 1) h t)=JZ m (.c1 b (-1) h (t++Xk b i)):=by
 intro i
 induction i with
 | zero=>intro m t _ _;simp [Fe,Xk]
 | succ i ih=>
  intro m t hi ht
  rw [Fe,show m+(Fe i+(i+2))=(m+Fe i)+i+1+1 by omega,JZ,show ((i+1:Nat):Int) - 1=(i:Int) by omega]
  simp only [Td]
  rw [TB (by simp),show (0:Int)=((0:Nat):Int) from rfl,NAe h b i 0 i _ b t (by omega) (by omega) hb hb2 (by omega),ih m _ (by omega) (by simp;omega)]
  simp [Xk]
theorem PAe {b:Int} (h:0≤b) (h2:b<1099511627776):Xk b 8=Xc b:=by
 simp only [Xk,Xc,List.cons.injEq,and_true]
 omega
theorem QAe (r:Reg) (hr:r.ok) (t:List Int) (ht:YX t) (n:Nat) (hn:t.length=64*n) (hn2:n≤100):∀ (j i m:Nat),i+j=n→JZ (m+j+1) (.c3 ((64*i:Nat):Int) t (comps i r t).l keysL)=some (ofBytes (VX (comps n r t).l)):=by
 intro j
 induction j with
 | zero=>
  intro i m h
  obtain rfl:i=n:=by omega
  rw [JZ]
  simp only [Td]
  rw [FN (by simp;omega),MAK (Reg.Vk (Uk hr _ _)) (by simp [Reg.l]),Option.bind_some]
 | succ j ih=>
  intro i m h
  have e:w64 (((64*i:Nat):Int)+64)=((64*(i+1):Nat):Int):=by rw [w64_id (by omega) (by omega)];omega
  have hl:((t.drop (64*i)).take (64*(i+1) - 64*i)).length=64:=by rw [List.length_take,List.length_drop];omega
  have hby:YX ((t.drop (64*i)).take (64*(i+1) - 64*i)):=fun x hx=>ht x (List.mem_of_mem_drop (List.mem_of_mem_take hx))
  rw [show m+(j+1)+1=(m+j+1)+1 by omega,JZ]
  simp only [Td,e,Int.toNat_natCast]
  rw [TB (by simp;omega),TB (by simp;omega),SAS (Uk hr _ _) (by rw [ofBytes_size,hl]),Option.bind_some,SN hby,show 64*(i+1) - 64*i=64 by omega,←UAS]
  exact ih (i+1) m (by omega)
theorem RAe (h:SHasher) (r:List Int) (hr:r.length<64):∀ (j i m:Nat),i+j=(119 - r.length) % 64→JZ (m+j+1) (.c0 h (r++128::List.replicate i 0))=JZ m (.c1 (w64 (8*h.fCount)) 7 h (r++128::List.replicate ((119 - r.length) % 64) 0)):=by
 intro j
 induction j with
 | zero=>
  intro i m hi
  rw [JZ]
  simp only [Td]
  rw [FN (by rw [Int.tmod_eq_emod_of_nonneg (by omega)];simp;omega),show i=(119 - r.length) % 64 by omega]
 | succ j ih=>
  intro i m hi
  rw [show m+(j+1)+1=(m+j+1)+1 by omega,JZ]
  simp only [Td]
  rw [TB (by rw [Int.tmod_eq_emod_of_nonneg (by omega)];simp;omega),TB (by simp;omega)]
  have e:(r++128::List.replicate i (0:Int))++[0]=r++128::List.replicate (i+1) 0:=by
   rw [List.replicate_succ'];simp
  rw [e]
  exact ih (i+1) m (by omega)
theorem SAe {r:Reg} (hr:r.ok) {s:ByteArray} {n:Nat} (hs:s.size=n % 64) (hn:n≤1000000000):Wq ⟨ofBytes (VX r.l),s,(n:Int)⟩=some (ofBytes (VX (comps ((s.size+(CY n).length) / 64) r (bs s++CY n)).l)):=by
 have e0:Ua ⟨ofBytes (VX r.l),s,(n:Int)⟩=some true:=PAS (by rw [ofBytes_size,Tn];rfl) (by simp only;omega) (by simp only;omega) (by simp only;omega)
 have hl:=bs_len s
 obtain ⟨m,hm⟩:∃ m,gas=((m+((s.size+(CY n).length) / 64)+1+1+Fe 8)+((119 - (bs s).length) % 64)+1):=⟨gas - (((s.size+(CY n).length) / 64)+1+1+Fe 8+((119 - (bs s).length) % 64)+1),by
  have:=gas_lt (n:=1000) (by omega)
  have h2:=KAA n
  have h3:Fe 8=44:=rfl
  omega⟩
 have hw:w64 (8*(n:Int))=8*(n:Int):=w64_id (by omega) (by omega)
 have hrep:(bs s++128::List.replicate ((119 - (bs s).length) % 64) 0)++Xk (8*(n:Int)) 8=bs s++CY n:=by
  rw [PAe (by omega) (by omega),CY,hl,hs,show (119 - n % 64) % 64=(119 - n % 64) % 64 from rfl]
  simp
 rw [Wq,XAD,e0,Option.bind_some,FN (by rfl),TB (by simp;omega),Xy,TB (by rw [hl];simp;omega),hm]
 have h0:=RAe ⟨ofBytes (VX r.l),s,(n:Int)⟩ (bs s) (by omega) ((119 - (bs s).length) % 64) 0 (m+((s.size+(CY n).length) / 64)+1+1+Fe 8) (by omega)
 rw [List.replicate_zero] at h0
 rw [h0,show (7:Int)=((8:Nat):Int) - 1 from rfl]
 simp only [hw]
 rw [OAe _ _ (by omega) (by omega) 8 _ _ (by omega) (by simp;omega),hrep,JZ]
 simp only [Td]
 rw [FN (by simp),VAS hr,Option.bind_some,TAS,Option.bind_some]
 have hb:YX (bs s++CY n):=fun x hx=>by
  rcases List.mem_append.1 hx with hx | hx
  ·exact Qb s x hx
  ·exact KAK n x hx
 have hlen:(bs s++CY n).length=64*((s.size+(CY n).length) / 64):=by
  have:=XAd n
  rw [List.length_append,hl]
  omega
 exact QAe r hr _ hb _ hlen (by have:=KAA n;omega) ((s.size+(CY n).length) / 64) 0 m (by omega)
theorem TAe (b:List Int):comps ((b.length+(CY b.length).length) / 64) Fb (b++CY b.length)=comps ((b.length % 64+(CY b.length).length) / 64) (comps (b.length / 64) Fb b) (b.drop (64*(b.length / 64))++CY b.length):=by
 rw [show (b.length+(CY b.length).length) / 64=b.length / 64+(b.length % 64+(CY b.length).length) / 64 by omega,LAS,UAd _ _ _ _ (by omega),List.drop_append_of_le_length (by omega)]
theorem Dz {s:ByteArray} (hs:s.size≤1000000000):VZ s=some (BZ s):=by
 have h1:(s.extract (64*(s.size / 64)) s.size).size=s.size % 64:=by simp;omega
 have h:=SAe (Uk Bh (s.size / 64) (bs s)) (s:=s.extract (64*(s.size / 64)) s.size) h1 hs
 rw [FZ,h1,List.take_of_length_le (by rw [bs_len];omega)] at h
 rw [VZ,YAD,ZAd,Option.bind_some,LAe hs,Option.bind_some,h,Option.bind_some,BZ,Qa,TAe,bs_len]
theorem UAe {n:Nat} {x:Int} (h:n≤1000000000):Zq (n:Int) x=some (ofBytes (List.replicate n x)):=by
 have key:∀ (j i m:Nat),i+j=n→Yq (m+j+1) (.c0 (n:Int) x (i:Int) (List.replicate i x++List.replicate (n - i) 0))=some (ofBytes (List.replicate n x)):=by
  intro j
  induction j with
  | zero=>
   intro i m hi
   obtain rfl:i=n:=by omega
   rw [Yq]
   simp only [X4]
   rw [FN (by simp),Nat.sub_self,List.replicate_zero,List.append_nil]
  | succ j ih=>
   intro i m hi
   have e:w64 ((i:Int)+1)=((i+1:Nat):Int):=by rw [w64_id (by omega) (by omega)];rfl
   rw [show m+(j+1)+1=(m+j+1)+1 by omega,Yq]
   simp only [X4,e,Int.toNat_natCast]
   rw [TB (by simp;omega),TB (by simp;omega),show n - i=(n - (i+1))+1 by omega,List.replicate_succ,Nk (by simp)]
   have h2:=ih (i+1) m (by omega)
   rw [List.replicate_succ' (n:=i),List.append_assoc] at h2
   exact h2
 obtain ⟨m,hm⟩:∃ m,gas=m+n+1:=⟨gas - (n+1),by have:=gas_lt (n:=n+1) (by omega);omega⟩
 have h0:=key n 0 m (by omega)
 rw [List.replicate_zero,List.nil_append,Nat.sub_zero] at h0
 rw [Zq,AAE,TB (by simp;omega),hm]
 exact h0
def Zd:SBook:=⟨BZ ⟨#[]⟩,0,[],0,ofBytes (List.replicate 32 0),0⟩
theorem DAR:Ue=some Zd:=by
 rw [Ue,BAE,Dz (by decide),Option.bind_some,show (32:Int)=((32:Nat):Int) from rfl,UAe (by omega),Option.bind_some];rfl
def Dn (x y:SThing):Bool:=(x.fId == y.fId) && ((x.fKind == y.fKind) && ((x.fHidden == y.fHidden) && ((x.fFixed == y.fFixed) && ((x.fSigns == y.fSigns) && ((x.fWraps == y.fWraps) && (((ByteArray.toList x.fValue) == (ByteArray.toList y.fValue)) && ((x.fNext == y.fNext) && true)))))))
theorem KAR (x y:SThing):((x.fId == y.fId) && ((x.fKind == y.fKind) && ((x.fHidden == y.fHidden) && ((x.fFixed == y.fFixed) && ((x.fSigns == y.fSigns) && ((x.fWraps == y.fWraps) && (((ByteArray.toList x.fValue) == (ByteArray.toList y.fValue)) && ((x.fNext == y.fNext) && true))))))))=Dn x y:=rfl
theorem VAe {x y:SThing}:Dn x y=true↔x=y:=by
 simp only [Dn,Bool.and_eq_true,beq_iff_eq]
 constructor
 ·rintro ⟨h1,h2,h3,h4,h5,h6,h7,h8,_⟩
  have h7':x.fValue=y.fValue:=by
   have:=toList_inj (s:=x.fValue) (t:=y.fValue)
   rw [h7] at this
   simpa using this
  cases x;cases y;simp_all
 ·rintro rfl;simp
def PZ:List SThing→List SThing→Bool
 | [],[]=>true
 | x::a,y::b=>Dn x y && PZ a b
 | _,_=>false
theorem OAK:∀ {a b:List SThing},PZ a b=true↔a=b
 | [],[]=>by simp [PZ]
 | x::a,y::b=>by simp [PZ,VAe,OAK]
 | [],_::_=>by simp [PZ]
 | _::_,[]=>by simp [PZ]
theorem LAR {a b:List SThing} (h:a.length≠b.length):PZ a b=false:=by
 cases h2:PZ a b
 ·rfl
 ·rw [OAK] at h2;subst h2;exact absurd rfl h
def Ae (a b:SBook):Bool:=(a.fWord.toList == b.fWord.toList) && ((a.fTries == b.fTries) && (PZ a.fThings b.fThings && ((a.fLast == b.fLast) && ((a.fChain.toList == b.fChain.toList) && (a.fCount == b.fCount)))))
theorem XAi {a b:SBook}:Ae a b=true↔a=b:=by
 simp only [Ae,Bool.and_eq_true,toList_inj,decide_eq_true_eq,beq_iff_eq,OAK]
 constructor
 ·rintro ⟨h1,h2,h3,h4,h5,h6⟩
  cases a;cases b;simp_all
 ·rintro rfl;simp
theorem EAR {a b:SBook} (h0:a.fThings.length≤140737488351232):Ai a b=some (Ae a b):=by
 rw [Ai,DAE,Ae]
 by_cases hl:a.fThings.length=b.fThings.length
 ·have key:∀ (j i m:Nat),i+j=a.fThings.length→Ir (m+j+1) (.c0 (i:Int) a b)=some (PZ (a.fThings.drop i) (b.fThings.drop i)):=by
   intro j
   induction j with
   | zero=>
    intro i m h
    obtain rfl:i=a.fThings.length:=by omega
    rw [Ir]
    simp only [Z4]
    rw [FN (by simp),List.drop_length,hl,List.drop_length];rfl
   | succ j ih=>
    intro i m h
    have hi:i<a.fThings.length:=by omega
    have hi2:i<b.fThings.length:=by omega
    have e:w64 ((i:Int)+1)=((i+1:Nat):Int):=by rw [w64_id (by omega) (by omega)];rfl
    rw [show m+(j+1)+1=(m+j+1)+1 by omega,Ir]
    simp only [Z4,e,Int.toNat_natCast,getD_at hi,getD_at hi2,KAR,ih (i+1) m (by omega)]
    rw [TB (by simp;omega),TB (by simp;omega),TB (by simp;omega),drop_at hi,drop_at hi2,PZ]
    cases Dn a.fThings[i] b.fThings[i] <;> rfl
  obtain ⟨m,hm⟩:∃ m,gas=m+a.fThings.length+1:=⟨gas - (a.fThings.length+1),by have:=gas_lt (n:=a.fThings.length+1) (by omega);omega⟩
  have hz:=key a.fThings.length 0 m (by omega)
  rw [List.drop_zero,List.drop_zero,show ((0:Nat):Int)=0 from rfl] at hz
  have h1:((a.fThings.length:Int) != (b.fThings.length:Int))=false:=by rw [bne_eq_false_iff_eq];omega
  rw [h1,hm,hz]
  simp only [bne]
  cases a.fWord.toList == b.fWord.toList <;> cases a.fTries == b.fTries <;> cases PZ a.fThings b.fThings <;> cases a.fLast == b.fLast <;> cases a.fChain.toList == b.fChain.toList <;> cases a.fCount == b.fCount <;> rfl
 ·have h1:((a.fThings.length:Int) != (b.fThings.length:Int))=true:=by rw [bne_iff_ne];omega
  rw [h1,LAR hl]
  simp only [bne]
  cases a.fWord.toList == b.fWord.toList <;> cases a.fTries == b.fTries <;> cases a.fLast == b.fLast <;> cases a.fChain.toList == b.fChain.toList <;> cases a.fCount == b.fCount <;> rfl
theorem XAS {d:SDisk} {n:ByteArray} (h0:d.fFiles.length≤140737488351232):Ci d n=some (Nb d n):=by
 have key:∀ (j i m:Nat),i+j=d.fFiles.length→Kr (m+j+1) (.c0 n (i:Int) d)=some (match Ob (d.fFiles.drop i) n i with | some j=>(j:Int) | none=> -1):=by
  intro j
  induction j with
  | zero=>
   intro i m h
   obtain rfl:i=d.fFiles.length:=by omega
   rw [Kr]
   simp only [E5]
   rw [FN (by simp),List.drop_length];rfl
  | succ j ih=>
   intro i m h
   have hi:i<d.fFiles.length:=by omega
   have e:w64 ((i:Int)+1)=((i+1:Nat):Int):=by rw [w64_id (by omega) (by omega)];rfl
   rw [show m+(j+1)+1=(m+j+1)+1 by omega,Kr]
   simp only [E5,e,Int.toNat_natCast,getD_at hi,ih (i+1) m (by omega)]
   rw [TB (by simp;omega),TB (by simp;omega),drop_at hi,Ob]
   cases d.fFiles[i].fName.toList == n.toList <;> rfl
 obtain ⟨m,hm⟩:∃ m,gas=m+d.fFiles.length+1:=⟨gas - (d.fFiles.length+1),by have:=gas_lt (n:=d.fFiles.length+1) (by omega);omega⟩
 rw [Ci,EAE,hm,Nb]
 exact key d.fFiles.length 0 m (by omega)
theorem WAe {d:SDisk} {n:ByteArray} (h0:d.fFiles.length≤140737488351232):Lr d n=some (CV d n):=by
 rw [Lr,GAE,XAS h0,Option.bind_some,Nb,CV]
 cases h:Ob d.fFiles n 0 with
 | none=>rfl
 | some j=>
  have:=YAJ h
  simp only [Int.toNat_natCast]
  rw [FN (by simp),TB (by simp;omega)];rfl
def IK (n:Int):List Int:=if n > 127 then (128+n % 128)::IK (n / 128) else [w8 n]
termination_by n.toNat
decreasing_by omega
theorem YAS:∀ (k:Nat) (n:Int),n<128 ^ k→(IK n).length≤max k 1:=by
 intro k
 induction k with
 | zero=>intro n h;rw [IK,if_neg (by omega)];simp
 | succ k ih=>
  intro n h
  rw [IK]
  split
  ·rename_i hn
   have h2:n / 128<128 ^ k:=by
    rw [Int.pow_succ] at h
    exact Int.ediv_lt_of_lt_mul (by omega) h
   have:=ih _ h2
   simp only [List.length_cons]
   by_cases hk:k=0
   ·subst hk;simp at h2;try omega
   ·omega
  ·simp;try omega
theorem MZ {n:Int} (h:n≤9223372036854775807):(IK n).length≤10:=by
 have:=YAS 10 n (by (have:(128:Int) ^ 10=1180591620717411303424:=by decide);omega)
 omega
theorem Qc (n:Int):1≤(IK n).length:=by rw [IK];split <;> simp
theorem ZAS {n:Int} (h:n > 127) (h2:n≤9223372036854775807):w64 (n.tdiv 128)=n / 128∧w8 (w64 (n.tmod 128+128))=128+n % 128∧w8 (w64 (128+n.tmod 128))=128+n % 128:=by
 have e1:n.tdiv 128=n / 128:=Int.tdiv_eq_ediv_of_nonneg (by omega)
 have e2:n.tmod 128=n % 128:=Int.tmod_eq_emod_of_nonneg (by omega)
 refine ⟨by rw [e1,w64_id (by omega) (by omega)],?_,?_⟩
 ·rw [e2,w64_id (by omega) (by omega),w8_id (by omega) (by omega)];omega
 ·rw [e2,w64_id (by omega) (by omega),w8_id (by omega) (by omega)]
theorem Fg {n:Int} (h:n≤9223372036854775807):SY n=some (ofBytes (IK n)):=by
 have key:∀ (n:Int) (m:Nat) (out:List Int),n≤9223372036854775807→(IK n).length≤m→out.length+(IK n).length≤1000→Qr m (.c0 n out)=some (ofBytes (out++IK n)):=by
  intro n
  induction n using IK.induct with
  | case1 n hn ih=>
   intro m out h1 h2 h3
   rw [IK,if_pos hn] at h2 h3 ⊢
   simp only [List.length_cons] at h2 h3
   obtain ⟨m,rfl⟩:∃ k,m=k+1:=⟨m - 1,by omega⟩
   obtain ⟨e1,e2,_⟩:=ZAS hn h1
   simp only [Qr,F5,e1,e2]
   rw [show decide (n > 127)=true from decide_eq_true hn,show decide ((out.length+1)*1≤140737488355328)=true from decide_eq_true (by omega)]
   simp only [cond_true]
   rw [ih m _ (by omega) (by omega) (by simp;omega)]
   simp
  | case2 n hn=>
   intro m out h1 h2 h3
   rw [IK,if_neg hn] at h2 h3 ⊢
   simp at h2 h3
   obtain ⟨m,rfl⟩:∃ k,m=k+1:=⟨m - 1,by omega⟩
   simp only [Qr,F5]
   rw [show decide (n > 127)=false from decide_eq_false hn,show decide ((out.length+1)*1≤140737488355328)=true from decide_eq_true (by omega)]
   rfl
 have hl:=MZ h
 exact key n gas [] h (Nat.le_of_lt (gas_lt (by omega))) (by simp;omega)
def pw (k:Nat):Int:=128 ^ k
theorem Gg:pw 0=1:=rfl
theorem MAA (k:Nat):pw (k+1)=pw k*128:=Int.pow_succ ..
theorem Yk {k:Nat} (h:k<5):pw k=1∨pw k=128∨pw k=16384∨pw k=2097152∨pw k=268435456:=by
 rcases (by omega:k=0∨k=1∨k=2∨k=3∨k=4) with rfl | rfl | rfl | rfl | rfl
 ·exact .inl rfl
 ·exact .inr (.inl rfl)
 ·exact .inr (.inr (.inl rfl))
 ·exact .inr (.inr (.inr (.inl rfl)))
 ·exact .inr (.inr (.inr (.inr rfl)))
def Yc:Int×Int×Bool:=(0,0,false)
def RV (text:ByteArray) (a:Nat) (r:Int×Int×Bool):Prop:=r=Yc∨∃ v:Int,∃ q:Nat,r=(v,((q:Nat):Int),true)∧0≤v∧v≤1000000000∧a<q∧q≤text.size
def At (text:ByteArray) (p:Nat) (l:List Int):Prop:=∃ rest,(bs text).drop p=l++rest
theorem At.left {text:ByteArray} {p:Nat} {l m:List Int} (h:At text p (l++m)):At text p l:=by
 obtain ⟨r,hr⟩:=h;exact ⟨m++r,by rw [hr,List.append_assoc]⟩
theorem At.right {text:ByteArray} {p:Nat} {l m:List Int} (h:At text p (l++m)):At text (p+l.length) m:=by
 obtain ⟨r,hr⟩:=h;exact ⟨r,by rw [←List.drop_drop,hr,List.append_assoc,List.drop_left]⟩
theorem At.size {text:ByteArray} {p:Nat} {l:List Int} (h:At text p l):l=[]∨p+l.length≤text.size:=by
 obtain ⟨r,hr⟩:=h
 have:=congrArg List.length hr
 rw [List.length_drop,bs_len,List.length_append] at this
 cases l with
 | nil=>exact .inl rfl
 | cons x xs=>right;simp only [List.length_cons] at this ⊢;omega
theorem At.head {text:ByteArray} {p:Nat} {x:Int} {l:List Int} (h:At text p (x::l)):p<text.size∧bt text (p:Int)=x:=by
 have hs:p+(x::l).length≤text.size:=by rcases h.size with h | h;exact absurd h (by simp);exact h
 simp only [List.length_cons] at hs
 have hp:p<text.size:=by omega
 refine ⟨hp,?_⟩
 rw [IAA hp]
 obtain ⟨r,hr⟩:=h
 have hl:p<(bs text).length:=by rw [bs_len];exact hp
 rw [List.drop_eq_getElem_cons hl] at hr
 injection hr
theorem At.tail {text:ByteArray} {p:Nat} {x:Int} {l:List Int} (h:At text p (x::l)):At text (p+1) l:=At.right (l:=[x]) h
theorem At.extract {text:ByteArray} {p:Nat} {l:List Int} (h:At text p l) (hl:∀ n,n ∈ l→0≤n∧n≤255):text.extract p (p+l.length)=ofBytes l:=by
 apply Fa
 rw [FZ,SN hl]
 obtain ⟨r,hr⟩:=h
 rw [List.drop_take,hr]
 simp
theorem Ad:∀ (n:Int),0≤n→∀ x,x ∈ IK n→0≤x∧x≤255:=by
 intro n
 induction n using IK.induct with
 | case1 n hn ih=>
  intro h x hx
  rw [IK,if_pos hn] at hx
  rcases List.mem_cons.1 hx with rfl | hx
  ·omega
  ·exact ih (by omega) x hx
 | case2 n hn=>
  intro h x hx
  rw [IK,if_neg hn,w8_id h (by omega)] at hx
  rw [List.mem_singleton] at hx
  omega
theorem Ez {n:Int} (h:0≤n) (h2:n≤127):IK n=[n]:=by
 rw [IK,if_neg (by omega),w8_id h (by omega)]
theorem AAT {n:Int} (h:n≤1000000000):(IK n).length≤5:=by
 have:=YAS 5 n (by (have:(128:Int) ^ 5=34359738368:=by decide);omega)
 omega
theorem NAA {text:ByteArray} {a k m:Nat} {n s:Int} (hs:text.size≤140737488351232) (ha:a≤text.size) (hi:text.size≤a+k∨5≤k):Ud (m+1) (.c0 text a n s ((a+k:Nat):Int))=some Yc:=by
 simp only [Ud,G5]
 by_cases h:a+k<text.size
 ·rw [show decide (((a+k:Nat):Int)<(text.size:Int))=true from decide_eq_true (by omega),w64_id (n:=(a:Int)+5) (by omega) (by omega),show decide (((a+k:Nat):Int)<(a:Int)+5)=false from decide_eq_false (by omega)]
  rfl
 ·rw [show decide (((a+k:Nat):Int)<(text.size:Int))=false from decide_eq_false (by omega)]
  rfl
theorem Dh {k:Nat} {n b:Int} (hk:k<5) (h0:0≤n) (h1:n<pw k) (hb:0≤b∧b≤255) :
  (b<128→b.tmod 128=b∧w64 (b*pw k)=b*pw k∧w64 (n+b*pw k)=n+b*pw k∧0≤n+b*pw k∧n+b*pw k<pw (k+1))∧
  (¬ b<128→b.tmod 128=b - 128∧w64 ((b - 128)*pw k)=(b - 128)*pw k∧w64 (n+(b - 128)*pw k)=n+(b - 128)*pw k∧0≤n+(b - 128)*pw k∧n+(b - 128)*pw k<pw (k+1))∧w64 (pw k*128)=pw (k+1):=by
 rw [MAA]
 have e:b.tmod 128=b % 128:=Int.tmod_eq_emod_of_nonneg hb.1
 refine ⟨fun h=>?_,fun h=>?_,?_⟩
 ·have hc:0≤b*pw k∧b*pw k≤34091302912∧b*pw k≤127*pw k:=by rcases Yk hk with e | e | e | e | e <;> rw [e] <;> omega
  have hp:pw k≤268435456:=by rcases Yk hk with e | e | e | e | e <;> rw [e] <;> omega
  exact ⟨by rw [e];omega,w64_id (by omega) (by omega),w64_id (by omega) (by omega),by omega,by omega⟩
 ·have hc:0≤(b - 128)*pw k∧(b - 128)*pw k≤34091302912∧(b - 128)*pw k≤127*pw k:=by rcases Yk hk with e | e | e | e | e <;> rw [e] <;> omega
  have hp:pw k≤268435456:=by rcases Yk hk with e | e | e | e | e <;> rw [e] <;> omega
  exact ⟨by rw [e];omega,w64_id (by omega) (by omega),w64_id (by omega) (by omega),by omega,by omega⟩
 ·rcases Yk hk with e | e | e | e | e <;> rw [e,w64_id (by omega) (by omega)]
theorem OAA {text:ByteArray} {a k m:Nat} {n b:Int} (hs:text.size≤140737488351232) (hk:k<5) (hi:a+k<text.size) (h0:0≤n) (h1:n<pw k) (hb:bt text ((a+k:Nat):Int)=b) :
  Ud (m+1) (.c0 text a n (pw k) ((a+k:Nat):Int))=if b<128 then (if n+b*pw k > 1000000000 then some Yc else if ofBytes (IK (n+b*pw k))=text.extract a (a+k+1) then some (n+b*pw k,((a+k+1:Nat):Int),true) else some Yc) else Ud m (.c0 text a (n+(b - 128)*pw k) (pw (k+1)) ((a+k+1:Nat):Int)):=by
 have hb':=Yf text ((a+k:Nat):Int)
 rw [hb] at hb'
 obtain ⟨n1,n2,n3⟩:=Dh hk h0 h1 hb'
 have hw:w64 (((a+k:Nat):Int)+1)=((a+k+1:Nat):Int):=by rw [w64_id (by omega) (by omega)];omega
 simp only [Ud,G5,hb,w64_id (n:=b) (by omega) (by omega),n3,hw,Int.toNat_natCast]
 rw [show decide (((a+k:Nat):Int)<(text.size:Int))=true from decide_eq_true (by omega),w64_id (n:=(a:Int)+5) (by omega) (by omega),show decide (((a+k:Nat):Int)<(a:Int)+5)=true from decide_eq_true (by omega),
  show decide ((0:Int)≤((a+k:Nat):Int))=true from decide_eq_true (by omega)]
 simp only [Bool.and_self,cond_true]
 by_cases h:b<128
 ·obtain ⟨e1,e2,e3,e4,_⟩:=n1 h
  rw [if_pos h,e1,e2,e3,show decide (b<128)=true from decide_eq_true h]
  by_cases h2:n+b*pw k > 1000000000
  ·rw [if_pos h2,show decide (n+b*pw k > 1000000000)=true from decide_eq_true h2];rfl
  ·rw [if_neg h2,show decide (n+b*pw k > 1000000000)=false from decide_eq_false h2,Fg (by omega)]
   simp only [cond_true,cond_false,Option.bind_some]
   rw [show decide ((0:Int)≤(a:Int))=true from decide_eq_true (by omega),show decide ((a:Int)≤((a+k+1:Nat):Int))=true from decide_eq_true (by omega),show decide (((a+k+1:Nat):Int)≤(text.size:Int))=true from decide_eq_true (by omega),toList_inj]
   by_cases h3:ofBytes (IK (n+b*pw k))=text.extract a (a+k+1)
   ·rw [if_pos h3,decide_eq_true h3];rfl
   ·rw [if_neg h3,decide_eq_false h3];rfl
 ·obtain ⟨e1,e2,e3,_,_⟩:=n2 h
  rw [if_neg h,e1,e2,e3,show decide (b<128)=false from decide_eq_false h]
  rfl
theorem XAe {text:ByteArray} {a:Nat} (hs:text.size≤140737488351232) (ha:a≤text.size):∀ j k m n,k+j=5→j<m→0≤n→n<pw k→∃ r,Ud m (.c0 text a n (pw k) ((a+k:Nat):Int))=some r∧RV text a r:=by
 intro j
 induction j with
 | zero=>
  intro k m n hk hm _ _
  obtain ⟨m,rfl⟩:∃ q,m=q+1:=⟨m - 1,by omega⟩
  exact ⟨_,NAA hs ha (.inr (by omega)),.inl rfl⟩
 | succ j ih=>
  intro k m n hk hm h0 h1
  obtain ⟨m,rfl⟩:∃ q,m=q+1:=⟨m - 1,by omega⟩
  by_cases hi:a+k<text.size
  ·have hb:=Yf text ((a+k:Nat):Int)
   generalize hbe:bt text ((a+k:Nat):Int)=b at hb
   obtain ⟨n1,n2,_⟩:=Dh (b:=b) (by omega:k<5) h0 h1 hb
   rw [OAA hs (by omega) hi h0 h1 hbe]
   split
   ·rename_i h
    split
    ·exact ⟨_,rfl,.inl rfl⟩
    ·split
     ·exact ⟨_,rfl,.inr ⟨_,_,rfl,(n1 h).2.2.2.1,by omega,by omega,by omega⟩⟩
     ·exact ⟨_,rfl,.inl rfl⟩
   ·rename_i h
    obtain ⟨_,_,_,e4,e5⟩:=n2 h
    exact ih (k+1) m _ (by omega) (by omega) e4 e5
  ·exact ⟨_,NAA hs ha (.inl (by omega)),.inl rfl⟩
theorem YAe {text:ByteArray} {a:Nat} {V:Int} (hs:text.size≤140737488351232) (hV0:0≤V) (hV:V≤1000000000) (hA:At text a (IK V)):∀ U k m n,IK U=(IK V).drop k→0≤U→n+pw k*U=V→0≤n→n<pw k→5<m+k→Ud m (.c0 text a n (pw k) ((a+k:Nat):Int))=some (V,((a+(IK V).length:Nat):Int),true):=by
 have h5:=AAT hV
 intro U
 induction U using IK.induct with
 | case1 U hU ih=>
  intro k m n e1 u0 e2 h0 h1 hm
  have hl:=congrArg List.length e1
  rw [List.length_drop] at hl
  have hp:=Qc U
  have hk:k<5:=by omega
  obtain ⟨m,rfl⟩:∃ q,m=q+1:=⟨m - 1,by omega⟩
  have hA':At text (a+k) (IK U):=by
   have:At text a ((IK V).take k++(IK V).drop k):=by rw [List.take_append_drop];exact hA
   have:=this.right
   rw [List.length_take,Nat.min_eq_left (by omega),←e1] at this
   exact this
  have e3:=e1
  rw [IK,if_pos hU] at hA' e3
  obtain ⟨hi,hb⟩:=hA'.head
  obtain ⟨n1,n2,_⟩:=Dh (b:=128+U % 128) hk h0 h1 (by omega)
  obtain ⟨_,_,_,e4,e5⟩:=n2 (by omega)
  rw [OAA hs hk hi h0 h1 hb,if_neg (by omega)]
  refine ih (k+1) m _ ?_ (by omega) ?_ e4 e5 (by omega)
  ·rw [←List.drop_drop,←e3];rfl
  ·rw [MAA]
   rcases Yk hk with e | e | e | e | e <;> rw [e] at e2 ⊢ <;> omega
 | case2 U hU=>
  intro k m n e1 u0 e2 h0 h1 hm
  have hl:=congrArg List.length e1
  rw [List.length_drop] at hl
  have hp:=Qc U
  have hk:k<5:=by omega
  obtain ⟨m,rfl⟩:∃ q,m=q+1:=⟨m - 1,by omega⟩
  have hA':At text (a+k) (IK U):=by
   have:At text a ((IK V).take k++(IK V).drop k):=by rw [List.take_append_drop];exact hA
   have:=this.right
   rw [List.length_take,Nat.min_eq_left (by omega),←e1] at this
   exact this
  rw [Ez u0 (by omega)] at hA' hl
  simp only [List.length_singleton] at hl
  obtain ⟨hi,hb⟩:=hA'.head
  have e3:n+U*pw k=V:=by rw [Int.mul_comm];exact e2
  have e4:a+k+1=a+(IK V).length:=by omega
  rw [OAA hs hk hi h0 h1 hb,if_pos (by omega),e3,if_neg (by omega),e4,if_pos (hA.extract (Ad V hV0)).symm]
theorem ZAe {text:ByteArray} {a:Nat} (hs:text.size≤140737488351232) (ha:a≤text.size):∃ r,WZ text a=some r∧RV text a r:=by
 simp only [WZ,Vr,Aa,Option.bind_some]
 rw [show NM (a:Int) 0 (text.size:Int)=true from WX.2 ⟨by omega,by omega⟩]
 exact XAe hs ha 5 0 gas 0 rfl (gas_lt (by omega)) (by omega) (by rw [Gg];omega)
theorem PAK {text:ByteArray} {a:Nat} {V:Int} (hs:text.size≤140737488351232) (hV0:0≤V) (hV:V≤1000000000) (hA:At text a (IK V)):WZ text a=some (V,((a+(IK V).length:Nat):Int),true):=by
 have ha:a+(IK V).length≤text.size:=by
  rcases hA.size with h | h
  ·have:=Qc V;rw [h] at this;simp at this
  ·exact h
 simp only [WZ,Vr,Aa,Option.bind_some]
 rw [show NM (a:Int) 0 (text.size:Int)=true from WX.2 ⟨by omega,by omega⟩]
 exact YAe hs hV0 hV hA V 0 gas 0 (by simp) hV0 (by rw [Gg];omega) (by omega) (by rw [Gg];omega) (by have:=gas_lt (n:=5) (by omega);omega)
def Zj (s:Int):Int:=if s % 2=1 then xr (s / 2) 3558460437 else s / 2
def Yj:Nat→Int→Int
 | 0,s=>s
 | n+1,s=>Yj n (Zj s)
def Gn (s:Int) (l:List Int):Int:=l.foldl (fun s b=>Yj 8 (xr s b)) s
theorem AAf {s:Int} (h:R32 s):R32 (Zj s):=by
 unfold Zj;split
 ·exact En _ _
 ·unfold R32 at *;omega
theorem BAT:∀ (n:Nat) {s:Int},R32 s→R32 (Yj n s)
 | 0,_,h=>h
 | n+1,_,h=>BAT n (AAf h)
theorem CAT:∀ (l:List Int) {s:Int},R32 s→R32 (Gn s l)
 | [],_,h=>h
 | b::l,s,_=>CAT l (BAT 8 (En s b))
def Ea (l:List Int):Int:=Gn 4294967295 l
theorem Pn (l:List Int):R32 (Ea l):=CAT l (by unfold R32;omega)
theorem BAf (t:ByteArray) (i:Nat) (hi:i<t.size) (ht:t.size≤140737488351232):∀ (j k m:Nat) (s:Int),k+j=8→R32 s→Xe (m+j+1) (.c1 s t (i:Int) (k:Int))=Xe m (.c0 (Yj j s) t ((i+1:Nat):Int)):=by
 intro j
 induction j with
 | zero=>
  intro k m s hk hs
  have e:w64 ((i:Int)+1)=((i+1:Nat):Int):=by rw [w64_id (by omega) (by omega)];rfl
  rw [Xe]
  simp only [Vl,e]
  rw [FN (by simp;omega)]
  rfl
 | succ j ih=>
  intro k m s hk hs
  have e:w64 ((k:Int)+1)=((k+1:Nat):Int):=by rw [w64_id (by omega) (by omega)];rfl
  have h2:w32 (s.tdiv 2)=s / 2:=by
   obtain ⟨h1,h2⟩:=hs
   rw [Int.tdiv_eq_ediv_of_nonneg h1,Ba (by omega) (by omega)]
  have h3:s.tmod 2=s % 2:=Int.tmod_eq_emod_of_nonneg hs.1
  rw [show m+(j+1)+1=(m+j+1)+1 by omega,Xe]
  simp only [Vl,e,h2,h3,Nc]
  rw [TB (by simp;omega),Yj]
  by_cases h:s % 2=1
  ·rw [TB (by simp [h]),ih (k+1) m _ (by omega) (En _ _),Zj,if_pos h]
  ·rw [FN (by simp [h]),ih (k+1) m _ (by omega) (by unfold R32 at *;omega),Zj,if_neg h]
theorem CAf {t:ByteArray} {s:Int} (ht:t.size≤140737488351232):Yr s t=some (Gn s (bs t)):=by
 have hl:=bs_len t
 have key:∀ (j i m:Nat) (s:Int),i+j=t.size→Xe (m+10*j+1) (.c0 s t (i:Int))=some (Gn s ((bs t).drop i)):=by
  intro j
  induction j with
  | zero=>
   intro i m s h
   rw [Xe]
   simp only [Vl]
   rw [FN (by simp;omega),List.drop_of_length_le (by omega)];rfl
  | succ j ih=>
   intro i m s h
   have hb:=LZ (Qb t) i
   rw [show m+10*(j+1)+1=(m+10*j+1)+8+1+1 by omega,Xe]
   simp only [Vl,Nc]
   rw [TB (by simp;omega),TB (by simp;omega),Oc (by omega),Ba (by omega) (by omega)]
   have h1:=BAf t i (by omega) ht 8 0 (m+10*j+1) (xr s ((bs t).getD i 0)) (by omega) (En _ _)
   rw [show ((0:Nat):Int)=0 from rfl] at h1
   rw [h1,ih (i+1) m _ (by omega),drop_at (by omega:i<(bs t).length),getD_at (by omega)]
   rfl
 obtain ⟨m,hm⟩:∃ m,gas=m+10*t.size+1:=⟨gas - (10*t.size+1),by have:=gas_lt (n:=10*t.size+1) (by omega);omega⟩
 rw [Yr,JAE,hm]
 have:=key t.size 0 m s (by omega)
 rw [List.drop_zero] at this
 exact this
theorem DAf {t:ByteArray} (ht:t.size≤140737488351232):Zr t=some (Ea (bs t)):=by
 rw [Zr,LAE,CAf ht];rfl
theorem EAf {x:Int} (h:R32 x):Es x=some (ofBytes (four x)):=by
 obtain ⟨h1,h2⟩:=h
 have e1:Int.fdiv x (2 ^ (Min.min (24:Int).toNat (IntKind.bits IntKind.u32)))=x / 16777216:=Int.fdiv_eq_ediv_of_nonneg _ (by decide)
 have e2:Int.fdiv x (2 ^ (Min.min (16:Int).toNat (IntKind.bits IntKind.u32)))=x / 65536:=Int.fdiv_eq_ediv_of_nonneg _ (by decide)
 have e3:Int.fdiv x (2 ^ (Min.min (8:Int).toNat (IntKind.bits IntKind.u32)))=x / 256:=Int.fdiv_eq_ediv_of_nonneg _ (by decide)
 simp only [Es,NAE,e1,e2,e3,w8_mod,four]
 rw [show x / 16777216 % 256=x / 16777216 by omega]
def xb (x y:Int):Int:=w8 (((BitVec.toNat ((BitVec.ofInt (IntKind.bits IntKind.u8) x) ^^^ (BitVec.ofInt (IntKind.bits IntKind.u8) y))):Nat):Int)
theorem PAA (x y:Int):w8 (((BitVec.toNat ((BitVec.ofInt (IntKind.bits IntKind.u8) x) ^^^ (BitVec.ofInt (IntKind.bits IntKind.u8) y))):Nat):Int)=xb x y:=rfl
theorem DAT (x y:Int):0≤xb x y∧xb x y≤255:=by unfold xb;rw [w8_mod];omega
theorem FAf {x:Int} (h:0≤x∧x≤255) (y:Int):xb (xb x y) y=x:=by
 have e:∀ (a b:BitVec 8),BitVec.ofInt 8 (((a ^^^ b).toNat:Nat):Int) ^^^ b=a:=by
  intro a b
  rw [BitVec.ofInt_natCast,BitVec.ofNat_toNat,BitVec.setWidth_eq,BitVec.xor_assoc,BitVec.xor_self,BitVec.xor_zero]
 have h8:∀ (a b:BitVec 8),w8 (((a ^^^ b).toNat:Nat):Int)=(((a ^^^ b).toNat:Nat):Int):=fun a b=>by
  have:=(a ^^^ b).isLt;rw [w8_id (by omega) (by omega)]
 unfold xb
 show w8 (((BitVec.ofInt 8 (w8 (((BitVec.ofInt 8 x ^^^ BitVec.ofInt 8 y).toNat:Nat):Int)) ^^^ BitVec.ofInt 8 y).toNat:Nat):Int)=x
 rw [h8 (BitVec.ofInt 8 x),e,BitVec.toNat_ofInt,w8_mod]
 omega
def NZ (x:Int) (l:List Int):List Int:=l.map fun b=>xb b x
theorem QAA (x:Int) (l:List Int):(NZ x l).length=l.length:=by simp [NZ]
theorem RAA (x:Int) (l:List Int):YX (NZ x l):=fun n hn=>by
 simp only [NZ,List.mem_map] at hn
 obtain ⟨b,_,rfl⟩:=hn
 exact DAT _ _
def OY (k:List Int):List Int:=k++List.replicate (64 - k.length) 0
def Bd (k:List Int):List Int:=if 64<k.length then OY (Qa k) else OY k
theorem GAf (k:List Int):(Bd k).length=64:=by
 unfold Bd OY
 split
 ·rw [List.length_append,List.length_replicate,LAK]
 ·rw [List.length_append,List.length_replicate];omega
def Ed (k s:List Int):List Int:=Qa (NZ 92 (Bd k)++Qa (NZ 54 (Bd k)++s))
def He (k s:ByteArray):ByteArray:=ofBytes (Ed (bs k) (bs s))
theorem Un (k s:List Int):(Ed k s).length=32:=LAK _
theorem Fz (k s:List Int):YX (Ed k s):=OAS _
theorem EAT (k s:ByteArray):bs (He k s)=Ed (bs k) (bs s):=SN (Fz _ _)
theorem FAT (k s:ByteArray):(He k s).size=32:=by rw [He,ofBytes_size,Un]
theorem HAf {α:Type} (f:α→α) {l:List α} {i:Nat} (h:i<l.length):((l.take i).map f++l.drop i).set i (f l[i])=(l.take (i+1)).map f++l.drop (i+1):=by
 rw [drop_at h,Nk (by simp;omega),take_at h,List.map_append,List.append_assoc]
 rfl
theorem IAf {f:Int→Int} {l:List Int} {i:Nat} (h:i<l.length):((l.take i).map f++l.drop i).getD i 0=l[i]:=by
 rw [Rn (by simp;omega)]
 simp [List.getD,Nat.min_eq_left (Nat.le_of_lt h),h]
def Ie (k v:List Int):Nat→List Int
 | 0=>[]
 | i+1=>Ie k v i++Ed k (109::(v++[(i:Int)]))
theorem Hg (k v:List Int) (i:Nat):(Ie k v i).length=32*i:=by
 induction i with
 | zero=>rfl
 | succ i ih=>rw [Ie,List.length_append,ih,Un];omega
theorem SAA (k v:List Int) (i:Nat):YX (Ie k v i):=by
 induction i with
 | zero=>intro n hn;cases hn
 | succ i ih=>
  intro n hn
  rcases List.mem_append.1 hn with hn | hn
  ·exact ih n hn
  ·exact Fz _ _ n hn
def VY (k v:List Int) (n:Nat):List Int:=(Ie k v ((n+31) / 32)).take n
theorem Je (k v:List Int) (n:Nat):(VY k v n).length=n:=by rw [VY,List.length_take,Hg];omega
theorem QAK (k v:List Int) (n:Nat):YX (VY k v n):=fun x hx=>SAA _ _ _ x (List.mem_of_mem_take hx)
def maskOk (num:Int) (n:Int):Bool:=NM num 0 1000000000 && NM n 0 8000
def Wn (k:ByteArray) (num:Int) (n:Int):ByteArray×Bool:=bif maskOk num n then (ofBytes (VY (bs k) (IK num) n.toNat),true) else (⟨#[]⟩,false)
theorem Zk:∀ {n:Int},0≤n→YX (IK n):=by
 intro n
 induction n using IK.induct with
 | case1 n hn ih=>
  intro h x hx
  rw [IK,if_pos hn] at hx
  rcases List.mem_cons.1 hx with rfl | hx
  ·omega
  ·exact ih (by omega) x hx
 | case2 n hn=>
  intro h x hx
  rw [IK,if_neg hn] at hx
  rw [List.mem_singleton] at hx
  subst hx
  rw [w8_mod];omega
theorem GAT (k:ByteArray) {num:Int} (hn:0≤num) (hn2:num≤1000000000) (i:Nat) (hi:i≤255) :
  He k (((⟨#[109]⟩:ByteArray)++ofBytes (IK num))++ofBytes [(i:Int)])=ofBytes (Ed (bs k) (109::(IK num++[(i:Int)]))):=by
 have e:bs (⟨#[109]⟩:ByteArray)=[109]:=rfl
 rw [He,NY,NY,SN (Zk hn),e,SN (fun x hx=>by rw [List.mem_singleton] at hx;omega)]
 rfl
def DY (a b:List Int):List Int:=List.zipWith xb a b
theorem TAA {a b:List Int} (h:a.length≤b.length):(DY a b).length=a.length:=by rw [DY,List.length_zipWith];omega
theorem IAT (a b:List Int):YX (DY a b):=by
 intro n hn
 rw [DY,List.mem_iff_getElem] at hn
 obtain ⟨i,hi,rfl⟩:=hn
 rw [List.getElem_zipWith]
 exact DAT _ _
theorem RAK {α:Type} (f:α→α→α):∀ (a b:List α),List.zipWith f a (b.take a.length)=List.zipWith f a b
 | [],_=>rfl
 | _::_,[]=>rfl
 | x::a,y::b=>by rw [List.length_cons,List.take_succ_cons,List.zipWith_cons_cons,List.zipWith_cons_cons,RAK f a b]
theorem JAT {a b:List Int} {i:Nat} (h:i<a.length) (h2:i<b.length):(List.zipWith xb (a.take i) (b.take i)++a.drop i).set i (xb a[i] (b.getD i 0))=List.zipWith xb (a.take (i+1)) (b.take (i+1))++a.drop (i+1):=by
 rw [drop_at h,Nk (by simp;omega),take_at h,take_at h2,getD_at h2,List.zipWith_append (by simp;omega),List.append_assoc]
 rfl
theorem KAT {a b:List Int} {i:Nat} (h:i<a.length) (h2:i<b.length):(List.zipWith xb (a.take i) (b.take i)++a.drop i).getD i 0=a[i]:=by
 rw [Rn (by simp;omega)]
 simp [List.getD,Nat.min_eq_left (Nat.le_of_lt h),Nat.min_eq_left (Nat.le_of_lt h2),h]
def RZ (k:List Int) (num:Int) (s:List Int):List Int:=(Ed k (116::(IK num++s))).take 16
theorem SAK (k:List Int) (num:Int) (s:List Int):(RZ k num s).length=16:=by rw [RZ,List.length_take,Un];rfl
theorem Gz (k:List Int) (num:Int) (s:List Int):YX (RZ k num s):=fun x hx=>Fz _ _ x (List.mem_of_mem_take hx)
def Ia (k:List Int) (num:Int) (s:List Int):List Int:=DY s (VY k (IK num) s.length)++RZ k num (DY s (VY k (IK num) s.length))
def YAi (k:ByteArray) (num:Int) (s:ByteArray):ByteArray×Bool:=bif maskOk num s.size then (ofBytes (Ia (bs k) num (bs s)),true) else (⟨#[]⟩,false)
def RX (k:ByteArray) (num:Int) (t:ByteArray):ByteArray×Bool:=
 bif decide ((t.size:Int)<16) || !(maskOk num ((t.size:Int) - 16)) then (⟨#[]⟩,false)
 else bif RZ (bs k) num ((bs t).take (t.size - 16)) == (bs t).drop (t.size - 16) then (ofBytes (DY ((bs t).take (t.size - 16)) (VY (bs k) (IK num) (t.size - 16))),true)
 else (⟨#[]⟩,false)
theorem LAT {num n:Int}:maskOk num n=true↔(0≤num∧num≤1000000000)∧0≤n∧n≤8000:=by rw [maskOk,Bool.and_eq_true,WX,WX]
def Eh (l:List Int):List Int:=IK (l.length:Int)++(four (Ea l)++l)
def frameT (t:ByteArray):ByteArray×Bool:=bif NM (t.size:Int) 1 9000 then (ofBytes (Eh (bs t)),true) else (⟨#[]⟩,false)
theorem TAK {l:List Int} (h:YX l):YX (Eh l):=by
 intro x hx
 rcases List.mem_append.1 hx with hx | hx
 ·exact Zk (by omega) x hx
 ·rcases List.mem_append.1 hx with hx | hx
  ·exact Dk (Pn l) x hx
  ·exact h x hx
theorem PAR (t:ByteArray):(ofBytes (IK (t.size:Int))++ofBytes (four (Ea (bs t))))++t=ofBytes (Eh (bs t)):=by
 apply Fa
 rw [NY,NY,SN (Zk (by omega)),SN (Dk (Pn _)),SN (TAK (Qb t)),Eh,bs_len,List.append_assoc]
theorem QAR {t:ByteArray} (h:t.size≤140737488351232):(frameT t).1.size≤t.size+14:=by
 rw [frameT]
 cases NM (t.size:Int) 1 9000
 ·exact Nat.zero_le _
 ·rw [cond_true,ofBytes_size,Eh,List.length_append,List.length_append,bs_len]
  have:(four (Ea (bs t))).length=4:=rfl
  have:=MZ (n:=(t.size:Int)) (by omega)
  omega
theorem MAT {t:ByteArray} (h:t.size≤140737488351232):Zb t=some (frameT t):=by
 rw [Zb,OAE,Aa,Option.bind_some,frameT]
 cases h1:NM (t.size:Int) 1 9000
 ·rfl
 ·rw [WX] at h1
  have:=MZ (n:=(t.size:Int)) (by omega)
  rw [FN (by rfl),Fg (by omega),Option.bind_some,DAf h,Option.bind_some,EAf (Pn _),Option.bind_some,TB (by rw [ofBytes_size,ofBytes_size,decide_eq_true_eq];have:(four (Ea (bs t))).length=4:=rfl;omega)]
  rw [TB (by rw [ByteArray.size_append,ofBytes_size,ofBytes_size,decide_eq_true_eq];have:(four (Ea (bs t))).length=4:=rfl;omega),PAR,cond_true]
theorem Na (x a b:Int):QX x a b=some (NM x a b):=by
 show (bif decide (a≤x) then some (decide (x≤b)) else some false)=some (NM x a b)
 unfold NM;cases decide (a≤x) <;> rfl
theorem JAf {k:Nat} (h:k<5):(2:Int) ^ (Min.min (w64 (7*(k:Int))).toNat (IntKind.bits IntKind.i64))=pw k∧w64 (7*(k:Int))=7*(k:Int):=by
 refine ⟨?_,w64_id (by omega) (by omega)⟩
 rcases (by omega:k=0∨k=1∨k=2∨k=3∨k=4) with rfl | rfl | rfl | rfl | rfl <;> kernel_rfl
theorem UAA {text:ByteArray} {a k m:Nat} {n:Int} (hs:text.size≤140737488351232) (ha:a≤text.size) (hk:k≤5) (hi:text.size≤a+k∨5≤k):Yd (m+1) (.c0 text a n k)=some Yc:=by
 simp only [Yd,J8]
 by_cases h:k<5
 ·rw [show decide ((k:Int)<5)=true from decide_eq_true (by omega),w64_id (n:=(a:Int)+k) (by omega) (by omega),show decide ((a:Int)+k<(text.size:Int))=false from decide_eq_false (by omega)]
  rfl
 ·rw [show decide ((k:Int)<5)=false from decide_eq_false (by omega)]
  rfl
theorem VAA {text:ByteArray} {a k m:Nat} {n b:Int} (hs:text.size≤140737488351232) (hk:k<5) (hi:a+k<text.size) (h0:0≤n) (h1:n<pw k) (hb:bt text ((a+k:Nat):Int)=b) :
  Yd (m+1) (.c0 text a n k)=if b<128 then (if b=0∧0<k∨n+b*pw k > 1000000000 then some Yc else some (n+b*pw k,((a+k+1:Nat):Int),true)) else Yd m (.c0 text a (n+(b - 128)*pw k) ((k+1:Nat):Int)):=by
 have hb':=Yf text ((a+k:Nat):Int)
 rw [hb] at hb'
 obtain ⟨n1,n2,n3⟩:=Dh hk h0 h1 hb'
 obtain ⟨p1,p2⟩:=JAf hk
 rw [p2] at p1
 have ha:w64 ((a:Int)+(k:Int))=((a+k:Nat):Int):=by rw [w64_id (by omega) (by omega)];omega
 have hw:w64 (((a+k:Nat):Int)+1)=((a+k+1:Nat):Int):=by rw [w64_id (by omega) (by omega)];omega
 have hw2:w64 ((k:Int)+1)=((k+1:Nat):Int):=by rw [w64_id (by omega) (by omega)];omega
 simp only [Yd,J8,ha,hb,w64_id (n:=b) (by omega) (by omega),p2,p1,hw,hw2]
 rw [show decide (((a+k:Nat):Int)<(text.size:Int))=true from decide_eq_true (by omega),show decide ((k:Int)<5)=true from decide_eq_true (by omega),show decide ((0:Int)≤7*(k:Int))=true from decide_eq_true (by omega),
  show decide ((0:Int)≤((a+k:Nat):Int))=true from decide_eq_true (by omega)]
 simp only [Bool.and_self,cond_true]
 by_cases h:b<128
 ·obtain ⟨e1,e2,e3,e4,_⟩:=n1 h
  rw [if_pos h,e1,e2,e3,show decide (b<128)=true from decide_eq_true h]
  simp only [cond_true]
  by_cases hz:b=0
  ·rw [show (b == 0)=true from beq_iff_eq.2 hz]
   by_cases hk0:0<k
   ·rw [if_pos (.inl ⟨hz,hk0⟩),show decide ((k:Int) > 0)=true from decide_eq_true (by omega)];rfl
   ·rw [show decide ((k:Int) > 0)=false from decide_eq_false (by omega)]
    by_cases h2:n+b*pw k > 1000000000
    ·rw [if_pos (.inr h2),show decide (n+b*pw k > 1000000000)=true from decide_eq_true h2];rfl
    ·rw [if_neg (by omega),show decide (n+b*pw k > 1000000000)=false from decide_eq_false h2];rfl
  ·rw [show (b == 0)=false from beq_eq_false_iff_ne.2 hz]
   by_cases h2:n+b*pw k > 1000000000
   ·rw [if_pos (.inr h2),show decide (n+b*pw k > 1000000000)=true from decide_eq_true h2];rfl
   ·rw [if_neg (by omega),show decide (n+b*pw k > 1000000000)=false from decide_eq_false h2];rfl
 ·obtain ⟨e1,e2,e3,_,_⟩:=n2 h
  rw [if_neg h,e1,e2,e3,show decide (b<128)=false from decide_eq_false h]
  rfl
theorem KAf {text:ByteArray} {a:Nat} (hs:text.size≤140737488351232) (ha:a≤text.size):∀ j k m n,k+j=5→j<m→0≤n→n<pw k→∃ r,Yd m (.c0 text a n k)=some r∧RV text a r:=by
 intro j
 induction j with
 | zero=>
  intro k m n hk hm _ _
  obtain ⟨m,rfl⟩:∃ q,m=q+1:=⟨m - 1,by omega⟩
  exact ⟨_,UAA hs ha (by omega) (.inr (by omega)),.inl rfl⟩
 | succ j ih=>
  intro k m n hk hm h0 h1
  obtain ⟨m,rfl⟩:∃ q,m=q+1:=⟨m - 1,by omega⟩
  by_cases hi:a+k<text.size
  ·have hb:=Yf text ((a+k:Nat):Int)
   generalize hbe:bt text ((a+k:Nat):Int)=b at hb
   obtain ⟨n1,n2,_⟩:=Dh (b:=b) (by omega:k<5) h0 h1 hb
   rw [VAA hs (by omega) hi h0 h1 hbe]
   split
   ·rename_i h
    split
    ·exact ⟨_,rfl,.inl rfl⟩
    ·exact ⟨_,rfl,.inr ⟨_,_,rfl,(n1 h).2.2.2.1,by omega,by omega,by omega⟩⟩
   ·rename_i h
    obtain ⟨_,_,_,e4,e5⟩:=n2 h
    exact ih (k+1) m _ (by omega) (by omega) e4 e5
  ·exact ⟨_,UAA hs ha (by omega) (.inl (by omega)),.inl rfl⟩
theorem LAf {text:ByteArray} {a:Nat} {V:Int} (hs:text.size≤140737488351232) (hV:V≤1000000000) (hA:At text a (IK V)):∀ U k m n,IK U=(IK V).drop k→0≤U→(0<k→0<U)→n+pw k*U=V→0≤n→n<pw k→5<m+k→Yd m (.c0 text a n k)=some (V,((a+(IK V).length:Nat):Int),true):=by
 have h5:=AAT hV
 intro U
 induction U using IK.induct with
 | case1 U hU ih=>
  intro k m n e1 u0 uz e2 h0 h1 hm
  have hl:=congrArg List.length e1
  rw [List.length_drop] at hl
  have hp:=Qc U
  have hk:k<5:=by omega
  obtain ⟨m,rfl⟩:∃ q,m=q+1:=⟨m - 1,by omega⟩
  have hA':At text (a+k) (IK U):=by
   have:At text a ((IK V).take k++(IK V).drop k):=by rw [List.take_append_drop];exact hA
   have:=this.right
   rw [List.length_take,Nat.min_eq_left (by omega),←e1] at this
   exact this
  have e3:=e1
  rw [IK,if_pos hU] at hA' e3
  obtain ⟨hi,hb⟩:=hA'.head
  obtain ⟨n1,n2,_⟩:=Dh (b:=128+U % 128) hk h0 h1 (by omega)
  obtain ⟨_,_,_,e4,e5⟩:=n2 (by omega)
  rw [VAA hs hk hi h0 h1 hb,if_neg (by omega)]
  refine ih (k+1) m _ ?_ (by omega) (fun _=>by omega) ?_ e4 e5 (by omega)
  ·rw [←List.drop_drop,←e3];rfl
  ·rw [MAA]
   rcases Yk hk with e | e | e | e | e <;> rw [e] at e2 ⊢ <;> omega
 | case2 U hU=>
  intro k m n e1 u0 uz e2 h0 h1 hm
  have hl:=congrArg List.length e1
  rw [List.length_drop] at hl
  have hp:=Qc U
  have hk:k<5:=by omega
  obtain ⟨m,rfl⟩:∃ q,m=q+1:=⟨m - 1,by omega⟩
  have hA':At text (a+k) (IK U):=by
   have:At text a ((IK V).take k++(IK V).drop k):=by rw [List.take_append_drop];exact hA
   have:=this.right
   rw [List.length_take,Nat.min_eq_left (by omega),←e1] at this
   exact this
  rw [Ez u0 (by omega)] at hA' hl
  simp only [List.length_singleton] at hl
  obtain ⟨hi,hb⟩:=hA'.head
  have e3:n+U*pw k=V:=by rw [Int.mul_comm];exact e2
  have e4:a+k+1=a+(IK V).length:=by omega
  rw [VAA hs hk hi h0 h1 hb,if_pos (by omega),e3,if_neg (by omega),e4]
theorem UAK {text:ByteArray} {a:Nat} (hs:text.size≤140737488351232) (ha:a≤text.size):∃ r,RY text a=some r∧RV text a r:=by
 simp only [RY,Zv,Na,Option.bind_some]
 rw [show NM (a:Int) 0 (text.size:Int)=true from WX.2 ⟨by omega,by omega⟩]
 exact KAf hs ha 5 0 gas 0 rfl (gas_lt (by omega)) (by omega) (by rw [Gg];omega)
theorem Hz {text:ByteArray} {a:Nat} {V:Int} (hs:text.size≤140737488351232) (hV0:0≤V) (hV:V≤1000000000) (hA:At text a (IK V)):RY text a=some (V,((a+(IK V).length:Nat):Int),true):=by
 have ha:a+(IK V).length≤text.size:=by
  rcases hA.size with h | h
  ·have:=Qc V;rw [h] at this;simp at this
  ·exact h
 simp only [RY,Zv,Na,Option.bind_some]
 rw [show NM (a:Int) 0 (text.size:Int)=true from WX.2 ⟨by omega,by omega⟩]
 exact LAf hs hV hA V 0 gas 0 (by simp) hV0 (fun h=>absurd h (Nat.lt_irrefl 0)) (by rw [Gg];omega) (by omega) (by rw [Gg];omega) (by have:=gas_lt (n:=5) (by omega);omega)
def RVx (text:ByteArray) (a:Nat) (r:Int×Int×Bool):Prop:=r=Yc∨∃ v:Int,r=(v,((a+(IK v).length:Nat):Int),true)∧0≤v∧v≤1000000000∧At text a (IK v)
theorem MAf {text:ByteArray} {a:Nat} (hs:text.size≤140737488351232) (ha:a≤text.size):∀ j k m n,k+j=5→j<m→0≤n→n<pw k→∃ r,Ud m (.c0 text a n (pw k) ((a+k:Nat):Int))=some r∧RVx text a r:=by
 intro j
 induction j with
 | zero=>
  intro k m n hk hm _ _
  obtain ⟨m,rfl⟩:∃ q,m=q+1:=⟨m - 1,by omega⟩
  exact ⟨_,NAA hs ha (.inr (by omega)),.inl rfl⟩
 | succ j ih=>
  intro k m n hk hm h0 h1
  obtain ⟨m,rfl⟩:∃ q,m=q+1:=⟨m - 1,by omega⟩
  by_cases hi:a+k<text.size
  ·have hb:=Yf text ((a+k:Nat):Int)
   generalize hbe:bt text ((a+k:Nat):Int)=b at hb
   obtain ⟨n1,n2,_⟩:=Dh (b:=b) (by omega:k<5) h0 h1 hb
   rw [OAA hs (by omega) hi h0 h1 hbe]
   split
   ·rename_i h
    have hv0:=(n1 h).2.2.2.1
    split
    ·exact ⟨_,rfl,.inl rfl⟩
    ·split
     ·rename_i h2
      have h3:=congrArg bs h2
      rw [SN (Ad _ hv0),FZ] at h3
      have hl:=congrArg List.length h3
      rw [List.length_drop,List.length_take,bs_len,Nat.min_eq_left (by omega)] at hl
      refine ⟨_,rfl,.inr ⟨_,by rw [show a+k+1=a+(IK (n+b*pw k)).length by omega],hv0,by omega,(bs text).drop (a+k+1),?_⟩⟩
      rw [h3,List.drop_take,show a+k+1=a+(a+k+1 - a) by omega,←List.drop_drop,Nat.add_sub_cancel_left,List.take_append_drop]
     ·exact ⟨_,rfl,.inl rfl⟩
   ·rename_i h
    obtain ⟨_,_,_,e4,e5⟩:=n2 h
    exact ih (k+1) m _ (by omega) (by omega) e4 e5
  ·exact ⟨_,NAA hs ha (.inl (by omega)),.inl rfl⟩
theorem NAT {text:ByteArray} {p:Nat} (hp:p<text.size) {l:List Int} (h:At text (p+1) l):At text p (bt text (p:Int)::l):=by
 obtain ⟨r,hr⟩:=h
 refine ⟨r,?_⟩
 rw [drop_at (by rw [bs_len];exact hp),hr,IAA hp]
 rfl
theorem NAf {text:ByteArray} {a:Nat} (hs:text.size≤140737488351232) (ha:a≤text.size):∀ j k m n,k+j=5→j<m→0≤n→n<pw k→∃ r,Yd m (.c0 text a n k)=some r∧(r=Yc∨∃ U:Int,r=(n+pw k*U,((a+k+(IK U).length:Nat):Int),true)∧0≤U∧(0<k→0<U)∧n+pw k*U≤1000000000∧At text (a+k) (IK U)):=by
 intro j
 induction j with
 | zero=>
  intro k m n hk hm _ _
  obtain ⟨m,rfl⟩:∃ q,m=q+1:=⟨m - 1,by omega⟩
  exact ⟨_,UAA hs ha (by omega) (.inr (by omega)),.inl rfl⟩
 | succ j ih=>
  intro k m n hk hm h0 h1
  obtain ⟨m,rfl⟩:∃ q,m=q+1:=⟨m - 1,by omega⟩
  by_cases hi:a+k<text.size
  ·have hb:=Yf text ((a+k:Nat):Int)
   generalize hbe:bt text ((a+k:Nat):Int)=b at hb
   obtain ⟨n1,n2,_⟩:=Dh (b:=b) (by omega:k<5) h0 h1 hb
   rw [VAA hs (by omega) hi h0 h1 hbe]
   split
   ·rename_i h
    split
    ·exact ⟨_,rfl,.inl rfl⟩
    ·rename_i h2
     have e1:=Ez hb.1 (by omega:b≤127)
     refine ⟨_,rfl,.inr ⟨b,by rw [e1,Int.mul_comm b (pw k)];rfl,hb.1,fun hk0=>by omega,by rw [Int.mul_comm (pw k) b];omega,?_⟩⟩
     rw [e1,←hbe]
     exact NAT hi ⟨_,rfl⟩
   ·rename_i h
    obtain ⟨_,_,_,e4,e5⟩:=n2 h
    obtain ⟨r,hr,hR⟩:=ih (k+1) m _ (by omega) (by omega) e4 e5
    refine ⟨r,hr,?_⟩
    rcases hR with hR | ⟨U,hR,hU,hU0,hUb,hA⟩
    ·exact .inl hR
    ·have hU1:=hU0 (by omega)
     have e6:IK (b - 128+128*U)=b::IK U:=by
      rw [IK,if_pos (by omega),show (b - 128+128*U) / 128=U by omega,show 128+(b - 128+128*U) % 128=b by omega]
     have e7:n+(b - 128)*pw k+pw (k+1)*U=n+pw k*(b - 128+128*U):=by
      rw [MAA,Int.mul_add,Int.mul_comm (b - 128) (pw k),←Int.mul_assoc];omega
     refine .inr ⟨b - 128+128*U,?_,by omega,fun _=>by omega,by rw [←e7];exact hUb,?_⟩
     ·rw [hR,e6,e7,List.length_cons,show a+(k+1)+(IK U).length=a+k+((IK U).length+1) by omega]
     ·rw [e6,←hbe]
      exact NAT hi hA
  ·exact ⟨_,UAA hs ha (by omega) (.inl (by omega)),.inl rfl⟩
theorem VAK {text:ByteArray} {a:Nat} (hs:text.size≤140737488351232) (ha:a≤text.size):∃ r,WZ text a=some r∧RVx text a r:=by
 simp only [WZ,Vr,Aa,Option.bind_some]
 rw [show NM (a:Int) 0 (text.size:Int)=true from WX.2 ⟨by omega,by omega⟩]
 exact MAf hs ha 5 0 gas 0 rfl (gas_lt (by omega)) (by omega) (by rw [Gg];omega)
theorem OAf {text:ByteArray} {a:Nat} (hs:text.size≤140737488351232) (ha:a≤text.size):∃ r,RY text a=some r∧RVx text a r:=by
 simp only [RY,Zv,Na,Option.bind_some]
 rw [show NM (a:Int) 0 (text.size:Int)=true from WX.2 ⟨by omega,by omega⟩]
 obtain ⟨r,hr,hR⟩:=NAf hs ha 5 0 gas 0 rfl (gas_lt (by omega)) (by omega) (by rw [Gg];omega)
 refine ⟨r,hr,?_⟩
 rcases hR with hR | ⟨U,hR,hU,_,hUb,hA⟩
 ·exact .inl hR
 ·rw [Gg,Int.zero_add,Int.one_mul] at hR hUb
  exact .inr ⟨U,hR,hU,hUb,hA⟩
noncomputable def GY (text:ByteArray) (a:Nat):Int×Int×Bool:=(WZ text a).getD Yc
theorem PAf {text:ByteArray} {a:Nat} (hs:text.size≤140737488351232) (ha:a≤text.size):WZ text a=some (GY text a):=by
 obtain ⟨r,hr,_⟩:=VAK hs ha
 rw [GY,hr];rfl
theorem QAb {text:ByteArray} {a:Nat} (hs:text.size≤140737488351232) (ha:a≤text.size):RY text a=some (GY text a):=by
 obtain ⟨r,hr,hR⟩:=VAK hs ha
 obtain ⟨r',hr',hR'⟩:=OAf hs ha
 have e:GY text a=r:=by rw [GY,hr];rfl
 rw [e]
 rcases hR with rfl | ⟨v,rfl,h0,h1,hA⟩
 ·rcases hR' with rfl | ⟨v,rfl,h0,h1,hA⟩
  ·exact hr'
  ·rw [PAK hs h0 h1 hA] at hr
   have h2:true=false:=congrArg (fun x=>(Option.getD x Yc).2.2) hr
   cases h2
 ·exact Hz hs h0 h1 hA
theorem AAK {text:ByteArray} {a:Nat} (hs:text.size≤140737488351232) (ha:a≤text.size):RVx text a (GY text a):=by
 obtain ⟨r,hr,hR⟩:=VAK hs ha
 have e:GY text a=r:=by rw [GY,hr];rfl
 rw [e];exact hR
theorem ZAi {text:ByteArray} {a:Nat} {V:Int} (hs:text.size≤140737488351232) (hV0:0≤V) (hV:V≤1000000000) (hA:At text a (IK V)):GY text a=(V,((a+(IK V).length:Nat):Int),true):=by
 rw [GY,PAK hs hV0 hV hA];rfl
noncomputable def Eb (file:ByteArray) (a:Nat):Option (ByteArray×Nat):=
 bif (GY file a).2.2 && (NM (GY file a).1 1 9000 && (decide ((GY file a).1≤(file.size:Int) - (GY file a).2.1 - 4) &&
  (bs (file.extract (GY file a).2.1.toNat ((GY file a).2.1+4).toNat) == four (Ea (bs (file.extract ((GY file a).2.1+4).toNat ((GY file a).2.1+4+(GY file a).1).toNat))))))
 then some (file.extract ((GY file a).2.1+4).toNat ((GY file a).2.1+4+(GY file a).1).toNat,((GY file a).2.1+4+(GY file a).1).toNat) else none
noncomputable def LY:Nat→ByteArray→Nat→List ByteArray×Nat
 | 0,_,a=>([],a)
 | j+1,file,a=>match Eb file a with
  | none=>([],a)
  | some p=>(p.1::(LY j file p.2).1,(LY j file p.2).2)
noncomputable def Cb (file:ByteArray):List ByteArray×Int:=bif decide ((file.size:Int) > 20000) then ([],0) else ((LY (file.size+1) file 0).1,((LY (file.size+1) file 0).2:Int))
theorem XAA {file:ByteArray} {a:Nat} (hs:file.size≤140737488351232) (ha:a≤file.size):(Eb file a=none)∨∃ (v:Int) (q:Nat),GY file a=(v,(q:Int),true)∧a<q∧q=a+(IK v).length∧1≤v∧v≤9000∧q+4+v.toNat≤file.size∧At file a (IK v)∧
  bs (file.extract q (q+4))=four (Ea (bs (file.extract (q+4) (q+4+v.toNat))))∧Eb file a=some (file.extract (q+4) (q+4+v.toNat),q+4+v.toNat):=by
 rw [Eb]
 rcases AAK hs ha with h | ⟨v,h,h0,h1,hA⟩
 ·left;rw [h];rfl
 ·rw [h]
  have hp:=Qc v
  have hsz:=hA.size.resolve_left (by intro h;rw [h] at hp;simp at hp)
  generalize hq:a+(IK v).length=q at hsz
  simp only [Bool.true_and]
  cases h2:NM v 1 9000
  ·left;rfl
  ·rw [WX] at h2
   by_cases h3:v≤(file.size:Int) - (q:Int) - 4
   ·rw [decide_eq_true h3]
    have e1:((q:Int)).toNat=q:=Int.toNat_natCast q
    have e2:((q:Int)+4).toNat=q+4:=by omega
    have e3:((q:Int)+4+v).toNat=q+4+v.toNat:=by omega
    rw [e1,e2,e3]
    cases h4:(bs (file.extract q (q+4)) == four (Ea (bs (file.extract (q+4) (q+4+v.toNat)))))
    ·left;rfl
    ·right
     exact ⟨v,q,rfl,by omega,hq.symm,by omega,by omega,by omega,hA,beq_iff_eq.1 h4,rfl⟩
   ·left;rw [decide_eq_false h3];rfl
theorem YAA (f:ByteArray) {a b c:Nat} (h:a≤b) (h2:b≤c) (h3:c≤f.size):bs (f.extract a c)=bs (f.extract a b)++bs (f.extract b c):=by
 rw [FZ,FZ,FZ,List.drop_take,List.drop_take,List.drop_take]
 rw [show (bs f).drop b=((bs f).drop a).drop (b - a) by rw [List.drop_drop];congr 1;omega]
 rw [show c - a=(b - a)+(c - b) by omega,List.take_add]
theorem QAf {f:ByteArray} (hf:f.size≤140737488351232):Ei f=some (Cb f):=by
 rw [Ei,PAE,Cb]
 by_cases h0:20000<f.size
 ·rw [TB (by simp;omega),TB (by simp;omega)]
 ·rw [FN (by simp;omega),FN (by simp;omega)]
  have key:∀ (j a m:Nat) (out:List ByteArray),a≤f.size→f.size<a+j→out.length≤a→O5 (m+j+1) (.c0 f (a:Int) out)=some (out++(LY j f a).1,((LY j f a).2:Int)):=by
   intro j
   induction j with
   | zero=>intro a m out ha hj;omega
   | succ j ih=>
    intro a m out ha hj ho
    rw [show m+(j+1)+1=(m+j+1)+1 by omega,O5]
    simp only [QAE,LY]
    by_cases he:a=f.size
    ·subst he
     rw [FN (by simp)]
     rcases XAA hf (Nat.le_refl _) with h | ⟨v,q,_,_,hq,h1,_,h3,_⟩
     ·rw [h,List.append_nil]
     ·omega
    ·rw [TB (by simp;omega),PAf hf ha,Option.bind_some]
     rcases AAK hf ha with h | ⟨v,h,hv0,hv1,hA⟩
     ·rw [show Eb f a=none by rw [Eb,h];rfl,h]
      rw [List.append_nil];rfl
     ·have hp:=Qc v
      have hsz:=hA.size.resolve_left (by intro h;rw [h] at hp;simp at hp)
      have hn:=XAA hf ha
      have hex:bs (f.extract a (a+(IK v).length))=IK v:=by rw [hA.extract (Ad v hv0),SN (Ad v hv0)]
      rw [h] at hn ⊢
      generalize hq:a+(IK v).length=q at hsz hn hex
      simp only [Bool.not_true,cond_false]
      rw [w64_id (n:=(f.size:Int) - (q:Int)) (by omega) (by omega),w64_id (n:=(f.size:Int) - (q:Int) - 4) (by omega) (by omega),w64_id (n:=(q:Int)+4) (by omega) (by omega),w64_id (n:=(q:Int)+4+v) (by omega) (by omega)]
      by_cases h3:v > (f.size:Int) - (q:Int) - 4
      ·rw [TB (by simp;omega)]
       rcases hn with hn | ⟨v',q',he',_,_,_,_,h4,_⟩
       ·rw [hn,List.append_nil]
       ·simp only [Prod.mk.injEq,and_true] at he';omega
      ·have e2:((q:Int)+4).toNat=q+4:=by omega
       have e3:((q:Int)+4+v).toNat=q+4+v.toNat:=by omega
       have hxs:(f.extract (q+4) (q+4+v.toNat)).size=v.toNat:=by rw [ByteArray.size_extract];omega
       rw [FN (by simp;omega),TB (by simp;omega),e2,e3,Int.toNat_natCast,MAT (by omega),Option.bind_some,frameT,hxs]
       rcases hn with hn | ⟨v',q',he',_,_,h5,h6,h4,hA',hb,hn⟩
       ·rw [hn,List.append_nil]
        cases hr:NM ((v.toNat:Nat):Int) 1 9000
        ·rfl
        ·rw [cond_true,FN (by rfl),TB (by simp;omega)]
         rw [TB]
         rw [Bool.not_eq_true',Ak,SN (TAK (Qb _)),beq_eq_false_iff_ne]
         intro hc
         rw [Eh,bs_len,hxs,show ((v.toNat:Nat):Int)=v by omega,YAA f (a:=a) (b:=q) (by omega) (by omega) (by omega),hex,YAA f (a:=q) (b:=q+4) (by omega) (by omega) (by omega)] at hc
         have hc2:=(List.append_inj (List.append_cancel_left hc) (by rw [bs_len,ByteArray.size_extract];show 4=_;omega)).1
         rw [Eb,h] at hn
         have hr':NM v 1 9000=true:=by rw [show ((v.toNat:Nat):Int)=v by omega] at hr;exact hr
         rw [hq] at hn
         simp only [hr',e2,e3,Int.toNat_natCast,←hc2,beq_self_eq_true,Bool.true_and,Bool.and_true] at hn
         rw [decide_eq_true (by omega:v≤(f.size:Int) - (q:Int) - 4)] at hn
         cases hn
       ·simp only [Prod.mk.injEq,and_true] at he'
        obtain ⟨rfl,he'⟩:=he'
        have:q=q':=by omega
        subst this
        have hr:NM ((v.toNat:Nat):Int) 1 9000=true:=by rw [WX];omega
        rw [hn,hr,cond_true,FN (by rfl),TB (by simp;omega)]
        rw [FN (by
         rw [Bool.not_eq_false',Ak,SN (TAK (Qb _)),beq_iff_eq]
         rw [Eh,bs_len,hxs,show ((v.toNat:Nat):Int)=v by omega,YAA f (a:=a) (b:=q) (by omega) (by omega) (by omega),hex,YAA f (a:=q) (b:=q+4) (by omega) (by omega) (by omega),hb])]
        rw [TB (by simp;omega),show (q:Int)+4+v=((q+4+v.toNat:Nat):Int) by omega,ih (q+4+v.toNat) m _ (by omega) (by omega) (by simp;omega)]
        simp
  obtain ⟨m,hm⟩:∃ m,gas=m+(f.size+1)+1:=⟨gas - (f.size+2),by have:=gas_lt (n:=f.size+2) (by omega);omega⟩
  rw [hm,show (0:Int)=((0:Nat):Int) from rfl,key (f.size+1) 0 m [] (by omega) (by omega) (Nat.le_refl _)]
  rfl
theorem WAK {n:Int} (h:0≤n) (h2:n≤255):Ye n=some (ofBytes [n]):=by
 have e:n.tmod 256=n:=by rw [Int.tmod_eq_emod_of_nonneg h];omega
 simp only [Ye,RAE,e]
 rw [show decide (n<0)=false from decide_eq_false (by omega),w8_id h h2]
 rfl
theorem OAT (k:List Int) {i:Nat}:(OY k).getD i 0=k.getD i 0:=by
 by_cases h:i<k.length
 ·rw [OY,Wy h]
 ·rw [OY,Rn (by omega)]
  simp only [List.getD]
  rw [List.getElem?_eq_none (by omega:k.length≤i)]
  by_cases h2:i - k.length<64 - k.length
  ·rw [List.getElem?_replicate,if_pos h2];rfl
  ·rw [List.getElem?_replicate,if_neg h2]
theorem QAT (f:Int→Int) {l:List Int} (hl:l.length=64) {i:Nat} (h:i<64) (y:Int) (hy:y=f (l.getD i 0)):((l.take i).map f++List.replicate (64 - i) 0).set i y=(l.take (i+1)).map f++List.replicate (64 - (i+1)) 0:=by
 rw [show 64 - i=(64 - (i+1))+1 by omega,List.replicate_succ,Nk (by simp;omega),take_at (by omega),hy,getD_at (by omega),List.map_append,List.append_assoc]
 rfl
theorem TAT {k:ByteArray} (hk:k.size≤64) (x:Int):Xl gas (.c0 k x (0:Int) (List.replicate (64:Int).toNat (0:Int)))=some (ofBytes (NZ x (OY (bs k)))):=by
 have hl:(OY (bs k)).length=64:=by rw [OY,List.length_append,List.length_replicate,bs_len];omega
 have key:=loopN (A:=Unit) (n:=64) (Lp:=Xl) (st:=fun i _=>.c0 k x (i:Int) (((OY (bs k)).take i).map (fun b=>xb b x)++List.replicate (64 - i) 0)) (Inv:=fun _ _=>True) (out:=fun _ _=>some (ofBytes (NZ x (OY (bs k)))))
  (fun m _ _=>by
   rw [Xl]
   simp only [P5]
   rw [FN (by simp),List.take_of_length_le (by omega),Nat.sub_self,List.replicate_zero,List.append_nil];rfl)
  (fun m i _ hi _=>.inr ⟨(),by
   have e:w64 ((i:Int)+1)=((i+1:Nat):Int):=by rw [w64_id (by omega) (by omega)];rfl
   have hlen:(((OY (bs k)).take i).map (fun b=>xb b x)++List.replicate (64 - i) 0).length=64:=by simp [hl];omega
   have hm:(((OY (bs k)).take i).map (fun b=>xb b x)).length=i:=by simp [hl];omega
   rw [Xl]
   simp only [P5,e,Int.toNat_natCast,List.length_set,hlen,PAA]
   rw [TB (by simp;omega)]
   by_cases h:i<k.size
   ·rw [TB (by simp;omega),TB (by simp;omega),TB (by simp;omega),TB (by simp;omega),TB (by simp;omega),Oc h]
    rw [List.set_set,LAd (by omega)]
    rw [QAT (fun b=>xb b x) hl hi _ (by rw [OAT])]
   ·rw [FN (by simp;omega),TB (by simp;omega),TB (by simp;omega)]
    rw [Rn (by omega),hm,Nat.sub_self]
    rw [QAT (fun b=>xb b x) hl hi _ (by
     rw [OAT,show (bs k).getD i 0=0 by simp [List.getD,List.getElem?_eq_none (show (bs k).length≤i by rw [bs_len];omega)]]
     rw [show 64 - i=(63 - i)+1 by omega,List.replicate_succ];rfl)],trivial,rfl⟩)
 exact key gas 0 () (Nat.zero_le _) (gas_lt (by omega)) trivial
theorem UAT {k:ByteArray} (hk:k.size≤1000000000) (x:Int):Ns k x=some (ofBytes (NZ x (Bd (bs k)))):=by
 rw [Ns,UAE]
 by_cases h:64<k.size
 ·rw [TB (by simp;omega),Dz hk,Option.bind_some,TAT (by rw [Ag];omega),Bd,if_pos (by rw [bs_len];omega),LAA]
 ·rw [FN (by simp;omega),TAT (by omega),Bd,if_neg (by rw [bs_len];omega)]
theorem VAT {k s:ByteArray} (hk:k.size≤900000000) (hs:s.size≤900000000):Ze k s=some (He k s):=by
 have x1:=QAA 92 (Bd (bs k))
 have x2:=QAA 54 (Bd (bs k))
 have x3:=GAf (bs k)
 rw [Ze,VAE,UAT (by omega),Option.bind_some,UAT (by omega),Option.bind_some,TB (by rw [ofBytes_size,decide_eq_true_eq];omega)]
 rw [Dz (by rw [ByteArray.size_append,ofBytes_size];omega),Option.bind_some,TB (by rw [ofBytes_size,Ag,decide_eq_true_eq];omega),Dz (by rw [ByteArray.size_append,ofBytes_size,Ag];omega),Option.bind_some]
 rw [BZ,NY,LAA,NY,SN (RAA _ _),SN (RAA _ _),He,Ed]
theorem RAf {k:ByteArray} {num n:Int} (hk:k.size≤900000000):Ws k num n=some (Wn k num n):=by
 rw [Ws,YAE,Aa,Option.bind_some,Wn,maskOk]
 cases h:NM num 0 1000000000
 ·rfl
 ·rw [WX] at h
  rw [FN (by rfl),Aa,Option.bind_some]
  cases h2:NM n 0 8000
  ·rfl
  ·rw [WX] at h2
   rw [FN (by rfl),Bool.and_self,cond_true]
   have hv:=MZ (n:=num) (by omega)
   have hvb:=Zk h.1
   have key:=loopN (A:=Unit) (n:=(n.toNat+31) / 32) (Lp:=Vs) (st:=fun i _=>.c0 k num n (i:Int) (Ie (bs k) (IK num) i)) (Inv:=fun _ _=>True) (out:=fun _ _=>some (ofBytes (VY (bs k) (IK num) n.toNat),true))
    (fun m _ _=>by
     rw [Vs]
     simp only [Q5]
     rw [FN (by rw [Hg,decide_eq_false_iff_not];omega),TB (by rw [Hg];simp;omega)]
     rfl)
    (fun m i _ hi _=>.inr ⟨(),by
     have e:w64 ((i:Int)+1)=((i+1:Nat):Int):=by rw [w64_id (by omega) (by omega)];rfl
     have h9:(⟨#[109]⟩:ByteArray).size=1:=rfl
     rw [Vs]
     simp only [Q5,e]
     rw [TB (by rw [Hg,decide_eq_true_eq];omega),Fg (by omega),Option.bind_some,TB (by rw [ofBytes_size,h9,decide_eq_true_eq];omega),WAK (by omega) (by omega),Option.bind_some,TB (by rw [ByteArray.size_append,ofBytes_size,ofBytes_size,h9,decide_eq_true_eq,List.length_singleton];omega)]
     rw [VAT hk (by rw [ByteArray.size_append,ByteArray.size_append,ofBytes_size,ofBytes_size,h9,List.length_singleton];omega),Option.bind_some,GAT k h.1 h.2 i (by omega),Xy,SN (Fz _ _),TB (by rw [ofBytes_size,Un];rfl),TB (by rw [Hg,Un,decide_eq_true_eq];omega)]
     rfl,trivial,rfl⟩)
   exact key gas 0 () (Nat.zero_le _) (gas_lt (by omega)) trivial
theorem SAf {k s:ByteArray} {num:Int} (hk:k.size≤900000000) (hn:0≤num∧num≤1000000000) (hs:s.size≤800000000):Dt k num s=some (ofBytes (RZ (bs k) num (bs s))):=by
 have hv:=MZ (n:=num) (by omega)
 have h9:(⟨#[116]⟩:ByteArray).size=1:=rfl
 have e:bs (⟨#[116]⟩:ByteArray)=[116]:=rfl
 have h16:(16:Int).toNat=16:=rfl
 rw [Dt,AAF,Fg (by omega),Option.bind_some,TB (by rw [ofBytes_size,h9,decide_eq_true_eq];omega),TB (by rw [ByteArray.size_append,ofBytes_size,h9,decide_eq_true_eq];omega)]
 rw [VAT hk (by rw [ByteArray.size_append,ByteArray.size_append,ofBytes_size,h9];omega),Option.bind_some,TB (by rw [FAT];decide)]
 refine congrArg some (Fa ?_)
 rw [FZ,EAT,h16,SN (Gz _ _ _),NY,NY,e,SN (Zk hn.1),RZ,List.drop_zero,List.append_assoc]
 rfl
theorem TAf {a b:ByteArray} (ha:a.size≤140737488351232) (h:a.size≤b.size):Ht a b=some (ofBytes (DY (bs a) (bs b))):=by
 have hl:=bs_len a
 have hl2:=bs_len b
 have key:=loopN (A:=Unit) (n:=(bs a).length) (Lp:=Gt) (st:=fun i _=>.c0 b (i:Int) (List.zipWith xb ((bs a).take i) ((bs b).take i)++(bs a).drop i)) (Inv:=fun _ _=>True) (out:=fun _ _=>some (ofBytes (DY (bs a) (bs b))))
  (fun m _ _=>by
   rw [Gt]
   simp only [V5]
   rw [FN (by simp;omega),List.take_length,List.drop_length,List.append_nil,DY,RAK])
  (fun m i _ hi _=>.inr ⟨(),by
   have e:w64 ((i:Int)+1)=((i+1:Nat):Int):=by rw [w64_id (by omega) (by omega)];rfl
   have hlen:(List.zipWith xb ((bs a).take i) ((bs b).take i)++(bs a).drop i).length=(bs a).length:=by simp;omega
   rw [Gt]
   simp only [V5,e,Int.toNat_natCast,hlen,PAA,KAT hi (show i<(bs b).length by omega)]
   rw [TB (by simp;omega),TB (by simp;omega),TB (by simp;omega),TB (by simp;omega),Oc (by omega),JAT hi (by omega)],trivial,rfl⟩)
 rw [Ht,EAF,TB (by simp;omega),Xy]
 exact key gas 0 () (Nat.zero_le _) (gas_lt (by omega)) trivial
theorem Ik {n:Int} (h:n≤9223372036854775807):Ja n=some (ofBytes (IK n)):=by
 have key:∀ (n:Int) (m:Nat) (out:List Int),n≤9223372036854775807→(IK n).length≤m→out.length+(IK n).length≤1000→Jw m (.c0 n out)=some (ofBytes (out++IK n)):=by
  intro n
  induction n using IK.induct with
  | case1 n hn ih=>
   intro m out h1 h2 h3
   rw [IK,if_pos hn] at h2 h3 ⊢
   simp only [List.length_cons] at h2 h3
   obtain ⟨m,rfl⟩:∃ k,m=k+1:=⟨m - 1,by omega⟩
   obtain ⟨e1,_,e2⟩:=ZAS hn h1
   simp only [Jw,P8,e1,e2]
   rw [show decide (n > 127)=true from decide_eq_true hn,show decide ((out.length+1)*1≤140737488355328)=true from decide_eq_true (by omega)]
   simp only [cond_true]
   rw [ih m _ (by omega) (by omega) (by simp;omega)]
   simp
  | case2 n hn=>
   intro m out h1 h2 h3
   rw [IK,if_neg hn] at h2 h3 ⊢
   simp at h2 h3
   obtain ⟨m,rfl⟩:∃ k,m=k+1:=⟨m - 1,by omega⟩
   simp only [Jw,P8]
   rw [show decide (n > 127)=false from decide_eq_false hn,show decide ((out.length+1)*1≤140737488355328)=true from decide_eq_true (by omega)]
   rfl
 have hl:=MZ h
 exact key n gas [] h (Nat.le_of_lt (gas_lt (by omega))) (by simp;omega)
theorem UAf {n:Int}:Ej n=some (bif NM n 0 1000000000 then (ofBytes (IK n),true) else (⟨#[]⟩,false)):=by
 simp only [Ej,UAH,Na,Option.bind_some]
 cases h:NM n 0 1000000000
 ·rfl
 ·rw [WX] at h
  rw [Bool.not_true,cond_false,Ik (by omega),Option.bind_some,cond_true]
theorem Bl {n:Int} (h:0≤n) (h2:n≤255):Lc n=some (ofBytes [n]):=by
 simp only [Lc,VAH,w8_id h h2]
theorem XAJ {n:Nat} (h:n≤1000000000):Xd (n:Int)=some (ofBytes (List.replicate n 0)):=by
 simp only [Xd,KAG,Int.toNat_natCast]
 rw [TB (by simp;omega)]
theorem DAA {x:Int} (h:R32 x):YZ x=some (ofBytes (four x)):=by
 obtain ⟨h1,h2⟩:=h
 have e1:Int.fdiv x (2 ^ (Min.min (24:Int).toNat (IntKind.bits IntKind.u32)))=x / 16777216:=Int.fdiv_eq_ediv_of_nonneg _ (by decide)
 have e2:Int.fdiv x (2 ^ (Min.min (16:Int).toNat (IntKind.bits IntKind.u32)))=x / 65536:=Int.fdiv_eq_ediv_of_nonneg _ (by decide)
 have e3:Int.fdiv x (2 ^ (Min.min (8:Int).toNat (IntKind.bits IntKind.u32)))=x / 256:=Int.fdiv_eq_ediv_of_nonneg _ (by decide)
 simp only [YZ,NAG,e1,e2,e3,w8_mod,four]
 rw [show x / 16777216 % 256=x / 16777216 by omega]
theorem VAf {n:Nat} (h:n<1099511627776):Vu (n:Int)=some (ofBytes (Xc (n:Int))):=by
 have e1:Int.fdiv (n:Int) (2 ^ (Min.min (32:Int).toNat (IntKind.bits IntKind.i64)))=(n:Int) / 4294967296:=Int.fdiv_eq_ediv_of_nonneg _ (by decide)
 simp only [Vu,PAG,e1,DAA (QZ _),Option.bind_some]
 rw [TB (by rw [ofBytes_size,ofBytes_size];simp [four])]
 congr 1
 apply Fa
 rw [NY,SN (Dk (QZ _)),SN (Dk (QZ _)),SN (fun x hx=>by
  simp only [Xc,List.mem_cons,List.not_mem_nil,or_false] at hx
  omega)]
 simp only [four,Xc,Qk,List.cons_append,List.nil_append,List.cons.injEq,and_true]
 omega
theorem WAf {n:Nat} (h:n≤100000000000):Wu (n:Int)=some (ofBytes (CY n)):=by
 have e1:(w64 (119 - ((n:Int).tmod 64))).tmod 64=(((119 - n % 64) % 64:Nat):Int):=by
  have a:(n:Int).tmod 64=(n:Int) % 64:=Int.tmod_eq_emod_of_nonneg (by omega)
  rw [a,w64_id (by omega) (by omega),Int.tmod_eq_emod_of_nonneg (by omega)]
  omega
 have e2:w64 (8*(n:Int))=((8*n:Nat):Int):=by rw [w64_id (by omega) (by omega)];omega
 have h0:(⟨#[128]⟩:ByteArray).size=1:=rfl
 simp only [Wu,RAG,e1,e2,XAJ (n:=(119 - n % 64) % 64) (by omega),VAf (n:=8*n) (by omega),Option.bind_some]
 rw [TB (by rw [ofBytes_size];simp [h0];omega),TB (by rw [ByteArray.size_append,ofBytes_size,ofBytes_size];simp [h0,Xc];omega)]
 congr 1
 apply Fa
 have hb:YX (List.replicate ((119 - n % 64) % 64) (0:Int)):=fun x hx=>by
  have:=List.eq_of_mem_replicate hx;omega
 have hb2:YX (Xc ((8*n:Nat):Int)):=fun x hx=>by
  simp only [Xc,List.mem_cons,List.not_mem_nil,or_false] at hx
  omega
 rw [NY,NY,SN hb,SN hb2,SN (KAK n),CY]
 have e3:bs (⟨#[128]⟩:ByteArray)=[128]:=rfl
 rw [e3]
 simp
theorem XAf {x:Int} (h:R32 x) (n:Nat) (hn:0<n) (hn2:n<32) (k:Int) (hk:wu64 (((BitVec.toNat ((BitVec.ofInt (IntKind.bits IntKind.u64) (wu64 k)) &&& (BitVec.ofInt (IntKind.bits IntKind.u64) (31:Int)))):Nat):Int)=((32 - n:Nat):Int))
  (hk2:wu64 (32 - ((32 - n:Nat):Int))=(n:Int)):Xu x k=some (rt (2 ^ n) (2 ^ (32 - n)) x):=by
 have e1:Min.min ((32 - n:Nat):Int).toNat (IntKind.bits IntKind.u32)=32 - n:=by
  show Min.min ((32 - n:Nat):Int).toNat 32=_
  omega
 have e2:Min.min (n:Int).toNat (IntKind.bits IntKind.u32)=n:=by
  show Min.min (n:Int).toNat 32=_
  omega
 have e3:Int.fdiv x (2 ^ n)=x / 2 ^ n:=Int.fdiv_eq_ediv_of_nonneg _ (Int.le_of_lt (Int.pow_pos (by omega)))
 simp only [Xu,UAG,hk,hk2,e1,e2,e3]
 rw [show decide ((0:Int)≤(n:Int))=true from decide_eq_true (by omega)]
 simp only [cond_true,CAS]
 rw [OAd h n hn hn2]
theorem Me {x:Int} (h:R32 x) (n:Nat) (hn:0<n) (hn2:n<32) (hk:wu64 (((BitVec.toNat ((BitVec.ofInt (IntKind.bits IntKind.u64) (wu64 (w64 (0 - (n:Int))))) &&& (BitVec.ofInt (IntKind.bits IntKind.u64) (31:Int)))):Nat):Int)=((32 - n:Nat):Int))
  (hk2:wu64 (32 - ((32 - n:Nat):Int))=(n:Int)):QY x (n:Int)=some (rt (2 ^ n) (2 ^ (32 - n)) x):=by
 simp only [QY,VAG,XAf h n hn hn2 _ hk hk2,Option.bind_some]
theorem YAf {x:Int} (h:R32 x):QY x 2=some (rt 4 1073741824 x):=Me h 2 (by decide) (by decide) (by decide) (by decide)
theorem ZAf {x:Int} (h:R32 x):QY x 13=some (rt 8192 524288 x):=Me h 13 (by decide) (by decide) (by decide) (by decide)
theorem AAg {x:Int} (h:R32 x):QY x 22=some (rt 4194304 1024 x):=Me h 22 (by decide) (by decide) (by decide) (by decide)
theorem BAg {x:Int} (h:R32 x):QY x 6=some (rt 64 67108864 x):=Me h 6 (by decide) (by decide) (by decide) (by decide)
theorem CAg {x:Int} (h:R32 x):QY x 11=some (rt 2048 2097152 x):=Me h 11 (by decide) (by decide) (by decide) (by decide)
theorem DAg {x:Int} (h:R32 x):QY x 25=some (rt 33554432 128 x):=Me h 25 (by decide) (by decide) (by decide) (by decide)
theorem EAg {x:Int} (h:R32 x):QY x 7=some (rt 128 33554432 x):=Me h 7 (by decide) (by decide) (by decide) (by decide)
theorem FAg {x:Int} (h:R32 x):QY x 18=some (rt 262144 16384 x):=Me h 18 (by decide) (by decide) (by decide) (by decide)
theorem GAg {x:Int} (h:R32 x):QY x 17=some (rt 131072 32768 x):=Me h 17 (by decide) (by decide) (by decide) (by decide)
theorem HAg {x:Int} (h:R32 x):QY x 19=some (rt 524288 8192 x):=Me h 19 (by decide) (by decide) (by decide) (by decide)
theorem IAg {a b:Int} (ha:0≤a∧a<16777216) (hb:0≤b∧b≤255):Yy (w32 (a*256)) (w32 b)=a*256+b:=by
 obtain ⟨x,rfl⟩:∃ x:Nat,a=(x:Int):=⟨a.toNat,by omega⟩
 obtain ⟨y,rfl⟩:∃ y:Nat,b=(y:Int):=⟨b.toNat,by omega⟩
 rw [Ba (by omega) (by omega),Ba (by omega) (by omega)]
 have:=DAS (a:=x) (b:=y) (s:=8) (by omega) (by omega) (by omega)
 have e:((x*2 ^ 8:Nat):Int)=(x:Int)*256:=by omega
 rw [Int.natCast_add,e] at this
 exact this
def Ib (l:List Int) (i:Nat):Nat→Int
 | 0=>0
 | k+1=>Ib l i k*256+l.getD (4*i+k) 0
theorem JAg (l:List Int) (i:Nat):Ib l i 4=wordAt l i:=by
 simp only [Ib,wordAt,be4,Nat.add_zero]
 omega
theorem KAg {l:List Int} (h:YX l) (i:Nat):∀ k,k<4→0≤Ib l i k∧Ib l i k<16777216
 | 0,_=>by simp [Ib]
 | 1,_=>by have:=LZ h (4*i+0);simp only [Ib];omega
 | 2,_=>by have:=LZ h (4*i+0);have:=LZ h (4*i+1);simp only [Ib];omega
 | 3,_=>by have:=LZ h (4*i+0);have:=LZ h (4*i+1);have:=LZ h (4*i+2);simp only [Ib];omega
theorem LAg {b:ByteArray} (hb:b.size=64) (v:List Int) (i:Nat) (hi:i<16):∀ (j k m:Nat),k+j=4→
  Za (m+j+1) (.c1 b (i:Int) (i:Int) (k:Int) v (ZX (bs b) i++Ib (bs b) i k::List.replicate (63 - i) 0))=Za m (.c0 b ((i+1:Nat):Int) v (ZX (bs b) (i+1)++List.replicate (63 - i) 0)):=by
 have hby:=Qb b
 intro j
 induction j with
 | zero=>
  intro k m h
  obtain rfl:k=4:=by omega
  have e:w64 ((i:Int)+1)=((i+1:Nat):Int):=by rw [w64_id (by omega) (by omega)];rfl
  rw [Za]
  simp only [Qg,e]
  rw [FN (by simp),JAg,JAS]
  simp
 | succ j ih=>
  intro k m h
  have hk:k<4:=by omega
  have hlen:(ZX (bs b) i++Ib (bs b) i k::List.replicate (63 - i) 0).length=64:=by
   simp only [List.length_append,List.length_cons,List.length_replicate,Zf];omega
  have e:w64 ((k:Int)+1)=((k+1:Nat):Int):=by rw [w64_id (by omega) (by omega)];rfl
  have e4:w64 (4*(i:Int))=((4*i:Nat):Int):=by rw [w64_id (by omega) (by omega)];omega
  have e5:w64 (((4*i:Nat):Int)+(k:Int))=((4*i+k:Nat):Int):=by rw [w64_id (by omega) (by omega)];omega
  have e8:(2:Int) ^ (Min.min (8:Int).toNat (IntKind.bits IntKind.u32))=256:=by decide
  have hg:(ZX (bs b) i++Ib (bs b) i k::List.replicate (63 - i) 0).getD i 0=Ib (bs b) i k:=by
   rw [Rn (by rw [Zf];omega),Zf,Nat.sub_self];rfl
  rw [show m+(j+1)+1=(m+j+1)+1 by omega,Za]
  simp only [Qg,e,e4,e5,e8,Int.toNat_natCast,hlen,hg,CAS]
  rw [TB (by simp;omega),TB (by rfl),TB (by simp;omega),TB (by simp;omega),TB (by rfl),TB (by simp;omega)]
  rw [Oc (by omega),IAg (KAg hby i k hk) (LZ hby _),Nk (Zf _ i)]
  exact ih (k+1) m (by omega)
theorem MAg {b:ByteArray} (hb:b.size=64) (v:List Int):∀ (j i m:Nat),i+j=16→Za (m+6*j+1) (.c0 b (i:Int) v (ZX (bs b) i++List.replicate (64 - i) 0))=Za m (.c2 16 v (ZX (bs b) 16++List.replicate 48 0)):=by
 intro j
 induction j with
 | zero=>
  intro i m h
  obtain rfl:i=16:=by omega
  rw [Za]
  simp only [Qg]
  rw [FN (by simp)]
 | succ j ih=>
  intro i m h
  rw [show m+6*(j+1)+1=(m+6*j+1)+4+1+1 by omega,Za]
  simp only [Qg]
  rw [TB (by simp;omega)]
  have h1:=LAg hb v i (by omega) 4 0 (m+6*j+1) (by omega)
  rw [show 64 - i=(63 - i)+1 by omega,List.replicate_succ]
  have h2:=ih (i+1) m (by omega)
  rw [show 64 - (i+1)=63 - i by omega] at h2
  exact h1.trans h2
theorem NAg {w v:List Int} (hw:∀ x ∈ w,R32 x) (hwl:w.length=16) (hv:v.length=64):∀ (j i m:Nat),i+j=48→Za (m+j+1) (.c2 ((16+i:Nat):Int) v (sched w i++List.replicate (48 - i) 0))=some (sched w 48):=by
 intro j
 induction j with
 | zero=>
  intro i m h
  obtain rfl:i=48:=by omega
  have hl:=Zy hwl 48
  rw [Za]
  simp only [Qg,Nat.sub_self,List.replicate_zero,List.append_nil,hl,hv]
  rfl
 | succ j ih=>
  intro i m h
  have hl:=Zy hwl i
  have hr:=JAA hw i
  have hlen:(sched w i++List.replicate (48 - i) 0).length=64:=by
   simp only [List.length_append,List.length_replicate,hl];omega
  have e2:w64 (((16+i:Nat):Int) - 2)=((16+i - 2:Nat):Int):=by rw [w64_id (by omega) (by omega)];omega
  have e7:w64 (((16+i:Nat):Int) - 7)=((16+i - 7:Nat):Int):=by rw [w64_id (by omega) (by omega)];omega
  have e15:w64 (((16+i:Nat):Int) - 15)=((16+i - 15:Nat):Int):=by rw [w64_id (by omega) (by omega)];omega
  have e16:w64 (((16+i:Nat):Int) - 16)=((16+i - 16:Nat):Int):=by rw [w64_id (by omega) (by omega)];omega
  have e1:w64 (((16+i:Nat):Int)+1)=((16+(i+1):Nat):Int):=by rw [w64_id (by omega) (by omega)];omega
  have g2:(sched w i++List.replicate (48 - i) 0).getD (16+i - 2) 0=(sched w i).getD (16+i - 2) 0:=Wy (by omega) 0
  have g7:(sched w i++List.replicate (48 - i) 0).getD (16+i - 7) 0=(sched w i).getD (16+i - 7) 0:=Wy (by omega) 0
  have g15:(sched w i++List.replicate (48 - i) 0).getD (16+i - 15) 0=(sched w i).getD (16+i - 15) 0:=Wy (by omega) 0
  have g16:(sched w i++List.replicate (48 - i) 0).getD (16+i - 16) 0=(sched w i).getD (16+i - 16) 0:=Wy (by omega) 0
  have f10:∀ x:Int,Int.fdiv x (2 ^ (Min.min (10:Int).toNat (IntKind.bits IntKind.u32)))=x / 1024:=fun x=>Int.fdiv_eq_ediv_of_nonneg _ (by decide)
  have f3:∀ x:Int,Int.fdiv x (2 ^ (Min.min (3:Int).toNat (IntKind.bits IntKind.u32)))=x / 8:=fun x=>Int.fdiv_eq_ediv_of_nonneg _ (by decide)
  have r15:=Az hr (16+i - 15)
  have r2:=Az hr (16+i - 2)
  rw [show m+(j+1)+1=(m+j+1)+1 by omega,Za]
  simp only [Qg,e1,e2,e7,e15,e16,Int.toNat_natCast,hlen,g2,g7,g15,g16,EAg r15,FAg r15,GAg r2,HAg r2,Option.bind_some,f10,f3,Nc]
  rw [TB (by simp;omega),TB (by rfl),TB (by simp;omega),TB (by rfl),TB (by simp;omega),TB (by rfl),TB (by simp;omega),TB (by rfl),TB (by simp;omega),TB (by rfl),TB (by simp;omega)]
  rw [show 48 - i=(48 - (i+1))+1 by omega,List.replicate_succ,Nk (by omega)]
  have h2:=ih (i+1) m (by omega)
  rw [sched,List.append_assoc] at h2
  exact h2
theorem OAg {b:ByteArray} (hb:b.size=64):Xi b=some (sched (ZX (bs b) 16) 48):=by
 obtain ⟨m,hm⟩:∃ m,gas=(m+48+1)+6*16+1:=⟨gas - 146,by have:=gas_lt (n:=146) (by omega);omega⟩
 rw [Xi,WAG,hm]
 have h0:=MAg hb (List.replicate 64 0) 16 0 (m+48+1) (by omega)
 have h2:=NAg (w:=ZX (bs b) 16) (v:=List.replicate 64 0) (IAK (Qb b) 16) (Zf _ 16) (List.length_replicate ..) 48 0 m (by omega)
 rw [show ZX (bs b) 0++List.replicate (64 - 0) 0=List.replicate 64 (0:Int) from rfl,show ((0:Nat):Int)=0 from rfl] at h0
 rw [show ((16+0:Nat):Int)=16 from rfl,show sched (ZX (bs b) 16) 0=ZX (bs b) 16 from rfl,show 48 - 0=48 from rfl] at h2
 rw [h0,h2]
theorem PAg (s r v:List Int) (hs:s.length=8) (hv:v.length=8) (f:Nat→Int) (hf:∀ i,i<8→f i=w32 (r.getD i 0+s.getD i 0)) (hr:r.length=8):∀ (j i m:Nat),i+j=8→Ic (m+j+1) (.c1 (i:Int) s v ((List.range i).map f++r.drop i))=some ((List.range 8).map f):=by
 intro j
 induction j with
 | zero=>
  intro i m h
  obtain rfl:i=8:=by omega
  rw [Ic]
  simp only [Lm]
  rw [FN (by simp),List.drop_of_length_le (by omega),List.append_nil,TB (by simp),TB (by simp [hv]),TB (by simp)]
 | succ j ih=>
  intro i m h
  have e:w64 ((i:Int)+1)=((i+1:Nat):Int):=by rw [w64_id (by omega) (by omega)];rfl
  have hl:((List.range i).map f++r.drop i).length=8:=by simp [hr];omega
  have hm:((List.range i).map f).length=i:=by simp
  have hg:((List.range i).map f++r.drop i).getD i 0=r.getD i 0:=by
   rw [Rn (by omega),hm,Nat.sub_self]
   simp [List.getD]
  rw [show m+(j+1)+1=(m+j+1)+1 by omega,Ic]
  simp only [Lm,e,Int.toNat_natCast,hl,hs,hg]
  rw [TB (by simp;omega),TB (by rfl),TB (by simp;omega),TB (by rfl),TB (by simp;omega),TB (by rfl),TB (by simp;omega)]
  rw [drop_at (by omega:i<r.length),Nk hm,←hf i (by omega)]
  have h2:=ih (i+1) m (by omega)
  rw [List.range_succ,List.map_append,List.append_assoc] at h2
  exact h2
theorem QAg (s v W:List Int) (hW:∀ x ∈ W,R32 x) (hWl:W.length=64) (r:Reg) (hr:r.ok) (i m:Nat) (hi:i<64) :
  Ic (m+1) (.c0 r.a r.b r.c r.d r.e r.f r.g r.h (i:Int) s v W)=Ic m (.c0 (Uc r (keysL.getD i 0) (W.getD i 0)).a (Uc r (keysL.getD i 0) (W.getD i 0)).b (Uc r (keysL.getD i 0) (W.getD i 0)).c (Uc r (keysL.getD i 0) (W.getD i 0)).d (Uc r (keysL.getD i 0) (W.getD i 0)).e (Uc r (keysL.getD i 0) (W.getD i 0)).f (Uc r (keysL.getD i 0) (W.getD i 0)).g (Uc r (keysL.getD i 0) (W.getD i 0)).h ((i+1:Nat):Int) s v W):=by
 obtain ⟨h1,h2,h3,h4,h5,h6,h7,h8⟩:=hr
 have e:w64 ((i:Int)+1)=((i+1:Nat):Int):=by rw [w64_id (by omega) (by omega)];rfl
 rw [Ic]
 simp only [Lm,e,Int.toNat_natCast,hWl,BAg h5,CAg h5,DAg h5,YAf h1,ZAf h1,AAg h1,Option.bind_some,Nc,ZAJ,MAd h5]
 rw [TB (by simp;omega),TB (by simp;omega),TB (by rw [Nat.blt_eq];omega),TB (by rfl),TB (by simp;omega)]
 rfl
theorem RAg (s v W:List Int) (hW:∀ x ∈ W,R32 x) (hWl:W.length=64) (r:Reg) (hr:r.ok):∀ (j i m:Nat),i+j=64→
  Ic (m+j+1) (.c0 (AZ keysL W r i).a (AZ keysL W r i).b (AZ keysL W r i).c (AZ keysL W r i).d (AZ keysL W r i).e (AZ keysL W r i).f (AZ keysL W r i).g (AZ keysL W r i).h (i:Int) s v W)=Ic m (.c1 0 s v (AZ keysL W r 64).l):=by
 intro j
 induction j with
 | zero=>
  intro i m h
  obtain rfl:i=64:=by omega
  rw [Ic]
  simp only [Lm]
  rw [FN (by simp)]
  rfl
 | succ j ih=>
  intro i m h
  rw [show m+(j+1)+1=(m+j+1)+1 by omega,QAg s v W hW hWl _ (IAS keysL W hr i) i _ (by omega)]
  exact ih (i+1) m (by omega)
theorem SAg {s:Reg} (hs:s.ok) {b:ByteArray} (hb:b.size=64):Yi s.l b=some (comp s (bs b)).l:=by
 obtain ⟨m,hm⟩:∃ m,gas=(m+8+1)+64+1:=⟨gas - 74,by have:=gas_lt (n:=74) (by omega);omega⟩
 have hr:=JAA (IAK (Qb b) 16) 48
 have hl:=Zy (Zf (bs b) 16) 48
 have hsl:s.l.length=8:=rfl
 have z0:(0:Int).toNat=0:=rfl
 have z1:(1:Int).toNat=1:=rfl
 have z2:(2:Int).toNat=2:=rfl
 have z3:(3:Int).toNat=3:=rfl
 have z4:(4:Int).toNat=4:=rfl
 have z5:(5:Int).toNat=5:=rfl
 have z6:(6:Int).toNat=6:=rfl
 have z7:(7:Int).toNat=7:=rfl
 rw [Yi,XAG,OAg hb,Option.bind_some,hm]
 simp only [hl,hsl,List.length_replicate,z0,z1,z2,z3,z4,z5,z6,z7]
 rw [TB (by rfl),TB (by rfl),TB (by rfl),TB (by rfl),TB (by rfl),TB (by rfl),TB (by rfl),TB (by rfl),TB (by rfl),TB (by rfl),TB (by rfl),TB (by rfl),TB (by rfl),TB (by rfl),TB (by rfl),TB (by rfl),TB (by rfl)]
 have h0:=RAg s.l [0,0,0,0,0,0,0,0] _ hr hl s hs 64 0 (m+8+1) (by omega)
 rw [show ((0:Nat):Int)=0 from rfl] at h0
 have hf:∀ i,i<8→(fun i=>w32 ((AZ keysL (sched (ZX (bs b) 16) 48) s 64).l.getD i 0+s.l.getD i 0)) i=w32 ((AZ keysL (sched (ZX (bs b) 16) 48) s 64).l.getD i 0+s.l.getD i 0):=fun _ _=>rfl
 have h1:=PAg s.l (AZ keysL (sched (ZX (bs b) 16) 48) s 64).l [0,0,0,0,0,0,0,0] rfl rfl _ hf rfl 8 0 m (by omega)
 rw [show ((0:Nat):Int)=0 from rfl,List.range_zero,List.map_nil,List.nil_append,List.drop_zero] at h1
 have e:(List.range 8).map (fun i=>w32 ((AZ keysL (sched (ZX (bs b) 16) 48) s 64).l.getD i 0+s.l.getD i 0))=(comp s (bs b)).l:=by
  apply List.ext_getElem
  ·rw [Reg.Bz,List.length_map,List.length_range]
  ·intro i h1 h2
   have hi:i<8:=by simpa using h1
   rw [List.getElem_map,List.getElem_range,←getD_at h2 0]
   rw [comp,RAS _ _ i hi,Int.add_comm]
 rw [e] at h1
 exact h0.trans h1
theorem TAg {s:Reg} (hs:s.ok) {t:ByteArray} (ht:t.size≤1000000000000):Fv s.l t=some ((comps (t.size / 64) s (bs t)).l,t.extract (64*(t.size / 64)) t.size):=by
 have key:∀ (j:Nat) (s:Reg) (t:ByteArray) (m:Nat),s.ok→t.size / 64=j→t.size≤1000000000000→Dv (m+j+1) (.c0 t s.l [0,0,0,0,0,0,0,0])=some ((comps j s (bs t)).l,t.extract (64*j) t.size):=by
  intro j
  induction j with
  | zero=>
   intro s t m hs hj ht
   rw [Dv]
   simp only [D8,Reg.Bz]
   rw [FN (by simp;omega),TB (by rfl),TB (by rfl),TB (by rfl)]
   congr 2
   apply Fa
   rw [FZ,List.take_of_length_le (by rw [bs_len];omega)]
   rfl
  | succ j ih=>
   intro s t m hs hj ht
   have h64:(64:Int).toNat=64:=rfl
   have e1:bs (t.extract 0 64)=(bs t).take 64:=by rw [FZ];rfl
   have e2:bs (t.extract 64 t.size)=(bs t).drop 64:=by rw [FZ,List.take_of_length_le (by rw [bs_len];omega)]
   rw [show m+(j+1)+1=(m+j+1)+1 by omega,Dv]
   simp only [D8,h64,Reg.Bz]
   rw [TB (by simp;omega),TB (by rfl),TB (by simp;omega)]
   rw [SAg hs (b:=t.extract 0 64) (by simp;omega),Option.bind_some]
   rw [Reg.Bz]
   rw [TB (by rfl)]
   rw [TB (by simp;omega)]
   rw [ih (comp s (bs (t.extract 0 64))) (t.extract 64 t.size) m (KAS _ _) (by simp;omega) (by simp;omega),e1,e2]
   have e3:(t.extract 64 t.size).extract (64*j) (t.extract 64 t.size).size=t.extract (64*(j+1)) t.size:=by
    apply Fa
    rw [FZ,e2,FZ,List.take_of_length_le (by simp [bs_len]),List.take_of_length_le (by rw [bs_len];omega),List.drop_drop]
    congr 1
    omega
   rw [e3,comps]
 obtain ⟨m,hm⟩:∃ m,gas=m+t.size / 64+1:=⟨gas - (t.size / 64+1),by have:=gas_lt (n:=t.size / 64+1) (by omega);omega⟩
 rw [Fv,AAH,hm]
 exact key _ s t m hs rfl ht
theorem UAg {r:Reg} (hr:r.ok):Kv r.l=some (ofBytes (VX r.l)):=by
 have hl:r.l.length=8:=rfl
 have hrl:=Reg.Vk hr
 have hby:∀ i,YX (VX (r.l.take i)):=fun i=>JAK (fun x hx=>hrl x (List.mem_of_mem_take hx))
 have key:=loopN (A:=Unit) (n:=8) (Lp:=Jv) (st:=fun i _=>.c0 (ofBytes (VX (r.l.take i))) r.l (i:Int)) (Inv:=fun _ _=>True) (out:=fun _ _=>some (ofBytes (VX r.l)))
  (fun m _ _=>by
   rw [Jv]
   simp only [E8]
   rw [FN (by simp)]
   rfl)
  (fun m i _ hi _=>.inr ⟨(),by
   have e:w64 ((i:Int)+1)=((i+1:Nat):Int):=by rw [w64_id (by omega) (by omega)];rfl
   have hg:r.l.getD i 0=r.l[i]'(by omega):=getD_at (by omega) 0
   have hx:R32 (r.l.getD i 0):=Az hrl i
   rw [Jv]
   simp only [E8,e,Int.toNat_natCast,DAA hx,Option.bind_some,hl]
   rw [TB (by simp;omega),TB (by rfl),TB (by simp;omega),TB (by rw [ofBytes_size,ofBytes_size,Tn];simp [four];omega)]
   congr 2
   apply Fa
   rw [NY,SN (hby i),SN (hby (i+1)),SN (Dk hx),take_at (by omega),MAS,hg]
   simp [VX],trivial,rfl⟩)
 rw [Kv,CAH,hl,TB (by rfl)]
 exact key gas 0 () (Nat.zero_le _) (gas_lt (by omega)) trivial
theorem VAg:V7=some Fb.l:=rfl
theorem Vy {s:ByteArray} (hs:s.size≤1000000000):Jc s=some (BZ s):=by
 have h1:=KAA s.size
 have hsz:(s++ofBytes (CY s.size)).size=s.size+(CY s.size).length:=by rw [ByteArray.size_append,ofBytes_size]
 rw [Jc,DAH,VAg,Option.bind_some,WAf (n:=s.size) (by omega),Option.bind_some,TB (by rw [ofBytes_size];simp;omega),TAg Bh (by omega),Option.bind_some]
 simp only [Reg.Bz]
 rw [TB (by rfl),TB (by rfl),UAg (Uk Bh _ _),Option.bind_some,hsz,NY,SN (KAK _),BZ,Qa,bs_len]
theorem WAT {s:ByteArray} {x:Int} (hs:s.size≤140737488351232):Fj s x=some (ofBytes (NZ x (bs s))):=by
 have hl:=bs_len s
 have key:=loopN (A:=Unit) (n:=(bs s).length) (Lp:=Nw) (st:=fun i _=>.c0 x ((bs s).length:Int) (i:Int) (((bs s).take i).map (fun b=>xb b x)++(bs s).drop i)) (Inv:=fun _ _=>True) (out:=fun _ _=>some (ofBytes (NZ x (bs s))))
  (fun m _ _=>by
   rw [Nw]
   simp only [V8]
   rw [FN (by simp),List.take_length,List.drop_length,List.append_nil];rfl)
  (fun m i _ hi _=>.inr ⟨(),by
   have e:w64 ((i:Int)+1)=((i+1:Nat):Int):=by rw [w64_id (by omega) (by omega)];rfl
   have hlen:(((bs s).take i).map (fun b=>xb b x)++(bs s).drop i).length=(bs s).length:=by simp;omega
   rw [Nw]
   simp only [V8,e,Int.toNat_natCast,hlen,PAA,IAf hi]
   rw [TB (by simp;omega),TB (by simp;omega),TB (by simp;omega),HAf (fun b=>xb b x) hi],trivial,rfl⟩)
 rw [Fj,YAH,TB (by simp;omega),Xy]
 exact key gas 0 () (Nat.zero_le _) (gas_lt (by omega)) trivial
theorem AAj {l:List Int} (h:YX l):YX (OY l):=fun x hx=>by
 simp only [OY,List.mem_append,List.mem_replicate] at hx
 rcases hx with hx | hx
 ·exact h x hx
 ·omega
theorem WAg {k:ByteArray} (h:k.size≤64):bs (k++ofBytes (List.replicate (64 - k.size) 0))=OY (bs k):=by
 rw [NY,SN (fun x hx=>by have:=List.eq_of_mem_replicate hx;omega),OY,bs_len]
theorem XAg {K:ByteArray} (h:K.size=64) {s:ByteArray}:BZ (ofBytes (NZ 92 (bs K))++BZ (ofBytes (NZ 54 (bs K))++s))=ofBytes (Qa (NZ 92 (bs K)++Qa (NZ 54 (bs K)++bs s))):=by
 rw [BZ,NY,LAA,NY,SN (RAA _ _),SN (RAA _ _)]
theorem XAT {k s:ByteArray} (hk:k.size≤900000000) (hs:s.size≤900000000):Rf k s=some (He k s):=by
 have fin:∀ {K:ByteArray} {m:Int},K.size≤64→m=((64 - K.size:Nat):Int)→∀ (f:Option ByteArray),f=some (ofBytes (Qa (NZ 92 (OY (bs K))++Qa (NZ 54 (OY (bs K))++bs s))))→
   ((Xd m).bind fun r1=>bif decide (K.size+r1.size≤9223372036854775807) then (Fj (K++r1) 92).bind fun r2=>(Fj (K++r1) 54).bind fun r3=>bif decide (r3.size+s.size≤9223372036854775807) then (Jc (r3++s)).bind fun r4=>bif decide (r2.size+r4.size≤9223372036854775807) then (Jc (r2++r4)).bind fun r5=>some r5 else none else none else none)=f:=by
  intro K m hK hm f hf
  have h64:(K++ofBytes (List.replicate (64 - K.size) 0)).size=64:=by rw [ByteArray.size_append,ofBytes_size,List.length_replicate];omega
  subst hm
  have x1:=QAA 92 (OY (bs K))
  have x2:=QAA 54 (OY (bs K))
  have x3:(OY (bs K)).length=64:=by rw [OY,List.length_append,List.length_replicate,bs_len];omega
  have hb:=WAg hK
  have hf2:=XAg h64 (s:=s)
  rw [hb] at hf2
  rw [XAJ (by omega),Option.bind_some,TB (by rw [ofBytes_size,List.length_replicate,decide_eq_true_eq];omega),WAT (by omega),Option.bind_some,WAT (by omega),Option.bind_some,hb]
  rw [TB (by rw [ofBytes_size,decide_eq_true_eq];omega),Vy (by rw [ByteArray.size_append,ofBytes_size];omega),Option.bind_some,TB (by rw [ofBytes_size,Ag,decide_eq_true_eq];omega)]
  rw [Vy (by rw [ByteArray.size_append,ofBytes_size,Ag];omega),Option.bind_some,hf,hf2]
 rw [Rf,ZAH]
 by_cases h:64<k.size
 ·rw [TB (by simp;omega),Vy (by omega),Option.bind_some]
  apply fin (by rw [Ag];omega) (by rw [Ag];decide)
  rw [He,Ed,Bd,if_pos (by rw [bs_len];omega),LAA]
 ·rw [FN (by simp;omega)]
  apply fin (by omega) (by rw [w64_id (by omega) (by omega)];omega)
  rw [He,Ed,Bd,if_neg (by rw [bs_len];omega)]
theorem YAg {k:ByteArray} {num n:Int} (hk:k.size≤900000000):Vw k num n=some (Wn k num n):=by
 rw [Vw,CAI,UAf,Option.bind_some,Wn,maskOk]
 cases h:NM num 0 1000000000
 ·rfl
 ·rw [WX] at h
  rw [cond_true,FN (by rfl),Na,Option.bind_some]
  cases h2:NM n 0 8000
  ·rfl
  ·rw [WX] at h2
   rw [FN (by rfl),Bool.and_self,cond_true]
   have hv:=MZ (n:=num) (by omega)
   have hvb:=Zk h.1
   have key:=loopN (A:=Unit) (n:=(n.toNat+31) / 32) (Lp:=Uw) (st:=fun i _=>.c0 k n (ofBytes (IK num)) (ofBytes (Ie (bs k) (IK num) i)) (i:Int)) (Inv:=fun _ _=>True) (out:=fun _ _=>some (ofBytes (VY (bs k) (IK num) n.toNat),true))
    (fun m _ _=>by
     rw [Uw]
     simp only [X8]
     rw [FN (by rw [ofBytes_size,Hg,decide_eq_false_iff_not];omega),TB (by rw [ofBytes_size,Hg];simp;omega)]
     refine congrArg (fun x=>some (x,true)) (Fa ?_)
     rw [FZ,SN (SAA _ _ _),SN (QAK _ _ _),VY,List.drop_zero])
    (fun m i _ hi _=>.inr ⟨(),by
     have e:w64 ((i:Int)+1)=((i+1:Nat):Int):=by rw [w64_id (by omega) (by omega)];rfl
     have h9:(⟨#[109]⟩:ByteArray).size=1:=rfl
     rw [Uw]
     simp only [X8,e]
     rw [TB (by rw [ofBytes_size,Hg,decide_eq_true_eq];omega),TB (by rw [ofBytes_size,h9,decide_eq_true_eq];omega),Bl (by omega) (by omega),Option.bind_some,TB (by rw [ByteArray.size_append,ofBytes_size,ofBytes_size,h9,decide_eq_true_eq,List.length_singleton];omega)]
     rw [XAT hk (by rw [ByteArray.size_append,ByteArray.size_append,ofBytes_size,ofBytes_size,h9,List.length_singleton];omega),Option.bind_some,GAT k h.1 h.2 i (by omega),TB (by rw [ofBytes_size,ofBytes_size,Hg,Un,decide_eq_true_eq];omega)]
     rw [show ofBytes (Ie (bs k) (IK num) i)++ofBytes (Ed (bs k) (109::(IK num++[(i:Int)])))=ofBytes (Ie (bs k) (IK num) (i+1)) from Fa (by
      rw [NY,SN (SAA _ _ _),SN (SAA _ _ _),SN (Fz _ _),Ie])],trivial,rfl⟩)
   exact key gas 0 () (Nat.zero_le _) (gas_lt (by omega)) trivial
theorem ZAg {k s:ByteArray} {num:Int} (hk:k.size≤900000000) (hn:0≤num∧num≤1000000000) (hs:s.size≤800000000):Xw k num s=some (ofBytes (RZ (bs k) num (bs s))):=by
 have hv:=MZ (n:=num) (by omega)
 have h9:(⟨#[116]⟩:ByteArray).size=1:=rfl
 have e:bs (⟨#[116]⟩:ByteArray)=[116]:=rfl
 have h16:(16:Int).toNat=16:=rfl
 rw [Xw,EAI,Ik (by omega),Option.bind_some,TB (by rw [ofBytes_size,h9,decide_eq_true_eq];omega),TB (by rw [ByteArray.size_append,ofBytes_size,h9,decide_eq_true_eq];omega)]
 rw [XAT hk (by rw [ByteArray.size_append,ByteArray.size_append,ofBytes_size,h9];omega),Option.bind_some,TB (by rw [FAT];decide)]
 refine congrArg some (Fa ?_)
 rw [FZ,EAT,h16,SN (Gz _ _ _),NY,NY,e,SN (Zk hn.1),RZ,List.drop_zero,List.append_assoc]
 rfl
theorem AAh {a b:ByteArray} (ha:a.size≤140737488351232) (h:a.size≤b.size):Dx a b=some (ofBytes (DY (bs a) (bs b))):=by
 have hl:=bs_len a
 have hl2:=bs_len b
 have key:=loopN (A:=Unit) (n:=(bs a).length) (Lp:=Zw) (st:=fun i _=>.c0 b ((bs a).length:Int) (i:Int) (List.zipWith xb ((bs a).take i) ((bs b).take i)++(bs a).drop i)) (Inv:=fun _ _=>True) (out:=fun _ _=>some (ofBytes (DY (bs a) (bs b))))
  (fun m _ _=>by
   rw [Zw]
   simp only [Y8]
   rw [FN (by simp),List.take_length,List.drop_length,List.append_nil,DY,RAK])
  (fun m i _ hi _=>.inr ⟨(),by
   have e:w64 ((i:Int)+1)=((i+1:Nat):Int):=by rw [w64_id (by omega) (by omega)];rfl
   have hlen:(List.zipWith xb ((bs a).take i) ((bs b).take i)++(bs a).drop i).length=(bs a).length:=by simp;omega
   rw [Zw]
   simp only [Y8,e,Int.toNat_natCast,hlen,PAA,KAT hi (show i<(bs b).length by omega)]
   rw [TB (by simp;omega),TB (by simp;omega),TB (by simp;omega),TB (by simp;omega),Oc (by omega),JAT hi (by omega)],trivial,rfl⟩)
 rw [Dx,GAI,TB (by simp;omega),Xy]
 exact key gas 0 () (Nat.zero_le _) (gas_lt (by omega)) trivial
theorem YAT (t:ByteArray) {n:Nat} (h:t.size=n+16):bs (t.extract 0 n)=(bs t).take (t.size - 16)∧bs (t.extract n t.size)=(bs t).drop (t.size - 16):=by
 rw [FZ,FZ,List.take_of_length_le (by rw [bs_len];omega:(bs t).length≤t.size),h,Nat.add_sub_cancel]
 exact ⟨rfl,rfl⟩
theorem TAb {k t:ByteArray} {num:Int} (hk:k.size≤900000000) (ht:t.size≤800000000):Gj k num t=some (RX k num t):=by
 rw [Gj,HAI,RX]
 have hw:w64 ((t.size:Int) - 16)=(t.size:Int) - 16:=w64_id (by omega) (by omega)
 rw [hw]
 by_cases h:t.size<16
 ·rw [TB (by simp;omega),TB (by simp;omega)]
 ·obtain ⟨n,hn⟩:∃ n,t.size=n+16:=⟨t.size - 16,by omega⟩
  obtain ⟨e1,e2⟩:=YAT t hn
  have hz:(t.size:Int) - 16=(n:Int):=by omega
  have hb:=bs_len t
  rw [FN (by simp;omega),YAg hk,Option.bind_some,Wn,hz,show decide ((t.size:Int)<16)=false by simp;omega,Bool.false_or]
  cases hm:maskOk num n
  ·rfl
  ·have h':=LAT.1 hm
   have hml:=Je (bs k) (IK num) n
   have hes:(t.extract 0 n).size=n:=by simp;omega
   rw [Bool.not_true,cond_false,cond_true,FN (by rfl),Int.toNat_natCast,TB (by simp;omega),ZAg hk h'.1 (by omega),Option.bind_some,TB (by simp;omega),Ak,SN (Gz _ _ _),e1,e2]
   cases hc:(RZ (bs k) num ((bs t).take (t.size - 16)) == (bs t).drop (t.size - 16))
   ·rfl
   ·rw [Bool.not_true,cond_false,TB (by simp;omega),AAh (by omega) (by rw [ofBytes_size,hml];omega),Option.bind_some,SN (QAK _ _ _),e1,cond_true,show t.size - 16=n by omega]
theorem BAh {k t:ByteArray} {num:Int} (hk:k.size≤900000000) (ht:t.size≤800000000):Gi k num t=some (RX k num t):=by
 rw [Gi,FAF,RX]
 have hw:w64 ((t.size:Int) - 16)=(t.size:Int) - 16:=w64_id (by omega) (by omega)
 rw [hw]
 by_cases h:t.size<16
 ·rw [TB (by simp;omega),TB (by simp;omega)]
 ·obtain ⟨n,hn⟩:∃ n,t.size=n+16:=⟨t.size - 16,by omega⟩
  obtain ⟨e1,e2⟩:=YAT t hn
  have hz:(t.size:Int) - 16=(n:Int):=by omega
  have hb:=bs_len t
  have hes:(t.extract 0 n).size=n:=by simp;omega
  rw [FN (by simp;omega),hz,Int.toNat_natCast,hes,TB (by simp;omega),RAf hk,Option.bind_some,Wn,show decide ((t.size:Int)<16)=false by simp;omega,Bool.false_or]
  cases hm:maskOk num n
  ·rfl
  ·have h':=LAT.1 hm
   have hml:=Je (bs k) (IK num) n
   rw [Bool.not_true,cond_false,cond_true,FN (by rfl),Int.toNat_natCast,SAf hk h'.1 (by omega),Option.bind_some,TB (by simp;omega)]
   simp only [U5,CAF,Option.bind_some,Ak,SN (Gz _ _ _),e1,e2]
   cases hc:(RZ (bs k) num ((bs t).take (t.size - 16)) == (bs t).drop (t.size - 16))
   ·rfl
   ·rw [Bool.not_true,cond_false,TAf (by omega) (by rw [ofBytes_size,hml];omega),Option.bind_some,SN (QAK _ _ _),e1,cond_true,show t.size - 16=n by omega]
def Fh (text:ByteArray) (c:SL19Cur):Prop:=∃ p:Nat,∃ b:Bool,c=⟨text,(p:Int),b⟩∧p≤text.size
theorem ZAA {text:ByteArray} {c:SL19Cur} (hs:text.size≤140737488351232) (h:Fh text c):∃ v c',Ac c=some (v,c')∧Fh text c'∧0≤v∧v≤1000000000:=by
 obtain ⟨p,b,rfl,hp⟩:=h
 obtain ⟨r,hr,hR⟩:=ZAe hs hp
 simp only [Ac,F6,hr,Option.bind_some]
 cases b
 ·rcases hR with rfl | ⟨v,q,rfl,h0,h1,_,h3⟩
  ·exact ⟨_,_,rfl,⟨p,true,rfl,hp⟩,by omega,by omega⟩
  ·exact ⟨_,_,rfl,⟨q,false,rfl,h3⟩,h0,h1⟩
 ·exact ⟨_,_,rfl,⟨p,true,rfl,hp⟩,by omega,by omega⟩
theorem Iz {text:ByteArray} {a:Nat} {V:Int} (hs:text.size≤140737488351232) (hV0:0≤V) (hV:V≤1000000000) (hA:At text a (IK V)):Ac ⟨text,(a:Int),false⟩=some (V,⟨text,((a+(IK V).length:Nat):Int),false⟩):=by
 simp only [Ac,F6,PAK hs hV0 hV hA,Option.bind_some]
 rfl
theorem XAK {text:ByteArray} {c:SL19Cur} {n:Int} (hs:text.size≤140737488351232) (h:Fh text c) (h0:0≤n) (h1:n≤1000000000):∃ s c',Xa c n=some (s,c')∧Fh text c'∧s.size≤1000000000∧(c'.fBad=false→(s.size:Int)=n∧c.fAt+n≤(text.size:Int)):=by
 obtain ⟨p,b,rfl,hp⟩:=h
 simp only [Xa,Y5]
 have e1:w64 ((text.size:Int) - (p:Int))=(text.size:Int) - p:=w64_id (by omega) (by omega)
 have e2:w64 ((p:Int)+n)=p+n:=w64_id (by omega) (by omega)
 have e3:w64 ((p:Int)+n - n)=p:=by rw [w64_id (by omega) (by omega)];omega
 rw [e1,e2,e3]
 cases b
 ·by_cases hn:n > (text.size:Int) - p
  ·rw [show decide (n > (text.size:Int) - p)=true from decide_eq_true hn]
   exact ⟨_,_,rfl,⟨p,true,rfl,hp⟩,by show 0≤_;omega,fun h=>by cases h⟩
  ·rw [show decide (n > (text.size:Int) - p)=false from decide_eq_false hn,show decide ((0:Int)≤(p:Int))=true from decide_eq_true (by omega),show decide ((p:Int)≤p+n)=true from decide_eq_true (by omega),show decide ((p:Int)+n≤(text.size:Int))=true from decide_eq_true (by omega)]
   have hz:(text.extract (p:Int).toNat ((p:Int)+n).toNat).size=n.toNat:=by rw [ByteArray.size_extract];omega
   refine ⟨_,_,rfl,⟨((p:Int)+n).toNat,false,?_,by omega⟩,by rw [hz];omega,fun _=>⟨by rw [hz];omega,by show (p:Int)+n≤_;omega⟩⟩
   rw [Int.toNat_of_nonneg (by omega)]
 ·exact ⟨_,_,rfl,⟨p,true,rfl,hp⟩,by show 0≤_;omega,fun h=>by cases h⟩
theorem YAK {text:ByteArray} {p:Nat} {s:ByteArray} (hs:text.size≤140737488351232) (hA:At text p (bs s)) (hp:p≤text.size):Xa ⟨text,(p:Int),false⟩ (s.size:Int)=some (s,⟨text,((p+s.size:Nat):Int),false⟩):=by
 have hz:p+s.size≤text.size:=by
  rcases hA.size with h | h
  ·have:=congrArg List.length h;rw [bs_len,List.length_nil] at this;omega
  ·rw [bs_len] at h;exact h
 have e1:w64 ((text.size:Int) - (p:Int))=(text.size:Int) - p:=w64_id (by omega) (by omega)
 have e2:w64 ((p:Int)+(s.size:Int))=((p+s.size:Nat):Int):=by rw [w64_id (by omega) (by omega)];omega
 have e3:w64 (((p+s.size:Nat):Int) - (s.size:Int))=p:=by rw [w64_id (by omega) (by omega)];omega
 simp only [Xa,Y5,e1,e2,e3,Int.toNat_natCast]
 have hx:=hA.extract (fun n hn=>HAK hn)
 rw [bs_len,HAA] at hx
 rw [show decide ((s.size:Int) > (text.size:Int) - p)=false from decide_eq_false (by omega),show decide ((0:Int)≤(p:Int))=true from decide_eq_true (by omega),show decide ((p:Int)≤((p+s.size:Nat):Int))=true from decide_eq_true (by omega),show decide (((p+s.size:Nat):Int)≤(text.size:Int))=true from decide_eq_true (by omega),hx]
 rfl
theorem ZAK {text:ByteArray} {c:SL19Cur} (hs:text.size≤140737488351232) (h:Fh text c):∃ v c',Ya c=some (v,c')∧Fh text c'∧0≤v∧v≤255∧(c'.fBad=true→v=0)∧(c'.fBad=false→c.fAt+1≤(text.size:Int)):=by
 obtain ⟨s,c',e,hc,_,hn⟩:=XAK (n:=1) hs h (by omega) (by omega)
 simp only [Ya,D6,e,Option.bind_some]
 cases hb:c'.fBad
 ·obtain ⟨h1,h2⟩:=hn hb
  rw [show decide ((0:Int)≤(0:Int))=true from rfl,show decide ((0:Int)<(s.size:Int))=true from decide_eq_true (by omega)]
  have:=Yf s 0
  rw [w64_id (n:=bt s 0) (by omega) (by omega)]
  exact ⟨_,_,rfl,hc,this.1,this.2,fun h=>(by rw [hb] at h;cases h),fun _=>h2⟩
 ·exact ⟨_,_,rfl,hc,by omega,by omega,fun _=>rfl,fun h=>(by rw [hb] at h;cases h)⟩
theorem Xn {text:ByteArray} {p:Nat} {b:Int} (hs:text.size≤140737488351232) (hA:At text p [b]):Ya ⟨text,(p:Int),false⟩=some (b,⟨text,((p+1:Nat):Int),false⟩):=by
 obtain ⟨h1,h2⟩:=hA.head
 have hb:=Yf text p
 rw [h2] at hb
 have hB:bs (ofBytes [b])=[b]:=SN (by simpa using hb)
 have e:=YAK (s:=ofBytes [b]) hs (by rw [hB];exact hA) (Nat.le_of_lt h1)
 have h0:bt (ofBytes [b]) 0=b:=by
  have:=IAA (s:=ofBytes [b]) (i:=0) (by rw [ofBytes_size];simp)
  simp only [hB] at this
  exact this
 simp only [Ya,D6]
 rw [show Xa ⟨text,(p:Int),false⟩ 1=_ from e]
 simp only [Option.bind_some,h0,w64_id (n:=b) (by omega) (by omega)]
 rfl
theorem CAh {text:ByteArray} {c:SL19Cur} (hs:text.size≤140737488351232) (h:Fh text c):∃ s c',Ii c=some (s,c')∧Fh text c'∧s.size≤1000000000:=by
 obtain ⟨v,c1,e1,h1,h2,h3⟩:=ZAA hs h
 obtain ⟨s,c2,e2,h4,h5,_⟩:=XAK hs h1 h2 h3
 simp only [Ii,G6,e1,e2,Option.bind_some]
 exact ⟨_,_,rfl,h4,h5⟩
theorem DAh {text:ByteArray} {p:Nat} {s:ByteArray} (hs:text.size≤140737488351232) (hz:s.size≤1000000000) (hA:At text p (IK (s.size:Int)++bs s)):Ii ⟨text,(p:Int),false⟩=some (s,⟨text,((p+(IK (s.size:Int)).length+s.size:Nat):Int),false⟩):=by
 have hp:p+(IK (s.size:Int)).length≤text.size:=by
  rcases hA.left.size with h | h
  ·have:=Qc (s.size:Int);rw [h] at this;simp at this
  ·exact h
 simp only [Ii,G6,Iz hs (by omega) (by omega) hA.left,YAK hs hA.right hp,Option.bind_some]
def FY (x:SThing):Bool:=NM x.fId 1 1000 && NM x.fKind 1 3 && NM x.fNext 0 16 && ((x.fKind == 2) || ((x.fNext == 0) && !x.fSigns)) && ((x.fKind == 1) || !x.fWraps) && (bif x.fKind == 3 then decide ((x.fValue.size:Int)≤100) else (x.fValue.size:Int) == 32)
theorem ZAT (x:SThing):Af x=some (FY x):=by
 simp only [Af,LAF,Aa,Option.bind_some,FY,bne]
 cases NM x.fId 1 1000 <;> cases NM x.fKind 1 3 <;> cases NM x.fNext 0 16 <;> cases (x.fKind == 2) <;> cases (x.fKind == 1) <;> cases (x.fKind == 3) <;> cases (x.fNext == 0) <;> cases x.fSigns <;> cases x.fWraps <;> rfl
theorem Ce {x:SThing} (h:FY x=true):1≤x.fKind∧x.fKind≤3∧1≤x.fId∧x.fId≤1000∧0≤x.fNext∧x.fNext≤16∧x.fValue.size≤100:=by
 unfold FY at h
 simp only [Bool.and_eq_true] at h
 obtain ⟨⟨⟨⟨⟨h1,h2⟩,h3⟩,_⟩,_⟩,h4⟩:=h
 rw [WX] at h1 h2 h3
 refine ⟨h2.1,h2.2,h1.1,h1.2,h3.1,h3.2,?_⟩
 cases hk:x.fKind == 3
 ·rw [hk] at h4;simp at h4;omega
 ·rw [hk] at h4;simp at h4;omega
theorem EAh (b:Bool) (n:Int):H6 b n=some (bif b then n else 0):=by cases b <;> rfl
def Jd (s:ByteArray):ByteArray:=ofBytes (IK (s.size:Int))++s
theorem FAh {s:ByteArray} (h:s.size≤140737488351232):(Jd s).size≤s.size+10:=by
 unfold Jd;rw [ba_append_size,ofBytes_size];have:=MZ (n:=(s.size:Int)) (by omega);omega
theorem GAh {s:ByteArray} (h:s.size≤140737488351232):Rt s=some (Jd s):=by
 simp only [Rt,PAF,Fg (n:=(s.size:Int)) (by omega),Option.bind_some]
 have:=MZ (n:=(s.size:Int)) (by omega)
 rw [show decide ((ofBytes (IK (s.size:Int))).size+s.size≤9223372036854775807)=true from decide_eq_true (by rw [ofBytes_size];omega)]
 rfl
def WY (x:SThing):Int:=(bif x.fHidden then 1 else 0)+(bif x.fFixed then 2 else 0)+(bif x.fSigns then 4 else 0)+(bif x.fWraps then 8 else 0)
theorem Jz (x:SThing):0≤WY x∧WY x≤15:=by
 unfold WY;cases x.fHidden <;> cases x.fFixed <;> cases x.fSigns <;> cases x.fWraps <;> decide
theorem HAh (m:Nat) (a b c d:Bool):PAI (m+5) (.c0 0 4 0 [a,b,c,d])=some ((bif a then 1 else 0)+(bif b then 2 else 0)+(bif c then 4 else 0)+(bif d then 8 else 0)):=by
 cases a <;> cases b <;> cases c <;> cases d <;> kernel_rfl
theorem IAh (x:SThing):Px x=some (WY x):=by
 obtain ⟨m,this⟩:∃ m,gas=m+5:=⟨gas - 5,rfl⟩
 unfold Px OAI
 rw [this]
 exact HAh _ _ _ _ _
def Oe (x:SThing):ByteArray:=ofBytes (IK x.fId)++ofBytes [x.fKind]++ofBytes [WY x]++Jd x.fValue++ofBytes (IK x.fNext)
def EY (x:SThing):ByteArray×Bool:=bif FY x then (Oe x,true) else (⟨#[]⟩,false)
theorem AAL {x:SThing} (h:FY x=true):(ofBytes (IK x.fId)).size≤10∧(Jd x.fValue).size≤110∧(ofBytes (IK x.fNext)).size≤10:=by
 obtain ⟨_,_,_,h1,_,h2,h3⟩:=Ce h
 rw [ofBytes_size,ofBytes_size]
 have:=MZ (n:=x.fId) (by omega)
 have:=MZ (n:=x.fNext) (by omega)
 have:=FAh (s:=x.fValue) (by omega)
 omega
theorem AAU {x:SThing} (h:FY x=true):(Oe x).size≤200:=by
 obtain ⟨h1,h2,h3⟩:=AAL h
 unfold Oe
 simp only [ba_append_size]
 have e1:∀ n:Int,(ofBytes [n]).size=1:=fun n=>ofBytes_size _
 rw [e1,e1];omega
theorem BAL (x:SThing):Ji x=some (EY x):=by
 simp only [Ji,QAF,ZAT,Option.bind_some,EY]
 cases h:FY x
 ·rfl
 ·obtain ⟨k1,k2,k3,k4,k5,k6,k7⟩:=Ce h
  obtain ⟨z1,z2,z3⟩:=AAL h
  have hf:=Jz x
  have e1:∀ n:Int,(ofBytes [n]).size=1:=fun n=>ofBytes_size _
  have ef:w64 (w64 (w64 ((bif x.fHidden then (1:Int) else 0)+(bif x.fFixed then 2 else 0))+(bif x.fSigns then 4 else 0))+(bif x.fWraps then 8 else 0))=WY x:=by
   unfold WY;cases x.fHidden <;> cases x.fFixed <;> cases x.fSigns <;> cases x.fWraps <;> rfl
  simp only [EAh,Option.bind_some,ef,Fg (n:=x.fId) (by omega),WAK (n:=x.fKind) (by omega) (by omega),WAK hf.1 (by omega),GAh (s:=x.fValue) (by omega),Fg (n:=x.fNext) (by omega),ba_append_size,e1]
  simp only [Bool.not_true,cond_false,cond_true]
  rw [show decide ((ofBytes (IK x.fId)).size+1≤9223372036854775807)=true from decide_eq_true (by omega),show decide ((ofBytes (IK x.fId)).size+1+1≤9223372036854775807)=true from decide_eq_true (by omega),
   show decide ((ofBytes (IK x.fId)).size+1+1+(Jd x.fValue).size≤9223372036854775807)=true from decide_eq_true (by omega),show decide ((ofBytes (IK x.fId)).size+1+1+(Jd x.fValue).size+(ofBytes (IK x.fNext)).size≤9223372036854775807)=true from decide_eq_true (by omega)]
  rfl
def BAj (f:Int) (h a b c:Bool):Prop:=f=(bif h then 1 else 0)+(bif a then 2 else 0)+(bif b then 4 else 0)+(bif c then 8 else 0)
theorem JAh (x:SThing):(((WY x).tmod 2 == 1)=x.fHidden)∧(((w64 ((WY x).tdiv 2)).tmod 2 == 1)=x.fFixed)∧(((w64 ((WY x).tdiv 4)).tmod 2 == 1)=x.fSigns)∧(((w64 ((WY x).tdiv 8)).tmod 2 == 1)=x.fWraps):=by
 unfold WY
 cases x.fHidden <;> cases x.fFixed <;> cases x.fSigns <;> cases x.fWraps <;> decide
theorem BAU {x:SThing} (h:FY x=true):bs (Oe x)=IK x.fId++([x.fKind]++([WY x]++((IK (x.fValue.size:Int)++bs x.fValue)++IK x.fNext))):=by
 obtain ⟨k1,k2,k3,k4,k5,k6,k7⟩:=Ce h
 have hf:=Jz x
 unfold Oe Jd
 simp only [NY,SN (Ad x.fId (by omega)),SN (Ad x.fNext (by omega)),SN (Ad (x.fValue.size:Int) (by omega)),SN (l:=[x.fKind]) (by simp;omega),SN (l:=[WY x]) (by simp;omega),List.append_assoc]
def CAL (text:ByteArray) (r:SThing×Bool):Prop:=(r.2=true∧EY r.1=(text,true))∨r=(⟨(0:Int),(0:Int),false,false,false,false,(⟨#[]⟩:ByteArray),(0:Int)⟩,false)
theorem CAU {text:ByteArray} (hs:text.size≤140737488351232):∃ r,Og text=some r∧CAL text r:=by
 obtain ⟨v0,c0,e0,h0,_⟩:=ZAA hs (c:=⟨text,(0:Int),false⟩) ⟨0,false,rfl,by omega⟩
 obtain ⟨v1,c1,e1,h1,_⟩:=ZAK hs h0
 obtain ⟨v2,c2,e2,h2,_⟩:=ZAK hs h1
 obtain ⟨v3,c3,e3,h3,_⟩:=CAh hs h2
 obtain ⟨v4,c4,e4,h4,_⟩:=ZAA hs h3
 simp only [Og,L6,e0,e1,e2,e3,e4,BAL,Option.bind_some]
 cases c4.fBad
 ·cases h5:(EY (⟨v0,v1,v2.tmod 2 == 1,(w64 (v2.tdiv 2)).tmod 2 == 1,(w64 (v2.tdiv 4)).tmod 2 == 1,(w64 (v2.tdiv 8)).tmod 2 == 1,v3,v4⟩:SThing)).2
  ·exact ⟨_,rfl,.inr rfl⟩
  ·rw [toList_inj]
   by_cases h6:(EY (⟨v0,v1,v2.tmod 2 == 1,(w64 (v2.tdiv 2)).tmod 2 == 1,(w64 (v2.tdiv 4)).tmod 2 == 1,(w64 (v2.tdiv 8)).tmod 2 == 1,v3,v4⟩:SThing)).1=text
   ·rw [decide_eq_true h6];exact ⟨_,rfl,.inl ⟨rfl,Prod.ext h6 h5⟩⟩
   ·rw [decide_eq_false h6];exact ⟨_,rfl,.inr rfl⟩
 ·exact ⟨_,rfl,.inr rfl⟩
theorem DAU {text:ByteArray} {x:SThing} (h:EY x=(text,true)):FY x=true∧text=Oe x:=by
 unfold EY at h
 cases ho:FY x <;> rw [ho] at h
 ·simp at h
 ·exact ⟨rfl,(congrArg Prod.fst h).symm⟩
theorem EAU {text:ByteArray} {x:SThing} (hs:text.size≤140737488351232) (h:EY x=(text,true)):Og text=some (x,true):=by
 obtain ⟨ho,rfl⟩:=DAU h
 obtain ⟨k1,k2,k3,k4,k5,k6,k7⟩:=Ce ho
 have hf:=Jz x
 have hA:At (Oe x) 0 _:=⟨[],by rw [List.drop_zero,BAU ho,List.append_nil]⟩
 have a1:=hA.right
 have a2:=a1.right
 have a3:=a2.right
 have a4:=a3.right
 have e0:=Iz hs (by omega) (by omega) hA.left
 have e1:=Xn hs a1.left
 have e2:=Xn hs a2.left
 have e3:=DAh hs (by omega) a3.left
 have e4:=Iz hs (by omega) (by omega) a4
 simp only [List.length_append,bs_len,List.length_singleton,Nat.zero_add,←Nat.add_assoc] at e0 e1 e2 e3 e4
 obtain ⟨b1,b2,b3,b4⟩:=JAh x
 simp only [Og,L6]
 rw [show ((0:Int))=((0:Nat):Int) from rfl,e0]
 simp only [e1,e2,e3,e4,Option.bind_some,b1,b2,b3,b4,BAL,h,toList_self]
 rfl
def IY (x:SThing):Bool:=(x.fId == 0) && ((x.fKind == 0) && ((x.fHidden == false) && ((x.fFixed == false) && ((x.fSigns == false) && ((x.fWraps == false) && (((ByteArray.toList x.fValue) == (ByteArray.toList (⟨#[]⟩:ByteArray))) && ((x.fNext == 0) && true)))))))
theorem FAU (x:SThing):((x.fId == 0) && ((x.fKind == 0) && ((x.fHidden == false) && ((x.fFixed == false) && ((x.fSigns == false) && ((x.fWraps == false) && (((ByteArray.toList x.fValue) == (ByteArray.toList (⟨#[]⟩:ByteArray))) && ((x.fNext == 0) && true))))))))=IY x:=rfl
def HY (s:ByteArray):Bool:=(ByteArray.toList s) == (ByteArray.toList (⟨#[]⟩:ByteArray))
theorem DAL (s:ByteArray):((ByteArray.toList s) == (ByteArray.toList (⟨#[]⟩:ByteArray)))=HY s:=rfl
def noT:ByteArray×Bool:=((⟨#[]⟩:ByteArray),false)
def TT (r:SRec):ByteArray×Bool:=
 bif r.fKind == 1 then (bif (r.fText.size:Int) == 32 && r.fNum == 0 && IY r.fThing then (ofBytes [1]++r.fText,true) else noT)
 else bif r.fKind == 2 then (bif HY r.fText && IY r.fThing && NM r.fNum 0 3 then (ofBytes [2]++ofBytes (IK r.fNum),true) else noT)
 else bif r.fKind == 3 then (bif (EY r.fThing).2 && HY r.fText && r.fNum == 0 then (ofBytes [3]++(EY r.fThing).1,true) else noT)
 else bif r.fKind == 4 then (bif HY r.fText && IY r.fThing && NM r.fNum 1 1000 then (ofBytes [4]++ofBytes (IK r.fNum),true) else noT)
 else noT
theorem AAB {n a b:Int} (hb:b≤1000) (h:NM n a b=true) (k:Int):(ofBytes [k]).size+(ofBytes (IK n)).size≤9223372036854775807:=by
 rw [WX] at h
 have:=MZ (n:=n) (by omega)
 rw [ofBytes_size,ofBytes_size];simp only [List.length_singleton];omega
theorem GAU {x:SThing} (h:(EY x).2=true) (k:Int):(ofBytes [k]).size+(EY x).1.size≤9223372036854775807:=by
 unfold EY at h ⊢
 cases ho:FY x
 ·rw [ho] at h;cases h
 ·have:=AAU ho
  rw [ofBytes_size];simp only [List.length_singleton,cond_true];omega
theorem Yn (r:SRec):Bf r=some (TT r):=by
 have h1:(⟨#[1]⟩:ByteArray)=ofBytes [1]:=rfl
 have h2:(⟨#[2]⟩:ByteArray)=ofBytes [2]:=rfl
 have h3:(⟨#[3]⟩:ByteArray)=ofBytes [3]:=rfl
 have h4:(⟨#[4]⟩:ByteArray)=ofBytes [4]:=rfl
 simp only [Bf,SAF,Aa,BAL,Option.bind_some,FAU,h1,h2,h3,h4]
 simp only [DAL,TT]
 cases r.fKind == 1
 ·simp only [cond_false]
  cases r.fKind == 2
  ·simp only [cond_false]
   cases r.fKind == 3
   ·simp only [cond_false]
    cases r.fKind == 4
    ·rfl
    ·cases HY r.fText <;> cases IY r.fThing <;> (try rfl)
     cases h:NM r.fNum 1 1000
     ·rfl
     ·have h':=h
      rw [WX] at h'
      simp only [cond_true,Fg (n:=r.fNum) (by omega),Option.bind_some,Bool.and_self,decide_eq_true (AAB (by omega) h 4)]
   ·cases h:(EY r.fThing).2
    ·rfl
    ·cases HY r.fText <;> cases r.fNum == 0 <;> (try rfl)
     simp only [cond_true,Bool.and_self,decide_eq_true (GAU h 3)]
  ·cases HY r.fText <;> cases IY r.fThing <;> (try rfl)
   cases h:NM r.fNum 0 3
   ·rfl
   ·have h':=h
    rw [WX] at h'
    simp only [cond_true,Fg (n:=r.fNum) (by omega),Option.bind_some,Bool.and_self,decide_eq_true (AAB (by omega) h 2)]
 ·cases h:(r.fText.size:Int) == 32 <;> cases r.fNum == 0 <;> cases IY r.fThing <;> (try rfl)
  have h':r.fText.size=32:=by have:=beq_iff_eq.1 h;omega
  have e:(ofBytes [1]).size+r.fText.size≤9223372036854775807:=by rw [ofBytes_size];simp only [List.length_singleton];omega
  simp only [cond_true,Bool.and_self,decide_eq_true e]
def OZ:SRec:=⟨(0:Int),(⟨#[]⟩:ByteArray),(0:Int),(⟨(0:Int),(0:Int),false,false,false,false,(⟨#[]⟩:ByteArray),(0:Int)⟩:SThing)⟩
def Zn (text:ByteArray) (r:SRec×Bool):Prop:=(r.2=true∧TT r.1=(text,true))∨r=(OZ,false)
theorem Bo {text:ByteArray} (x:SRec) (bad:Bool):∃ r,(bif bad then some (OZ,false) else bif !(TT x).2 then some (OZ,false) else bif !((ByteArray.toList (TT x).1) == (ByteArray.toList text)) then some (OZ,false) else some (x,true))=some r∧Zn text r:=by
 cases bad
 ·cases h5:(TT x).2
  ·exact ⟨_,rfl,.inr rfl⟩
  ·rw [toList_inj]
   by_cases h6:(TT x).1=text
   ·rw [decide_eq_true h6];exact ⟨_,rfl,.inl ⟨rfl,Prod.ext h6 h5⟩⟩
   ·rw [decide_eq_false h6];exact ⟨_,rfl,.inr rfl⟩
 ·exact ⟨_,rfl,.inr rfl⟩
theorem EAL {text:ByteArray} (hs:text.size≤140737488351232):∃ r,XZ text=some r∧Zn text r:=by
 obtain ⟨v0,c0,e0,h0,_,_,hz,hn⟩:=ZAK hs (c:=⟨text,(0:Int),false⟩) ⟨0,false,rfl,by omega⟩
 obtain ⟨v1,c1,e1,h1,_⟩:=XAK (n:=32) hs h0 (by omega) (by omega)
 obtain ⟨v3,c3,e3,h3,_⟩:=ZAA hs h0
 simp only [XZ,Oi,e0,e1,e3,Yn,Option.bind_some]
 cases v0 == 1
 ·simp only [cond_false]
  cases v0 == 2
  ·simp only [cond_false]
   cases v0 == 4
   ·simp only [cond_false]
    cases h:v0 == 3
    ·exact Bo _ _
    ·have hv:v0=3:=beq_iff_eq.1 h
     have hsz:(0:Int)+1≤(text.size:Int):=by
      cases hb:c0.fBad
      ·exact hn hb
      ·have:=hz hb;omega
     obtain ⟨r,e5,_⟩:=CAU (text:=text.extract (1:Int).toNat text.size) (by rw [ByteArray.size_extract];omega)
     rw [show decide ((1:Int)≤(text.size:Int))=true from decide_eq_true (by omega),e5]
     exact Bo _ _
   ·exact Bo _ _
  ·exact Bo _ _
 ·exact Bo _ _
theorem HAU {text:ByteArray} {x:SRec} (h:TT x=(text,true)) :
  (∃ s:ByteArray,x=⟨1,s,0,OZ.fThing⟩∧s.size=32∧text=ofBytes [1]++s)∨(∃ n:Int,x=⟨2,OZ.fText,n,OZ.fThing⟩∧0≤n∧n≤3∧text=ofBytes [2]++ofBytes (IK n))∨
  (∃ t:SThing,∃ s:ByteArray,x=⟨3,OZ.fText,0,t⟩∧EY t=(s,true)∧text=ofBytes [3]++s)∨(∃ n:Int,x=⟨4,OZ.fText,n,OZ.fThing⟩∧1≤n∧n≤1000∧text=ofBytes [4]++ofBytes (IK n)):=by
 have hE:∀ s:ByteArray,HY s=true→s=⟨#[]⟩:=fun s h=>by unfold HY at h;rw [toList_inj] at h;exact of_decide_eq_true h
 have hZ:∀ t:SThing,IY t=true→t=OZ.fThing:=fun t h=>by
  unfold IY at h
  simp only [DAL] at h
  obtain ⟨t1,t2,t3,t4,t5,t6,t7,t8⟩:=t
  simp only [Bool.and_eq_true,beq_iff_eq] at h
  obtain ⟨rfl,rfl,rfl,rfl,rfl,rfl,h7,rfl,_⟩:=h
  rw [hE _ h7];rfl
 obtain ⟨k,s,n,t⟩:=x
 unfold TT at h
 simp only at h
 cases k1:k == 1 <;> rw [k1] at h
 ·cases k2:k == 2 <;> rw [k2] at h
  ·cases k3:k == 3 <;> rw [k3] at h
   ·cases k4:k == 4 <;> rw [k4] at h
    ·exact Bool.noConfusion (congrArg Prod.snd h)
    ·simp only [cond_false,cond_true] at h
     cases hc:HY s && IY t && NM n 1 1000 <;> rw [hc] at h
     ·exact Bool.noConfusion (congrArg Prod.snd h)
     ·simp only [Bool.and_eq_true,WX] at hc
      refine .inr (.inr (.inr ⟨n,?_,hc.2.1,hc.2.2,(congrArg Prod.fst h).symm⟩))
      rw [beq_iff_eq.1 k4,hE _ hc.1.1,hZ _ hc.1.2];rfl
   ·simp only [cond_false,cond_true] at h
    cases hc:(EY t).2 && HY s && n == 0 <;> rw [hc] at h
    ·exact Bool.noConfusion (congrArg Prod.snd h)
    ·simp only [Bool.and_eq_true,beq_iff_eq] at hc
     refine .inr (.inr (.inl ⟨t,(EY t).1,?_,Prod.ext rfl hc.1.1,(congrArg Prod.fst h).symm⟩))
     rw [beq_iff_eq.1 k3,hE _ hc.1.2,hc.2];rfl
  ·simp only [cond_false,cond_true] at h
   cases hc:HY s && IY t && NM n 0 3 <;> rw [hc] at h
   ·exact Bool.noConfusion (congrArg Prod.snd h)
   ·simp only [Bool.and_eq_true,WX] at hc
    refine .inr (.inl ⟨n,?_,hc.2.1,hc.2.2,(congrArg Prod.fst h).symm⟩)
    rw [beq_iff_eq.1 k2,hE _ hc.1.1,hZ _ hc.1.2];rfl
 ·simp only [cond_false,cond_true] at h
  cases hc:(s.size:Int) == 32 && n == 0 && IY t <;> rw [hc] at h
  ·exact Bool.noConfusion (congrArg Prod.snd h)
  ·simp only [Bool.and_eq_true,beq_iff_eq] at hc
   refine .inl ⟨s,?_,by omega,(congrArg Prod.fst h).symm⟩
   rw [beq_iff_eq.1 k1,hZ _ hc.2,hc.1.2]
theorem Dl {k:Int} {s:ByteArray} (h0:0≤k) (h1:k≤255):At (ofBytes [k]++s) 0 ([k]++bs s):=⟨[],by rw [List.drop_zero,NY,SN (by simp;omega),List.append_nil]⟩
theorem FAL {k:Int} {s:ByteArray}:(ofBytes [k]++s).extract (1:Int).toNat (ofBytes [k]++s).size=s:=by
 apply Fa
 rw [FZ,←bs_len,List.take_length,NY]
 rfl
theorem KAh {text:ByteArray} {x:SRec} (hs:text.size≤140737488351232) (h:TT x=(text,true)):XZ text=some (x,true):=by
 rcases HAU h with ⟨s,rfl,hz,rfl⟩ | ⟨n,rfl,h0,h1,rfl⟩ | ⟨t,s,rfl,ht,rfl⟩ | ⟨n,rfl,h0,h1,rfl⟩
 ·have hA:=Dl (k:=1) (s:=s) (by omega) (by omega)
  have e0:=Xn hs hA.left
  have e1:=YAK hs hA.right (by rw [ba_append_size,ofBytes_size];simp)
  simp only [List.length_singleton,Nat.zero_add,hz] at e0 e1
  simp only [XZ,Oi]
  rw [show Ya ⟨ofBytes [1]++s,(0:Int),false⟩=_ from e0]
  simp only [Option.bind_some]
  rw [show Xa ⟨ofBytes [1]++s,((1:Nat):Int),false⟩ 32=_ from e1]
  have h':TT ⟨1,s,0,⟨(0:Int),(0:Int),false,false,false,false,(⟨#[]⟩:ByteArray),(0:Int)⟩⟩=_:=h
  simp only [Option.bind_some,Yn,h',toList_self]
  rfl
 ·have hA:=Dl (k:=2) (s:=ofBytes (IK n)) (by omega) (by omega)
  rw [SN (Ad n h0)] at hA
  have e0:=Xn hs hA.left
  have e1:=Iz hs (by omega) (by omega) hA.right
  simp only [List.length_singleton,Nat.zero_add] at e0 e1
  simp only [XZ,Oi]
  rw [show Ya ⟨ofBytes [2]++ofBytes (IK n),(0:Int),false⟩=_ from e0]
  have h':TT ⟨2,⟨#[]⟩,n,⟨(0:Int),(0:Int),false,false,false,false,(⟨#[]⟩:ByteArray),(0:Int)⟩⟩=_:=h
  simp only [Option.bind_some,e1,Yn,h',toList_self]
  rfl
 ·have hA:=Dl (k:=3) (s:=s) (by omega) (by omega)
  have e0:=Xn hs hA.left
  have hsz:s.size≤140737488351232:=by rw [ba_append_size] at hs;omega
  have e1:=EAU hsz ht
  simp only [List.length_singleton,Nat.zero_add] at e0
  simp only [XZ,Oi]
  rw [show Ya ⟨ofBytes [3]++s,(0:Int),false⟩=_ from e0]
  have h':TT ⟨3,⟨#[]⟩,0,t⟩=_:=h
  have hd:decide ((1:Int)≤((ofBytes [3]++s).size:Int))=true:=decide_eq_true (by rw [ba_append_size,ofBytes_size];simp only [List.length_singleton];omega)
  simp only [Option.bind_some,FAL,e1,Yn,h',toList_self,hd]
  rfl
 ·have hA:=Dl (k:=4) (s:=ofBytes (IK n)) (by omega) (by omega)
  rw [SN (Ad n (by omega))] at hA
  have e0:=Xn hs hA.left
  have e1:=Iz hs (by omega) (by omega) hA.right
  simp only [List.length_singleton,Nat.zero_add] at e0 e1
  simp only [XZ,Oi]
  rw [show Ya ⟨ofBytes [4]++ofBytes (IK n),(0:Int),false⟩=_ from e0]
  have h':TT ⟨4,⟨#[]⟩,n,⟨(0:Int),(0:Int),false,false,false,false,(⟨#[]⟩:ByteArray),(0:Int)⟩⟩=_:=h
  simp only [Option.bind_some,e1,Yn,h',toList_self]
  rfl
theorem Kz:∀ {a m:List Int},YX a→a.length≤m.length→DY (DY a m) m=a
 | [],_,_,_=>by simp [DY]
 | _::_,[],_,h=>by simp at h
 | x::a,y::m,hb,h=>by
  have h1:=Kz (a:=a) (m:=m) (fun n hn=>hb n (List.mem_cons_of_mem _ hn)) (by simpa using h)
  simp only [DY] at h1 ⊢
  rw [List.zipWith_cons_cons,List.zipWith_cons_cons,h1,FAf (hb x (List.mem_cons_self ..))]
theorem LAh {k t:ByteArray} {num:Int} (h:(RX k num t).2=true):16≤t.size∧maskOk num ((t.size:Int) - 16)=true∧RZ (bs k) num ((bs t).take (t.size - 16))=(bs t).drop (t.size - 16)∧bs (RX k num t).1=DY ((bs t).take (t.size - 16)) (VY (bs k) (IK num) (t.size - 16))∧bs t=(bs t).take (t.size - 16)++RZ (bs k) num ((bs t).take (t.size - 16)):=by
 rw [RX] at h ⊢
 cases h1:decide ((t.size:Int)<16) || !(maskOk num ((t.size:Int) - 16))
 ·rw [h1,cond_false] at h
  rw [Bool.or_eq_false_iff,decide_eq_false_iff_not,Bool.not_eq_false'] at h1
  cases h2:(RZ (bs k) num ((bs t).take (t.size - 16)) == (bs t).drop (t.size - 16))
  ·rw [h2] at h;cases h
  ·rw [cond_false,cond_true,SN (IAT _ _)]
   have h3:=beq_iff_eq.1 h2
   exact ⟨by omega,h1.2,h3,rfl,by rw [h3,List.take_append_drop]⟩
 ·rw [h1] at h;cases h
theorem BAK (k t:ByteArray) (num:Int):(RX k num t).1.size≤t.size:=by
 have hl:=bs_len t
 rw [RX]
 cases decide ((t.size:Int)<16) || !(maskOk num ((t.size:Int) - 16))
 ·rw [cond_false]
  cases (RZ (bs k) num ((bs t).take (t.size - 16)) == (bs t).drop (t.size - 16))
  ·exact Nat.zero_le _
  ·rw [cond_true,ofBytes_size,DY,List.length_zipWith,List.length_take];omega
 ·exact Nat.zero_le _
theorem CAj {k:ByteArray} {num:Int} {s:List Int} (hs:YX s) (hm:maskOk num s.length=true):RX k num (ofBytes (Ia (bs k) num s))=(ofBytes s,true):=by
 have hx:(DY s (VY (bs k) (IK num) s.length)).length=s.length:=TAA (by rw [Je];omega)
 have hb:YX (Ia (bs k) num s):=fun x hx=>by
  rcases List.mem_append.1 hx with hx | hx
  ·exact IAT _ _ x hx
  ·exact Gz _ _ _ x hx
 have hsz:(ofBytes (Ia (bs k) num s)).size=s.length+16:=by rw [ofBytes_size,Ia,List.length_append,hx,SAK]
 rw [RX,SN hb,hsz,Nat.add_sub_cancel,show ((s.length+16:Nat):Int) - 16=(s.length:Int) by omega,hm]
 have h1:decide (((s.length+16:Nat):Int)<16)=false:=by rw [decide_eq_false_iff_not];omega
 have h2:(Ia (bs k) num s).take s.length=DY s (VY (bs k) (IK num) s.length):=by rw [Ia,List.take_append_of_le_length (by omega),List.take_of_length_le (by omega)]
 have h3:(Ia (bs k) num s).drop s.length=RZ (bs k) num (DY s (VY (bs k) (IK num) s.length)):=by rw [Ia,List.drop_append_of_le_length (by omega),List.drop_of_length_le (by omega),List.nil_append]
 rw [h1,h2,h3,beq_self_eq_true,Kz hs (by rw [Je];omega)]
 rfl
theorem DAj {k t:ByteArray} {num:Int} (h:(RX k num t).2=true):Ia (bs k) num (bs (RX k num t).1)=bs t:=by
 obtain ⟨h1,h2,h3,h4,h5⟩:=LAh h
 have hl:((bs t).take (t.size - 16)).length=t.size - 16:=by rw [List.length_take,bs_len];omega
 have hx:(bs (RX k num t).1).length=t.size - 16:=by rw [h4,TAA (by rw [Je];omega),hl]
 rw [Ia,hx,h4,Kz (fun n hn=>Qb t n (List.mem_of_mem_take hn)) (by rw [Je];omega),←h5]
theorem EAj {k:ByteArray} {num:Int} {a b:List Int} (ha:YX a) (hb:YX b) (h:Ia (bs k) num a=Ia (bs k) num b):a=b:=by
 have xa:(DY a (VY (bs k) (IK num) a.length)).length=a.length:=TAA (by rw [Je];omega)
 have xb':(DY b (VY (bs k) (IK num) b.length)).length=b.length:=TAA (by rw [Je];omega)
 have hl:=congrArg List.length h
 rw [Ia,Ia,List.length_append,List.length_append,xa,xb',SAK,SAK] at hl
 have hab:a.length=b.length:=by omega
 have h1:=(List.append_inj h (by rw [xa,xb',hab])).1
 have h2:DY (DY a (VY (bs k) (IK num) a.length)) (VY (bs k) (IK num) a.length)=DY (DY b (VY (bs k) (IK num) b.length)) (VY (bs k) (IK num) b.length):=by rw [h1,hab]
 rw [Kz ha (by rw [Je];omega),Kz hb (by rw [Je];omega)] at h2
 exact h2
def BAB (text:ByteArray) (c:SFields):Prop:=∃ p:Nat,∃ b:Bool,c=⟨text,(p:Int),b⟩∧p≤text.size
theorem CAB {text:ByteArray} {c:SFields} (hs:text.size≤140737488351232) (h:BAB text c):∃ v c',Vg c=some (v,c')∧BAB text c':=by
 obtain ⟨p,b,rfl,hp⟩:=h
 obtain ⟨r,hr,hR⟩:=UAK hs hp
 simp only [Vg,C9,hr,Option.bind_some]
 rcases hR with rfl | ⟨v,q,rfl,h0,h1,_,h3⟩
 ·exact ⟨_,_,rfl,⟨p,true,rfl,hp⟩⟩
 ·exact ⟨_,_,rfl,⟨q,b,rfl,h3⟩⟩
theorem DAB {text:ByteArray} {a:Nat} {V:Int} (hs:text.size≤140737488351232) (hV0:0≤V) (hV:V≤1000000000) (hA:At text a (IK V)):Vg ⟨text,(a:Int),false⟩=some (V,⟨text,((a+(IK V).length:Nat):Int),false⟩):=by
 simp only [Vg,C9,Hz hs hV0 hV hA,Option.bind_some]
 rfl
theorem MAh {text:ByteArray} {a:Nat} (hs:text.size≤140737488351232) (ha:a≤text.size):∃ s q ok,Ij text a=some (s,q,ok)∧(ok=true→∃ p:Nat,q=(p:Int)∧p≤text.size):=by
 obtain ⟨r,hr,hR⟩:=UAK hs ha
 simp only [Ij,D9,hr,Option.bind_some]
 rcases hR with rfl | ⟨v,q,rfl,h0,h1,h2,h3⟩
 ·exact ⟨_,_,_,rfl,fun h=>by cases h⟩
 ·rw [w64_id (n:=(text.size:Int) - (q:Int)) (by omega) (by omega),w64_id (n:=(q:Int)+v) (by omega) (by omega)]
  simp only [Bool.not_true,cond_false]
  cases decide (v > 20000)
  ·by_cases hv:v > (text.size:Int) - (q:Int)
   ·rw [decide_eq_true hv];exact ⟨_,_,_,rfl,fun h=>by cases h⟩
   ·rw [decide_eq_false hv,show decide ((0:Int)≤(q:Int))=true from decide_eq_true (by omega),show decide ((q:Int)≤q+v)=true from decide_eq_true (by omega),show decide ((q:Int)+v≤(text.size:Int))=true from decide_eq_true (by omega)]
    exact ⟨_,_,_,rfl,fun _=>⟨((q:Int)+v).toNat,by omega,by omega⟩⟩
  ·exact ⟨_,_,_,rfl,fun h=>by cases h⟩
theorem NAh {text:ByteArray} {p:Nat} {s:ByteArray} (hs:text.size≤140737488351232) (hz:s.size≤20000) (hA:At text p (IK (s.size:Int)++bs s)):Ij text p=some (s,((p+(IK (s.size:Int)).length+s.size:Nat):Int),true):=by
 have hp:p+(IK (s.size:Int)).length≤text.size:=by
  rcases hA.left.size with h | h
  ·have:=Qc (s.size:Int);rw [h] at this;simp at this
  ·exact h
 have hA2:=hA.right
 have hx:=hA2.extract (fun n hn=>HAK hn)
 rw [bs_len,HAA] at hx
 simp only [Ij,D9,Hz hs (by omega) (by omega) hA.left,Option.bind_some]
 generalize p+(IK (s.size:Int)).length=q at *
 have hz:q+s.size≤text.size:=by
  rcases hA2.size with h | h
  ·have:=congrArg List.length h;rw [bs_len,List.length_nil] at this;omega
  ·rw [bs_len] at h;exact h
 have e2:w64 ((q:Int)+(s.size:Int))=((q+s.size:Nat):Int):=by rw [w64_id (by omega) (by omega)];omega
 rw [w64_id (n:=(text.size:Int) - (q:Int)) (by omega) (by omega),e2,Int.toNat_natCast,Int.toNat_natCast,hx,
  show decide ((s.size:Int) > 20000)=false from decide_eq_false (by omega),show decide ((s.size:Int) > (text.size:Int) - (q:Int))=false from decide_eq_false (by omega),show decide ((0:Int)≤(q:Int))=true from decide_eq_true (by omega),show decide ((q:Int)≤((q+s.size:Nat):Int))=true from decide_eq_true (by omega),show decide (((q+s.size:Nat):Int)≤(text.size:Int))=true from decide_eq_true (by omega)]
 rfl
theorem OAh {text:ByteArray} {c:SFields} (hs:text.size≤140737488351232) (h:BAB text c):∃ v c',Jj c=some (v,c')∧BAB text c':=by
 obtain ⟨p,b,rfl,hp⟩:=h
 obtain ⟨s,q,ok,hr,hR⟩:=MAh hs hp
 simp only [Jj,F9,hr,Option.bind_some]
 cases ok
 ·exact ⟨_,_,rfl,⟨p,true,rfl,hp⟩⟩
 ·obtain ⟨q,rfl,h3⟩:=hR rfl
  exact ⟨_,_,rfl,⟨q,b,rfl,h3⟩⟩
theorem PAh {text:ByteArray} {p:Nat} {s:ByteArray} (hs:text.size≤140737488351232) (hz:s.size≤20000) (hA:At text p (IK (s.size:Int)++bs s)):Jj ⟨text,(p:Int),false⟩=some (s,⟨text,((p+(IK (s.size:Int)).length+s.size:Nat):Int),false⟩):=by
 simp only [Jj,F9,NAh hs hz hA,Option.bind_some]
 rfl
theorem TAR (x:SThing):Tf x=some (FY x):=by
 simp only [Tf,LAI,Na,Option.bind_some,FY,bne]
 by_cases k1:x.fKind=1
 ·rw [k1]
  cases NM x.fId 1 1000 <;> cases NM x.fNext 0 16 <;> cases (x.fNext == 0) <;> cases x.fSigns <;> cases x.fWraps <;> simp [NM]
 ·by_cases k2:x.fKind=2
  ·rw [k2]
   cases NM x.fId 1 1000 <;> cases NM x.fNext 0 16 <;> cases (x.fNext == 0) <;> cases x.fSigns <;> cases x.fWraps <;> simp [NM]
  ·by_cases k3:x.fKind=3
   ·rw [k3]
    cases NM x.fId 1 1000 <;> cases NM x.fNext 0 16 <;> cases (x.fNext == 0) <;> cases x.fSigns <;> cases x.fWraps <;> simp [NM]
   ·have hr:NM x.fKind 1 3=false:=by
     cases h:NM x.fKind 1 3
     ·rfl
     ·rw [WX] at h;omega
    have e1:(x.fKind == 1)=false:=by simpa using k1
    have e2:(x.fKind == 2)=false:=by simpa using k2
    have e3:(x.fKind == 3)=false:=by simpa using k3
    rw [hr,e1,e2,e3]
    cases NM x.fId 1 1000 <;> cases NM x.fNext 0 16 <;> cases (x.fNext == 0) <;> cases x.fSigns <;> cases x.fWraps <;> rfl
theorem QAh {s:ByteArray} (h:s.size≤140737488351232):Qx s=some (Jd s):=by
 simp only [Qx,RAI,Ik (n:=(s.size:Int)) (by omega),Option.bind_some]
 have:=MZ (n:=(s.size:Int)) (by omega)
 rw [show decide ((ofBytes (IK (s.size:Int))).size+s.size≤9223372036854775807)=true from decide_eq_true (by rw [ofBytes_size];omega)]
 rfl
theorem GAL (x:SThing):Lj x=some (EY x):=by
 simp only [Lj,SAI,TAR,Option.bind_some,EY]
 cases h:FY x
 ·rfl
 ·obtain ⟨k1,k2,k3,k4,k5,k6,k7⟩:=Ce h
  obtain ⟨z1,z2,z3⟩:=AAL h
  have hf:=Jz x
  have e1:∀ n:Int,(ofBytes [n]).size=1:=fun n=>ofBytes_size _
  simp only [IAh,Option.bind_some,Ik (n:=x.fId) (by omega),Bl (n:=x.fKind) (by omega) (by omega),Bl hf.1 (by omega),QAh (s:=x.fValue) (by omega),Ik (n:=x.fNext) (by omega),ba_append_size,e1]
  simp only [Bool.not_true,cond_false,cond_true]
  rw [show decide ((ofBytes (IK x.fId)).size+1≤9223372036854775807)=true from decide_eq_true (by omega),show decide ((ofBytes (IK x.fId)).size+1+1≤9223372036854775807)=true from decide_eq_true (by omega),
   show decide ((ofBytes (IK x.fId)).size+1+1+(Jd x.fValue).size≤9223372036854775807)=true from decide_eq_true (by omega),show decide ((ofBytes (IK x.fId)).size+1+1+(Jd x.fValue).size+(ofBytes (IK x.fNext)).size≤9223372036854775807)=true from decide_eq_true (by omega)]
  rfl
theorem RAh (x:SThing):((w64 (((BitVec.toNat ((BitVec.ofInt (IntKind.bits IntKind.i64) (WY x)) &&& (BitVec.ofInt (IntKind.bits IntKind.i64) (1:Int)))):Nat):Int) != 0)=x.fHidden)∧((w64 (((BitVec.toNat ((BitVec.ofInt (IntKind.bits IntKind.i64) (WY x)) &&& (BitVec.ofInt (IntKind.bits IntKind.i64) (2:Int)))):Nat):Int) != 0)=x.fFixed)∧((w64 (((BitVec.toNat ((BitVec.ofInt (IntKind.bits IntKind.i64) (WY x)) &&& (BitVec.ofInt (IntKind.bits IntKind.i64) (4:Int)))):Nat):Int) != 0)=x.fSigns)∧((w64 (((BitVec.toNat ((BitVec.ofInt (IntKind.bits IntKind.i64) (WY x)) &&& (BitVec.ofInt (IntKind.bits IntKind.i64) (8:Int)))):Nat):Int) != 0)=x.fWraps):=by
 unfold WY
 cases x.fHidden <;> cases x.fFixed <;> cases x.fSigns <;> cases x.fWraps <;> refine ⟨?_,?_,?_,?_⟩ <;> kernel_rfl
theorem IAU {text:ByteArray} (hs:text.size≤140737488351232):∃ r,Xg text=some r∧CAL text r:=by
 obtain ⟨v0,c0,e0,h0⟩:=CAB hs (c:=⟨text,(0:Int),false⟩) ⟨0,false,rfl,by omega⟩
 obtain ⟨v1,c1,e1,h1⟩:=CAB hs h0
 obtain ⟨v2,c2,e2,h2⟩:=CAB hs h1
 obtain ⟨v3,c3,e3,h3⟩:=OAh hs h2
 obtain ⟨v4,c4,e4,h4⟩:=CAB hs h3
 simp only [Xg,H9,e0,e1,e2,e3,e4,GAL,Option.bind_some]
 generalize (w64 (((BitVec.toNat ((BitVec.ofInt (IntKind.bits IntKind.i64) v2) &&& (BitVec.ofInt (IntKind.bits IntKind.i64) (1:Int)))):Nat):Int) != 0)=b1
 generalize (w64 (((BitVec.toNat ((BitVec.ofInt (IntKind.bits IntKind.i64) v2) &&& (BitVec.ofInt (IntKind.bits IntKind.i64) (2:Int)))):Nat):Int) != 0)=b2
 generalize (w64 (((BitVec.toNat ((BitVec.ofInt (IntKind.bits IntKind.i64) v2) &&& (BitVec.ofInt (IntKind.bits IntKind.i64) (4:Int)))):Nat):Int) != 0)=b3
 generalize (w64 (((BitVec.toNat ((BitVec.ofInt (IntKind.bits IntKind.i64) v2) &&& (BitVec.ofInt (IntKind.bits IntKind.i64) (8:Int)))):Nat):Int) != 0)=b4
 cases c4.fBad
 ·cases h5:(EY (⟨v0,v1,b1,b2,b3,b4,v3,v4⟩:SThing)).2
  ·exact ⟨_,rfl,.inr rfl⟩
  ·rw [toList_inj]
   by_cases h6:(EY (⟨v0,v1,b1,b2,b3,b4,v3,v4⟩:SThing)).1=text
   ·rw [decide_eq_true h6];exact ⟨_,rfl,.inl ⟨rfl,Prod.ext h6 h5⟩⟩
   ·rw [decide_eq_false h6];exact ⟨_,rfl,.inr rfl⟩
 ·exact ⟨_,rfl,.inr rfl⟩
theorem JAU {text:ByteArray} {x:SThing} (hs:text.size≤140737488351232) (h:EY x=(text,true)):Xg text=some (x,true):=by
 obtain ⟨ho,rfl⟩:=DAU h
 obtain ⟨k1,k2,k3,k4,k5,k6,k7⟩:=Ce ho
 have hf:=Jz x
 have hA:At (Oe x) 0 _:=⟨[],by rw [List.drop_zero,BAU ho,List.append_nil]⟩
 rw [←Ez (n:=x.fKind) (by omega) (by omega),←Ez (n:=WY x) (by omega) (by omega)] at hA
 have a1:=hA.right
 have a2:=a1.right
 have a3:=a2.right
 have a4:=a3.right
 have e0:=DAB hs (by omega) (by omega) hA.left
 have e1:=DAB hs (by omega) (by omega) a1.left
 have e2:=DAB hs (by omega) (by omega) a2.left
 have e3:=PAh hs (by omega) a3.left
 have e4:=DAB hs (by omega) (by omega) a4
 simp only [List.length_append,bs_len,Nat.zero_add,←Nat.add_assoc] at e0 e1 e2 e3 e4
 obtain ⟨b1,b2,b3,b4⟩:=RAh x
 simp only [Xg,H9]
 rw [show Vg ⟨Oe x,(0:Int),false⟩=_ from e0]
 simp only [e1,e2,e3,e4,Option.bind_some,b1,b2,b3,b4,GAL,h,toList_self]
 rfl
theorem FAj {text:ByteArray} (hs:text.size≤140737488351232):∃ r,Og text=some r∧Xg text=some r∧CAL text r:=by
 obtain ⟨r,hr,h⟩:=CAU hs
 obtain ⟨q,hq,h'⟩:=IAU hs
 rcases h with ⟨h1,h2⟩ | h
 ·have:=JAU hs h2
  refine ⟨r,hr,?_,.inl ⟨h1,h2⟩⟩
  rw [this];congr 1;exact Prod.ext rfl h1.symm
 ·rcases h' with ⟨h1,h2⟩ | h'
  ·have:=EAU hs h2
   rw [hr] at this
   injection this with this
   rw [h] at this
   exact Bool.noConfusion (congrArg Prod.snd this)
  ·exact ⟨r,hr,by rw [hq,h',h],.inr h⟩
theorem Ah {r:SRec} (g:r.fNum≤9223372036854775807):Nj r=some (TT r):=by
 simp only [Nj,UAI,Na,GAL,Ik g,Option.bind_some,FAU]
 simp only [DAL,TT]
 cases k1:r.fKind == 1
 ·simp only [cond_false]
  cases k2:r.fKind == 2
  ·simp only [cond_false]
   cases k3:r.fKind == 3
   ·simp only [cond_false]
    cases k4:r.fKind == 4
    ·rfl
    ·have k:r.fKind=4:=by simpa using k4
     rw [k]
     simp only [beq_self_eq_true,Bl (n:=4) (by omega) (by omega),Option.bind_some,Bool.true_and,cond_true]
     cases h:NM r.fNum 1 1000
     ·cases HY r.fText <;> cases IY r.fThing <;> rfl
     ·cases HY r.fText <;> cases IY r.fThing <;> (try rfl)
      simp only [Bool.not_true,cond_false,cond_true,Bool.and_self,decide_eq_true (AAB (by omega) h 4)]
   ·have k:r.fKind=3:=by simpa using k3
    rw [k]
    simp only [beq_self_eq_true,Bl (n:=3) (by omega) (by omega),Option.bind_some,Bool.true_and,cond_true,Bool.and_true]
    cases h:(EY r.fThing).2
    ·cases HY r.fText <;> cases r.fNum == 0 <;> rfl
    ·cases HY r.fText <;> cases r.fNum == 0 <;> (try rfl)
     simp only [Bool.not_true,cond_false,cond_true,Bool.and_self,decide_eq_true (GAU h 3)]
  ·have k:r.fKind=2:=by simpa using k2
   rw [k]
   simp only [beq_self_eq_true,Bl (n:=2) (by omega) (by omega),Option.bind_some,Bool.true_and,cond_true]
   cases h:NM r.fNum 0 3
   ·cases HY r.fText <;> cases IY r.fThing <;> rfl
   ·cases HY r.fText <;> cases IY r.fThing <;> (try rfl)
    simp only [Bool.not_true,cond_false,cond_true,Bool.and_self,decide_eq_true (AAB (by omega) h 2)]
 ·have k:r.fKind=1:=by simpa using k1
  rw [k]
  simp only [beq_self_eq_true,Bl (n:=1) (by omega) (by omega),Option.bind_some,Bool.true_and,cond_true]
  cases h:(r.fText.size:Int) == 32 <;> cases r.fNum == 0 <;> cases IY r.fThing <;> (try rfl)
  have h':r.fText.size=32:=by have:=beq_iff_eq.1 h;omega
  have e:(ofBytes [1]).size+r.fText.size≤9223372036854775807:=by rw [ofBytes_size];simp only [List.length_singleton];omega
  simp only [Bool.not_true,cond_false,cond_true,Bool.and_self,decide_eq_true e]
theorem HAL {text:ByteArray} (x:SRec):∃ r,(bif !(TT x).2 then some (OZ,false) else bif !((ByteArray.toList (TT x).1) == (ByteArray.toList text)) then some (OZ,false) else some (x,true))=some r∧Zn text r:=Bo x false
theorem SAh {text:ByteArray} (hs:text.size≤140737488351232):∃ r,La text=some r∧Zn text r:=by
 simp only [La,Oj]
 rw [toList_inj]
 by_cases he:text=⟨#[]⟩
 ·rw [decide_eq_true he];exact ⟨_,rfl,.inr rfl⟩
 ·have hz:0<text.size:=by
   rcases Nat.eq_zero_or_pos text.size with h | h
   ·exact absurd (Fa (List.eq_nil_of_length_eq_zero (by rw [bs_len];exact h)):text=⟨#[]⟩) he
   ·exact h
  rw [decide_eq_false he,show decide ((0:Int)<(text.size:Int))=true from decide_eq_true (by omega),show decide ((1:Int)≤(text.size:Int))=true from decide_eq_true (by omega)]
  have hb:=Yf text 0
  rw [w64_id (n:=bt text 0) (by omega) (by omega)]
  obtain ⟨⟨t,tb⟩,e1,_⟩:=IAU (text:=text.extract (1:Int).toNat text.size) (by rw [ByteArray.size_extract];omega)
  obtain ⟨⟨v,q,ok⟩,e2,hR⟩:=UAK (a:=1) hs hz
  have hv:v≤1000000000:=by
   rcases hR with h | ⟨v',_,h,_,h1,_⟩
   ·have:=congrArg Prod.fst h;simp only [Yc] at this;omega
   ·have:=congrArg Prod.fst h;simp only at this;omega
  rw [e1,show RY text (1:Int)=_ from e2]
  simp only [Option.bind_some,cond_false,cond_true,Bool.and_self]
  cases bt text 0 == 1
  ·simp only [cond_false]
   cases bt text 0 == 3
   ·simp only [cond_false]
    rw [Ah (by simp only;omega)]
    exact HAL _
   ·simp only [cond_true]
    rw [Ah (by simp only;omega)]
    exact HAL _
  ·simp only [cond_true]
   rw [Ah (by simp only;omega)]
   exact HAL _
theorem TAh {text:ByteArray} {x:SRec} (hs:text.size≤140737488351232) (h:TT x=(text,true)):La text=some (x,true):=by
 have hne:∀ (k:Int) (s:ByteArray),(decide (ofBytes [k]++s=⟨#[]⟩))=false:=fun k s=>decide_eq_false fun h=>by
  have:=congrArg ByteArray.size h
  rw [ba_append_size,ofBytes_size] at this
  simp only [List.length_singleton] at this
  have h0:(⟨#[]⟩:ByteArray).size=0:=rfl
  omega
 have hd:∀ (k:Int) (s:ByteArray),decide ((0:Int)<((ofBytes [k]++s).size:Int))=true∧decide ((1:Int)≤((ofBytes [k]++s).size:Int))=true:=fun k s=>by
  rw [ba_append_size,ofBytes_size];simp only [List.length_singleton]
  exact ⟨decide_eq_true (by omega),decide_eq_true (by omega)⟩
 have hk:∀ (k:Int) (s:ByteArray),0≤k→k≤255→w64 (bt (ofBytes [k]++s) 0)=k:=fun k s h0 h1=>by
  rw [(Dl (k:=k) (s:=s) h0 h1).left.head.2 |> fun e=>(show bt (ofBytes [k]++s) 0=k from e),w64_id (by omega) (by omega)]
 rcases HAU h with ⟨s,rfl,hz,rfl⟩ | ⟨n,rfl,h0,h1,rfl⟩ | ⟨t,s,rfl,ht,rfl⟩ | ⟨n,rfl,h0,h1,rfl⟩
 ·have h':TT ⟨1,s,0,⟨(0:Int),(0:Int),false,false,false,false,(⟨#[]⟩:ByteArray),(0:Int)⟩⟩=_:=h
  simp only [La,Oj,hk 1 s (by omega) (by omega),hd,FAL,Ah (r:=⟨1,s,0,⟨(0:Int),(0:Int),false,false,false,false,(⟨#[]⟩:ByteArray),(0:Int)⟩⟩) (by simp only;omega),h',Option.bind_some,toList_inj,hne]
  simp [OZ]
 ·have hA:=Dl (k:=2) (s:=ofBytes (IK n)) (by omega) (by omega)
  rw [SN (Ad n h0)] at hA
  have e1:=Hz hs (by omega) (by omega) hA.right
  simp only [List.length_singleton,Nat.zero_add] at e1
  have e2:RY (ofBytes [2]++ofBytes (IK n)) (1:Int)=_:=e1
  have h':TT ⟨2,⟨#[]⟩,n,⟨(0:Int),(0:Int),false,false,false,false,(⟨#[]⟩:ByteArray),(0:Int)⟩⟩=_:=h
  simp only [La,Oj,hk 2 _ (by omega) (by omega),hd,e2,Option.bind_some,Ah (r:=⟨2,⟨#[]⟩,n,⟨(0:Int),(0:Int),false,false,false,false,(⟨#[]⟩:ByteArray),(0:Int)⟩⟩) (by simp only;omega),h',toList_inj,hne]
  simp [OZ]
 ·have hsz:s.size≤140737488351232:=by rw [ba_append_size] at hs;omega
  have e1:=JAU hsz ht
  have h':TT ⟨3,⟨#[]⟩,0,t⟩=_:=h
  simp only [La,Oj,hk 3 s (by omega) (by omega),hd,FAL,e1,Option.bind_some,Ah (r:=⟨3,⟨#[]⟩,0,t⟩) (by simp only;omega),h',toList_inj,hne]
  simp [OZ]
 ·have hA:=Dl (k:=4) (s:=ofBytes (IK n)) (by omega) (by omega)
  rw [SN (Ad n (by omega))] at hA
  have e1:=Hz hs (by omega) (by omega) hA.right
  simp only [List.length_singleton,Nat.zero_add] at e1
  have e2:RY (ofBytes [4]++ofBytes (IK n)) (1:Int)=_:=e1
  have h':TT ⟨4,⟨#[]⟩,n,⟨(0:Int),(0:Int),false,false,false,false,(⟨#[]⟩:ByteArray),(0:Int)⟩⟩=_:=h
  simp only [La,Oj,hk 4 _ (by omega) (by omega),hd,e2,Option.bind_some,Ah (r:=⟨4,⟨#[]⟩,n,⟨(0:Int),(0:Int),false,false,false,false,(⟨#[]⟩:ByteArray),(0:Int)⟩⟩) (by simp only;omega),h',toList_inj,hne]
  simp [OZ]
theorem UAh {text:ByteArray} (hs:text.size≤140737488351232):∃ r,XZ text=some r∧La text=some r∧Zn text r:=by
 obtain ⟨r,hr,h⟩:=EAL hs
 obtain ⟨q,hq,h'⟩:=SAh hs
 rcases h with ⟨h1,h2⟩ | h
 ·have:=TAh hs h2
  refine ⟨r,hr,?_,.inl ⟨h1,h2⟩⟩
  rw [this];congr 1;exact Prod.ext rfl h1.symm
 ·rcases h' with ⟨h1,h2⟩ | h'
  ·have:=KAh hs h2
   rw [hr] at this
   injection this with this
   rw [h] at this
   exact Bool.noConfusion (congrArg Prod.snd this)
  ·exact ⟨r,hr,by rw [hq,h',h],.inr h⟩
noncomputable def PY (t:ByteArray):SRec×Bool:=(XZ t).getD (⟨0,⟨#[]⟩,0,⟨0,0,false,false,false,false,⟨#[]⟩,0⟩⟩,false)
theorem VAh {t:ByteArray} (h:t.size≤140737488351232):XZ t=some (PY t):=by
 obtain ⟨r,h1,_⟩:=EAL h
 rw [PY,h1];rfl
theorem UAb {t:ByteArray} (h:t.size≤140737488351232):La t=some (PY t):=by
 obtain ⟨r,h1,h2,_⟩:=UAh h
 rw [PY,h1,h2];rfl
theorem WAh {t:ByteArray} (h:t.size≤140737488351232):Zn t (PY t):=by
 obtain ⟨r,h1,h2⟩:=EAL h
 rw [PY,h1];exact h2
noncomputable def ZY (k:ByteArray):Int→List ByteArray→List SRec×Int
 | _,[]=>([],0)
 | i,f::fs=>bif (RX k i f).2 && (PY (RX k i f).1).2 then ((PY (RX k i f).1).1::(ZY k (i+1) fs).1,((frameT f).1.size:Int)+(ZY k (i+1) fs).2) else ([],0)
noncomputable def AY (k file:ByteArray):List SRec×Int:=ZY k 1 (Cb file).1
theorem XAh {file:ByteArray} (hs:file.size≤140737488351232):∀ (j a:Nat),a≤file.size→(∀ f ∈ (LY j file a).1,f.size≤file.size)∧(LY j file a).1.length+a≤file.size∧(LY j file a).2≤file.size:=by
 intro j
 induction j with
 | zero=>intro a ha;exact ⟨fun f hf=>(by cases hf),by simpa [LY] using ha,ha⟩
 | succ j ih=>
  intro a ha
  rw [LY]
  rcases XAA hs ha with h | ⟨v,q,_,hq,_,_,_,h3,_,_,h⟩
  ·rw [h];exact ⟨fun f hf=>(by cases hf),by simpa using ha,ha⟩
  ·rw [h]
   obtain ⟨i1,i2,i3⟩:=ih (q+4+v.toNat) h3
   refine ⟨fun f hf=>?_,?_,i3⟩
   ·rcases List.mem_cons.1 hf with rfl | hf
    ·show (file.extract (q+4) (q+4+v.toNat)).size≤file.size
     rw [ByteArray.size_extract];omega
    ·exact i1 f hf
   ·show (_::(LY j file (q+4+v.toNat)).1).length+a≤file.size
    rw [List.length_cons];omega
theorem EAA {file:ByteArray}:(∀ f ∈ (Cb file).1,f.size≤20000)∧(Cb file).1.length≤20000∧0≤(Cb file).2∧(Cb file).2≤(file.size:Int):=by
 rw [Cb]
 by_cases h:(file.size:Int) > 20000
 ·rw [decide_eq_true h]
  exact ⟨fun f hf=>(by cases hf),(by decide:0≤20000),Int.le_refl 0,by show (0:Int)≤_;omega⟩
 ·rw [decide_eq_false h]
  obtain ⟨h1,h2,h3⟩:=XAh (file:=file) (by omega) (file.size+1) 0 (Nat.zero_le _)
  exact ⟨fun f hf=>by have:=h1 f hf;omega,by show (LY (file.size+1) file 0).1.length≤20000;omega,by show (0:Int)≤((LY (file.size+1) file 0).2:Int);omega,by show ((LY (file.size+1) file 0).2:Int)≤_;omega⟩
theorem YAh (k:ByteArray):∀ (fs:List ByteArray) (i:Int),(ZY k i fs).1.length≤fs.length:=by
 intro fs
 induction fs with
 | nil=>intro i;exact Nat.le_refl _
 | cons f fs ih=>
  intro i
  rw [ZY]
  cases (RX k i f).2 && (PY (RX k i f).1).2
  ·exact Nat.zero_le _
  ·rw [cond_true,List.length_cons,List.length_cons];have:=ih (i+1);omega
theorem ZAh {k file:ByteArray} (hk:k.size≤900000000) (hf:file.size≤140737488351232):Xt k file=some (AY k file):=by
 obtain ⟨u1,u2,_,_⟩:=EAA (file:=file)
 rw [Xt,VAF,QAf hf,Option.bind_some,AY]
 generalize (Cb file).1=l at u1 u2
 have key:∀ (j i m:Nat) (e:Int) (out:List SRec),i+j=l.length→0≤e→e≤30000*i→out.length≤i→Vt (m+j+1) (.c0 k e (i:Int) out l)=some (out++(ZY k ((i:Int)+1) (l.drop i)).1,e+(ZY k ((i:Int)+1) (l.drop i)).2):=by
  intro j
  induction j with
  | zero=>
   intro i m e out h he he2 ho
   obtain rfl:i=l.length:=by omega
   rw [Vt]
   simp only [P6]
   rw [FN (by simp),List.drop_length,ZY,List.append_nil,Int.add_zero]
  | succ j ih=>
   intro i m e out h he he2 ho
   have hi:i<l.length:=by omega
   have hz:=u1 _ (List.getElem_mem hi)
   have ew:w64 ((i:Int)+1)=((i+1:Nat):Int):=by rw [w64_id (by omega) (by omega)];rfl
   have hoz:=BAK k l[i] ((i+1:Nat):Int)
   have hfz:=QAR (t:=l[i]) (by omega)
   rw [show m+(j+1)+1=(m+j+1)+1 by omega,Vt]
   simp only [P6,ew,Int.toNat_natCast,getD_at hi]
   rw [TB (by simp;omega),TB (by simp;omega),BAh hk (by omega),Option.bind_some,VAh (by omega),Option.bind_some,drop_at hi,ZY,show ((i:Int)+1)=((i+1:Nat):Int) from rfl]
   cases (RX k ((i+1:Nat):Int) l[i]).2
   ·rw [Bool.false_and,cond_false,List.append_nil,Int.add_zero];rfl
   ·rw [FN (by rfl),Bool.true_and]
    cases (PY (RX k ((i+1:Nat):Int) l[i]).1).2
    ·rw [cond_false,List.append_nil,Int.add_zero];rfl
    ·have h2:=ih (i+1) m (e+((frameT l[i]).1.size:Int)) (out++[(PY (RX k ((i+1:Nat):Int) l[i]).1).1]) (by omega) (by omega) (by omega) (by simp;omega)
     simp only [Bool.not_true,cond_false,cond_true]
     rw [TB (by simp;omega),TB (by simp;omega),MAT (by omega),Option.bind_some,w64_id (by omega) (by omega),h2,List.append_assoc,Int.add_assoc]
     rfl
 obtain ⟨m,hm⟩:∃ m,gas=m+l.length+1:=⟨gas - (l.length+1),by have:=gas_lt (n:=l.length+1) (by omega);omega⟩
 have h0:=key l.length 0 m 0 [] (by omega) (by omega) (by omega) (Nat.le_refl _)
 rw [List.nil_append,Int.zero_add,List.drop_zero] at h0
 rw [hm]
 exact h0
theorem KAU {b:SBook} (h:b.fThings.length≤2932031007317):Bc b=some b:=by
 rw [Bc,WAF,TB (by simp;omega)];rfl
def rise (last:Int):Int→List SThing→Bool
 | _,[]=>true
 | p,x::xs=>FY x && (!decide (x.fId > last) && (!decide (p≥x.fId) && rise last x.fId xs))
def Oa (l:List SThing):Nat→Int
 | 0=>0
 | i+1=>((l[i]?).map (·.fId)).getD 0
theorem CAK {l:List SThing} {i:Nat} (hi:i<l.length):Oa l (i+1)=l[i].fId:=by simp [Oa,hi]
theorem SAR {l:List SThing} {last:Int} {i:Nat} (hi:i<l.length):rise last (Oa l i) (l.drop i)=(FY l[i] && (!decide (l[i].fId > last) && (!decide (Oa l i≥l[i].fId) && rise last (Oa l (i+1)) (l.drop (i+1))))):=by
 rw [drop_at hi,rise,CAK hi]
def UY (b:SBook):Bool:=(b.fWord.size:Int) == 32 && ((b.fChain.size:Int) == 32 && (NM b.fTries 0 3 && (decide ((b.fThings.length:Int)≤8) && (NM b.fLast 0 1000 && (NM b.fCount 0 10000 && rise b.fLast 0 b.fThings)))))
theorem AAi {b:SBook} (hb:b.fThings.length≤140737488351232):∀ m i,i≤b.fThings.length→b.fThings.length - i<m→Qi m (.c0 i b)=some (rise b.fLast (Oa b.fThings i) (b.fThings.drop i)):=fun m i h1 h2=>
 loopN (A:=Unit) (n:=b.fThings.length) (Lp:=Qi) (st:=fun i _=>.c0 i b) (Inv:=fun _ _=>True) (out:=fun i _=>some (rise b.fLast (Oa b.fThings i) (b.fThings.drop i)))
  (fun m _ _=>by
   simp only [Qi,V6]
   rw [show decide ((b.fThings.length:Int)<(b.fThings.length:Int))=false from decide_eq_false (by omega),List.drop_of_length_le (Nat.le_refl _)]
   rfl)
  (fun m i _ hi _=>by
   have hw:w64 ((i:Int)+1)=((i+1:Nat):Int):=by rw [w64_id (by omega) (by omega)];rfl
   simp only [SAR hi]
   simp only [Qi,V6,Int.toNat_natCast,getD_at hi,ZAT,Option.bind_some,hw]
   rw [show decide ((i:Int)<(b.fThings.length:Int))=true from decide_eq_true (by omega),show decide ((0:Int)≤(i:Int))=true from decide_eq_true (by omega)]
   simp only [Bool.and_self,cond_true]
   cases h1:FY b.fThings[i]
   ·exact .inl rfl
   ·cases h2:decide (b.fThings[i].fId > b.fLast)
    ·by_cases h0:i=0
     ·subst h0
      refine .inr ⟨(),rfl,trivial,?_⟩
      rw [show decide (Oa b.fThings 0≥b.fThings[0].fId)=false from decide_eq_false (by have:=(Ce h1).2.2.1;simp only [Oa];omega)]
      rfl
     ·obtain ⟨j,rfl⟩:∃ j,i=j+1:=⟨i - 1,by omega⟩
      have hj:w64 (((j+1:Nat):Int) - 1)=(j:Int):=by rw [w64_id (by omega) (by omega)];omega
      have hjl:j<b.fThings.length:=by omega
      rw [CAK hjl]
      simp only [hj,Int.toNat_natCast,getD_at hjl,Bool.not_true,Bool.not_false,cond_false,Bool.true_and]
      rw [show decide (((j+1:Nat):Int) > 0)=true from decide_eq_true (by omega),show decide ((0:Int)≤(j:Int))=true from decide_eq_true (by omega),show decide ((j:Int)<(b.fThings.length:Int))=true from decide_eq_true (by omega)]
      simp only [Bool.and_self,cond_true]
      cases h3:decide (b.fThings[j].fId≥b.fThings[j+1].fId)
      ·exact .inr ⟨(),rfl,trivial,rfl⟩
      ·exact .inl rfl
    ·exact .inl rfl) m i () h1 h2 trivial
theorem Xj {b:SBook} (hb:b.fThings.length≤140737488351232):Cc b=some (UY b):=by
 have h0:Qi gas (.c0 0 b)=some (rise b.fLast 0 b.fThings):=AAi hb gas 0 (Nat.zero_le _) (gas_lt (by omega))
 simp only [Cc,XAF,Aa,Option.bind_some,UY,bne,h0]
 rw [show decide ((b.fThings.length:Int)≤8) = !decide ((b.fThings.length:Int) > 8) by rw [←decide_not];simp]
 cases (b.fWord.size:Int) == 32 <;> cases (b.fChain.size:Int) == 32 <;> cases NM b.fTries 0 3 <;> cases decide ((b.fThings.length:Int) > 8) <;> cases NM b.fLast 0 1000 <;> cases NM b.fCount 0 10000 <;> rfl
def KY (xs:List SThing) (t:Int):Option SThing:=xs.find? fun x=>x.fId == t
def Jk:SThing:=⟨0,0,false,false,false,false,⟨#[]⟩,0⟩
theorem IAL {b:SBook} {t:Int} (h:b.fThings.length≤140737488351232):Vd b t=some (match KY b.fThings t with | some x=>(x,true) | none=>(Jk,false)):=by
 have key:∀ m i,i≤b.fThings.length→b.fThings.length - i<m→Cm m (.c0 t i b Jk)=some (match KY (b.fThings.drop i) t with | some x=>(x,true) | none=>(Jk,false)):=fun m i h1 h2=>
  loopN (A:=Unit) (n:=b.fThings.length) (Lp:=Cm) (st:=fun i _=>.c0 t i b Jk) (Inv:=fun _ _=>True) (out:=fun i _=>some (match KY (b.fThings.drop i) t with | some x=>(x,true) | none=>(Jk,false)))
   (fun m _ _=>by simp [Cm,Y6,KY,Jk])
   (fun m i _ hi _=>by
    have hw:w64 ((i:Int)+1)=((i+1:Nat):Int):=by rw [w64_id (by omega) (by omega)];rfl
    simp only [Cm,Y6,Int.toNat_natCast,getD_at hi,hw,drop_at hi,KY,List.find?_cons]
    cases hq:b.fThings[i].fId == t
    ·exact .inr ⟨(),by simp [hi],trivial,by simp⟩
    ·exact .inl (by simp [hi])) m i () h1 h2 trivial
 have h0:=key gas 0 (Nat.zero_le _) (gas_lt (by omega))
 exact h0
theorem GAA {r:SRec} (h:(TT r).2=true):(r.fKind=1∧r.fText.size=32)∨(r.fKind=2∧0≤r.fNum∧r.fNum≤3)∨(r.fKind=3∧FY r.fThing=true)∨(r.fKind=4∧1≤r.fNum∧r.fNum≤1000):=by
 rw [TT] at h
 by_cases h1:r.fKind=1
 ·rw [show (r.fKind == 1)=true by rw [beq_iff_eq];exact h1,cond_true] at h
  cases hc:((r.fText.size:Int) == 32 && r.fNum == 0 && IY r.fThing)
  ·rw [hc] at h;cases h
  ·rw [Bool.and_eq_true,Bool.and_eq_true,beq_iff_eq] at hc
   exact .inl ⟨h1,by omega⟩
 rw [show (r.fKind == 1)=false by rw [beq_eq_false_iff_ne];exact h1,cond_false] at h
 by_cases h2:r.fKind=2
 ·rw [show (r.fKind == 2)=true by rw [beq_iff_eq];exact h2,cond_true] at h
  cases hc:(HY r.fText && IY r.fThing && NM r.fNum 0 3)
  ·rw [hc] at h;cases h
  ·rw [Bool.and_eq_true,WX] at hc
   exact .inr (.inl ⟨h2,hc.2⟩)
 rw [show (r.fKind == 2)=false by rw [beq_eq_false_iff_ne];exact h2,cond_false] at h
 by_cases h3:r.fKind=3
 ·rw [show (r.fKind == 3)=true by rw [beq_iff_eq];exact h3,cond_true] at h
  cases hc:((EY r.fThing).2 && HY r.fText && r.fNum == 0)
  ·rw [hc] at h;cases h
  ·rw [Bool.and_eq_true,Bool.and_eq_true] at hc
   refine .inr (.inr (.inl ⟨h3,?_⟩))
   have h4:=hc.1.1
   rw [EY] at h4
   cases ho:FY r.fThing
   ·rw [ho] at h4;cases h4
   ·rfl
 rw [show (r.fKind == 3)=false by rw [beq_eq_false_iff_ne];exact h3,cond_false] at h
 by_cases h4:r.fKind=4
 ·rw [show (r.fKind == 4)=true by rw [beq_iff_eq];exact h4,cond_true] at h
  cases hc:(HY r.fText && IY r.fThing && NM r.fNum 1 1000)
  ·rw [hc] at h;cases h
  ·rw [Bool.and_eq_true,WX] at hc
   exact .inr (.inr (.inr ⟨h4,hc.2⟩))
 rw [show (r.fKind == 4)=false by rw [beq_eq_false_iff_ne];exact h4] at h
 cases h
theorem WAR (r:SRec):(TT r).1.size≤300:=by
 rw [TT]
 have one:∀ n:Int,(ofBytes [n]).size=1:=fun n=>by rw [ofBytes_size];rfl
 cases hk1:(r.fKind == 1)
 ·rw [cond_false]
  cases hk2:(r.fKind == 2)
  ·rw [cond_false]
   cases hk3:(r.fKind == 3)
   ·rw [cond_false]
    cases hk4:(r.fKind == 4)
    ·exact Nat.zero_le _
    ·rw [cond_true]
     cases hc:(HY r.fText && IY r.fThing && NM r.fNum 1 1000)
     ·exact Nat.zero_le _
     ·rw [Bool.and_eq_true,WX] at hc
      have:=MZ (n:=r.fNum) (by omega)
      rw [cond_true,ByteArray.size_append,one,ofBytes_size];omega
   ·rw [cond_true]
    cases hc:((EY r.fThing).2 && HY r.fText && r.fNum == 0)
    ·exact Nat.zero_le _
    ·rw [cond_true,ByteArray.size_append,one,EY]
     cases ho:FY r.fThing
     ·exact Nat.le_of_ble_eq_true rfl
     ·have:=AAU ho
      show 1+(Oe r.fThing).size≤300;omega
  ·rw [cond_true]
   cases hc:(HY r.fText && IY r.fThing && NM r.fNum 0 3)
   ·exact Nat.zero_le _
   ·rw [Bool.and_eq_true,WX] at hc
    have:=MZ (n:=r.fNum) (by omega)
    rw [cond_true,ByteArray.size_append,one,ofBytes_size];omega
 ·rw [cond_true]
  cases hc:((r.fText.size:Int) == 32 && r.fNum == 0 && IY r.fThing)
  ·exact Nat.zero_le _
  ·rw [Bool.and_eq_true,Bool.and_eq_true,beq_iff_eq] at hc
   rw [cond_true,ByteArray.size_append,one];omega
def EZ:List SThing→Int→Nat→Option Nat
 | [],_,_=>none
 | x::xs,t,i=>if x.fId == t then some i else EZ xs t (i+1)
theorem AAS (t:Int):∀ (xs:List SThing) (i:Nat),match EZ xs t i with | some j=>i≤j∧j<i+xs.length∧KY xs t=xs[j - i]? | none=>KY xs t=none:=by
 intro xs
 induction xs with
 | nil=>intro i;rfl
 | cons x xs ih=>
  intro i
  simp only [EZ,KY,List.find?_cons]
  cases hq:x.fId == t
  ·have:=ih (i+1)
   simp only [Bool.false_eq_true,if_false]
   split at this
   ·rename_i j hj
    obtain ⟨h1,h2,h3⟩:=this
    refine ⟨by omega,by simp;omega,?_⟩
    rw [show j - i=(j - (i+1))+1 by omega,List.getElem?_cons_succ]
    exact h3
   ·exact this
  ·simp
theorem DAK {b:SBook} {t:Int} (h:b.fThings.length≤140737488351232):Yg b t=some (match EZ b.fThings t 0 with | some j=>(j:Int) | none=> -1):=by
 have key:∀ m i,i≤b.fThings.length→b.fThings.length - i<m→Vm m (.c0 t b.fThings b.fThings.length i)=some (match EZ (b.fThings.drop i) t i with | some j=>(j:Int) | none=> -1):=fun m i h1 h2=>
  loopN (A:=Unit) (n:=b.fThings.length) (Lp:=Vm) (st:=fun i _=>.c0 t b.fThings b.fThings.length i) (Inv:=fun _ _=>True) (out:=fun i _=>some (match EZ (b.fThings.drop i) t i with | some j=>(j:Int) | none=> -1))
   (fun m _ _=>by simp [Vm,P9,EZ])
   (fun m i _ hi _=>by
    have hw:w64 ((i:Int)+1)=((i+1:Nat):Int):=by rw [w64_id (by omega) (by omega)];rfl
    simp only [Vm,P9,Int.toNat_natCast,getD_at hi,hw,drop_at hi,EZ]
    cases hq:b.fThings[i].fId == t
    ·exact .inr ⟨(),by simp [hi],trivial,by simp⟩
    ·exact .inl (by simp [hi])) m i () h1 h2 trivial
 have h0:=key gas 0 (Nat.zero_le _) (gas_lt (by omega))
 exact h0
theorem Tc {b:SBook}:UY b=true↔b.fWord.size=32∧b.fChain.size=32∧(0≤b.fTries∧b.fTries≤3)∧b.fThings.length≤8∧(0≤b.fLast∧b.fLast≤1000)∧(0≤b.fCount∧b.fCount≤10000)∧rise b.fLast 0 b.fThings=true:=by
 simp only [UY,Bool.and_eq_true,beq_iff_eq,WX,decide_eq_true_eq]
 exact ⟨fun ⟨h1,h2,h3,h4,h5,h6,h7⟩=>⟨by omega,by omega,h3,by omega,h5,h6,h7⟩,fun ⟨h1,h2,h3,h4,h5,h6,h7⟩=>⟨by omega,by omega,h3,by omega,h5,h6,h7⟩⟩
theorem Ub {last p:Int} {x:SThing} {xs:List SThing}:rise last p (x::xs)=true↔FY x=true∧x.fId≤last∧p<x.fId∧rise last x.fId xs=true:=by
 simp only [rise,Bool.and_eq_true,Bool.not_eq_true',decide_eq_false_iff_not]
 exact ⟨fun ⟨h1,h2,h3,h4⟩=>⟨h1,by omega,by omega,h4⟩,fun ⟨h1,h2,h3,h4⟩=>⟨h1,by omega,by omega,h4⟩⟩
theorem EAB {last:Int}:∀ {xs:List SThing} {p:Int},rise last p xs=true→∀ x ∈ xs,p<x.fId∧x.fId≤last∧FY x=true
 | [],_,_,x,hx=>by cases hx
 | y::ys,p,h,x,hx=>by
  obtain ⟨h1,h2,h3,h4⟩:=Ub.1 h
  rcases List.mem_cons.1 hx with rfl | hx
  ·exact ⟨h3,h2,h1⟩
  ·have:=EAB h4 x hx
   exact ⟨by omega,this.2.1,this.2.2⟩
theorem JAL {last last2:Int} (hl:last≤last2):∀ {xs:List SThing} {p p2:Int},p2≤p→rise last p xs=true→rise last2 p2 xs=true
 | [],_,_,_,_=>rfl
 | y::ys,p,p2,hp,h=>by
  obtain ⟨h1,h2,h3,h4⟩:=Ub.1 h
  exact Ub.2 ⟨h1,by omega,by omega,JAL hl (Int.le_refl _) h4⟩
def Ld (x:SThing) (ts:List SThing):List SThing:=ts.filter fun t=>decide (t.fId<x.fId)
def Gl (x:SThing) (ts:List SThing):List SThing:=ts.filter fun t=>decide (t.fId > x.fId)
def putAt (ts:List SThing) (x:SThing):List SThing:=Ld x ts++x::Gl x ts
def without (ts:List SThing) (id:Int):List SThing:=ts.filter fun t=>t.fId != id
theorem BAi {last:Int} {x:SThing}:∀ {xs:List SThing} {p:Int},x.fId≤p→rise last p xs=true→Ld x xs=[]∧Gl x xs=xs∧without xs x.fId=xs:=by
 intro xs p hp h
 have ha:=EAB h
 refine ⟨List.filter_eq_nil_iff.2 fun t ht=>?_,List.filter_eq_self.2 fun t ht=>?_,List.filter_eq_self.2 fun t ht=>?_⟩
 ·have:=ha t ht;rw [decide_eq_true_eq];omega
 ·have:=ha t ht;rw [decide_eq_true_eq];omega
 ·have:=ha t ht;rw [bne_iff_ne];omega
theorem LAU {id:Int}:∀ {xs:List SThing} {i j:Nat},EZ xs id i=some j→i≤j∧∃ x ∈ xs,x.fId=id:=by
 intro xs
 induction xs with
 | nil=>intro i j h;cases h
 | cons y ys ih=>
  intro i j h
  rw [EZ] at h
  split at h
  ·rename_i hy;cases h;exact ⟨Nat.le_refl _,y,List.mem_cons_self ..,beq_iff_eq.1 hy⟩
  ·obtain ⟨h1,x,h2,h3⟩:=ih h;exact ⟨by omega,x,List.mem_cons_of_mem _ h2,h3⟩
theorem FAK {last:Int} {x:SThing}:∀ {xs:List SThing} {p:Int} {i j:Nat},rise last p xs=true→EZ xs x.fId i=some j→xs.set (j - i) x=putAt xs x∧(xs.take (j - i)++xs.drop (j - i+1))=without xs x.fId:=by
 intro xs
 induction xs with
 | nil=>intro p i j _ h;cases h
 | cons y ys ih=>
  intro p i j hr h
  obtain ⟨h1,h2,h3,h4⟩:=Ub.1 hr
  rw [EZ] at h
  split at h
  ·rename_i hy
   have hy:=beq_iff_eq.1 hy
   cases h
   obtain ⟨f1,f2,f3⟩:=BAi (x:=x) (by omega) h4
   rw [Nat.sub_self]
   simp only [putAt,Ld,Gl,without,List.filter_cons] at f1 f2 f3 ⊢
   rw [decide_eq_false (by omega),decide_eq_false (by omega),show (y.fId != x.fId)=false by rw [bne_eq_false_iff_eq];exact hy]
   simp [f1,f2,f3]
  ·rename_i hy
   obtain ⟨h5,z,h6,h7⟩:=LAU h
   have h8:=EAB h4 z h6
   obtain ⟨i1,i2⟩:=ih h4 h
   have e:j - i=(j - (i+1))+1:=by omega
   rw [e,List.set_cons_succ,i1,List.take_succ_cons,List.drop_succ_cons,List.cons_append,i2]
   simp only [putAt,Ld,Gl,without,List.filter_cons]
   rw [decide_eq_true (by omega),decide_eq_false (by omega),show (y.fId != x.fId)=true by rw [bne_iff_ne];omega]
   simp
theorem CAi {last:Int} {x:SThing} {xs:List SThing} {p:Int} (h:rise last p xs=true) (hx:last<x.fId):putAt xs x=xs++[x]∧KY xs x.fId=none:=by
 have ha:=EAB h
 constructor
 ·rw [putAt,Ld,Gl,List.filter_eq_self.2 fun t ht=>by have:=ha t ht;rw [decide_eq_true_eq];omega,List.filter_eq_nil_iff.2 fun t ht=>by have:=ha t ht;rw [decide_eq_true_eq];omega]
 ·rw [KY,List.find?_eq_none]
  intro t ht
  have:=ha t ht
  rw [beq_iff_eq];omega
theorem EAi {last:Int} {x:SThing} (hx:FY x=true) (hl:last<x.fId):∀ {xs:List SThing} {p:Int},p<x.fId→rise last p xs=true→rise x.fId p (xs++[x])=true:=by
 intro xs
 induction xs with
 | nil=>intro p hp _;exact Ub.2 ⟨hx,Int.le_refl _,hp,rfl⟩
 | cons y ys ih=>
  intro p hp h
  obtain ⟨h1,h2,h3,h4⟩:=Ub.1 h
  exact Ub.2 ⟨h1,by omega,h3,ih (by omega) h4⟩
theorem FAi {last:Int} {x:SThing} (hx:FY x=true):∀ {xs:List SThing} {p:Int} {i j:Nat},rise last p xs=true→EZ xs x.fId i=some j→rise last p (xs.set (j - i) x)=true:=by
 intro xs
 induction xs with
 | nil=>intro p i j _ h;cases h
 | cons y ys ih=>
  intro p i j hr h
  obtain ⟨h1,h2,h3,h4⟩:=Ub.1 hr
  rw [EZ] at h
  split at h
  ·rename_i hy
   have hy:=beq_iff_eq.1 hy
   cases h
   rw [Nat.sub_self,List.set_cons_zero]
   exact Ub.2 ⟨hx,by omega,by omega,JAL (Int.le_refl _) (by omega) h4⟩
  ·have h5:=(LAU h).1
   have e:j - i=(j - (i+1))+1:=by omega
   rw [e,List.set_cons_succ]
   exact Ub.2 ⟨h1,h2,h3,ih h4 h⟩
theorem HAi {last:Int} (id:Int):∀ {xs:List SThing} {p:Int},rise last p xs=true→rise last p (without xs id)=true:=by
 intro xs
 induction xs with
 | nil=>intro p _;rfl
 | cons y ys ih=>
  intro p h
  obtain ⟨h1,h2,h3,h4⟩:=Ub.1 h
  rw [without,List.filter_cons]
  split
  ·exact Ub.2 ⟨h1,h2,h3,ih h4⟩
  ·exact JAL (Int.le_refl _) (by omega) (ih h4)
def grown (x y:SThing):Bool:=y.fKind == x.fKind && ((bs y.fValue == bs x.fValue) && (y.fSigns == x.fSigns && (y.fWraps == x.fWraps && (decide (x.fNext≤y.fNext) && ((y.fHidden || !x.fHidden) && (y.fFixed || !x.fFixed))))))
def Ym:SBook:=⟨⟨#[]⟩,0,[],0,⟨#[]⟩,0⟩
def Vj (b:SBook) (x:SThing):Option (List SThing×Int):=match KY b.fThings x.fId with
 | some old=>bif grown old x then some (putAt b.fThings x,b.fLast) else none
 | none=>bif x.fId != b.fLast+1 || decide ((b.fThings.length:Int)≥8) then none else some (b.fThings++[x],x.fId)
def JY (b:SBook) (r:SRec):SBook×Bool:=
 bif !(UY b) || (!(TT r).2 || decide (b.fCount≥10000)) then (Ym,false)
 else bif r.fKind == 1 then (⟨r.fText,0,b.fThings,b.fLast,BZ (b.fChain++(TT r).1),b.fCount+1⟩,true)
 else bif r.fKind == 2 then (⟨b.fWord,r.fNum,b.fThings,b.fLast,BZ (b.fChain++(TT r).1),b.fCount+1⟩,true)
 else bif r.fKind == 3 then (match Vj b r.fThing with
  | some p=>(⟨b.fWord,b.fTries,p.1,p.2,BZ (b.fChain++(TT r).1),b.fCount+1⟩,true)
  | none=>(Ym,false))
 else (match KY b.fThings r.fNum with
  | some _=>(⟨b.fWord,b.fTries,without b.fThings r.fNum,b.fLast,BZ (b.fChain++(TT r).1),b.fCount+1⟩,true)
  | none=>(Ym,false))
theorem EAK {xs:List SThing} {id:Int}:(∃ x j,KY xs id=some x∧EZ xs id 0=some j∧j<xs.length∧xs[j]?=some x∧x.fId=id)∨(KY xs id=none∧EZ xs id 0=none):=by
 have h:=AAS id xs 0
 cases hp:EZ xs id 0 with
 | none=>rw [hp] at h;exact .inr ⟨h,rfl⟩
 | some j=>
  rw [hp] at h
  obtain ⟨_,h2,h3⟩:=h
  rw [Nat.sub_zero] at h3
  rw [Nat.zero_add] at h2
  refine .inl ⟨xs[j],j,?_,rfl,h2,List.getElem?_eq_getElem h2,?_⟩
  ·rw [h3,List.getElem?_eq_getElem h2]
  ·have h4:KY xs id=some xs[j]:=by rw [h3,List.getElem?_eq_getElem h2]
   have:=List.find?_some h4
   exact beq_iff_eq.1 this
theorem KAL {b:SBook} {r:SRec} (h:(JY b r).2=true):UY b=true∧(TT r).2=true∧b.fCount<10000∧UY (JY b r).1=true∧(JY b r).1.fCount=b.fCount+1∧(JY b r).1.fChain=BZ (b.fChain++(TT r).1):=by
 rw [JY] at h ⊢
 cases h1:UY b
 ·rw [h1] at h;cases h
 cases h2:(TT r).2
 ·rw [h1,h2] at h;cases h
 by_cases h3:b.fCount≥10000
 ·rw [h1,h2,decide_eq_true h3] at h;cases h
 rw [h1,h2,decide_eq_false h3] at h
 rw [decide_eq_false h3]
 simp only [Bool.not_true,Bool.or_false,cond_false] at h ⊢
 obtain ⟨b1,b2,b3,b4,b5,b6,b7⟩:=Tc.1 h1
 refine ⟨trivial,trivial,by omega,?_⟩
 have hd:∀ s,(BZ s).size=32:=Ag
 rcases GAA h2 with ⟨hk,hz⟩ | ⟨hk,hz⟩ | ⟨hk,hz⟩ | ⟨hk,hz⟩
 ·rw [hk]
  exact ⟨Tc.2 ⟨hz,hd _,(by decide:(0:Int)≤0∧(0:Int)≤3),b4,b5,by show 0≤b.fCount+1∧b.fCount+1≤10000;omega,b7⟩,rfl,rfl⟩
 ·rw [hk]
  exact ⟨Tc.2 ⟨b1,hd _,hz,b4,b5,by show 0≤b.fCount+1∧b.fCount+1≤10000;omega,b7⟩,rfl,rfl⟩
 ·rw [hk] at h ⊢
  simp only [show ((3:Int) == 1)=false from rfl,show ((3:Int) == 2)=false from rfl,show ((3:Int) == 3)=true from rfl,cond_true,cond_false] at h ⊢
  rw [Vj] at h ⊢
  rcases EAK (xs:=b.fThings) (id:=r.fThing.fId) with ⟨x,j,t1,t2,t3,t4,t5⟩ | ⟨t1,t2⟩
  ·rw [t1] at h ⊢
   simp only at h ⊢
   cases hg:grown x r.fThing
   ·rw [hg] at h;cases h
   ·have e:=(FAK b7 t2).1
    rw [Nat.sub_zero] at e
    have hrs:=FAi hz b7 t2
    rw [Nat.sub_zero,e] at hrs
    exact ⟨Tc.2 ⟨b1,hd _,b3,by show (putAt b.fThings r.fThing).length≤8;rw [←e,List.length_set];exact b4,b5,by show 0≤b.fCount+1∧b.fCount+1≤10000;omega,hrs⟩,rfl,rfl⟩
  ·rw [t1] at h ⊢
   simp only at h ⊢
   cases hg:(r.fThing.fId != b.fLast+1 || decide ((b.fThings.length:Int)≥8))
   ·rw [Bool.or_eq_false_iff,bne_eq_false_iff_eq,decide_eq_false_iff_not] at hg
    have hid:r.fThing.fId≤1000:=by
     have:=hz
     simp only [FY,Bool.and_eq_true,WX] at this
     omega
    exact ⟨Tc.2 ⟨b1,hd _,b3,by show (b.fThings++[r.fThing]).length≤8;rw [List.length_append,List.length_singleton];omega,by show 0≤r.fThing.fId∧r.fThing.fId≤1000;omega,by show 0≤b.fCount+1∧b.fCount+1≤10000;omega,EAi hz (by omega) (by omega) b7⟩,rfl,rfl⟩
   ·rw [hg] at h;cases h
 ·rw [hk] at h ⊢
  simp only [show ((4:Int) == 1)=false from rfl,show ((4:Int) == 2)=false from rfl,show ((4:Int) == 3)=false from rfl,cond_false] at h ⊢
  cases ht:KY b.fThings r.fNum with
  | none=>rw [ht] at h;cases h
  | some x=>exact ⟨Tc.2 ⟨b1,hd _,b3,by show (without b.fThings r.fNum).length≤8;exact Nat.le_trans (List.length_filter_le ..) b4,b5,by show 0≤b.fCount+1∧b.fCount+1≤10000;omega,HAi _ b7⟩,rfl,rfl⟩
theorem IAi (x y:SThing):Ri x y=some (grown x y):=by
 rw [Ri,YAF,grown,Ak,show (bs x.fValue == bs y.fValue)=(bs y.fValue == bs x.fValue) by rw [Bool.eq_iff_iff,beq_iff_eq,beq_iff_eq];exact ⟨Eq.symm,Eq.symm⟩,
  show (x.fKind == y.fKind)=(y.fKind == x.fKind) by rw [Bool.eq_iff_iff,beq_iff_eq,beq_iff_eq];exact ⟨Eq.symm,Eq.symm⟩]
 cases (y.fKind == x.fKind) <;> cases (bs y.fValue == bs x.fValue) <;> cases y.fSigns <;> cases x.fSigns <;> cases y.fWraps <;> cases x.fWraps <;> cases decide (x.fNext≤y.fNext) <;> cases y.fHidden <;> cases x.fHidden <;> cases y.fFixed <;> cases x.fFixed <;> rfl
theorem LAL {f:SThing→Bool} {l:List SThing} {i:Nat} (h:i<l.length):(l.take (i+1)).filter f=(l.take i).filter f++(bif f l[i] then [l[i]] else []):=by
 rw [take_at h,List.filter_append]
 congr 1
theorem MAU {l:List SThing} {x:SThing} (hl:l.length≤1000000000):Si l x=some (putAt l x):=by
 have k1:∀ (j i m:Nat),i+j=l.length→Df (m+j) (.c1 l (i:Int) x (Ld x l++[x]++(l.take i).filter (fun t=>decide (t.fId > x.fId))))=Df m (.c1 l (l.length:Int) x (Ld x l++[x]++Gl x l)):=by
  intro j
  induction j with
  | zero=>(intro i m h;obtain rfl:i=l.length:=by omega);rw [List.take_length];rfl
  | succ j ih=>
   intro i m h
   have hi:i<l.length:=by omega
   have e:w64 ((i:Int)+1)=((i+1:Nat):Int):=by rw [w64_id (by omega) (by omega)];rfl
   have h2:=ih (i+1) m (by omega)
   rw [LAL hi] at h2
   have hf1:(Ld x l).length≤l.length:=List.length_filter_le ..
   have hf2:((l.take i).filter (fun t=>decide (t.fId > x.fId))).length≤i:=Nat.le_trans (List.length_filter_le ..) (by simp;omega)
   rw [show m+(j+1)=(m+j)+1 by omega,Df]
   simp only [Em,e,Int.toNat_natCast,getD_at hi]
   rw [TB (by simp;omega),TB (by simp;omega)]
   by_cases h3:l[i].fId > x.fId
   ·rw [decide_eq_true h3] at h2 ⊢
    rw [cond_true,TB (by simp;omega),TB (by simp only [List.length_append,List.length_singleton,decide_eq_true_eq];omega),←h2]
    simp
   ·rw [decide_eq_false h3] at h2 ⊢
    rw [cond_false,←h2]
    simp
 have k0:∀ (j i m:Nat),i+j=l.length→Df (m+1+l.length+1+j) (.c0 l (i:Int) x ((l.take i).filter (fun t=>decide (t.fId<x.fId))))=some (putAt l x):=by
  intro j
  induction j with
  | zero=>
   intro i m h
   obtain rfl:i=l.length:=by omega
   have hf1:(Ld x l).length≤l.length:=List.length_filter_le ..
   rw [List.take_length,show l.filter (fun t=>decide (t.fId<x.fId))=Ld x l from rfl,Nat.add_zero,Df]
   simp only [Em]
   rw [FN (by simp),TB (by simp;omega)]
   have h2:=k1 l.length 0 (m+1) (by omega)
   rw [List.take_zero,List.filter_nil,List.append_nil,show ((0:Nat):Int)=0 from rfl] at h2
   rw [h2,Df]
   simp only [Em]
   rw [FN (by simp),putAt,List.append_assoc];rfl
  | succ j ih=>
   intro i m h
   have hi:i<l.length:=by omega
   have e:w64 ((i:Int)+1)=((i+1:Nat):Int):=by rw [w64_id (by omega) (by omega)];rfl
   have h2:=ih (i+1) m (by omega)
   rw [LAL hi] at h2
   have hf2:((l.take i).filter (fun t=>decide (t.fId<x.fId))).length≤i:=Nat.le_trans (List.length_filter_le ..) (by simp;omega)
   rw [show m+1+l.length+1+(j+1)=(m+1+l.length+1+j)+1 by omega,Df]
   simp only [Em,e,Int.toNat_natCast,getD_at hi]
   rw [TB (by simp;omega),TB (by simp;omega)]
   by_cases h3:l[i].fId<x.fId
   ·rw [decide_eq_true h3] at h2 ⊢
    rw [cond_true,TB (by simp;omega),TB (by simp only [decide_eq_true_eq];omega),←h2]
    simp
   ·rw [decide_eq_false h3] at h2 ⊢
    rw [cond_false,←h2]
    simp
 obtain ⟨m,hm⟩:∃ m,gas=m+1+l.length+1+l.length:=⟨gas - (2*l.length+2),by have:=gas_lt (n:=2*l.length+2) (by omega);omega⟩
 rw [Si,ZAF,hm]
 have h:=k0 l.length 0 m (by omega)
 rw [List.take_zero,List.filter_nil] at h
 exact h
theorem JAi {b:SBook} {r:SRec} (hb:b.fThings.length≤140737488351232):Ti b r=some (JY b r):=by
 have hok:=@KAL b r
 rw [Ti,AAG,Yn,Option.bind_some,Xj hb,Option.bind_some]
 rw [JY] at hok ⊢
 cases h1:UY b
 ·rfl
 cases h2:(TT r).2
 ·rfl
 obtain ⟨b1,b2,b3,b4,b5,b6,b7⟩:=Tc.1 h1
 by_cases h3:b.fCount≥10000
 ·have h3':(b.fCount == 10000)=true:=by rw [beq_iff_eq];omega
  simp only [decide_eq_true h3,h3',Bool.not_true,Bool.or_true,Bool.false_or,cond_false,cond_true]
  rfl
 have hz:=WAR r
 have hw:w64 (b.fCount+1)=b.fCount+1:=w64_id (by omega) (by omega)
 have hdig:=Dz (s:=b.fChain++(TT r).1) (by rw [ByteArray.size_append];omega)
 have hsz:decide (b.fChain.size+(TT r).1.size≤9223372036854775807)=true:=by rw [decide_eq_true_eq];omega
 have h3':(b.fCount == 10000)=false:=by rw [beq_eq_false_iff_ne];omega
 rw [h1,h2,decide_eq_false h3] at hok
 simp only [Bool.not_true,Bool.or_self,cond_false] at hok
 simp only [decide_eq_false h3,h3',Bool.not_true,Bool.or_self,cond_false,KAU (show b.fThings.length≤2932031007317 by omega),hdig,hsz,hw,Option.bind_some,cond_true]
 rcases GAA h2 with ⟨hk,hc⟩ | ⟨hk,hc⟩ | ⟨hk,hc⟩ | ⟨hk,hc⟩
 ·rw [hk] at hok ⊢
  simp only [show ((1:Int) == 1)=true from rfl,cond_true] at hok ⊢
  have h5:=(hok trivial).2.2.2.1
  rw [Xj (by simp only;omega),Option.bind_some,h5];rfl
 ·rw [hk] at hok ⊢
  simp only [show ((2:Int) == 1)=false from rfl,show ((2:Int) == 2)=true from rfl,cond_true,cond_false] at hok ⊢
  have h5:=(hok trivial).2.2.2.1
  rw [Xj (by simp only;omega),Option.bind_some,h5];rfl
 ·rw [hk] at hok ⊢
  simp only [show ((3:Int) == 1)=false from rfl,show ((3:Int) == 2)=false from rfl,show ((3:Int) == 3)=true from rfl,cond_true,cond_false] at hok ⊢
  have hid:=(Ce hc)
  have hpl:(putAt b.fThings r.fThing).length≤1000:=by
   have f1:(Ld r.fThing b.fThings).length≤b.fThings.length:=List.length_filter_le ..
   have f2:(Gl r.fThing b.fThings).length≤b.fThings.length:=List.length_filter_le ..
   rw [putAt,List.length_append,List.length_cons];omega
  rw [IAL hb,Option.bind_some]
  rw [Vj] at hok ⊢
  cases ht:KY b.fThings r.fThing.fId with
  | some o=>
   rw [ht] at hok
   simp only [cond_true,IAi,Option.bind_some,Bool.not_true,cond_false,MAU (show b.fThings.length≤1000000000 by omega)] at hok ⊢
   cases hg:grown o r.fThing
   ·rfl
   ·rw [hg] at hok
    simp only [cond_true] at hok
    have h5:=(hok trivial).2.2.2.1
    simp only [Bool.not_true,cond_false,cond_true]
    rw [Xj (by simp only;omega),Option.bind_some,h5];rfl
  | none=>
   rw [ht] at hok
   have hw2:w64 (b.fLast+1)=b.fLast+1:=w64_id (by omega) (by omega)
   simp only [cond_false,Bool.not_false,cond_true,hw2,MAU (show b.fThings.length≤1000000000 by omega),Option.bind_some] at hok ⊢
   cases hg:(r.fThing.fId != b.fLast+1)
   ·rw [hg] at hok
    rw [bne_eq_false_iff_eq] at hg
    have hpn:=(CAi b7 (show b.fLast<r.fThing.fId by omega)).1
    by_cases h8:(b.fThings.length:Int)≥8
    ·rw [decide_eq_true h8,cond_false,TB (by rw [beq_iff_eq];omega)];rfl
    ·rw [decide_eq_false h8] at hok ⊢
     simp only [Bool.or_false,cond_false] at hok
     have h5:=(hok trivial).2.2.2.1
     rw [hpn] at hpl ⊢
     rw [cond_false,FN (by rw [beq_eq_false_iff_ne];omega),Xj (by simp only;omega),Option.bind_some,h5];rfl
   ·rfl
 ·rw [hk] at hok ⊢
  simp only [show ((4:Int) == 1)=false from rfl,show ((4:Int) == 2)=false from rfl,show ((4:Int) == 3)=false from rfl,show ((4:Int) == 4)=true from rfl,cond_true,cond_false] at hok ⊢
  rw [IAL hb,Option.bind_some]
  cases ht:KY b.fThings r.fNum with
  | none=>rfl
  | some o=>
   rw [ht] at hok
   simp only [Bool.not_true,cond_false] at hok ⊢
   have h5:=(hok trivial).2.2.2.1
   have key:∀ (j i m:Nat),i+j=b.fThings.length→Eu (m+j+1) (.c0 (TT r).1 (i:Int) b r ⟨#[]⟩ 0 0 ⟨#[]⟩ 0 b.fWord b.fTries b.fLast b.fChain b.fCount ((b.fThings.take i).filter (fun t=>t.fId != r.fNum)) [] b.fThings)=some (⟨b.fWord,b.fTries,without b.fThings r.fNum,b.fLast,BZ (b.fChain++(TT r).1),b.fCount+1⟩,true):=by
    intro j
    induction j with
    | zero=>
     intro i m hi
     obtain rfl:i=b.fThings.length:=by omega
     have hf1:(without b.fThings r.fNum).length≤b.fThings.length:=List.length_filter_le ..
     rw [List.take_length,show b.fThings.filter (fun t=>t.fId != r.fNum)=without b.fThings r.fNum from rfl,Eu]
     simp only [I7,hdig,hsz,hw,Option.bind_some,cond_true]
     rw [FN (by simp),Xj (by simp only;omega),Option.bind_some,h5];rfl
    | succ j ih=>
     intro i m hi
     have hil:i<b.fThings.length:=by omega
     have e:w64 ((i:Int)+1)=((i+1:Nat):Int):=by rw [w64_id (by omega) (by omega)];rfl
     have h6:=ih (i+1) m (by omega)
     rw [LAL hil] at h6
     have hf2:((b.fThings.take i).filter (fun t=>t.fId != r.fNum)).length≤i:=Nat.le_trans (List.length_filter_le ..) (by simp;omega)
     rw [show m+(j+1)+1=(m+j+1)+1 by omega,Eu]
     simp only [I7,e,Int.toNat_natCast,getD_at hil]
     rw [TB (by simp;omega),TB (by simp;omega)]
     cases h7:(b.fThings[i].fId != r.fNum)
     ·rw [h7] at h6
      rw [cond_false,←h6];simp
     ·rw [h7] at h6
      rw [cond_true,TB (by simp;omega),TB (by simp only [decide_eq_true_eq];omega),←h6];simp
   obtain ⟨m,hm⟩:∃ m,gas=m+b.fThings.length+1:=⟨gas - (b.fThings.length+1),by have:=gas_lt (n:=b.fThings.length+1) (by omega);omega⟩
   have h0:=key b.fThings.length 0 m (by omega)
   rw [List.take_zero,List.filter_nil] at h0
   rw [hm]
   exact h0
def KZ (b:SBook):List SRec→SBook×Bool
 | []=>(b,true)
 | r::rs=>bif (JY b r).2 then KZ (JY b r).1 rs else (Ym,false)
theorem AAA {b:SBook} {r:SRec} (h:(JY b r).2=true):(JY b r).1.fThings.length≤8:=(Tc.1 (KAL h).2.2.2.1).2.2.2.1
theorem GAj {rs:List SRec}:∀ {b:SBook},UY b=true→(KZ b rs).2=true→UY (KZ b rs).1=true:=by
 induction rs with
 | nil=>intro b h _;exact h
 | cons r rs ih=>
  intro b h h2
  rw [KZ] at h2 ⊢
  cases h3:(JY b r).2
  ·rw [h3] at h2;cases h2
  ·rw [h3,cond_true] at h2
   rw [cond_true]
   exact ih (KAL h3).2.2.2.1 h2
theorem KAi {b:SBook} {l:List SRec} (hb:b.fThings.length≤2932031007317) (hl:l.length≤140737488351232):Iu b l=some (KZ b l):=by
 have key:∀ (j i m:Nat) (b:SBook),i+j=l.length→b.fThings.length≤2932031007317→Hu (m+j+1) (.c0 l (i:Int) ⟨#[]⟩ 0 0 ⟨#[]⟩ 0 b.fWord b.fTries b.fLast b.fChain b.fCount [] b.fThings)=some (KZ b (l.drop i)):=by
  intro j
  induction j with
  | zero=>
   intro i m b h hb
   obtain rfl:i=l.length:=by omega
   rw [Hu]
   simp only [J7]
   rw [FN (by simp),List.drop_length];rfl
  | succ j ih=>
   intro i m b h hb
   have hi:i<l.length:=by omega
   have e:w64 ((i:Int)+1)=((i+1:Nat):Int):=by rw [w64_id (by omega) (by omega)];rfl
   rw [show m+(j+1)+1=(m+j+1)+1 by omega,Hu]
   simp only [J7,e,Int.toNat_natCast,getD_at hi]
   rw [TB (by simp;omega),TB (by simp;omega),JAi (by show b.fThings.length≤_;omega),Option.bind_some,drop_at hi,KZ]
   cases h2:(JY b l[i]).2
   ·rfl
   ·have h3:=AAA h2
    rw [FN (by rfl),cond_true]
    exact ih (i+1) m (JY b l[i]).1 (by omega) (by omega)
 obtain ⟨m,hm⟩:∃ m,gas=m+l.length+1:=⟨gas - (l.length+1),by have:=gas_lt (n:=l.length+1) (by omega);omega⟩
 rw [Iu,CAG,KAU hb,Option.bind_some,hm]
 exact key l.length 0 m b (by omega) hb
theorem HAj:UY Zd=true:=Tc.2 ⟨Ag _,by rw [Zd,ofBytes_size];rfl,(by decide:(0:Int)≤0∧(0:Int)≤3),(by decide:0≤8),(by decide:(0:Int)≤0∧(0:Int)≤1000),(by decide:(0:Int)≤0∧(0:Int)≤10000),rfl⟩
theorem LAi {file:ByteArray} {a:Nat} (hs:file.size≤140737488351232) (ha:a≤file.size) {p:ByteArray×Nat} (h:Eb file a=some p):p.2=a+(frameT p.1).1.size∧p.2≤file.size:=by
 rcases XAA hs ha with h1 | ⟨v,q,_,hq,hq2,hv1,hv2,h3,_,_,h1⟩
 ·rw [h1] at h;cases h
 ·rw [h1] at h
  cases h
  have hz:(file.extract (q+4) (q+4+v.toNat)).size=v.toNat:=by rw [ByteArray.size_extract];omega
  have hin:NM ((file.extract (q+4) (q+4+v.toNat)).size:Int) 1 9000=true:=by rw [hz,WX];omega
  refine ⟨?_,h3⟩
  show q+4+v.toNat=a+(frameT (file.extract (q+4) (q+4+v.toNat))).1.size
  rw [frameT,hin,cond_true,ofBytes_size,Eh,List.length_append,List.length_append,bs_len,hz,show ((v.toNat:Nat):Int)=v by omega]
  have:(four (Ea (bs (file.extract (q+4) (q+4+v.toNat))))).length=4:=rfl
  omega
theorem MAi (k:ByteArray) {file:ByteArray} (hs:file.size≤140737488351232):∀ (j a:Nat) (i:Int),a≤file.size→0≤(ZY k i (LY j file a).1).2∧(a:Int)+(ZY k i (LY j file a).1).2≤(file.size:Int):=by
 intro j
 induction j with
 | zero=>intro a i ha;exact ⟨Int.le_refl 0,by show (a:Int)+0≤_;omega⟩
 | succ j ih=>
  intro a i ha
  rw [LY]
  cases h:Eb file a with
  | none=>exact ⟨Int.le_refl 0,by show (a:Int)+0≤_;omega⟩
  | some p=>
   obtain ⟨h1,h2⟩:=LAi hs ha h
   obtain ⟨h3,h4⟩:=ih p.2 (i+1) h2
   simp only [ZY]
   cases (RX k i p.1).2 && (PY (RX k i p.1).1).2
   ·exact ⟨Int.le_refl 0,by show (a:Int)+0≤_;omega⟩
   ·rw [cond_true]
    exact ⟨by simp only;omega,by simp only;omega⟩
theorem YAR (k file:ByteArray):0≤(AY k file).2∧(AY k file).2≤(file.size:Int):=by
 rw [AY,Cb]
 by_cases h:(file.size:Int) > 20000
 ·rw [decide_eq_true h];exact ⟨Int.le_refl 0,by show (0:Int)≤_;omega⟩
 ·rw [decide_eq_false h,cond_false]
  have h2:=MAi k (file:=file) (by omega) (file.size+1) 0 1 (Nat.zero_le _)
  exact ⟨h2.1,by have:=h2.2;show (ZY k 1 (LY (file.size+1) file 0).1).2≤_;omega⟩
theorem XAR {d:SDisk} {n:ByteArray} {B:Nat} (hf:∀ f ∈ d.fFiles,f.fText.size≤B):(CV d n).1.size≤B:=by
 rw [CV]
 cases h:Ob d.fFiles n 0 with
 | none=>exact Nat.zero_le _
 | some j=>
  have h1:=(YAJ h).2
  show ((d.fFiles.getD j BAS).fText).size≤B
  rw [getD_at (by omega)]
  exact hf _ (List.getElem_mem _)
def PX:ByteArray:=⟨#[98,111,111,107]⟩
def nNew:ByteArray:=⟨#[98,111,111,107,43]⟩
noncomputable def DZ (k:ByteArray) (d:SDisk):SBook×List SAct×Bool:=
 bif !(Mc d) || !(KZ Zd (AY k (CV d PX).1).1).2 then (Ym,[],false)
 else ((KZ Zd (AY k (CV d PX).1).1).1,(bif decide (Nb d nNew≥0) then [⟨4,nNew,⟨#[]⟩,⟨#[]⟩⟩] else [])++(bif (AY k (CV d PX).1).2 == ((CV d PX).1.size:Int) then [] else [⟨1,nNew,(CV d PX).1.extract 0 (AY k (CV d PX).1).2.toNat,⟨#[]⟩⟩,⟨2,nNew,⟨#[]⟩,⟨#[]⟩⟩,⟨3,nNew,⟨#[]⟩,PX⟩]),true)
theorem NAi (k:ByteArray):∀ (fs:List ByteArray) (i:Int),(∀ f ∈ fs,f.size≤20000)→∀ r ∈ (ZY k i fs).1,r.fNum≤9223372036854775807:=by
 intro fs
 induction fs with
 | nil=>intro i _ r hr;cases hr
 | cons f fs ih=>
  intro i hf r hr
  rw [ZY] at hr
  cases h:(RX k i f).2 && (PY (RX k i f).1).2
  ·rw [h] at hr;cases hr
  ·rw [h,cond_true] at hr
   rcases List.mem_cons.1 hr with rfl | hr
   ·have hz:=BAK k f i
    have hfz:=hf f (List.mem_cons_self ..)
    rcases WAh (t:=(RX k i f).1) (by omega) with ⟨_,h2⟩ | h2
    ·have h3:(TT (PY (RX k i f).1).1).2=true:=by rw [h2]
     rcases GAA h3 with ⟨hk,_⟩ | ⟨hk,hc⟩ | ⟨hk,_⟩ | ⟨hk,hc⟩
     ·rw [TT,hk] at h3
      simp only [show ((1:Int) == 1)=true from rfl,cond_true] at h3
      cases hc:(((PY (RX k i f).1).1.fText.size:Int) == 32 && (PY (RX k i f).1).1.fNum == 0 && IY (PY (RX k i f).1).1.fThing)
      ·rw [hc] at h3;cases h3
      ·rw [Bool.and_eq_true,Bool.and_eq_true,beq_iff_eq,beq_iff_eq] at hc;omega
     ·omega
     ·rw [TT,hk] at h3
      simp only [show ((3:Int) == 1)=false from rfl,show ((3:Int) == 2)=false from rfl,show ((3:Int) == 3)=true from rfl,cond_true,cond_false] at h3
      cases hc:((EY (PY (RX k i f).1).1.fThing).2 && HY (PY (RX k i f).1).1.fText && (PY (RX k i f).1).1.fNum == 0)
      ·rw [hc] at h3;cases h3
      ·rw [Bool.and_eq_true,beq_iff_eq] at hc;omega
     ·omega
    ·rw [h2];exact (by decide:(0:Int)≤9223372036854775807)
   ·exact ih (i+1) (fun f hf2=>hf f (List.mem_cons_of_mem _ hf2)) r hr
theorem BAc (k file:ByteArray):∀ r ∈ (AY k file).1,r.fNum≤9223372036854775807:=NAi k _ _ (EAA (file:=file)).1
theorem ZAR (k file:ByteArray):(AY k file).1.length≤20000:=Nat.le_trans (YAh k _ _) (EAA (file:=file)).2.1
theorem IAb {k:ByteArray} {d:SDisk} (hk:k.size≤900000000) (hd:d.fFiles.length≤140737488351232) (hf:∀ f ∈ d.fFiles,f.fText.size≤140737488351232):Ui k d=some (DZ k d):=by
 have hfs:(CV d PX).1.size≤140737488351232:=XAR hf
 obtain ⟨r1,r2⟩:=YAR k (CV d PX).1
 have hl:=ZAR k (CV d PX).1
 rw [Ui,EAG,CAR,Option.bind_some,DZ]
 cases Mc d
 ·rfl
 rw [FN (by rfl),show (⟨#[98,111,111,107]⟩:ByteArray)=PX from rfl,show (⟨#[98,111,111,107,43]⟩:ByteArray)=nNew from rfl,WAe hd,Option.bind_some,ZAh hk hfs,Option.bind_some,DAR,Option.bind_some,KAi (Nat.zero_le _) (by omega),Option.bind_some,XAS hd]
 cases (KZ Zd (AY k (CV d PX).1).1).2
 ·rfl
 simp only [Option.bind_some,Bool.not_true,Bool.or_self,cond_false]
 by_cases he:(AY k (CV d PX).1).2=((CV d PX).1.size:Int)
 ·rw [decide_eq_false (by omega:¬ (AY k (CV d PX).1).2<((CV d PX).1.size:Int)),show ((AY k (CV d PX).1).2 == ((CV d PX).1.size:Int))=true by rw [beq_iff_eq];exact he]
  cases decide (Nb d nNew≥0) <;> rfl
 ·rw [decide_eq_true (by omega:(AY k (CV d PX).1).2<((CV d PX).1.size:Int)),show ((AY k (CV d PX).1).2 == ((CV d PX).1.size:Int))=false by rw [beq_eq_false_iff_ne];exact he,cond_true,cond_true]
  have hg:(decide (0≤(AY k (CV d PX).1).2) && decide ((AY k (CV d PX).1).2≤((CV d PX).1.size:Int)))=true:=by rw [Bool.and_eq_true,decide_eq_true_eq,decide_eq_true_eq];exact ⟨r1,r2⟩
  simp only [hg,cond_true]
  cases decide (Nb d nNew≥0) <;> rfl
def GAK (b:SBox) (i:Nat):Bool:=match KY b.fBook.fThings (b.fLives.getD i ⟨0,0⟩).fId with
 | some x=>x.fKind == 2 && (NM (b.fLives.getD i ⟨0,0⟩).fNext 0 x.fNext && (i == 0 || !decide ((b.fLives.getD (i - 1) ⟨0,0⟩).fId≥(b.fLives.getD i ⟨0,0⟩).fId)))
 | none=>false
def Qn (b:SBox):Nat→Nat→Bool
 | 0,_=>true
 | j+1,i=>GAK b i && Qn b j (i+1)
def VAJ (b:SBox):Bool:=Qn b b.fLives.length 0
theorem JAb {b:SBox} (hl:b.fLives.length≤140737488351232) (ht:b.fBook.fThings.length≤140737488351232):Wi b=some (VAJ b):=by
 have key:∀ (j i m:Nat),i+j=b.fLives.length→Ku (m+j+1) (.c0 (i:Int) b)=some (Qn b j i):=by
  intro j
  induction j with
  | zero=>
   intro i m hi
   rw [Ku];simp only [P7]
   rw [FN (by simp;omega)];rfl
  | succ j ih=>
   intro i m hi
   have hw:w64 ((i:Int)+1)=((i+1:Nat):Int):=by rw [w64_id (by omega) (by omega)];rfl
   have d1:decide ((i:Int)<(b.fLives.length:Int))=true:=decide_eq_true (by omega)
   have d0:decide ((0:Int)≤(i:Int))=true:=decide_eq_true (by omega)
   rw [show m+(j+1)+1=(m+j+1)+1 from rfl,Ku]
   simp only [P7,IAL ht,Aa,Option.bind_some,d0,d1,Bool.and_self,cond_true,Int.toNat_natCast,hw,ih (i+1) m (by omega),Qn,GAK]
   cases KY b.fBook.fThings (b.fLives.getD i ⟨0,0⟩).fId with
   | none=>rfl
   | some x=>
    simp only [bne]
    cases x.fKind == 2
    ·rfl
    cases NM (b.fLives.getD i ⟨0,0⟩).fNext 0 x.fNext
    ·rfl
    by_cases h0:i=0
    ·subst h0;rfl
    ·obtain ⟨k,rfl⟩:∃ k,i=k+1:=⟨i - 1,by omega⟩
     have hk:w64 (((k+1:Nat):Int) - 1)=(k:Int):=by rw [w64_id (by omega) (by omega)];omega
     rw [show decide (((k+1:Nat):Int) > 0)=true from decide_eq_true (by omega)]
     simp only [hk,Int.toNat_natCast,show decide ((0:Int)≤(k:Int))=true from decide_eq_true (by omega),show decide ((k:Int)<(b.fLives.length:Int))=true from decide_eq_true (by omega),Bool.and_self,cond_true,Nat.add_sub_cancel]
     cases decide ((b.fLives.getD k ⟨0,0⟩).fId≥(b.fLives.getD (k+1) ⟨0,0⟩).fId) <;> rfl
 obtain ⟨m,hm⟩:∃ m,gas=m+b.fLives.length+1:=⟨gas - (b.fLives.length+1),by have:=gas_lt (n:=b.fLives.length) (by omega);omega⟩
 rw [Wi,FAG,hm]
 exact key b.fLives.length 0 m (Nat.zero_add _)
end Go.Proofs.YthfpmhalgimbbaaGreatDoor.G
