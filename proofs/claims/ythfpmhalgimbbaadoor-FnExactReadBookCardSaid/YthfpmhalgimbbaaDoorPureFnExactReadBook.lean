/- The plain law of FnExactReadBook: whatever the arguments, it answers true. Conditions: what is read is in reach. Part 1 of 1. -/
import Derived.Test.YthfpmhalgimbbaaDoorFFnExactReadBook
import Derived.Test.YthfpmhalgimbbaaDoorOpens
import Derived.Test.YthfpmhalgimbbaaDoorPBase
namespace Go.Proofs.YthfpmhalgimbbaaDoor.G
open Go Go.Ev
set_option linter.unusedVariables false
set_option linter.unusedSimpArgs false
def FN (x a b:Int):Bool:=decide (a≤x) && decide (x≤b)
theorem SX {x a b:Int}:FN x a b=true↔a≤x∧x≤b:=by simp [FN]
theorem Ld (x a b:Int):LY x a b=some (FN x a b):=by
 show (bif decide (a≤x) then some (decide (x≤b)) else some false)=some (FN x a b)
 unfold FN;cases decide (a≤x) <;> rfl
def IK (n:Int):List Int:=if n > 127 then (128+n % 128)::IK (n / 128) else [w8 n]
termination_by n.toNat
decreasing_by omega
theorem CAC:∀ (k:Nat) (n:Int),n<128 ^ k→(IK n).length≤max k 1:=by
 intro k
 induction k with
 | zero=>intro n h;rw [IK,if_neg (by omega)];simp
 | succ k ih=>
  intro n h
  rw [IK]
  split
  ·rename_i hn
   have h2:n / 128<128 ^ k:=by
    rw [Int.pow_succ] at h
    exact Int.ediv_lt_of_lt_mul (by omega) h
   have:=ih _ h2
   simp only [List.length_cons]
   by_cases hk:k=0
   ·subst hk;simp at h2;try omega
   ·omega
  ·simp;try omega
theorem DZ {n:Int} (h:n≤9223372036854775807):(IK n).length≤10:=by
 have:=CAC 10 n (by (have:(128:Int) ^ 10=1180591620717411303424:=by decide);omega)
 omega
theorem Ya (n:Int):1≤(IK n).length:=by rw [IK];split <;> simp
theorem DAC {n:Int} (h:n > 127) (h2:n≤9223372036854775807):w64 (n.tdiv 128)=n / 128∧w8 (w64 (n.tmod 128+128))=128+n % 128∧w8 (w64 (128+n.tmod 128))=128+n % 128:=by
 have e1:n.tdiv 128=n / 128:=Int.tdiv_eq_ediv_of_nonneg (by omega)
 have e2:n.tmod 128=n % 128:=Int.tmod_eq_emod_of_nonneg (by omega)
 refine ⟨by rw [e1,w64_id (by omega) (by omega)],?_,?_⟩
 ·rw [e2,w64_id (by omega) (by omega),w8_id (by omega) (by omega)];omega
 ·rw [e2,w64_id (by omega) (by omega),w8_id (by omega) (by omega)]
theorem Md {n:Int} (h:n≤9223372036854775807):GY n=some (ofBytes (IK n)):=by
 have key:∀ (n:Int) (m:Nat) (out:List Int),n≤9223372036854775807→(IK n).length≤m→out.length+(IK n).length≤1000→Ej m (.c0 n out)=some (ofBytes (out++IK n)):=by
  intro n
  induction n using IK.induct with
  | case1 n hn ih=>
   intro m out h1 h2 h3
   rw [IK,if_pos hn] at h2 h3 ⊢
   simp only [List.length_cons] at h2 h3
   obtain ⟨m,rfl⟩:∃ k,m=k+1:=⟨m - 1,by omega⟩
   obtain ⟨e1,e2,_⟩:=DAC hn h1
   simp only [Ej,Zp,e1,e2]
   rw [show decide (n > 127)=true from decide_eq_true hn,show decide ((out.length+1)*1≤140737488355328)=true from decide_eq_true (by omega)]
   simp only [cond_true]
   rw [ih m _ (by omega) (by omega) (by simp;omega)]
   simp
  | case2 n hn=>
   intro m out h1 h2 h3
   rw [IK,if_neg hn] at h2 h3 ⊢
   simp at h2 h3
   obtain ⟨m,rfl⟩:∃ k,m=k+1:=⟨m - 1,by omega⟩
   simp only [Ej,Zp]
   rw [show decide (n > 127)=false from decide_eq_false hn,show decide ((out.length+1)*1≤140737488355328)=true from decide_eq_true (by omega)]
   rfl
 have hl:=DZ h
 exact key n gas [] h (Nat.le_of_lt (gas_lt (by omega))) (by simp;omega)
def bs (s:ByteArray):List Int:=s.data.toList.map fun b=>(b.toNat:Int)
theorem bs_len (s:ByteArray):(bs s).length=s.size:=by unfold bs;rw [List.length_map];rfl
theorem X6 {s:ByteArray} {n:Int} (h:n ∈ bs s):0≤n∧n≤255:=by
 unfold bs at h;rw [List.mem_map] at h;obtain ⟨b,_,rfl⟩:=h
 have:=b.toNat_lt;omega
theorem YX (a b:ByteArray):bs (a++b)=bs a++bs b:=by simp [bs]
theorem Gu (s:ByteArray):ofBytes (bs s)=s:=by
 cases s;simp [ofBytes,bs,Function.comp_def]
theorem EZ {s t:ByteArray} (h:bs s=bs t):s=t:=by rw [←Gu s,h,Gu]
theorem SN {l:List Int} (h:∀ n,n ∈ l→0≤n∧n≤255):bs (ofBytes l)=l:=by
 simp only [bs,ofBytes,List.map_map]
 conv=>rhs;rw [←List.map_id l]
 apply List.map_congr_left
 intro n hn
 obtain ⟨h1,h2⟩:=h n hn
 simp only [Function.comp,UInt8.toNat_ofNat',id]
 omega
theorem Hu {s:ByteArray} {i:Nat} (h:i<s.size):bt s (i:Int)=(bs s)[i]'(by rw [bs_len];exact h):=by
 simp only [bt,Int.toNat_natCast,h,dite_true,bs,List.getElem_map]
 rfl
theorem Qd (s:ByteArray) (i:Int):0≤bt s i∧bt s i≤255:=by
 unfold bt;split
 ·have:=(s[i.toNat]).toNat_lt;omega
 ·omega
theorem NY (s:ByteArray) (i j:Nat):bs (s.extract i j)=((bs s).take j).drop i:=by
 simp only [bs,ByteArray.data_extract,Array.toList_extract,List.extract_eq_take_drop,List.map_take,List.map_drop]
 rw [List.drop_take]
def pw (k:Nat):Int:=128 ^ k
theorem Td:pw 0=1:=rfl
theorem Iu (k:Nat):pw (k+1)=pw k*128:=Int.pow_succ ..
theorem Og {k:Nat} (h:k<5):pw k=1∨pw k=128∨pw k=16384∨pw k=2097152∨pw k=268435456:=by
 rcases (by omega:k=0∨k=1∨k=2∨k=3∨k=4) with rfl | rfl | rfl | rfl | rfl
 ·exact .inl rfl
 ·exact .inr (.inl rfl)
 ·exact .inr (.inr (.inl rfl))
 ·exact .inr (.inr (.inr (.inl rfl)))
 ·exact .inr (.inr (.inr (.inr rfl)))
def Za:Int×Int×Bool:=(0,0,false)
def RV (text:ByteArray) (a:Nat) (r:Int×Int×Bool):Prop:=r=Za∨∃ v:Int,∃ q:Nat,r=(v,((q:Nat):Int),true)∧0≤v∧v≤1000000000∧a<q∧q≤text.size
def At (text:ByteArray) (p:Nat) (l:List Int):Prop:=∃ rest,(bs text).drop p=l++rest
theorem At.left {text:ByteArray} {p:Nat} {l m:List Int} (h:At text p (l++m)):At text p l:=by
 obtain ⟨r,hr⟩:=h;exact ⟨m++r,by rw [hr,List.append_assoc]⟩
theorem At.right {text:ByteArray} {p:Nat} {l m:List Int} (h:At text p (l++m)):At text (p+l.length) m:=by
 obtain ⟨r,hr⟩:=h;exact ⟨r,by rw [←List.drop_drop,hr,List.append_assoc,List.drop_left]⟩
theorem At.size {text:ByteArray} {p:Nat} {l:List Int} (h:At text p l):l=[]∨p+l.length≤text.size:=by
 obtain ⟨r,hr⟩:=h
 have:=congrArg List.length hr
 rw [List.length_drop,bs_len,List.length_append] at this
 cases l with
 | nil=>exact .inl rfl
 | cons x xs=>right;simp only [List.length_cons] at this ⊢;omega
theorem At.head {text:ByteArray} {p:Nat} {x:Int} {l:List Int} (h:At text p (x::l)):p<text.size∧bt text (p:Int)=x:=by
 have hs:p+(x::l).length≤text.size:=by rcases h.size with h | h;exact absurd h (by simp);exact h
 simp only [List.length_cons] at hs
 have hp:p<text.size:=by omega
 refine ⟨hp,?_⟩
 rw [Hu hp]
 obtain ⟨r,hr⟩:=h
 have hl:p<(bs text).length:=by rw [bs_len];exact hp
 rw [List.drop_eq_getElem_cons hl] at hr
 injection hr
theorem At.tail {text:ByteArray} {p:Nat} {x:Int} {l:List Int} (h:At text p (x::l)):At text (p+1) l:=At.right (l:=[x]) h
theorem At.extract {text:ByteArray} {p:Nat} {l:List Int} (h:At text p l) (hl:∀ n,n ∈ l→0≤n∧n≤255):text.extract p (p+l.length)=ofBytes l:=by
 apply EZ
 rw [NY,SN hl]
 obtain ⟨r,hr⟩:=h
 rw [List.drop_take,hr]
 simp
theorem Cb:∀ (n:Int),0≤n→∀ x,x ∈ IK n→0≤x∧x≤255:=by
 intro n
 induction n using IK.induct with
 | case1 n hn ih=>
  intro h x hx
  rw [IK,if_pos hn] at hx
  rcases List.mem_cons.1 hx with rfl | hx
  ·omega
  ·exact ih (by omega) x hx
 | case2 n hn=>
  intro h x hx
  rw [IK,if_neg hn,w8_id h (by omega)] at hx
  rw [List.mem_singleton] at hx
  omega
theorem Yo {n:Int} (h:0≤n) (h2:n≤127):IK n=[n]:=by
 rw [IK,if_neg (by omega),w8_id h (by omega)]
theorem EAC {n:Int} (h:n≤1000000000):(IK n).length≤5:=by
 have:=CAC 5 n (by (have:(128:Int) ^ 5=34359738368:=by decide);omega)
 omega
theorem Ju {text:ByteArray} {a k m:Nat} {n s:Int} (hs:text.size≤140737488351232) (ha:a≤text.size) (hi:text.size≤a+k∨5≤k):Yb (m+1) (.c0 text a n s ((a+k:Nat):Int))=some Za:=by
 simp only [Yb,Aq]
 by_cases h:a+k<text.size
 ·rw [show decide (((a+k:Nat):Int)<(text.size:Int))=true from decide_eq_true (by omega),w64_id (n:=(a:Int)+5) (by omega) (by omega),show decide (((a+k:Nat):Int)<(a:Int)+5)=false from decide_eq_false (by omega)]
  rfl
 ·rw [show decide (((a+k:Nat):Int)<(text.size:Int))=false from decide_eq_false (by omega)]
  rfl
theorem Qe {k:Nat} {n b:Int} (hk:k<5) (h0:0≤n) (h1:n<pw k) (hb:0≤b∧b≤255) :
  (b<128→b.tmod 128=b∧w64 (b*pw k)=b*pw k∧w64 (n+b*pw k)=n+b*pw k∧0≤n+b*pw k∧n+b*pw k<pw (k+1))∧
  (¬ b<128→b.tmod 128=b - 128∧w64 ((b - 128)*pw k)=(b - 128)*pw k∧w64 (n+(b - 128)*pw k)=n+(b - 128)*pw k∧0≤n+(b - 128)*pw k∧n+(b - 128)*pw k<pw (k+1))∧w64 (pw k*128)=pw (k+1):=by
 rw [Iu]
 have e:b.tmod 128=b % 128:=Int.tmod_eq_emod_of_nonneg hb.1
 refine ⟨fun h=>?_,fun h=>?_,?_⟩
 ·have hc:0≤b*pw k∧b*pw k≤34091302912∧b*pw k≤127*pw k:=by rcases Og hk with e | e | e | e | e <;> rw [e] <;> omega
  have hp:pw k≤268435456:=by rcases Og hk with e | e | e | e | e <;> rw [e] <;> omega
  exact ⟨by rw [e];omega,w64_id (by omega) (by omega),w64_id (by omega) (by omega),by omega,by omega⟩
 ·have hc:0≤(b - 128)*pw k∧(b - 128)*pw k≤34091302912∧(b - 128)*pw k≤127*pw k:=by rcases Og hk with e | e | e | e | e <;> rw [e] <;> omega
  have hp:pw k≤268435456:=by rcases Og hk with e | e | e | e | e <;> rw [e] <;> omega
  exact ⟨by rw [e];omega,w64_id (by omega) (by omega),w64_id (by omega) (by omega),by omega,by omega⟩
 ·rcases Og hk with e | e | e | e | e <;> rw [e,w64_id (by omega) (by omega)]
theorem Ku {text:ByteArray} {a k m:Nat} {n b:Int} (hs:text.size≤140737488351232) (hk:k<5) (hi:a+k<text.size) (h0:0≤n) (h1:n<pw k) (hb:bt text ((a+k:Nat):Int)=b) :
  Yb (m+1) (.c0 text a n (pw k) ((a+k:Nat):Int))=if b<128 then (if n+b*pw k > 1000000000 then some Za else if ofBytes (IK (n+b*pw k))=text.extract a (a+k+1) then some (n+b*pw k,((a+k+1:Nat):Int),true) else some Za) else Yb m (.c0 text a (n+(b - 128)*pw k) (pw (k+1)) ((a+k+1:Nat):Int)):=by
 have hb':=Qd text ((a+k:Nat):Int)
 rw [hb] at hb'
 obtain ⟨n1,n2,n3⟩:=Qe hk h0 h1 hb'
 have hw:w64 (((a+k:Nat):Int)+1)=((a+k+1:Nat):Int):=by rw [w64_id (by omega) (by omega)];omega
 simp only [Yb,Aq,hb,w64_id (n:=b) (by omega) (by omega),n3,hw,Int.toNat_natCast]
 rw [show decide (((a+k:Nat):Int)<(text.size:Int))=true from decide_eq_true (by omega),w64_id (n:=(a:Int)+5) (by omega) (by omega),show decide (((a+k:Nat):Int)<(a:Int)+5)=true from decide_eq_true (by omega),
  show decide ((0:Int)≤((a+k:Nat):Int))=true from decide_eq_true (by omega)]
 simp only [Bool.and_self,cond_true]
 by_cases h:b<128
 ·obtain ⟨e1,e2,e3,e4,_⟩:=n1 h
  rw [if_pos h,e1,e2,e3,show decide (b<128)=true from decide_eq_true h]
  by_cases h2:n+b*pw k > 1000000000
  ·rw [if_pos h2,show decide (n+b*pw k > 1000000000)=true from decide_eq_true h2];rfl
  ·rw [if_neg h2,show decide (n+b*pw k > 1000000000)=false from decide_eq_false h2,Md (by omega)]
   simp only [cond_true,cond_false,Option.bind_some]
   rw [show decide ((0:Int)≤(a:Int))=true from decide_eq_true (by omega),show decide ((a:Int)≤((a+k+1:Nat):Int))=true from decide_eq_true (by omega),show decide (((a+k+1:Nat):Int)≤(text.size:Int))=true from decide_eq_true (by omega),toList_inj]
   by_cases h3:ofBytes (IK (n+b*pw k))=text.extract a (a+k+1)
   ·rw [if_pos h3,decide_eq_true h3];rfl
   ·rw [if_neg h3,decide_eq_false h3];rfl
 ·obtain ⟨e1,e2,e3,_,_⟩:=n2 h
  rw [if_neg h,e1,e2,e3,show decide (b<128)=false from decide_eq_false h]
  rfl
theorem MAI {text:ByteArray} {a:Nat} (hs:text.size≤140737488351232) (ha:a≤text.size):∀ j k m n,k+j=5→j<m→0≤n→n<pw k→∃ r,Yb m (.c0 text a n (pw k) ((a+k:Nat):Int))=some r∧RV text a r:=by
 intro j
 induction j with
 | zero=>
  intro k m n hk hm _ _
  obtain ⟨m,rfl⟩:∃ q,m=q+1:=⟨m - 1,by omega⟩
  exact ⟨_,Ju hs ha (.inr (by omega)),.inl rfl⟩
 | succ j ih=>
  intro k m n hk hm h0 h1
  obtain ⟨m,rfl⟩:∃ q,m=q+1:=⟨m - 1,by omega⟩
  by_cases hi:a+k<text.size
  ·have hb:=Qd text ((a+k:Nat):Int)
   generalize hbe:bt text ((a+k:Nat):Int)=b at hb
   obtain ⟨n1,n2,_⟩:=Qe (b:=b) (by omega:k<5) h0 h1 hb
   rw [Ku hs (by omega) hi h0 h1 hbe]
   split
   ·rename_i h
    split
    ·exact ⟨_,rfl,.inl rfl⟩
    ·split
     ·exact ⟨_,rfl,.inr ⟨_,_,rfl,(n1 h).2.2.2.1,by omega,by omega,by omega⟩⟩
     ·exact ⟨_,rfl,.inl rfl⟩
   ·rename_i h
    obtain ⟨_,_,_,e4,e5⟩:=n2 h
    exact ih (k+1) m _ (by omega) (by omega) e4 e5
  ·exact ⟨_,Ju hs ha (.inl (by omega)),.inl rfl⟩
theorem NAI {text:ByteArray} {a:Nat} {V:Int} (hs:text.size≤140737488351232) (hV0:0≤V) (hV:V≤1000000000) (hA:At text a (IK V)):∀ U k m n,IK U=(IK V).drop k→0≤U→n+pw k*U=V→0≤n→n<pw k→5<m+k→Yb m (.c0 text a n (pw k) ((a+k:Nat):Int))=some (V,((a+(IK V).length:Nat):Int),true):=by
 have h5:=EAC hV
 intro U
 induction U using IK.induct with
 | case1 U hU ih=>
  intro k m n e1 u0 e2 h0 h1 hm
  have hl:=congrArg List.length e1
  rw [List.length_drop] at hl
  have hp:=Ya U
  have hk:k<5:=by omega
  obtain ⟨m,rfl⟩:∃ q,m=q+1:=⟨m - 1,by omega⟩
  have hA':At text (a+k) (IK U):=by
   have:At text a ((IK V).take k++(IK V).drop k):=by rw [List.take_append_drop];exact hA
   have:=this.right
   rw [List.length_take,Nat.min_eq_left (by omega),←e1] at this
   exact this
  have e3:=e1
  rw [IK,if_pos hU] at hA' e3
  obtain ⟨hi,hb⟩:=hA'.head
  obtain ⟨n1,n2,_⟩:=Qe (b:=128+U % 128) hk h0 h1 (by omega)
  obtain ⟨_,_,_,e4,e5⟩:=n2 (by omega)
  rw [Ku hs hk hi h0 h1 hb,if_neg (by omega)]
  refine ih (k+1) m _ ?_ (by omega) ?_ e4 e5 (by omega)
  ·rw [←List.drop_drop,←e3];rfl
  ·rw [Iu]
   rcases Og hk with e | e | e | e | e <;> rw [e] at e2 ⊢ <;> omega
 | case2 U hU=>
  intro k m n e1 u0 e2 h0 h1 hm
  have hl:=congrArg List.length e1
  rw [List.length_drop] at hl
  have hp:=Ya U
  have hk:k<5:=by omega
  obtain ⟨m,rfl⟩:∃ q,m=q+1:=⟨m - 1,by omega⟩
  have hA':At text (a+k) (IK U):=by
   have:At text a ((IK V).take k++(IK V).drop k):=by rw [List.take_append_drop];exact hA
   have:=this.right
   rw [List.length_take,Nat.min_eq_left (by omega),←e1] at this
   exact this
  rw [Yo u0 (by omega)] at hA' hl
  simp only [List.length_singleton] at hl
  obtain ⟨hi,hb⟩:=hA'.head
  have e3:n+U*pw k=V:=by rw [Int.mul_comm];exact e2
  have e4:a+k+1=a+(IK V).length:=by omega
  rw [Ku hs hk hi h0 h1 hb,if_pos (by omega),e3,if_neg (by omega),e4,if_pos (hA.extract (Cb V hV0)).symm]
theorem OAI {text:ByteArray} {a:Nat} (hs:text.size≤140737488351232) (ha:a≤text.size):∃ r,ZY text a=some r∧RV text a r:=by
 simp only [ZY,Ij,Ld,Option.bind_some]
 rw [show FN (a:Int) 0 (text.size:Int)=true from SX.2 ⟨by omega,by omega⟩]
 exact MAI hs ha 5 0 gas 0 rfl (gas_lt (by omega)) (by omega) (by rw [Td];omega)
theorem Y6 {text:ByteArray} {a:Nat} {V:Int} (hs:text.size≤140737488351232) (hV0:0≤V) (hV:V≤1000000000) (hA:At text a (IK V)):ZY text a=some (V,((a+(IK V).length:Nat):Int),true):=by
 have ha:a+(IK V).length≤text.size:=by
  rcases hA.size with h | h
  ·have:=Ya V;rw [h] at this;simp at this
  ·exact h
 simp only [ZY,Ij,Ld,Option.bind_some]
 rw [show FN (a:Int) 0 (text.size:Int)=true from SX.2 ⟨by omega,by omega⟩]
 exact NAI hs hV0 hV hA V 0 gas 0 (by simp) hV0 (by rw [Td];omega) (by omega) (by rw [Td];omega) (by have:=gas_lt (n:=5) (by omega);omega)
theorem Pg {n:Int}:w32 n=n % 4294967296:=by
 simp only [w32,IntKind.wrap,IntKind.signed,IntKind.bits]
 simp
theorem FZ {n:Int} (h1:0≤n) (h2:n<4294967296):w32 n=n:=by rw [Pg];omega
def R32 (n:Int):Prop:=0≤n∧n<4294967296
theorem WY (n:Int):R32 (w32 n):=by unfold R32;rw [Pg];omega
theorem VAN {n:Int} (h:0≤n∧n≤255):R32 n:=by unfold R32;omega
def xr (x y:Int):Int:=w32 (((BitVec.toNat ((BitVec.ofInt (IntKind.bits IntKind.u32) x) ^^^ (BitVec.ofInt (IntKind.bits IntKind.u32) y))):Nat):Int)
def an (x y:Int):Int:=w32 (((BitVec.toNat ((BitVec.ofInt (IntKind.bits IntKind.u32) x) &&& (BitVec.ofInt (IntKind.bits IntKind.u32) y))):Nat):Int)
def Zo (x y:Int):Int:=w32 (((BitVec.toNat ((BitVec.ofInt (IntKind.bits IntKind.u32) x) ||| (BitVec.ofInt (IntKind.bits IntKind.u32) y))):Nat):Int)
theorem Eb (x y:Int):w32 (((BitVec.toNat ((BitVec.ofInt (IntKind.bits IntKind.u32) x) ^^^ (BitVec.ofInt (IntKind.bits IntKind.u32) y))):Nat):Int)=xr x y:=rfl
theorem D7 (x y:Int):w32 (((BitVec.toNat ((BitVec.ofInt (IntKind.bits IntKind.u32) x) &&& (BitVec.ofInt (IntKind.bits IntKind.u32) y))):Nat):Int)=an x y:=rfl
theorem FAC (x y:Int):w32 (((BitVec.toNat ((BitVec.ofInt (IntKind.bits IntKind.u32) x) ||| (BitVec.ofInt (IntKind.bits IntKind.u32) y))):Nat):Int)=Zo x y:=rfl
theorem Oi (x y:Int):R32 (xr x y):=WY _
theorem WAN (x y:Int):R32 (an x y):=WY _
theorem GAC {a b:Nat} {s:Nat} (hb:b<2 ^ s) (ha:a*2 ^ s<4294967296) (hs:b<4294967296):Zo ((a*2 ^ s:Nat):Int) (b:Int)=((a*2 ^ s+b:Nat):Int):=by
 have e:a*2 ^ s ||| b=a*2 ^ s+b:=by
  have:=Nat.shiftLeft_add_eq_or_of_lt hb a
  rw [Nat.shiftLeft_eq] at this
  exact this.symm
 unfold Zo
 have h3:a*2 ^ s ||| b<2 ^ 32:=Nat.or_lt_two_pow (by omega) (by omega)
 rw [BitVec.toNat_or]
 show w32 (((BitVec.ofInt 32 _).toNat ||| (BitVec.ofInt 32 _).toNat:Nat):Int)=_
 rw [BitVec.ofInt_natCast,BitVec.ofInt_natCast,BitVec.toNat_ofNat,BitVec.toNat_ofNat,Nat.mod_eq_of_lt (by omega),Nat.mod_eq_of_lt (by omega),e]
 rw [e] at h3
 exact FZ (by omega) (by omega)
theorem PAI {e:Int} (h:R32 e):xr (ite ((IntKind.signed IntKind.u32)=true) (-(1:Int)) (IntKind.max IntKind.u32)) e=w32 (4294967295 - e):=by
 obtain ⟨h1,h2⟩:=h
 obtain ⟨n,rfl⟩:∃ n:Nat,e=(n:Int):=⟨e.toNat,by omega⟩
 have hn:n<4294967296:=by omega
 have e1:(ite ((IntKind.signed IntKind.u32)=true) (-(1:Int)) (IntKind.max IntKind.u32))=4294967295:=by decide
 rw [e1]
 unfold xr
 show w32 (((BitVec.ofInt 32 4294967295 ^^^ BitVec.ofInt 32 (n:Int)).toNat:Nat):Int)=_
 have e2:BitVec.ofInt 32 4294967295=BitVec.allOnes 32:=by decide
 rw [e2,BitVec.ofInt_natCast,BitVec.allOnes_xor,BitVec.toNat_not,BitVec.toNat_ofNat]
 rw [Pg,Pg]
 omega
def rt (low high x:Int):Int:=x / low+x % low*high
theorem QAI {low high x:Int} (h:R32 x) (hl:0<low) (hh:0<high) (hlh:low*high=4294967296):R32 (rt low high x):=by
 unfold R32 rt at *
 have h1:0≤x / low:=Int.ediv_nonneg h.1 (by omega)
 have h2:0≤x % low:=Int.emod_nonneg _ (by omega)
 have h3:x % low<low:=Int.emod_lt_of_pos _ hl
 have h4:x / low<high:=Int.ediv_lt_of_lt_mul hl (by rw [Int.mul_comm,hlh];exact h.2)
 have h5:0≤x % low*high:=Int.mul_nonneg h2 (by omega)
 have h6:x % low*high≤(low - 1)*high:=Int.mul_le_mul_of_nonneg_right (by omega) (by omega)
 have h7:(low - 1)*high=low*high - high:=by rw [Int.sub_mul,Int.one_mul]
 omega
theorem RAI {x:Int} (h:R32 x) (n:Nat) (hn:0<n) (hn2:n<32):Zo (w32 (x*2 ^ (32 - n))) (x / 2 ^ n)=rt (2 ^ n) (2 ^ (32 - n)) x:=by
 obtain ⟨h1,h2⟩:=h
 obtain ⟨y,rfl⟩:∃ y:Nat,x=(y:Int):=⟨x.toNat,by omega⟩
 have hy:y<4294967296:=by omega
 have e0:(4294967296:Nat)=2 ^ n*2 ^ (32 - n):=by rw [←Nat.pow_add,show n+(32 - n)=32 by omega]
 have e1:w32 ((y:Int)*2 ^ (32 - n))=((y % 2 ^ n*2 ^ (32 - n):Nat):Int):=by
  rw [Pg]
  have h5:((y:Int)*2 ^ (32 - n))=((y*2 ^ (32 - n):Nat):Int):=by push_cast;rfl
  have h6:y*2 ^ (32 - n) % 4294967296=y % 2 ^ n*2 ^ (32 - n):=by rw [e0,Nat.mul_mod_mul_right]
  rw [h5,←h6]
  omega
 have e2:((y:Int) / 2 ^ n)=((y / 2 ^ n:Nat):Int):=by push_cast;rfl
 have hp:0<2 ^ n:=Nat.two_pow_pos n
 have hp2:0<2 ^ (32 - n):=Nat.two_pow_pos _
 have hm:y % 2 ^ n<2 ^ n:=Nat.mod_lt _ hp
 have hd:y / 2 ^ n<2 ^ (32 - n):=Nat.div_lt_of_lt_mul (by rw [←e0];exact hy)
 rw [e1,e2,GAC hd (by rw [e0];exact Nat.mul_lt_mul_of_pos_right hm hp2) (Nat.lt_of_le_of_lt (Nat.div_le_self _ _) hy)]
 unfold rt
 push_cast
 omega
theorem TB {α:Type} {c:Bool} {a b:α} (h:c=true):(bif c then a else b)=a:=by rw [h];rfl
theorem NM {α:Type} {c:Bool} {a b:α} (h:c=false):(bif c then a else b)=b:=by rw [h];rfl
theorem Fb {s:ByteArray} {i:Nat} (h:i<s.size):bt s (i:Int)=(bs s).getD i 0:=by rw [Hu h,getD_at]
theorem XAN {s:ByteArray} {i:Int} {j:Nat} (e:i=(j:Int)) (h:j<s.size):bt s i=(bs s).getD j 0:=by rw [e,Fb h]
theorem Ap {α:Type} {a b:List α} {i:Nat} (h:i<a.length) (d:α):(a++b).getD i d=a.getD i d:=by simp [List.getD,List.getElem?_append_left h]
theorem Qi {α:Type} {a b:List α} {i:Nat} (h:a.length≤i) (d:α):(a++b).getD i d=b.getD (i - a.length) d:=by simp [List.getD,List.getElem?_append_right h]
theorem Qg {α:Type} {a b:List α} {x y:α} {i:Nat} (h:a.length=i):(a++x::b).set i y=a++y::b:=by
 rw [List.set_append_right _ _ (by omega),h,Nat.sub_self];rfl
theorem YAN {a b:Nat} (h:a=b):Nat.beq a b=true:=by subst h;exact Nat.beq_refl _
theorem ZAN {P:Int→Prop} (n:Int) (h:0≤n) (k:∀ m:Nat,n=(m:Int)→P (m:Int)):P n:=by
 have:=k n.toNat (by omega)
 rwa [show ((n.toNat:Nat):Int)=n by omega] at this
theorem AAO:bs (⟨#[]⟩:ByteArray)=[]:=rfl
def CV (l:List Int):Prop:=∀ n,n ∈ l→0≤n∧n≤255
theorem SY {l:List Int} (h:CV l) (i:Nat):0≤l.getD i 0∧l.getD i 0≤255:=by
 by_cases hi:i<l.length
 ·rw [getD_at hi];exact h _ (List.getElem_mem hi)
 ·have:l.getD i 0=0:=by simp [List.getD,List.getElem?_eq_none (Nat.le_of_not_lt hi)]
  omega
theorem Ia (s:ByteArray):CV (bs s):=fun _ h=>X6 h
theorem Dp (s:ByteArray):bytesOf s=bs s:=rfl
theorem Ja {α:Type} {l:List α} {i:Nat} (h:i<l.length) (y d:α):(l.set i y).getD i d=y:=by simp [List.getD,h]
def Ug (s:Int):Int:=if s % 2=1 then xr (s / 2) 3558460437 else s / 2
def Vg:Nat→Int→Int
 | 0,s=>s
 | n+1,s=>Vg n (Ug s)
def Ri (s:Int) (l:List Int):Int:=l.foldl (fun s b=>Vg 8 (xr s b)) s
theorem SAI {s:Int} (h:R32 s):R32 (Ug s):=by
 unfold Ug;split
 ·exact Oi _ _
 ·unfold R32 at *;omega
theorem HAC:∀ (n:Nat) {s:Int},R32 s→R32 (Vg n s)
 | 0,_,h=>h
 | n+1,_,h=>HAC n (SAI h)
theorem IAC:∀ (l:List Int) {s:Int},R32 s→R32 (Ri s l)
 | [],_,h=>h
 | b::l,s,_=>IAC l (HAC 8 (Oi s b))
def MZ (l:List Int):Int:=Ri 4294967295 l
theorem Si (l:List Int):R32 (MZ l):=IAC l (by unfold R32;omega)
theorem TAI (t:ByteArray) (i:Nat) (hi:i<t.size) (ht:t.size≤140737488351232):∀ (j k m:Nat) (s:Int),k+j=8→R32 s→Uc (m+j+1) (.c1 s t (i:Int) (k:Int))=Uc m (.c0 (Vg j s) t ((i+1:Nat):Int)):=by
 intro j
 induction j with
 | zero=>
  intro k m s hk hs
  have e:w64 ((i:Int)+1)=((i+1:Nat):Int):=by rw [w64_id (by omega) (by omega)];rfl
  rw [Uc]
  simp only [Oh,e]
  rw [NM (by simp;omega)]
  rfl
 | succ j ih=>
  intro k m s hk hs
  have e:w64 ((k:Int)+1)=((k+1:Nat):Int):=by rw [w64_id (by omega) (by omega)];rfl
  have h2:w32 (s.tdiv 2)=s / 2:=by
   obtain ⟨h1,h2⟩:=hs
   rw [Int.tdiv_eq_ediv_of_nonneg h1,FZ (by omega) (by omega)]
  have h3:s.tmod 2=s % 2:=Int.tmod_eq_emod_of_nonneg hs.1
  rw [show m+(j+1)+1=(m+j+1)+1 by omega,Uc]
  simp only [Oh,e,h2,h3,Eb]
  rw [TB (by simp;omega),Vg]
  by_cases h:s % 2=1
  ·rw [TB (by simp [h]),ih (k+1) m _ (by omega) (Oi _ _),Ug,if_pos h]
  ·rw [NM (by simp [h]),ih (k+1) m _ (by omega) (by unfold R32 at *;omega),Ug,if_neg h]
theorem UAI {t:ByteArray} {s:Int} (ht:t.size≤140737488351232):Lj s t=some (Ri s (bs t)):=by
 have hl:=bs_len t
 have key:∀ (j i m:Nat) (s:Int),i+j=t.size→Uc (m+10*j+1) (.c0 s t (i:Int))=some (Ri s ((bs t).drop i)):=by
  intro j
  induction j with
  | zero=>
   intro i m s h
   rw [Uc]
   simp only [Oh]
   rw [NM (by simp;omega),List.drop_of_length_le (by omega)];rfl
  | succ j ih=>
   intro i m s h
   have hb:=SY (Ia t) i
   rw [show m+10*(j+1)+1=(m+10*j+1)+8+1+1 by omega,Uc]
   simp only [Oh,Eb]
   rw [TB (by simp;omega),TB (by simp;omega),Fb (by omega),FZ (by omega) (by omega)]
   have h1:=TAI t i (by omega) ht 8 0 (m+10*j+1) (xr s ((bs t).getD i 0)) (by omega) (Oi _ _)
   rw [show ((0:Nat):Int)=0 from rfl] at h1
   rw [h1,ih (i+1) m _ (by omega),drop_at (by omega:i<(bs t).length),getD_at (by omega)]
   rfl
 obtain ⟨m,hm⟩:∃ m,gas=m+10*t.size+1:=⟨gas - (10*t.size+1),by have:=gas_lt (n:=10*t.size+1) (by omega);omega⟩
 rw [Lj,Sv,hm]
 have:=key t.size 0 m s (by omega)
 rw [List.drop_zero] at this
 exact this
theorem VAI {t:ByteArray} (ht:t.size≤140737488351232):Nj t=some (MZ (bs t)):=by
 rw [Nj,Wv,UAI ht];rfl
def sg0 (x:Int):Int:=xr (xr (rt 128 33554432 x) (rt 262144 16384 x)) (x / 8)
def sg1 (x:Int):Int:=xr (xr (rt 131072 32768 x) (rt 524288 8192 x)) (x / 1024)
def ep1 (x:Int):Int:=xr (xr (rt 64 67108864 x) (rt 2048 2097152 x)) (rt 33554432 128 x)
def ep0 (x:Int):Int:=xr (xr (rt 4 1073741824 x) (rt 8192 524288 x)) (rt 4194304 1024 x)
def WAI (w:List Int) (t:Nat):Int:=w32 (w32 (w32 (sg1 (w.getD (t - 2) 0)+w.getD (t - 7) 0)+sg0 (w.getD (t - 15) 0))+w.getD (t - 16) 0)
def sched (w:List Int):Nat→List Int
 | 0=>w
 | n+1=>sched w n++[WAI (sched w n) (16+n)]
theorem Ep {w:List Int} (h:w.length=16) (n:Nat):(sched w n).length=16+n:=by
 induction n with
 | zero=>exact h
 | succ n ih=>simp [sched,ih];omega
theorem Lu {w:List Int} (h:∀ x ∈ w,R32 x) (n:Nat):∀ x ∈ sched w n,R32 x:=by
 induction n with
 | zero=>exact h
 | succ n ih=>
  intro x hx
  rw [sched,List.mem_append,List.mem_singleton] at hx
  rcases hx with hx | rfl
  ·exact ih x hx
  ·exact WY _
theorem Fp {l:List Int} (h:∀ x ∈ l,R32 x) (i:Nat):R32 (l.getD i 0):=by
 by_cases hi:i<l.length
 ·rw [getD_at hi];exact h _ (List.getElem_mem hi)
 ·have:l.getD i 0=0:=by simp [List.getD,List.getElem?_eq_none (Nat.le_of_not_lt hi)]
  rw [this];unfold R32;omega
structure Reg where
 a:Int
 b:Int
 c:Int
 d:Int
 e:Int
 f:Int
 g:Int
 h:Int
def Reg.ok (r:Reg):Prop:=R32 r.a∧R32 r.b∧R32 r.c∧R32 r.d∧R32 r.e∧R32 r.f∧R32 r.g∧R32 r.h
def Reg.l (r:Reg):List Int:=[r.a,r.b,r.c,r.d,r.e,r.f,r.g,r.h]
theorem Reg.Gp (r:Reg):r.l.length=8:=rfl
def t1 (r:Reg) (k w:Int):Int:=w32 (w32 (w32 (w32 (r.h+ep1 r.e)+xr (an r.e r.f) (an (w32 (4294967295 - r.e)) r.g))+k)+w)
def t2 (r:Reg):Int:=w32 (ep0 r.a+xr (xr (an r.a r.b) (an r.a r.c)) (an r.b r.c))
def Ib (r:Reg) (k w:Int):Reg:=⟨w32 (t1 r k w+t2 r),r.a,r.b,r.c,w32 (r.d+t1 r k w),r.e,r.f,r.g⟩
theorem XAI {r:Reg} (h:r.ok) (k w:Int):(Ib r k w).ok:=⟨WY _,h.1,h.2.1,h.2.2.1,WY _,h.2.2.2.2.1,h.2.2.2.2.2.1,h.2.2.2.2.2.2.1⟩
def JY (K W:List Int) (r:Reg):Nat→Reg
 | 0=>r
 | n+1=>Ib (JY K W r n) (K.getD n 0) (W.getD n 0)
theorem NAC (K W:List Int) {r:Reg} (h:r.ok) (n:Nat):(JY K W r n).ok:=by
 induction n with
 | zero=>exact h
 | succ n ih=>exact XAI ih _ _
def Xg (s r:Reg):Reg:=⟨w32 (s.a+r.a),w32 (s.b+r.b),w32 (s.c+r.c),w32 (s.d+r.d),w32 (s.e+r.e),w32 (s.f+r.f),w32 (s.g+r.g),w32 (s.h+r.h)⟩
theorem YAI (s r:Reg):(Xg s r).ok:=⟨WY _,WY _,WY _,WY _,WY _,WY _,WY _,WY _⟩
def keysL:List Int:=[1116352408,1899447441,3049323471,3921009573,961987163,1508970993,2453635748,2870763221,3624381080,310598401,607225278,1426881987,1925078388,2162078206,2614888103,3248222580,3835390401,4022224774,264347078,604807628,770255983,1249150122,1555081692,1996064986,2554220882,2821834349,2952996808,3210313671,3336571891,3584528711,113926993,338241895,666307205,773529912,1294757372,1396182291,1695183700,1986661051,2177026350,2456956037,2730485921,2820302411,3259730800,3345764771,3516065817,3600352804,4094571909,275423344,430227734,506948616,659060556,883997877,958139571,1322822218,1537002063,1747873779,1955562222,2024104815,2227730452,2361852424,2428436474,2756734187,3204031479,3329325298]
def be4 (a b c d:Int):Int:=a*16777216+b*65536+c*256+d
def wordAt (l:List Int) (i:Nat):Int:=be4 (l.getD (4*i) 0) (l.getD (4*i+1) 0) (l.getD (4*i+2) 0) (l.getD (4*i+3) 0)
def PX (l:List Int) (n:Nat):List Int:=(List.range n).map (wordAt l)
theorem Ud (l:List Int) (n:Nat):(PX l n).length=n:=by simp [PX]
theorem OAC (l:List Int) (n:Nat):PX l (n+1)=PX l n++[wordAt l n]:=by simp [PX,List.range_succ]
theorem ZAI {a b c d:Int} (ha:0≤a∧a≤255) (hb:0≤b∧b≤255) (hc:0≤c∧c≤255) (hd:0≤d∧d≤255):R32 (be4 a b c d):=by unfold R32 be4;omega
theorem AAJ {l:List Int} (h:CV l) (i:Nat):R32 (wordAt l i):=ZAI (SY h _) (SY h _) (SY h _) (SY h _)
theorem F7 {l:List Int} (h:CV l) (n:Nat):∀ x ∈ PX l n,R32 x:=by
 intro x hx
 simp only [PX,List.mem_map] at hx
 obtain ⟨i,_,rfl⟩:=hx
 exact AAJ h i
def comp (s:Reg) (b:List Int):Reg:=Xg s (JY keysL (sched (PX b 16) 48) s 64)
theorem PAC (s:Reg) (b:List Int):(comp s b).ok:=YAI _ _
def comps:Nat→Reg→List Int→Reg
 | 0,s,_=>s
 | n+1,s,b=>comps n (comp s (b.take 64)) (b.drop 64)
theorem Yg {s:Reg} (h:s.ok):∀ (n:Nat) (b:List Int),(comps n s b).ok:=by
 intro n
 induction n generalizing s with
 | zero=>intro b;exact h
 | succ n ih=>intro b;exact ih (PAC _ _) _
theorem QAC (n m:Nat):∀ (s:Reg) (b:List Int),comps (n+m) s b=comps m (comps n s b) (b.drop (64*n)):=by
 induction n with
 | zero=>intro s b;simp [comps]
 | succ n ih=>
  intro s b
  rw [Nat.add_right_comm,comps,comps,ih,List.drop_drop]
  congr 2
  omega
theorem BAJ (n:Nat):∀ (s:Reg) (b c:List Int),64*n≤b.length→comps n s (b++c)=comps n s b:=by
 induction n with
 | zero=>intro s b c _;rfl
 | succ n ih=>
  intro s b c h
  rw [comps,comps,List.take_append_of_le_length (by omega),List.drop_append_of_le_length (by omega),ih _ _ _ (by simp;omega)]
def four (x:Int):List Int:=[x / 16777216,x / 65536 % 256,x / 256 % 256,x % 256]
theorem Zg {x:Int} (h:R32 x):CV (four x):=by
 intro n hn
 unfold R32 at h
 simp only [four,List.mem_cons,List.not_mem_nil,or_false] at hn
 rcases hn with rfl | rfl | rfl | rfl <;> omega
def TT (ws:List Int):List Int:=ws.flatMap four
theorem Ti (ws:List Int):(TT ws).length=4*ws.length:=by
 induction ws with
 | nil=>rfl
 | cons w ws ih=>
  rw [show TT (w::ws)=four w++TT ws from rfl,List.length_append,ih]
  simp only [four,List.length_cons,List.length_nil];omega
theorem G7 {ws:List Int} (h:∀ x ∈ ws,R32 x):CV (TT ws):=by
 intro n hn
 simp only [TT,List.mem_flatMap] at hn
 obtain ⟨x,hx,hn⟩:=hn
 exact Zg (h x hx) n hn
theorem RAC (a b:List Int):TT (a++b)=TT a++TT b:=by simp [TT]
theorem CAJ {x:Int} (h:R32 x):be4 (x / 16777216) (x / 65536 % 256) (x / 256 % 256) (x % 256)=x:=by unfold R32 at h;unfold be4;omega
theorem SAC:∀ {ws:List Int} (_:∀ x ∈ ws,R32 x) {i:Nat} (hi:i<ws.length),wordAt (TT ws) i=ws[i]
 | w::ws,h,0,_=>by
  have:=CAJ (h w (List.mem_cons_self ..))
  simpa [wordAt,TT,four] using this
 | w::ws,h,i+1,hi=>by
  have ih:=SAC (ws:=ws) (fun x hx=>h x (List.mem_cons_of_mem _ hx)) (i:=i) (by simpa using hi)
  rw [List.getElem_cons_succ,←ih]
  have e:∀ j,(TT (w::ws)).getD (j+4) 0=(TT ws).getD j 0:=fun j=>by simp [TT,four,List.getD]
  unfold wordAt
  rw [show 4*(i+1)=4*i+4 by omega,show 4*i+4+1=(4*i+1)+4 by omega,show 4*i+4+2=(4*i+2)+4 by omega,show 4*i+4+3=(4*i+3)+4 by omega,e,e,e,e]
theorem DAJ {ws:List Int} (h:∀ x ∈ ws,R32 x):PX (TT ws) ws.length=ws:=by
 apply List.ext_getElem
 ·rw [Ud]
 ·intro i h1 h2
  simp only [PX,List.getElem_map,List.getElem_range]
  exact SAC h h2
theorem Reg.Ah {r:Reg} (h:r.ok):∀ x ∈ r.l,R32 x:=by
 intro x hx
 simp only [Reg.l,List.mem_cons,List.not_mem_nil,or_false] at hx
 obtain ⟨h1,h2,h3,h4,h5,h6,h7,h8⟩:=h
 rcases hx with rfl | rfl | rfl | rfl | rfl | rfl | rfl | rfl <;> assumption
def WZ:Reg:=⟨1779033703,3144134277,1013904242,2773480762,1359893119,2600822924,528734635,1541459225⟩
theorem Ue:WZ.ok:=by unfold Reg.ok R32 WZ;decide
def Jb (n:Int):List Int:=[0,0,0,n / 4294967296 % 256,n / 16777216 % 256,n / 65536 % 256,n / 256 % 256,n % 256]
def QX (n:Nat):List Int:=128::(List.replicate ((119 - n % 64) % 64) 0++Jb (8*(n:Int)))
theorem Nu (n:Nat):(QX n).length=9+(119 - n % 64) % 64:=by simp [QX,Jb];omega
theorem EAJ (n:Nat):(n+(QX n).length) % 64=0:=by rw [Nu];omega
theorem H7 (n:Nat):CV (QX n):=by
 intro x hx
 simp only [QX,Jb,List.mem_cons,List.mem_append,List.mem_replicate,List.not_mem_nil,or_false] at hx
 omega
def NZ (b:List Int):List Int:=TT (comps ((b.length+(QX b.length).length) / 64) WZ (b++QX b.length)).l
def Nb (s:ByteArray):ByteArray:=ofBytes (NZ (bs s))
theorem I7 (b:List Int):(NZ b).length=32:=by rw [NZ,Ti];rfl
theorem UAC (b:List Int):CV (NZ b):=G7 (Reg.Ah (Yg Ue _ _))
theorem Bh (s:ByteArray):(Nb s).size=32:=by rw [Nb,ofBytes_size,I7]
theorem Ou (s:ByteArray):bs (Nb s)=NZ (bs s):=SN (UAC _)
theorem FAJ {x:Int} (h:R32 x):Oj x=some (ofBytes (four x)):=by
 obtain ⟨h1,h2⟩:=h
 have e1:Int.fdiv x (2 ^ (Min.min (24:Int).toNat (IntKind.bits IntKind.u32)))=x / 16777216:=Int.fdiv_eq_ediv_of_nonneg _ (by decide)
 have e2:Int.fdiv x (2 ^ (Min.min (16:Int).toNat (IntKind.bits IntKind.u32)))=x / 65536:=Int.fdiv_eq_ediv_of_nonneg _ (by decide)
 have e3:Int.fdiv x (2 ^ (Min.min (8:Int).toNat (IntKind.bits IntKind.u32)))=x / 256:=Int.fdiv_eq_ediv_of_nonneg _ (by decide)
 simp only [Oj,Yv,e1,e2,e3,w8_mod,four]
 rw [show x / 16777216 % 256=x / 16777216 by omega]
def xb (x y:Int):Int:=w8 (((BitVec.toNat ((BitVec.ofInt (IntKind.bits IntKind.u8) x) ^^^ (BitVec.ofInt (IntKind.bits IntKind.u8) y))):Nat):Int)
theorem Qu (x y:Int):w8 (((BitVec.toNat ((BitVec.ofInt (IntKind.bits IntKind.u8) x) ^^^ (BitVec.ofInt (IntKind.bits IntKind.u8) y))):Nat):Int)=xb x y:=rfl
theorem VAC (x y:Int):0≤xb x y∧xb x y≤255:=by unfold xb;rw [w8_mod];omega
theorem GAJ {x:Int} (h:0≤x∧x≤255) (y:Int):xb (xb x y) y=x:=by
 have e:∀ (a b:BitVec 8),BitVec.ofInt 8 (((a ^^^ b).toNat:Nat):Int) ^^^ b=a:=by
  intro a b
  rw [BitVec.ofInt_natCast,BitVec.ofNat_toNat,BitVec.setWidth_eq,BitVec.xor_assoc,BitVec.xor_self,BitVec.xor_zero]
 have h8:∀ (a b:BitVec 8),w8 (((a ^^^ b).toNat:Nat):Int)=(((a ^^^ b).toNat:Nat):Int):=fun a b=>by
  have:=(a ^^^ b).isLt;rw [w8_id (by omega) (by omega)]
 unfold xb
 show w8 (((BitVec.ofInt 8 (w8 (((BitVec.ofInt 8 x ^^^ BitVec.ofInt 8 y).toNat:Nat):Int)) ^^^ BitVec.ofInt 8 y).toNat:Nat):Int)=x
 rw [h8 (BitVec.ofInt 8 x),e,BitVec.toNat_ofInt,w8_mod]
 omega
def TY (x:Int) (l:List Int):List Int:=l.map fun b=>xb b x
theorem Ru (x:Int) (l:List Int):(TY x l).length=l.length:=by simp [TY]
theorem Uu (x:Int) (l:List Int):CV (TY x l):=fun n hn=>by
 simp only [TY,List.mem_map] at hn
 obtain ⟨b,_,rfl⟩:=hn
 exact VAC _ _
def ZX (k:List Int):List Int:=k++List.replicate (64 - k.length) 0
def Ob (k:List Int):List Int:=if 64<k.length then ZX (NZ k) else ZX k
theorem HAJ (k:List Int):(Ob k).length=64:=by
 unfold Ob ZX
 split
 ·rw [List.length_append,List.length_replicate,I7]
 ·rw [List.length_append,List.length_replicate];omega
def Qb (k s:List Int):List Int:=NZ (TY 92 (Ob k)++NZ (TY 54 (Ob k)++s))
def Ic (k s:ByteArray):ByteArray:=ofBytes (Qb (bs k) (bs s))
theorem Ui (k s:List Int):(Qb k s).length=32:=I7 _
theorem Ip (k s:List Int):CV (Qb k s):=UAC _
theorem WAC (k s:ByteArray):bs (Ic k s)=Qb (bs k) (bs s):=SN (Ip _ _)
theorem XAC (k s:ByteArray):(Ic k s).size=32:=by rw [Ic,ofBytes_size,Ui]
theorem IAJ {α:Type} (f:α→α) {l:List α} {i:Nat} (h:i<l.length):((l.take i).map f++l.drop i).set i (f l[i])=(l.take (i+1)).map f++l.drop (i+1):=by
 rw [drop_at h,Qg (by simp;omega),take_at h,List.map_append,List.append_assoc]
 rfl
theorem JAJ {f:Int→Int} {l:List Int} {i:Nat} (h:i<l.length):((l.take i).map f++l.drop i).getD i 0=l[i]:=by
 rw [Qi (by simp;omega)]
 simp [List.getD,Nat.min_eq_left (Nat.le_of_lt h),h]
def Jc (k v:List Int):Nat→List Int
 | 0=>[]
 | i+1=>Jc k v i++Qb k (109::(v++[(i:Int)]))
theorem Vd (k v:List Int) (i:Nat):(Jc k v i).length=32*i:=by
 induction i with
 | zero=>rfl
 | succ i ih=>rw [Jc,List.length_append,ih,Ui];omega
theorem Vu (k v:List Int) (i:Nat):CV (Jc k v i):=by
 induction i with
 | zero=>intro n hn;cases hn
 | succ i ih=>
  intro n hn
  rcases List.mem_append.1 hn with hn | hn
  ·exact ih n hn
  ·exact Ip _ _ n hn
def HY (k v:List Int) (n:Nat):List Int:=(Jc k v ((n+31) / 32)).take n
theorem Lc (k v:List Int) (n:Nat):(HY k v n).length=n:=by rw [HY,List.length_take,Vd];omega
theorem J7 (k v:List Int) (n:Nat):CV (HY k v n):=fun x hx=>Vu _ _ _ x (List.mem_of_mem_take hx)
def maskOk (num:Int) (n:Int):Bool:=FN num 0 1000000000 && FN n 0 8000
def Wi (k:ByteArray) (num:Int) (n:Int):ByteArray×Bool:=bif maskOk num n then (ofBytes (HY (bs k) (IK num) n.toNat),true) else (⟨#[]⟩,false)
theorem Dh:∀ {n:Int},0≤n→CV (IK n):=by
 intro n
 induction n using IK.induct with
 | case1 n hn ih=>
  intro h x hx
  rw [IK,if_pos hn] at hx
  rcases List.mem_cons.1 hx with rfl | hx
  ·omega
  ·exact ih (by omega) x hx
 | case2 n hn=>
  intro h x hx
  rw [IK,if_neg hn] at hx
  rw [List.mem_singleton] at hx
  subst hx
  rw [w8_mod];omega
theorem YAC (k:ByteArray) {num:Int} (hn:0≤num) (hn2:num≤1000000000) (i:Nat) (hi:i≤255) :
  Ic k (((⟨#[109]⟩:ByteArray)++ofBytes (IK num))++ofBytes [(i:Int)])=ofBytes (Qb (bs k) (109::(IK num++[(i:Int)]))):=by
 have e:bs (⟨#[109]⟩:ByteArray)=[109]:=rfl
 rw [Ic,YX,YX,SN (Dh hn),e,SN (fun x hx=>by rw [List.mem_singleton] at hx;omega)]
 rfl
def RX (a b:List Int):List Int:=List.zipWith xb a b
theorem Wu {a b:List Int} (h:a.length≤b.length):(RX a b).length=a.length:=by rw [RX,List.length_zipWith];omega
theorem ZAC (a b:List Int):CV (RX a b):=by
 intro n hn
 rw [RX,List.mem_iff_getElem] at hn
 obtain ⟨i,hi,rfl⟩:=hn
 rw [List.getElem_zipWith]
 exact VAC _ _
theorem N7 {α:Type} (f:α→α→α):∀ (a b:List α),List.zipWith f a (b.take a.length)=List.zipWith f a b
 | [],_=>rfl
 | _::_,[]=>rfl
 | x::a,y::b=>by rw [List.length_cons,List.take_succ_cons,List.zipWith_cons_cons,List.zipWith_cons_cons,N7 f a b]
theorem AAD {a b:List Int} {i:Nat} (h:i<a.length) (h2:i<b.length):(List.zipWith xb (a.take i) (b.take i)++a.drop i).set i (xb a[i] (b.getD i 0))=List.zipWith xb (a.take (i+1)) (b.take (i+1))++a.drop (i+1):=by
 rw [drop_at h,Qg (by simp;omega),take_at h,take_at h2,getD_at h2,List.zipWith_append (by simp;omega),List.append_assoc]
 rfl
theorem CAD {a b:List Int} {i:Nat} (h:i<a.length) (h2:i<b.length):(List.zipWith xb (a.take i) (b.take i)++a.drop i).getD i 0=a[i]:=by
 rw [Qi (by simp;omega)]
 simp [List.getD,Nat.min_eq_left (Nat.le_of_lt h),Nat.min_eq_left (Nat.le_of_lt h2),h]
def XY (k:List Int) (num:Int) (s:List Int):List Int:=(Qb k (116::(IK num++s))).take 16
theorem O7 (k:List Int) (num:Int) (s:List Int):(XY k num s).length=16:=by rw [XY,List.length_take,Ui];rfl
theorem Jp (k:List Int) (num:Int) (s:List Int):CV (XY k num s):=fun x hx=>Ip _ _ x (List.mem_of_mem_take hx)
def GZ (k:List Int) (num:Int) (s:List Int):List Int:=RX s (HY k (IK num) s.length)++XY k num (RX s (HY k (IK num) s.length))
def BAO (k:ByteArray) (num:Int) (s:ByteArray):ByteArray×Bool:=bif maskOk num s.size then (ofBytes (GZ (bs k) num (bs s)),true) else (⟨#[]⟩,false)
def VX (k:ByteArray) (num:Int) (t:ByteArray):ByteArray×Bool:=
 bif decide ((t.size:Int)<16) || !(maskOk num ((t.size:Int) - 16)) then (⟨#[]⟩,false)
 else bif XY (bs k) num ((bs t).take (t.size - 16)) == (bs t).drop (t.size - 16) then (ofBytes (RX ((bs t).take (t.size - 16)) (HY (bs k) (IK num) (t.size - 16))),true)
 else (⟨#[]⟩,false)
theorem DAD {num n:Int}:maskOk num n=true↔(0≤num∧num≤1000000000)∧0≤n∧n≤8000:=by rw [maskOk,Bool.and_eq_true,SX,SX]
theorem Np (a b:ByteArray):(a.toList == b.toList)=(bs a == bs b):=by
 rw [toList_inj,Bool.eq_iff_iff,decide_eq_true_eq,beq_iff_eq]
 exact ⟨fun h=>by rw [h],EZ⟩
def Eh (l:List Int):List Int:=IK (l.length:Int)++(four (MZ l)++l)
def frameT (t:ByteArray):ByteArray×Bool:=bif FN (t.size:Int) 1 9000 then (ofBytes (Eh (bs t)),true) else (⟨#[]⟩,false)
theorem P7 {l:List Int} (h:CV l):CV (Eh l):=by
 intro x hx
 rcases List.mem_append.1 hx with hx | hx
 ·exact Dh (by omega) x hx
 ·rcases List.mem_append.1 hx with hx | hx
  ·exact Zg (Si l) x hx
  ·exact h x hx
theorem EAD (t:ByteArray):(ofBytes (IK (t.size:Int))++ofBytes (four (MZ (bs t))))++t=ofBytes (Eh (bs t)):=by
 apply EZ
 rw [YX,YX,SN (Dh (by omega)),SN (Zg (Si _)),SN (P7 (Ia t)),Eh,bs_len,List.append_assoc]
theorem FAD {t:ByteArray} (h:t.size≤140737488351232):(frameT t).1.size≤t.size+14:=by
 rw [frameT]
 cases FN (t.size:Int) 1 9000
 ·exact Nat.zero_le _
 ·rw [cond_true,ofBytes_size,Eh,List.length_append,List.length_append,bs_len]
  have:(four (MZ (bs t))).length=4:=rfl
  have:=DZ (n:=(t.size:Int)) (by omega)
  omega
theorem GAD {t:ByteArray} (h:t.size≤140737488351232):Oa t=some (frameT t):=by
 rw [Oa,Zv,Ld,Option.bind_some,frameT]
 cases h1:FN (t.size:Int) 1 9000
 ·rfl
 ·rw [SX] at h1
  have:=DZ (n:=(t.size:Int)) (by omega)
  rw [NM (by rfl),Md (by omega),Option.bind_some,VAI h,Option.bind_some,FAJ (Si _),Option.bind_some,TB (by rw [ofBytes_size,ofBytes_size,decide_eq_true_eq];have:(four (MZ (bs t))).length=4:=rfl;omega)]
  rw [TB (by rw [ByteArray.size_append,ofBytes_size,ofBytes_size,decide_eq_true_eq];have:(four (MZ (bs t))).length=4:=rfl;omega),EAD,cond_true]
theorem Xd (x a b:Int):DY x a b=some (FN x a b):=by
 show (bif decide (a≤x) then some (decide (x≤b)) else some false)=some (FN x a b)
 unfold FN;cases decide (a≤x) <;> rfl
theorem KAJ {k:Nat} (h:k<5):(2:Int) ^ (Min.min (w64 (7*(k:Int))).toNat (IntKind.bits IntKind.i64))=pw k∧w64 (7*(k:Int))=7*(k:Int):=by
 refine ⟨?_,w64_id (by omega) (by omega)⟩
 rcases (by omega:k=0∨k=1∨k=2∨k=3∨k=4) with rfl | rfl | rfl | rfl | rfl <;> kernel_rfl
theorem Xu {text:ByteArray} {a k m:Nat} {n:Int} (hs:text.size≤140737488351232) (ha:a≤text.size) (hk:k≤5) (hi:text.size≤a+k∨5≤k):Dc (m+1) (.c0 text a n k)=some Za:=by
 simp only [Dc,Sr]
 by_cases h:k<5
 ·rw [show decide ((k:Int)<5)=true from decide_eq_true (by omega),w64_id (n:=(a:Int)+k) (by omega) (by omega),show decide ((a:Int)+k<(text.size:Int))=false from decide_eq_false (by omega)]
  rfl
 ·rw [show decide ((k:Int)<5)=false from decide_eq_false (by omega)]
  rfl
theorem Yu {text:ByteArray} {a k m:Nat} {n b:Int} (hs:text.size≤140737488351232) (hk:k<5) (hi:a+k<text.size) (h0:0≤n) (h1:n<pw k) (hb:bt text ((a+k:Nat):Int)=b) :
  Dc (m+1) (.c0 text a n k)=if b<128 then (if b=0∧0<k∨n+b*pw k > 1000000000 then some Za else some (n+b*pw k,((a+k+1:Nat):Int),true)) else Dc m (.c0 text a (n+(b - 128)*pw k) ((k+1:Nat):Int)):=by
 have hb':=Qd text ((a+k:Nat):Int)
 rw [hb] at hb'
 obtain ⟨n1,n2,n3⟩:=Qe hk h0 h1 hb'
 obtain ⟨p1,p2⟩:=KAJ hk
 rw [p2] at p1
 have ha:w64 ((a:Int)+(k:Int))=((a+k:Nat):Int):=by rw [w64_id (by omega) (by omega)];omega
 have hw:w64 (((a+k:Nat):Int)+1)=((a+k+1:Nat):Int):=by rw [w64_id (by omega) (by omega)];omega
 have hw2:w64 ((k:Int)+1)=((k+1:Nat):Int):=by rw [w64_id (by omega) (by omega)];omega
 simp only [Dc,Sr,ha,hb,w64_id (n:=b) (by omega) (by omega),p2,p1,hw,hw2]
 rw [show decide (((a+k:Nat):Int)<(text.size:Int))=true from decide_eq_true (by omega),show decide ((k:Int)<5)=true from decide_eq_true (by omega),show decide ((0:Int)≤7*(k:Int))=true from decide_eq_true (by omega),
  show decide ((0:Int)≤((a+k:Nat):Int))=true from decide_eq_true (by omega)]
 simp only [Bool.and_self,cond_true]
 by_cases h:b<128
 ·obtain ⟨e1,e2,e3,e4,_⟩:=n1 h
  rw [if_pos h,e1,e2,e3,show decide (b<128)=true from decide_eq_true h]
  simp only [cond_true]
  by_cases hz:b=0
  ·rw [show (b == 0)=true from beq_iff_eq.2 hz]
   by_cases hk0:0<k
   ·rw [if_pos (.inl ⟨hz,hk0⟩),show decide ((k:Int) > 0)=true from decide_eq_true (by omega)];rfl
   ·rw [show decide ((k:Int) > 0)=false from decide_eq_false (by omega)]
    by_cases h2:n+b*pw k > 1000000000
    ·rw [if_pos (.inr h2),show decide (n+b*pw k > 1000000000)=true from decide_eq_true h2];rfl
    ·rw [if_neg (by omega),show decide (n+b*pw k > 1000000000)=false from decide_eq_false h2];rfl
  ·rw [show (b == 0)=false from beq_eq_false_iff_ne.2 hz]
   by_cases h2:n+b*pw k > 1000000000
   ·rw [if_pos (.inr h2),show decide (n+b*pw k > 1000000000)=true from decide_eq_true h2];rfl
   ·rw [if_neg (by omega),show decide (n+b*pw k > 1000000000)=false from decide_eq_false h2];rfl
 ·obtain ⟨e1,e2,e3,_,_⟩:=n2 h
  rw [if_neg h,e1,e2,e3,show decide (b<128)=false from decide_eq_false h]
  rfl
theorem LAJ {text:ByteArray} {a:Nat} (hs:text.size≤140737488351232) (ha:a≤text.size):∀ j k m n,k+j=5→j<m→0≤n→n<pw k→∃ r,Dc m (.c0 text a n k)=some r∧RV text a r:=by
 intro j
 induction j with
 | zero=>
  intro k m n hk hm _ _
  obtain ⟨m,rfl⟩:∃ q,m=q+1:=⟨m - 1,by omega⟩
  exact ⟨_,Xu hs ha (by omega) (.inr (by omega)),.inl rfl⟩
 | succ j ih=>
  intro k m n hk hm h0 h1
  obtain ⟨m,rfl⟩:∃ q,m=q+1:=⟨m - 1,by omega⟩
  by_cases hi:a+k<text.size
  ·have hb:=Qd text ((a+k:Nat):Int)
   generalize hbe:bt text ((a+k:Nat):Int)=b at hb
   obtain ⟨n1,n2,_⟩:=Qe (b:=b) (by omega:k<5) h0 h1 hb
   rw [Yu hs (by omega) hi h0 h1 hbe]
   split
   ·rename_i h
    split
    ·exact ⟨_,rfl,.inl rfl⟩
    ·exact ⟨_,rfl,.inr ⟨_,_,rfl,(n1 h).2.2.2.1,by omega,by omega,by omega⟩⟩
   ·rename_i h
    obtain ⟨_,_,_,e4,e5⟩:=n2 h
    exact ih (k+1) m _ (by omega) (by omega) e4 e5
  ·exact ⟨_,Xu hs ha (by omega) (.inl (by omega)),.inl rfl⟩
theorem MAJ {text:ByteArray} {a:Nat} {V:Int} (hs:text.size≤140737488351232) (hV:V≤1000000000) (hA:At text a (IK V)):∀ U k m n,IK U=(IK V).drop k→0≤U→(0<k→0<U)→n+pw k*U=V→0≤n→n<pw k→5<m+k→Dc m (.c0 text a n k)=some (V,((a+(IK V).length:Nat):Int),true):=by
 have h5:=EAC hV
 intro U
 induction U using IK.induct with
 | case1 U hU ih=>
  intro k m n e1 u0 uz e2 h0 h1 hm
  have hl:=congrArg List.length e1
  rw [List.length_drop] at hl
  have hp:=Ya U
  have hk:k<5:=by omega
  obtain ⟨m,rfl⟩:∃ q,m=q+1:=⟨m - 1,by omega⟩
  have hA':At text (a+k) (IK U):=by
   have:At text a ((IK V).take k++(IK V).drop k):=by rw [List.take_append_drop];exact hA
   have:=this.right
   rw [List.length_take,Nat.min_eq_left (by omega),←e1] at this
   exact this
  have e3:=e1
  rw [IK,if_pos hU] at hA' e3
  obtain ⟨hi,hb⟩:=hA'.head
  obtain ⟨n1,n2,_⟩:=Qe (b:=128+U % 128) hk h0 h1 (by omega)
  obtain ⟨_,_,_,e4,e5⟩:=n2 (by omega)
  rw [Yu hs hk hi h0 h1 hb,if_neg (by omega)]
  refine ih (k+1) m _ ?_ (by omega) (fun _=>by omega) ?_ e4 e5 (by omega)
  ·rw [←List.drop_drop,←e3];rfl
  ·rw [Iu]
   rcases Og hk with e | e | e | e | e <;> rw [e] at e2 ⊢ <;> omega
 | case2 U hU=>
  intro k m n e1 u0 uz e2 h0 h1 hm
  have hl:=congrArg List.length e1
  rw [List.length_drop] at hl
  have hp:=Ya U
  have hk:k<5:=by omega
  obtain ⟨m,rfl⟩:∃ q,m=q+1:=⟨m - 1,by omega⟩
  have hA':At text (a+k) (IK U):=by
   have:At text a ((IK V).take k++(IK V).drop k):=by rw [List.take_append_drop];exact hA
   have:=this.right
   rw [List.length_take,Nat.min_eq_left (by omega),←e1] at this
   exact this
  rw [Yo u0 (by omega)] at hA' hl
  simp only [List.length_singleton] at hl
  obtain ⟨hi,hb⟩:=hA'.head
  have e3:n+U*pw k=V:=by rw [Int.mul_comm];exact e2
  have e4:a+k+1=a+(IK V).length:=by omega
  rw [Yu hs hk hi h0 h1 hb,if_pos (by omega),e3,if_neg (by omega),e4]
theorem Q7 {text:ByteArray} {a:Nat} (hs:text.size≤140737488351232) (ha:a≤text.size):∃ r,EY text a=some r∧RV text a r:=by
 simp only [EY,Ul,Xd,Option.bind_some]
 rw [show FN (a:Int) 0 (text.size:Int)=true from SX.2 ⟨by omega,by omega⟩]
 exact LAJ hs ha 5 0 gas 0 rfl (gas_lt (by omega)) (by omega) (by rw [Td];omega)
theorem Qp {text:ByteArray} {a:Nat} {V:Int} (hs:text.size≤140737488351232) (hV0:0≤V) (hV:V≤1000000000) (hA:At text a (IK V)):EY text a=some (V,((a+(IK V).length:Nat):Int),true):=by
 have ha:a+(IK V).length≤text.size:=by
  rcases hA.size with h | h
  ·have:=Ya V;rw [h] at this;simp at this
  ·exact h
 simp only [EY,Ul,Xd,Option.bind_some]
 rw [show FN (a:Int) 0 (text.size:Int)=true from SX.2 ⟨by omega,by omega⟩]
 exact MAJ hs hV hA V 0 gas 0 (by simp) hV0 (fun h=>absurd h (Nat.lt_irrefl 0)) (by rw [Td];omega) (by omega) (by rw [Td];omega) (by have:=gas_lt (n:=5) (by omega);omega)
def Zu (text:ByteArray) (a:Nat) (r:Int×Int×Bool):Prop:=r=Za∨∃ v:Int,r=(v,((a+(IK v).length:Nat):Int),true)∧0≤v∧v≤1000000000∧At text a (IK v)
theorem NAJ {text:ByteArray} {a:Nat} (hs:text.size≤140737488351232) (ha:a≤text.size):∀ j k m n,k+j=5→j<m→0≤n→n<pw k→∃ r,Yb m (.c0 text a n (pw k) ((a+k:Nat):Int))=some r∧Zu text a r:=by
 intro j
 induction j with
 | zero=>
  intro k m n hk hm _ _
  obtain ⟨m,rfl⟩:∃ q,m=q+1:=⟨m - 1,by omega⟩
  exact ⟨_,Ju hs ha (.inr (by omega)),.inl rfl⟩
 | succ j ih=>
  intro k m n hk hm h0 h1
  obtain ⟨m,rfl⟩:∃ q,m=q+1:=⟨m - 1,by omega⟩
  by_cases hi:a+k<text.size
  ·have hb:=Qd text ((a+k:Nat):Int)
   generalize hbe:bt text ((a+k:Nat):Int)=b at hb
   obtain ⟨n1,n2,_⟩:=Qe (b:=b) (by omega:k<5) h0 h1 hb
   rw [Ku hs (by omega) hi h0 h1 hbe]
   split
   ·rename_i h
    have hv0:=(n1 h).2.2.2.1
    split
    ·exact ⟨_,rfl,.inl rfl⟩
    ·split
     ·rename_i h2
      have h3:=congrArg bs h2
      rw [SN (Cb _ hv0),NY] at h3
      have hl:=congrArg List.length h3
      rw [List.length_drop,List.length_take,bs_len,Nat.min_eq_left (by omega)] at hl
      refine ⟨_,rfl,.inr ⟨_,by rw [show a+k+1=a+(IK (n+b*pw k)).length by omega],hv0,by omega,(bs text).drop (a+k+1),?_⟩⟩
      rw [h3,List.drop_take,show a+k+1=a+(a+k+1 - a) by omega,←List.drop_drop,Nat.add_sub_cancel_left,List.take_append_drop]
     ·exact ⟨_,rfl,.inl rfl⟩
   ·rename_i h
    obtain ⟨_,_,_,e4,e5⟩:=n2 h
    exact ih (k+1) m _ (by omega) (by omega) e4 e5
  ·exact ⟨_,Ju hs ha (.inl (by omega)),.inl rfl⟩
theorem IAD {text:ByteArray} {p:Nat} (hp:p<text.size) {l:List Int} (h:At text (p+1) l):At text p (bt text (p:Int)::l):=by
 obtain ⟨r,hr⟩:=h
 refine ⟨r,?_⟩
 rw [drop_at (by rw [bs_len];exact hp),hr,Hu hp]
 rfl
theorem OAJ {text:ByteArray} {a:Nat} (hs:text.size≤140737488351232) (ha:a≤text.size):∀ j k m n,k+j=5→j<m→0≤n→n<pw k→∃ r,Dc m (.c0 text a n k)=some r∧(r=Za∨∃ U:Int,r=(n+pw k*U,((a+k+(IK U).length:Nat):Int),true)∧0≤U∧(0<k→0<U)∧n+pw k*U≤1000000000∧At text (a+k) (IK U)):=by
 intro j
 induction j with
 | zero=>
  intro k m n hk hm _ _
  obtain ⟨m,rfl⟩:∃ q,m=q+1:=⟨m - 1,by omega⟩
  exact ⟨_,Xu hs ha (by omega) (.inr (by omega)),.inl rfl⟩
 | succ j ih=>
  intro k m n hk hm h0 h1
  obtain ⟨m,rfl⟩:∃ q,m=q+1:=⟨m - 1,by omega⟩
  by_cases hi:a+k<text.size
  ·have hb:=Qd text ((a+k:Nat):Int)
   generalize hbe:bt text ((a+k:Nat):Int)=b at hb
   obtain ⟨n1,n2,_⟩:=Qe (b:=b) (by omega:k<5) h0 h1 hb
   rw [Yu hs (by omega) hi h0 h1 hbe]
   split
   ·rename_i h
    split
    ·exact ⟨_,rfl,.inl rfl⟩
    ·rename_i h2
     have e1:=Yo hb.1 (by omega:b≤127)
     refine ⟨_,rfl,.inr ⟨b,by rw [e1,Int.mul_comm b (pw k)];rfl,hb.1,fun hk0=>by omega,by rw [Int.mul_comm (pw k) b];omega,?_⟩⟩
     rw [e1,←hbe]
     exact IAD hi ⟨_,rfl⟩
   ·rename_i h
    obtain ⟨_,_,_,e4,e5⟩:=n2 h
    obtain ⟨r,hr,hR⟩:=ih (k+1) m _ (by omega) (by omega) e4 e5
    refine ⟨r,hr,?_⟩
    rcases hR with hR | ⟨U,hR,hU,hU0,hUb,hA⟩
    ·exact .inl hR
    ·have hU1:=hU0 (by omega)
     have e6:IK (b - 128+128*U)=b::IK U:=by
      rw [IK,if_pos (by omega),show (b - 128+128*U) / 128=U by omega,show 128+(b - 128+128*U) % 128=b by omega]
     have e7:n+(b - 128)*pw k+pw (k+1)*U=n+pw k*(b - 128+128*U):=by
      rw [Iu,Int.mul_add,Int.mul_comm (b - 128) (pw k),←Int.mul_assoc];omega
     refine .inr ⟨b - 128+128*U,?_,by omega,fun _=>by omega,by rw [←e7];exact hUb,?_⟩
     ·rw [hR,e6,e7,List.length_cons,show a+(k+1)+(IK U).length=a+k+((IK U).length+1) by omega]
     ·rw [e6,←hbe]
      exact IAD hi hA
  ·exact ⟨_,Xu hs ha (by omega) (.inl (by omega)),.inl rfl⟩
theorem U7 {text:ByteArray} {a:Nat} (hs:text.size≤140737488351232) (ha:a≤text.size):∃ r,ZY text a=some r∧Zu text a r:=by
 simp only [ZY,Ij,Ld,Option.bind_some]
 rw [show FN (a:Int) 0 (text.size:Int)=true from SX.2 ⟨by omega,by omega⟩]
 exact NAJ hs ha 5 0 gas 0 rfl (gas_lt (by omega)) (by omega) (by rw [Td];omega)
theorem PAJ {text:ByteArray} {a:Nat} (hs:text.size≤140737488351232) (ha:a≤text.size):∃ r,EY text a=some r∧Zu text a r:=by
 simp only [EY,Ul,Xd,Option.bind_some]
 rw [show FN (a:Int) 0 (text.size:Int)=true from SX.2 ⟨by omega,by omega⟩]
 obtain ⟨r,hr,hR⟩:=OAJ hs ha 5 0 gas 0 rfl (gas_lt (by omega)) (by omega) (by rw [Td];omega)
 refine ⟨r,hr,?_⟩
 rcases hR with hR | ⟨U,hR,hU,_,hUb,hA⟩
 ·exact .inl hR
 ·rw [Td,Int.zero_add,Int.one_mul] at hR hUb
  exact .inr ⟨U,hR,hU,hUb,hA⟩
noncomputable def WX (text:ByteArray) (a:Nat):Int×Int×Bool:=(ZY text a).getD Za
theorem QAJ {text:ByteArray} {a:Nat} (hs:text.size≤140737488351232) (ha:a≤text.size):ZY text a=some (WX text a):=by
 obtain ⟨r,hr,_⟩:=U7 hs ha
 rw [WX,hr];rfl
theorem RAJ {text:ByteArray} {a:Nat} (hs:text.size≤140737488351232) (ha:a≤text.size):EY text a=some (WX text a):=by
 obtain ⟨r,hr,hR⟩:=U7 hs ha
 obtain ⟨r',hr',hR'⟩:=PAJ hs ha
 have e:WX text a=r:=by rw [WX,hr];rfl
 rw [e]
 rcases hR with rfl | ⟨v,rfl,h0,h1,hA⟩
 ·rcases hR' with rfl | ⟨v,rfl,h0,h1,hA⟩
  ·exact hr'
  ·rw [Y6 hs h0 h1 hA] at hr
   have h2:true=false:=congrArg (fun x=>(Option.getD x Za).2.2) hr
   cases h2
 ·exact Qp hs h0 h1 hA
theorem V7 {text:ByteArray} {a:Nat} (hs:text.size≤140737488351232) (ha:a≤text.size):Zu text a (WX text a):=by
 obtain ⟨r,hr,hR⟩:=U7 hs ha
 have e:WX text a=r:=by rw [WX,hr];rfl
 rw [e];exact hR
theorem CAO {text:ByteArray} {a:Nat} {V:Int} (hs:text.size≤140737488351232) (hV0:0≤V) (hV:V≤1000000000) (hA:At text a (IK V)):WX text a=(V,((a+(IK V).length:Nat):Int),true):=by
 rw [WX,Y6 hs hV0 hV hA];rfl
noncomputable def Ub (file:ByteArray) (a:Nat):Option (ByteArray×Nat):=
 bif (WX file a).2.2 && (FN (WX file a).1 1 9000 && (decide ((WX file a).1≤(file.size:Int) - (WX file a).2.1 - 4) &&
  (bs (file.extract (WX file a).2.1.toNat ((WX file a).2.1+4).toNat) == four (MZ (bs (file.extract ((WX file a).2.1+4).toNat ((WX file a).2.1+4+(WX file a).1).toNat))))))
 then some (file.extract ((WX file a).2.1+4).toNat ((WX file a).2.1+4+(WX file a).1).toNat,((WX file a).2.1+4+(WX file a).1).toNat) else none
noncomputable def KY:Nat→ByteArray→Nat→List ByteArray×Nat
 | 0,_,a=>([],a)
 | j+1,file,a=>match Ub file a with
  | none=>([],a)
  | some p=>(p.1::(KY j file p.2).1,(KY j file p.2).2)
noncomputable def XZ (file:ByteArray):List ByteArray×Int:=bif decide ((file.size:Int) > 20000) then ([],0) else ((KY (file.size+1) file 0).1,((KY (file.size+1) file 0).2:Int))
theorem X7 {file:ByteArray} {a:Nat} (hs:file.size≤140737488351232) (ha:a≤file.size):(Ub file a=none)∨∃ (v:Int) (q:Nat),WX file a=(v,(q:Int),true)∧a<q∧q=a+(IK v).length∧1≤v∧v≤9000∧q+4+v.toNat≤file.size∧At file a (IK v)∧
  bs (file.extract q (q+4))=four (MZ (bs (file.extract (q+4) (q+4+v.toNat))))∧Ub file a=some (file.extract (q+4) (q+4+v.toNat),q+4+v.toNat):=by
 rw [Ub]
 rcases V7 hs ha with h | ⟨v,h,h0,h1,hA⟩
 ·left;rw [h];rfl
 ·rw [h]
  have hp:=Ya v
  have hsz:=hA.size.resolve_left (by intro h;rw [h] at hp;simp at hp)
  generalize hq:a+(IK v).length=q at hsz
  simp only [Bool.true_and]
  cases h2:FN v 1 9000
  ·left;rfl
  ·rw [SX] at h2
   by_cases h3:v≤(file.size:Int) - (q:Int) - 4
   ·rw [decide_eq_true h3]
    have e1:((q:Int)).toNat=q:=Int.toNat_natCast q
    have e2:((q:Int)+4).toNat=q+4:=by omega
    have e3:((q:Int)+4+v).toNat=q+4+v.toNat:=by omega
    rw [e1,e2,e3]
    cases h4:(bs (file.extract q (q+4)) == four (MZ (bs (file.extract (q+4) (q+4+v.toNat)))))
    ·left;rfl
    ·right
     exact ⟨v,q,rfl,by omega,hq.symm,by omega,by omega,by omega,hA,beq_iff_eq.1 h4,rfl⟩
   ·left;rw [decide_eq_false h3];rfl
theorem Bv (f:ByteArray) {a b c:Nat} (h:a≤b) (h2:b≤c) (h3:c≤f.size):bs (f.extract a c)=bs (f.extract a b)++bs (f.extract b c):=by
 rw [NY,NY,NY,List.drop_take,List.drop_take,List.drop_take]
 rw [show (bs f).drop b=((bs f).drop a).drop (b - a) by rw [List.drop_drop];congr 1;omega]
 rw [show c - a=(b - a)+(c - b) by omega,List.take_add]
theorem SAJ {f:ByteArray} (hf:f.size≤140737488351232):Ye f=some (XZ f):=by
 rw [Ye,Aw,XZ]
 by_cases h0:20000<f.size
 ·rw [TB (by simp;omega),TB (by simp;omega)]
 ·rw [NM (by simp;omega),NM (by simp;omega)]
  have key:∀ (j a m:Nat) (out:List ByteArray),a≤f.size→f.size<a+j→out.length≤a→Fq (m+j+1) (.c0 f (a:Int) out)=some (out++(KY j f a).1,((KY j f a).2:Int)):=by
   intro j
   induction j with
   | zero=>intro a m out ha hj;omega
   | succ j ih=>
    intro a m out ha hj ho
    rw [show m+(j+1)+1=(m+j+1)+1 by omega,Fq]
    simp only [Dw,KY]
    by_cases he:a=f.size
    ·subst he
     rw [NM (by simp)]
     rcases X7 hf (Nat.le_refl _) with h | ⟨v,q,_,_,hq,h1,_,h3,_⟩
     ·rw [h,List.append_nil]
     ·omega
    ·rw [TB (by simp;omega),QAJ hf ha,Option.bind_some]
     rcases V7 hf ha with h | ⟨v,h,hv0,hv1,hA⟩
     ·rw [show Ub f a=none by rw [Ub,h];rfl,h]
      rw [List.append_nil];rfl
     ·have hp:=Ya v
      have hsz:=hA.size.resolve_left (by intro h;rw [h] at hp;simp at hp)
      have hn:=X7 hf ha
      have hex:bs (f.extract a (a+(IK v).length))=IK v:=by rw [hA.extract (Cb v hv0),SN (Cb v hv0)]
      rw [h] at hn ⊢
      generalize hq:a+(IK v).length=q at hsz hn hex
      simp only [Bool.not_true,cond_false]
      rw [w64_id (n:=(f.size:Int) - (q:Int)) (by omega) (by omega),w64_id (n:=(f.size:Int) - (q:Int) - 4) (by omega) (by omega),w64_id (n:=(q:Int)+4) (by omega) (by omega),w64_id (n:=(q:Int)+4+v) (by omega) (by omega)]
      by_cases h3:v > (f.size:Int) - (q:Int) - 4
      ·rw [TB (by simp;omega)]
       rcases hn with hn | ⟨v',q',he',_,_,_,_,h4,_⟩
       ·rw [hn,List.append_nil]
       ·simp only [Prod.mk.injEq,and_true] at he';omega
      ·have e2:((q:Int)+4).toNat=q+4:=by omega
       have e3:((q:Int)+4+v).toNat=q+4+v.toNat:=by omega
       have hxs:(f.extract (q+4) (q+4+v.toNat)).size=v.toNat:=by rw [ByteArray.size_extract];omega
       rw [NM (by simp;omega),TB (by simp;omega),e2,e3,Int.toNat_natCast,GAD (by omega),Option.bind_some,frameT,hxs]
       rcases hn with hn | ⟨v',q',he',_,_,h5,h6,h4,hA',hb,hn⟩
       ·rw [hn,List.append_nil]
        cases hr:FN ((v.toNat:Nat):Int) 1 9000
        ·rfl
        ·rw [cond_true,NM (by rfl),TB (by simp;omega)]
         rw [TB]
         rw [Bool.not_eq_true',Np,SN (P7 (Ia _)),beq_eq_false_iff_ne]
         intro hc
         rw [Eh,bs_len,hxs,show ((v.toNat:Nat):Int)=v by omega,Bv f (a:=a) (b:=q) (by omega) (by omega) (by omega),hex,Bv f (a:=q) (b:=q+4) (by omega) (by omega) (by omega)] at hc
         have hc2:=(List.append_inj (List.append_cancel_left hc) (by rw [bs_len,ByteArray.size_extract];show 4=_;omega)).1
         rw [Ub,h] at hn
         have hr':FN v 1 9000=true:=by rw [show ((v.toNat:Nat):Int)=v by omega] at hr;exact hr
         rw [hq] at hn
         simp only [hr',e2,e3,Int.toNat_natCast,←hc2,beq_self_eq_true,Bool.true_and,Bool.and_true] at hn
         rw [decide_eq_true (by omega:v≤(f.size:Int) - (q:Int) - 4)] at hn
         cases hn
       ·simp only [Prod.mk.injEq,and_true] at he'
        obtain ⟨rfl,he'⟩:=he'
        have:q=q':=by omega
        subst this
        have hr:FN ((v.toNat:Nat):Int) 1 9000=true:=by rw [SX];omega
        rw [hn,hr,cond_true,NM (by rfl),TB (by simp;omega)]
        rw [NM (by
         rw [Bool.not_eq_false',Np,SN (P7 (Ia _)),beq_iff_eq]
         rw [Eh,bs_len,hxs,show ((v.toNat:Nat):Int)=v by omega,Bv f (a:=a) (b:=q) (by omega) (by omega) (by omega),hex,Bv f (a:=q) (b:=q+4) (by omega) (by omega) (by omega),hb])]
        rw [TB (by simp;omega),show (q:Int)+4+v=((q+4+v.toNat:Nat):Int) by omega,ih (q+4+v.toNat) m _ (by omega) (by omega) (by simp;omega)]
        simp
  obtain ⟨m,hm⟩:∃ m,gas=m+(f.size+1)+1:=⟨gas - (f.size+2),by have:=gas_lt (n:=f.size+2) (by omega);omega⟩
  rw [hm,show (0:Int)=((0:Nat):Int) from rfl,key (f.size+1) 0 m [] (by omega) (by omega) (Nat.le_refl _)]
  rfl
theorem Y7 {n:Int} (h:0≤n) (h2:n≤255):Xc n=some (ofBytes [n]):=by
 have e:n.tmod 256=n:=by rw [Int.tmod_eq_emod_of_nonneg h];omega
 simp only [Xc,Ew,e]
 rw [show decide (n<0)=false from decide_eq_false (by omega),w8_id h h2]
 rfl
theorem TAJ {x:Int} (h:R32 x):[w8 (w32 (x.tdiv 16777216)),w8 ((w32 (x.tdiv 65536)).tmod 256),w8 ((w32 (x.tdiv 256)).tmod 256),w8 (x.tmod 256)]=four x:=by
 obtain ⟨h1,h2⟩:=h
 rw [Int.tdiv_eq_ediv_of_nonneg h1,Int.tdiv_eq_ediv_of_nonneg h1,Int.tdiv_eq_ediv_of_nonneg h1,Int.tmod_eq_emod_of_nonneg h1]
 rw [FZ (n:=x / 16777216) (by omega) (by omega),FZ (n:=x / 65536) (by omega) (by omega),FZ (n:=x / 256) (by omega) (by omega)]
 rw [Int.tmod_eq_emod_of_nonneg (by omega),Int.tmod_eq_emod_of_nonneg (by omega)]
 simp only [four,w8_mod,List.cons.injEq,and_true]
 omega
theorem Z7 {ws:List Int} (h:∀ x ∈ ws,R32 x) (hl:ws.length≤1000000000000):Ea ws=some (ofBytes (TT ws)):=by
 have key:=loopN (A:=Unit) (n:=ws.length) (Lp:=Sj) (st:=fun i _=>.c0 ws (i:Int) (TT (ws.take i))) (Inv:=fun _ _=>True) (out:=fun _ _=>some (ofBytes (TT ws)))
  (fun m _ _=>by
   simp only [Sj,Hq]
   rw [NM (by simp),List.take_length])
  (fun m i _ hi _=>.inr ⟨(),by
   have e:w64 ((i:Int)+1)=((i+1:Nat):Int):=by rw [w64_id (by omega) (by omega)];rfl
   simp only [Sj,Hq,e,Int.toNat_natCast]
   rw [TB (by simp;omega),TB (by simp;omega),TB (by rw [Ti,List.length_take];simp;omega)]
   rw [getD_at hi,TAJ (h _ (List.getElem_mem hi)),take_at hi,RAC]
   simp [TT],trivial,rfl⟩)
 exact key gas 0 () (Nat.zero_le _) (gas_lt (by omega)) trivial
def Yd:SHasher:=⟨ofBytes (TT WZ.l),⟨#[]⟩,0⟩
theorem UAJ:Uj=some Yd:=by
 have h:=Z7 (ws:=WZ.l) (Reg.Ah Ue) (by decide)
 have e:Gq=some WZ.l:=rfl
 simp only [Uj,Kw,e,h,Option.bind_some]
 rfl
theorem JAD {h:SHasher} (h1:h.fState.size=32) (h2:h.fRest.size<64) (h3:0≤h.fCount∧h.fCount≤1000000000) (h4:h.fCount % 64=(h.fRest.size:Int)):OZ h=some true:=by
 have e:FN h.fCount 0 1000000000=true:=by rw [SX];omega
 simp only [OZ,Nw,Ld,Option.bind_some,e]
 rw [TB (by simp;omega),TB (by simp;omega),cond_true,Int.tmod_eq_emod_of_nonneg h3.1,h4]
 simp
theorem VAJ {s:ByteArray} {i:Nat} (h:4*i+4≤s.size) (hs:s.size≤9000000000000000000):Af s ((4*i:Nat):Int)=some (wordAt (bs s) i):=by
 have hb:=Ia s
 have e1:w64 (((4*i:Nat):Int)+1)=((4*i+1:Nat):Int):=by rw [w64_id (by omega) (by omega)];rfl
 have e2:w64 (((4*i:Nat):Int)+2)=((4*i+2:Nat):Int):=by rw [w64_id (by omega) (by omega)];rfl
 have e3:w64 (((4*i:Nat):Int)+3)=((4*i+3:Nat):Int):=by rw [w64_id (by omega) (by omega)];rfl
 simp only [Af,Qw,e1,e2,e3]
 rw [TB (by simp;omega),TB (by simp;omega),TB (by simp;omega),TB (by simp;omega)]
 rw [Fb (by omega),Fb (by omega),Fb (by omega),Fb (by omega)]
 have b0:=SY hb (4*i)
 have b1:=SY hb (4*i+1)
 have b2:=SY hb (4*i+2)
 have b3:=SY hb (4*i+3)
 unfold wordAt be4
 simp only [Pg]
 congr 1
 omega
theorem KAD {s:ByteArray} (hs:s.size≤1000000000000):AZ s=some (PX (bs s) (s.size / 4)):=by
 have key:=loopN (A:=Unit) (n:=s.size / 4) (Lp:=Wj) (st:=fun i _=>.c0 s ((4*i:Nat):Int) (PX (bs s) i)) (Inv:=fun _ _=>True) (out:=fun _ _=>some (PX (bs s) (s.size / 4)))
  (fun m _ _=>by
   simp only [Wj,Kq]
   rw [w64_id (by omega) (by omega),NM (by simp;omega)])
  (fun m i _ hi _=>.inr ⟨(),by
   have e:w64 (((4*i:Nat):Int)+4)=((4*(i+1):Nat):Int):=by rw [w64_id (by omega) (by omega)];omega
   simp only [Wj,Kq,e,VAJ (s:=s) (i:=i) (by omega) (by omega),Option.bind_some,Ud,OAC]
   rw [TB (by simp;omega),TB (by simp;omega)],trivial,rfl⟩)
 exact key gas 0 () (Nat.zero_le _) (gas_lt (by omega)) trivial
theorem Mc {x low high:Int} (h:R32 x) (hl:0<low) (hh:0<high) (hlh:low*high=4294967296):Xj x low high=some (rt low high x):=by
 have hr:=QAI h hl hh hlh
 obtain ⟨h1,h2⟩:=h
 have e0:(!(low == 0))=true:=by simp;omega
 have d1:0≤x / low:=Int.ediv_nonneg h1 (by omega)
 have d2:0≤x % low*high:=Int.mul_nonneg (Int.emod_nonneg _ (by omega)) (by omega)
 unfold R32 rt at hr
 simp only [Xj,Vw,e0,cond_true,Int.tdiv_eq_ediv_of_nonneg h1,Int.tmod_eq_emod_of_nonneg h1]
 rw [FZ d1 (by omega),FZ d2 (by omega),FZ (by omega) (by omega)]
 rfl
theorem WAJ {x:Int} (h:R32 x):PZ x 131072 524288 1024 true=some (sg1 x):=by
 have e1:w32 (w32 ((2147483648:Int).tdiv 131072)*2)=32768:=by decide
 have e2:w32 (w32 ((2147483648:Int).tdiv 524288)*2)=8192:=by decide
 have e3:w32 (x.tdiv 1024)=x / 1024:=by
  obtain ⟨h1,h2⟩:=h
  rw [Int.tdiv_eq_ediv_of_nonneg h1,FZ (by omega) (by omega)]
 simp only [PZ,Vh,e1,e2,e3,Mc h (low:=131072) (high:=32768) (by omega) (by omega) (by omega),Mc h (low:=524288) (high:=8192) (by omega) (by omega) (by omega),Option.bind_some,Eb]
 rfl
theorem XAJ {x:Int} (h:R32 x):PZ x 128 262144 8 true=some (sg0 x):=by
 have e1:w32 (w32 ((2147483648:Int).tdiv 128)*2)=33554432:=by decide
 have e2:w32 (w32 ((2147483648:Int).tdiv 262144)*2)=16384:=by decide
 have e3:w32 (x.tdiv 8)=x / 8:=by
  obtain ⟨h1,h2⟩:=h
  rw [Int.tdiv_eq_ediv_of_nonneg h1,FZ (by omega) (by omega)]
 simp only [PZ,Vh,e1,e2,e3,Mc h (low:=128) (high:=33554432) (by omega) (by omega) (by omega),Mc h (low:=262144) (high:=16384) (by omega) (by omega) (by omega),Option.bind_some,Eb]
 rfl
theorem YAJ {x:Int} (h:R32 x):PZ x 64 2048 33554432 false=some (ep1 x):=by
 have e1:w32 (w32 ((2147483648:Int).tdiv 64)*2)=67108864:=by decide
 have e2:w32 (w32 ((2147483648:Int).tdiv 2048)*2)=2097152:=by decide
 have e3:w32 (w32 ((2147483648:Int).tdiv 33554432)*2)=128:=by decide
 simp only [PZ,Vh,e1,e2,e3,Mc h (low:=64) (high:=67108864) (by omega) (by omega) (by omega),Mc h (low:=2048) (high:=2097152) (by omega) (by omega) (by omega),Mc h (low:=33554432) (high:=128) (by omega) (by omega) (by omega),Option.bind_some,Eb]
 rfl
theorem ZAJ {x:Int} (h:R32 x):PZ x 4 8192 4194304 false=some (ep0 x):=by
 have e1:w32 (w32 ((2147483648:Int).tdiv 4)*2)=1073741824:=by decide
 have e2:w32 (w32 ((2147483648:Int).tdiv 8192)*2)=524288:=by decide
 have e3:w32 (w32 ((2147483648:Int).tdiv 4194304)*2)=1024:=by decide
 simp only [PZ,Vh,e1,e2,e3,Mc h (low:=4) (high:=1073741824) (by omega) (by omega) (by omega),Mc h (low:=8192) (high:=524288) (by omega) (by omega) (by omega),Mc h (low:=4194304) (high:=1024) (by omega) (by omega) (by omega),Option.bind_some,Eb]
 rfl
theorem LAD (s r:Reg):∀ i,i<8→(Xg s r).l.getD i 0=w32 (s.l.getD i 0+r.l.getD i 0)
 | 0,_=>rfl | 1,_=>rfl | 2,_=>rfl | 3,_=>rfl | 4,_=>rfl | 5,_=>rfl | 6,_=>rfl | 7,_=>rfl
 | n+8,h=>by omega
theorem DAO (n:Nat) (h:n<9223372036854775807):∃ m,gas=m+n:=⟨gas - n,by have:=gas_lt h;omega⟩
theorem AAK (s r:Reg):∀ (j i m:Nat),i+j=8→PY (m+j+1) (.c3 s.l (i:Int) r.l ((Xg s r).l.take i))=some (Xg s r).l:=by
 intro j
 induction j with
 | zero=>
  intro i m h
  obtain rfl:i=8:=by omega
  simp only [PY,Ac]
  rfl
 | succ j ih=>
  intro i m h
  have e:w64 ((i:Int)+1)=((i+1:Nat):Int):=by rw [w64_id (by omega) (by omega)];rfl
  have hl:∀ q:Reg,q.l.length=8:=fun _=>rfl
  rw [show m+(j+1)+1=(m+j+1)+1 by omega]
  simp only [PY,Ac,e,Int.toNat_natCast]
  rw [TB (by simp;omega),TB (by simp [hl];omega),TB (by simp [hl];omega),TB (by simp [hl];omega)]
  have h3:=ih (i+1) m (by omega)
  rw [take_at (by rw [hl];omega),←getD_at (by rw [hl];omega) 0,LAD _ _ _ (by omega)] at h3
  exact h3
def A8:Nat→List Int→List Int
 | 0,v=>v
 | i+1,v=>A8 i (v.set (i+1) (v.getD i 0))
theorem BAK (t o W:List Int) (k T1 T2:Int) (hk:0≤k∧k<64):∀ (i m:Nat) (v:List Int),i<8→v.length=8→PY (m+i+1) (.c2 t o k T1 T2 (i:Int) W v)=PY m (.c1 t o (k+1) W (((A8 i v).set 4 (w32 ((A8 i v).getD 4 0+T1))).set 0 (w32 (T1+T2)))):=by
 intro i
 induction i with
 | zero=>
  intro m v _ hl
  have e:w64 (k+1)=k+1:=w64_id (by omega) (by omega)
  simp only [PY,Ac,e]
  rw [NM (by simp),TB (by simp [hl]),TB (by simp [hl]),TB (by simp [hl])]
  rfl
 | succ i ih=>
  intro m v hi hl
  have e:w64 (((i+1:Nat):Int) - 1)=(i:Int):=by rw [w64_id (by omega) (by omega)];omega
  rw [show m+(i+1)+1=(m+i+1)+1 by omega]
  rw [PY]
  simp only [Ac,e,Int.toNat_natCast]
  rw [TB (by simp;try omega),TB (by simp [hl];try omega),TB (by simp [hl];try omega),ih m _ (by omega) (by simp [hl])]
  rfl
theorem CAK (t W:List Int) (r:Reg) (hr:r.ok) (hW:∀ x ∈ W,R32 x) (hWl:W.length=64) (i m:Nat) (hi:i<64) :
  PY (m+9) (.c1 t keysL (i:Int) W r.l)=PY m (.c1 t keysL ((i:Int)+1) W (Ib r (keysL.getD i 0) (W.getD i 0)).l):=by
 obtain ⟨h1,h2,h3,h4,h5,h6,h7,h8⟩:=hr
 have hk:keysL.length=64:=rfl
 have g (q:Reg):q.l.getD 0 0=q.a∧q.l.getD 1 0=q.b∧q.l.getD 2 0=q.c∧q.l.getD 4 0=q.e∧q.l.getD 5 0=q.f∧q.l.getD 6 0=q.g∧q.l.getD 7 0=q.h:=⟨rfl,rfl,rfl,rfl,rfl,rfl,rfl⟩
 obtain ⟨g0,g1,g2,g4,g5,g6,g7⟩:=g r
 have hl:r.l.length=8:=rfl
 have z4:(4:Int).toNat=4:=rfl
 have z5:(5:Int).toNat=5:=rfl
 have z6:(6:Int).toNat=6:=rfl
 have z7:(7:Int).toNat=7:=rfl
 have z0:(0:Int).toNat=0:=rfl
 have z1:(1:Int).toNat=1:=rfl
 have z2:(2:Int).toNat=2:=rfl
 rw [show m+9=(m+7+1)+1 by omega,PY]
 simp only [Ac,z0,z1,z2,z4,z5,z6,z7,g0,g1,g2,g4,g5,g6,g7,hl,hk,hWl,YAJ h5,ZAJ h1,Option.bind_some,Eb,D7,Int.toNat_natCast]
 rw [TB (by simp;omega),TB (by simp),TB (by simp),TB (by simp),TB (by simp),TB (by simp;omega),TB (by simp;omega),TB (by simp),TB (by simp),TB (by simp),TB (by simp),TB (by simp),TB (by simp),TB (by simp)]
 exact BAK t keysL W (i:Int) (t1 r (keysL.getD i 0) (W.getD i 0)) (t2 r) (by omega) 7 m r.l (by omega) rfl
theorem DAK (s:Reg) (hs:s.ok) (W:List Int) (hW:∀ x ∈ W,R32 x) (hWl:W.length=64):∀ (j i m:Nat),i+j=64→PY (m+9*j+10) (.c1 s.l keysL (i:Int) W (JY keysL W s i).l)=some (Xg s (JY keysL W s 64)).l:=by
 intro j
 induction j with
 | zero=>
  intro i m h
  obtain rfl:i=64:=by omega
  rw [show m+9*0+10=(m+8+1)+1 by omega,PY]
  simp only [Ac]
  rw [NM (by simp)]
  exact AAK s _ 8 0 m (by omega)
 | succ j ih=>
  intro i m h
  rw [show m+9*(j+1)+10=(m+9*j+10)+9 by omega,CAK s.l W _ (NAC keysL W hs i) hW hWl i _ (by omega)]
  exact ih (i+1) m (by omega)
theorem EAK (s:Reg) (hs:s.ok) (w:List Int) (hw:∀ x ∈ w,R32 x) (hwl:w.length=16):∀ (j i m:Nat),i+j=48→PY (m+9*64+10+1+j) (.c0 s.l keysL ((16+i:Nat):Int) (sched w i))=some (Xg s (JY keysL (sched w 48) s 64)).l:=by
 intro j
 induction j with
 | zero=>
  intro i m h
  obtain rfl:i=48:=by omega
  rw [show m+9*64+10+1+0=(m+9*64+10)+1 by omega,PY]
  simp only [Ac]
  rw [NM (by simp),TB (by simp [Reg.l])]
  exact DAK s hs _ (Lu hw 48) (Ep hwl 48) 64 0 m (by omega)
 | succ j ih=>
  intro i m h
  have hl:=Ep hwl i
  have hr:=Lu hw i
  have e2:w64 (((16+i:Nat):Int) - 2)=((16+i - 2:Nat):Int):=by rw [w64_id (by omega) (by omega)];omega
  have e7:w64 (((16+i:Nat):Int) - 7)=((16+i - 7:Nat):Int):=by rw [w64_id (by omega) (by omega)];omega
  have e15:w64 (((16+i:Nat):Int) - 15)=((16+i - 15:Nat):Int):=by rw [w64_id (by omega) (by omega)];omega
  have e16:w64 (((16+i:Nat):Int) - 16)=((16+i - 16:Nat):Int):=by rw [w64_id (by omega) (by omega)];omega
  have e1:w64 (((16+i:Nat):Int)+1)=((16+(i+1):Nat):Int):=by rw [w64_id (by omega) (by omega)];omega
  rw [show m+9*64+10+1+(j+1)=(m+9*64+10+1+j)+1 by omega,PY]
  simp only [Ac,e1,e2,e7,e15,e16,Int.toNat_natCast,hl,WAJ (Fp hr _),XAJ (Fp hr _),Option.bind_some]
  rw [TB (by simp;omega),TB (by simp;omega),TB (by simp;omega),TB (by simp;omega),TB (by simp;omega),TB (by simp;omega)]
  exact ih (i+1) m (by omega)
theorem MAD {s:Reg} (hs:s.ok) {b:ByteArray} (hb:b.size=64):Qa s.l keysL b=some (comp s (bs b)).l:=by
 have hr:=F7 (Ia b) 16
 obtain ⟨m,hm⟩:∃ m,gas=m+9*64+10+1+48:=⟨gas - 635,by have:=gas_lt (n:=635) (by omega);omega⟩
 have h:=EAK s hs _ hr (Ud _ 16) 48 0 m (by omega)
 have e0:((16+0:Nat):Int)=16:=rfl
 rw [e0,show sched (PX (bs b) 16) 0=PX (bs b) 16 from rfl] at h
 rw [Qa,Xw,KAD (s:=b) (by omega),Option.bind_some,hb,hm]
 exact h
theorem NAD:Zb=some keysL:=rfl
theorem FAK (b:List Int) (i:Nat):(b.take (64*i+64)).drop (64*i)=(b.drop (64*i)).take 64:=by
 rw [List.drop_take];congr 1;omega
theorem OAD (i:Nat) (s:Reg) (b:List Int):comps (i+1) s b=comp (comps i s b) ((b.drop (64*i)).take 64):=by
 rw [QAC i 1];rfl
theorem PAD {r:Reg} (h:r.ok):AZ (ofBytes (TT r.l))=some r.l:=by
 have hs:(ofBytes (TT r.l)).size=32:=by rw [ofBytes_size,Ti];rfl
 rw [KAD (by omega),hs,SN (G7 (Reg.Ah h))]
 exact congrArg some (DAJ (Reg.Ah h))
theorem GAK {s:ByteArray} (hs:s.size≤1000000000):Dk Yd s=some ⟨ofBytes (TT (comps (s.size / 64) WZ (bs s)).l),s.extract (64*(s.size / 64)) s.size,(s.size:Int)⟩:=by
 have e0:OZ Yd=some true:=JAD (by rw [Yd,ofBytes_size,Ti];rfl) (by decide) (by decide) (by decide)
 have e1:((⟨#[]⟩:ByteArray)++s)=s:=EZ (by rw [YX];rfl)
 have key:=loopN (A:=Unit) (n:=s.size / 64) (Lp:=Ak) (st:=fun i _=>.c0 s s ((64*i:Nat):Int) Yd (⟨(⟨#[]⟩:ByteArray),(⟨#[]⟩:ByteArray),(0:Int)⟩:SHasher) (comps i WZ (bs s)).l keysL) (Inv:=fun _ _=>True)
  (out:=fun _ _=>some ⟨ofBytes (TT (comps (s.size / 64) WZ (bs s)).l),s.extract (64*(s.size / 64)) s.size,(s.size:Int)⟩)
  (fun m _ _=>by
   have hw:w64 (Yd.fCount+(s.size:Int))=(s.size:Int):=by
    show w64 ((0:Int)+(s.size:Int))=_
    rw [Int.zero_add,w64_id (by omega) (by omega)]
   rw [Ak]
   simp only [Qq,hw,Int.toNat_natCast]
   rw [w64_id (by omega) (by omega),NM (by simp;omega),Z7 (Reg.Ah (Yg Ue _ _)) (by simp [Reg.l]),Option.bind_some,TB (by simp;omega)])
  (fun m i _ hi _=>.inr ⟨(),by
   have e:w64 (((64*i:Nat):Int)+64)=((64*(i+1):Nat):Int):=by rw [w64_id (by omega) (by omega)];omega
   rw [Ak]
   simp only [Qq,e,Int.toNat_natCast]
   rw [TB (by simp;omega),TB (by simp;omega),MAD (Yg Ue _ _) (by simp;omega),Option.bind_some,NY,show 64*(i+1)=64*i+64 by omega,FAK,←OAD],trivial,rfl⟩)
 rw [Dk,Zw,e0,Option.bind_some,NM (by rfl)]
 have hw:w64 (Yd.fCount+(s.size:Int))=(s.size:Int):=by
  show w64 ((0:Int)+(s.size:Int))=_
  rw [Int.zero_add,w64_id (by omega) (by omega)]
 rw [hw,NM (by simp;omega),show Yd.fState=ofBytes (TT WZ.l) from rfl,PAD Ue,Option.bind_some,NAD,Option.bind_some,show Yd.fRest=⟨#[]⟩ from rfl,e1]
 rw [TB (by (have:(⟨#[]⟩:ByteArray).size=0:=rfl);simp only [this,decide_eq_true_eq];omega)]
 exact key gas 0 () (Nat.zero_le _) (gas_lt (by omega)) trivial
def Fh (b:Int):Nat→List Int
 | 0=>[]
 | i+1=>(b / 256 ^ i % 256)::Fh b i
def Nc:Nat→Nat
 | 0=>0
 | i+1=>Nc i+(i+2)
theorem HAK (x:Int) (j:Nat):x / 256 / 256 ^ j=x / 256 ^ (j+1):=by
 rw [Int.ediv_ediv_of_nonneg (by omega)]
 congr 1
 rw [Int.pow_succ,Int.mul_comm]
theorem IAK (h:SHasher) (b:Int):∀ (j k i m:Nat) (x:Int) (t:List Int),k+j=i→i≤7→0≤x→x≤9223372036854775807→t.length≤1000→
  QY (m+j+1) (.c2 b (i:Int) x (k:Int) h t)=QY m (.c1 b ((i:Int) - 1) h (t++[x / 256 ^ j % 256])):=by
 intro j
 induction j with
 | zero=>
  intro k i m x t hk hi hx hx2 ht
  have e:w64 ((i:Int) - 1)=(i:Int) - 1:=w64_id (by omega) (by omega)
  have e2:w8 (x.tmod 256)=x % 256:=by rw [Int.tmod_eq_emod_of_nonneg hx,w8_id (by omega) (by omega)]
  rw [QY]
  simp only [Bc,e,e2]
  rw [NM (by simp;omega),TB (by simp;omega),Int.pow_zero,Int.ediv_one]
 | succ j ih=>
  intro k i m x t hk hi hx hx2 ht
  have e:w64 ((k:Int)+1)=((k+1:Nat):Int):=by rw [w64_id (by omega) (by omega)];rfl
  have e2:w64 (x.tdiv 256)=x / 256:=by rw [Int.tdiv_eq_ediv_of_nonneg hx,w64_id (by omega) (by omega)]
  rw [show m+(j+1)+1=(m+j+1)+1 by omega,QY]
  simp only [Bc,e,e2]
  rw [TB (by simp;omega),ih (k+1) i m (x / 256) t (by omega) hi (by omega) (by omega) ht,HAK]
theorem JAK (h:SHasher) (b:Int) (hb:0≤b) (hb2:b≤9223372036854775807):∀ (i m:Nat) (t:List Int),i≤8→t.length+i≤900→QY (m+Nc i) (.c1 b ((i:Int) - 1) h t)=QY m (.c1 b (-1) h (t++Fh b i)):=by
 intro i
 induction i with
 | zero=>intro m t _ _;simp [Nc,Fh]
 | succ i ih=>
  intro m t hi ht
  rw [Nc,show m+(Nc i+(i+2))=(m+Nc i)+i+1+1 by omega,QY,show ((i+1:Nat):Int) - 1=(i:Int) by omega]
  simp only [Bc]
  rw [TB (by simp),show (0:Int)=((0:Nat):Int) from rfl,IAK h b i 0 i _ b t (by omega) (by omega) hb hb2 (by omega),ih m _ (by omega) (by simp;omega)]
  simp [Fh]
theorem KAK {b:Int} (h:0≤b) (h2:b<1099511627776):Fh b 8=Jb b:=by
 simp only [Fh,Jb,List.cons.injEq,and_true]
 omega
theorem LAK (r:Reg) (hr:r.ok) (t:List Int) (ht:CV t) (n:Nat) (hn:t.length=64*n) (hn2:n≤100):∀ (j i m:Nat),i+j=n→QY (m+j+1) (.c3 ((64*i:Nat):Int) t (comps i r t).l keysL)=some (ofBytes (TT (comps n r t).l)):=by
 intro j
 induction j with
 | zero=>
  intro i m h
  obtain rfl:i=n:=by omega
  rw [QY]
  simp only [Bc]
  rw [NM (by simp;omega),Z7 (Reg.Ah (Yg hr _ _)) (by simp [Reg.l]),Option.bind_some]
 | succ j ih=>
  intro i m h
  have e:w64 (((64*i:Nat):Int)+64)=((64*(i+1):Nat):Int):=by rw [w64_id (by omega) (by omega)];omega
  have hl:((t.drop (64*i)).take (64*(i+1) - 64*i)).length=64:=by rw [List.length_take,List.length_drop];omega
  have hby:CV ((t.drop (64*i)).take (64*(i+1) - 64*i)):=fun x hx=>ht x (List.mem_of_mem_drop (List.mem_of_mem_take hx))
  rw [show m+(j+1)+1=(m+j+1)+1 by omega,QY]
  simp only [Bc,e,Int.toNat_natCast]
  rw [TB (by simp;omega),TB (by simp;omega),MAD (Yg hr _ _) (by rw [ofBytes_size,hl]),Option.bind_some,SN hby,show 64*(i+1) - 64*i=64 by omega,←OAD]
  exact ih (i+1) m (by omega)
theorem MAK (h:SHasher) (r:List Int) (hr:r.length<64):∀ (j i m:Nat),i+j=(119 - r.length) % 64→QY (m+j+1) (.c0 h (r++128::List.replicate i 0))=QY m (.c1 (w64 (8*h.fCount)) 7 h (r++128::List.replicate ((119 - r.length) % 64) 0)):=by
 intro j
 induction j with
 | zero=>
  intro i m hi
  rw [QY]
  simp only [Bc]
  rw [NM (by rw [Int.tmod_eq_emod_of_nonneg (by omega)];simp;omega),show i=(119 - r.length) % 64 by omega]
 | succ j ih=>
  intro i m hi
  rw [show m+(j+1)+1=(m+j+1)+1 by omega,QY]
  simp only [Bc]
  rw [TB (by rw [Int.tmod_eq_emod_of_nonneg (by omega)];simp;omega),TB (by simp;omega)]
  have e:(r++128::List.replicate i (0:Int))++[0]=r++128::List.replicate (i+1) 0:=by
   rw [List.replicate_succ'];simp
  rw [e]
  exact ih (i+1) m (by omega)
theorem NAK {r:Reg} (hr:r.ok) {s:ByteArray} {n:Nat} (hs:s.size=n % 64) (hn:n≤1000000000):Jk ⟨ofBytes (TT r.l),s,(n:Int)⟩=some (ofBytes (TT (comps ((s.size+(QX n).length) / 64) r (bs s++QX n)).l)):=by
 have e0:OZ ⟨ofBytes (TT r.l),s,(n:Int)⟩=some true:=JAD (by rw [ofBytes_size,Ti];rfl) (by simp only;omega) (by simp only;omega) (by simp only;omega)
 have hl:=bs_len s
 obtain ⟨m,hm⟩:∃ m,gas=((m+((s.size+(QX n).length) / 64)+1+1+Nc 8)+((119 - (bs s).length) % 64)+1):=⟨gas - (((s.size+(QX n).length) / 64)+1+1+Nc 8+((119 - (bs s).length) % 64)+1),by
  have:=gas_lt (n:=1000) (by omega)
  have h2:=Nu n
  have h3:Nc 8=44:=rfl
  omega⟩
 have hw:w64 (8*(n:Int))=8*(n:Int):=w64_id (by omega) (by omega)
 have hrep:(bs s++128::List.replicate ((119 - (bs s).length) % 64) 0)++Fh (8*(n:Int)) 8=bs s++QX n:=by
  rw [KAK (by omega) (by omega),QX,hl,hs,show (119 - n % 64) % 64=(119 - n % 64) % 64 from rfl]
  simp
 rw [Jk,Gx,e0,Option.bind_some,NM (by rfl),TB (by simp;omega),Dp,TB (by rw [hl];simp;omega),hm]
 have h0:=MAK ⟨ofBytes (TT r.l),s,(n:Int)⟩ (bs s) (by omega) ((119 - (bs s).length) % 64) 0 (m+((s.size+(QX n).length) / 64)+1+1+Nc 8) (by omega)
 rw [List.replicate_zero] at h0
 rw [h0,show (7:Int)=((8:Nat):Int) - 1 from rfl]
 simp only [hw]
 rw [JAK _ _ (by omega) (by omega) 8 _ _ (by omega) (by simp;omega),hrep,QY]
 simp only [Bc]
 rw [NM (by simp),PAD hr,Option.bind_some,NAD,Option.bind_some]
 have hb:CV (bs s++QX n):=fun x hx=>by
  rcases List.mem_append.1 hx with hx | hx
  ·exact Ia s x hx
  ·exact H7 n x hx
 have hlen:(bs s++QX n).length=64*((s.size+(QX n).length) / 64):=by
  have:=EAJ n
  rw [List.length_append,hl]
  omega
 exact LAK r hr _ hb _ hlen (by have:=Nu n;omega) ((s.size+(QX n).length) / 64) 0 m (by omega)
theorem OAK (b:List Int):comps ((b.length+(QX b.length).length) / 64) WZ (b++QX b.length)=comps ((b.length % 64+(QX b.length).length) / 64) (comps (b.length / 64) WZ b) (b.drop (64*(b.length / 64))++QX b.length):=by
 rw [show (b.length+(QX b.length).length) / 64=b.length / 64+(b.length % 64+(QX b.length).length) / 64 by omega,QAC,BAJ _ _ _ _ (by omega),List.drop_append_of_le_length (by omega)]
theorem D8 {s:ByteArray} (hs:s.size≤1000000000):Yc s=some (Nb s):=by
 have h1:(s.extract (64*(s.size / 64)) s.size).size=s.size % 64:=by simp;omega
 have h:=NAK (Yg Ue (s.size / 64) (bs s)) (s:=s.extract (64*(s.size / 64)) s.size) h1 hs
 rw [NY,h1,List.take_of_length_le (by rw [bs_len];omega)] at h
 rw [Yc,Ox,UAJ,Option.bind_some,GAK hs,Option.bind_some,h,Option.bind_some,Nb,NZ,OAK,bs_len]
theorem QAD (k:List Int) {i:Nat}:(ZX k).getD i 0=k.getD i 0:=by
 by_cases h:i<k.length
 ·rw [ZX,Ap h]
 ·rw [ZX,Qi (by omega)]
  simp only [List.getD]
  rw [List.getElem?_eq_none (by omega:k.length≤i)]
  by_cases h2:i - k.length<64 - k.length
  ·rw [List.getElem?_replicate,if_pos h2];rfl
  ·rw [List.getElem?_replicate,if_neg h2]
theorem RAD (f:Int→Int) {l:List Int} (hl:l.length=64) {i:Nat} (h:i<64) (y:Int) (hy:y=f (l.getD i 0)):((l.take i).map f++List.replicate (64 - i) 0).set i y=(l.take (i+1)).map f++List.replicate (64 - (i+1)) 0:=by
 rw [show 64 - i=(64 - (i+1))+1 by omega,List.replicate_succ,Qg (by simp;omega),take_at (by omega),hy,getD_at (by omega),List.map_append,List.append_assoc]
 rfl
theorem SAD {k:ByteArray} (hk:k.size≤64) (x:Int):Xh gas (.c0 k x (0:Int) (List.replicate (64:Int).toNat (0:Int)))=some (ofBytes (TY x (ZX (bs k)))):=by
 have hl:(ZX (bs k)).length=64:=by rw [ZX,List.length_append,List.length_replicate,bs_len];omega
 have key:=loopN (A:=Unit) (n:=64) (Lp:=Xh) (st:=fun i _=>.c0 k x (i:Int) (((ZX (bs k)).take i).map (fun b=>xb b x)++List.replicate (64 - i) 0)) (Inv:=fun _ _=>True) (out:=fun _ _=>some (ofBytes (TY x (ZX (bs k)))))
  (fun m _ _=>by
   rw [Xh]
   simp only [Rq]
   rw [NM (by simp),List.take_of_length_le (by omega),Nat.sub_self,List.replicate_zero,List.append_nil];rfl)
  (fun m i _ hi _=>.inr ⟨(),by
   have e:w64 ((i:Int)+1)=((i+1:Nat):Int):=by rw [w64_id (by omega) (by omega)];rfl
   have hlen:(((ZX (bs k)).take i).map (fun b=>xb b x)++List.replicate (64 - i) 0).length=64:=by simp [hl];omega
   have hm:(((ZX (bs k)).take i).map (fun b=>xb b x)).length=i:=by simp [hl];omega
   rw [Xh]
   simp only [Rq,e,Int.toNat_natCast,List.length_set,hlen,Qu]
   rw [TB (by simp;omega)]
   by_cases h:i<k.size
   ·rw [TB (by simp;omega),TB (by simp;omega),TB (by simp;omega),TB (by simp;omega),TB (by simp;omega),Fb h]
    rw [List.set_set,Ja (by omega)]
    rw [RAD (fun b=>xb b x) hl hi _ (by rw [QAD])]
   ·rw [NM (by simp;omega),TB (by simp;omega),TB (by simp;omega)]
    rw [Qi (by omega),hm,Nat.sub_self]
    rw [RAD (fun b=>xb b x) hl hi _ (by
     rw [QAD,show (bs k).getD i 0=0 by simp [List.getD,List.getElem?_eq_none (show (bs k).length≤i by rw [bs_len];omega)]]
     rw [show 64 - i=(63 - i)+1 by omega,List.replicate_succ];rfl)],trivial,rfl⟩)
 exact key gas 0 () (Nat.zero_le _) (gas_lt (by omega)) trivial
theorem TAD {k:ByteArray} (hk:k.size≤1000000000) (x:Int):Rk k x=some (ofBytes (TY x (Ob (bs k)))):=by
 rw [Rk,Rx]
 by_cases h:64<k.size
 ·rw [TB (by simp;omega),D8 hk,Option.bind_some,SAD (by rw [Bh];omega),Ob,if_pos (by rw [bs_len];omega),Ou]
 ·rw [NM (by simp;omega),SAD (by omega),Ob,if_neg (by rw [bs_len];omega)]
theorem UAD {k s:ByteArray} (hk:k.size≤900000000) (hs:s.size≤900000000):Ad k s=some (Ic k s):=by
 have x1:=Ru 92 (Ob (bs k))
 have x2:=Ru 54 (Ob (bs k))
 have x3:=HAJ (bs k)
 rw [Ad,Ux,TAD (by omega),Option.bind_some,TAD (by omega),Option.bind_some,TB (by rw [ofBytes_size,decide_eq_true_eq];omega)]
 rw [D8 (by rw [ByteArray.size_append,ofBytes_size];omega),Option.bind_some,TB (by rw [ofBytes_size,Bh,decide_eq_true_eq];omega),D8 (by rw [ByteArray.size_append,ofBytes_size,Bh];omega),Option.bind_some]
 rw [Nb,YX,Ou,YX,SN (Uu _ _),SN (Uu _ _),Ic,Qb]
theorem PAK {k:ByteArray} {num n:Int} (hk:k.size≤900000000):Yk k num n=some (Wi k num n):=by
 rw [Yk,Xx,Ld,Option.bind_some,Wi,maskOk]
 cases h:FN num 0 1000000000
 ·rfl
 ·rw [SX] at h
  rw [NM (by rfl),Ld,Option.bind_some]
  cases h2:FN n 0 8000
  ·rfl
  ·rw [SX] at h2
   rw [NM (by rfl),Bool.and_self,cond_true]
   have hv:=DZ (n:=num) (by omega)
   have hvb:=Dh h.1
   have key:=loopN (A:=Unit) (n:=(n.toNat+31) / 32) (Lp:=Xk) (st:=fun i _=>.c0 k num n (i:Int) (Jc (bs k) (IK num) i)) (Inv:=fun _ _=>True) (out:=fun _ _=>some (ofBytes (HY (bs k) (IK num) n.toNat),true))
    (fun m _ _=>by
     rw [Xk]
     simp only [Tq]
     rw [NM (by rw [Vd,decide_eq_false_iff_not];omega),TB (by rw [Vd];simp;omega)]
     rfl)
    (fun m i _ hi _=>.inr ⟨(),by
     have e:w64 ((i:Int)+1)=((i+1:Nat):Int):=by rw [w64_id (by omega) (by omega)];rfl
     have h9:(⟨#[109]⟩:ByteArray).size=1:=rfl
     rw [Xk]
     simp only [Tq,e]
     rw [TB (by rw [Vd,decide_eq_true_eq];omega),Md (by omega),Option.bind_some,TB (by rw [ofBytes_size,h9,decide_eq_true_eq];omega),Y7 (by omega) (by omega),Option.bind_some,TB (by rw [ByteArray.size_append,ofBytes_size,ofBytes_size,h9,decide_eq_true_eq,List.length_singleton];omega)]
     rw [UAD hk (by rw [ByteArray.size_append,ByteArray.size_append,ofBytes_size,ofBytes_size,h9,List.length_singleton];omega),Option.bind_some,YAC k h.1 h.2 i (by omega),Dp,SN (Ip _ _),TB (by rw [ofBytes_size,Ui];rfl),TB (by rw [Vd,Ui,decide_eq_true_eq];omega)]
     rfl,trivial,rfl⟩)
   exact key gas 0 () (Nat.zero_le _) (gas_lt (by omega)) trivial
theorem QAK {k s:ByteArray} {num:Int} (hk:k.size≤900000000) (hn:0≤num∧num≤1000000000) (hs:s.size≤800000000):Zk k num s=some (ofBytes (XY (bs k) num (bs s))):=by
 have hv:=DZ (n:=num) (by omega)
 have h9:(⟨#[116]⟩:ByteArray).size=1:=rfl
 have e:bs (⟨#[116]⟩:ByteArray)=[116]:=rfl
 have h16:(16:Int).toNat=16:=rfl
 rw [Zk,Zx,Md (by omega),Option.bind_some,TB (by rw [ofBytes_size,h9,decide_eq_true_eq];omega),TB (by rw [ByteArray.size_append,ofBytes_size,h9,decide_eq_true_eq];omega)]
 rw [UAD hk (by rw [ByteArray.size_append,ByteArray.size_append,ofBytes_size,h9];omega),Option.bind_some,TB (by rw [XAC];decide)]
 refine congrArg some (EZ ?_)
 rw [NY,WAC,h16,SN (Jp _ _ _),YX,YX,e,SN (Dh hn.1),XY,List.drop_zero,List.append_assoc]
 rfl
theorem RAK {a b:ByteArray} (ha:a.size≤140737488351232) (h:a.size≤b.size):Gl a b=some (ofBytes (RX (bs a) (bs b))):=by
 have hl:=bs_len a
 have hl2:=bs_len b
 have key:=loopN (A:=Unit) (n:=(bs a).length) (Lp:=Dl) (st:=fun i _=>.c0 b (i:Int) (List.zipWith xb ((bs a).take i) ((bs b).take i)++(bs a).drop i)) (Inv:=fun _ _=>True) (out:=fun _ _=>some (ofBytes (RX (bs a) (bs b))))
  (fun m _ _=>by
   rw [Dl]
   simp only [Wq]
   rw [NM (by simp;omega),List.take_length,List.drop_length,List.append_nil,RX,N7])
  (fun m i _ hi _=>.inr ⟨(),by
   have e:w64 ((i:Int)+1)=((i+1:Nat):Int):=by rw [w64_id (by omega) (by omega)];rfl
   have hlen:(List.zipWith xb ((bs a).take i) ((bs b).take i)++(bs a).drop i).length=(bs a).length:=by simp;omega
   rw [Dl]
   simp only [Wq,e,Int.toNat_natCast,hlen,Qu,CAD hi (show i<(bs b).length by omega)]
   rw [TB (by simp;omega),TB (by simp;omega),TB (by simp;omega),TB (by simp;omega),Fb (by omega),AAD hi (by omega)],trivial,rfl⟩)
 rw [Gl,Hy,TB (by simp;omega),Dp]
 exact key gas 0 () (Nat.zero_le _) (gas_lt (by omega)) trivial
theorem Gh {n:Int} (h:n≤9223372036854775807):JZ n=some (ofBytes (IK n)):=by
 have key:∀ (n:Int) (m:Nat) (out:List Int),n≤9223372036854775807→(IK n).length≤m→out.length+(IK n).length≤1000→Cm m (.c0 n out)=some (ofBytes (out++IK n)):=by
  intro n
  induction n using IK.induct with
  | case1 n hn ih=>
   intro m out h1 h2 h3
   rw [IK,if_pos hn] at h2 h3 ⊢
   simp only [List.length_cons] at h2 h3
   obtain ⟨m,rfl⟩:∃ k,m=k+1:=⟨m - 1,by omega⟩
   obtain ⟨e1,_,e2⟩:=DAC hn h1
   simp only [Cm,Zr,e1,e2]
   rw [show decide (n > 127)=true from decide_eq_true hn,show decide ((out.length+1)*1≤140737488355328)=true from decide_eq_true (by omega)]
   simp only [cond_true]
   rw [ih m _ (by omega) (by omega) (by simp;omega)]
   simp
  | case2 n hn=>
   intro m out h1 h2 h3
   rw [IK,if_neg hn] at h2 h3 ⊢
   simp at h2 h3
   obtain ⟨m,rfl⟩:∃ k,m=k+1:=⟨m - 1,by omega⟩
   simp only [Cm,Zr]
   rw [show decide (n > 127)=false from decide_eq_false hn,show decide ((out.length+1)*1≤140737488355328)=true from decide_eq_true (by omega)]
   rfl
 have hl:=DZ h
 exact key n gas [] h (Nat.le_of_lt (gas_lt (by omega))) (by simp;omega)
theorem SAK {n:Int}:Tf n=some (bif FN n 0 1000000000 then (ofBytes (IK n),true) else (⟨#[]⟩,false)):=by
 simp only [Tf,Nz,Xd,Option.bind_some]
 cases h:FN n 0 1000000000
 ·rfl
 ·rw [SX] at h
  rw [Bool.not_true,cond_false,Gh (by omega),Option.bind_some,cond_true]
theorem Ih {n:Int} (h:0≤n) (h2:n≤255):Va n=some (ofBytes [n]):=by
 simp only [Va,Oz,w8_id h h2]
theorem VAD {n:Nat} (h:n≤1000000000):Ie (n:Int)=some (ofBytes (List.replicate n 0)):=by
 simp only [Ie,Rz,Int.toNat_natCast]
 rw [TB (by simp;omega)]
theorem Dv {x:Int} (h:R32 x):CZ x=some (ofBytes (four x)):=by
 obtain ⟨h1,h2⟩:=h
 have e1:Int.fdiv x (2 ^ (Min.min (24:Int).toNat (IntKind.bits IntKind.u32)))=x / 16777216:=Int.fdiv_eq_ediv_of_nonneg _ (by decide)
 have e2:Int.fdiv x (2 ^ (Min.min (16:Int).toNat (IntKind.bits IntKind.u32)))=x / 65536:=Int.fdiv_eq_ediv_of_nonneg _ (by decide)
 have e3:Int.fdiv x (2 ^ (Min.min (8:Int).toNat (IntKind.bits IntKind.u32)))=x / 256:=Int.fdiv_eq_ediv_of_nonneg _ (by decide)
 simp only [CZ,Iz,e1,e2,e3,w8_mod,four]
 rw [show x / 16777216 % 256=x / 16777216 by omega]
theorem TAK {n:Nat} (h:n<1099511627776):Em (n:Int)=some (ofBytes (Jb (n:Int))):=by
 have e1:Int.fdiv (n:Int) (2 ^ (Min.min (32:Int).toNat (IntKind.bits IntKind.i64)))=(n:Int) / 4294967296:=Int.fdiv_eq_ediv_of_nonneg _ (by decide)
 simp only [Em,Tz,e1,Dv (WY _),Option.bind_some]
 rw [TB (by rw [ofBytes_size,ofBytes_size];simp [four])]
 congr 1
 apply EZ
 rw [YX,SN (Zg (WY _)),SN (Zg (WY _)),SN (fun x hx=>by
  simp only [Jb,List.mem_cons,List.not_mem_nil,or_false] at hx
  omega)]
 simp only [four,Jb,Pg,List.cons_append,List.nil_append,List.cons.injEq,and_true]
 omega
theorem UAK {n:Nat} (h:n≤100000000000):Gm (n:Int)=some (ofBytes (QX n)):=by
 have e1:(w64 (119 - ((n:Int).tmod 64))).tmod 64=(((119 - n % 64) % 64:Nat):Int):=by
  have a:(n:Int).tmod 64=(n:Int) % 64:=Int.tmod_eq_emod_of_nonneg (by omega)
  rw [a,w64_id (by omega) (by omega),Int.tmod_eq_emod_of_nonneg (by omega)]
  omega
 have e2:w64 (8*(n:Int))=((8*n:Nat):Int):=by rw [w64_id (by omega) (by omega)];omega
 have h0:(⟨#[128]⟩:ByteArray).size=1:=rfl
 simp only [Gm,Vz,e1,e2,VAD (n:=(119 - n % 64) % 64) (by omega),TAK (n:=8*n) (by omega),Option.bind_some]
 rw [TB (by rw [ofBytes_size];simp [h0];omega),TB (by rw [ByteArray.size_append,ofBytes_size,ofBytes_size];simp [h0,Jb];omega)]
 congr 1
 apply EZ
 have hb:CV (List.replicate ((119 - n % 64) % 64) (0:Int)):=fun x hx=>by
  have:=List.eq_of_mem_replicate hx;omega
 have hb2:CV (Jb ((8*n:Nat):Int)):=fun x hx=>by
  simp only [Jb,List.mem_cons,List.not_mem_nil,or_false] at hx
  omega
 rw [YX,YX,SN hb,SN hb2,SN (H7 n),QX]
 have e3:bs (⟨#[128]⟩:ByteArray)=[128]:=rfl
 rw [e3]
 simp
theorem VAK {x:Int} (h:R32 x) (n:Nat) (hn:0<n) (hn2:n<32) (k:Int) (hk:wu64 (((BitVec.toNat ((BitVec.ofInt (IntKind.bits IntKind.u64) (wu64 k)) &&& (BitVec.ofInt (IntKind.bits IntKind.u64) (31:Int)))):Nat):Int)=((32 - n:Nat):Int))
  (hk2:wu64 (32 - ((32 - n:Nat):Int))=(n:Int)):Jm x k=some (rt (2 ^ n) (2 ^ (32 - n)) x):=by
 have e1:Min.min ((32 - n:Nat):Int).toNat (IntKind.bits IntKind.u32)=32 - n:=by
  show Min.min ((32 - n:Nat):Int).toNat 32=_
  omega
 have e2:Min.min (n:Int).toNat (IntKind.bits IntKind.u32)=n:=by
  show Min.min (n:Int).toNat 32=_
  omega
 have e3:Int.fdiv x (2 ^ n)=x / 2 ^ n:=Int.fdiv_eq_ediv_of_nonneg _ (Int.le_of_lt (Int.pow_pos (by omega)))
 simp only [Jm,Yz,hk,hk2,e1,e2,e3]
 rw [show decide ((0:Int)≤(n:Int))=true from decide_eq_true (by omega)]
 simp only [cond_true,FAC]
 rw [RAI h n hn hn2]
theorem Oc {x:Int} (h:R32 x) (n:Nat) (hn:0<n) (hn2:n<32) (hk:wu64 (((BitVec.toNat ((BitVec.ofInt (IntKind.bits IntKind.u64) (wu64 (w64 (0 - (n:Int))))) &&& (BitVec.ofInt (IntKind.bits IntKind.u64) (31:Int)))):Nat):Int)=((32 - n:Nat):Int))
  (hk2:wu64 (32 - ((32 - n:Nat):Int))=(n:Int)):FY x (n:Int)=some (rt (2 ^ n) (2 ^ (32 - n)) x):=by
 simp only [FY,Zz,VAK h n hn hn2 _ hk hk2,Option.bind_some]
theorem WAK {x:Int} (h:R32 x):FY x 2=some (rt 4 1073741824 x):=Oc h 2 (by decide) (by decide) (by decide) (by decide)
theorem XAK {x:Int} (h:R32 x):FY x 13=some (rt 8192 524288 x):=Oc h 13 (by decide) (by decide) (by decide) (by decide)
theorem YAK {x:Int} (h:R32 x):FY x 22=some (rt 4194304 1024 x):=Oc h 22 (by decide) (by decide) (by decide) (by decide)
theorem ZAK {x:Int} (h:R32 x):FY x 6=some (rt 64 67108864 x):=Oc h 6 (by decide) (by decide) (by decide) (by decide)
theorem AAL {x:Int} (h:R32 x):FY x 11=some (rt 2048 2097152 x):=Oc h 11 (by decide) (by decide) (by decide) (by decide)
theorem BAL {x:Int} (h:R32 x):FY x 25=some (rt 33554432 128 x):=Oc h 25 (by decide) (by decide) (by decide) (by decide)
theorem CAL {x:Int} (h:R32 x):FY x 7=some (rt 128 33554432 x):=Oc h 7 (by decide) (by decide) (by decide) (by decide)
theorem DAL {x:Int} (h:R32 x):FY x 18=some (rt 262144 16384 x):=Oc h 18 (by decide) (by decide) (by decide) (by decide)
theorem EAL {x:Int} (h:R32 x):FY x 17=some (rt 131072 32768 x):=Oc h 17 (by decide) (by decide) (by decide) (by decide)
theorem FAL {x:Int} (h:R32 x):FY x 19=some (rt 524288 8192 x):=Oc h 19 (by decide) (by decide) (by decide) (by decide)
theorem GAL {a b:Int} (ha:0≤a∧a<16777216) (hb:0≤b∧b≤255):Zo (w32 (a*256)) (w32 b)=a*256+b:=by
 obtain ⟨x,rfl⟩:∃ x:Nat,a=(x:Int):=⟨a.toNat,by omega⟩
 obtain ⟨y,rfl⟩:∃ y:Nat,b=(y:Int):=⟨b.toNat,by omega⟩
 rw [FZ (by omega) (by omega),FZ (by omega) (by omega)]
 have:=GAC (a:=x) (b:=y) (s:=8) (by omega) (by omega) (by omega)
 have e:((x*2 ^ 8:Nat):Int)=(x:Int)*256:=by omega
 rw [Int.natCast_add,e] at this
 exact this
def YZ (l:List Int) (i:Nat):Nat→Int
 | 0=>0
 | k+1=>YZ l i k*256+l.getD (4*i+k) 0
theorem HAL (l:List Int) (i:Nat):YZ l i 4=wordAt l i:=by
 simp only [YZ,wordAt,be4,Nat.add_zero]
 omega
theorem IAL {l:List Int} (h:CV l) (i:Nat):∀ k,k<4→0≤YZ l i k∧YZ l i k<16777216
 | 0,_=>by simp [YZ]
 | 1,_=>by have:=SY h (4*i+0);simp only [YZ];omega
 | 2,_=>by have:=SY h (4*i+0);have:=SY h (4*i+1);simp only [YZ];omega
 | 3,_=>by have:=SY h (4*i+0);have:=SY h (4*i+1);have:=SY h (4*i+2);simp only [YZ];omega
theorem JAL {b:ByteArray} (hb:b.size=64) (v:List Int) (i:Nat) (hi:i<16):∀ (j k m:Nat),k+j=4→
  UZ (m+j+1) (.c1 b (i:Int) (i:Int) (k:Int) v (PX (bs b) i++YZ (bs b) i k::List.replicate (63 - i) 0))=UZ m (.c0 b ((i+1:Nat):Int) v (PX (bs b) (i+1)++List.replicate (63 - i) 0)):=by
 have hby:=Ia b
 intro j
 induction j with
 | zero=>
  intro k m h
  obtain rfl:k=4:=by omega
  have e:w64 ((i:Int)+1)=((i+1:Nat):Int):=by rw [w64_id (by omega) (by omega)];rfl
  rw [UZ]
  simp only [Je,e]
  rw [NM (by simp),HAL,OAC]
  simp
 | succ j ih=>
  intro k m h
  have hk:k<4:=by omega
  have hlen:(PX (bs b) i++YZ (bs b) i k::List.replicate (63 - i) 0).length=64:=by
   simp only [List.length_append,List.length_cons,List.length_replicate,Ud];omega
  have e:w64 ((k:Int)+1)=((k+1:Nat):Int):=by rw [w64_id (by omega) (by omega)];rfl
  have e4:w64 (4*(i:Int))=((4*i:Nat):Int):=by rw [w64_id (by omega) (by omega)];omega
  have e5:w64 (((4*i:Nat):Int)+(k:Int))=((4*i+k:Nat):Int):=by rw [w64_id (by omega) (by omega)];omega
  have e8:(2:Int) ^ (Min.min (8:Int).toNat (IntKind.bits IntKind.u32))=256:=by decide
  have hg:(PX (bs b) i++YZ (bs b) i k::List.replicate (63 - i) 0).getD i 0=YZ (bs b) i k:=by
   rw [Qi (by rw [Ud];omega),Ud,Nat.sub_self];rfl
  rw [show m+(j+1)+1=(m+j+1)+1 by omega,UZ]
  simp only [Je,e,e4,e5,e8,Int.toNat_natCast,hlen,hg,FAC]
  rw [TB (by simp;omega),TB (by rfl),TB (by simp;omega),TB (by simp;omega),TB (by rfl),TB (by simp;omega)]
  rw [Fb (by omega),GAL (IAL hby i k hk) (SY hby _),Qg (Ud _ i)]
  exact ih (k+1) m (by omega)
theorem KAL {b:ByteArray} (hb:b.size=64) (v:List Int):∀ (j i m:Nat),i+j=16→UZ (m+6*j+1) (.c0 b (i:Int) v (PX (bs b) i++List.replicate (64 - i) 0))=UZ m (.c2 16 v (PX (bs b) 16++List.replicate 48 0)):=by
 intro j
 induction j with
 | zero=>
  intro i m h
  obtain rfl:i=16:=by omega
  rw [UZ]
  simp only [Je]
  rw [NM (by simp)]
 | succ j ih=>
  intro i m h
  rw [show m+6*(j+1)+1=(m+6*j+1)+4+1+1 by omega,UZ]
  simp only [Je]
  rw [TB (by simp;omega)]
  have h1:=JAL hb v i (by omega) 4 0 (m+6*j+1) (by omega)
  rw [show 64 - i=(63 - i)+1 by omega,List.replicate_succ]
  have h2:=ih (i+1) m (by omega)
  rw [show 64 - (i+1)=63 - i by omega] at h2
  exact h1.trans h2
theorem LAL {w v:List Int} (hw:∀ x ∈ w,R32 x) (hwl:w.length=16) (hv:v.length=64):∀ (j i m:Nat),i+j=48→UZ (m+j+1) (.c2 ((16+i:Nat):Int) v (sched w i++List.replicate (48 - i) 0))=some (sched w 48):=by
 intro j
 induction j with
 | zero=>
  intro i m h
  obtain rfl:i=48:=by omega
  have hl:=Ep hwl 48
  rw [UZ]
  simp only [Je,Nat.sub_self,List.replicate_zero,List.append_nil,hl,hv]
  rfl
 | succ j ih=>
  intro i m h
  have hl:=Ep hwl i
  have hr:=Lu hw i
  have hlen:(sched w i++List.replicate (48 - i) 0).length=64:=by
   simp only [List.length_append,List.length_replicate,hl];omega
  have e2:w64 (((16+i:Nat):Int) - 2)=((16+i - 2:Nat):Int):=by rw [w64_id (by omega) (by omega)];omega
  have e7:w64 (((16+i:Nat):Int) - 7)=((16+i - 7:Nat):Int):=by rw [w64_id (by omega) (by omega)];omega
  have e15:w64 (((16+i:Nat):Int) - 15)=((16+i - 15:Nat):Int):=by rw [w64_id (by omega) (by omega)];omega
  have e16:w64 (((16+i:Nat):Int) - 16)=((16+i - 16:Nat):Int):=by rw [w64_id (by omega) (by omega)];omega
  have e1:w64 (((16+i:Nat):Int)+1)=((16+(i+1):Nat):Int):=by rw [w64_id (by omega) (by omega)];omega
  have g2:(sched w i++List.replicate (48 - i) 0).getD (16+i - 2) 0=(sched w i).getD (16+i - 2) 0:=Ap (by omega) 0
  have g7:(sched w i++List.replicate (48 - i) 0).getD (16+i - 7) 0=(sched w i).getD (16+i - 7) 0:=Ap (by omega) 0
  have g15:(sched w i++List.replicate (48 - i) 0).getD (16+i - 15) 0=(sched w i).getD (16+i - 15) 0:=Ap (by omega) 0
  have g16:(sched w i++List.replicate (48 - i) 0).getD (16+i - 16) 0=(sched w i).getD (16+i - 16) 0:=Ap (by omega) 0
  have f10:∀ x:Int,Int.fdiv x (2 ^ (Min.min (10:Int).toNat (IntKind.bits IntKind.u32)))=x / 1024:=fun x=>Int.fdiv_eq_ediv_of_nonneg _ (by decide)
  have f3:∀ x:Int,Int.fdiv x (2 ^ (Min.min (3:Int).toNat (IntKind.bits IntKind.u32)))=x / 8:=fun x=>Int.fdiv_eq_ediv_of_nonneg _ (by decide)
  have r15:=Fp hr (16+i - 15)
  have r2:=Fp hr (16+i - 2)
  rw [show m+(j+1)+1=(m+j+1)+1 by omega,UZ]
  simp only [Je,e1,e2,e7,e15,e16,Int.toNat_natCast,hlen,g2,g7,g15,g16,CAL r15,DAL r15,EAL r2,FAL r2,Option.bind_some,f10,f3,Eb]
  rw [TB (by simp;omega),TB (by rfl),TB (by simp;omega),TB (by rfl),TB (by simp;omega),TB (by rfl),TB (by simp;omega),TB (by rfl),TB (by simp;omega),TB (by rfl),TB (by simp;omega)]
  rw [show 48 - i=(48 - (i+1))+1 by omega,List.replicate_succ,Qg (by omega)]
  have h2:=ih (i+1) m (by omega)
  rw [sched,List.append_assoc] at h2
  exact h2
theorem MAL {b:ByteArray} (hb:b.size=64):Uf b=some (sched (PX (bs b) 16) 48):=by
 obtain ⟨m,hm⟩:∃ m,gas=(m+48+1)+6*16+1:=⟨gas - 146,by have:=gas_lt (n:=146) (by omega);omega⟩
 rw [Uf,O0,hm]
 have h0:=KAL hb (List.replicate 64 0) 16 0 (m+48+1) (by omega)
 have h2:=LAL (w:=PX (bs b) 16) (v:=List.replicate 64 0) (F7 (Ia b) 16) (Ud _ 16) (List.length_replicate ..) 48 0 m (by omega)
 rw [show PX (bs b) 0++List.replicate (64 - 0) 0=List.replicate 64 (0:Int) from rfl,show ((0:Nat):Int)=0 from rfl] at h0
 rw [show ((16+0:Nat):Int)=16 from rfl,show sched (PX (bs b) 16) 0=PX (bs b) 16 from rfl,show 48 - 0=48 from rfl] at h2
 rw [h0,h2]
theorem NAL (s r v:List Int) (hs:s.length=8) (hv:v.length=8) (f:Nat→Int) (hf:∀ i,i<8→f i=w32 (r.getD i 0+s.getD i 0)) (hr:r.length=8):∀ (j i m:Nat),i+j=8→Xa (m+j+1) (.c1 (i:Int) s v ((List.range i).map f++r.drop i))=some ((List.range 8).map f):=by
 intro j
 induction j with
 | zero=>
  intro i m h
  obtain rfl:i=8:=by omega
  rw [Xa]
  simp only [Gi]
  rw [NM (by simp),List.drop_of_length_le (by omega),List.append_nil,TB (by simp),TB (by simp [hv]),TB (by simp)]
 | succ j ih=>
  intro i m h
  have e:w64 ((i:Int)+1)=((i+1:Nat):Int):=by rw [w64_id (by omega) (by omega)];rfl
  have hl:((List.range i).map f++r.drop i).length=8:=by simp [hr];omega
  have hm:((List.range i).map f).length=i:=by simp
  have hg:((List.range i).map f++r.drop i).getD i 0=r.getD i 0:=by
   rw [Qi (by omega),hm,Nat.sub_self]
   simp [List.getD]
  rw [show m+(j+1)+1=(m+j+1)+1 by omega,Xa]
  simp only [Gi,e,Int.toNat_natCast,hl,hs,hg]
  rw [TB (by simp;omega),TB (by rfl),TB (by simp;omega),TB (by rfl),TB (by simp;omega),TB (by rfl),TB (by simp;omega)]
  rw [drop_at (by omega:i<r.length),Qg hm,←hf i (by omega)]
  have h2:=ih (i+1) m (by omega)
  rw [List.range_succ,List.map_append,List.append_assoc] at h2
  exact h2
theorem OAL (s v W:List Int) (hW:∀ x ∈ W,R32 x) (hWl:W.length=64) (r:Reg) (hr:r.ok) (i m:Nat) (hi:i<64) :
  Xa (m+1) (.c0 r.a r.b r.c r.d r.e r.f r.g r.h (i:Int) s v W)=Xa m (.c0 (Ib r (keysL.getD i 0) (W.getD i 0)).a (Ib r (keysL.getD i 0) (W.getD i 0)).b (Ib r (keysL.getD i 0) (W.getD i 0)).c (Ib r (keysL.getD i 0) (W.getD i 0)).d (Ib r (keysL.getD i 0) (W.getD i 0)).e (Ib r (keysL.getD i 0) (W.getD i 0)).f (Ib r (keysL.getD i 0) (W.getD i 0)).g (Ib r (keysL.getD i 0) (W.getD i 0)).h ((i+1:Nat):Int) s v W):=by
 obtain ⟨h1,h2,h3,h4,h5,h6,h7,h8⟩:=hr
 have e:w64 ((i:Int)+1)=((i+1:Nat):Int):=by rw [w64_id (by omega) (by omega)];rfl
 rw [Xa]
 simp only [Gi,e,Int.toNat_natCast,hWl,ZAK h5,AAL h5,BAL h5,WAK h1,XAK h1,YAK h1,Option.bind_some,Eb,D7,PAI h5]
 rw [TB (by simp;omega),TB (by simp;omega),TB (by rw [Nat.blt_eq];omega),TB (by rfl),TB (by simp;omega)]
 rfl
theorem PAL (s v W:List Int) (hW:∀ x ∈ W,R32 x) (hWl:W.length=64) (r:Reg) (hr:r.ok):∀ (j i m:Nat),i+j=64→
  Xa (m+j+1) (.c0 (JY keysL W r i).a (JY keysL W r i).b (JY keysL W r i).c (JY keysL W r i).d (JY keysL W r i).e (JY keysL W r i).f (JY keysL W r i).g (JY keysL W r i).h (i:Int) s v W)=Xa m (.c1 0 s v (JY keysL W r 64).l):=by
 intro j
 induction j with
 | zero=>
  intro i m h
  obtain rfl:i=64:=by omega
  rw [Xa]
  simp only [Gi]
  rw [NM (by simp)]
  rfl
 | succ j ih=>
  intro i m h
  rw [show m+(j+1)+1=(m+j+1)+1 by omega,OAL s v W hW hWl _ (NAC keysL W hr i) i _ (by omega)]
  exact ih (i+1) m (by omega)
theorem QAL {s:Reg} (hs:s.ok) {b:ByteArray} (hb:b.size=64):Vf s.l b=some (comp s (bs b)).l:=by
 obtain ⟨m,hm⟩:∃ m,gas=(m+8+1)+64+1:=⟨gas - 74,by have:=gas_lt (n:=74) (by omega);omega⟩
 have hr:=Lu (F7 (Ia b) 16) 48
 have hl:=Ep (Ud (bs b) 16) 48
 have hsl:s.l.length=8:=rfl
 have z0:(0:Int).toNat=0:=rfl
 have z1:(1:Int).toNat=1:=rfl
 have z2:(2:Int).toNat=2:=rfl
 have z3:(3:Int).toNat=3:=rfl
 have z4:(4:Int).toNat=4:=rfl
 have z5:(5:Int).toNat=5:=rfl
 have z6:(6:Int).toNat=6:=rfl
 have z7:(7:Int).toNat=7:=rfl
 rw [Vf,U0,MAL hb,Option.bind_some,hm]
 simp only [hl,hsl,List.length_replicate,z0,z1,z2,z3,z4,z5,z6,z7]
 rw [TB (by rfl),TB (by rfl),TB (by rfl),TB (by rfl),TB (by rfl),TB (by rfl),TB (by rfl),TB (by rfl),TB (by rfl),TB (by rfl),TB (by rfl),TB (by rfl),TB (by rfl),TB (by rfl),TB (by rfl),TB (by rfl),TB (by rfl)]
 have h0:=PAL s.l [0,0,0,0,0,0,0,0] _ hr hl s hs 64 0 (m+8+1) (by omega)
 rw [show ((0:Nat):Int)=0 from rfl] at h0
 have hf:∀ i,i<8→(fun i=>w32 ((JY keysL (sched (PX (bs b) 16) 48) s 64).l.getD i 0+s.l.getD i 0)) i=w32 ((JY keysL (sched (PX (bs b) 16) 48) s 64).l.getD i 0+s.l.getD i 0):=fun _ _=>rfl
 have h1:=NAL s.l (JY keysL (sched (PX (bs b) 16) 48) s 64).l [0,0,0,0,0,0,0,0] rfl rfl _ hf rfl 8 0 m (by omega)
 rw [show ((0:Nat):Int)=0 from rfl,List.range_zero,List.map_nil,List.nil_append,List.drop_zero] at h1
 have e:(List.range 8).map (fun i=>w32 ((JY keysL (sched (PX (bs b) 16) 48) s 64).l.getD i 0+s.l.getD i 0))=(comp s (bs b)).l:=by
  apply List.ext_getElem
  ·rw [Reg.Gp,List.length_map,List.length_range]
  ·intro i h1 h2
   have hi:i<8:=by simpa using h1
   rw [List.getElem_map,List.getElem_range,←getD_at h2 0]
   rw [comp,LAD _ _ i hi,Int.add_comm]
 rw [e] at h1
 exact h0.trans h1
theorem RAL {s:Reg} (hs:s.ok) {t:ByteArray} (ht:t.size≤1000000000000):Sm s.l t=some ((comps (t.size / 64) s (bs t)).l,t.extract (64*(t.size / 64)) t.size):=by
 have key:∀ (j:Nat) (s:Reg) (t:ByteArray) (m:Nat),s.ok→t.size / 64=j→t.size≤1000000000000→Qm (m+j+1) (.c0 t s.l [0,0,0,0,0,0,0,0])=some ((comps j s (bs t)).l,t.extract (64*j) t.size):=by
  intro j
  induction j with
  | zero=>
   intro s t m hs hj ht
   rw [Qm]
   simp only [Vs,Reg.Gp]
   rw [NM (by simp;omega),TB (by rfl),TB (by rfl),TB (by rfl)]
   congr 2
   apply EZ
   rw [NY,List.take_of_length_le (by rw [bs_len];omega)]
   rfl
  | succ j ih=>
   intro s t m hs hj ht
   have h64:(64:Int).toNat=64:=rfl
   have e1:bs (t.extract 0 64)=(bs t).take 64:=by rw [NY];rfl
   have e2:bs (t.extract 64 t.size)=(bs t).drop 64:=by rw [NY,List.take_of_length_le (by rw [bs_len];omega)]
   rw [show m+(j+1)+1=(m+j+1)+1 by omega,Qm]
   simp only [Vs,h64,Reg.Gp]
   rw [TB (by simp;omega),TB (by rfl),TB (by simp;omega)]
   rw [QAL hs (b:=t.extract 0 64) (by simp;omega),Option.bind_some]
   rw [Reg.Gp]
   rw [TB (by rfl)]
   rw [TB (by simp;omega)]
   rw [ih (comp s (bs (t.extract 0 64))) (t.extract 64 t.size) m (PAC _ _) (by simp;omega) (by simp;omega),e1,e2]
   have e3:(t.extract 64 t.size).extract (64*j) (t.extract 64 t.size).size=t.extract (64*(j+1)) t.size:=by
    apply EZ
    rw [NY,e2,NY,List.take_of_length_le (by simp [bs_len]),List.take_of_length_le (by rw [bs_len];omega),List.drop_drop]
    congr 1
    omega
   rw [e3,comps]
 obtain ⟨m,hm⟩:∃ m,gas=m+t.size / 64+1:=⟨gas - (t.size / 64+1),by have:=gas_lt (n:=t.size / 64+1) (by omega);omega⟩
 rw [Sm,Y0,hm]
 exact key _ s t m hs rfl ht
theorem SAL {r:Reg} (hr:r.ok):Xm r.l=some (ofBytes (TT r.l)):=by
 have hl:r.l.length=8:=rfl
 have hrl:=Reg.Ah hr
 have hby:∀ i,CV (TT (r.l.take i)):=fun i=>G7 (fun x hx=>hrl x (List.mem_of_mem_take hx))
 have key:=loopN (A:=Unit) (n:=8) (Lp:=Vm) (st:=fun i _=>.c0 (ofBytes (TT (r.l.take i))) r.l (i:Int)) (Inv:=fun _ _=>True) (out:=fun _ _=>some (ofBytes (TT r.l)))
  (fun m _ _=>by
   rw [Vm]
   simp only [Ws]
   rw [NM (by simp)]
   rfl)
  (fun m i _ hi _=>.inr ⟨(),by
   have e:w64 ((i:Int)+1)=((i+1:Nat):Int):=by rw [w64_id (by omega) (by omega)];rfl
   have hg:r.l.getD i 0=r.l[i]'(by omega):=getD_at (by omega) 0
   have hx:R32 (r.l.getD i 0):=Fp hrl i
   rw [Vm]
   simp only [Ws,e,Int.toNat_natCast,Dv hx,Option.bind_some,hl]
   rw [TB (by simp;omega),TB (by rfl),TB (by simp;omega),TB (by rw [ofBytes_size,ofBytes_size,Ti];simp [four];omega)]
   congr 2
   apply EZ
   rw [YX,SN (hby i),SN (hby (i+1)),SN (Zg hx),take_at (by omega),RAC,hg]
   simp [TT],trivial,rfl⟩)
 rw [Xm,U1,hl,TB (by rfl)]
 exact key gas 0 () (Nat.zero_le _) (gas_lt (by omega)) trivial
theorem TAL:Js=some WZ.l:=rfl
theorem E8 {s:ByteArray} (hs:s.size≤1000000000):Xf s=some (Nb s):=by
 have h1:=Nu s.size
 have hsz:(s++ofBytes (QX s.size)).size=s.size+(QX s.size).length:=by rw [ByteArray.size_append,ofBytes_size]
 rw [Xf,U2,TAL,Option.bind_some,UAK (n:=s.size) (by omega),Option.bind_some,TB (by rw [ofBytes_size];simp;omega),RAL Ue (by omega),Option.bind_some]
 simp only [Reg.Gp]
 rw [TB (by rfl),TB (by rfl),SAL (Yg Ue _ _),Option.bind_some,hsz,YX,SN (H7 _),Nb,NZ,bs_len]
theorem WAD {s:ByteArray} {x:Int} (hs:s.size≤140737488351232):Yf s x=some (ofBytes (TY x (bs s))):=by
 have hl:=bs_len s
 have key:=loopN (A:=Unit) (n:=(bs s).length) (Lp:=Zm) (st:=fun i _=>.c0 x ((bs s).length:Int) (i:Int) (((bs s).take i).map (fun b=>xb b x)++(bs s).drop i)) (Inv:=fun _ _=>True) (out:=fun _ _=>some (ofBytes (TY x (bs s))))
  (fun m _ _=>by
   rw [Zm]
   simp only [Dt]
   rw [NM (by simp),List.take_length,List.drop_length,List.append_nil];rfl)
  (fun m i _ hi _=>.inr ⟨(),by
   have e:w64 ((i:Int)+1)=((i+1:Nat):Int):=by rw [w64_id (by omega) (by omega)];rfl
   have hlen:(((bs s).take i).map (fun b=>xb b x)++(bs s).drop i).length=(bs s).length:=by simp;omega
   rw [Zm]
   simp only [Dt,e,Int.toNat_natCast,hlen,Qu,JAJ hi]
   rw [TB (by simp;omega),TB (by simp;omega),TB (by simp;omega),IAJ (fun b=>xb b x) hi],trivial,rfl⟩)
 rw [Yf,J3,TB (by simp;omega),Dp]
 exact key gas 0 () (Nat.zero_le _) (gas_lt (by omega)) trivial
theorem EAO {l:List Int} (h:CV l):CV (ZX l):=fun x hx=>by
 simp only [ZX,List.mem_append,List.mem_replicate] at hx
 rcases hx with hx | hx
 ·exact h x hx
 ·omega
theorem UAL {k:ByteArray} (h:k.size≤64):bs (k++ofBytes (List.replicate (64 - k.size) 0))=ZX (bs k):=by
 rw [YX,SN (fun x hx=>by have:=List.eq_of_mem_replicate hx;omega),ZX,bs_len]
theorem VAL {K:ByteArray} (h:K.size=64) {s:ByteArray}:Nb (ofBytes (TY 92 (bs K))++Nb (ofBytes (TY 54 (bs K))++s))=ofBytes (NZ (TY 92 (bs K)++NZ (TY 54 (bs K)++bs s))):=by
 rw [Nb,YX,Ou,YX,SN (Uu _ _),SN (Uu _ _)]
theorem XAD {k s:ByteArray} (hk:k.size≤900000000) (hs:s.size≤900000000):Jd k s=some (Ic k s):=by
 have fin:∀ {K:ByteArray} {m:Int},K.size≤64→m=((64 - K.size:Nat):Int)→∀ (f:Option ByteArray),f=some (ofBytes (NZ (TY 92 (ZX (bs K))++NZ (TY 54 (ZX (bs K))++bs s))))→
   ((Ie m).bind fun r1=>bif decide (K.size+r1.size≤9223372036854775807) then (Yf (K++r1) 92).bind fun r2=>(Yf (K++r1) 54).bind fun r3=>bif decide (r3.size+s.size≤9223372036854775807) then (Xf (r3++s)).bind fun r4=>bif decide (r2.size+r4.size≤9223372036854775807) then (Xf (r2++r4)).bind fun r5=>some r5 else none else none else none)=f:=by
  intro K m hK hm f hf
  have h64:(K++ofBytes (List.replicate (64 - K.size) 0)).size=64:=by rw [ByteArray.size_append,ofBytes_size,List.length_replicate];omega
  subst hm
  have x1:=Ru 92 (ZX (bs K))
  have x2:=Ru 54 (ZX (bs K))
  have x3:(ZX (bs K)).length=64:=by rw [ZX,List.length_append,List.length_replicate,bs_len];omega
  have hb:=UAL hK
  have hf2:=VAL h64 (s:=s)
  rw [hb] at hf2
  rw [VAD (by omega),Option.bind_some,TB (by rw [ofBytes_size,List.length_replicate,decide_eq_true_eq];omega),WAD (by omega),Option.bind_some,WAD (by omega),Option.bind_some,hb]
  rw [TB (by rw [ofBytes_size,decide_eq_true_eq];omega),E8 (by rw [ByteArray.size_append,ofBytes_size];omega),Option.bind_some,TB (by rw [ofBytes_size,Bh,decide_eq_true_eq];omega)]
  rw [E8 (by rw [ByteArray.size_append,ofBytes_size,Bh];omega),Option.bind_some,hf,hf2]
 rw [Jd,O3]
 by_cases h:64<k.size
 ·rw [TB (by simp;omega),E8 (by omega),Option.bind_some]
  apply fin (by rw [Bh];omega) (by rw [Bh];decide)
  rw [Ic,Qb,Ob,if_pos (by rw [bs_len];omega),Ou]
 ·rw [NM (by simp;omega)]
  apply fin (by omega) (by rw [w64_id (by omega) (by omega)];omega)
  rw [Ic,Qb,Ob,if_neg (by rw [bs_len];omega)]
theorem WAL {k:ByteArray} {num n:Int} (hk:k.size≤900000000):Pn k num n=some (Wi k num n):=by
 rw [Pn,X3,SAK,Option.bind_some,Wi,maskOk]
 cases h:FN num 0 1000000000
 ·rfl
 ·rw [SX] at h
  rw [cond_true,NM (by rfl),Xd,Option.bind_some]
  cases h2:FN n 0 8000
  ·rfl
  ·rw [SX] at h2
   rw [NM (by rfl),Bool.and_self,cond_true]
   have hv:=DZ (n:=num) (by omega)
   have hvb:=Dh h.1
   have key:=loopN (A:=Unit) (n:=(n.toNat+31) / 32) (Lp:=Gn) (st:=fun i _=>.c0 k n (ofBytes (IK num)) (ofBytes (Jc (bs k) (IK num) i)) (i:Int)) (Inv:=fun _ _=>True) (out:=fun _ _=>some (ofBytes (HY (bs k) (IK num) n.toNat),true))
    (fun m _ _=>by
     rw [Gn]
     simp only [Et]
     rw [NM (by rw [ofBytes_size,Vd,decide_eq_false_iff_not];omega),TB (by rw [ofBytes_size,Vd];simp;omega)]
     refine congrArg (fun x=>some (x,true)) (EZ ?_)
     rw [NY,SN (Vu _ _ _),SN (J7 _ _ _),HY,List.drop_zero])
    (fun m i _ hi _=>.inr ⟨(),by
     have e:w64 ((i:Int)+1)=((i+1:Nat):Int):=by rw [w64_id (by omega) (by omega)];rfl
     have h9:(⟨#[109]⟩:ByteArray).size=1:=rfl
     rw [Gn]
     simp only [Et,e]
     rw [TB (by rw [ofBytes_size,Vd,decide_eq_true_eq];omega),TB (by rw [ofBytes_size,h9,decide_eq_true_eq];omega),Ih (by omega) (by omega),Option.bind_some,TB (by rw [ByteArray.size_append,ofBytes_size,ofBytes_size,h9,decide_eq_true_eq,List.length_singleton];omega)]
     rw [XAD hk (by rw [ByteArray.size_append,ByteArray.size_append,ofBytes_size,ofBytes_size,h9,List.length_singleton];omega),Option.bind_some,YAC k h.1 h.2 i (by omega),TB (by rw [ofBytes_size,ofBytes_size,Vd,Ui,decide_eq_true_eq];omega)]
     rw [show ofBytes (Jc (bs k) (IK num) i)++ofBytes (Qb (bs k) (109::(IK num++[(i:Int)])))=ofBytes (Jc (bs k) (IK num) (i+1)) from EZ (by
      rw [YX,SN (Vu _ _ _),SN (Vu _ _ _),SN (Ip _ _),Jc])],trivial,rfl⟩)
   exact key gas 0 () (Nat.zero_le _) (gas_lt (by omega)) trivial
theorem XAL {k s:ByteArray} {num:Int} (hk:k.size≤900000000) (hn:0≤num∧num≤1000000000) (hs:s.size≤800000000):Qn k num s=some (ofBytes (XY (bs k) num (bs s))):=by
 have hv:=DZ (n:=num) (by omega)
 have h9:(⟨#[116]⟩:ByteArray).size=1:=rfl
 have e:bs (⟨#[116]⟩:ByteArray)=[116]:=rfl
 have h16:(16:Int).toNat=16:=rfl
 rw [Qn,I4,Gh (by omega),Option.bind_some,TB (by rw [ofBytes_size,h9,decide_eq_true_eq];omega),TB (by rw [ByteArray.size_append,ofBytes_size,h9,decide_eq_true_eq];omega)]
 rw [XAD hk (by rw [ByteArray.size_append,ByteArray.size_append,ofBytes_size,h9];omega),Option.bind_some,TB (by rw [XAC];decide)]
 refine congrArg some (EZ ?_)
 rw [NY,WAC,h16,SN (Jp _ _ _),YX,YX,e,SN (Dh hn.1),XY,List.drop_zero,List.append_assoc]
 rfl
theorem YAL {a b:ByteArray} (ha:a.size≤140737488351232) (h:a.size≤b.size):Un a b=some (ofBytes (RX (bs a) (bs b))):=by
 have hl:=bs_len a
 have hl2:=bs_len b
 have key:=loopN (A:=Unit) (n:=(bs a).length) (Lp:=Tn) (st:=fun i _=>.c0 b ((bs a).length:Int) (i:Int) (List.zipWith xb ((bs a).take i) ((bs b).take i)++(bs a).drop i)) (Inv:=fun _ _=>True) (out:=fun _ _=>some (ofBytes (RX (bs a) (bs b))))
  (fun m _ _=>by
   rw [Tn]
   simp only [Gt]
   rw [NM (by simp),List.take_length,List.drop_length,List.append_nil,RX,N7])
  (fun m i _ hi _=>.inr ⟨(),by
   have e:w64 ((i:Int)+1)=((i+1:Nat):Int):=by rw [w64_id (by omega) (by omega)];rfl
   have hlen:(List.zipWith xb ((bs a).take i) ((bs b).take i)++(bs a).drop i).length=(bs a).length:=by simp;omega
   rw [Tn]
   simp only [Gt,e,Int.toNat_natCast,hlen,Qu,CAD hi (show i<(bs b).length by omega)]
   rw [TB (by simp;omega),TB (by simp;omega),TB (by simp;omega),TB (by simp;omega),Fb (by omega),AAD hi (by omega)],trivial,rfl⟩)
 rw [Un,O4,TB (by simp;omega),Dp]
 exact key gas 0 () (Nat.zero_le _) (gas_lt (by omega)) trivial
theorem YAD (t:ByteArray) {n:Nat} (h:t.size=n+16):bs (t.extract 0 n)=(bs t).take (t.size - 16)∧bs (t.extract n t.size)=(bs t).drop (t.size - 16):=by
 rw [NY,NY,List.take_of_length_le (by rw [bs_len];omega:(bs t).length≤t.size),h,Nat.add_sub_cancel]
 exact ⟨rfl,rfl⟩
theorem ZAL {k t:ByteArray} {num:Int} (hk:k.size≤900000000) (ht:t.size≤800000000):Zf k num t=some (VX k num t):=by
 rw [Zf,U4,VX]
 have hw:w64 ((t.size:Int) - 16)=(t.size:Int) - 16:=w64_id (by omega) (by omega)
 rw [hw]
 by_cases h:t.size<16
 ·rw [TB (by simp;omega),TB (by simp;omega)]
 ·obtain ⟨n,hn⟩:∃ n,t.size=n+16:=⟨t.size - 16,by omega⟩
  obtain ⟨e1,e2⟩:=YAD t hn
  have hz:(t.size:Int) - 16=(n:Int):=by omega
  have hb:=bs_len t
  rw [NM (by simp;omega),WAL hk,Option.bind_some,Wi,hz,show decide ((t.size:Int)<16)=false by simp;omega,Bool.false_or]
  cases hm:maskOk num n
  ·rfl
  ·have h':=DAD.1 hm
   have hml:=Lc (bs k) (IK num) n
   have hes:(t.extract 0 n).size=n:=by simp;omega
   rw [Bool.not_true,cond_false,cond_true,NM (by rfl),Int.toNat_natCast,TB (by simp;omega),XAL hk h'.1 (by omega),Option.bind_some,TB (by simp;omega),Np,SN (Jp _ _ _),e1,e2]
   cases hc:(XY (bs k) num ((bs t).take (t.size - 16)) == (bs t).drop (t.size - 16))
   ·rfl
   ·rw [Bool.not_true,cond_false,TB (by simp;omega),YAL (by omega) (by rw [ofBytes_size,hml];omega),Option.bind_some,SN (J7 _ _ _),e1,cond_true,show t.size - 16=n by omega]
theorem AAM {k t:ByteArray} {num:Int} (hk:k.size≤900000000) (ht:t.size≤800000000):Bf k num t=some (VX k num t):=by
 rw [Bf,Iy,VX]
 have hw:w64 ((t.size:Int) - 16)=(t.size:Int) - 16:=w64_id (by omega) (by omega)
 rw [hw]
 by_cases h:t.size<16
 ·rw [TB (by simp;omega),TB (by simp;omega)]
 ·obtain ⟨n,hn⟩:∃ n,t.size=n+16:=⟨t.size - 16,by omega⟩
  obtain ⟨e1,e2⟩:=YAD t hn
  have hz:(t.size:Int) - 16=(n:Int):=by omega
  have hb:=bs_len t
  have hes:(t.extract 0 n).size=n:=by simp;omega
  rw [NM (by simp;omega),hz,Int.toNat_natCast,hes,TB (by simp;omega),PAK hk,Option.bind_some,Wi,show decide ((t.size:Int)<16)=false by simp;omega,Bool.false_or]
  cases hm:maskOk num n
  ·rfl
  ·have h':=DAD.1 hm
   have hml:=Lc (bs k) (IK num) n
   rw [Bool.not_true,cond_false,cond_true,NM (by rfl),Int.toNat_natCast,QAK hk h'.1 (by omega),Option.bind_some,TB (by simp;omega)]
   simp only [Vq,Ey,Option.bind_some,Np,SN (Jp _ _ _),e1,e2]
   cases hc:(XY (bs k) num ((bs t).take (t.size - 16)) == (bs t).drop (t.size - 16))
   ·rfl
   ·rw [Bool.not_true,cond_false,RAK (by omega) (by rw [ofBytes_size,hml];omega),Option.bind_some,SN (J7 _ _ _),e1,cond_true,show t.size - 16=n by omega]
def Ve (text:ByteArray) (c:SL19Cur):Prop:=∃ p:Nat,∃ b:Bool,c=⟨text,(p:Int),b⟩∧p≤text.size
theorem Fv {text:ByteArray} {c:SL19Cur} (hs:text.size≤140737488351232) (h:Ve text c):∃ v c',Ua c=some (v,c')∧Ve text c'∧0≤v∧v≤1000000000:=by
 obtain ⟨p,b,rfl,hp⟩:=h
 obtain ⟨r,hr,hR⟩:=OAI hs hp
 simp only [Ua,Hr,hr,Option.bind_some]
 cases b
 ·rcases hR with rfl | ⟨v,q,rfl,h0,h1,_,h3⟩
  ·exact ⟨_,_,rfl,⟨p,true,rfl,hp⟩,by omega,by omega⟩
  ·exact ⟨_,_,rfl,⟨q,false,rfl,h3⟩,h0,h1⟩
 ·exact ⟨_,_,rfl,⟨p,true,rfl,hp⟩,by omega,by omega⟩
theorem Vp {text:ByteArray} {a:Nat} {V:Int} (hs:text.size≤140737488351232) (hV0:0≤V) (hV:V≤1000000000) (hA:At text a (IK V)):Ua ⟨text,(a:Int),false⟩=some (V,⟨text,((a+(IK V).length:Nat):Int),false⟩):=by
 simp only [Ua,Hr,Y6 hs hV0 hV hA,Option.bind_some]
 rfl
theorem F8 {text:ByteArray} {c:SL19Cur} {n:Int} (hs:text.size≤140737488351232) (h:Ve text c) (h0:0≤n) (h1:n≤1000000000):∃ s c',QZ c n=some (s,c')∧Ve text c'∧s.size≤1000000000∧(c'.fBad=false→(s.size:Int)=n∧c.fAt+n≤(text.size:Int)):=by
 obtain ⟨p,b,rfl,hp⟩:=h
 simp only [QZ,Yq]
 have e1:w64 ((text.size:Int) - (p:Int))=(text.size:Int) - p:=w64_id (by omega) (by omega)
 have e2:w64 ((p:Int)+n)=p+n:=w64_id (by omega) (by omega)
 have e3:w64 ((p:Int)+n - n)=p:=by rw [w64_id (by omega) (by omega)];omega
 rw [e1,e2,e3]
 cases b
 ·by_cases hn:n > (text.size:Int) - p
  ·rw [show decide (n > (text.size:Int) - p)=true from decide_eq_true hn]
   exact ⟨_,_,rfl,⟨p,true,rfl,hp⟩,by show 0≤_;omega,fun h=>by cases h⟩
  ·rw [show decide (n > (text.size:Int) - p)=false from decide_eq_false hn,show decide ((0:Int)≤(p:Int))=true from decide_eq_true (by omega),show decide ((p:Int)≤p+n)=true from decide_eq_true (by omega),show decide ((p:Int)+n≤(text.size:Int))=true from decide_eq_true (by omega)]
   have hz:(text.extract (p:Int).toNat ((p:Int)+n).toNat).size=n.toNat:=by rw [ByteArray.size_extract];omega
   refine ⟨_,_,rfl,⟨((p:Int)+n).toNat,false,?_,by omega⟩,by rw [hz];omega,fun _=>⟨by rw [hz];omega,by show (p:Int)+n≤_;omega⟩⟩
   rw [Int.toNat_of_nonneg (by omega)]
 ·exact ⟨_,_,rfl,⟨p,true,rfl,hp⟩,by show 0≤_;omega,fun h=>by cases h⟩
theorem G8 {text:ByteArray} {p:Nat} {s:ByteArray} (hs:text.size≤140737488351232) (hA:At text p (bs s)) (hp:p≤text.size):QZ ⟨text,(p:Int),false⟩ (s.size:Int)=some (s,⟨text,((p+s.size:Nat):Int),false⟩):=by
 have hz:p+s.size≤text.size:=by
  rcases hA.size with h | h
  ·have:=congrArg List.length h;rw [bs_len,List.length_nil] at this;omega
  ·rw [bs_len] at h;exact h
 have e1:w64 ((text.size:Int) - (p:Int))=(text.size:Int) - p:=w64_id (by omega) (by omega)
 have e2:w64 ((p:Int)+(s.size:Int))=((p+s.size:Nat):Int):=by rw [w64_id (by omega) (by omega)];omega
 have e3:w64 (((p+s.size:Nat):Int) - (s.size:Int))=p:=by rw [w64_id (by omega) (by omega)];omega
 simp only [QZ,Yq,e1,e2,e3,Int.toNat_natCast]
 have hx:=hA.extract (fun n hn=>X6 hn)
 rw [bs_len,Gu] at hx
 rw [show decide ((s.size:Int) > (text.size:Int) - p)=false from decide_eq_false (by omega),show decide ((0:Int)≤(p:Int))=true from decide_eq_true (by omega),show decide ((p:Int)≤((p+s.size:Nat):Int))=true from decide_eq_true (by omega),show decide (((p+s.size:Nat):Int)≤(text.size:Int))=true from decide_eq_true (by omega),hx]
 rfl
theorem H8 {text:ByteArray} {c:SL19Cur} (hs:text.size≤140737488351232) (h:Ve text c):∃ v c',RZ c=some (v,c')∧Ve text c'∧0≤v∧v≤255∧(c'.fBad=true→v=0)∧(c'.fBad=false→c.fAt+1≤(text.size:Int)):=by
 obtain ⟨s,c',e,hc,_,hn⟩:=F8 (n:=1) hs h (by omega) (by omega)
 simp only [RZ,Ar,e,Option.bind_some]
 cases hb:c'.fBad
 ·obtain ⟨h1,h2⟩:=hn hb
  rw [show decide ((0:Int)≤(0:Int))=true from rfl,show decide ((0:Int)<(s.size:Int))=true from decide_eq_true (by omega)]
  have:=Qd s 0
  rw [w64_id (n:=bt s 0) (by omega) (by omega)]
  exact ⟨_,_,rfl,hc,this.1,this.2,fun h=>(by rw [hb] at h;cases h),fun _=>h2⟩
 ·exact ⟨_,_,rfl,hc,by omega,by omega,fun _=>rfl,fun h=>(by rw [hb] at h;cases h)⟩
theorem Xi {text:ByteArray} {p:Nat} {b:Int} (hs:text.size≤140737488351232) (hA:At text p [b]):RZ ⟨text,(p:Int),false⟩=some (b,⟨text,((p+1:Nat):Int),false⟩):=by
 obtain ⟨h1,h2⟩:=hA.head
 have hb:=Qd text p
 rw [h2] at hb
 have hB:bs (ofBytes [b])=[b]:=SN (by simpa using hb)
 have e:=G8 (s:=ofBytes [b]) hs (by rw [hB];exact hA) (Nat.le_of_lt h1)
 have h0:bt (ofBytes [b]) 0=b:=by
  have:=Hu (s:=ofBytes [b]) (i:=0) (by rw [ofBytes_size];simp)
  simp only [hB] at this
  exact this
 simp only [RZ,Ar]
 rw [show QZ ⟨text,(p:Int),false⟩ 1=_ from e]
 simp only [Option.bind_some,h0,w64_id (n:=b) (by omega) (by omega)]
 rfl
theorem BAM {text:ByteArray} {c:SL19Cur} (hs:text.size≤140737488351232) (h:Ve text c):∃ s c',Df c=some (s,c')∧Ve text c'∧s.size≤1000000000:=by
 obtain ⟨v,c1,e1,h1,h2,h3⟩:=Fv hs h
 obtain ⟨s,c2,e2,h4,h5,_⟩:=F8 hs h1 h2 h3
 simp only [Df,Ir,e1,e2,Option.bind_some]
 exact ⟨_,_,rfl,h4,h5⟩
theorem CAM {text:ByteArray} {p:Nat} {s:ByteArray} (hs:text.size≤140737488351232) (hz:s.size≤1000000000) (hA:At text p (IK (s.size:Int)++bs s)):Df ⟨text,(p:Int),false⟩=some (s,⟨text,((p+(IK (s.size:Int)).length+s.size:Nat):Int),false⟩):=by
 have hp:p+(IK (s.size:Int)).length≤text.size:=by
  rcases hA.left.size with h | h
  ·have:=Ya (s.size:Int);rw [h] at this;simp at this
  ·exact h
 simp only [Df,Ir,Vp hs (by omega) (by omega) hA.left,G8 hs hA.right hp,Option.bind_some]
def IZ (x:SThing):Bool:=FN x.fId 1 1000 && FN x.fKind 1 3 && FN x.fNext 0 16 && ((x.fKind == 2) || ((x.fNext == 0) && !x.fSigns)) && ((x.fKind == 1) || !x.fWraps) && (bif x.fKind == 3 then decide ((x.fValue.size:Int)≤100) else (x.fValue.size:Int) == 32)
theorem DAM (x:SThing):Jl x=some (IZ x):=by
 simp only [Jl,Ry,Ld,Option.bind_some,IZ,bne]
 cases FN x.fId 1 1000 <;> cases FN x.fKind 1 3 <;> cases FN x.fNext 0 16 <;> cases (x.fKind == 2) <;> cases (x.fKind == 1) <;> cases (x.fKind == 3) <;> cases (x.fNext == 0) <;> cases x.fSigns <;> cases x.fWraps <;> rfl
theorem Yi {x:SThing} (h:IZ x=true):1≤x.fKind∧x.fKind≤3∧1≤x.fId∧x.fId≤1000∧0≤x.fNext∧x.fNext≤16∧x.fValue.size≤100:=by
 unfold IZ at h
 simp only [Bool.and_eq_true] at h
 obtain ⟨⟨⟨⟨⟨h1,h2⟩,h3⟩,_⟩,_⟩,h4⟩:=h
 rw [SX] at h1 h2 h3
 refine ⟨h2.1,h2.2,h1.1,h1.2,h3.1,h3.2,?_⟩
 cases hk:x.fKind == 3
 ·rw [hk] at h4;simp at h4;omega
 ·rw [hk] at h4;simp at h4;omega
theorem EAM (b:Bool) (n:Int):Jr b n=some (bif b then n else 0):=by cases b <;> rfl
def Vb (s:ByteArray):ByteArray:=ofBytes (IK (s.size:Int))++s
theorem FAM {s:ByteArray} (h:s.size≤140737488351232):(Vb s).size≤s.size+10:=by
 unfold Vb;rw [ba_append_size,ofBytes_size];have:=DZ (n:=(s.size:Int)) (by omega);omega
theorem GAM {s:ByteArray} (h:s.size≤140737488351232):Ll s=some (Vb s):=by
 simp only [Ll,Wy,Md (n:=(s.size:Int)) (by omega),Option.bind_some]
 have:=DZ (n:=(s.size:Int)) (by omega)
 rw [show decide ((ofBytes (IK (s.size:Int))).size+s.size≤9223372036854775807)=true from decide_eq_true (by rw [ofBytes_size];omega)]
 rfl
def IY (x:SThing):Int:=(bif x.fHidden then 1 else 0)+(bif x.fFixed then 2 else 0)+(bif x.fSigns then 4 else 0)+(bif x.fWraps then 8 else 0)
theorem Wp (x:SThing):0≤IY x∧IY x≤15:=by
 unfold IY;cases x.fHidden <;> cases x.fFixed <;> cases x.fSigns <;> cases x.fWraps <;> decide
theorem HAM (m:Nat) (a b c d:Bool):G5 (m+5) (.c0 0 4 0 [a,b,c,d])=some ((bif a then 1 else 0)+(bif b then 2 else 0)+(bif c then 4 else 0)+(bif d then 8 else 0)):=by
 cases a <;> cases b <;> cases c <;> cases d <;> kernel_rfl
theorem IAM (x:SThing):Yn x=some (IY x):=by
 obtain ⟨m,this⟩:∃ m,gas=m+5:=⟨gas - 5,rfl⟩
 unfold Yn F5
 rw [this]
 exact HAM _ _ _ _ _
def Zd (x:SThing):ByteArray:=ofBytes (IK x.fId)++ofBytes [x.fKind]++ofBytes [IY x]++Vb x.fValue++ofBytes (IK x.fNext)
def AY (x:SThing):ByteArray×Bool:=bif IZ x then (Zd x,true) else (⟨#[]⟩,false)
theorem I8 {x:SThing} (h:IZ x=true):(ofBytes (IK x.fId)).size≤10∧(Vb x.fValue).size≤110∧(ofBytes (IK x.fNext)).size≤10:=by
 obtain ⟨_,_,_,h1,_,h2,h3⟩:=Yi h
 rw [ofBytes_size,ofBytes_size]
 have:=DZ (n:=x.fId) (by omega)
 have:=DZ (n:=x.fNext) (by omega)
 have:=FAM (s:=x.fValue) (by omega)
 omega
theorem JAM {x:SThing} (h:IZ x=true):(Zd x).size≤200:=by
 obtain ⟨h1,h2,h3⟩:=I8 h
 unfold Zd
 simp only [ba_append_size]
 have e1:∀ n:Int,(ofBytes [n]).size=1:=fun n=>ofBytes_size _
 rw [e1,e1];omega
theorem J8 (x:SThing):Ef x=some (AY x):=by
 simp only [Ef,Xy,DAM,Option.bind_some,AY]
 cases h:IZ x
 ·rfl
 ·obtain ⟨k1,k2,k3,k4,k5,k6,k7⟩:=Yi h
  obtain ⟨z1,z2,z3⟩:=I8 h
  have hf:=Wp x
  have e1:∀ n:Int,(ofBytes [n]).size=1:=fun n=>ofBytes_size _
  have ef:w64 (w64 (w64 ((bif x.fHidden then (1:Int) else 0)+(bif x.fFixed then 2 else 0))+(bif x.fSigns then 4 else 0))+(bif x.fWraps then 8 else 0))=IY x:=by
   unfold IY;cases x.fHidden <;> cases x.fFixed <;> cases x.fSigns <;> cases x.fWraps <;> rfl
  simp only [EAM,Option.bind_some,ef,Md (n:=x.fId) (by omega),Y7 (n:=x.fKind) (by omega) (by omega),Y7 hf.1 (by omega),GAM (s:=x.fValue) (by omega),Md (n:=x.fNext) (by omega),ba_append_size,e1]
  simp only [Bool.not_true,cond_false,cond_true]
  rw [show decide ((ofBytes (IK x.fId)).size+1≤9223372036854775807)=true from decide_eq_true (by omega),show decide ((ofBytes (IK x.fId)).size+1+1≤9223372036854775807)=true from decide_eq_true (by omega),
   show decide ((ofBytes (IK x.fId)).size+1+1+(Vb x.fValue).size≤9223372036854775807)=true from decide_eq_true (by omega),show decide ((ofBytes (IK x.fId)).size+1+1+(Vb x.fValue).size+(ofBytes (IK x.fNext)).size≤9223372036854775807)=true from decide_eq_true (by omega)]
  rfl
def FAO (f:Int) (h a b c:Bool):Prop:=f=(bif h then 1 else 0)+(bif a then 2 else 0)+(bif b then 4 else 0)+(bif c then 8 else 0)
theorem KAM (x:SThing):(((IY x).tmod 2 == 1)=x.fHidden)∧(((w64 ((IY x).tdiv 2)).tmod 2 == 1)=x.fFixed)∧(((w64 ((IY x).tdiv 4)).tmod 2 == 1)=x.fSigns)∧(((w64 ((IY x).tdiv 8)).tmod 2 == 1)=x.fWraps):=by
 unfold IY
 cases x.fHidden <;> cases x.fFixed <;> cases x.fSigns <;> cases x.fWraps <;> decide
theorem ZAD {x:SThing} (h:IZ x=true):bs (Zd x)=IK x.fId++([x.fKind]++([IY x]++((IK (x.fValue.size:Int)++bs x.fValue)++IK x.fNext))):=by
 obtain ⟨k1,k2,k3,k4,k5,k6,k7⟩:=Yi h
 have hf:=Wp x
 unfold Zd Vb
 simp only [YX,SN (Cb x.fId (by omega)),SN (Cb x.fNext (by omega)),SN (Cb (x.fValue.size:Int) (by omega)),SN (l:=[x.fKind]) (by simp;omega),SN (l:=[IY x]) (by simp;omega),List.append_assoc]
def L8 (text:ByteArray) (r:SThing×Bool):Prop:=(r.2=true∧AY r.1=(text,true))∨r=(⟨(0:Int),(0:Int),false,false,false,false,(⟨#[]⟩:ByteArray),(0:Int)⟩,false)
theorem AAE {text:ByteArray} (hs:text.size≤140737488351232):∃ r,Ee text=some r∧L8 text r:=by
 obtain ⟨v0,c0,e0,h0,_⟩:=Fv hs (c:=⟨text,(0:Int),false⟩) ⟨0,false,rfl,by omega⟩
 obtain ⟨v1,c1,e1,h1,_⟩:=H8 hs h0
 obtain ⟨v2,c2,e2,h2,_⟩:=H8 hs h1
 obtain ⟨v3,c3,e3,h3,_⟩:=BAM hs h2
 obtain ⟨v4,c4,e4,h4,_⟩:=Fv hs h3
 simp only [Ee,Lr,e0,e1,e2,e3,e4,J8,Option.bind_some]
 cases c4.fBad
 ·cases h5:(AY (⟨v0,v1,v2.tmod 2 == 1,(w64 (v2.tdiv 2)).tmod 2 == 1,(w64 (v2.tdiv 4)).tmod 2 == 1,(w64 (v2.tdiv 8)).tmod 2 == 1,v3,v4⟩:SThing)).2
  ·exact ⟨_,rfl,.inr rfl⟩
  ·rw [toList_inj]
   by_cases h6:(AY (⟨v0,v1,v2.tmod 2 == 1,(w64 (v2.tdiv 2)).tmod 2 == 1,(w64 (v2.tdiv 4)).tmod 2 == 1,(w64 (v2.tdiv 8)).tmod 2 == 1,v3,v4⟩:SThing)).1=text
   ·rw [decide_eq_true h6];exact ⟨_,rfl,.inl ⟨rfl,Prod.ext h6 h5⟩⟩
   ·rw [decide_eq_false h6];exact ⟨_,rfl,.inr rfl⟩
 ·exact ⟨_,rfl,.inr rfl⟩
theorem BAE {text:ByteArray} {x:SThing} (h:AY x=(text,true)):IZ x=true∧text=Zd x:=by
 unfold AY at h
 cases ho:IZ x <;> rw [ho] at h
 ·simp at h
 ·exact ⟨rfl,(congrArg Prod.fst h).symm⟩
theorem CAE {text:ByteArray} {x:SThing} (hs:text.size≤140737488351232) (h:AY x=(text,true)):Ee text=some (x,true):=by
 obtain ⟨ho,rfl⟩:=BAE h
 obtain ⟨k1,k2,k3,k4,k5,k6,k7⟩:=Yi ho
 have hf:=Wp x
 have hA:At (Zd x) 0 _:=⟨[],by rw [List.drop_zero,ZAD ho,List.append_nil]⟩
 have a1:=hA.right
 have a2:=a1.right
 have a3:=a2.right
 have a4:=a3.right
 have e0:=Vp hs (by omega) (by omega) hA.left
 have e1:=Xi hs a1.left
 have e2:=Xi hs a2.left
 have e3:=CAM hs (by omega) a3.left
 have e4:=Vp hs (by omega) (by omega) a4
 simp only [List.length_append,bs_len,List.length_singleton,Nat.zero_add,←Nat.add_assoc] at e0 e1 e2 e3 e4
 obtain ⟨b1,b2,b3,b4⟩:=KAM x
 simp only [Ee,Lr]
 rw [show ((0:Int))=((0:Nat):Int) from rfl,e0]
 simp only [e1,e2,e3,e4,Option.bind_some,b1,b2,b3,b4,J8,h,toList_self]
 rfl
def UY (x:SThing):Bool:=(x.fId == 0) && ((x.fKind == 0) && ((x.fHidden == false) && ((x.fFixed == false) && ((x.fSigns == false) && ((x.fWraps == false) && (((ByteArray.toList x.fValue) == (ByteArray.toList (⟨#[]⟩:ByteArray))) && ((x.fNext == 0) && true)))))))
theorem DAE (x:SThing):((x.fId == 0) && ((x.fKind == 0) && ((x.fHidden == false) && ((x.fFixed == false) && ((x.fSigns == false) && ((x.fWraps == false) && (((ByteArray.toList x.fValue) == (ByteArray.toList (⟨#[]⟩:ByteArray))) && ((x.fNext == 0) && true))))))))=UY x:=rfl
def OY (s:ByteArray):Bool:=(ByteArray.toList s) == (ByteArray.toList (⟨#[]⟩:ByteArray))
theorem N8 (s:ByteArray):((ByteArray.toList s) == (ByteArray.toList (⟨#[]⟩:ByteArray)))=OY s:=rfl
def noT:ByteArray×Bool:=((⟨#[]⟩:ByteArray),false)
def CY (r:SRec):ByteArray×Bool:=
 bif r.fKind == 1 then (bif (r.fText.size:Int) == 32 && r.fNum == 0 && UY r.fThing then (ofBytes [1]++r.fText,true) else noT)
 else bif r.fKind == 2 then (bif OY r.fText && UY r.fThing && FN r.fNum 0 3 then (ofBytes [2]++ofBytes (IK r.fNum),true) else noT)
 else bif r.fKind == 3 then (bif (AY r.fThing).2 && OY r.fText && r.fNum == 0 then (ofBytes [3]++(AY r.fThing).1,true) else noT)
 else bif r.fKind == 4 then (bif OY r.fText && UY r.fThing && FN r.fNum 1 1000 then (ofBytes [4]++ofBytes (IK r.fNum),true) else noT)
 else noT
theorem Gv {n a b:Int} (hb:b≤1000) (h:FN n a b=true) (k:Int):(ofBytes [k]).size+(ofBytes (IK n)).size≤9223372036854775807:=by
 rw [SX] at h
 have:=DZ (n:=n) (by omega)
 rw [ofBytes_size,ofBytes_size];simp only [List.length_singleton];omega
theorem EAE {x:SThing} (h:(AY x).2=true) (k:Int):(ofBytes [k]).size+(AY x).1.size≤9223372036854775807:=by
 unfold AY at h ⊢
 cases ho:IZ x
 ·rw [ho] at h;cases h
 ·have:=JAM ho
  rw [ofBytes_size];simp only [List.length_singleton,cond_true];omega
theorem Xp (r:SRec):Nl r=some (CY r):=by
 have h1:(⟨#[1]⟩:ByteArray)=ofBytes [1]:=rfl
 have h2:(⟨#[2]⟩:ByteArray)=ofBytes [2]:=rfl
 have h3:(⟨#[3]⟩:ByteArray)=ofBytes [3]:=rfl
 have h4:(⟨#[4]⟩:ByteArray)=ofBytes [4]:=rfl
 simp only [Nl,Az,Ld,J8,Option.bind_some,DAE,h1,h2,h3,h4]
 simp only [N8,CY]
 cases r.fKind == 1
 ·simp only [cond_false]
  cases r.fKind == 2
  ·simp only [cond_false]
   cases r.fKind == 3
   ·simp only [cond_false]
    cases r.fKind == 4
    ·rfl
    ·cases OY r.fText <;> cases UY r.fThing <;> (try rfl)
     cases h:FN r.fNum 1 1000
     ·rfl
     ·have h':=h
      rw [SX] at h'
      simp only [cond_true,Md (n:=r.fNum) (by omega),Option.bind_some,Bool.and_self,decide_eq_true (Gv (by omega) h 4)]
   ·cases h:(AY r.fThing).2
    ·rfl
    ·cases OY r.fText <;> cases r.fNum == 0 <;> (try rfl)
     simp only [cond_true,Bool.and_self,decide_eq_true (EAE h 3)]
  ·cases OY r.fText <;> cases UY r.fThing <;> (try rfl)
   cases h:FN r.fNum 0 3
   ·rfl
   ·have h':=h
    rw [SX] at h'
    simp only [cond_true,Md (n:=r.fNum) (by omega),Option.bind_some,Bool.and_self,decide_eq_true (Gv (by omega) h 2)]
 ·cases h:(r.fText.size:Int) == 32 <;> cases r.fNum == 0 <;> cases UY r.fThing <;> (try rfl)
  have h':r.fText.size=32:=by have:=beq_iff_eq.1 h;omega
  have e:(ofBytes [1]).size+r.fText.size≤9223372036854775807:=by rw [ofBytes_size];simp only [List.length_singleton];omega
  simp only [cond_true,Bool.and_self,decide_eq_true e]
def VY:SRec:=⟨(0:Int),(⟨#[]⟩:ByteArray),(0:Int),(⟨(0:Int),(0:Int),false,false,false,false,(⟨#[]⟩:ByteArray),(0:Int)⟩:SThing)⟩
def Zi (text:ByteArray) (r:SRec×Bool):Prop:=(r.2=true∧CY r.1=(text,true))∨r=(VY,false)
theorem Aj {text:ByteArray} (x:SRec) (bad:Bool):∃ r,(bif bad then some (VY,false) else bif !(CY x).2 then some (VY,false) else bif !((ByteArray.toList (CY x).1) == (ByteArray.toList text)) then some (VY,false) else some (x,true))=some r∧Zi text r:=by
 cases bad
 ·cases h5:(CY x).2
  ·exact ⟨_,rfl,.inr rfl⟩
  ·rw [toList_inj]
   by_cases h6:(CY x).1=text
   ·rw [decide_eq_true h6];exact ⟨_,rfl,.inl ⟨rfl,Prod.ext h6 h5⟩⟩
   ·rw [decide_eq_false h6];exact ⟨_,rfl,.inr rfl⟩
 ·exact ⟨_,rfl,.inr rfl⟩
theorem O8 {text:ByteArray} (hs:text.size≤140737488351232):∃ r,BZ text=some r∧Zi text r:=by
 obtain ⟨v0,c0,e0,h0,_,_,hz,hn⟩:=H8 hs (c:=⟨text,(0:Int),false⟩) ⟨0,false,rfl,by omega⟩
 obtain ⟨v1,c1,e1,h1,_⟩:=F8 (n:=32) hs h0 (by omega) (by omega)
 obtain ⟨v3,c3,e3,h3,_⟩:=Fv hs h0
 simp only [BZ,Gf,e0,e1,e3,Xp,Option.bind_some]
 cases v0 == 1
 ·simp only [cond_false]
  cases v0 == 2
  ·simp only [cond_false]
   cases v0 == 4
   ·simp only [cond_false]
    cases h:v0 == 3
    ·exact Aj _ _
    ·have hv:v0=3:=beq_iff_eq.1 h
     have hsz:(0:Int)+1≤(text.size:Int):=by
      cases hb:c0.fBad
      ·exact hn hb
      ·have:=hz hb;omega
     obtain ⟨r,e5,_⟩:=AAE (text:=text.extract (1:Int).toNat text.size) (by rw [ByteArray.size_extract];omega)
     rw [show decide ((1:Int)≤(text.size:Int))=true from decide_eq_true (by omega),e5]
     exact Aj _ _
   ·exact Aj _ _
  ·exact Aj _ _
 ·exact Aj _ _
theorem FAE {text:ByteArray} {x:SRec} (h:CY x=(text,true)) :
  (∃ s:ByteArray,x=⟨1,s,0,VY.fThing⟩∧s.size=32∧text=ofBytes [1]++s)∨(∃ n:Int,x=⟨2,VY.fText,n,VY.fThing⟩∧0≤n∧n≤3∧text=ofBytes [2]++ofBytes (IK n))∨
  (∃ t:SThing,∃ s:ByteArray,x=⟨3,VY.fText,0,t⟩∧AY t=(s,true)∧text=ofBytes [3]++s)∨(∃ n:Int,x=⟨4,VY.fText,n,VY.fThing⟩∧1≤n∧n≤1000∧text=ofBytes [4]++ofBytes (IK n)):=by
 have hE:∀ s:ByteArray,OY s=true→s=⟨#[]⟩:=fun s h=>by unfold OY at h;rw [toList_inj] at h;exact of_decide_eq_true h
 have hZ:∀ t:SThing,UY t=true→t=VY.fThing:=fun t h=>by
  unfold UY at h
  simp only [N8] at h
  obtain ⟨t1,t2,t3,t4,t5,t6,t7,t8⟩:=t
  simp only [Bool.and_eq_true,beq_iff_eq] at h
  obtain ⟨rfl,rfl,rfl,rfl,rfl,rfl,h7,rfl,_⟩:=h
  rw [hE _ h7];rfl
 obtain ⟨k,s,n,t⟩:=x
 unfold CY at h
 simp only at h
 cases k1:k == 1 <;> rw [k1] at h
 ·cases k2:k == 2 <;> rw [k2] at h
  ·cases k3:k == 3 <;> rw [k3] at h
   ·cases k4:k == 4 <;> rw [k4] at h
    ·exact Bool.noConfusion (congrArg Prod.snd h)
    ·simp only [cond_false,cond_true] at h
     cases hc:OY s && UY t && FN n 1 1000 <;> rw [hc] at h
     ·exact Bool.noConfusion (congrArg Prod.snd h)
     ·simp only [Bool.and_eq_true,SX] at hc
      refine .inr (.inr (.inr ⟨n,?_,hc.2.1,hc.2.2,(congrArg Prod.fst h).symm⟩))
      rw [beq_iff_eq.1 k4,hE _ hc.1.1,hZ _ hc.1.2];rfl
   ·simp only [cond_false,cond_true] at h
    cases hc:(AY t).2 && OY s && n == 0 <;> rw [hc] at h
    ·exact Bool.noConfusion (congrArg Prod.snd h)
    ·simp only [Bool.and_eq_true,beq_iff_eq] at hc
     refine .inr (.inr (.inl ⟨t,(AY t).1,?_,Prod.ext rfl hc.1.1,(congrArg Prod.fst h).symm⟩))
     rw [beq_iff_eq.1 k3,hE _ hc.1.2,hc.2];rfl
  ·simp only [cond_false,cond_true] at h
   cases hc:OY s && UY t && FN n 0 3 <;> rw [hc] at h
   ·exact Bool.noConfusion (congrArg Prod.snd h)
   ·simp only [Bool.and_eq_true,SX] at hc
    refine .inr (.inl ⟨n,?_,hc.2.1,hc.2.2,(congrArg Prod.fst h).symm⟩)
    rw [beq_iff_eq.1 k2,hE _ hc.1.1,hZ _ hc.1.2];rfl
 ·simp only [cond_false,cond_true] at h
  cases hc:(s.size:Int) == 32 && n == 0 && UY t <;> rw [hc] at h
  ·exact Bool.noConfusion (congrArg Prod.snd h)
  ·simp only [Bool.and_eq_true,beq_iff_eq] at hc
   refine .inl ⟨s,?_,by omega,(congrArg Prod.fst h).symm⟩
   rw [beq_iff_eq.1 k1,hZ _ hc.2,hc.1.2]
theorem Jh {k:Int} {s:ByteArray} (h0:0≤k) (h1:k≤255):At (ofBytes [k]++s) 0 ([k]++bs s):=⟨[],by rw [List.drop_zero,YX,SN (by simp;omega),List.append_nil]⟩
theorem P8 {k:Int} {s:ByteArray}:(ofBytes [k]++s).extract (1:Int).toNat (ofBytes [k]++s).size=s:=by
 apply EZ
 rw [NY,←bs_len,List.take_length,YX]
 rfl
theorem LAM {text:ByteArray} {x:SRec} (hs:text.size≤140737488351232) (h:CY x=(text,true)):BZ text=some (x,true):=by
 rcases FAE h with ⟨s,rfl,hz,rfl⟩ | ⟨n,rfl,h0,h1,rfl⟩ | ⟨t,s,rfl,ht,rfl⟩ | ⟨n,rfl,h0,h1,rfl⟩
 ·have hA:=Jh (k:=1) (s:=s) (by omega) (by omega)
  have e0:=Xi hs hA.left
  have e1:=G8 hs hA.right (by rw [ba_append_size,ofBytes_size];simp)
  simp only [List.length_singleton,Nat.zero_add,hz] at e0 e1
  simp only [BZ,Gf]
  rw [show RZ ⟨ofBytes [1]++s,(0:Int),false⟩=_ from e0]
  simp only [Option.bind_some]
  rw [show QZ ⟨ofBytes [1]++s,((1:Nat):Int),false⟩ 32=_ from e1]
  have h':CY ⟨1,s,0,⟨(0:Int),(0:Int),false,false,false,false,(⟨#[]⟩:ByteArray),(0:Int)⟩⟩=_:=h
  simp only [Option.bind_some,Xp,h',toList_self]
  rfl
 ·have hA:=Jh (k:=2) (s:=ofBytes (IK n)) (by omega) (by omega)
  rw [SN (Cb n h0)] at hA
  have e0:=Xi hs hA.left
  have e1:=Vp hs (by omega) (by omega) hA.right
  simp only [List.length_singleton,Nat.zero_add] at e0 e1
  simp only [BZ,Gf]
  rw [show RZ ⟨ofBytes [2]++ofBytes (IK n),(0:Int),false⟩=_ from e0]
  have h':CY ⟨2,⟨#[]⟩,n,⟨(0:Int),(0:Int),false,false,false,false,(⟨#[]⟩:ByteArray),(0:Int)⟩⟩=_:=h
  simp only [Option.bind_some,e1,Xp,h',toList_self]
  rfl
 ·have hA:=Jh (k:=3) (s:=s) (by omega) (by omega)
  have e0:=Xi hs hA.left
  have hsz:s.size≤140737488351232:=by rw [ba_append_size] at hs;omega
  have e1:=CAE hsz ht
  simp only [List.length_singleton,Nat.zero_add] at e0
  simp only [BZ,Gf]
  rw [show RZ ⟨ofBytes [3]++s,(0:Int),false⟩=_ from e0]
  have h':CY ⟨3,⟨#[]⟩,0,t⟩=_:=h
  have hd:decide ((1:Int)≤((ofBytes [3]++s).size:Int))=true:=decide_eq_true (by rw [ba_append_size,ofBytes_size];simp only [List.length_singleton];omega)
  simp only [Option.bind_some,P8,e1,Xp,h',toList_self,hd]
  rfl
 ·have hA:=Jh (k:=4) (s:=ofBytes (IK n)) (by omega) (by omega)
  rw [SN (Cb n (by omega))] at hA
  have e0:=Xi hs hA.left
  have e1:=Vp hs (by omega) (by omega) hA.right
  simp only [List.length_singleton,Nat.zero_add] at e0 e1
  simp only [BZ,Gf]
  rw [show RZ ⟨ofBytes [4]++ofBytes (IK n),(0:Int),false⟩=_ from e0]
  have h':CY ⟨4,⟨#[]⟩,n,⟨(0:Int),(0:Int),false,false,false,false,(⟨#[]⟩:ByteArray),(0:Int)⟩⟩=_:=h
  simp only [Option.bind_some,e1,Xp,h',toList_self]
  rfl
theorem Yp:∀ {a m:List Int},CV a→a.length≤m.length→RX (RX a m) m=a
 | [],_,_,_=>by simp [RX]
 | _::_,[],_,h=>by simp at h
 | x::a,y::m,hb,h=>by
  have h1:=Yp (a:=a) (m:=m) (fun n hn=>hb n (List.mem_cons_of_mem _ hn)) (by simpa using h)
  simp only [RX] at h1 ⊢
  rw [List.zipWith_cons_cons,List.zipWith_cons_cons,h1,GAJ (hb x (List.mem_cons_self ..))]
theorem MAM {k t:ByteArray} {num:Int} (h:(VX k num t).2=true):16≤t.size∧maskOk num ((t.size:Int) - 16)=true∧XY (bs k) num ((bs t).take (t.size - 16))=(bs t).drop (t.size - 16)∧bs (VX k num t).1=RX ((bs t).take (t.size - 16)) (HY (bs k) (IK num) (t.size - 16))∧bs t=(bs t).take (t.size - 16)++XY (bs k) num ((bs t).take (t.size - 16)):=by
 rw [VX] at h ⊢
 cases h1:decide ((t.size:Int)<16) || !(maskOk num ((t.size:Int) - 16))
 ·rw [h1,cond_false] at h
  rw [Bool.or_eq_false_iff,decide_eq_false_iff_not,Bool.not_eq_false'] at h1
  cases h2:(XY (bs k) num ((bs t).take (t.size - 16)) == (bs t).drop (t.size - 16))
  ·rw [h2] at h;cases h
  ·rw [cond_false,cond_true,SN (ZAC _ _)]
   have h3:=beq_iff_eq.1 h2
   exact ⟨by omega,h1.2,h3,rfl,by rw [h3,List.take_append_drop]⟩
 ·rw [h1] at h;cases h
theorem GAE (k t:ByteArray) (num:Int):(VX k num t).1.size≤t.size:=by
 have hl:=bs_len t
 rw [VX]
 cases decide ((t.size:Int)<16) || !(maskOk num ((t.size:Int) - 16))
 ·rw [cond_false]
  cases (XY (bs k) num ((bs t).take (t.size - 16)) == (bs t).drop (t.size - 16))
  ·exact Nat.zero_le _
  ·rw [cond_true,ofBytes_size,RX,List.length_zipWith,List.length_take];omega
 ·exact Nat.zero_le _
theorem GAO {k:ByteArray} {num:Int} {s:List Int} (hs:CV s) (hm:maskOk num s.length=true):VX k num (ofBytes (GZ (bs k) num s))=(ofBytes s,true):=by
 have hx:(RX s (HY (bs k) (IK num) s.length)).length=s.length:=Wu (by rw [Lc];omega)
 have hb:CV (GZ (bs k) num s):=fun x hx=>by
  rcases List.mem_append.1 hx with hx | hx
  ·exact ZAC _ _ x hx
  ·exact Jp _ _ _ x hx
 have hsz:(ofBytes (GZ (bs k) num s)).size=s.length+16:=by rw [ofBytes_size,GZ,List.length_append,hx,O7]
 rw [VX,SN hb,hsz,Nat.add_sub_cancel,show ((s.length+16:Nat):Int) - 16=(s.length:Int) by omega,hm]
 have h1:decide (((s.length+16:Nat):Int)<16)=false:=by rw [decide_eq_false_iff_not];omega
 have h2:(GZ (bs k) num s).take s.length=RX s (HY (bs k) (IK num) s.length):=by rw [GZ,List.take_append_of_le_length (by omega),List.take_of_length_le (by omega)]
 have h3:(GZ (bs k) num s).drop s.length=XY (bs k) num (RX s (HY (bs k) (IK num) s.length)):=by rw [GZ,List.drop_append_of_le_length (by omega),List.drop_of_length_le (by omega),List.nil_append]
 rw [h1,h2,h3,beq_self_eq_true,Yp hs (by rw [Lc];omega)]
 rfl
theorem HAO {k t:ByteArray} {num:Int} (h:(VX k num t).2=true):GZ (bs k) num (bs (VX k num t).1)=bs t:=by
 obtain ⟨h1,h2,h3,h4,h5⟩:=MAM h
 have hl:((bs t).take (t.size - 16)).length=t.size - 16:=by rw [List.length_take,bs_len];omega
 have hx:(bs (VX k num t).1).length=t.size - 16:=by rw [h4,Wu (by rw [Lc];omega),hl]
 rw [GZ,hx,h4,Yp (fun n hn=>Ia t n (List.mem_of_mem_take hn)) (by rw [Lc];omega),←h5]
theorem IAO {k:ByteArray} {num:Int} {a b:List Int} (ha:CV a) (hb:CV b) (h:GZ (bs k) num a=GZ (bs k) num b):a=b:=by
 have xa:(RX a (HY (bs k) (IK num) a.length)).length=a.length:=Wu (by rw [Lc];omega)
 have xb':(RX b (HY (bs k) (IK num) b.length)).length=b.length:=Wu (by rw [Lc];omega)
 have hl:=congrArg List.length h
 rw [GZ,GZ,List.length_append,List.length_append,xa,xb',O7,O7] at hl
 have hab:a.length=b.length:=by omega
 have h1:=(List.append_inj h (by rw [xa,xb',hab])).1
 have h2:RX (RX a (HY (bs k) (IK num) a.length)) (HY (bs k) (IK num) a.length)=RX (RX b (HY (bs k) (IK num) b.length)) (HY (bs k) (IK num) b.length):=by rw [h1,hab]
 rw [Yp ha (by rw [Lc];omega),Yp hb (by rw [Lc];omega)] at h2
 exact h2
def Jv (text:ByteArray) (c:SFields):Prop:=∃ p:Nat,∃ b:Bool,c=⟨text,(p:Int),b⟩∧p≤text.size
theorem Kv {text:ByteArray} {c:SFields} (hs:text.size≤140737488351232) (h:Jv text c):∃ v c',Me c=some (v,c')∧Jv text c':=by
 obtain ⟨p,b,rfl,hp⟩:=h
 obtain ⟨r,hr,hR⟩:=Q7 hs hp
 simp only [Me,Jt,hr,Option.bind_some]
 rcases hR with rfl | ⟨v,q,rfl,h0,h1,_,h3⟩
 ·exact ⟨_,_,rfl,⟨p,true,rfl,hp⟩⟩
 ·exact ⟨_,_,rfl,⟨q,b,rfl,h3⟩⟩
theorem Nv {text:ByteArray} {a:Nat} {V:Int} (hs:text.size≤140737488351232) (hV0:0≤V) (hV:V≤1000000000) (hA:At text a (IK V)):Me ⟨text,(a:Int),false⟩=some (V,⟨text,((a+(IK V).length:Nat):Int),false⟩):=by
 simp only [Me,Jt,Qp hs hV0 hV hA,Option.bind_some]
 rfl
theorem NAM {text:ByteArray} {a:Nat} (hs:text.size≤140737488351232) (ha:a≤text.size):∃ s q ok,Ag text a=some (s,q,ok)∧(ok=true→∃ p:Nat,q=(p:Int)∧p≤text.size):=by
 obtain ⟨r,hr,hR⟩:=Q7 hs ha
 simp only [Ag,Kt,hr,Option.bind_some]
 rcases hR with rfl | ⟨v,q,rfl,h0,h1,h2,h3⟩
 ·exact ⟨_,_,_,rfl,fun h=>by cases h⟩
 ·rw [w64_id (n:=(text.size:Int) - (q:Int)) (by omega) (by omega),w64_id (n:=(q:Int)+v) (by omega) (by omega)]
  simp only [Bool.not_true,cond_false]
  cases decide (v > 20000)
  ·by_cases hv:v > (text.size:Int) - (q:Int)
   ·rw [decide_eq_true hv];exact ⟨_,_,_,rfl,fun h=>by cases h⟩
   ·rw [decide_eq_false hv,show decide ((0:Int)≤(q:Int))=true from decide_eq_true (by omega),show decide ((q:Int)≤q+v)=true from decide_eq_true (by omega),show decide ((q:Int)+v≤(text.size:Int))=true from decide_eq_true (by omega)]
    exact ⟨_,_,_,rfl,fun _=>⟨((q:Int)+v).toNat,by omega,by omega⟩⟩
  ·exact ⟨_,_,_,rfl,fun h=>by cases h⟩
theorem OAM {text:ByteArray} {p:Nat} {s:ByteArray} (hs:text.size≤140737488351232) (hz:s.size≤20000) (hA:At text p (IK (s.size:Int)++bs s)):Ag text p=some (s,((p+(IK (s.size:Int)).length+s.size:Nat):Int),true):=by
 have hp:p+(IK (s.size:Int)).length≤text.size:=by
  rcases hA.left.size with h | h
  ·have:=Ya (s.size:Int);rw [h] at this;simp at this
  ·exact h
 have hA2:=hA.right
 have hx:=hA2.extract (fun n hn=>X6 hn)
 rw [bs_len,Gu] at hx
 simp only [Ag,Kt,Qp hs (by omega) (by omega) hA.left,Option.bind_some]
 generalize p+(IK (s.size:Int)).length=q at *
 have hz:q+s.size≤text.size:=by
  rcases hA2.size with h | h
  ·have:=congrArg List.length h;rw [bs_len,List.length_nil] at this;omega
  ·rw [bs_len] at h;exact h
 have e2:w64 ((q:Int)+(s.size:Int))=((q+s.size:Nat):Int):=by rw [w64_id (by omega) (by omega)];omega
 rw [w64_id (n:=(text.size:Int) - (q:Int)) (by omega) (by omega),e2,Int.toNat_natCast,Int.toNat_natCast,hx,
  show decide ((s.size:Int) > 20000)=false from decide_eq_false (by omega),show decide ((s.size:Int) > (text.size:Int) - (q:Int))=false from decide_eq_false (by omega),show decide ((0:Int)≤(q:Int))=true from decide_eq_true (by omega),show decide ((q:Int)≤((q+s.size:Nat):Int))=true from decide_eq_true (by omega),show decide (((q+s.size:Nat):Int)≤(text.size:Int))=true from decide_eq_true (by omega)]
 rfl
theorem PAM {text:ByteArray} {c:SFields} (hs:text.size≤140737488351232) (h:Jv text c):∃ v c',Bg c=some (v,c')∧Jv text c':=by
 obtain ⟨p,b,rfl,hp⟩:=h
 obtain ⟨s,q,ok,hr,hR⟩:=NAM hs hp
 simp only [Bg,Ot,hr,Option.bind_some]
 cases ok
 ·exact ⟨_,_,rfl,⟨p,true,rfl,hp⟩⟩
 ·obtain ⟨q,rfl,h3⟩:=hR rfl
  exact ⟨_,_,rfl,⟨q,b,rfl,h3⟩⟩
theorem QAM {text:ByteArray} {p:Nat} {s:ByteArray} (hs:text.size≤140737488351232) (hz:s.size≤20000) (hA:At text p (IK (s.size:Int)++bs s)):Bg ⟨text,(p:Int),false⟩=some (s,⟨text,((p+(IK (s.size:Int)).length+s.size:Nat):Int),false⟩):=by
 simp only [Bg,Ot,OAM hs hz hA,Option.bind_some]
 rfl
theorem RAM (x:SThing):Wn x=some (IZ x):=by
 simp only [Wn,D5,Xd,Option.bind_some,IZ,bne]
 by_cases k1:x.fKind=1
 ·rw [k1]
  cases FN x.fId 1 1000 <;> cases FN x.fNext 0 16 <;> cases (x.fNext == 0) <;> cases x.fSigns <;> cases x.fWraps <;> simp [FN]
 ·by_cases k2:x.fKind=2
  ·rw [k2]
   cases FN x.fId 1 1000 <;> cases FN x.fNext 0 16 <;> cases (x.fNext == 0) <;> cases x.fSigns <;> cases x.fWraps <;> simp [FN]
  ·by_cases k3:x.fKind=3
   ·rw [k3]
    cases FN x.fId 1 1000 <;> cases FN x.fNext 0 16 <;> cases (x.fNext == 0) <;> cases x.fSigns <;> cases x.fWraps <;> simp [FN]
   ·have hr:FN x.fKind 1 3=false:=by
     cases h:FN x.fKind 1 3
     ·rfl
     ·rw [SX] at h;omega
    have e1:(x.fKind == 1)=false:=by simpa using k1
    have e2:(x.fKind == 2)=false:=by simpa using k2
    have e3:(x.fKind == 3)=false:=by simpa using k3
    rw [hr,e1,e2,e3]
    cases FN x.fId 1 1000 <;> cases FN x.fNext 0 16 <;> cases (x.fNext == 0) <;> cases x.fSigns <;> cases x.fWraps <;> rfl
theorem SAM {s:ByteArray} (h:s.size≤140737488351232):Zn s=some (Vb s):=by
 simp only [Zn,J5,Gh (n:=(s.size:Int)) (by omega),Option.bind_some]
 have:=DZ (n:=(s.size:Int)) (by omega)
 rw [show decide ((ofBytes (IK (s.size:Int))).size+s.size≤9223372036854775807)=true from decide_eq_true (by rw [ofBytes_size];omega)]
 rfl
theorem Q8 (x:SThing):Fg x=some (AY x):=by
 simp only [Fg,O5,RAM,Option.bind_some,AY]
 cases h:IZ x
 ·rfl
 ·obtain ⟨k1,k2,k3,k4,k5,k6,k7⟩:=Yi h
  obtain ⟨z1,z2,z3⟩:=I8 h
  have hf:=Wp x
  have e1:∀ n:Int,(ofBytes [n]).size=1:=fun n=>ofBytes_size _
  simp only [IAM,Option.bind_some,Gh (n:=x.fId) (by omega),Ih (n:=x.fKind) (by omega) (by omega),Ih hf.1 (by omega),SAM (s:=x.fValue) (by omega),Gh (n:=x.fNext) (by omega),ba_append_size,e1]
  simp only [Bool.not_true,cond_false,cond_true]
  rw [show decide ((ofBytes (IK x.fId)).size+1≤9223372036854775807)=true from decide_eq_true (by omega),show decide ((ofBytes (IK x.fId)).size+1+1≤9223372036854775807)=true from decide_eq_true (by omega),
   show decide ((ofBytes (IK x.fId)).size+1+1+(Vb x.fValue).size≤9223372036854775807)=true from decide_eq_true (by omega),show decide ((ofBytes (IK x.fId)).size+1+1+(Vb x.fValue).size+(ofBytes (IK x.fNext)).size≤9223372036854775807)=true from decide_eq_true (by omega)]
  rfl
theorem TAM (x:SThing):((w64 (((BitVec.toNat ((BitVec.ofInt (IntKind.bits IntKind.i64) (IY x)) &&& (BitVec.ofInt (IntKind.bits IntKind.i64) (1:Int)))):Nat):Int) != 0)=x.fHidden)∧((w64 (((BitVec.toNat ((BitVec.ofInt (IntKind.bits IntKind.i64) (IY x)) &&& (BitVec.ofInt (IntKind.bits IntKind.i64) (2:Int)))):Nat):Int) != 0)=x.fFixed)∧((w64 (((BitVec.toNat ((BitVec.ofInt (IntKind.bits IntKind.i64) (IY x)) &&& (BitVec.ofInt (IntKind.bits IntKind.i64) (4:Int)))):Nat):Int) != 0)=x.fSigns)∧((w64 (((BitVec.toNat ((BitVec.ofInt (IntKind.bits IntKind.i64) (IY x)) &&& (BitVec.ofInt (IntKind.bits IntKind.i64) (8:Int)))):Nat):Int) != 0)=x.fWraps):=by
 unfold IY
 cases x.fHidden <;> cases x.fFixed <;> cases x.fSigns <;> cases x.fWraps <;> refine ⟨?_,?_,?_,?_⟩ <;> kernel_rfl
theorem HAE {text:ByteArray} (hs:text.size≤140737488351232):∃ r,Oe text=some r∧L8 text r:=by
 obtain ⟨v0,c0,e0,h0⟩:=Kv hs (c:=⟨text,(0:Int),false⟩) ⟨0,false,rfl,by omega⟩
 obtain ⟨v1,c1,e1,h1⟩:=Kv hs h0
 obtain ⟨v2,c2,e2,h2⟩:=Kv hs h1
 obtain ⟨v3,c3,e3,h3⟩:=PAM hs h2
 obtain ⟨v4,c4,e4,h4⟩:=Kv hs h3
 simp only [Oe,Tt,e0,e1,e2,e3,e4,Q8,Option.bind_some]
 generalize (w64 (((BitVec.toNat ((BitVec.ofInt (IntKind.bits IntKind.i64) v2) &&& (BitVec.ofInt (IntKind.bits IntKind.i64) (1:Int)))):Nat):Int) != 0)=b1
 generalize (w64 (((BitVec.toNat ((BitVec.ofInt (IntKind.bits IntKind.i64) v2) &&& (BitVec.ofInt (IntKind.bits IntKind.i64) (2:Int)))):Nat):Int) != 0)=b2
 generalize (w64 (((BitVec.toNat ((BitVec.ofInt (IntKind.bits IntKind.i64) v2) &&& (BitVec.ofInt (IntKind.bits IntKind.i64) (4:Int)))):Nat):Int) != 0)=b3
 generalize (w64 (((BitVec.toNat ((BitVec.ofInt (IntKind.bits IntKind.i64) v2) &&& (BitVec.ofInt (IntKind.bits IntKind.i64) (8:Int)))):Nat):Int) != 0)=b4
 cases c4.fBad
 ·cases h5:(AY (⟨v0,v1,b1,b2,b3,b4,v3,v4⟩:SThing)).2
  ·exact ⟨_,rfl,.inr rfl⟩
  ·rw [toList_inj]
   by_cases h6:(AY (⟨v0,v1,b1,b2,b3,b4,v3,v4⟩:SThing)).1=text
   ·rw [decide_eq_true h6];exact ⟨_,rfl,.inl ⟨rfl,Prod.ext h6 h5⟩⟩
   ·rw [decide_eq_false h6];exact ⟨_,rfl,.inr rfl⟩
 ·exact ⟨_,rfl,.inr rfl⟩
theorem IAE {text:ByteArray} {x:SThing} (hs:text.size≤140737488351232) (h:AY x=(text,true)):Oe text=some (x,true):=by
 obtain ⟨ho,rfl⟩:=BAE h
 obtain ⟨k1,k2,k3,k4,k5,k6,k7⟩:=Yi ho
 have hf:=Wp x
 have hA:At (Zd x) 0 _:=⟨[],by rw [List.drop_zero,ZAD ho,List.append_nil]⟩
 rw [←Yo (n:=x.fKind) (by omega) (by omega),←Yo (n:=IY x) (by omega) (by omega)] at hA
 have a1:=hA.right
 have a2:=a1.right
 have a3:=a2.right
 have a4:=a3.right
 have e0:=Nv hs (by omega) (by omega) hA.left
 have e1:=Nv hs (by omega) (by omega) a1.left
 have e2:=Nv hs (by omega) (by omega) a2.left
 have e3:=QAM hs (by omega) a3.left
 have e4:=Nv hs (by omega) (by omega) a4
 simp only [List.length_append,bs_len,Nat.zero_add,←Nat.add_assoc] at e0 e1 e2 e3 e4
 obtain ⟨b1,b2,b3,b4⟩:=TAM x
 simp only [Oe,Tt]
 rw [show Me ⟨Zd x,(0:Int),false⟩=_ from e0]
 simp only [e1,e2,e3,e4,Option.bind_some,b1,b2,b3,b4,Q8,h,toList_self]
 rfl
theorem JAO {text:ByteArray} (hs:text.size≤140737488351232):∃ r,Ee text=some r∧Oe text=some r∧L8 text r:=by
 obtain ⟨r,hr,h⟩:=AAE hs
 obtain ⟨q,hq,h'⟩:=HAE hs
 rcases h with ⟨h1,h2⟩ | h
 ·have:=IAE hs h2
  refine ⟨r,hr,?_,.inl ⟨h1,h2⟩⟩
  rw [this];congr 1;exact Prod.ext rfl h1.symm
 ·rcases h' with ⟨h1,h2⟩ | h'
  ·have:=CAE hs h2
   rw [hr] at this
   injection this with this
   rw [h] at this
   exact Bool.noConfusion (congrArg Prod.snd this)
  ·exact ⟨r,hr,by rw [hq,h',h],.inr h⟩
theorem Lh {r:SRec} (g:r.fNum≤9223372036854775807):Bo r=some (CY r):=by
 simp only [Bo,U5,Xd,Q8,Gh g,Option.bind_some,DAE]
 simp only [N8,CY]
 cases k1:r.fKind == 1
 ·simp only [cond_false]
  cases k2:r.fKind == 2
  ·simp only [cond_false]
   cases k3:r.fKind == 3
   ·simp only [cond_false]
    cases k4:r.fKind == 4
    ·rfl
    ·have k:r.fKind=4:=by simpa using k4
     rw [k]
     simp only [beq_self_eq_true,Ih (n:=4) (by omega) (by omega),Option.bind_some,Bool.true_and,cond_true]
     cases h:FN r.fNum 1 1000
     ·cases OY r.fText <;> cases UY r.fThing <;> rfl
     ·cases OY r.fText <;> cases UY r.fThing <;> (try rfl)
      simp only [Bool.not_true,cond_false,cond_true,Bool.and_self,decide_eq_true (Gv (by omega) h 4)]
   ·have k:r.fKind=3:=by simpa using k3
    rw [k]
    simp only [beq_self_eq_true,Ih (n:=3) (by omega) (by omega),Option.bind_some,Bool.true_and,cond_true,Bool.and_true]
    cases h:(AY r.fThing).2
    ·cases OY r.fText <;> cases r.fNum == 0 <;> rfl
    ·cases OY r.fText <;> cases r.fNum == 0 <;> (try rfl)
     simp only [Bool.not_true,cond_false,cond_true,Bool.and_self,decide_eq_true (EAE h 3)]
  ·have k:r.fKind=2:=by simpa using k2
   rw [k]
   simp only [beq_self_eq_true,Ih (n:=2) (by omega) (by omega),Option.bind_some,Bool.true_and,cond_true]
   cases h:FN r.fNum 0 3
   ·cases OY r.fText <;> cases UY r.fThing <;> rfl
   ·cases OY r.fText <;> cases UY r.fThing <;> (try rfl)
    simp only [Bool.not_true,cond_false,cond_true,Bool.and_self,decide_eq_true (Gv (by omega) h 2)]
 ·have k:r.fKind=1:=by simpa using k1
  rw [k]
  simp only [beq_self_eq_true,Ih (n:=1) (by omega) (by omega),Option.bind_some,Bool.true_and,cond_true]
  cases h:(r.fText.size:Int) == 32 <;> cases r.fNum == 0 <;> cases UY r.fThing <;> (try rfl)
  have h':r.fText.size=32:=by have:=beq_iff_eq.1 h;omega
  have e:(ofBytes [1]).size+r.fText.size≤9223372036854775807:=by rw [ofBytes_size];simp only [List.length_singleton];omega
  simp only [Bool.not_true,cond_false,cond_true,Bool.and_self,decide_eq_true e]
theorem U8 {text:ByteArray} (x:SRec):∃ r,(bif !(CY x).2 then some (VY,false) else bif !((ByteArray.toList (CY x).1) == (ByteArray.toList text)) then some (VY,false) else some (x,true))=some r∧Zi text r:=Aj x false
theorem UAM {text:ByteArray} (hs:text.size≤140737488351232):∃ r,KZ text=some r∧Zi text r:=by
 simp only [KZ,Gg]
 rw [toList_inj]
 by_cases he:text=⟨#[]⟩
 ·rw [decide_eq_true he];exact ⟨_,rfl,.inr rfl⟩
 ·have hz:0<text.size:=by
   rcases Nat.eq_zero_or_pos text.size with h | h
   ·exact absurd (EZ (List.eq_nil_of_length_eq_zero (by rw [bs_len];exact h)):text=⟨#[]⟩) he
   ·exact h
  rw [decide_eq_false he,show decide ((0:Int)<(text.size:Int))=true from decide_eq_true (by omega),show decide ((1:Int)≤(text.size:Int))=true from decide_eq_true (by omega)]
  have hb:=Qd text 0
  rw [w64_id (n:=bt text 0) (by omega) (by omega)]
  obtain ⟨⟨t,tb⟩,e1,_⟩:=HAE (text:=text.extract (1:Int).toNat text.size) (by rw [ByteArray.size_extract];omega)
  obtain ⟨⟨v,q,ok⟩,e2,hR⟩:=Q7 (a:=1) hs hz
  have hv:v≤1000000000:=by
   rcases hR with h | ⟨v',_,h,_,h1,_⟩
   ·have:=congrArg Prod.fst h;simp only [Za] at this;omega
   ·have:=congrArg Prod.fst h;simp only at this;omega
  rw [e1,show EY text (1:Int)=_ from e2]
  simp only [Option.bind_some,cond_false,cond_true,Bool.and_self]
  cases bt text 0 == 1
  ·simp only [cond_false]
   cases bt text 0 == 3
   ·simp only [cond_false]
    rw [Lh (by simp only;omega)]
    exact U8 _
   ·simp only [cond_true]
    rw [Lh (by simp only;omega)]
    exact U8 _
  ·simp only [cond_true]
   rw [Lh (by simp only;omega)]
   exact U8 _
theorem VAM {text:ByteArray} {x:SRec} (hs:text.size≤140737488351232) (h:CY x=(text,true)):KZ text=some (x,true):=by
 have hne:∀ (k:Int) (s:ByteArray),(decide (ofBytes [k]++s=⟨#[]⟩))=false:=fun k s=>decide_eq_false fun h=>by
  have:=congrArg ByteArray.size h
  rw [ba_append_size,ofBytes_size] at this
  simp only [List.length_singleton] at this
  have h0:(⟨#[]⟩:ByteArray).size=0:=rfl
  omega
 have hd:∀ (k:Int) (s:ByteArray),decide ((0:Int)<((ofBytes [k]++s).size:Int))=true∧decide ((1:Int)≤((ofBytes [k]++s).size:Int))=true:=fun k s=>by
  rw [ba_append_size,ofBytes_size];simp only [List.length_singleton]
  exact ⟨decide_eq_true (by omega),decide_eq_true (by omega)⟩
 have hk:∀ (k:Int) (s:ByteArray),0≤k→k≤255→w64 (bt (ofBytes [k]++s) 0)=k:=fun k s h0 h1=>by
  rw [(Jh (k:=k) (s:=s) h0 h1).left.head.2 |> fun e=>(show bt (ofBytes [k]++s) 0=k from e),w64_id (by omega) (by omega)]
 rcases FAE h with ⟨s,rfl,hz,rfl⟩ | ⟨n,rfl,h0,h1,rfl⟩ | ⟨t,s,rfl,ht,rfl⟩ | ⟨n,rfl,h0,h1,rfl⟩
 ·have h':CY ⟨1,s,0,⟨(0:Int),(0:Int),false,false,false,false,(⟨#[]⟩:ByteArray),(0:Int)⟩⟩=_:=h
  simp only [KZ,Gg,hk 1 s (by omega) (by omega),hd,P8,Lh (r:=⟨1,s,0,⟨(0:Int),(0:Int),false,false,false,false,(⟨#[]⟩:ByteArray),(0:Int)⟩⟩) (by simp only;omega),h',Option.bind_some,toList_inj,hne]
  simp [VY]
 ·have hA:=Jh (k:=2) (s:=ofBytes (IK n)) (by omega) (by omega)
  rw [SN (Cb n h0)] at hA
  have e1:=Qp hs (by omega) (by omega) hA.right
  simp only [List.length_singleton,Nat.zero_add] at e1
  have e2:EY (ofBytes [2]++ofBytes (IK n)) (1:Int)=_:=e1
  have h':CY ⟨2,⟨#[]⟩,n,⟨(0:Int),(0:Int),false,false,false,false,(⟨#[]⟩:ByteArray),(0:Int)⟩⟩=_:=h
  simp only [KZ,Gg,hk 2 _ (by omega) (by omega),hd,e2,Option.bind_some,Lh (r:=⟨2,⟨#[]⟩,n,⟨(0:Int),(0:Int),false,false,false,false,(⟨#[]⟩:ByteArray),(0:Int)⟩⟩) (by simp only;omega),h',toList_inj,hne]
  simp [VY]
 ·have hsz:s.size≤140737488351232:=by rw [ba_append_size] at hs;omega
  have e1:=IAE hsz ht
  have h':CY ⟨3,⟨#[]⟩,0,t⟩=_:=h
  simp only [KZ,Gg,hk 3 s (by omega) (by omega),hd,P8,e1,Option.bind_some,Lh (r:=⟨3,⟨#[]⟩,0,t⟩) (by simp only;omega),h',toList_inj,hne]
  simp [VY]
 ·have hA:=Jh (k:=4) (s:=ofBytes (IK n)) (by omega) (by omega)
  rw [SN (Cb n (by omega))] at hA
  have e1:=Qp hs (by omega) (by omega) hA.right
  simp only [List.length_singleton,Nat.zero_add] at e1
  have e2:EY (ofBytes [4]++ofBytes (IK n)) (1:Int)=_:=e1
  have h':CY ⟨4,⟨#[]⟩,n,⟨(0:Int),(0:Int),false,false,false,false,(⟨#[]⟩:ByteArray),(0:Int)⟩⟩=_:=h
  simp only [KZ,Gg,hk 4 _ (by omega) (by omega),hd,e2,Option.bind_some,Lh (r:=⟨4,⟨#[]⟩,n,⟨(0:Int),(0:Int),false,false,false,false,(⟨#[]⟩:ByteArray),(0:Int)⟩⟩) (by simp only;omega),h',toList_inj,hne]
  simp [VY]
theorem WAM {text:ByteArray} (hs:text.size≤140737488351232):∃ r,BZ text=some r∧KZ text=some r∧Zi text r:=by
 obtain ⟨r,hr,h⟩:=O8 hs
 obtain ⟨q,hq,h'⟩:=UAM hs
 rcases h with ⟨h1,h2⟩ | h
 ·have:=VAM hs h2
  refine ⟨r,hr,?_,.inl ⟨h1,h2⟩⟩
  rw [this];congr 1;exact Prod.ext rfl h1.symm
 ·rcases h' with ⟨h1,h2⟩ | h'
  ·have:=LAM hs h2
   rw [hr] at this
   injection this with this
   rw [h] at this
   exact Bool.noConfusion (congrArg Prod.snd this)
  ·exact ⟨r,hr,by rw [hq,h',h],.inr h⟩
noncomputable def Aa (t:ByteArray):SRec×Bool:=(BZ t).getD (⟨0,⟨#[]⟩,0,⟨0,0,false,false,false,false,⟨#[]⟩,0⟩⟩,false)
theorem XAM {t:ByteArray} (h:t.size≤140737488351232):BZ t=some (Aa t):=by
 obtain ⟨r,h1,_⟩:=O8 h
 rw [Aa,h1];rfl
theorem YAM {t:ByteArray} (h:t.size≤140737488351232):KZ t=some (Aa t):=by
 obtain ⟨r,h1,h2,_⟩:=WAM h
 rw [Aa,h1,h2];rfl
theorem KAO {t:ByteArray} (h:t.size≤140737488351232):Zi t (Aa t):=by
 obtain ⟨r,h1,h2⟩:=O8 h
 rw [Aa,h1];exact h2
noncomputable def Ba (k:ByteArray):Int→List ByteArray→List SRec×Int
 | _,[]=>([],0)
 | i,f::fs=>bif (VX k i f).2 && (Aa (VX k i f).1).2 then ((Aa (VX k i f).1).1::(Ba k (i+1) fs).1,((frameT f).1.size:Int)+(Ba k (i+1) fs).2) else ([],0)
noncomputable def Qc (k file:ByteArray):List SRec×Int:=Ba k 1 (XZ file).1
theorem ZAM {file:ByteArray} (hs:file.size≤140737488351232):∀ (j a:Nat),a≤file.size→(∀ f ∈ (KY j file a).1,f.size≤file.size)∧(KY j file a).1.length+a≤file.size∧(KY j file a).2≤file.size:=by
 intro j
 induction j with
 | zero=>intro a ha;exact ⟨fun f hf=>(by cases hf),by simpa [KY] using ha,ha⟩
 | succ j ih=>
  intro a ha
  rw [KY]
  rcases X7 hs ha with h | ⟨v,q,_,hq,_,_,_,h3,_,_,h⟩
  ·rw [h];exact ⟨fun f hf=>(by cases hf),by simpa using ha,ha⟩
  ·rw [h]
   obtain ⟨i1,i2,i3⟩:=ih (q+4+v.toNat) h3
   refine ⟨fun f hf=>?_,?_,i3⟩
   ·rcases List.mem_cons.1 hf with rfl | hf
    ·show (file.extract (q+4) (q+4+v.toNat)).size≤file.size
     rw [ByteArray.size_extract];omega
    ·exact i1 f hf
   ·show (_::(KY j file (q+4+v.toNat)).1).length+a≤file.size
    rw [List.length_cons];omega
theorem V8 {file:ByteArray}:(∀ f ∈ (XZ file).1,f.size≤20000)∧(XZ file).1.length≤20000∧0≤(XZ file).2∧(XZ file).2≤(file.size:Int):=by
 rw [XZ]
 by_cases h:(file.size:Int) > 20000
 ·rw [decide_eq_true h]
  exact ⟨fun f hf=>(by cases hf),(by decide:0≤20000),Int.le_refl 0,by show (0:Int)≤_;omega⟩
 ·rw [decide_eq_false h]
  obtain ⟨h1,h2,h3⟩:=ZAM (file:=file) (by omega) (file.size+1) 0 (Nat.zero_le _)
  exact ⟨fun f hf=>by have:=h1 f hf;omega,by show (KY (file.size+1) file 0).1.length≤20000;omega,by show (0:Int)≤((KY (file.size+1) file 0).2:Int);omega,by show ((KY (file.size+1) file 0).2:Int)≤_;omega⟩
theorem AAN (k:ByteArray):∀ (fs:List ByteArray) (i:Int),(Ba k i fs).1.length≤fs.length:=by
 intro fs
 induction fs with
 | nil=>intro i;exact Nat.le_refl _
 | cons f fs ih=>
  intro i
  rw [Ba]
  cases (VX k i f).2 && (Aa (VX k i f).1).2
  ·exact Nat.zero_le _
  ·rw [cond_true,List.length_cons,List.length_cons];have:=ih (i+1);omega
theorem BAN {k file:ByteArray} (hk:k.size≤900000000) (hf:file.size≤140737488351232):Rl k file=some (Qc k file):=by
 obtain ⟨u1,u2,_,_⟩:=V8 (file:=file)
 rw [Rl,Dz,SAJ hf,Option.bind_some,Qc]
 generalize (XZ file).1=l at u1 u2
 have key:∀ (j i m:Nat) (e:Int) (out:List SRec),i+j=l.length→0≤e→e≤30000*i→out.length≤i→Ql (m+j+1) (.c0 k e (i:Int) out l)=some (out++(Ba k ((i:Int)+1) (l.drop i)).1,e+(Ba k ((i:Int)+1) (l.drop i)).2):=by
  intro j
  induction j with
  | zero=>
   intro i m e out h he he2 ho
   obtain rfl:i=l.length:=by omega
   rw [Ql]
   simp only [Qr]
   rw [NM (by simp),List.drop_length,Ba,List.append_nil,Int.add_zero]
  | succ j ih=>
   intro i m e out h he he2 ho
   have hi:i<l.length:=by omega
   have hz:=u1 _ (List.getElem_mem hi)
   have ew:w64 ((i:Int)+1)=((i+1:Nat):Int):=by rw [w64_id (by omega) (by omega)];rfl
   have hoz:=GAE k l[i] ((i+1:Nat):Int)
   have hfz:=FAD (t:=l[i]) (by omega)
   rw [show m+(j+1)+1=(m+j+1)+1 by omega,Ql]
   simp only [Qr,ew,Int.toNat_natCast,getD_at hi]
   rw [TB (by simp;omega),TB (by simp;omega),AAM hk (by omega),Option.bind_some,XAM (by omega),Option.bind_some,drop_at hi,Ba,show ((i:Int)+1)=((i+1:Nat):Int) from rfl]
   cases (VX k ((i+1:Nat):Int) l[i]).2
   ·rw [Bool.false_and,cond_false,List.append_nil,Int.add_zero];rfl
   ·rw [NM (by rfl),Bool.true_and]
    cases (Aa (VX k ((i+1:Nat):Int) l[i]).1).2
    ·rw [cond_false,List.append_nil,Int.add_zero];rfl
    ·have h2:=ih (i+1) m (e+((frameT l[i]).1.size:Int)) (out++[(Aa (VX k ((i+1:Nat):Int) l[i]).1).1]) (by omega) (by omega) (by omega) (by simp;omega)
     simp only [Bool.not_true,cond_false,cond_true]
     rw [TB (by simp;omega),TB (by simp;omega),GAD (by omega),Option.bind_some,w64_id (by omega) (by omega),h2,List.append_assoc,Int.add_assoc]
     rfl
 obtain ⟨m,hm⟩:∃ m,gas=m+l.length+1:=⟨gas - (l.length+1),by have:=gas_lt (n:=l.length+1) (by omega);omega⟩
 have h0:=key l.length 0 m 0 [] (by omega) (by omega) (by omega) (Nat.le_refl _)
 rw [List.nil_append,Int.zero_add,List.drop_zero] at h0
 rw [hm]
 exact h0
theorem DAN {s:Int} (h:R32 s):an s 1=s % 2:=by
 obtain ⟨h1,h2⟩:=h
 obtain ⟨n,rfl⟩:∃ n:Nat,s=(n:Int):=⟨s.toNat,by omega⟩
 unfold an
 show w32 (((BitVec.ofInt 32 (n:Int) &&& BitVec.ofInt 32 1).toNat:Nat):Int)=_
 rw [BitVec.ofInt_natCast,show BitVec.ofInt 32 1=BitVec.ofNat 32 1 from rfl,BitVec.toNat_and,BitVec.toNat_ofNat,BitVec.toNat_ofNat,Nat.mod_eq_of_lt (by omega:n<2 ^ 32),show 1 % 2 ^ 32=1 from rfl,Nat.and_one_is_mod,FZ (by omega) (by omega)]
 omega
theorem EAN (t:ByteArray) (i:Nat) (hi:i<t.size) (ht:t.size≤140737488351232):∀ (j k m:Nat) (s:Int),k+j=8→R32 s→Bd (m+j+1) (.c1 s t (i:Int) (k:Int))=Bd m (.c0 (Vg j s) t ((i+1:Nat):Int)):=by
 intro j
 induction j with
 | zero=>
  intro k m s hk hs
  have e:w64 ((i:Int)+1)=((i+1:Nat):Int):=by rw [w64_id (by omega) (by omega)];rfl
  rw [Bd]
  simp only [Yh,e]
  rw [NM (by simp;omega)]
  rfl
 | succ j ih=>
  intro k m s hk hs
  have e:w64 ((k:Int)+1)=((k+1:Nat):Int):=by rw [w64_id (by omega) (by omega)];rfl
  have h2:Int.fdiv s (2 ^ (Min.min (1:Int).toNat (IntKind.bits IntKind.u32)))=s / 2:=Int.fdiv_eq_ediv_of_nonneg _ (by decide)
  rw [show m+(j+1)+1=(m+j+1)+1 by omega,Bd]
  simp only [Yh,e,h2,D7,DAN hs,Eb]
  rw [TB (by simp;omega),Vg]
  by_cases h:s % 2=1
  ·rw [TB (by simp [h]),ih (k+1) m _ (by omega) (Oi _ _),Ug,if_pos h]
  ·rw [NM (by simp [h]),ih (k+1) m _ (by omega) (by unfold R32 at *;omega),Ug,if_neg h]
theorem FAN {t:ByteArray} {s:Int} (ht:t.size≤140737488351232):Xl s t=some (Ri s (bs t)):=by
 have hl:=bs_len t
 have key:∀ (j i m:Nat) (s:Int),i+j=t.size→Bd (m+10*j+1) (.c0 s t (i:Int))=some (Ri s ((bs t).drop i)):=by
  intro j
  induction j with
  | zero=>
   intro i m s h
   rw [Bd]
   simp only [Yh]
   rw [NM (by simp;omega),List.drop_of_length_le (by omega)];rfl
  | succ j ih=>
   intro i m s h
   have hb:=SY (Ia t) i
   rw [show m+10*(j+1)+1=(m+10*j+1)+8+1+1 by omega,Bd]
   simp only [Yh,Eb]
   rw [TB (by simp;omega),TB (by simp;omega),Fb (by omega),FZ (by omega) (by omega)]
   have h1:=EAN t i (by omega) ht 8 0 (m+10*j+1) (xr s ((bs t).getD i 0)) (by omega) (Oi _ _)
   rw [show ((0:Nat):Int)=0 from rfl] at h1
   rw [h1,ih (i+1) m _ (by omega),drop_at (by omega:i<(bs t).length),getD_at (by omega)]
   rfl
 obtain ⟨m,hm⟩:∃ m,gas=m+10*t.size+1:=⟨gas - (10*t.size+1),by have:=gas_lt (n:=10*t.size+1) (by omega);omega⟩
 rw [Xl,Fz,hm]
 have:=key t.size 0 m s (by omega)
 rw [List.drop_zero] at this
 exact this
theorem JAE {t:ByteArray} (ht:t.size≤140737488351232):Ed t=some (MZ (bs t)):=by
 rw [Ed,Gz,FAN ht];rfl
theorem GAN {f:ByteArray} (hf:f.size≤140737488351232):Rf f=some (XZ f):=by
 rw [Rf,Jz,XZ]
 by_cases h0:20000<f.size
 ·rw [TB (by simp;omega),TB (by simp;omega)]
 ·rw [NM (by simp;omega),NM (by simp;omega)]
  have key:∀ (j a m:Nat) (out:List ByteArray),a≤f.size→f.size<a+j→out.length≤a→Yr (m+j+1) (.c0 f (a:Int) out)=some (out++(KY j f a).1,((KY j f a).2:Int)):=by
   intro j
   induction j with
   | zero=>intro a m out ha hj;omega
   | succ j ih=>
    intro a m out ha hj ho
    rw [show m+(j+1)+1=(m+j+1)+1 by omega,Yr]
    simp only [Kz,KY]
    rw [RAJ hf ha,Option.bind_some]
    rcases V7 hf ha with h | ⟨v,h,hv0,hv1,hA⟩
    ·rw [show Ub f a=none by rw [Ub,h];rfl,h]
     rw [List.append_nil];rfl
    ·have hp:=Ya v
     have hsz:=hA.size.resolve_left (by intro h;rw [h] at hp;simp at hp)
     obtain ⟨R,hR⟩:∃ R,R=Ub f a:=⟨_,rfl⟩
     have hn0:=hR
     rw [Ub,h] at hn0
     rw [h]
     generalize hq:a+(IK v).length=q at hsz hn0
     simp only [Bool.not_true,cond_false,Xd,Option.bind_some]
     cases hr:FN v 1 9000
     ·rw [hr] at hn0
      have hn1:R=none:=hn0
      rw [←hR,hn1,List.append_nil];rfl
     ·rw [hr] at hn0
      simp only [Bool.not_true,cond_false,Bool.true_and] at hn0 ⊢
      rw [w64_id (n:=(f.size:Int) - (q:Int)) (by omega) (by omega),w64_id (n:=(f.size:Int) - (q:Int) - 4) (by omega) (by omega),w64_id (n:=(q:Int)+4) (by omega) (by omega),w64_id (n:=(q:Int)+4+v) (by omega) (by omega)]
      by_cases h3:v > (f.size:Int) - (q:Int) - 4
      ·rw [TB (by simp;omega)]
       rw [decide_eq_false (by omega:¬ v≤(f.size:Int) - (q:Int) - 4)] at hn0
       have hn1:R=none:=hn0
       rw [←hR,hn1,List.append_nil]
      ·have e2:((q:Int)+4).toNat=q+4:=by omega
       have e3:((q:Int)+4+v).toNat=q+4+v.toNat:=by omega
       have hxs:(f.extract (q+4) (q+4+v.toNat)).size=v.toNat:=by rw [ByteArray.size_extract];omega
       rw [decide_eq_true (by omega:v≤(f.size:Int) - (q:Int) - 4),e2,e3,Int.toNat_natCast,Bool.true_and] at hn0
       rw [NM (by simp;omega),TB (by simp;omega),TB (by simp;omega),e2,e3,Int.toNat_natCast,JAE (by omega),Option.bind_some,Dv (Si _),Option.bind_some,Np,SN (Zg (Si _))]
       cases hc:(bs (f.extract q (q+4)) == four (MZ (bs (f.extract (q+4) (q+4+v.toNat)))))
       ·rw [hc] at hn0
        have hn1:R=none:=hn0
        rw [←hR,hn1,List.append_nil];rfl
       ·rw [hc] at hn0
        have hn1:R=some (f.extract (q+4) (q+4+v.toNat),q+4+v.toNat):=hn0
        rw [←hR,hn1,NM (by rfl),TB (by simp;omega),show (q:Int)+4+v=((q+4+v.toNat:Nat):Int) by omega,ih (q+4+v.toNat) m _ (by omega) (by omega) (by simp;omega)]
        simp
  obtain ⟨m,hm⟩:∃ m,gas=m+(f.size+1)+1:=⟨gas - (f.size+2),by have:=gas_lt (n:=f.size+2) (by omega);omega⟩
  rw [hm,show (0:Int)=((0:Nat):Int) from rfl,key (f.size+1) 0 m [] (by omega) (by omega) (Nat.le_refl _)]
  rfl
theorem HAN {t:ByteArray} (h:t.size≤140737488351232):Hg t=some (frameT t):=by
 rw [Hg,V5,Xd,Option.bind_some,frameT]
 cases h1:FN (t.size:Int) 1 9000
 ·rfl
 ·rw [SX] at h1
  have:=DZ (n:=(t.size:Int)) (by omega)
  rw [NM (by rfl),Gh (by omega),Option.bind_some,JAE h,Option.bind_some,Dv (Si _),Option.bind_some,TB (by rw [ofBytes_size,ofBytes_size,decide_eq_true_eq];have:(four (MZ (bs t))).length=4:=rfl;omega)]
  rw [TB (by rw [ByteArray.size_append,ofBytes_size,ofBytes_size,decide_eq_true_eq];have:(four (MZ (bs t))).length=4:=rfl;omega),EAD,cond_true]
theorem IAN {k file:ByteArray} (hk:k.size≤900000000) (hf:file.size≤140737488351232):Io k file=some (Qc k file):=by
 obtain ⟨u1,u2,_,_⟩:=V8 (file:=file)
 rw [Io,Y5,GAN hf,Option.bind_some,Qc]
 generalize (XZ file).1=l at u1 u2
 have key:∀ (j i m:Nat) (e:Int) (out:List SRec),i+j=l.length→0≤e→e≤30000*i→out.length≤i→Ho (m+j+1) (.c0 k e (l.length:Int) (i:Int) out l)=some (out++(Ba k ((i:Int)+1) (l.drop i)).1,e+(Ba k ((i:Int)+1) (l.drop i)).2):=by
  intro j
  induction j with
  | zero=>
   intro i m e out h he he2 ho
   obtain rfl:i=l.length:=by omega
   rw [Ho]
   simp only [Xt]
   rw [NM (by simp),List.drop_length,Ba,List.append_nil,Int.add_zero]
  | succ j ih=>
   intro i m e out h he he2 ho
   have hi:i<l.length:=by omega
   have hz:=u1 _ (List.getElem_mem hi)
   have ew:w64 ((i:Int)+1)=((i+1:Nat):Int):=by rw [w64_id (by omega) (by omega)];rfl
   have hoz:=GAE k l[i] ((i+1:Nat):Int)
   have hfz:=FAD (t:=l[i]) (by omega)
   rw [show m+(j+1)+1=(m+j+1)+1 by omega,Ho]
   simp only [Xt,ew,Int.toNat_natCast,getD_at hi]
   rw [TB (by simp;omega),TB (by simp;omega),ZAL hk (by omega),Option.bind_some,YAM (by omega),Option.bind_some,drop_at hi,Ba,show ((i:Int)+1)=((i+1:Nat):Int) from rfl]
   cases (VX k ((i+1:Nat):Int) l[i]).2
   ·rw [Bool.false_and,cond_false,List.append_nil,Int.add_zero];rfl
   ·rw [NM (by rfl),Bool.true_and]
    cases (Aa (VX k ((i+1:Nat):Int) l[i]).1).2
    ·rw [cond_false,List.append_nil,Int.add_zero];rfl
    ·have h2:=ih (i+1) m (e+((frameT l[i]).1.size:Int)) (out++[(Aa (VX k ((i+1:Nat):Int) l[i]).1).1]) (by omega) (by omega) (by omega) (by simp;omega)
     simp only [Bool.not_true,cond_false,cond_true]
     rw [TB (by simp;omega),HAN (by omega),Option.bind_some,w64_id (by omega) (by omega),h2,List.append_assoc,Int.add_assoc]
     rfl
 obtain ⟨m,hm⟩:∃ m,gas=m+l.length+1:=⟨gas - (l.length+1),by have:=gas_lt (n:=l.length+1) (by omega);omega⟩
 have h0:=key l.length 0 m 0 [] (by omega) (by omega) (by omega) (Nat.le_refl _)
 rw [List.nil_append,Int.zero_add,List.drop_zero] at h0
 rw [hm]
 exact h0
theorem JAN (a:SThing)  : Jo a a=some true:=by
 simp [Jo,D6]
theorem KAN (a:SRec)  : Ig a a=some true:=by
 simp [Ig,F6,JAN _]
theorem LAN {a:(List SRec)} (h:a.length≤140737488351232):Oo a a=some true:=by
 have h0:a.length≤140737488351232:=h
 have key:∀ m i,i≤a.length→a.length - i<m→Ii m (.c0 a a i)=some true:=fun m i h1 h2=>
  loopN (A:=Unit) (n:=a.length) (Lp:=Ii) (st:=fun i _=>.c0 a a i) (Inv:=fun _ _=>True) (out:=fun _ _=>some true)
   (fun m _ _=>by simp [Ii,Zt])
   (fun m i _ hi _=>.inr ⟨(),by
    have hw:w64 ((i:Int)+1)=((i+1:Nat):Int):=by rw [w64_id (by omega) (by omega)];rfl
    simp only [Ii,Zt,Int.toNat_natCast,hw,KAN _,getD_at hi,Option.bind_some]
    simp [hi],trivial,rfl⟩) m i () h1 h2 trivial
 have h0:=key gas 0 (Nat.zero_le _) (gas_lt (by omega))
 unfold Oo H6
 simp only [bne_self_eq_false,cond_false]
 exact h0
theorem MAN:∀ (j:Nat) (k:Int) (m:Nat) (out:ByteArray),0≤k→k≤9223372036854775807→k<10 ^ j→out.size+j≤1000→∃ s,Qo (m+j+1) (.c0 k out)=some s:=by
 intro j
 induction j with
 | zero=>
  intro k m out hk _ hk2 ho
  have:k=0:=by rw [Int.pow_zero] at hk2;omega
  subst this
  rw [Qo]
  simp only [Au]
  have h9:(⟨#[109]⟩:ByteArray).size=1:=rfl
  rw [NM (by simp),TB (by rw [h9,decide_eq_true_eq];omega)]
  exact ⟨_,rfl⟩
 | succ j ih=>
  intro k m out hk h64 hk2 ho
  rw [show m+(j+1)+1=(m+j+1)+1 by omega,Qo]
  simp only [Au]
  by_cases h:0<k
  ·have e1:w64 (k.tdiv 10)=k / 10:=by rw [Int.tdiv_eq_ediv_of_nonneg hk,w64_id (by omega) (by omega)]
   have h3:k / 10<10 ^ j:=Int.ediv_lt_of_lt_mul (by omega) (by rw [←Int.pow_succ];exact hk2)
   rw [TB (by simp;omega),TB (by rw [ofBytes_size,decide_eq_true_eq,List.length_singleton];omega),e1]
   exact ih _ m _ (by omega) (by omega) h3 (by rw [ByteArray.size_append,ofBytes_size,List.length_singleton];omega)
  ·have:k=0:=by omega
   subst this
   have h9:(⟨#[109]⟩:ByteArray).size=1:=rfl
   rw [NM (by simp),TB (by rw [h9,decide_eq_true_eq];omega)]
   exact ⟨_,rfl⟩
noncomputable def markT (k:Int):ByteArray:=(VZ k).getD ⟨#[]⟩
theorem Ov {k:Int} (h:k≤1000000000000000000):VZ k=some (markT k):=by
 have:∃ s,VZ k=some s:=by
  rw [VZ,J6]
  by_cases hk:k≤0
  ·rw [TB (by simp;omega)];exact ⟨_,rfl⟩
  ·rw [NM (by simp;omega)]
   obtain ⟨m,hm⟩:∃ m,gas=m+19+1:=⟨gas - 20,by have:=gas_lt (n:=20) (by omega);omega⟩
   rw [hm]
   exact MAN 19 k m _ (by omega) (by omega) (by (have:(10:Int) ^ 19=10000000000000000000:=by decide);omega) (by show 0+19≤1000;omega)
 obtain ⟨s,hs⟩:=this
 rw [markT,hs];rfl
noncomputable def Bj (k:Int):SRec:=⟨k,markT (k+1),k+1+1,⟨k+1+1+1,k+1+1+1+1,((k+1+1+1+1+1).tmod 3 == 0),((k+1+1+1+1+1+1).tmod 3 == 0),((k+1+1+1+1+1+1+1).tmod 3 == 0),((k+1+1+1+1+1+1+1+1).tmod 3 == 0),markT (k+1+1+1+1+1+1+1+1+1),k+1+1+1+1+1+1+1+1+1+1⟩⟩
noncomputable def La (k:Int):Nat→List SRec
 | 0=>[]
 | n+1=>Bj k::La (k+1+1+1+1+1+1+1+1+1+1+1) n
theorem NAN (n:Nat):∀ k,(La k n).length=n:=by
 induction n with
 | zero=>intro k;rfl
 | succ n ih=>intro k;rw [La,List.length_cons,ih]
theorem OAN {a:List SRec} {k:Int} {i m:Nat} (hi:i<a.length) (hk:0<k) (hk2:k≤100000000000000000) (hl:a.length≤100000000000000000) :
  RY (m+11) (.c0 k (i:Int) a)=RY m (.c0 (k+1+1+1+1+1+1+1+1+1+1+1) ((i+1:Nat):Int) (a.set i (Bj k))):=by
 have hwi:w64 ((i:Int)+1)=((i+1:Nat):Int):=by rw [w64_id (by omega) (by omega)];rfl
 have hlt:decide ((i:Int)<(a.length:Int))=true:=decide_eq_true (by omega)
 have hle:decide ((0:Int)≤(i:Int))=true:=decide_eq_true (by omega)
 have hw1:w64 (k+1)=k+1:=w64_id (by omega) (by omega)
 have hw2:w64 (k+1+1)=k+1+1:=w64_id (by omega) (by omega)
 have hw3:w64 (k+1+1+1)=k+1+1+1:=w64_id (by omega) (by omega)
 have hw4:w64 (k+1+1+1+1)=k+1+1+1+1:=w64_id (by omega) (by omega)
 have hw5:w64 (k+1+1+1+1+1)=k+1+1+1+1+1:=w64_id (by omega) (by omega)
 have hw6:w64 (k+1+1+1+1+1+1)=k+1+1+1+1+1+1:=w64_id (by omega) (by omega)
 have hw7:w64 (k+1+1+1+1+1+1+1)=k+1+1+1+1+1+1+1:=w64_id (by omega) (by omega)
 have hw8:w64 (k+1+1+1+1+1+1+1+1)=k+1+1+1+1+1+1+1+1:=w64_id (by omega) (by omega)
 have hw9:w64 (k+1+1+1+1+1+1+1+1+1)=k+1+1+1+1+1+1+1+1+1:=w64_id (by omega) (by omega)
 have hw10:w64 (k+1+1+1+1+1+1+1+1+1+1)=k+1+1+1+1+1+1+1+1+1+1:=w64_id (by omega) (by omega)
 have hw11:w64 (k+1+1+1+1+1+1+1+1+1+1+1)=k+1+1+1+1+1+1+1+1+1+1+1:=w64_id (by omega) (by omega)
 have hm1:=Ov (k:=k+1) (by omega)
 have hm9:=Ov (k:=k+1+1+1+1+1+1+1+1+1) (by omega)
 rw [show m+11=m+1+1+1+1+1+1+1+1+1+1+1 from rfl]
 rw [RY]
 simp only [LZ,Int.toNat_natCast,List.length_set,Ja hi,List.set_set,hwi,hw1,hw2,hw3,hw4,hw5,hw6,hw7,hw8,hw9,hw10,hw11,hm1,hm9,Option.bind_some,hlt,hle,Bool.and_self,cond_true]
 rw [RY]
 simp only [LZ,Int.toNat_natCast,List.length_set,Ja hi,List.set_set,hwi,hw1,hw2,hw3,hw4,hw5,hw6,hw7,hw8,hw9,hw10,hw11,hm1,hm9,Option.bind_some,hlt,hle,Bool.and_self,cond_true]
 rw [RY]
 simp only [LZ,Int.toNat_natCast,List.length_set,Ja hi,List.set_set,hwi,hw1,hw2,hw3,hw4,hw5,hw6,hw7,hw8,hw9,hw10,hw11,hm1,hm9,Option.bind_some,hlt,hle,Bool.and_self,cond_true]
 rw [RY]
 simp only [LZ,Int.toNat_natCast,List.length_set,Ja hi,List.set_set,hwi,hw1,hw2,hw3,hw4,hw5,hw6,hw7,hw8,hw9,hw10,hw11,hm1,hm9,Option.bind_some,hlt,hle,Bool.and_self,cond_true]
 rw [RY]
 simp only [LZ,Int.toNat_natCast,List.length_set,Ja hi,List.set_set,hwi,hw1,hw2,hw3,hw4,hw5,hw6,hw7,hw8,hw9,hw10,hw11,hm1,hm9,Option.bind_some,hlt,hle,Bool.and_self,cond_true]
 rw [RY]
 simp only [LZ,Int.toNat_natCast,List.length_set,Ja hi,List.set_set,hwi,hw1,hw2,hw3,hw4,hw5,hw6,hw7,hw8,hw9,hw10,hw11,hm1,hm9,Option.bind_some,hlt,hle,Bool.and_self,cond_true]
 rw [RY]
 simp only [LZ,Int.toNat_natCast,List.length_set,Ja hi,List.set_set,hwi,hw1,hw2,hw3,hw4,hw5,hw6,hw7,hw8,hw9,hw10,hw11,hm1,hm9,Option.bind_some,hlt,hle,Bool.and_self,cond_true]
 rw [RY]
 simp only [LZ,Int.toNat_natCast,List.length_set,Ja hi,List.set_set,hwi,hw1,hw2,hw3,hw4,hw5,hw6,hw7,hw8,hw9,hw10,hw11,hm1,hm9,Option.bind_some,hlt,hle,Bool.and_self,cond_true]
 rw [RY]
 simp only [LZ,Int.toNat_natCast,List.length_set,Ja hi,List.set_set,hwi,hw1,hw2,hw3,hw4,hw5,hw6,hw7,hw8,hw9,hw10,hw11,hm1,hm9,Option.bind_some,hlt,hle,Bool.and_self,cond_true]
 rw [RY]
 simp only [LZ,Int.toNat_natCast,List.length_set,Ja hi,List.set_set,hwi,hw1,hw2,hw3,hw4,hw5,hw6,hw7,hw8,hw9,hw10,hw11,hm1,hm9,Option.bind_some,hlt,hle,Bool.and_self,cond_true]
 rw [RY]
 simp only [LZ,Int.toNat_natCast,List.length_set,Ja hi,List.set_set,hwi,hw1,hw2,hw3,hw4,hw5,hw6,hw7,hw8,hw9,hw10,hw11,hm1,hm9,Option.bind_some,hlt,hle,Bool.and_self,cond_true]
 rfl
theorem PAN {a:List SRec} {k:Int} (hk:0<k) (hb:k+11*a.length≤100000000000000000):Uo a k=some (k+11*a.length,La k a.length):=by
 have key:∀ (j i m:Nat) (k:Int) (b d:List SRec),i+j=a.length→d.length=i→b.length=j→0<k→k+11*j≤100000000000000000→RY (m+11*j+1) (.c0 k (i:Int) (d++b))=some (k+11*j,d++La k j):=by
  intro j
  induction j with
  | zero=>
   intro i m k b d h1 h2 h3 h4 h5
   have hb0:b=[]:=List.length_eq_zero_iff.1 h3
   subst hb0
   rw [RY]
   simp only [LZ,List.append_nil,h2,La]
   rw [NM (by simp)]
   simp
  | succ j ih=>
   intro i m k b d h1 h2 h3 h4 h5
   obtain ⟨x,b,rfl⟩:∃ x c,b=x::c:=by cases b with
    | nil=>cases h3
    | cons x c=>exact ⟨x,c,rfl⟩
   rw [List.length_cons] at h3
   have hlen:(d++x::b).length=a.length:=by rw [List.length_append,List.length_cons];omega
   rw [show m+11*(j+1)+1=(m+11*j+1)+11 by omega,OAN (by omega) h4 (by omega) (by omega),Qg h2]
   have h6:=ih (i+1) m (k+1+1+1+1+1+1+1+1+1+1+1) b (d++[Bj k]) (by omega) (by rw [List.length_append,List.length_singleton];omega) (by omega) (by omega) (by omega)
   rw [List.append_assoc,List.append_assoc,List.singleton_append,List.singleton_append] at h6
   rw [h6,La]
   congr 2
   omega
 obtain ⟨m,hm⟩:∃ m,gas=m+11*a.length+1:=⟨gas - (11*a.length+1),by have:=gas_lt (n:=11*a.length+1) (by omega);omega⟩
 rw [Uo,O6,hm]
 exact key a.length 0 m k a [] (by omega) rfl rfl hk hb
theorem QAN {a:List SRec} {k:Int} {i m:Nat} (hi:i<a.length) (hg:∀ z,a.getD i z=Bj k) (hk:0<k) (hk2:k≤100000000000000000) (hl:a.length≤100000000000000000) :
  Jg (m+1) (.c0 a k (i:Int))=Jg m (.c0 a (k+1+1+1+1+1+1+1+1+1+1+1) ((i+1:Nat):Int)):=by
 have hwi:w64 ((i:Int)+1)=((i+1:Nat):Int):=by rw [w64_id (by omega) (by omega)];rfl
 have hlt:decide ((i:Int)<(a.length:Int))=true:=decide_eq_true (by omega)
 have hle:decide ((0:Int)≤(i:Int))=true:=decide_eq_true (by omega)
 have hw1:w64 (k+1)=k+1:=w64_id (by omega) (by omega)
 have hw2:w64 (k+1+1)=k+1+1:=w64_id (by omega) (by omega)
 have hw3:w64 (k+1+1+1)=k+1+1+1:=w64_id (by omega) (by omega)
 have hw4:w64 (k+1+1+1+1)=k+1+1+1+1:=w64_id (by omega) (by omega)
 have hw5:w64 (k+1+1+1+1+1)=k+1+1+1+1+1:=w64_id (by omega) (by omega)
 have hw6:w64 (k+1+1+1+1+1+1)=k+1+1+1+1+1+1:=w64_id (by omega) (by omega)
 have hw7:w64 (k+1+1+1+1+1+1+1)=k+1+1+1+1+1+1+1:=w64_id (by omega) (by omega)
 have hw8:w64 (k+1+1+1+1+1+1+1+1)=k+1+1+1+1+1+1+1+1:=w64_id (by omega) (by omega)
 have hw9:w64 (k+1+1+1+1+1+1+1+1+1)=k+1+1+1+1+1+1+1+1+1:=w64_id (by omega) (by omega)
 have hw10:w64 (k+1+1+1+1+1+1+1+1+1+1)=k+1+1+1+1+1+1+1+1+1+1:=w64_id (by omega) (by omega)
 have hw11:w64 (k+1+1+1+1+1+1+1+1+1+1+1)=k+1+1+1+1+1+1+1+1+1+1+1:=w64_id (by omega) (by omega)
 have hm1:=Ov (k:=k+1) (by omega)
 have hm9:=Ov (k:=k+1+1+1+1+1+1+1+1+1) (by omega)
 rw [Jg]
 simp only [Eu,Int.toNat_natCast,hwi,hw1,hw2,hw3,hw4,hw5,hw6,hw7,hw8,hw9,hw10,hw11,hm1,hm9,Option.bind_some,hlt,hle,Bool.and_self,cond_true,hg,Bj,bne_self_eq_false,cond_false,toList_self,beq_self_eq_true,Bool.not_true]
theorem SAN:∀ (n:Nat) (k:Int) (i:Nat),i<n→∀ z,(La k n).getD i z=Bj (k+11*i):=by
 intro n
 induction n with
 | zero=>intro k i h;omega
 | succ n ih=>
  intro k i h z
  cases i with
  | zero=>rw [La,show k+11*((0:Nat):Int)=k by omega];rfl
  | succ i=>
   have h2:=ih (k+1+1+1+1+1+1+1+1+1+1+1) i (by omega) z
   rw [show k+1+1+1+1+1+1+1+1+1+1+1+11*(i:Int)=k+11*((i+1:Nat):Int) by omega] at h2
   rw [←h2,La];rfl
theorem TAN {n:Nat} {k:Int} (hk:0<k) (hb:k+11*n≤100000000000000000):Xo (La k n) k=some (k+11*n):=by
 have hl:=NAN n k
 have key:∀ (j i m:Nat),i+j=n→Jg (m+j+1) (.c0 (La k n) (k+11*i) (i:Int))=some (k+11*n):=by
  intro j
  induction j with
  | zero=>
   intro i m h1
   obtain rfl:i=n:=by omega
   rw [Jg]
   simp only [Eu,hl]
   rw [NM (by simp)]
  | succ j ih=>
   intro i m h1
   rw [show m+(j+1)+1=(m+j+1)+1 by omega,QAN (by omega) (SAN n k i (by omega)) (by omega) (by omega) (by omega)]
   have h2:=ih (i+1) m (by omega)
   rw [show k+11*((i+1:Nat):Int)=k+11*(i:Int)+1+1+1+1+1+1+1+1+1+1+1 by omega] at h2
   exact h2
 obtain ⟨m,hm⟩:∃ m,gas=m+n+1:=⟨gas - (n+1),by have:=gas_lt (n:=n+1) (by omega);omega⟩
 have h0:=key n 0 m (by omega)
 rw [show k+11*((0:Nat):Int)=k by omega] at h0
 rw [Xo,U6,hm]
 exact h0
theorem law_FnExactReadBook (x0:ByteArray) (x1:ByteArray) (g0:GStr x0) (g1:GStr x1):laws_FnExactReadBook x0 x1=some true:=by
 rw [laws_FnExactReadBook,V6]
 by_cases h:1048576<x0.size
 ·rw [TB (by simp;omega)]
 by_cases h2:1048576<x1.size
 ·rw [NM (by simp;omega),TB (by simp;omega)]
 have hl:(Qc x0 x1).1.length≤20000:=by
  have h3:=AAN x0 (XZ x1).1 1
  have h4:=(V8 (file:=x1)).2.1
  rw [Qc];omega
 have m1:=PAN (a:=(Qc x0 x1).1) (k:=1) (by omega) (by omega)
 have h1:=TAN (n:=(Qc x0 x1).1.length) (k:=1) (by omega) (by omega)
 have d1:decide ((1:Int)+11*((Qc x0 x1).1.length:Int)<0)=false:=by rw [decide_eq_false_iff_not];omega
 rw [NM (by simp;omega),NM (by simp;omega)]
 simp only [BAN (k:=x0) (file:=x1) (by omega) (by omega),IAN (k:=x0) (file:=x1) (by omega) (by omega),Option.bind_some,LAN (show (Qc x0 x1).1.length≤140737488351232 by omega),m1,h1,d1,Bool.not_true,cond_false,bne_self_eq_false]
end Go.Proofs.YthfpmhalgimbbaaDoor.G
