/- The plain law of FnExactEnterAll: whatever the arguments, it answers true. Conditions: what is read is in reach. Part 1 of 1. -/
import Derived.Test.YthfpmhalgimbbaaDoorFFnExactEnterAll
import Derived.Test.YthfpmhalgimbbaaDoorOpens
import Derived.Test.YthfpmhalgimbbaaDoorPBase
namespace Go.Proofs.YthfpmhalgimbbaaDoor.G
open Go Go.Ev
set_option linter.unusedVariables false
set_option linter.unusedSimpArgs false
theorem H6 {a:SThing} (g:GSThing a) (n:Int):∃ r,Qa a n=some r:=⟨_,cond_some _ _ _⟩
theorem FAD {a:(List SThing)} (g:(GList 48 GSThing) a) (n:Int):∃ r,Rf a n=some r:=by
 have h:=g.1
 have key:∀ m i l,i≤a.length→a.length - i<m→∃ r,Dl m (.c0 a l i)=some r:=by
  intro m
  induction m with
  | zero=>intro i l _ h;omega
  | succ m ih=>
   intro i l h1 h2
   simp only [Dl,Ip]
   by_cases hi:i<a.length
   ·have hw:w64 ((i:Int)+1)=((i+1:Nat):Int):=by rw [w64_id (by omega) (by omega)];rfl
    obtain ⟨r,hr⟩:=H6 (g.2 _ (List.getElem_mem hi)) l
    simp only [Int.toNat_natCast,getD_at hi,hr,Option.bind_some,hw]
    rw [show (decide ((i:Int)<(a.length:Int)))=true from decide_eq_true (by omega),show (decide ((0:Int)≤(i:Int)))=true from decide_eq_true (by omega)]
    simp only [Bool.and_self,cond_true]
    cases decide (r<0)
    ·exact ih (i+1) r hi (by omega)
    ·exact ⟨_,rfl⟩
   ·rw [show (decide ((i:Int)<(a.length:Int)))=false from decide_eq_false (by omega)]
    exact ⟨_,rfl⟩
 unfold Rf Gp
 cases decide (w64 (n - (a.length:Int))<0)
 ·exact key gas 0 _ (Nat.zero_le _) (gas_lt (by omega))
 ·exact ⟨_,rfl⟩
theorem GAD {a:SBook} (g:GSBook a) (n:Int):∃ r,Tf a n=some r:=by
 unfold Tf Np
 cases decide ((w64 (n - (a.fWord.size:Int)))<0)
 rotate_left
 ·exact ⟨_,rfl⟩
 simp only [cond_false]
 obtain ⟨r0,hr0⟩:=FAD (g.2.2.1) ((w64 (n - (a.fWord.size:Int))))
 simp only [hr0,Option.bind_some]
 cases decide (r0<0)
 rotate_left
 ·exact ⟨_,rfl⟩
 simp only [cond_false]
 cases decide ((w64 (r0 - (a.fChain.size:Int)))<0)
 rotate_left
 ·exact ⟨_,rfl⟩
 simp only [cond_false]
 exact ⟨_,rfl⟩
theorem IAD {a:SRec} (g:GSRec a) (n:Int):∃ r,Eb a n=some r:=by
 unfold Eb Qp
 cases decide ((w64 (n - (a.fText.size:Int)))<0)
 rotate_left
 ·exact ⟨_,rfl⟩
 simp only [cond_false]
 obtain ⟨r0,hr0⟩:=H6 (g.2.2.2) ((w64 (n - (a.fText.size:Int))))
 simp only [hr0,Option.bind_some]
 cases decide (r0<0)
 rotate_left
 ·exact ⟨_,rfl⟩
 simp only [cond_false]
 exact ⟨_,rfl⟩
theorem JAD {a:(List SRec)} (g:(GList 80 GSRec) a) (n:Int):∃ r,Vf a n=some r:=by
 have h:=g.1
 have key:∀ m i l,i≤a.length→a.length - i<m→∃ r,Hl m (.c0 a l i)=some r:=by
  intro m
  induction m with
  | zero=>intro i l _ h;omega
  | succ m ih=>
   intro i l h1 h2
   simp only [Hl,Xp]
   by_cases hi:i<a.length
   ·have hw:w64 ((i:Int)+1)=((i+1:Nat):Int):=by rw [w64_id (by omega) (by omega)];rfl
    obtain ⟨r,hr⟩:=IAD (g.2 _ (List.getElem_mem hi)) l
    simp only [Int.toNat_natCast,getD_at hi,hr,Option.bind_some,hw]
    rw [show (decide ((i:Int)<(a.length:Int)))=true from decide_eq_true (by omega),show (decide ((0:Int)≤(i:Int)))=true from decide_eq_true (by omega)]
    simp only [Bool.and_self,cond_true]
    cases decide (r<0)
    ·exact ih (i+1) r hi (by omega)
    ·exact ⟨_,rfl⟩
   ·rw [show (decide ((i:Int)<(a.length:Int)))=false from decide_eq_false (by omega)]
    exact ⟨_,rfl⟩
 unfold Vf Wp
 cases decide (w64 (n - (a.length:Int))<0)
 ·exact key gas 0 _ (Nat.zero_le _) (gas_lt (by omega))
 ·exact ⟨_,rfl⟩
theorem J6 {a:SThing} (g:GSThing a):Aa a=some a:=by
 simp only [Aa,Yp,Option.bind_some]
theorem KAD {a:(List SThing)} (g:(GList 48 GSThing) a):Zf a=some a:=by
 have h:=g.1
 have key:∀ m i,i≤a.length→a.length - i<m→Fb m (.c0 a i (a.take i++List.replicate (a.length - i) (⟨(0:Int),(0:Int),false,false,false,false,(⟨#[]⟩:ByteArray),(0:Int)⟩:SThing)))=some a:=fun m i h1 h2=>
  loopN (A:=Unit) (n:=a.length) (Lp:=Fb) (st:=fun i _=>.c0 a i (a.take i++List.replicate (a.length - i) (⟨(0:Int),(0:Int),false,false,false,false,(⟨#[]⟩:ByteArray),(0:Int)⟩:SThing))) (Inv:=fun _ _=>True) (out:=fun _ _=>some a)
   (fun m _ _=>by simp [Fb,Il])
   (fun m i _ hi _=>.inr ⟨(),by
    have hw:w64 ((i:Int)+1)=((i+1:Nat):Int):=by rw [w64_id (by omega) (by omega)];rfl
    have hc:=copied_len (Nat.le_of_lt hi) (⟨(0:Int),(0:Int),false,false,false,false,(⟨#[]⟩:ByteArray),(0:Int)⟩:SThing)
    simp only [Fb,Il,Int.toNat_natCast,getD_at hi,J6 (g.2 _ (List.getElem_mem hi)),Option.bind_some,hw,copied hi,hc]
    simp [hi],trivial,rfl⟩) m i () h1 h2 trivial
 have h0:Fb gas (.c0 a 0 (List.replicate a.length (⟨(0:Int),(0:Int),false,false,false,false,(⟨#[]⟩:ByteArray),(0:Int)⟩:SThing)))=some a:=by
  have:=key gas 0 (Nat.zero_le _) (gas_lt (by omega))
  simpa using this
 unfold Zf Bq
 simp only [Int.toNat_natCast,h0]
 simp [show a.length*48≤140737488355328 from by omega,show ((a.length:Int)≤9223372036854775807) from by omega]
 try omega
theorem LAD {a:SBook} (g:GSBook a):Ag a=some a:=by
 simp only [Ag,Fq,KAD (g.2.2.1),Option.bind_some]
theorem MAD {a:SRec} (g:GSRec a):Ib a=some a:=by
 simp only [Ib,Gq,J6 (g.2.2.2),Option.bind_some]
theorem NAD {a:(List SRec)} (g:(GList 80 GSRec) a):Fg a=some a:=by
 have h:=g.1
 have key:∀ m i,i≤a.length→a.length - i<m→Jb m (.c0 a i (a.take i++List.replicate (a.length - i) (⟨(0:Int),(⟨#[]⟩:ByteArray),(0:Int),(⟨(0:Int),(0:Int),false,false,false,false,(⟨#[]⟩:ByteArray),(0:Int)⟩:SThing)⟩:SRec)))=some a:=fun m i h1 h2=>
  loopN (A:=Unit) (n:=a.length) (Lp:=Jb) (st:=fun i _=>.c0 a i (a.take i++List.replicate (a.length - i) (⟨(0:Int),(⟨#[]⟩:ByteArray),(0:Int),(⟨(0:Int),(0:Int),false,false,false,false,(⟨#[]⟩:ByteArray),(0:Int)⟩:SThing)⟩:SRec))) (Inv:=fun _ _=>True) (out:=fun _ _=>some a)
   (fun m _ _=>by simp [Jb,Ll])
   (fun m i _ hi _=>.inr ⟨(),by
    have hw:w64 ((i:Int)+1)=((i+1:Nat):Int):=by rw [w64_id (by omega) (by omega)];rfl
    have hc:=copied_len (Nat.le_of_lt hi) (⟨(0:Int),(⟨#[]⟩:ByteArray),(0:Int),(⟨(0:Int),(0:Int),false,false,false,false,(⟨#[]⟩:ByteArray),(0:Int)⟩:SThing)⟩:SRec)
    simp only [Jb,Ll,Int.toNat_natCast,getD_at hi,MAD (g.2 _ (List.getElem_mem hi)),Option.bind_some,hw,copied hi,hc]
    simp [hi],trivial,rfl⟩) m i () h1 h2 trivial
 have h0:Jb gas (.c0 a 0 (List.replicate a.length (⟨(0:Int),(⟨#[]⟩:ByteArray),(0:Int),(⟨(0:Int),(0:Int),false,false,false,false,(⟨#[]⟩:ByteArray),(0:Int)⟩:SThing)⟩:SRec)))=some a:=by
  have:=key gas 0 (Nat.zero_le _) (gas_lt (by omega))
  simpa using this
 unfold Fg Iq
 simp only [Int.toNat_natCast,h0]
 simp [show a.length*80≤140737488355328 from by omega,show ((a.length:Int)≤9223372036854775807) from by omega]
 try omega
def bs (s:ByteArray):List Int:=s.data.toList.map fun b=>(b.toNat:Int)
theorem bs_len (s:ByteArray):(bs s).length=s.size:=by unfold bs;rw [List.length_map];rfl
theorem OAD {s:ByteArray} {n:Int} (h:n ∈ bs s):0≤n∧n≤255:=by
 unfold bs at h;rw [List.mem_map] at h;obtain ⟨b,_,rfl⟩:=h
 have:=b.toNat_lt;omega
theorem Xe (a b:ByteArray):bs (a++b)=bs a++bs b:=by simp [bs]
theorem L6 (s:ByteArray):ofBytes (bs s)=s:=by
 cases s;simp [ofBytes,bs,Function.comp_def]
theorem Nc {s t:ByteArray} (h:bs s=bs t):s=t:=by rw [←L6 s,h,L6]
theorem WY {l:List Int} (h:∀ n,n ∈ l→0≤n∧n≤255):bs (ofBytes l)=l:=by
 simp only [bs,ofBytes,List.map_map]
 conv=>rhs;rw [←List.map_id l]
 apply List.map_congr_left
 intro n hn
 obtain ⟨h1,h2⟩:=h n hn
 simp only [Function.comp,UInt8.toNat_ofNat',id]
 omega
theorem PAD {s:ByteArray} {i:Nat} (h:i<s.size):bt s (i:Int)=(bs s)[i]'(by rw [bs_len];exact h):=by
 simp only [bt,Int.toNat_natCast,h,dite_true,bs,List.getElem_map]
 rfl
theorem ZAH (s:ByteArray) (i:Int):0≤bt s i∧bt s i≤255:=by
 unfold bt;split
 ·have:=(s[i.toNat]).toNat_lt;omega
 ·omega
theorem Oc (s:ByteArray) (i j:Nat):bs (s.extract i j)=((bs s).take j).drop i:=by
 simp only [bs,ByteArray.data_extract,Array.toList_extract,List.extract_eq_take_drop,List.map_take,List.map_drop]
 rw [List.drop_take]
theorem TB {α:Type} {c:Bool} {a b:α} (h:c=true):(bif c then a else b)=a:=by rw [h];rfl
theorem FN {α:Type} {c:Bool} {a b:α} (h:c=false):(bif c then a else b)=b:=by rw [h];rfl
theorem Ye {s:ByteArray} {i:Nat} (h:i<s.size):bt s (i:Int)=(bs s).getD i 0:=by rw [PAD h,getD_at]
theorem AAI {s:ByteArray} {i:Int} {j:Nat} (e:i=(j:Int)) (h:j<s.size):bt s i=(bs s).getD j 0:=by rw [e,Ye h]
theorem Ko {α:Type} {a b:List α} {i:Nat} (h:i<a.length) (d:α):(a++b).getD i d=a.getD i d:=by simp [List.getD,List.getElem?_append_left h]
theorem O6 {α:Type} {a b:List α} {i:Nat} (h:a.length≤i) (d:α):(a++b).getD i d=b.getD (i - a.length) d:=by simp [List.getD,List.getElem?_append_right h]
theorem Rk {α:Type} {a b:List α} {x y:α} {i:Nat} (h:a.length=i):(a++x::b).set i y=a++y::b:=by
 rw [List.set_append_right _ _ (by omega),h,Nat.sub_self];rfl
theorem BAI {a b:Nat} (h:a=b):Nat.beq a b=true:=by subst h;exact Nat.beq_refl _
theorem CAI {P:Int→Prop} (n:Int) (h:0≤n) (k:∀ m:Nat,n=(m:Int)→P (m:Int)):P n:=by
 have:=k n.toNat (by omega)
 rwa [show ((n.toNat:Nat):Int)=n by omega] at this
theorem DAI:bs (⟨#[]⟩:ByteArray)=[]:=rfl
def KY (l:List Int):Prop:=∀ n,n ∈ l→0≤n∧n≤255
theorem LY {l:List Int} (h:KY l) (i:Nat):0≤l.getD i 0∧l.getD i 0≤255:=by
 by_cases hi:i<l.length
 ·rw [getD_at hi];exact h _ (List.getElem_mem hi)
 ·have:l.getD i 0=0:=by simp [List.getD,List.getElem?_eq_none (Nat.le_of_not_lt hi)]
  omega
theorem Ze (s:ByteArray):KY (bs s):=fun _ h=>OAD h
theorem QAD (s:ByteArray):bytesOf s=bs s:=rfl
theorem VX {α:Type} {l:List α} {i:Nat} (h:i<l.length) (y d:α):(l.set i y).getD i d=y:=by simp [List.getD,h]
theorem P6 {b:SBook} (h:b.fThings.length≤2932031007317):EZ b=some b:=by
 rw [EZ,Jq,TB (by simp;omega)];rfl
def IK (x a b:Int):Bool:=decide (a≤x) && decide (x≤b)
theorem CZ {x a b:Int}:IK x a b=true↔a≤x∧x≤b:=by simp [IK]
theorem Oo (x a b:Int):AZ x a b=some (IK x a b):=by
 show (bif decide (a≤x) then some (decide (x≤b)) else some false)=some (IK x a b)
 unfold IK;cases decide (a≤x) <;> rfl
def NM (n:Int):List Int:=if n > 127 then (128+n % 128)::NM (n / 128) else [w8 n]
termination_by n.toNat
decreasing_by omega
theorem RAD:∀ (k:Nat) (n:Int),n<128 ^ k→(NM n).length≤max k 1:=by
 intro k
 induction k with
 | zero=>intro n h;rw [NM,if_neg (by omega)];simp
 | succ k ih=>
  intro n h
  rw [NM]
  split
  ·rename_i hn
   have h2:n / 128<128 ^ k:=by
    rw [Int.pow_succ] at h
    exact Int.ediv_lt_of_lt_mul (by omega) h
   have:=ih _ h2
   simp only [List.length_cons]
   by_cases hk:k=0
   ·subst hk;simp at h2;try omega
   ·omega
  ·simp;try omega
theorem RZ {n:Int} (h:n≤9223372036854775807):(NM n).length≤10:=by
 have:=RAD 10 n (by (have:(128:Int) ^ 10=1180591620717411303424:=by decide);omega)
 omega
theorem EAI (n:Int):1≤(NM n).length:=by rw [NM];split <;> simp
theorem U6 {n:Int} (h:n > 127) (h2:n≤9223372036854775807):w64 (n.tdiv 128)=n / 128∧w8 (w64 (n.tmod 128+128))=128+n % 128∧w8 (w64 (128+n.tmod 128))=128+n % 128:=by
 have e1:n.tdiv 128=n / 128:=Int.tdiv_eq_ediv_of_nonneg (by omega)
 have e2:n.tmod 128=n % 128:=Int.tmod_eq_emod_of_nonneg (by omega)
 refine ⟨by rw [e1,w64_id (by omega) (by omega)],?_,?_⟩
 ·rw [e2,w64_id (by omega) (by omega),w8_id (by omega) (by omega)];omega
 ·rw [e2,w64_id (by omega) (by omega),w8_id (by omega) (by omega)]
theorem Uk {n:Int} (h:n≤9223372036854775807):Ua n=some (ofBytes (NM n)):=by
 have key:∀ (n:Int) (m:Nat) (out:List Int),n≤9223372036854775807→(NM n).length≤m→out.length+(NM n).length≤1000→Jg m (.c0 n out)=some (ofBytes (out++NM n)):=by
  intro n
  induction n using NM.induct with
  | case1 n hn ih=>
   intro m out h1 h2 h3
   rw [NM,if_pos hn] at h2 h3 ⊢
   simp only [List.length_cons] at h2 h3
   obtain ⟨m,rfl⟩:∃ k,m=k+1:=⟨m - 1,by omega⟩
   obtain ⟨e1,e2,_⟩:=U6 hn h1
   simp only [Jg,Ql,e1,e2]
   rw [show decide (n > 127)=true from decide_eq_true hn,show decide ((out.length+1)*1≤140737488355328)=true from decide_eq_true (by omega)]
   simp only [cond_true]
   rw [ih m _ (by omega) (by omega) (by simp;omega)]
   simp
  | case2 n hn=>
   intro m out h1 h2 h3
   rw [NM,if_neg hn] at h2 h3 ⊢
   simp at h2 h3
   obtain ⟨m,rfl⟩:∃ k,m=k+1:=⟨m - 1,by omega⟩
   simp only [Jg,Ql]
   rw [show decide (n > 127)=false from decide_eq_false hn,show decide ((out.length+1)*1≤140737488355328)=true from decide_eq_true (by omega)]
   rfl
 have hl:=RZ h
 exact key n gas [] h (Nat.le_of_lt (gas_lt (by omega))) (by simp;omega)
def PX (x:SThing):Bool:=IK x.fId 1 1000 && IK x.fKind 1 3 && IK x.fNext 0 16 && ((x.fKind == 2) || ((x.fNext == 0) && !x.fSigns)) && ((x.fKind == 1) || !x.fWraps) && (bif x.fKind == 3 then decide ((x.fValue.size:Int)≤100) else (x.fValue.size:Int) == 32)
theorem V6 (x:SThing):Ba x=some (PX x):=by
 simp only [Ba,Oq,Oo,Option.bind_some,PX,bne]
 cases IK x.fId 1 1000 <;> cases IK x.fKind 1 3 <;> cases IK x.fNext 0 16 <;> cases (x.fKind == 2) <;> cases (x.fKind == 1) <;> cases (x.fKind == 3) <;> cases (x.fNext == 0) <;> cases x.fSigns <;> cases x.fWraps <;> rfl
theorem Qc {x:SThing} (h:PX x=true):1≤x.fKind∧x.fKind≤3∧1≤x.fId∧x.fId≤1000∧0≤x.fNext∧x.fNext≤16∧x.fValue.size≤100:=by
 unfold PX at h
 simp only [Bool.and_eq_true] at h
 obtain ⟨⟨⟨⟨⟨h1,h2⟩,h3⟩,_⟩,_⟩,h4⟩:=h
 rw [CZ] at h1 h2 h3
 refine ⟨h2.1,h2.2,h1.1,h1.2,h3.1,h3.2,?_⟩
 cases hk:x.fKind == 3
 ·rw [hk] at h4;simp at h4;omega
 ·rw [hk] at h4;simp at h4;omega
theorem SAD (b:Bool) (n:Int):Rl b n=some (bif b then n else 0):=by cases b <;> rfl
theorem X6 {n:Int} (h:0≤n) (h2:n≤255):Pg n=some (ofBytes [n]):=by
 have e:n.tmod 256=n:=by rw [Int.tmod_eq_emod_of_nonneg h];omega
 simp only [Pg,Tq,e]
 rw [show decide (n<0)=false from decide_eq_false (by omega),w8_id h h2]
 rfl
def UZ (s:ByteArray):ByteArray:=ofBytes (NM (s.size:Int))++s
theorem TAD {s:ByteArray} (h:s.size≤140737488351232):(UZ s).size≤s.size+10:=by
 unfold UZ;rw [ba_append_size,ofBytes_size];have:=RZ (n:=(s.size:Int)) (by omega);omega
theorem UAD {s:ByteArray} (h:s.size≤140737488351232):Qg s=some (UZ s):=by
 simp only [Qg,Wq,Uk (n:=(s.size:Int)) (by omega),Option.bind_some]
 have:=RZ (n:=(s.size:Int)) (by omega)
 rw [show decide ((ofBytes (NM (s.size:Int))).size+s.size≤9223372036854775807)=true from decide_eq_true (by rw [ofBytes_size];omega)]
 rfl
def Tc (x:SThing):Int:=(bif x.fHidden then 1 else 0)+(bif x.fFixed then 2 else 0)+(bif x.fSigns then 4 else 0)+(bif x.fWraps then 8 else 0)
theorem Y6 (x:SThing):0≤Tc x∧Tc x≤15:=by
 unfold Tc;cases x.fHidden <;> cases x.fFixed <;> cases x.fSigns <;> cases x.fWraps <;> decide
theorem VAD (m:Nat) (a b c d:Bool):Tt (m+5) (.c0 0 4 0 [a,b,c,d])=some ((bif a then 1 else 0)+(bif b then 2 else 0)+(bif c then 4 else 0)+(bif d then 8 else 0)):=by
 cases a <;> cases b <;> cases c <;> cases d <;> kernel_rfl
theorem WAD (x:SThing):Ei x=some (Tc x):=by
 obtain ⟨m,this⟩:∃ m,gas=m+5:=⟨gas - 5,rfl⟩
 unfold Ei Rt
 rw [this]
 exact VAD _ _ _ _ _
def Po (x:SThing):ByteArray:=ofBytes (NM x.fId)++ofBytes [x.fKind]++ofBytes [Tc x]++UZ x.fValue++ofBytes (NM x.fNext)
def NY (x:SThing):ByteArray×Bool:=bif PX x then (Po x,true) else (⟨#[]⟩,false)
theorem Gx {x:SThing} (h:PX x=true):(ofBytes (NM x.fId)).size≤10∧(UZ x.fValue).size≤110∧(ofBytes (NM x.fNext)).size≤10:=by
 obtain ⟨_,_,_,h1,_,h2,h3⟩:=Qc h
 rw [ofBytes_size,ofBytes_size]
 have:=RZ (n:=x.fId) (by omega)
 have:=RZ (n:=x.fNext) (by omega)
 have:=TAD (s:=x.fValue) (by omega)
 omega
theorem D7 {x:SThing} (h:PX x=true):(Po x).size≤200:=by
 obtain ⟨h1,h2,h3⟩:=Gx h
 unfold Po
 simp only [ba_append_size]
 have e1:∀ n:Int,(ofBytes [n]).size=1:=fun n=>ofBytes_size _
 rw [e1,e1];omega
theorem XAD (x:SThing):Ug x=some (NY x):=by
 simp only [Ug,Yq,V6,Option.bind_some,NY]
 cases h:PX x
 ·rfl
 ·obtain ⟨k1,k2,k3,k4,k5,k6,k7⟩:=Qc h
  obtain ⟨z1,z2,z3⟩:=Gx h
  have hf:=Y6 x
  have e1:∀ n:Int,(ofBytes [n]).size=1:=fun n=>ofBytes_size _
  have ef:w64 (w64 (w64 ((bif x.fHidden then (1:Int) else 0)+(bif x.fFixed then 2 else 0))+(bif x.fSigns then 4 else 0))+(bif x.fWraps then 8 else 0))=Tc x:=by
   unfold Tc;cases x.fHidden <;> cases x.fFixed <;> cases x.fSigns <;> cases x.fWraps <;> rfl
  simp only [SAD,Option.bind_some,ef,Uk (n:=x.fId) (by omega),X6 (n:=x.fKind) (by omega) (by omega),X6 hf.1 (by omega),UAD (s:=x.fValue) (by omega),Uk (n:=x.fNext) (by omega),ba_append_size,e1]
  simp only [Bool.not_true,cond_false,cond_true]
  rw [show decide ((ofBytes (NM x.fId)).size+1≤9223372036854775807)=true from decide_eq_true (by omega),show decide ((ofBytes (NM x.fId)).size+1+1≤9223372036854775807)=true from decide_eq_true (by omega),
   show decide ((ofBytes (NM x.fId)).size+1+1+(UZ x.fValue).size≤9223372036854775807)=true from decide_eq_true (by omega),show decide ((ofBytes (NM x.fId)).size+1+1+(UZ x.fValue).size+(ofBytes (NM x.fNext)).size≤9223372036854775807)=true from decide_eq_true (by omega)]
  rfl
def AY (x:SThing):Bool:=(x.fId == 0) && ((x.fKind == 0) && ((x.fHidden == false) && ((x.fFixed == false) && ((x.fSigns == false) && ((x.fWraps == false) && (((ByteArray.toList x.fValue) == (ByteArray.toList (⟨#[]⟩:ByteArray))) && ((x.fNext == 0) && true)))))))
theorem F7 (x:SThing):((x.fId == 0) && ((x.fKind == 0) && ((x.fHidden == false) && ((x.fFixed == false) && ((x.fSigns == false) && ((x.fWraps == false) && (((ByteArray.toList x.fValue) == (ByteArray.toList (⟨#[]⟩:ByteArray))) && ((x.fNext == 0) && true))))))))=AY x:=rfl
def WX (s:ByteArray):Bool:=(ByteArray.toList s) == (ByteArray.toList (⟨#[]⟩:ByteArray))
theorem G7 (s:ByteArray):((ByteArray.toList s) == (ByteArray.toList (⟨#[]⟩:ByteArray)))=WX s:=rfl
def noT:ByteArray×Bool:=((⟨#[]⟩:ByteArray),false)
def RV (r:SRec):ByteArray×Bool:=
 bif r.fKind == 1 then (bif (r.fText.size:Int) == 32 && r.fNum == 0 && AY r.fThing then (ofBytes [1]++r.fText,true) else noT)
 else bif r.fKind == 2 then (bif WX r.fText && AY r.fThing && IK r.fNum 0 3 then (ofBytes [2]++ofBytes (NM r.fNum),true) else noT)
 else bif r.fKind == 3 then (bif (NY r.fThing).2 && WX r.fText && r.fNum == 0 then (ofBytes [3]++(NY r.fThing).1,true) else noT)
 else bif r.fKind == 4 then (bif WX r.fText && AY r.fThing && IK r.fNum 1 1000 then (ofBytes [4]++ofBytes (NM r.fNum),true) else noT)
 else noT
theorem Qo {n a b:Int} (hb:b≤1000) (h:IK n a b=true) (k:Int):(ofBytes [k]).size+(ofBytes (NM n)).size≤9223372036854775807:=by
 rw [CZ] at h
 have:=RZ (n:=n) (by omega)
 rw [ofBytes_size,ofBytes_size];simp only [List.length_singleton];omega
theorem H7 {x:SThing} (h:(NY x).2=true) (k:Int):(ofBytes [k]).size+(NY x).1.size≤9223372036854775807:=by
 unfold NY at h ⊢
 cases ho:PX x
 ·rw [ho] at h;cases h
 ·have:=D7 ho
  rw [ofBytes_size];simp only [List.length_singleton,cond_true];omega
theorem YAD (r:SRec):Ob r=some (RV r):=by
 have h1:(⟨#[1]⟩:ByteArray)=ofBytes [1]:=rfl
 have h2:(⟨#[2]⟩:ByteArray)=ofBytes [2]:=rfl
 have h3:(⟨#[3]⟩:ByteArray)=ofBytes [3]:=rfl
 have h4:(⟨#[4]⟩:ByteArray)=ofBytes [4]:=rfl
 simp only [Ob,Zq,Oo,XAD,Option.bind_some,F7,h1,h2,h3,h4]
 simp only [G7,RV]
 cases r.fKind == 1
 ·simp only [cond_false]
  cases r.fKind == 2
  ·simp only [cond_false]
   cases r.fKind == 3
   ·simp only [cond_false]
    cases r.fKind == 4
    ·rfl
    ·cases WX r.fText <;> cases AY r.fThing <;> (try rfl)
     cases h:IK r.fNum 1 1000
     ·rfl
     ·have h':=h
      rw [CZ] at h'
      simp only [cond_true,Uk (n:=r.fNum) (by omega),Option.bind_some,Bool.and_self,decide_eq_true (Qo (by omega) h 4)]
   ·cases h:(NY r.fThing).2
    ·rfl
    ·cases WX r.fText <;> cases r.fNum == 0 <;> (try rfl)
     simp only [cond_true,Bool.and_self,decide_eq_true (H7 h 3)]
  ·cases WX r.fText <;> cases AY r.fThing <;> (try rfl)
   cases h:IK r.fNum 0 3
   ·rfl
   ·have h':=h
    rw [CZ] at h'
    simp only [cond_true,Uk (n:=r.fNum) (by omega),Option.bind_some,Bool.and_self,decide_eq_true (Qo (by omega) h 2)]
 ·cases h:(r.fText.size:Int) == 32 <;> cases r.fNum == 0 <;> cases AY r.fThing <;> (try rfl)
  have h':r.fText.size=32:=by have:=beq_iff_eq.1 h;omega
  have e:(ofBytes [1]).size+r.fText.size≤9223372036854775807:=by rw [ofBytes_size];simp only [List.length_singleton];omega
  simp only [cond_true,Bool.and_self,decide_eq_true e]
def rise (last:Int):Int→List SThing→Bool
 | _,[]=>true
 | p,x::xs=>PX x && (!decide (x.fId > last) && (!decide (p≥x.fId) && rise last x.fId xs))
def RY (l:List SThing):Nat→Int
 | 0=>0
 | i+1=>((l[i]?).map (·.fId)).getD 0
theorem Ox {l:List SThing} {i:Nat} (hi:i<l.length):RY l (i+1)=l[i].fId:=by simp [RY,hi]
theorem I7 {l:List SThing} {last:Int} {i:Nat} (hi:i<l.length):rise last (RY l i) (l.drop i)=(PX l[i] && (!decide (l[i].fId > last) && (!decide (RY l i≥l[i].fId) && rise last (RY l (i+1)) (l.drop (i+1))))):=by
 rw [drop_at hi,rise,Ox hi]
def HY (b:SBook):Bool:=(b.fWord.size:Int) == 32 && ((b.fChain.size:Int) == 32 && (IK b.fTries 0 3 && (decide ((b.fThings.length:Int)≤8) && (IK b.fLast 0 1000 && (IK b.fCount 0 10000 && rise b.fLast 0 b.fThings)))))
theorem ZAD {b:SBook} (hb:b.fThings.length≤140737488351232):∀ m i,i≤b.fThings.length→b.fThings.length - i<m→Qb m (.c0 i b)=some (rise b.fLast (RY b.fThings i) (b.fThings.drop i)):=fun m i h1 h2=>
 loopN (A:=Unit) (n:=b.fThings.length) (Lp:=Qb) (st:=fun i _=>.c0 i b) (Inv:=fun _ _=>True) (out:=fun i _=>some (rise b.fLast (RY b.fThings i) (b.fThings.drop i)))
  (fun m _ _=>by
   simp only [Qb,Vl]
   rw [show decide ((b.fThings.length:Int)<(b.fThings.length:Int))=false from decide_eq_false (by omega),List.drop_of_length_le (Nat.le_refl _)]
   rfl)
  (fun m i _ hi _=>by
   have hw:w64 ((i:Int)+1)=((i+1:Nat):Int):=by rw [w64_id (by omega) (by omega)];rfl
   simp only [I7 hi]
   simp only [Qb,Vl,Int.toNat_natCast,getD_at hi,V6,Option.bind_some,hw]
   rw [show decide ((i:Int)<(b.fThings.length:Int))=true from decide_eq_true (by omega),show decide ((0:Int)≤(i:Int))=true from decide_eq_true (by omega)]
   simp only [Bool.and_self,cond_true]
   cases h1:PX b.fThings[i]
   ·exact .inl rfl
   ·cases h2:decide (b.fThings[i].fId > b.fLast)
    ·by_cases h0:i=0
     ·subst h0
      refine .inr ⟨(),rfl,trivial,?_⟩
      rw [show decide (RY b.fThings 0≥b.fThings[0].fId)=false from decide_eq_false (by have:=(Qc h1).2.2.1;simp only [RY];omega)]
      rfl
     ·obtain ⟨j,rfl⟩:∃ j,i=j+1:=⟨i - 1,by omega⟩
      have hj:w64 (((j+1:Nat):Int) - 1)=(j:Int):=by rw [w64_id (by omega) (by omega)];omega
      have hjl:j<b.fThings.length:=by omega
      rw [Ox hjl]
      simp only [hj,Int.toNat_natCast,getD_at hjl,Bool.not_true,Bool.not_false,cond_false,Bool.true_and]
      rw [show decide (((j+1:Nat):Int) > 0)=true from decide_eq_true (by omega),show decide ((0:Int)≤(j:Int))=true from decide_eq_true (by omega),show decide ((j:Int)<(b.fThings.length:Int))=true from decide_eq_true (by omega)]
      simp only [Bool.and_self,cond_true]
      cases h3:decide (b.fThings[j].fId≥b.fThings[j+1].fId)
      ·exact .inr ⟨(),rfl,trivial,rfl⟩
      ·exact .inl rfl
    ·exact .inl rfl) m i () h1 h2 trivial
theorem Af {b:SBook} (hb:b.fThings.length≤140737488351232):Ub b=some (HY b):=by
 have h0:Qb gas (.c0 0 b)=some (rise b.fLast 0 b.fThings):=ZAD hb gas 0 (Nat.zero_le _) (gas_lt (by omega))
 simp only [Ub,Ar,Oo,Option.bind_some,HY,bne,h0]
 rw [show decide ((b.fThings.length:Int)≤8) = !decide ((b.fThings.length:Int) > 8) by rw [←decide_not];simp]
 cases (b.fWord.size:Int) == 32 <;> cases (b.fChain.size:Int) == 32 <;> cases IK b.fTries 0 3 <;> cases decide ((b.fThings.length:Int) > 8) <;> cases IK b.fLast 0 1000 <;> cases IK b.fCount 0 10000 <;> rfl
def YX (xs:List SThing) (t:Int):Option SThing:=xs.find? fun x=>x.fId == t
def Bf:SThing:=⟨0,0,false,false,false,false,⟨#[]⟩,0⟩
theorem J7 {b:SBook} {t:Int} (h:b.fThings.length≤140737488351232):Vd b t=some (match YX b.fThings t with | some x=>(x,true) | none=>(Bf,false)):=by
 have key:∀ m i,i≤b.fThings.length→b.fThings.length - i<m→Ud m (.c0 t i b Bf)=some (match YX (b.fThings.drop i) t with | some x=>(x,true) | none=>(Bf,false)):=fun m i h1 h2=>
  loopN (A:=Unit) (n:=b.fThings.length) (Lp:=Ud) (st:=fun i _=>.c0 t i b Bf) (Inv:=fun _ _=>True) (out:=fun i _=>some (match YX (b.fThings.drop i) t with | some x=>(x,true) | none=>(Bf,false)))
   (fun m _ _=>by simp [Ud,Xl,YX,Bf])
   (fun m i _ hi _=>by
    have hw:w64 ((i:Int)+1)=((i+1:Nat):Int):=by rw [w64_id (by omega) (by omega)];rfl
    simp only [Ud,Xl,Int.toNat_natCast,getD_at hi,hw,drop_at hi,YX,List.find?_cons]
    cases hq:b.fThings[i].fId == t
    ·exact .inr ⟨(),by simp [hi],trivial,by simp⟩
    ·exact .inl (by simp [hi])) m i () h1 h2 trivial
 have h0:=key gas 0 (Nat.zero_le _) (gas_lt (by omega))
 exact h0
theorem Px {r:SRec} (h:(RV r).2=true):(r.fKind=1∧r.fText.size=32)∨(r.fKind=2∧0≤r.fNum∧r.fNum≤3)∨(r.fKind=3∧PX r.fThing=true)∨(r.fKind=4∧1≤r.fNum∧r.fNum≤1000):=by
 rw [RV] at h
 by_cases h1:r.fKind=1
 ·rw [show (r.fKind == 1)=true by rw [beq_iff_eq];exact h1,cond_true] at h
  cases hc:((r.fText.size:Int) == 32 && r.fNum == 0 && AY r.fThing)
  ·rw [hc] at h;cases h
  ·rw [Bool.and_eq_true,Bool.and_eq_true,beq_iff_eq] at hc
   exact .inl ⟨h1,by omega⟩
 rw [show (r.fKind == 1)=false by rw [beq_eq_false_iff_ne];exact h1,cond_false] at h
 by_cases h2:r.fKind=2
 ·rw [show (r.fKind == 2)=true by rw [beq_iff_eq];exact h2,cond_true] at h
  cases hc:(WX r.fText && AY r.fThing && IK r.fNum 0 3)
  ·rw [hc] at h;cases h
  ·rw [Bool.and_eq_true,CZ] at hc
   exact .inr (.inl ⟨h2,hc.2⟩)
 rw [show (r.fKind == 2)=false by rw [beq_eq_false_iff_ne];exact h2,cond_false] at h
 by_cases h3:r.fKind=3
 ·rw [show (r.fKind == 3)=true by rw [beq_iff_eq];exact h3,cond_true] at h
  cases hc:((NY r.fThing).2 && WX r.fText && r.fNum == 0)
  ·rw [hc] at h;cases h
  ·rw [Bool.and_eq_true,Bool.and_eq_true] at hc
   refine .inr (.inr (.inl ⟨h3,?_⟩))
   have h4:=hc.1.1
   rw [NY] at h4
   cases ho:PX r.fThing
   ·rw [ho] at h4;cases h4
   ·rfl
 rw [show (r.fKind == 3)=false by rw [beq_eq_false_iff_ne];exact h3,cond_false] at h
 by_cases h4:r.fKind=4
 ·rw [show (r.fKind == 4)=true by rw [beq_iff_eq];exact h4,cond_true] at h
  cases hc:(WX r.fText && AY r.fThing && IK r.fNum 1 1000)
  ·rw [hc] at h;cases h
  ·rw [Bool.and_eq_true,CZ] at hc
   exact .inr (.inr (.inr ⟨h4,hc.2⟩))
 rw [show (r.fKind == 4)=false by rw [beq_eq_false_iff_ne];exact h4] at h
 cases h
theorem N7 (r:SRec):(RV r).1.size≤300:=by
 rw [RV]
 have one:∀ n:Int,(ofBytes [n]).size=1:=fun n=>by rw [ofBytes_size];rfl
 cases hk1:(r.fKind == 1)
 ·rw [cond_false]
  cases hk2:(r.fKind == 2)
  ·rw [cond_false]
   cases hk3:(r.fKind == 3)
   ·rw [cond_false]
    cases hk4:(r.fKind == 4)
    ·exact Nat.zero_le _
    ·rw [cond_true]
     cases hc:(WX r.fText && AY r.fThing && IK r.fNum 1 1000)
     ·exact Nat.zero_le _
     ·rw [Bool.and_eq_true,CZ] at hc
      have:=RZ (n:=r.fNum) (by omega)
      rw [cond_true,ByteArray.size_append,one,ofBytes_size];omega
   ·rw [cond_true]
    cases hc:((NY r.fThing).2 && WX r.fText && r.fNum == 0)
    ·exact Nat.zero_le _
    ·rw [cond_true,ByteArray.size_append,one,NY]
     cases ho:PX r.fThing
     ·exact Nat.le_of_ble_eq_true rfl
     ·have:=D7 ho
      show 1+(Po r.fThing).size≤300;omega
  ·rw [cond_true]
   cases hc:(WX r.fText && AY r.fThing && IK r.fNum 0 3)
   ·exact Nat.zero_le _
   ·rw [Bool.and_eq_true,CZ] at hc
    have:=RZ (n:=r.fNum) (by omega)
    rw [cond_true,ByteArray.size_append,one,ofBytes_size];omega
 ·rw [cond_true]
  cases hc:((r.fText.size:Int) == 32 && r.fNum == 0 && AY r.fThing)
  ·exact Nat.zero_le _
  ·rw [Bool.and_eq_true,Bool.and_eq_true,beq_iff_eq] at hc
   rw [cond_true,ByteArray.size_append,one];omega
def GY:List SThing→Int→Nat→Option Nat
 | [],_,_=>none
 | x::xs,t,i=>if x.fId == t then some i else GY xs t (i+1)
theorem AAE (t:Int):∀ (xs:List SThing) (i:Nat),match GY xs t i with | some j=>i≤j∧j<i+xs.length∧YX xs t=xs[j - i]? | none=>YX xs t=none:=by
 intro xs
 induction xs with
 | nil=>intro i;rfl
 | cons x xs ih=>
  intro i
  simp only [GY,YX,List.find?_cons]
  cases hq:x.fId == t
  ·have:=ih (i+1)
   simp only [Bool.false_eq_true,if_false]
   split at this
   ·rename_i j hj
    obtain ⟨h1,h2,h3⟩:=this
    refine ⟨by omega,by simp;omega,?_⟩
    rw [show j - i=(j - (i+1))+1 by omega,List.getElem?_cons_succ]
    exact h3
   ·exact this
  ·simp
theorem O7 {b:SBook} {t:Int} (h:b.fThings.length≤140737488351232):Je b t=some (match GY b.fThings t 0 with | some j=>(j:Int) | none=> -1):=by
 have key:∀ m i,i≤b.fThings.length→b.fThings.length - i<m→Ie m (.c0 t b.fThings b.fThings.length i)=some (match GY (b.fThings.drop i) t i with | some j=>(j:Int) | none=> -1):=fun m i h1 h2=>
  loopN (A:=Unit) (n:=b.fThings.length) (Lp:=Ie) (st:=fun i _=>.c0 t b.fThings b.fThings.length i) (Inv:=fun _ _=>True) (out:=fun i _=>some (match GY (b.fThings.drop i) t i with | some j=>(j:Int) | none=> -1))
   (fun m _ _=>by simp [Ie,Pn,GY])
   (fun m i _ hi _=>by
    have hw:w64 ((i:Int)+1)=((i+1:Nat):Int):=by rw [w64_id (by omega) (by omega)];rfl
    simp only [Ie,Pn,Int.toNat_natCast,getD_at hi,hw,drop_at hi,GY]
    cases hq:b.fThings[i].fId == t
    ·exact .inr ⟨(),by simp [hi],trivial,by simp⟩
    ·exact .inl (by simp [hi])) m i () h1 h2 trivial
 have h0:=key gas 0 (Nat.zero_le _) (gas_lt (by omega))
 exact h0
theorem Uc {n:Int}:w32 n=n % 4294967296:=by
 simp only [w32,IntKind.wrap,IntKind.signed,IntKind.bits]
 simp
theorem JZ {n:Int} (h1:0≤n) (h2:n<4294967296):w32 n=n:=by rw [Uc];omega
def R32 (n:Int):Prop:=0≤n∧n<4294967296
theorem IY (n:Int):R32 (w32 n):=by unfold R32;rw [Uc];omega
theorem FAI {n:Int} (h:0≤n∧n≤255):R32 n:=by unfold R32;omega
def xr (x y:Int):Int:=w32 (((BitVec.toNat ((BitVec.ofInt (IntKind.bits IntKind.u32) x) ^^^ (BitVec.ofInt (IntKind.bits IntKind.u32) y))):Nat):Int)
def an (x y:Int):Int:=w32 (((BitVec.toNat ((BitVec.ofInt (IntKind.bits IntKind.u32) x) &&& (BitVec.ofInt (IntKind.bits IntKind.u32) y))):Nat):Int)
def Vk (x y:Int):Int:=w32 (((BitVec.toNat ((BitVec.ofInt (IntKind.bits IntKind.u32) x) ||| (BitVec.ofInt (IntKind.bits IntKind.u32) y))):Nat):Int)
theorem Xc (x y:Int):w32 (((BitVec.toNat ((BitVec.ofInt (IntKind.bits IntKind.u32) x) ^^^ (BitVec.ofInt (IntKind.bits IntKind.u32) y))):Nat):Int)=xr x y:=rfl
theorem P7 (x y:Int):w32 (((BitVec.toNat ((BitVec.ofInt (IntKind.bits IntKind.u32) x) &&& (BitVec.ofInt (IntKind.bits IntKind.u32) y))):Nat):Int)=an x y:=rfl
theorem Q7 (x y:Int):w32 (((BitVec.toNat ((BitVec.ofInt (IntKind.bits IntKind.u32) x) ||| (BitVec.ofInt (IntKind.bits IntKind.u32) y))):Nat):Int)=Vk x y:=rfl
theorem GAI (x y:Int):R32 (xr x y):=IY _
theorem HAI (x y:Int):R32 (an x y):=IY _
theorem U7 {a b:Nat} {s:Nat} (hb:b<2 ^ s) (ha:a*2 ^ s<4294967296) (hs:b<4294967296):Vk ((a*2 ^ s:Nat):Int) (b:Int)=((a*2 ^ s+b:Nat):Int):=by
 have e:a*2 ^ s ||| b=a*2 ^ s+b:=by
  have:=Nat.shiftLeft_add_eq_or_of_lt hb a
  rw [Nat.shiftLeft_eq] at this
  exact this.symm
 unfold Vk
 have h3:a*2 ^ s ||| b<2 ^ 32:=Nat.or_lt_two_pow (by omega) (by omega)
 rw [BitVec.toNat_or]
 show w32 (((BitVec.ofInt 32 _).toNat ||| (BitVec.ofInt 32 _).toNat:Nat):Int)=_
 rw [BitVec.ofInt_natCast,BitVec.ofInt_natCast,BitVec.toNat_ofNat,BitVec.toNat_ofNat,Nat.mod_eq_of_lt (by omega),Nat.mod_eq_of_lt (by omega),e]
 rw [e] at h3
 exact JZ (by omega) (by omega)
theorem BAE {e:Int} (h:R32 e):xr (ite ((IntKind.signed IntKind.u32)=true) (-(1:Int)) (IntKind.max IntKind.u32)) e=w32 (4294967295 - e):=by
 obtain ⟨h1,h2⟩:=h
 obtain ⟨n,rfl⟩:∃ n:Nat,e=(n:Int):=⟨e.toNat,by omega⟩
 have hn:n<4294967296:=by omega
 have e1:(ite ((IntKind.signed IntKind.u32)=true) (-(1:Int)) (IntKind.max IntKind.u32))=4294967295:=by decide
 rw [e1]
 unfold xr
 show w32 (((BitVec.ofInt 32 4294967295 ^^^ BitVec.ofInt 32 (n:Int)).toNat:Nat):Int)=_
 have e2:BitVec.ofInt 32 4294967295=BitVec.allOnes 32:=by decide
 rw [e2,BitVec.ofInt_natCast,BitVec.allOnes_xor,BitVec.toNat_not,BitVec.toNat_ofNat]
 rw [Uc,Uc]
 omega
def rt (low high x:Int):Int:=x / low+x % low*high
theorem CAE {low high x:Int} (h:R32 x) (hl:0<low) (hh:0<high) (hlh:low*high=4294967296):R32 (rt low high x):=by
 unfold R32 rt at *
 have h1:0≤x / low:=Int.ediv_nonneg h.1 (by omega)
 have h2:0≤x % low:=Int.emod_nonneg _ (by omega)
 have h3:x % low<low:=Int.emod_lt_of_pos _ hl
 have h4:x / low<high:=Int.ediv_lt_of_lt_mul hl (by rw [Int.mul_comm,hlh];exact h.2)
 have h5:0≤x % low*high:=Int.mul_nonneg h2 (by omega)
 have h6:x % low*high≤(low - 1)*high:=Int.mul_le_mul_of_nonneg_right (by omega) (by omega)
 have h7:(low - 1)*high=low*high - high:=by rw [Int.sub_mul,Int.one_mul]
 omega
theorem DAE {x:Int} (h:R32 x) (n:Nat) (hn:0<n) (hn2:n<32):Vk (w32 (x*2 ^ (32 - n))) (x / 2 ^ n)=rt (2 ^ n) (2 ^ (32 - n)) x:=by
 obtain ⟨h1,h2⟩:=h
 obtain ⟨y,rfl⟩:∃ y:Nat,x=(y:Int):=⟨x.toNat,by omega⟩
 have hy:y<4294967296:=by omega
 have e0:(4294967296:Nat)=2 ^ n*2 ^ (32 - n):=by rw [←Nat.pow_add,show n+(32 - n)=32 by omega]
 have e1:w32 ((y:Int)*2 ^ (32 - n))=((y % 2 ^ n*2 ^ (32 - n):Nat):Int):=by
  rw [Uc]
  have h5:((y:Int)*2 ^ (32 - n))=((y*2 ^ (32 - n):Nat):Int):=by push_cast;rfl
  have h6:y*2 ^ (32 - n) % 4294967296=y % 2 ^ n*2 ^ (32 - n):=by rw [e0,Nat.mul_mod_mul_right]
  rw [h5,←h6]
  omega
 have e2:((y:Int) / 2 ^ n)=((y / 2 ^ n:Nat):Int):=by push_cast;rfl
 have hp:0<2 ^ n:=Nat.two_pow_pos n
 have hp2:0<2 ^ (32 - n):=Nat.two_pow_pos _
 have hm:y % 2 ^ n<2 ^ n:=Nat.mod_lt _ hp
 have hd:y / 2 ^ n<2 ^ (32 - n):=Nat.div_lt_of_lt_mul (by rw [←e0];exact hy)
 rw [e1,e2,U7 hd (by rw [e0];exact Nat.mul_lt_mul_of_pos_right hm hp2) (Nat.lt_of_le_of_lt (Nat.div_le_self _ _) hy)]
 unfold rt
 push_cast
 omega
def V7 (x:Int):Int:=xr (xr (rt 128 33554432 x) (rt 262144 16384 x)) (x / 8)
def sg1 (x:Int):Int:=xr (xr (rt 131072 32768 x) (rt 524288 8192 x)) (x / 1024)
def X7 (x:Int):Int:=xr (xr (rt 64 67108864 x) (rt 2048 2097152 x)) (rt 33554432 128 x)
def Y7 (x:Int):Int:=xr (xr (rt 4 1073741824 x) (rt 8192 524288 x)) (rt 4194304 1024 x)
def EAE (w:List Int) (t:Nat):Int:=w32 (w32 (w32 (sg1 (w.getD (t - 2) 0)+w.getD (t - 7) 0)+V7 (w.getD (t - 15) 0))+w.getD (t - 16) 0)
def sched (w:List Int):Nat→List Int
 | 0=>w
 | n+1=>sched w n++[EAE (sched w n) (16+n)]
theorem Xk {w:List Int} (h:w.length=16) (n:Nat):(sched w n).length=16+n:=by
 induction n with
 | zero=>exact h
 | succ n ih=>simp [sched,ih];omega
theorem Ro {w:List Int} (h:∀ x ∈ w,R32 x) (n:Nat):∀ x ∈ sched w n,R32 x:=by
 induction n with
 | zero=>exact h
 | succ n ih=>
  intro x hx
  rw [sched,List.mem_append,List.mem_singleton] at hx
  rcases hx with hx | rfl
  ·exact ih x hx
  ·exact IY _
theorem Yk {l:List Int} (h:∀ x ∈ l,R32 x) (i:Nat):R32 (l.getD i 0):=by
 by_cases hi:i<l.length
 ·rw [getD_at hi];exact h _ (List.getElem_mem hi)
 ·have:l.getD i 0=0:=by simp [List.getD,List.getElem?_eq_none (Nat.le_of_not_lt hi)]
  rw [this];unfold R32;omega
structure Reg where
 a:Int
 b:Int
 c:Int
 d:Int
 e:Int
 f:Int
 g:Int
 h:Int
def Reg.ok (r:Reg):Prop:=R32 r.a∧R32 r.b∧R32 r.c∧R32 r.d∧R32 r.e∧R32 r.f∧R32 r.g∧R32 r.h
def Reg.l (r:Reg):List Int:=[r.a,r.b,r.c,r.d,r.e,r.f,r.g,r.h]
theorem Reg.Zk (r:Reg):r.l.length=8:=rfl
def t1 (r:Reg) (k w:Int):Int:=w32 (w32 (w32 (w32 (r.h+X7 r.e)+xr (an r.e r.f) (an (w32 (4294967295 - r.e)) r.g))+k)+w)
def t2 (r:Reg):Int:=w32 (Y7 r.a+xr (xr (an r.a r.b) (an r.a r.c)) (an r.b r.c))
def KZ (r:Reg) (k w:Int):Reg:=⟨w32 (t1 r k w+t2 r),r.a,r.b,r.c,w32 (r.d+t1 r k w),r.e,r.f,r.g⟩
theorem FAE {r:Reg} (h:r.ok) (k w:Int):(KZ r k w).ok:=⟨IY _,h.1,h.2.1,h.2.2.1,IY _,h.2.2.2.2.1,h.2.2.2.2.2.1,h.2.2.2.2.2.2.1⟩
def ZX (K W:List Int) (r:Reg):Nat→Reg
 | 0=>r
 | n+1=>KZ (ZX K W r n) (K.getD n 0) (W.getD n 0)
theorem Z7 (K W:List Int) {r:Reg} (h:r.ok) (n:Nat):(ZX K W r n).ok:=by
 induction n with
 | zero=>exact h
 | succ n ih=>exact FAE ih _ _
def Yc (s r:Reg):Reg:=⟨w32 (s.a+r.a),w32 (s.b+r.b),w32 (s.c+r.c),w32 (s.d+r.d),w32 (s.e+r.e),w32 (s.f+r.f),w32 (s.g+r.g),w32 (s.h+r.h)⟩
theorem GAE (s r:Reg):(Yc s r).ok:=⟨IY _,IY _,IY _,IY _,IY _,IY _,IY _,IY _⟩
def keysL:List Int:=[1116352408,1899447441,3049323471,3921009573,961987163,1508970993,2453635748,2870763221,3624381080,310598401,607225278,1426881987,1925078388,2162078206,2614888103,3248222580,3835390401,4022224774,264347078,604807628,770255983,1249150122,1555081692,1996064986,2554220882,2821834349,2952996808,3210313671,3336571891,3584528711,113926993,338241895,666307205,773529912,1294757372,1396182291,1695183700,1986661051,2177026350,2456956037,2730485921,2820302411,3259730800,3345764771,3516065817,3600352804,4094571909,275423344,430227734,506948616,659060556,883997877,958139571,1322822218,1537002063,1747873779,1955562222,2024104815,2227730452,2361852424,2428436474,2756734187,3204031479,3329325298]
def be4 (a b c d:Int):Int:=a*16777216+b*65536+c*256+d
def wordAt (l:List Int) (i:Nat):Int:=be4 (l.getD (4*i) 0) (l.getD (4*i+1) 0) (l.getD (4*i+2) 0) (l.getD (4*i+3) 0)
def TT (l:List Int) (n:Nat):List Int:=(List.range n).map (wordAt l)
theorem Na (l:List Int) (n:Nat):(TT l n).length=n:=by simp [TT]
theorem A8 (l:List Int) (n:Nat):TT l (n+1)=TT l n++[wordAt l n]:=by simp [TT,List.range_succ]
theorem HAE {a b c d:Int} (ha:0≤a∧a≤255) (hb:0≤b∧b≤255) (hc:0≤c∧c≤255) (hd:0≤d∧d≤255):R32 (be4 a b c d):=by unfold R32 be4;omega
theorem IAE {l:List Int} (h:KY l) (i:Nat):R32 (wordAt l i):=HAE (LY h _) (LY h _) (LY h _) (LY h _)
theorem Qx {l:List Int} (h:KY l) (n:Nat):∀ x ∈ TT l n,R32 x:=by
 intro x hx
 simp only [TT,List.mem_map] at hx
 obtain ⟨i,_,rfl⟩:=hx
 exact IAE h i
def comp (s:Reg) (b:List Int):Reg:=Yc s (ZX keysL (sched (TT b 16) 48) s 64)
theorem D8 (s:Reg) (b:List Int):(comp s b).ok:=GAE _ _
def comps:Nat→Reg→List Int→Reg
 | 0,s,_=>s
 | n+1,s,b=>comps n (comp s (b.take 64)) (b.drop 64)
theorem Ad {s:Reg} (h:s.ok):∀ (n:Nat) (b:List Int),(comps n s b).ok:=by
 intro n
 induction n generalizing s with
 | zero=>intro b;exact h
 | succ n ih=>intro b;exact ih (D8 _ _) _
theorem E8 (n m:Nat):∀ (s:Reg) (b:List Int),comps (n+m) s b=comps m (comps n s b) (b.drop (64*n)):=by
 induction n with
 | zero=>intro s b;simp [comps]
 | succ n ih=>
  intro s b
  rw [Nat.add_right_comm,comps,comps,ih,List.drop_drop]
  congr 2
  omega
theorem JAE (n:Nat):∀ (s:Reg) (b c:List Int),64*n≤b.length→comps n s (b++c)=comps n s b:=by
 induction n with
 | zero=>intro s b c _;rfl
 | succ n ih=>
  intro s b c h
  rw [comps,comps,List.take_append_of_le_length (by omega),List.drop_append_of_le_length (by omega),ih _ _ _ (by simp;omega)]
def four (x:Int):List Int:=[x / 16777216,x / 65536 % 256,x / 256 % 256,x % 256]
theorem Uo {x:Int} (h:R32 x):KY (four x):=by
 intro n hn
 unfold R32 at h
 simp only [four,List.mem_cons,List.not_mem_nil,or_false] at hn
 rcases hn with rfl | rfl | rfl | rfl <;> omega
def SN (ws:List Int):List Int:=ws.flatMap four
theorem Df (ws:List Int):(SN ws).length=4*ws.length:=by
 induction ws with
 | nil=>rfl
 | cons w ws ih=>
  rw [show SN (w::ws)=four w++SN ws from rfl,List.length_append,ih]
  simp only [four,List.length_cons,List.length_nil];omega
theorem Rx {ws:List Int} (h:∀ x ∈ ws,R32 x):KY (SN ws):=by
 intro n hn
 simp only [SN,List.mem_flatMap] at hn
 obtain ⟨x,hx,hn⟩:=hn
 exact Uo (h x hx) n hn
theorem F8 (a b:List Int):SN (a++b)=SN a++SN b:=by simp [SN]
theorem KAE {x:Int} (h:R32 x):be4 (x / 16777216) (x / 65536 % 256) (x / 256 % 256) (x % 256)=x:=by unfold R32 at h;unfold be4;omega
theorem G8:∀ {ws:List Int} (_:∀ x ∈ ws,R32 x) {i:Nat} (hi:i<ws.length),wordAt (SN ws) i=ws[i]
 | w::ws,h,0,_=>by
  have:=KAE (h w (List.mem_cons_self ..))
  simpa [wordAt,SN,four] using this
 | w::ws,h,i+1,hi=>by
  have ih:=G8 (ws:=ws) (fun x hx=>h x (List.mem_cons_of_mem _ hx)) (i:=i) (by simpa using hi)
  rw [List.getElem_cons_succ,←ih]
  have e:∀ j,(SN (w::ws)).getD (j+4) 0=(SN ws).getD j 0:=fun j=>by simp [SN,four,List.getD]
  unfold wordAt
  rw [show 4*(i+1)=4*i+4 by omega,show 4*i+4+1=(4*i+1)+4 by omega,show 4*i+4+2=(4*i+2)+4 by omega,show 4*i+4+3=(4*i+3)+4 by omega,e,e,e,e]
theorem LAE {ws:List Int} (h:∀ x ∈ ws,R32 x):TT (SN ws) ws.length=ws:=by
 apply List.ext_getElem
 ·rw [Na]
 ·intro i h1 h2
  simp only [TT,List.getElem_map,List.getElem_range]
  exact G8 h h2
theorem Reg.Bd {r:Reg} (h:r.ok):∀ x ∈ r.l,R32 x:=by
 intro x hx
 simp only [Reg.l,List.mem_cons,List.not_mem_nil,or_false] at hx
 obtain ⟨h1,h2,h3,h4,h5,h6,h7,h8⟩:=h
 rcases hx with rfl | rfl | rfl | rfl | rfl | rfl | rfl | rfl <;> assumption
def XY:Reg:=⟨1779033703,3144134277,1013904242,2773480762,1359893119,2600822924,528734635,1541459225⟩
theorem Cb:XY.ok:=by unfold Reg.ok R32 XY;decide
def LZ (n:Int):List Int:=[0,0,0,n / 4294967296 % 256,n / 16777216 % 256,n / 65536 % 256,n / 256 % 256,n % 256]
def CV (n:Nat):List Int:=128::(List.replicate ((119 - n % 64) % 64) 0++LZ (8*(n:Int)))
theorem Vo (n:Nat):(CV n).length=9+(119 - n % 64) % 64:=by simp [CV,LZ];omega
theorem MAE (n:Nat):(n+(CV n).length) % 64=0:=by rw [Vo];omega
theorem Ux (n:Nat):KY (CV n):=by
 intro x hx
 simp only [CV,LZ,List.mem_cons,List.mem_append,List.mem_replicate,List.not_mem_nil,or_false] at hx
 omega
def Ed (b:List Int):List Int:=SN (comps ((b.length+(CV b.length).length) / 64) XY (b++CV b.length)).l
def SY (s:ByteArray):ByteArray:=ofBytes (Ed (bs s))
theorem NAE (b:List Int):(Ed b).length=32:=by rw [Ed,Df];rfl
theorem OAE (b:List Int):KY (Ed b):=Rx (Reg.Bd (Ad Cb _ _))
theorem PAE (s:ByteArray):(SY s).size=32:=by rw [SY,ofBytes_size,NAE]
theorem IAI (s:ByteArray):bs (SY s)=Ed (bs s):=WY (OAE _)
theorem QAE {x:Int} (h:R32 x):[w8 (w32 (x.tdiv 16777216)),w8 ((w32 (x.tdiv 65536)).tmod 256),w8 ((w32 (x.tdiv 256)).tmod 256),w8 (x.tmod 256)]=four x:=by
 obtain ⟨h1,h2⟩:=h
 rw [Int.tdiv_eq_ediv_of_nonneg h1,Int.tdiv_eq_ediv_of_nonneg h1,Int.tdiv_eq_ediv_of_nonneg h1,Int.tmod_eq_emod_of_nonneg h1]
 rw [JZ (n:=x / 16777216) (by omega) (by omega),JZ (n:=x / 65536) (by omega) (by omega),JZ (n:=x / 256) (by omega) (by omega)]
 rw [Int.tmod_eq_emod_of_nonneg (by omega),Int.tmod_eq_emod_of_nonneg (by omega)]
 simp only [four,w8_mod,List.cons.injEq,and_true]
 omega
theorem Vx {ws:List Int} (h:∀ x ∈ ws,R32 x) (hl:ws.length≤1000000000000):BZ ws=some (ofBytes (SN ws)):=by
 have key:=loopN (A:=Unit) (n:=ws.length) (Lp:=Ah) (st:=fun i _=>.c0 ws (i:Int) (SN (ws.take i))) (Inv:=fun _ _=>True) (out:=fun _ _=>some (ofBytes (SN ws)))
  (fun m _ _=>by
   simp only [Ah,Cm]
   rw [FN (by simp),List.take_length])
  (fun m i _ hi _=>.inr ⟨(),by
   have e:w64 ((i:Int)+1)=((i+1:Nat):Int):=by rw [w64_id (by omega) (by omega)];rfl
   simp only [Ah,Cm,e,Int.toNat_natCast]
   rw [TB (by simp;omega),TB (by simp;omega),TB (by rw [Df,List.length_take];simp;omega)]
   rw [getD_at hi,QAE (h _ (List.getElem_mem hi)),take_at hi,F8]
   simp [SN],trivial,rfl⟩)
 exact key gas 0 () (Nat.zero_le _) (gas_lt (by omega)) trivial
def Oa:SHasher:=⟨ofBytes (SN XY.l),⟨#[]⟩,0⟩
theorem RAE:Dh=some Oa:=by
 have h:=Vx (ws:=XY.l) (Reg.Bd Cb) (by decide)
 have e:Am=some XY.l:=rfl
 simp only [Dh,Nr,e,h,Option.bind_some]
 rfl
theorem H8 {h:SHasher} (h1:h.fState.size=32) (h2:h.fRest.size<64) (h3:0≤h.fCount∧h.fCount≤1000000000) (h4:h.fCount % 64=(h.fRest.size:Int)):TY h=some true:=by
 have e:IK h.fCount 0 1000000000=true:=by rw [CZ];omega
 simp only [TY,Qr,Oo,Option.bind_some,e]
 rw [TB (by simp;omega),TB (by simp;omega),cond_true,Int.tmod_eq_emod_of_nonneg h3.1,h4]
 simp
theorem SAE {s:ByteArray} {i:Nat} (h:4*i+4≤s.size) (hs:s.size≤9000000000000000000):Zb s ((4*i:Nat):Int)=some (wordAt (bs s) i):=by
 have hb:=Ze s
 have e1:w64 (((4*i:Nat):Int)+1)=((4*i+1:Nat):Int):=by rw [w64_id (by omega) (by omega)];rfl
 have e2:w64 (((4*i:Nat):Int)+2)=((4*i+2:Nat):Int):=by rw [w64_id (by omega) (by omega)];rfl
 have e3:w64 (((4*i:Nat):Int)+3)=((4*i+3:Nat):Int):=by rw [w64_id (by omega) (by omega)];rfl
 simp only [Zb,Sr,e1,e2,e3]
 rw [TB (by simp;omega),TB (by simp;omega),TB (by simp;omega),TB (by simp;omega)]
 rw [Ye (by omega),Ye (by omega),Ye (by omega),Ye (by omega)]
 have b0:=LY hb (4*i)
 have b1:=LY hb (4*i+1)
 have b2:=LY hb (4*i+2)
 have b3:=LY hb (4*i+3)
 unfold wordAt be4
 simp only [Uc]
 congr 1
 omega
theorem I8 {s:ByteArray} (hs:s.size≤1000000000000):JY s=some (TT (bs s) (s.size / 4)):=by
 have key:=loopN (A:=Unit) (n:=s.size / 4) (Lp:=Fh) (st:=fun i _=>.c0 s ((4*i:Nat):Int) (TT (bs s) i)) (Inv:=fun _ _=>True) (out:=fun _ _=>some (TT (bs s) (s.size / 4)))
  (fun m _ _=>by
   simp only [Fh,Jm]
   rw [w64_id (by omega) (by omega),FN (by simp;omega)])
  (fun m i _ hi _=>.inr ⟨(),by
   have e:w64 (((4*i:Nat):Int)+4)=((4*(i+1):Nat):Int):=by rw [w64_id (by omega) (by omega)];omega
   simp only [Fh,Jm,e,SAE (s:=s) (i:=i) (by omega) (by omega),Option.bind_some,Na,A8]
   rw [TB (by simp;omega),TB (by simp;omega)],trivial,rfl⟩)
 exact key gas 0 () (Nat.zero_le _) (gas_lt (by omega)) trivial
theorem VZ {x low high:Int} (h:R32 x) (hl:0<low) (hh:0<high) (hlh:low*high=4294967296):Gh x low high=some (rt low high x):=by
 have hr:=CAE h hl hh hlh
 obtain ⟨h1,h2⟩:=h
 have e0:(!(low == 0))=true:=by simp;omega
 have d1:0≤x / low:=Int.ediv_nonneg h1 (by omega)
 have d2:0≤x % low*high:=Int.mul_nonneg (Int.emod_nonneg _ (by omega)) (by omega)
 unfold R32 rt at hr
 simp only [Gh,Xr,e0,cond_true,Int.tdiv_eq_ediv_of_nonneg h1,Int.tmod_eq_emod_of_nonneg h1]
 rw [JZ d1 (by omega),JZ d2 (by omega),JZ (by omega) (by omega)]
 rfl
theorem TAE {x:Int} (h:R32 x):UY x 131072 524288 1024 true=some (sg1 x):=by
 have e1:w32 (w32 ((2147483648:Int).tdiv 131072)*2)=32768:=by decide
 have e2:w32 (w32 ((2147483648:Int).tdiv 524288)*2)=8192:=by decide
 have e3:w32 (x.tdiv 1024)=x / 1024:=by
  obtain ⟨h1,h2⟩:=h
  rw [Int.tdiv_eq_ediv_of_nonneg h1,JZ (by omega) (by omega)]
 simp only [UY,Ce,e1,e2,e3,VZ h (low:=131072) (high:=32768) (by omega) (by omega) (by omega),VZ h (low:=524288) (high:=8192) (by omega) (by omega) (by omega),Option.bind_some,Xc]
 rfl
theorem UAE {x:Int} (h:R32 x):UY x 128 262144 8 true=some (V7 x):=by
 have e1:w32 (w32 ((2147483648:Int).tdiv 128)*2)=33554432:=by decide
 have e2:w32 (w32 ((2147483648:Int).tdiv 262144)*2)=16384:=by decide
 have e3:w32 (x.tdiv 8)=x / 8:=by
  obtain ⟨h1,h2⟩:=h
  rw [Int.tdiv_eq_ediv_of_nonneg h1,JZ (by omega) (by omega)]
 simp only [UY,Ce,e1,e2,e3,VZ h (low:=128) (high:=33554432) (by omega) (by omega) (by omega),VZ h (low:=262144) (high:=16384) (by omega) (by omega) (by omega),Option.bind_some,Xc]
 rfl
theorem VAE {x:Int} (h:R32 x):UY x 64 2048 33554432 false=some (X7 x):=by
 have e1:w32 (w32 ((2147483648:Int).tdiv 64)*2)=67108864:=by decide
 have e2:w32 (w32 ((2147483648:Int).tdiv 2048)*2)=2097152:=by decide
 have e3:w32 (w32 ((2147483648:Int).tdiv 33554432)*2)=128:=by decide
 simp only [UY,Ce,e1,e2,e3,VZ h (low:=64) (high:=67108864) (by omega) (by omega) (by omega),VZ h (low:=2048) (high:=2097152) (by omega) (by omega) (by omega),VZ h (low:=33554432) (high:=128) (by omega) (by omega) (by omega),Option.bind_some,Xc]
 rfl
theorem WAE {x:Int} (h:R32 x):UY x 4 8192 4194304 false=some (Y7 x):=by
 have e1:w32 (w32 ((2147483648:Int).tdiv 4)*2)=1073741824:=by decide
 have e2:w32 (w32 ((2147483648:Int).tdiv 8192)*2)=524288:=by decide
 have e3:w32 (w32 ((2147483648:Int).tdiv 4194304)*2)=1024:=by decide
 simp only [UY,Ce,e1,e2,e3,VZ h (low:=4) (high:=1073741824) (by omega) (by omega) (by omega),VZ h (low:=8192) (high:=524288) (by omega) (by omega) (by omega),VZ h (low:=4194304) (high:=1024) (by omega) (by omega) (by omega),Option.bind_some,Xc]
 rfl
theorem J8 (s r:Reg):∀ i,i<8→(Yc s r).l.getD i 0=w32 (s.l.getD i 0+r.l.getD i 0)
 | 0,_=>rfl | 1,_=>rfl | 2,_=>rfl | 3,_=>rfl | 4,_=>rfl | 5,_=>rfl | 6,_=>rfl | 7,_=>rfl
 | n+8,h=>by omega
theorem JAI (n:Nat) (h:n<9223372036854775807):∃ m,gas=m+n:=⟨gas - n,by have:=gas_lt h;omega⟩
theorem XAE (s r:Reg):∀ (j i m:Nat),i+j=8→CY (m+j+1) (.c3 s.l (i:Int) r.l ((Yc s r).l.take i))=some (Yc s r).l:=by
 intro j
 induction j with
 | zero=>
  intro i m h
  obtain rfl:i=8:=by omega
  simp only [CY,OZ]
  rfl
 | succ j ih=>
  intro i m h
  have e:w64 ((i:Int)+1)=((i+1:Nat):Int):=by rw [w64_id (by omega) (by omega)];rfl
  have hl:∀ q:Reg,q.l.length=8:=fun _=>rfl
  rw [show m+(j+1)+1=(m+j+1)+1 by omega]
  simp only [CY,OZ,e,Int.toNat_natCast]
  rw [TB (by simp;omega),TB (by simp [hl];omega),TB (by simp [hl];omega),TB (by simp [hl];omega)]
  have h3:=ih (i+1) m (by omega)
  rw [take_at (by rw [hl];omega),←getD_at (by rw [hl];omega) 0,J8 _ _ _ (by omega)] at h3
  exact h3
def Wx:Nat→List Int→List Int
 | 0,v=>v
 | i+1,v=>Wx i (v.set (i+1) (v.getD i 0))
theorem YAE (t o W:List Int) (k T1 T2:Int) (hk:0≤k∧k<64):∀ (i m:Nat) (v:List Int),i<8→v.length=8→CY (m+i+1) (.c2 t o k T1 T2 (i:Int) W v)=CY m (.c1 t o (k+1) W (((Wx i v).set 4 (w32 ((Wx i v).getD 4 0+T1))).set 0 (w32 (T1+T2)))):=by
 intro i
 induction i with
 | zero=>
  intro m v _ hl
  have e:w64 (k+1)=k+1:=w64_id (by omega) (by omega)
  simp only [CY,OZ,e]
  rw [FN (by simp),TB (by simp [hl]),TB (by simp [hl]),TB (by simp [hl])]
  rfl
 | succ i ih=>
  intro m v hi hl
  have e:w64 (((i+1:Nat):Int) - 1)=(i:Int):=by rw [w64_id (by omega) (by omega)];omega
  rw [show m+(i+1)+1=(m+i+1)+1 by omega]
  rw [CY]
  simp only [OZ,e,Int.toNat_natCast]
  rw [TB (by simp;try omega),TB (by simp [hl];try omega),TB (by simp [hl];try omega),ih m _ (by omega) (by simp [hl])]
  rfl
theorem ZAE (t W:List Int) (r:Reg) (hr:r.ok) (hW:∀ x ∈ W,R32 x) (hWl:W.length=64) (i m:Nat) (hi:i<64) :
  CY (m+9) (.c1 t keysL (i:Int) W r.l)=CY m (.c1 t keysL ((i:Int)+1) W (KZ r (keysL.getD i 0) (W.getD i 0)).l):=by
 obtain ⟨h1,h2,h3,h4,h5,h6,h7,h8⟩:=hr
 have hk:keysL.length=64:=rfl
 have g (q:Reg):q.l.getD 0 0=q.a∧q.l.getD 1 0=q.b∧q.l.getD 2 0=q.c∧q.l.getD 4 0=q.e∧q.l.getD 5 0=q.f∧q.l.getD 6 0=q.g∧q.l.getD 7 0=q.h:=⟨rfl,rfl,rfl,rfl,rfl,rfl,rfl⟩
 obtain ⟨g0,g1,g2,g4,g5,g6,g7⟩:=g r
 have hl:r.l.length=8:=rfl
 have z4:(4:Int).toNat=4:=rfl
 have z5:(5:Int).toNat=5:=rfl
 have z6:(6:Int).toNat=6:=rfl
 have z7:(7:Int).toNat=7:=rfl
 have z0:(0:Int).toNat=0:=rfl
 have z1:(1:Int).toNat=1:=rfl
 have z2:(2:Int).toNat=2:=rfl
 rw [show m+9=(m+7+1)+1 by omega,CY]
 simp only [OZ,z0,z1,z2,z4,z5,z6,z7,g0,g1,g2,g4,g5,g6,g7,hl,hk,hWl,VAE h5,WAE h1,Option.bind_some,Xc,P7,Int.toNat_natCast]
 rw [TB (by simp;omega),TB (by simp),TB (by simp),TB (by simp),TB (by simp),TB (by simp;omega),TB (by simp;omega),TB (by simp),TB (by simp),TB (by simp),TB (by simp),TB (by simp),TB (by simp),TB (by simp)]
 exact YAE t keysL W (i:Int) (t1 r (keysL.getD i 0) (W.getD i 0)) (t2 r) (by omega) 7 m r.l (by omega) rfl
theorem AAF (s:Reg) (hs:s.ok) (W:List Int) (hW:∀ x ∈ W,R32 x) (hWl:W.length=64):∀ (j i m:Nat),i+j=64→CY (m+9*j+10) (.c1 s.l keysL (i:Int) W (ZX keysL W s i).l)=some (Yc s (ZX keysL W s 64)).l:=by
 intro j
 induction j with
 | zero=>
  intro i m h
  obtain rfl:i=64:=by omega
  rw [show m+9*0+10=(m+8+1)+1 by omega,CY]
  simp only [OZ]
  rw [FN (by simp)]
  exact XAE s _ 8 0 m (by omega)
 | succ j ih=>
  intro i m h
  rw [show m+9*(j+1)+10=(m+9*j+10)+9 by omega,ZAE s.l W _ (Z7 keysL W hs i) hW hWl i _ (by omega)]
  exact ih (i+1) m (by omega)
theorem BAF (s:Reg) (hs:s.ok) (w:List Int) (hw:∀ x ∈ w,R32 x) (hwl:w.length=16):∀ (j i m:Nat),i+j=48→CY (m+9*64+10+1+j) (.c0 s.l keysL ((16+i:Nat):Int) (sched w i))=some (Yc s (ZX keysL (sched w 48) s 64)).l:=by
 intro j
 induction j with
 | zero=>
  intro i m h
  obtain rfl:i=48:=by omega
  rw [show m+9*64+10+1+0=(m+9*64+10)+1 by omega,CY]
  simp only [OZ]
  rw [FN (by simp),TB (by simp [Reg.l])]
  exact AAF s hs _ (Ro hw 48) (Xk hwl 48) 64 0 m (by omega)
 | succ j ih=>
  intro i m h
  have hl:=Xk hwl i
  have hr:=Ro hw i
  have e2:w64 (((16+i:Nat):Int) - 2)=((16+i - 2:Nat):Int):=by rw [w64_id (by omega) (by omega)];omega
  have e7:w64 (((16+i:Nat):Int) - 7)=((16+i - 7:Nat):Int):=by rw [w64_id (by omega) (by omega)];omega
  have e15:w64 (((16+i:Nat):Int) - 15)=((16+i - 15:Nat):Int):=by rw [w64_id (by omega) (by omega)];omega
  have e16:w64 (((16+i:Nat):Int) - 16)=((16+i - 16:Nat):Int):=by rw [w64_id (by omega) (by omega)];omega
  have e1:w64 (((16+i:Nat):Int)+1)=((16+(i+1):Nat):Int):=by rw [w64_id (by omega) (by omega)];omega
  rw [show m+9*64+10+1+(j+1)=(m+9*64+10+1+j)+1 by omega,CY]
  simp only [OZ,e1,e2,e7,e15,e16,Int.toNat_natCast,hl,TAE (Yk hr _),UAE (Yk hr _),Option.bind_some]
  rw [TB (by simp;omega),TB (by simp;omega),TB (by simp;omega),TB (by simp;omega),TB (by simp;omega),TB (by simp;omega)]
  exact ih (i+1) m (by omega)
theorem L8 {s:Reg} (hs:s.ok) {b:ByteArray} (hb:b.size=64):FZ s.l keysL b=some (comp s (bs b)).l:=by
 have hr:=Qx (Ze b) 16
 obtain ⟨m,hm⟩:∃ m,gas=m+9*64+10+1+48:=⟨gas - 635,by have:=gas_lt (n:=635) (by omega);omega⟩
 have h:=BAF s hs _ hr (Na _ 16) 48 0 m (by omega)
 have e0:((16+0:Nat):Int)=16:=rfl
 rw [e0,show sched (TT (bs b) 16) 0=TT (bs b) 16 from rfl] at h
 rw [FZ,Yr,I8 (s:=b) (by omega),Option.bind_some,hb,hm]
 exact h
theorem N8:NZ=some keysL:=rfl
theorem CAF (b:List Int) (i:Nat):(b.take (64*i+64)).drop (64*i)=(b.drop (64*i)).take 64:=by
 rw [List.drop_take];congr 1;omega
theorem O8 (i:Nat) (s:Reg) (b:List Int):comps (i+1) s b=comp (comps i s b) ((b.drop (64*i)).take 64):=by
 rw [E8 i 1];rfl
theorem P8 {r:Reg} (h:r.ok):JY (ofBytes (SN r.l))=some r.l:=by
 have hs:(ofBytes (SN r.l)).size=32:=by rw [ofBytes_size,Df];rfl
 rw [I8 (by omega),hs,WY (Rx (Reg.Bd h))]
 exact congrArg some (LAE (Reg.Bd h))
theorem DAF {s:ByteArray} (hs:s.size≤1000000000):Nh Oa s=some ⟨ofBytes (SN (comps (s.size / 64) XY (bs s)).l),s.extract (64*(s.size / 64)) s.size,(s.size:Int)⟩:=by
 have e0:TY Oa=some true:=H8 (by rw [Oa,ofBytes_size,Df];rfl) (by decide) (by decide) (by decide)
 have e1:((⟨#[]⟩:ByteArray)++s)=s:=Nc (by rw [Xe];rfl)
 have key:=loopN (A:=Unit) (n:=s.size / 64) (Lp:=Lh) (st:=fun i _=>.c0 s s ((64*i:Nat):Int) Oa (⟨(⟨#[]⟩:ByteArray),(⟨#[]⟩:ByteArray),(0:Int)⟩:SHasher) (comps i XY (bs s)).l keysL) (Inv:=fun _ _=>True)
  (out:=fun _ _=>some ⟨ofBytes (SN (comps (s.size / 64) XY (bs s)).l),s.extract (64*(s.size / 64)) s.size,(s.size:Int)⟩)
  (fun m _ _=>by
   have hw:w64 (Oa.fCount+(s.size:Int))=(s.size:Int):=by
    show w64 ((0:Int)+(s.size:Int))=_
    rw [Int.zero_add,w64_id (by omega) (by omega)]
   rw [Lh]
   simp only [Qm,hw,Int.toNat_natCast]
   rw [w64_id (by omega) (by omega),FN (by simp;omega),Vx (Reg.Bd (Ad Cb _ _)) (by simp [Reg.l]),Option.bind_some,TB (by simp;omega)])
  (fun m i _ hi _=>.inr ⟨(),by
   have e:w64 (((64*i:Nat):Int)+64)=((64*(i+1):Nat):Int):=by rw [w64_id (by omega) (by omega)];omega
   rw [Lh]
   simp only [Qm,e,Int.toNat_natCast]
   rw [TB (by simp;omega),TB (by simp;omega),L8 (Ad Cb _ _) (by simp;omega),Option.bind_some,Oc,show 64*(i+1)=64*i+64 by omega,CAF,←O8],trivial,rfl⟩)
 rw [Nh,Es,e0,Option.bind_some,FN (by rfl)]
 have hw:w64 (Oa.fCount+(s.size:Int))=(s.size:Int):=by
  show w64 ((0:Int)+(s.size:Int))=_
  rw [Int.zero_add,w64_id (by omega) (by omega)]
 rw [hw,FN (by simp;omega),show Oa.fState=ofBytes (SN XY.l) from rfl,P8 Cb,Option.bind_some,N8,Option.bind_some,show Oa.fRest=⟨#[]⟩ from rfl,e1]
 rw [TB (by (have:(⟨#[]⟩:ByteArray).size=0:=rfl);simp only [this,decide_eq_true_eq];omega)]
 exact key gas 0 () (Nat.zero_le _) (gas_lt (by omega)) trivial
def Jd (b:Int):Nat→List Int
 | 0=>[]
 | i+1=>(b / 256 ^ i % 256)::Jd b i
def WZ:Nat→Nat
 | 0=>0
 | i+1=>WZ i+(i+2)
theorem EAF (x:Int) (j:Nat):x / 256 / 256 ^ j=x / 256 ^ (j+1):=by
 rw [Int.ediv_ediv_of_nonneg (by omega)]
 congr 1
 rw [Int.pow_succ,Int.mul_comm]
theorem FAF (h:SHasher) (b:Int):∀ (j k i m:Nat) (x:Int) (t:List Int),k+j=i→i≤7→0≤x→x≤9223372036854775807→t.length≤1000→
  DY (m+j+1) (.c2 b (i:Int) x (k:Int) h t)=DY m (.c1 b ((i:Int) - 1) h (t++[x / 256 ^ j % 256])):=by
 intro j
 induction j with
 | zero=>
  intro k i m x t hk hi hx hx2 ht
  have e:w64 ((i:Int) - 1)=(i:Int) - 1:=w64_id (by omega) (by omega)
  have e2:w8 (x.tmod 256)=x % 256:=by rw [Int.tmod_eq_emod_of_nonneg hx,w8_id (by omega) (by omega)]
  rw [DY]
  simp only [PZ,e,e2]
  rw [FN (by simp;omega),TB (by simp;omega),Int.pow_zero,Int.ediv_one]
 | succ j ih=>
  intro k i m x t hk hi hx hx2 ht
  have e:w64 ((k:Int)+1)=((k+1:Nat):Int):=by rw [w64_id (by omega) (by omega)];rfl
  have e2:w64 (x.tdiv 256)=x / 256:=by rw [Int.tdiv_eq_ediv_of_nonneg hx,w64_id (by omega) (by omega)]
  rw [show m+(j+1)+1=(m+j+1)+1 by omega,DY]
  simp only [PZ,e,e2]
  rw [TB (by simp;omega),ih (k+1) i m (x / 256) t (by omega) hi (by omega) (by omega) ht,EAF]
theorem GAF (h:SHasher) (b:Int) (hb:0≤b) (hb2:b≤9223372036854775807):∀ (i m:Nat) (t:List Int),i≤8→t.length+i≤900→DY (m+WZ i) (.c1 b ((i:Int) - 1) h t)=DY m (.c1 b (-1) h (t++Jd b i)):=by
 intro i
 induction i with
 | zero=>intro m t _ _;simp [WZ,Jd]
 | succ i ih=>
  intro m t hi ht
  rw [WZ,show m+(WZ i+(i+2))=(m+WZ i)+i+1+1 by omega,DY,show ((i+1:Nat):Int) - 1=(i:Int) by omega]
  simp only [PZ]
  rw [TB (by simp),show (0:Int)=((0:Nat):Int) from rfl,FAF h b i 0 i _ b t (by omega) (by omega) hb hb2 (by omega),ih m _ (by omega) (by simp;omega)]
  simp [Jd]
theorem HAF {b:Int} (h:0≤b) (h2:b<1099511627776):Jd b 8=LZ b:=by
 simp only [Jd,LZ,List.cons.injEq,and_true]
 omega
theorem IAF (r:Reg) (hr:r.ok) (t:List Int) (ht:KY t) (n:Nat) (hn:t.length=64*n) (hn2:n≤100):∀ (j i m:Nat),i+j=n→DY (m+j+1) (.c3 ((64*i:Nat):Int) t (comps i r t).l keysL)=some (ofBytes (SN (comps n r t).l)):=by
 intro j
 induction j with
 | zero=>
  intro i m h
  obtain rfl:i=n:=by omega
  rw [DY]
  simp only [PZ]
  rw [FN (by simp;omega),Vx (Reg.Bd (Ad hr _ _)) (by simp [Reg.l]),Option.bind_some]
 | succ j ih=>
  intro i m h
  have e:w64 (((64*i:Nat):Int)+64)=((64*(i+1):Nat):Int):=by rw [w64_id (by omega) (by omega)];omega
  have hl:((t.drop (64*i)).take (64*(i+1) - 64*i)).length=64:=by rw [List.length_take,List.length_drop];omega
  have hby:KY ((t.drop (64*i)).take (64*(i+1) - 64*i)):=fun x hx=>ht x (List.mem_of_mem_drop (List.mem_of_mem_take hx))
  rw [show m+(j+1)+1=(m+j+1)+1 by omega,DY]
  simp only [PZ,e,Int.toNat_natCast]
  rw [TB (by simp;omega),TB (by simp;omega),L8 (Ad hr _ _) (by rw [ofBytes_size,hl]),Option.bind_some,WY hby,show 64*(i+1) - 64*i=64 by omega,←O8]
  exact ih (i+1) m (by omega)
theorem JAF (h:SHasher) (r:List Int) (hr:r.length<64):∀ (j i m:Nat),i+j=(119 - r.length) % 64→DY (m+j+1) (.c0 h (r++128::List.replicate i 0))=DY m (.c1 (w64 (8*h.fCount)) 7 h (r++128::List.replicate ((119 - r.length) % 64) 0)):=by
 intro j
 induction j with
 | zero=>
  intro i m hi
  rw [DY]
  simp only [PZ]
  rw [FN (by rw [Int.tmod_eq_emod_of_nonneg (by omega)];simp;omega),show i=(119 - r.length) % 64 by omega]
 | succ j ih=>
  intro i m hi
  rw [show m+(j+1)+1=(m+j+1)+1 by omega,DY]
  simp only [PZ]
  rw [TB (by rw [Int.tmod_eq_emod_of_nonneg (by omega)];simp;omega),TB (by simp;omega)]
  have e:(r++128::List.replicate i (0:Int))++[0]=r++128::List.replicate (i+1) 0:=by
   rw [List.replicate_succ'];simp
  rw [e]
  exact ih (i+1) m (by omega)
theorem KAF {r:Reg} (hr:r.ok) {s:ByteArray} {n:Nat} (hs:s.size=n % 64) (hn:n≤1000000000):Ph ⟨ofBytes (SN r.l),s,(n:Int)⟩=some (ofBytes (SN (comps ((s.size+(CV n).length) / 64) r (bs s++CV n)).l)):=by
 have e0:TY ⟨ofBytes (SN r.l),s,(n:Int)⟩=some true:=H8 (by rw [ofBytes_size,Df];rfl) (by simp only;omega) (by simp only;omega) (by simp only;omega)
 have hl:=bs_len s
 obtain ⟨m,hm⟩:∃ m,gas=((m+((s.size+(CV n).length) / 64)+1+1+WZ 8)+((119 - (bs s).length) % 64)+1):=⟨gas - (((s.size+(CV n).length) / 64)+1+1+WZ 8+((119 - (bs s).length) % 64)+1),by
  have:=gas_lt (n:=1000) (by omega)
  have h2:=Vo n
  have h3:WZ 8=44:=rfl
  omega⟩
 have hw:w64 (8*(n:Int))=8*(n:Int):=w64_id (by omega) (by omega)
 have hrep:(bs s++128::List.replicate ((119 - (bs s).length) % 64) 0)++Jd (8*(n:Int)) 8=bs s++CV n:=by
  rw [HAF (by omega) (by omega),CV,hl,hs,show (119 - n % 64) % 64=(119 - n % 64) % 64 from rfl]
  simp
 rw [Ph,Js,e0,Option.bind_some,FN (by rfl),TB (by simp;omega),QAD,TB (by rw [hl];simp;omega),hm]
 have h0:=JAF ⟨ofBytes (SN r.l),s,(n:Int)⟩ (bs s) (by omega) ((119 - (bs s).length) % 64) 0 (m+((s.size+(CV n).length) / 64)+1+1+WZ 8) (by omega)
 rw [List.replicate_zero] at h0
 rw [h0,show (7:Int)=((8:Nat):Int) - 1 from rfl]
 simp only [hw]
 rw [GAF _ _ (by omega) (by omega) 8 _ _ (by omega) (by simp;omega),hrep,DY]
 simp only [PZ]
 rw [FN (by simp),P8 hr,Option.bind_some,N8,Option.bind_some]
 have hb:KY (bs s++CV n):=fun x hx=>by
  rcases List.mem_append.1 hx with hx | hx
  ·exact Ze s x hx
  ·exact Ux n x hx
 have hlen:(bs s++CV n).length=64*((s.size+(CV n).length) / 64):=by
  have:=MAE n
  rw [List.length_append,hl]
  omega
 exact IAF r hr _ hb _ hlen (by have:=Vo n;omega) ((s.size+(CV n).length) / 64) 0 m (by omega)
theorem LAF (b:List Int):comps ((b.length+(CV b.length).length) / 64) XY (b++CV b.length)=comps ((b.length % 64+(CV b.length).length) / 64) (comps (b.length / 64) XY b) (b.drop (64*(b.length / 64))++CV b.length):=by
 rw [show (b.length+(CV b.length).length) / 64=b.length / 64+(b.length % 64+(CV b.length).length) / 64 by omega,E8,JAE _ _ _ _ (by omega),List.drop_append_of_le_length (by omega)]
theorem MAF {s:ByteArray} (hs:s.size≤1000000000):Ac s=some (SY s):=by
 have h1:(s.extract (64*(s.size / 64)) s.size).size=s.size % 64:=by simp;omega
 have h:=KAF (Ad Cb (s.size / 64) (bs s)) (s:=s.extract (64*(s.size / 64)) s.size) h1 hs
 rw [Oc,h1,List.take_of_length_le (by rw [bs_len];omega)] at h
 rw [Ac,Ls,RAE,Option.bind_some,DAF hs,Option.bind_some,h,Option.bind_some,SY,Ed,LAF,bs_len]
theorem XZ {b:SBook}:HY b=true↔b.fWord.size=32∧b.fChain.size=32∧(0≤b.fTries∧b.fTries≤3)∧b.fThings.length≤8∧(0≤b.fLast∧b.fLast≤1000)∧(0≤b.fCount∧b.fCount≤10000)∧rise b.fLast 0 b.fThings=true:=by
 simp only [HY,Bool.and_eq_true,beq_iff_eq,CZ,decide_eq_true_eq]
 exact ⟨fun ⟨h1,h2,h3,h4,h5,h6,h7⟩=>⟨by omega,by omega,h3,by omega,h5,h6,h7⟩,fun ⟨h1,h2,h3,h4,h5,h6,h7⟩=>⟨by omega,by omega,h3,by omega,h5,h6,h7⟩⟩
theorem DZ {last p:Int} {x:SThing} {xs:List SThing}:rise last p (x::xs)=true↔PX x=true∧x.fId≤last∧p<x.fId∧rise last x.fId xs=true:=by
 simp only [rise,Bool.and_eq_true,Bool.not_eq_true',decide_eq_false_iff_not]
 exact ⟨fun ⟨h1,h2,h3,h4⟩=>⟨h1,by omega,by omega,h4⟩,fun ⟨h1,h2,h3,h4⟩=>⟨h1,by omega,by omega,h4⟩⟩
theorem Xo {last:Int}:∀ {xs:List SThing} {p:Int},rise last p xs=true→∀ x ∈ xs,p<x.fId∧x.fId≤last∧PX x=true
 | [],_,_,x,hx=>by cases hx
 | y::ys,p,h,x,hx=>by
  obtain ⟨h1,h2,h3,h4⟩:=DZ.1 h
  rcases List.mem_cons.1 hx with rfl | hx
  ·exact ⟨h3,h2,h1⟩
  ·have:=Xo h4 x hx
   exact ⟨by omega,this.2.1,this.2.2⟩
theorem Xx {last last2:Int} (hl:last≤last2):∀ {xs:List SThing} {p p2:Int},p2≤p→rise last p xs=true→rise last2 p2 xs=true
 | [],_,_,_,_=>rfl
 | y::ys,p,p2,hp,h=>by
  obtain ⟨h1,h2,h3,h4⟩:=DZ.1 h
  exact DZ.2 ⟨h1,by omega,by omega,Xx hl (Int.le_refl _) h4⟩
def MZ (x:SThing) (ts:List SThing):List SThing:=ts.filter fun t=>decide (t.fId<x.fId)
def Ld (x:SThing) (ts:List SThing):List SThing:=ts.filter fun t=>decide (t.fId > x.fId)
def putAt (ts:List SThing) (x:SThing):List SThing:=MZ x ts++x::Ld x ts
def without (ts:List SThing) (id:Int):List SThing:=ts.filter fun t=>t.fId != id
theorem NAF {last:Int} {x:SThing}:∀ {xs:List SThing} {p:Int},x.fId≤p→rise last p xs=true→MZ x xs=[]∧Ld x xs=xs∧without xs x.fId=xs:=by
 intro xs p hp h
 have ha:=Xo h
 refine ⟨List.filter_eq_nil_iff.2 fun t ht=>?_,List.filter_eq_self.2 fun t ht=>?_,List.filter_eq_self.2 fun t ht=>?_⟩
 ·have:=ha t ht;rw [decide_eq_true_eq];omega
 ·have:=ha t ht;rw [decide_eq_true_eq];omega
 ·have:=ha t ht;rw [bne_iff_ne];omega
theorem Q8 {id:Int}:∀ {xs:List SThing} {i j:Nat},GY xs id i=some j→i≤j∧∃ x ∈ xs,x.fId=id:=by
 intro xs
 induction xs with
 | nil=>intro i j h;cases h
 | cons y ys ih=>
  intro i j h
  rw [GY] at h
  split at h
  ·rename_i hy;cases h;exact ⟨Nat.le_refl _,y,List.mem_cons_self ..,beq_iff_eq.1 hy⟩
  ·obtain ⟨h1,x,h2,h3⟩:=ih h;exact ⟨by omega,x,List.mem_cons_of_mem _ h2,h3⟩
theorem Yx {last:Int} {x:SThing}:∀ {xs:List SThing} {p:Int} {i j:Nat},rise last p xs=true→GY xs x.fId i=some j→xs.set (j - i) x=putAt xs x∧(xs.take (j - i)++xs.drop (j - i+1))=without xs x.fId:=by
 intro xs
 induction xs with
 | nil=>intro p i j _ h;cases h
 | cons y ys ih=>
  intro p i j hr h
  obtain ⟨h1,h2,h3,h4⟩:=DZ.1 hr
  rw [GY] at h
  split at h
  ·rename_i hy
   have hy:=beq_iff_eq.1 hy
   cases h
   obtain ⟨f1,f2,f3⟩:=NAF (x:=x) (by omega) h4
   rw [Nat.sub_self]
   simp only [putAt,MZ,Ld,without,List.filter_cons] at f1 f2 f3 ⊢
   rw [decide_eq_false (by omega),decide_eq_false (by omega),show (y.fId != x.fId)=false by rw [bne_eq_false_iff_eq];exact hy]
   simp [f1,f2,f3]
  ·rename_i hy
   obtain ⟨h5,z,h6,h7⟩:=Q8 h
   have h8:=Xo h4 z h6
   obtain ⟨i1,i2⟩:=ih h4 h
   have e:j - i=(j - (i+1))+1:=by omega
   rw [e,List.set_cons_succ,i1,List.take_succ_cons,List.drop_succ_cons,List.cons_append,i2]
   simp only [putAt,MZ,Ld,without,List.filter_cons]
   rw [decide_eq_true (by omega),decide_eq_false (by omega),show (y.fId != x.fId)=true by rw [bne_iff_ne];omega]
   simp
theorem OAF {last:Int} {x:SThing} {xs:List SThing} {p:Int} (h:rise last p xs=true) (hx:last<x.fId):putAt xs x=xs++[x]∧YX xs x.fId=none:=by
 have ha:=Xo h
 constructor
 ·rw [putAt,MZ,Ld,List.filter_eq_self.2 fun t ht=>by have:=ha t ht;rw [decide_eq_true_eq];omega,List.filter_eq_nil_iff.2 fun t ht=>by have:=ha t ht;rw [decide_eq_true_eq];omega]
 ·rw [YX,List.find?_eq_none]
  intro t ht
  have:=ha t ht
  rw [beq_iff_eq];omega
theorem PAF {last:Int} {x:SThing} (hx:PX x=true) (hl:last<x.fId):∀ {xs:List SThing} {p:Int},p<x.fId→rise last p xs=true→rise x.fId p (xs++[x])=true:=by
 intro xs
 induction xs with
 | nil=>intro p hp _;exact DZ.2 ⟨hx,Int.le_refl _,hp,rfl⟩
 | cons y ys ih=>
  intro p hp h
  obtain ⟨h1,h2,h3,h4⟩:=DZ.1 h
  exact DZ.2 ⟨h1,by omega,h3,ih (by omega) h4⟩
theorem QAF {last:Int} {x:SThing} (hx:PX x=true):∀ {xs:List SThing} {p:Int} {i j:Nat},rise last p xs=true→GY xs x.fId i=some j→rise last p (xs.set (j - i) x)=true:=by
 intro xs
 induction xs with
 | nil=>intro p i j _ h;cases h
 | cons y ys ih=>
  intro p i j hr h
  obtain ⟨h1,h2,h3,h4⟩:=DZ.1 hr
  rw [GY] at h
  split at h
  ·rename_i hy
   have hy:=beq_iff_eq.1 hy
   cases h
   rw [Nat.sub_self,List.set_cons_zero]
   exact DZ.2 ⟨hx,by omega,by omega,Xx (Int.le_refl _) (by omega) h4⟩
  ·have h5:=(Q8 h).1
   have e:j - i=(j - (i+1))+1:=by omega
   rw [e,List.set_cons_succ]
   exact DZ.2 ⟨h1,h2,h3,ih h4 h⟩
theorem RAF {last:Int} (id:Int):∀ {xs:List SThing} {p:Int},rise last p xs=true→rise last p (without xs id)=true:=by
 intro xs
 induction xs with
 | nil=>intro p _;rfl
 | cons y ys ih=>
  intro p h
  obtain ⟨h1,h2,h3,h4⟩:=DZ.1 h
  rw [without,List.filter_cons]
  split
  ·exact DZ.2 ⟨h1,h2,h3,ih h4⟩
  ·exact Xx (Int.le_refl _) (by omega) (ih h4)
def grown (x y:SThing):Bool:=y.fKind == x.fKind && ((bs y.fValue == bs x.fValue) && (y.fSigns == x.fSigns && (y.fWraps == x.fWraps && (decide (x.fNext≤y.fNext) && ((y.fHidden || !x.fHidden) && (y.fFixed || !x.fFixed))))))
def Bl:SBook:=⟨⟨#[]⟩,0,[],0,⟨#[]⟩,0⟩
def Md (b:SBook) (x:SThing):Option (List SThing×Int):=match YX b.fThings x.fId with
 | some old=>bif grown old x then some (putAt b.fThings x,b.fLast) else none
 | none=>bif x.fId != b.fLast+1 || decide ((b.fThings.length:Int)≥8) then none else some (b.fThings++[x],x.fId)
def QX (b:SBook) (r:SRec):SBook×Bool:=
 bif !(HY b) || (!(RV r).2 || decide (b.fCount≥10000)) then (Bl,false)
 else bif r.fKind == 1 then (⟨r.fText,0,b.fThings,b.fLast,SY (b.fChain++(RV r).1),b.fCount+1⟩,true)
 else bif r.fKind == 2 then (⟨b.fWord,r.fNum,b.fThings,b.fLast,SY (b.fChain++(RV r).1),b.fCount+1⟩,true)
 else bif r.fKind == 3 then (match Md b r.fThing with
  | some p=>(⟨b.fWord,b.fTries,p.1,p.2,SY (b.fChain++(RV r).1),b.fCount+1⟩,true)
  | none=>(Bl,false))
 else (match YX b.fThings r.fNum with
  | some _=>(⟨b.fWord,b.fTries,without b.fThings r.fNum,b.fLast,SY (b.fChain++(RV r).1),b.fCount+1⟩,true)
  | none=>(Bl,false))
theorem Zx {xs:List SThing} {id:Int}:(∃ x j,YX xs id=some x∧GY xs id 0=some j∧j<xs.length∧xs[j]?=some x∧x.fId=id)∨(YX xs id=none∧GY xs id 0=none):=by
 have h:=AAE id xs 0
 cases hp:GY xs id 0 with
 | none=>rw [hp] at h;exact .inr ⟨h,rfl⟩
 | some j=>
  rw [hp] at h
  obtain ⟨_,h2,h3⟩:=h
  rw [Nat.sub_zero] at h3
  rw [Nat.zero_add] at h2
  refine .inl ⟨xs[j],j,?_,rfl,h2,List.getElem?_eq_getElem h2,?_⟩
  ·rw [h3,List.getElem?_eq_getElem h2]
  ·have h4:YX xs id=some xs[j]:=by rw [h3,List.getElem?_eq_getElem h2]
   have:=List.find?_some h4
   exact beq_iff_eq.1 this
theorem Dy {b:SBook} {r:SRec} (h:(QX b r).2=true):HY b=true∧(RV r).2=true∧b.fCount<10000∧HY (QX b r).1=true∧(QX b r).1.fCount=b.fCount+1∧(QX b r).1.fChain=SY (b.fChain++(RV r).1):=by
 rw [QX] at h ⊢
 cases h1:HY b
 ·rw [h1] at h;cases h
 cases h2:(RV r).2
 ·rw [h1,h2] at h;cases h
 by_cases h3:b.fCount≥10000
 ·rw [h1,h2,decide_eq_true h3] at h;cases h
 rw [h1,h2,decide_eq_false h3] at h
 rw [decide_eq_false h3]
 simp only [Bool.not_true,Bool.or_false,cond_false] at h ⊢
 obtain ⟨b1,b2,b3,b4,b5,b6,b7⟩:=XZ.1 h1
 refine ⟨trivial,trivial,by omega,?_⟩
 have hd:∀ s,(SY s).size=32:=PAE
 rcases Px h2 with ⟨hk,hz⟩ | ⟨hk,hz⟩ | ⟨hk,hz⟩ | ⟨hk,hz⟩
 ·rw [hk]
  exact ⟨XZ.2 ⟨hz,hd _,(by decide:(0:Int)≤0∧(0:Int)≤3),b4,b5,by show 0≤b.fCount+1∧b.fCount+1≤10000;omega,b7⟩,rfl,rfl⟩
 ·rw [hk]
  exact ⟨XZ.2 ⟨b1,hd _,hz,b4,b5,by show 0≤b.fCount+1∧b.fCount+1≤10000;omega,b7⟩,rfl,rfl⟩
 ·rw [hk] at h ⊢
  simp only [show ((3:Int) == 1)=false from rfl,show ((3:Int) == 2)=false from rfl,show ((3:Int) == 3)=true from rfl,cond_true,cond_false] at h ⊢
  rw [Md] at h ⊢
  rcases Zx (xs:=b.fThings) (id:=r.fThing.fId) with ⟨x,j,t1,t2,t3,t4,t5⟩ | ⟨t1,t2⟩
  ·rw [t1] at h ⊢
   simp only at h ⊢
   cases hg:grown x r.fThing
   ·rw [hg] at h;cases h
   ·have e:=(Yx b7 t2).1
    rw [Nat.sub_zero] at e
    have hrs:=QAF hz b7 t2
    rw [Nat.sub_zero,e] at hrs
    exact ⟨XZ.2 ⟨b1,hd _,b3,by show (putAt b.fThings r.fThing).length≤8;rw [←e,List.length_set];exact b4,b5,by show 0≤b.fCount+1∧b.fCount+1≤10000;omega,hrs⟩,rfl,rfl⟩
  ·rw [t1] at h ⊢
   simp only at h ⊢
   cases hg:(r.fThing.fId != b.fLast+1 || decide ((b.fThings.length:Int)≥8))
   ·rw [Bool.or_eq_false_iff,bne_eq_false_iff_eq,decide_eq_false_iff_not] at hg
    have hid:r.fThing.fId≤1000:=by
     have:=hz
     simp only [PX,Bool.and_eq_true,CZ] at this
     omega
    exact ⟨XZ.2 ⟨b1,hd _,b3,by show (b.fThings++[r.fThing]).length≤8;rw [List.length_append,List.length_singleton];omega,by show 0≤r.fThing.fId∧r.fThing.fId≤1000;omega,by show 0≤b.fCount+1∧b.fCount+1≤10000;omega,PAF hz (by omega) (by omega) b7⟩,rfl,rfl⟩
   ·rw [hg] at h;cases h
 ·rw [hk] at h ⊢
  simp only [show ((4:Int) == 1)=false from rfl,show ((4:Int) == 2)=false from rfl,show ((4:Int) == 3)=false from rfl,cond_false] at h ⊢
  cases ht:YX b.fThings r.fNum with
  | none=>rw [ht] at h;cases h
  | some x=>exact ⟨XZ.2 ⟨b1,hd _,b3,by show (without b.fThings r.fNum).length≤8;exact Nat.le_trans (List.length_filter_le ..) b4,b5,by show 0≤b.fCount+1∧b.fCount+1≤10000;omega,RAF _ b7⟩,rfl,rfl⟩
theorem U8 (a b:ByteArray):(a.toList == b.toList)=(bs a == bs b):=by
 rw [toList_inj,Bool.eq_iff_iff,decide_eq_true_eq,beq_iff_eq]
 exact ⟨fun h=>by rw [h],Nc⟩
theorem SAF (x y:SThing):Vb x y=some (grown x y):=by
 rw [Vb,Hr,grown,U8,show (bs x.fValue == bs y.fValue)=(bs y.fValue == bs x.fValue) by rw [Bool.eq_iff_iff,beq_iff_eq,beq_iff_eq];exact ⟨Eq.symm,Eq.symm⟩,
  show (x.fKind == y.fKind)=(y.fKind == x.fKind) by rw [Bool.eq_iff_iff,beq_iff_eq,beq_iff_eq];exact ⟨Eq.symm,Eq.symm⟩]
 cases (y.fKind == x.fKind) <;> cases (bs y.fValue == bs x.fValue) <;> cases y.fSigns <;> cases x.fSigns <;> cases y.fWraps <;> cases x.fWraps <;> cases decide (x.fNext≤y.fNext) <;> cases y.fHidden <;> cases x.fHidden <;> cases y.fFixed <;> cases x.fFixed <;> rfl
theorem Ey {f:SThing→Bool} {l:List SThing} {i:Nat} (h:i<l.length):(l.take (i+1)).filter f=(l.take i).filter f++(bif f l[i] then [l[i]] else []):=by
 rw [take_at h,List.filter_append]
 congr 1
theorem V8 {l:List SThing} {x:SThing} (hl:l.length≤1000000000):Xb l x=some (putAt l x):=by
 have k1:∀ (j i m:Nat),i+j=l.length→Ea (m+j) (.c1 l (i:Int) x (MZ x l++[x]++(l.take i).filter (fun t=>decide (t.fId > x.fId))))=Ea m (.c1 l (l.length:Int) x (MZ x l++[x]++Ld x l)):=by
  intro j
  induction j with
  | zero=>(intro i m h;obtain rfl:i=l.length:=by omega);rw [List.take_length];rfl
  | succ j ih=>
   intro i m h
   have hi:i<l.length:=by omega
   have e:w64 ((i:Int)+1)=((i+1:Nat):Int):=by rw [w64_id (by omega) (by omega)];rfl
   have h2:=ih (i+1) m (by omega)
   rw [Ey hi] at h2
   have hf1:(MZ x l).length≤l.length:=List.length_filter_le ..
   have hf2:((l.take i).filter (fun t=>decide (t.fId > x.fId))).length≤i:=Nat.le_trans (List.length_filter_le ..) (by simp;omega)
   rw [show m+(j+1)=(m+j)+1 by omega,Ea]
   simp only [Xd,e,Int.toNat_natCast,getD_at hi]
   rw [TB (by simp;omega),TB (by simp;omega)]
   by_cases h3:l[i].fId > x.fId
   ·rw [decide_eq_true h3] at h2 ⊢
    rw [cond_true,TB (by simp;omega),TB (by simp only [List.length_append,List.length_singleton,decide_eq_true_eq];omega),←h2]
    simp
   ·rw [decide_eq_false h3] at h2 ⊢
    rw [cond_false,←h2]
    simp
 have k0:∀ (j i m:Nat),i+j=l.length→Ea (m+1+l.length+1+j) (.c0 l (i:Int) x ((l.take i).filter (fun t=>decide (t.fId<x.fId))))=some (putAt l x):=by
  intro j
  induction j with
  | zero=>
   intro i m h
   obtain rfl:i=l.length:=by omega
   have hf1:(MZ x l).length≤l.length:=List.length_filter_le ..
   rw [List.take_length,show l.filter (fun t=>decide (t.fId<x.fId))=MZ x l from rfl,Nat.add_zero,Ea]
   simp only [Xd]
   rw [FN (by simp),TB (by simp;omega)]
   have h2:=k1 l.length 0 (m+1) (by omega)
   rw [List.take_zero,List.filter_nil,List.append_nil,show ((0:Nat):Int)=0 from rfl] at h2
   rw [h2,Ea]
   simp only [Xd]
   rw [FN (by simp),putAt,List.append_assoc];rfl
  | succ j ih=>
   intro i m h
   have hi:i<l.length:=by omega
   have e:w64 ((i:Int)+1)=((i+1:Nat):Int):=by rw [w64_id (by omega) (by omega)];rfl
   have h2:=ih (i+1) m (by omega)
   rw [Ey hi] at h2
   have hf2:((l.take i).filter (fun t=>decide (t.fId<x.fId))).length≤i:=Nat.le_trans (List.length_filter_le ..) (by simp;omega)
   rw [show m+1+l.length+1+(j+1)=(m+1+l.length+1+j)+1 by omega,Ea]
   simp only [Xd,e,Int.toNat_natCast,getD_at hi]
   rw [TB (by simp;omega),TB (by simp;omega)]
   by_cases h3:l[i].fId<x.fId
   ·rw [decide_eq_true h3] at h2 ⊢
    rw [cond_true,TB (by simp;omega),TB (by simp only [decide_eq_true_eq];omega),←h2]
    simp
   ·rw [decide_eq_false h3] at h2 ⊢
    rw [cond_false,←h2]
    simp
 obtain ⟨m,hm⟩:∃ m,gas=m+1+l.length+1+l.length:=⟨gas - (2*l.length+2),by have:=gas_lt (n:=2*l.length+2) (by omega);omega⟩
 rw [Xb,Ir,hm]
 have h:=k0 l.length 0 m (by omega)
 rw [List.take_zero,List.filter_nil] at h
 exact h
theorem TAF {b:SBook} {r:SRec} (hb:b.fThings.length≤140737488351232):Bc b r=some (QX b r):=by
 have hok:=@Dy b r
 rw [Bc,Ns,YAD,Option.bind_some,Af hb,Option.bind_some]
 rw [QX] at hok ⊢
 cases h1:HY b
 ·rfl
 cases h2:(RV r).2
 ·rfl
 obtain ⟨b1,b2,b3,b4,b5,b6,b7⟩:=XZ.1 h1
 by_cases h3:b.fCount≥10000
 ·have h3':(b.fCount == 10000)=true:=by rw [beq_iff_eq];omega
  simp only [decide_eq_true h3,h3',Bool.not_true,Bool.or_true,Bool.false_or,cond_false,cond_true]
  rfl
 have hz:=N7 r
 have hw:w64 (b.fCount+1)=b.fCount+1:=w64_id (by omega) (by omega)
 have hdig:=MAF (s:=b.fChain++(RV r).1) (by rw [ByteArray.size_append];omega)
 have hsz:decide (b.fChain.size+(RV r).1.size≤9223372036854775807)=true:=by rw [decide_eq_true_eq];omega
 have h3':(b.fCount == 10000)=false:=by rw [beq_eq_false_iff_ne];omega
 rw [h1,h2,decide_eq_false h3] at hok
 simp only [Bool.not_true,Bool.or_self,cond_false] at hok
 simp only [decide_eq_false h3,h3',Bool.not_true,Bool.or_self,cond_false,P6 (show b.fThings.length≤2932031007317 by omega),hdig,hsz,hw,Option.bind_some,cond_true]
 rcases Px h2 with ⟨hk,hc⟩ | ⟨hk,hc⟩ | ⟨hk,hc⟩ | ⟨hk,hc⟩
 ·rw [hk] at hok ⊢
  simp only [show ((1:Int) == 1)=true from rfl,cond_true] at hok ⊢
  have h5:=(hok trivial).2.2.2.1
  rw [Af (by simp only;omega),Option.bind_some,h5];rfl
 ·rw [hk] at hok ⊢
  simp only [show ((2:Int) == 1)=false from rfl,show ((2:Int) == 2)=true from rfl,cond_true,cond_false] at hok ⊢
  have h5:=(hok trivial).2.2.2.1
  rw [Af (by simp only;omega),Option.bind_some,h5];rfl
 ·rw [hk] at hok ⊢
  simp only [show ((3:Int) == 1)=false from rfl,show ((3:Int) == 2)=false from rfl,show ((3:Int) == 3)=true from rfl,cond_true,cond_false] at hok ⊢
  have hid:=(Qc hc)
  have hpl:(putAt b.fThings r.fThing).length≤1000:=by
   have f1:(MZ r.fThing b.fThings).length≤b.fThings.length:=List.length_filter_le ..
   have f2:(Ld r.fThing b.fThings).length≤b.fThings.length:=List.length_filter_le ..
   rw [putAt,List.length_append,List.length_cons];omega
  rw [J7 hb,Option.bind_some]
  rw [Md] at hok ⊢
  cases ht:YX b.fThings r.fThing.fId with
  | some o=>
   rw [ht] at hok
   simp only [cond_true,SAF,Option.bind_some,Bool.not_true,cond_false,V8 (show b.fThings.length≤1000000000 by omega)] at hok ⊢
   cases hg:grown o r.fThing
   ·rfl
   ·rw [hg] at hok
    simp only [cond_true] at hok
    have h5:=(hok trivial).2.2.2.1
    simp only [Bool.not_true,cond_false,cond_true]
    rw [Af (by simp only;omega),Option.bind_some,h5];rfl
  | none=>
   rw [ht] at hok
   have hw2:w64 (b.fLast+1)=b.fLast+1:=w64_id (by omega) (by omega)
   simp only [cond_false,Bool.not_false,cond_true,hw2,V8 (show b.fThings.length≤1000000000 by omega),Option.bind_some] at hok ⊢
   cases hg:(r.fThing.fId != b.fLast+1)
   ·rw [hg] at hok
    rw [bne_eq_false_iff_eq] at hg
    have hpn:=(OAF b7 (show b.fLast<r.fThing.fId by omega)).1
    by_cases h8:(b.fThings.length:Int)≥8
    ·rw [decide_eq_true h8,cond_false,TB (by rw [beq_iff_eq];omega)];rfl
    ·rw [decide_eq_false h8] at hok ⊢
     simp only [Bool.or_false,cond_false] at hok
     have h5:=(hok trivial).2.2.2.1
     rw [hpn] at hpl ⊢
     rw [cond_false,FN (by rw [beq_eq_false_iff_ne];omega),Af (by simp only;omega),Option.bind_some,h5];rfl
   ·rfl
 ·rw [hk] at hok ⊢
  simp only [show ((4:Int) == 1)=false from rfl,show ((4:Int) == 2)=false from rfl,show ((4:Int) == 3)=false from rfl,show ((4:Int) == 4)=true from rfl,cond_true,cond_false] at hok ⊢
  rw [J7 hb,Option.bind_some]
  cases ht:YX b.fThings r.fNum with
  | none=>rfl
  | some o=>
   rw [ht] at hok
   simp only [Bool.not_true,cond_false] at hok ⊢
   have h5:=(hok trivial).2.2.2.1
   have key:∀ (j i m:Nat),i+j=b.fThings.length→Rh (m+j+1) (.c0 (RV r).1 (i:Int) b r ⟨#[]⟩ 0 0 ⟨#[]⟩ 0 b.fWord b.fTries b.fLast b.fChain b.fCount ((b.fThings.take i).filter (fun t=>t.fId != r.fNum)) [] b.fThings)=some (⟨b.fWord,b.fTries,without b.fThings r.fNum,b.fLast,SY (b.fChain++(RV r).1),b.fCount+1⟩,true):=by
    intro j
    induction j with
    | zero=>
     intro i m hi
     obtain rfl:i=b.fThings.length:=by omega
     have hf1:(without b.fThings r.fNum).length≤b.fThings.length:=List.length_filter_le ..
     rw [List.take_length,show b.fThings.filter (fun t=>t.fId != r.fNum)=without b.fThings r.fNum from rfl,Rh]
     simp only [Vm,hdig,hsz,hw,Option.bind_some,cond_true]
     rw [FN (by simp),Af (by simp only;omega),Option.bind_some,h5];rfl
    | succ j ih=>
     intro i m hi
     have hil:i<b.fThings.length:=by omega
     have e:w64 ((i:Int)+1)=((i+1:Nat):Int):=by rw [w64_id (by omega) (by omega)];rfl
     have h6:=ih (i+1) m (by omega)
     rw [Ey hil] at h6
     have hf2:((b.fThings.take i).filter (fun t=>t.fId != r.fNum)).length≤i:=Nat.le_trans (List.length_filter_le ..) (by simp;omega)
     rw [show m+(j+1)+1=(m+j+1)+1 by omega,Rh]
     simp only [Vm,e,Int.toNat_natCast,getD_at hil]
     rw [TB (by simp;omega),TB (by simp;omega)]
     cases h7:(b.fThings[i].fId != r.fNum)
     ·rw [h7] at h6
      rw [cond_false,←h6];simp
     ·rw [h7] at h6
      rw [cond_true,TB (by simp;omega),TB (by simp only [decide_eq_true_eq];omega),←h6];simp
   obtain ⟨m,hm⟩:∃ m,gas=m+b.fThings.length+1:=⟨gas - (b.fThings.length+1),by have:=gas_lt (n:=b.fThings.length+1) (by omega);omega⟩
   have h0:=key b.fThings.length 0 m (by omega)
   rw [List.take_zero,List.filter_nil] at h0
   rw [hm]
   exact h0
def SX (b:SBook):List SRec→SBook×Bool
 | []=>(b,true)
 | r::rs=>bif (QX b r).2 then SX (QX b r).1 rs else (Bl,false)
theorem Yo {b:SBook} {r:SRec} (h:(QX b r).2=true):(QX b r).1.fThings.length≤8:=(XZ.1 (Dy h).2.2.2.1).2.2.2.1
theorem KAI {rs:List SRec}:∀ {b:SBook},HY b=true→(SX b rs).2=true→HY (SX b rs).1=true:=by
 induction rs with
 | nil=>intro b h _;exact h
 | cons r rs ih=>
  intro b h h2
  rw [SX] at h2 ⊢
  cases h3:(QX b r).2
  ·rw [h3] at h2;cases h2
  ·rw [h3,cond_true] at h2
   rw [cond_true]
   exact ih (Dy h3).2.2.2.1 h2
theorem UAF {b:SBook} {l:List SRec} (hb:b.fThings.length≤2932031007317) (hl:l.length≤140737488351232):Wh b l=some (SX b l):=by
 have key:∀ (j i m:Nat) (b:SBook),i+j=l.length→b.fThings.length≤2932031007317→Vh (m+j+1) (.c0 l (i:Int) ⟨#[]⟩ 0 0 ⟨#[]⟩ 0 b.fWord b.fTries b.fLast b.fChain b.fCount [] b.fThings)=some (SX b (l.drop i)):=by
  intro j
  induction j with
  | zero=>
   intro i m b h hb
   obtain rfl:i=l.length:=by omega
   rw [Vh]
   simp only [Xm]
   rw [FN (by simp),List.drop_length];rfl
  | succ j ih=>
   intro i m b h hb
   have hi:i<l.length:=by omega
   have e:w64 ((i:Int)+1)=((i+1:Nat):Int):=by rw [w64_id (by omega) (by omega)];rfl
   rw [show m+(j+1)+1=(m+j+1)+1 by omega,Vh]
   simp only [Xm,e,Int.toNat_natCast,getD_at hi]
   rw [TB (by simp;omega),TB (by simp;omega),TAF (by show b.fThings.length≤_;omega),Option.bind_some,drop_at hi,SX]
   cases h2:(QX b l[i]).2
   ·rfl
   ·have h3:=Yo h2
    rw [FN (by rfl),cond_true]
    exact ih (i+1) m (QX b l[i]).1 (by omega) (by omega)
 obtain ⟨m,hm⟩:∃ m,gas=m+l.length+1:=⟨gas - (l.length+1),by have:=gas_lt (n:=l.length+1) (by omega);omega⟩
 rw [Wh,Us,P6 hb,Option.bind_some,hm]
 exact key l.length 0 m b (by omega) hb
theorem X8 {b:SBook} (h:b.fThings.length≤2932031007317):Fa b=some b:=by
 rw [Fa,Vs,TB (by simp;omega)]
theorem Zo {n:Int} (h:n≤9223372036854775807):Xa n=some (ofBytes (NM n)):=by
 have key:∀ (n:Int) (m:Nat) (out:List Int),n≤9223372036854775807→(NM n).length≤m→out.length+(NM n).length≤1000→Ai m (.c0 n out)=some (ofBytes (out++NM n)):=by
  intro n
  induction n using NM.induct with
  | case1 n hn ih=>
   intro m out h1 h2 h3
   rw [NM,if_pos hn] at h2 h3 ⊢
   simp only [List.length_cons] at h2 h3
   obtain ⟨m,rfl⟩:∃ k,m=k+1:=⟨m - 1,by omega⟩
   obtain ⟨e1,_,e2⟩:=U6 hn h1
   simp only [Ai,Ym,e1,e2]
   rw [show decide (n > 127)=true from decide_eq_true hn,show decide ((out.length+1)*1≤140737488355328)=true from decide_eq_true (by omega)]
   simp only [cond_true]
   rw [ih m _ (by omega) (by omega) (by simp;omega)]
   simp
  | case2 n hn=>
   intro m out h1 h2 h3
   rw [NM,if_neg hn] at h2 h3 ⊢
   simp at h2 h3
   obtain ⟨m,rfl⟩:∃ k,m=k+1:=⟨m - 1,by omega⟩
   simp only [Ai,Ym]
   rw [show decide (n > 127)=false from decide_eq_false hn,show decide ((out.length+1)*1≤140737488355328)=true from decide_eq_true (by omega)]
   rfl
 have hl:=RZ h
 exact key n gas [] h (Nat.le_of_lt (gas_lt (by omega))) (by simp;omega)
theorem Gy (x a b:Int):QZ x a b=some (IK x a b):=by
 show (bif decide (a≤x) then some (decide (x≤b)) else some false)=some (IK x a b)
 unfold IK;cases decide (a≤x) <;> rfl
theorem Y8 (x:SThing):Ia x=some (PX x):=by
 simp only [Ia,Ht,Gy,Option.bind_some,PX,bne]
 by_cases k1:x.fKind=1
 ·rw [k1]
  cases IK x.fId 1 1000 <;> cases IK x.fNext 0 16 <;> cases (x.fNext == 0) <;> cases x.fSigns <;> cases x.fWraps <;> simp [IK]
 ·by_cases k2:x.fKind=2
  ·rw [k2]
   cases IK x.fId 1 1000 <;> cases IK x.fNext 0 16 <;> cases (x.fNext == 0) <;> cases x.fSigns <;> cases x.fWraps <;> simp [IK]
  ·by_cases k3:x.fKind=3
   ·rw [k3]
    cases IK x.fId 1 1000 <;> cases IK x.fNext 0 16 <;> cases (x.fNext == 0) <;> cases x.fSigns <;> cases x.fWraps <;> simp [IK]
   ·have hr:IK x.fKind 1 3=false:=by
     cases h:IK x.fKind 1 3
     ·rfl
     ·rw [CZ] at h;omega
    have e1:(x.fKind == 1)=false:=by simpa using k1
    have e2:(x.fKind == 2)=false:=by simpa using k2
    have e3:(x.fKind == 3)=false:=by simpa using k3
    rw [hr,e1,e2,e3]
    cases IK x.fId 1 1000 <;> cases IK x.fNext 0 16 <;> cases (x.fNext == 0) <;> cases x.fSigns <;> cases x.fWraps <;> rfl
theorem Ef {n:Int} (h:0≤n) (h2:n≤255):Cc n=some (ofBytes [n]):=by
 simp only [Cc,Kt,w8_id h h2]
theorem VAF {s:ByteArray} (h:s.size≤140737488351232):Gi s=some (UZ s):=by
 simp only [Gi,Vt,Zo (n:=(s.size:Int)) (by omega),Option.bind_some]
 have:=RZ (n:=(s.size:Int)) (by omega)
 rw [show decide ((ofBytes (NM (s.size:Int))).size+s.size≤9223372036854775807)=true from decide_eq_true (by rw [ofBytes_size];omega)]
 rfl
theorem WAF (x:SThing):Ii x=some (NY x):=by
 simp only [Ii,Yt,Y8,Option.bind_some,NY]
 cases h:PX x
 ·rfl
 ·obtain ⟨k1,k2,k3,k4,k5,k6,k7⟩:=Qc h
  obtain ⟨z1,z2,z3⟩:=Gx h
  have hf:=Y6 x
  have e1:∀ n:Int,(ofBytes [n]).size=1:=fun n=>ofBytes_size _
  simp only [WAD,Option.bind_some,Zo (n:=x.fId) (by omega),Ef (n:=x.fKind) (by omega) (by omega),Ef hf.1 (by omega),VAF (s:=x.fValue) (by omega),Zo (n:=x.fNext) (by omega),ba_append_size,e1]
  simp only [Bool.not_true,cond_false,cond_true]
  rw [show decide ((ofBytes (NM x.fId)).size+1≤9223372036854775807)=true from decide_eq_true (by omega),show decide ((ofBytes (NM x.fId)).size+1+1≤9223372036854775807)=true from decide_eq_true (by omega),
   show decide ((ofBytes (NM x.fId)).size+1+1+(UZ x.fValue).size≤9223372036854775807)=true from decide_eq_true (by omega),show decide ((ofBytes (NM x.fId)).size+1+1+(UZ x.fValue).size+(ofBytes (NM x.fNext)).size≤9223372036854775807)=true from decide_eq_true (by omega)]
  rfl
theorem XAF {r:SRec} (g:r.fNum≤9223372036854775807):Ji r=some (RV r):=by
 simp only [Ji,Au,Gy,WAF,Zo g,Option.bind_some,F7]
 simp only [G7,RV]
 cases k1:r.fKind == 1
 ·simp only [cond_false]
  cases k2:r.fKind == 2
  ·simp only [cond_false]
   cases k3:r.fKind == 3
   ·simp only [cond_false]
    cases k4:r.fKind == 4
    ·rfl
    ·have k:r.fKind=4:=by simpa using k4
     rw [k]
     simp only [beq_self_eq_true,Ef (n:=4) (by omega) (by omega),Option.bind_some,Bool.true_and,cond_true]
     cases h:IK r.fNum 1 1000
     ·cases WX r.fText <;> cases AY r.fThing <;> rfl
     ·cases WX r.fText <;> cases AY r.fThing <;> (try rfl)
      simp only [Bool.not_true,cond_false,cond_true,Bool.and_self,decide_eq_true (Qo (by omega) h 4)]
   ·have k:r.fKind=3:=by simpa using k3
    rw [k]
    simp only [beq_self_eq_true,Ef (n:=3) (by omega) (by omega),Option.bind_some,Bool.true_and,cond_true,Bool.and_true]
    cases h:(NY r.fThing).2
    ·cases WX r.fText <;> cases r.fNum == 0 <;> rfl
    ·cases WX r.fText <;> cases r.fNum == 0 <;> (try rfl)
     simp only [Bool.not_true,cond_false,cond_true,Bool.and_self,decide_eq_true (H7 h 3)]
  ·have k:r.fKind=2:=by simpa using k2
   rw [k]
   simp only [beq_self_eq_true,Ef (n:=2) (by omega) (by omega),Option.bind_some,Bool.true_and,cond_true]
   cases h:IK r.fNum 0 3
   ·cases WX r.fText <;> cases AY r.fThing <;> rfl
   ·cases WX r.fText <;> cases AY r.fThing <;> (try rfl)
    simp only [Bool.not_true,cond_false,cond_true,Bool.and_self,decide_eq_true (Qo (by omega) h 2)]
 ·have k:r.fKind=1:=by simpa using k1
  rw [k]
  simp only [beq_self_eq_true,Ef (n:=1) (by omega) (by omega),Option.bind_some,Bool.true_and,cond_true]
  cases h:(r.fText.size:Int) == 32 <;> cases r.fNum == 0 <;> cases AY r.fThing <;> (try rfl)
  have h':r.fText.size=32:=by have:=beq_iff_eq.1 h;omega
  have e:(ofBytes [1]).size+r.fText.size≤9223372036854775807:=by rw [ofBytes_size];simp only [List.length_singleton];omega
  simp only [Bool.not_true,cond_false,cond_true,Bool.and_self,decide_eq_true e]
def Ap (b:SBook):Bool:=(b.fWord.size:Int) == 32 && ((b.fChain.size:Int) == 32 && (IK b.fTries 0 3 && (decide ((b.fThings.length:Int)≤8) && (IK b.fLast 0 1000 && IK b.fCount 0 10000))))
theorem YAF {b:SBook} (hb:b.fThings.length≤140737488351232):∀ m i,i≤b.fThings.length→b.fThings.length - i<m→He m (.c0 b.fThings b.fThings.length i b)=some (rise b.fLast (RY b.fThings i) (b.fThings.drop i) && Ap b):=fun m i h1 h2=>
 loopN (A:=Unit) (n:=b.fThings.length) (Lp:=He) (st:=fun i _=>.c0 b.fThings b.fThings.length i b) (Inv:=fun _ _=>True) (out:=fun i _=>some (rise b.fLast (RY b.fThings i) (b.fThings.drop i) && Ap b))
  (fun m _ _=>by
   simp only [He,En,Gy,Option.bind_some,Ap]
   rw [show decide ((b.fThings.length:Int)<(b.fThings.length:Int))=false from decide_eq_false (by omega),List.drop_of_length_le (Nat.le_refl _)]
   cases (b.fWord.size:Int) == 32 <;> cases (b.fChain.size:Int) == 32 <;> cases IK b.fTries 0 3 <;> cases decide ((b.fThings.length:Int)≤8) <;> cases IK b.fLast 0 1000 <;> rfl)
  (fun m i _ hi _=>by
   have hw:w64 ((i:Int)+1)=((i+1:Nat):Int):=by rw [w64_id (by omega) (by omega)];rfl
   simp only [I7 hi]
   simp only [He,En,Int.toNat_natCast,getD_at hi,Y8,Option.bind_some,hw]
   rw [show decide ((i:Int)<(b.fThings.length:Int))=true from decide_eq_true (by omega),show decide ((0:Int)≤(i:Int))=true from decide_eq_true (by omega)]
   simp only [Bool.and_self,cond_true]
   cases h1:PX b.fThings[i]
   ·exact .inl rfl
   ·cases h2:decide (b.fThings[i].fId > b.fLast)
    ·by_cases h0:i=0
     ·subst h0
      refine .inr ⟨(),rfl,trivial,?_⟩
      rw [show decide (RY b.fThings 0≥b.fThings[0].fId)=false from decide_eq_false (by have:=(Qc h1).2.2.1;simp only [RY];omega)]
      rfl
     ·obtain ⟨j,rfl⟩:∃ j,i=j+1:=⟨i - 1,by omega⟩
      have hj:w64 (((j+1:Nat):Int) - 1)=(j:Int):=by rw [w64_id (by omega) (by omega)];omega
      have hjl:j<b.fThings.length:=by omega
      rw [Ox hjl]
      simp only [hj,Int.toNat_natCast,getD_at hjl,Bool.not_true,Bool.not_false,cond_false,Bool.true_and]
      rw [show decide (((j+1:Nat):Int) > 0)=true from decide_eq_true (by omega),show decide ((0:Int)≤(j:Int))=true from decide_eq_true (by omega),show decide ((j:Int)<(b.fThings.length:Int))=true from decide_eq_true (by omega)]
      simp only [Bool.and_self,cond_true]
      cases h3:decide (b.fThings[j].fId≥b.fThings[j+1].fId)
      ·exact .inr ⟨(),rfl,trivial,rfl⟩
      ·exact .inl rfl
    ·exact .inl rfl) m i () h1 h2 trivial
theorem ZAF {b:SBook} (hb:b.fThings.length≤140737488351232):Qi b=some (HY b):=by
 have h0:=YAF hb gas 0 (Nat.zero_le _) (gas_lt (by omega))
 simp only [Qi,Eu]
 refine h0.trans (congrArg some ?_)
 simp only [HY,Ap,List.drop_zero,RY]
 cases rise b.fLast 0 b.fThings <;> simp
theorem AAG (x y:SThing):Si x y=some (grown x y):=by
 rw [Si,Hu,grown,U8,show decide (y.fNext≥x.fNext)=decide (x.fNext≤y.fNext) from rfl]
 cases (y.fKind == x.fKind) <;> cases (bs y.fValue == bs x.fValue) <;> cases y.fSigns <;> cases x.fSigns <;> cases y.fWraps <;> cases x.fWraps <;> cases decide (x.fNext≤y.fNext) <;> cases y.fHidden <;> cases x.fHidden <;> cases y.fFixed <;> cases x.fFixed <;> rfl
theorem BAG {b:SBook} {x:SThing} (hb:HY b=true) (hx:x.fId≤1000):Ti b x=some (match Md b x with
 | some p=>(true,⟨b.fWord,b.fTries,p.1,p.2,b.fChain,b.fCount⟩)
 | none=>(false,b)):=by
 obtain ⟨b1,b2,b3,b4,b5,b6,b7⟩:=XZ.1 hb
 rw [Ti,Ju,O7 (by omega),Option.bind_some,Md]
 rcases Zx (xs:=b.fThings) (id:=x.fId) with ⟨o,j,t1,t2,t3,t4,t5⟩ | ⟨t1,t2⟩
 ·have hg:∀ z,b.fThings.getD j z=o:=fun z=>by rw [List.getD,t4];rfl
  have hs:=(Yx b7 t2).1
  rw [Nat.sub_zero] at hs
  rw [t1,t2]
  simp only [Int.toNat_natCast,hg,AAG,Option.bind_some,hs]
  rw [TB (by simp),TB (by simp;omega)]
  cases grown o x
  ·rfl
  ·rw [FN (by rfl),TB (by simp;omega)];rfl
 ·rw [t1,t2]
  simp only
  have hw:w64 (b.fLast+1)=b.fLast+1:=w64_id (by omega) (by omega)
  rw [FN (by rfl),hw]
  cases h1:(x.fId != b.fLast+1)
  ·by_cases h2:(b.fThings.length:Int)≥8
   ·rw [decide_eq_true h2];rfl
   ·rw [decide_eq_false h2,cond_false,cond_false,TB (by simp;omega)];rfl
  ·rfl
theorem CAG {n:Nat} (h:n≤1000000000):Ui (n:Int)=some (ofBytes (List.replicate n 0)):=by
 simp only [Ui,Nu,Int.toNat_natCast]
 rw [TB (by simp;omega)]
theorem Z8 {x:Int} (h:R32 x):Ja x=some (ofBytes (four x)):=by
 obtain ⟨h1,h2⟩:=h
 have e1:Int.fdiv x (2 ^ (Min.min (24:Int).toNat (IntKind.bits IntKind.u32)))=x / 16777216:=Int.fdiv_eq_ediv_of_nonneg _ (by decide)
 have e2:Int.fdiv x (2 ^ (Min.min (16:Int).toNat (IntKind.bits IntKind.u32)))=x / 65536:=Int.fdiv_eq_ediv_of_nonneg _ (by decide)
 have e3:Int.fdiv x (2 ^ (Min.min (8:Int).toNat (IntKind.bits IntKind.u32)))=x / 256:=Int.fdiv_eq_ediv_of_nonneg _ (by decide)
 simp only [Ja,Ou,e1,e2,e3,w8_mod,four]
 rw [show x / 16777216 % 256=x / 16777216 by omega]
theorem EAG {n:Nat} (h:n<1099511627776):Xi (n:Int)=some (ofBytes (LZ (n:Int))):=by
 have e1:Int.fdiv (n:Int) (2 ^ (Min.min (32:Int).toNat (IntKind.bits IntKind.i64)))=(n:Int) / 4294967296:=Int.fdiv_eq_ediv_of_nonneg _ (by decide)
 simp only [Xi,Uu,e1,Z8 (IY _),Option.bind_some]
 rw [TB (by rw [ofBytes_size,ofBytes_size];simp [four])]
 congr 1
 apply Nc
 rw [Xe,WY (Uo (IY _)),WY (Uo (IY _)),WY (fun x hx=>by
  simp only [LZ,List.mem_cons,List.not_mem_nil,or_false] at hx
  omega)]
 simp only [four,LZ,Uc,List.cons_append,List.nil_append,List.cons.injEq,and_true]
 omega
theorem FAG {n:Nat} (h:n≤100000000000):Yi (n:Int)=some (ofBytes (CV n)):=by
 have e1:(w64 (119 - ((n:Int).tmod 64))).tmod 64=(((119 - n % 64) % 64:Nat):Int):=by
  have a:(n:Int).tmod 64=(n:Int) % 64:=Int.tmod_eq_emod_of_nonneg (by omega)
  rw [a,w64_id (by omega) (by omega),Int.tmod_eq_emod_of_nonneg (by omega)]
  omega
 have e2:w64 (8*(n:Int))=((8*n:Nat):Int):=by rw [w64_id (by omega) (by omega)];omega
 have h0:(⟨#[128]⟩:ByteArray).size=1:=rfl
 simp only [Yi,Wu,e1,e2,CAG (n:=(119 - n % 64) % 64) (by omega),EAG (n:=8*n) (by omega),Option.bind_some]
 rw [TB (by rw [ofBytes_size];simp [h0];omega),TB (by rw [ByteArray.size_append,ofBytes_size,ofBytes_size];simp [h0,LZ];omega)]
 congr 1
 apply Nc
 have hb:KY (List.replicate ((119 - n % 64) % 64) (0:Int)):=fun x hx=>by
  have:=List.eq_of_mem_replicate hx;omega
 have hb2:KY (LZ ((8*n:Nat):Int)):=fun x hx=>by
  simp only [LZ,List.mem_cons,List.not_mem_nil,or_false] at hx
  omega
 rw [Xe,Xe,WY hb,WY hb2,WY (Ux n),CV]
 have e3:bs (⟨#[128]⟩:ByteArray)=[128]:=rfl
 rw [e3]
 simp
theorem GAG {x:Int} (h:R32 x) (n:Nat) (hn:0<n) (hn2:n<32) (k:Int) (hk:wu64 (((BitVec.toNat ((BitVec.ofInt (IntKind.bits IntKind.u64) (wu64 k)) &&& (BitVec.ofInt (IntKind.bits IntKind.u64) (31:Int)))):Nat):Int)=((32 - n:Nat):Int))
  (hk2:wu64 (32 - ((32 - n:Nat):Int))=(n:Int)):Zi x k=some (rt (2 ^ n) (2 ^ (32 - n)) x):=by
 have e1:Min.min ((32 - n:Nat):Int).toNat (IntKind.bits IntKind.u32)=32 - n:=by
  show Min.min ((32 - n:Nat):Int).toNat 32=_
  omega
 have e2:Min.min (n:Int).toNat (IntKind.bits IntKind.u32)=n:=by
  show Min.min (n:Int).toNat 32=_
  omega
 have e3:Int.fdiv x (2 ^ n)=x / 2 ^ n:=Int.fdiv_eq_ediv_of_nonneg _ (Int.le_of_lt (Int.pow_pos (by omega)))
 simp only [Zi,Yu,hk,hk2,e1,e2,e3]
 rw [show decide ((0:Int)≤(n:Int))=true from decide_eq_true (by omega)]
 simp only [cond_true,Q7]
 rw [DAE h n hn hn2]
theorem YZ {x:Int} (h:R32 x) (n:Nat) (hn:0<n) (hn2:n<32) (hk:wu64 (((BitVec.toNat ((BitVec.ofInt (IntKind.bits IntKind.u64) (wu64 (w64 (0 - (n:Int))))) &&& (BitVec.ofInt (IntKind.bits IntKind.u64) (31:Int)))):Nat):Int)=((32 - n:Nat):Int))
  (hk2:wu64 (32 - ((32 - n:Nat):Int))=(n:Int)):RX x (n:Int)=some (rt (2 ^ n) (2 ^ (32 - n)) x):=by
 simp only [RX,Zu,GAG h n hn hn2 _ hk hk2,Option.bind_some]
theorem HAG {x:Int} (h:R32 x):RX x 2=some (rt 4 1073741824 x):=YZ h 2 (by decide) (by decide) (by decide) (by decide)
theorem IAG {x:Int} (h:R32 x):RX x 13=some (rt 8192 524288 x):=YZ h 13 (by decide) (by decide) (by decide) (by decide)
theorem JAG {x:Int} (h:R32 x):RX x 22=some (rt 4194304 1024 x):=YZ h 22 (by decide) (by decide) (by decide) (by decide)
theorem KAG {x:Int} (h:R32 x):RX x 6=some (rt 64 67108864 x):=YZ h 6 (by decide) (by decide) (by decide) (by decide)
theorem LAG {x:Int} (h:R32 x):RX x 11=some (rt 2048 2097152 x):=YZ h 11 (by decide) (by decide) (by decide) (by decide)
theorem MAG {x:Int} (h:R32 x):RX x 25=some (rt 33554432 128 x):=YZ h 25 (by decide) (by decide) (by decide) (by decide)
theorem NAG {x:Int} (h:R32 x):RX x 7=some (rt 128 33554432 x):=YZ h 7 (by decide) (by decide) (by decide) (by decide)
theorem OAG {x:Int} (h:R32 x):RX x 18=some (rt 262144 16384 x):=YZ h 18 (by decide) (by decide) (by decide) (by decide)
theorem PAG {x:Int} (h:R32 x):RX x 17=some (rt 131072 32768 x):=YZ h 17 (by decide) (by decide) (by decide) (by decide)
theorem QAG {x:Int} (h:R32 x):RX x 19=some (rt 524288 8192 x):=YZ h 19 (by decide) (by decide) (by decide) (by decide)
theorem RAG {a b:Int} (ha:0≤a∧a<16777216) (hb:0≤b∧b≤255):Vk (w32 (a*256)) (w32 b)=a*256+b:=by
 obtain ⟨x,rfl⟩:∃ x:Nat,a=(x:Int):=⟨a.toNat,by omega⟩
 obtain ⟨y,rfl⟩:∃ y:Nat,b=(y:Int):=⟨b.toNat,by omega⟩
 rw [JZ (by omega) (by omega),JZ (by omega) (by omega)]
 have:=U7 (a:=x) (b:=y) (s:=8) (by omega) (by omega) (by omega)
 have e:((x*2 ^ 8:Nat):Int)=(x:Int)*256:=by omega
 rw [Int.natCast_add,e] at this
 exact this
def ZY (l:List Int) (i:Nat):Nat→Int
 | 0=>0
 | k+1=>ZY l i k*256+l.getD (4*i+k) 0
theorem SAG (l:List Int) (i:Nat):ZY l i 4=wordAt l i:=by
 simp only [ZY,wordAt,be4,Nat.add_zero]
 omega
theorem UAG {l:List Int} (h:KY l) (i:Nat):∀ k,k<4→0≤ZY l i k∧ZY l i k<16777216
 | 0,_=>by simp [ZY]
 | 1,_=>by have:=LY h (4*i+0);simp only [ZY];omega
 | 2,_=>by have:=LY h (4*i+0);have:=LY h (4*i+1);simp only [ZY];omega
 | 3,_=>by have:=LY h (4*i+0);have:=LY h (4*i+1);have:=LY h (4*i+2);simp only [ZY];omega
theorem VAG {b:ByteArray} (hb:b.size=64) (v:List Int) (i:Nat) (hi:i<16):∀ (j k m:Nat),k+j=4→
  VY (m+j+1) (.c1 b (i:Int) (i:Int) (k:Int) v (TT (bs b) i++ZY (bs b) i k::List.replicate (63 - i) 0))=VY m (.c0 b ((i+1:Nat):Int) v (TT (bs b) (i+1)++List.replicate (63 - i) 0)):=by
 have hby:=Ze b
 intro j
 induction j with
 | zero=>
  intro k m h
  obtain rfl:k=4:=by omega
  have e:w64 ((i:Int)+1)=((i+1:Nat):Int):=by rw [w64_id (by omega) (by omega)];rfl
  rw [VY]
  simp only [Ya,e]
  rw [FN (by simp),SAG,A8]
  simp
 | succ j ih=>
  intro k m h
  have hk:k<4:=by omega
  have hlen:(TT (bs b) i++ZY (bs b) i k::List.replicate (63 - i) 0).length=64:=by
   simp only [List.length_append,List.length_cons,List.length_replicate,Na];omega
  have e:w64 ((k:Int)+1)=((k+1:Nat):Int):=by rw [w64_id (by omega) (by omega)];rfl
  have e4:w64 (4*(i:Int))=((4*i:Nat):Int):=by rw [w64_id (by omega) (by omega)];omega
  have e5:w64 (((4*i:Nat):Int)+(k:Int))=((4*i+k:Nat):Int):=by rw [w64_id (by omega) (by omega)];omega
  have e8:(2:Int) ^ (Min.min (8:Int).toNat (IntKind.bits IntKind.u32))=256:=by decide
  have hg:(TT (bs b) i++ZY (bs b) i k::List.replicate (63 - i) 0).getD i 0=ZY (bs b) i k:=by
   rw [O6 (by rw [Na];omega),Na,Nat.sub_self];rfl
  rw [show m+(j+1)+1=(m+j+1)+1 by omega,VY]
  simp only [Ya,e,e4,e5,e8,Int.toNat_natCast,hlen,hg,Q7]
  rw [TB (by simp;omega),TB (by rfl),TB (by simp;omega),TB (by simp;omega),TB (by rfl),TB (by simp;omega)]
  rw [Ye (by omega),RAG (UAG hby i k hk) (LY hby _),Rk (Na _ i)]
  exact ih (k+1) m (by omega)
theorem WAG {b:ByteArray} (hb:b.size=64) (v:List Int):∀ (j i m:Nat),i+j=16→VY (m+6*j+1) (.c0 b (i:Int) v (TT (bs b) i++List.replicate (64 - i) 0))=VY m (.c2 16 v (TT (bs b) 16++List.replicate 48 0)):=by
 intro j
 induction j with
 | zero=>
  intro i m h
  obtain rfl:i=16:=by omega
  rw [VY]
  simp only [Ya]
  rw [FN (by simp)]
 | succ j ih=>
  intro i m h
  rw [show m+6*(j+1)+1=(m+6*j+1)+4+1+1 by omega,VY]
  simp only [Ya]
  rw [TB (by simp;omega)]
  have h1:=VAG hb v i (by omega) 4 0 (m+6*j+1) (by omega)
  rw [show 64 - i=(63 - i)+1 by omega,List.replicate_succ]
  have h2:=ih (i+1) m (by omega)
  rw [show 64 - (i+1)=63 - i by omega] at h2
  exact h1.trans h2
theorem XAG {w v:List Int} (hw:∀ x ∈ w,R32 x) (hwl:w.length=16) (hv:v.length=64):∀ (j i m:Nat),i+j=48→VY (m+j+1) (.c2 ((16+i:Nat):Int) v (sched w i++List.replicate (48 - i) 0))=some (sched w 48):=by
 intro j
 induction j with
 | zero=>
  intro i m h
  obtain rfl:i=48:=by omega
  have hl:=Xk hwl 48
  rw [VY]
  simp only [Ya,Nat.sub_self,List.replicate_zero,List.append_nil,hl,hv]
  rfl
 | succ j ih=>
  intro i m h
  have hl:=Xk hwl i
  have hr:=Ro hw i
  have hlen:(sched w i++List.replicate (48 - i) 0).length=64:=by
   simp only [List.length_append,List.length_replicate,hl];omega
  have e2:w64 (((16+i:Nat):Int) - 2)=((16+i - 2:Nat):Int):=by rw [w64_id (by omega) (by omega)];omega
  have e7:w64 (((16+i:Nat):Int) - 7)=((16+i - 7:Nat):Int):=by rw [w64_id (by omega) (by omega)];omega
  have e15:w64 (((16+i:Nat):Int) - 15)=((16+i - 15:Nat):Int):=by rw [w64_id (by omega) (by omega)];omega
  have e16:w64 (((16+i:Nat):Int) - 16)=((16+i - 16:Nat):Int):=by rw [w64_id (by omega) (by omega)];omega
  have e1:w64 (((16+i:Nat):Int)+1)=((16+(i+1):Nat):Int):=by rw [w64_id (by omega) (by omega)];omega
  have g2:(sched w i++List.replicate (48 - i) 0).getD (16+i - 2) 0=(sched w i).getD (16+i - 2) 0:=Ko (by omega) 0
  have g7:(sched w i++List.replicate (48 - i) 0).getD (16+i - 7) 0=(sched w i).getD (16+i - 7) 0:=Ko (by omega) 0
  have g15:(sched w i++List.replicate (48 - i) 0).getD (16+i - 15) 0=(sched w i).getD (16+i - 15) 0:=Ko (by omega) 0
  have g16:(sched w i++List.replicate (48 - i) 0).getD (16+i - 16) 0=(sched w i).getD (16+i - 16) 0:=Ko (by omega) 0
  have f10:∀ x:Int,Int.fdiv x (2 ^ (Min.min (10:Int).toNat (IntKind.bits IntKind.u32)))=x / 1024:=fun x=>Int.fdiv_eq_ediv_of_nonneg _ (by decide)
  have f3:∀ x:Int,Int.fdiv x (2 ^ (Min.min (3:Int).toNat (IntKind.bits IntKind.u32)))=x / 8:=fun x=>Int.fdiv_eq_ediv_of_nonneg _ (by decide)
  have r15:=Yk hr (16+i - 15)
  have r2:=Yk hr (16+i - 2)
  rw [show m+(j+1)+1=(m+j+1)+1 by omega,VY]
  simp only [Ya,e1,e2,e7,e15,e16,Int.toNat_natCast,hlen,g2,g7,g15,g16,NAG r15,OAG r15,PAG r2,QAG r2,Option.bind_some,f10,f3,Xc]
  rw [TB (by simp;omega),TB (by rfl),TB (by simp;omega),TB (by rfl),TB (by simp;omega),TB (by rfl),TB (by simp;omega),TB (by rfl),TB (by simp;omega),TB (by rfl),TB (by simp;omega)]
  rw [show 48 - i=(48 - (i+1))+1 by omega,List.replicate_succ,Rk (by omega)]
  have h2:=ih (i+1) m (by omega)
  rw [sched,List.append_assoc] at h2
  exact h2
theorem YAG {b:ByteArray} (hb:b.size=64):Dc b=some (sched (TT (bs b) 16) 48):=by
 obtain ⟨m,hm⟩:∃ m,gas=(m+48+1)+6*16+1:=⟨gas - 146,by have:=gas_lt (n:=146) (by omega);omega⟩
 rw [Dc,Bv,hm]
 have h0:=WAG hb (List.replicate 64 0) 16 0 (m+48+1) (by omega)
 have h2:=XAG (w:=TT (bs b) 16) (v:=List.replicate 64 0) (Qx (Ze b) 16) (Na _ 16) (List.length_replicate ..) 48 0 m (by omega)
 rw [show TT (bs b) 0++List.replicate (64 - 0) 0=List.replicate 64 (0:Int) from rfl,show ((0:Nat):Int)=0 from rfl] at h0
 rw [show ((16+0:Nat):Int)=16 from rfl,show sched (TT (bs b) 16) 0=TT (bs b) 16 from rfl,show 48 - 0=48 from rfl] at h2
 rw [h0,h2]
theorem AAH (s r v:List Int) (hs:s.length=8) (hv:v.length=8) (f:Nat→Int) (hf:∀ i,i<8→f i=w32 (r.getD i 0+s.getD i 0)) (hr:r.length=8):∀ (j i m:Nat),i+j=8→GZ (m+j+1) (.c1 (i:Int) s v ((List.range i).map f++r.drop i))=some ((List.range 8).map f):=by
 intro j
 induction j with
 | zero=>
  intro i m h
  obtain rfl:i=8:=by omega
  rw [GZ]
  simp only [Oe]
  rw [FN (by simp),List.drop_of_length_le (by omega),List.append_nil,TB (by simp),TB (by simp [hv]),TB (by simp)]
 | succ j ih=>
  intro i m h
  have e:w64 ((i:Int)+1)=((i+1:Nat):Int):=by rw [w64_id (by omega) (by omega)];rfl
  have hl:((List.range i).map f++r.drop i).length=8:=by simp [hr];omega
  have hm:((List.range i).map f).length=i:=by simp
  have hg:((List.range i).map f++r.drop i).getD i 0=r.getD i 0:=by
   rw [O6 (by omega),hm,Nat.sub_self]
   simp [List.getD]
  rw [show m+(j+1)+1=(m+j+1)+1 by omega,GZ]
  simp only [Oe,e,Int.toNat_natCast,hl,hs,hg]
  rw [TB (by simp;omega),TB (by rfl),TB (by simp;omega),TB (by rfl),TB (by simp;omega),TB (by rfl),TB (by simp;omega)]
  rw [drop_at (by omega:i<r.length),Rk hm,←hf i (by omega)]
  have h2:=ih (i+1) m (by omega)
  rw [List.range_succ,List.map_append,List.append_assoc] at h2
  exact h2
theorem BAH (s v W:List Int) (hW:∀ x ∈ W,R32 x) (hWl:W.length=64) (r:Reg) (hr:r.ok) (i m:Nat) (hi:i<64) :
  GZ (m+1) (.c0 r.a r.b r.c r.d r.e r.f r.g r.h (i:Int) s v W)=GZ m (.c0 (KZ r (keysL.getD i 0) (W.getD i 0)).a (KZ r (keysL.getD i 0) (W.getD i 0)).b (KZ r (keysL.getD i 0) (W.getD i 0)).c (KZ r (keysL.getD i 0) (W.getD i 0)).d (KZ r (keysL.getD i 0) (W.getD i 0)).e (KZ r (keysL.getD i 0) (W.getD i 0)).f (KZ r (keysL.getD i 0) (W.getD i 0)).g (KZ r (keysL.getD i 0) (W.getD i 0)).h ((i+1:Nat):Int) s v W):=by
 obtain ⟨h1,h2,h3,h4,h5,h6,h7,h8⟩:=hr
 have e:w64 ((i:Int)+1)=((i+1:Nat):Int):=by rw [w64_id (by omega) (by omega)];rfl
 rw [GZ]
 simp only [Oe,e,Int.toNat_natCast,hWl,KAG h5,LAG h5,MAG h5,HAG h1,IAG h1,JAG h1,Option.bind_some,Xc,P7,BAE h5]
 rw [TB (by simp;omega),TB (by simp;omega),TB (by rw [Nat.blt_eq];omega),TB (by rfl),TB (by simp;omega)]
 rfl
theorem CAH (s v W:List Int) (hW:∀ x ∈ W,R32 x) (hWl:W.length=64) (r:Reg) (hr:r.ok):∀ (j i m:Nat),i+j=64→
  GZ (m+j+1) (.c0 (ZX keysL W r i).a (ZX keysL W r i).b (ZX keysL W r i).c (ZX keysL W r i).d (ZX keysL W r i).e (ZX keysL W r i).f (ZX keysL W r i).g (ZX keysL W r i).h (i:Int) s v W)=GZ m (.c1 0 s v (ZX keysL W r 64).l):=by
 intro j
 induction j with
 | zero=>
  intro i m h
  obtain rfl:i=64:=by omega
  rw [GZ]
  simp only [Oe]
  rw [FN (by simp)]
  rfl
 | succ j ih=>
  intro i m h
  rw [show m+(j+1)+1=(m+j+1)+1 by omega,BAH s v W hW hWl _ (Z7 keysL W hr i) i _ (by omega)]
  exact ih (i+1) m (by omega)
theorem DAH {s:Reg} (hs:s.ok) {b:ByteArray} (hb:b.size=64):Ic s.l b=some (comp s (bs b)).l:=by
 obtain ⟨m,hm⟩:∃ m,gas=(m+8+1)+64+1:=⟨gas - 74,by have:=gas_lt (n:=74) (by omega);omega⟩
 have hr:=Ro (Qx (Ze b) 16) 48
 have hl:=Xk (Na (bs b) 16) 48
 have hsl:s.l.length=8:=rfl
 have z0:(0:Int).toNat=0:=rfl
 have z1:(1:Int).toNat=1:=rfl
 have z2:(2:Int).toNat=2:=rfl
 have z3:(3:Int).toNat=3:=rfl
 have z4:(4:Int).toNat=4:=rfl
 have z5:(5:Int).toNat=5:=rfl
 have z6:(6:Int).toNat=6:=rfl
 have z7:(7:Int).toNat=7:=rfl
 rw [Ic,Dv,YAG hb,Option.bind_some,hm]
 simp only [hl,hsl,List.length_replicate,z0,z1,z2,z3,z4,z5,z6,z7]
 rw [TB (by rfl),TB (by rfl),TB (by rfl),TB (by rfl),TB (by rfl),TB (by rfl),TB (by rfl),TB (by rfl),TB (by rfl),TB (by rfl),TB (by rfl),TB (by rfl),TB (by rfl),TB (by rfl),TB (by rfl),TB (by rfl),TB (by rfl)]
 have h0:=CAH s.l [0,0,0,0,0,0,0,0] _ hr hl s hs 64 0 (m+8+1) (by omega)
 rw [show ((0:Nat):Int)=0 from rfl] at h0
 have hf:∀ i,i<8→(fun i=>w32 ((ZX keysL (sched (TT (bs b) 16) 48) s 64).l.getD i 0+s.l.getD i 0)) i=w32 ((ZX keysL (sched (TT (bs b) 16) 48) s 64).l.getD i 0+s.l.getD i 0):=fun _ _=>rfl
 have h1:=AAH s.l (ZX keysL (sched (TT (bs b) 16) 48) s 64).l [0,0,0,0,0,0,0,0] rfl rfl _ hf rfl 8 0 m (by omega)
 rw [show ((0:Nat):Int)=0 from rfl,List.range_zero,List.map_nil,List.nil_append,List.drop_zero] at h1
 have e:(List.range 8).map (fun i=>w32 ((ZX keysL (sched (TT (bs b) 16) 48) s 64).l.getD i 0+s.l.getD i 0))=(comp s (bs b)).l:=by
  apply List.ext_getElem
  ·rw [Reg.Zk,List.length_map,List.length_range]
  ·intro i h1 h2
   have hi:i<8:=by simpa using h1
   rw [List.getElem_map,List.getElem_range,←getD_at h2 0]
   rw [comp,J8 _ _ i hi,Int.add_comm]
 rw [e] at h1
 exact h0.trans h1
theorem EAH {s:Reg} (hs:s.ok) {t:ByteArray} (ht:t.size≤1000000000000):Fj s.l t=some ((comps (t.size / 64) s (bs t)).l,t.extract (64*(t.size / 64)) t.size):=by
 have key:∀ (j:Nat) (s:Reg) (t:ByteArray) (m:Nat),s.ok→t.size / 64=j→t.size≤1000000000000→Ej (m+j+1) (.c0 t s.l [0,0,0,0,0,0,0,0])=some ((comps j s (bs t)).l,t.extract (64*j) t.size):=by
  intro j
  induction j with
  | zero=>
   intro s t m hs hj ht
   rw [Ej]
   simp only [Wn,Reg.Zk]
   rw [FN (by simp;omega),TB (by rfl),TB (by rfl),TB (by rfl)]
   congr 2
   apply Nc
   rw [Oc,List.take_of_length_le (by rw [bs_len];omega)]
   rfl
  | succ j ih=>
   intro s t m hs hj ht
   have h64:(64:Int).toNat=64:=rfl
   have e1:bs (t.extract 0 64)=(bs t).take 64:=by rw [Oc];rfl
   have e2:bs (t.extract 64 t.size)=(bs t).drop 64:=by rw [Oc,List.take_of_length_le (by rw [bs_len];omega)]
   rw [show m+(j+1)+1=(m+j+1)+1 by omega,Ej]
   simp only [Wn,h64,Reg.Zk]
   rw [TB (by simp;omega),TB (by rfl),TB (by simp;omega)]
   rw [DAH hs (b:=t.extract 0 64) (by simp;omega),Option.bind_some]
   rw [Reg.Zk]
   rw [TB (by rfl)]
   rw [TB (by simp;omega)]
   rw [ih (comp s (bs (t.extract 0 64))) (t.extract 64 t.size) m (D8 _ _) (by simp;omega) (by simp;omega),e1,e2]
   have e3:(t.extract 64 t.size).extract (64*j) (t.extract 64 t.size).size=t.extract (64*(j+1)) t.size:=by
    apply Nc
    rw [Oc,e2,Oc,List.take_of_length_le (by simp [bs_len]),List.take_of_length_le (by rw [bs_len];omega),List.drop_drop]
    congr 1
    omega
   rw [e3,comps]
 obtain ⟨m,hm⟩:∃ m,gas=m+t.size / 64+1:=⟨gas - (t.size / 64+1),by have:=gas_lt (n:=t.size / 64+1) (by omega);omega⟩
 rw [Fj,Gv,hm]
 exact key _ s t m hs rfl ht
theorem FAH {r:Reg} (hr:r.ok):Jj r.l=some (ofBytes (SN r.l)):=by
 have hl:r.l.length=8:=rfl
 have hrl:=Reg.Bd hr
 have hby:∀ i,KY (SN (r.l.take i)):=fun i=>Rx (fun x hx=>hrl x (List.mem_of_mem_take hx))
 have key:=loopN (A:=Unit) (n:=8) (Lp:=Ij) (st:=fun i _=>.c0 (ofBytes (SN (r.l.take i))) r.l (i:Int)) (Inv:=fun _ _=>True) (out:=fun _ _=>some (ofBytes (SN r.l)))
  (fun m _ _=>by
   rw [Ij]
   simp only [Xn]
   rw [FN (by simp)]
   rfl)
  (fun m i _ hi _=>.inr ⟨(),by
   have e:w64 ((i:Int)+1)=((i+1:Nat):Int):=by rw [w64_id (by omega) (by omega)];rfl
   have hg:r.l.getD i 0=r.l[i]'(by omega):=getD_at (by omega) 0
   have hx:R32 (r.l.getD i 0):=Yk hrl i
   rw [Ij]
   simp only [Xn,e,Int.toNat_natCast,Z8 hx,Option.bind_some,hl]
   rw [TB (by simp;omega),TB (by rfl),TB (by simp;omega),TB (by rw [ofBytes_size,ofBytes_size,Df];simp [four];omega)]
   congr 2
   apply Nc
   rw [Xe,WY (hby i),WY (hby (i+1)),WY (Uo hx),take_at (by omega),F8,hg]
   simp [SN],trivial,rfl⟩)
 rw [Jj,Kv,hl,TB (by rfl)]
 exact key gas 0 () (Nat.zero_le _) (gas_lt (by omega)) trivial
theorem GAH:Qn=some XY.l:=rfl
theorem HAH {s:ByteArray} (hs:s.size≤1000000000):Lj s=some (SY s):=by
 have h1:=Vo s.size
 have hsz:(s++ofBytes (CV s.size)).size=s.size+(CV s.size).length:=by rw [ByteArray.size_append,ofBytes_size]
 rw [Lj,Ov,GAH,Option.bind_some,FAG (n:=s.size) (by omega),Option.bind_some,TB (by rw [ofBytes_size];simp;omega),EAH Cb (by omega),Option.bind_some]
 simp only [Reg.Zk]
 rw [TB (by rfl),TB (by rfl),FAH (Ad Cb _ _),Option.bind_some,hsz,Xe,WY (Ux _),SY,Ed,bs_len]
theorem IAH {b:SBook} {r:SRec} (hb:b.fThings.length≤140737488351232) (hr:r.fNum≤9223372036854775807):Jc b r=some (QX b r):=by
 rw [Jc,Pv,XAF hr,Option.bind_some,ZAF hb,Option.bind_some,QX]
 cases h1:HY b
 ·rfl
 cases h2:(RV r).2
 ·rfl
 by_cases h3:b.fCount≥10000
 ·rw [decide_eq_true h3];rfl
 obtain ⟨b1,b2,b3,b4,b5,b6,b7⟩:=XZ.1 h1
 have hz:=N7 r
 have hw:w64 (b.fCount+1)=b.fCount+1:=w64_id (by omega) (by omega)
 have hdig:=HAH (s:=b.fChain++(RV r).1) (by rw [ByteArray.size_append];omega)
 have hsz:decide (b.fChain.size+(RV r).1.size≤9223372036854775807)=true:=by rw [decide_eq_true_eq];omega
 simp only [decide_eq_false h3,Bool.not_true,Bool.or_self,cond_false,X8 (show b.fThings.length≤2932031007317 by omega),hdig,hsz,hw,Option.bind_some,cond_true]
 rcases Px h2 with ⟨hk,hc⟩ | ⟨hk,hc⟩ | ⟨hk,hc⟩ | ⟨hk,hc⟩
 ·rw [hk];rfl
 ·rw [hk];rfl
 ·rw [hk]
  simp only [show ((3:Int) == 1)=false from rfl,show ((3:Int) == 2)=false from rfl,show ((3:Int) == 3)=true from rfl,cond_true,cond_false]
  rw [BAG h1 (Qc hc).2.2.2.1,Option.bind_some]
  cases Md b r.fThing with
  | none=>rfl
  | some p=>simp only [Bool.not_true,cond_false,hw]
 ·rw [hk]
  simp only [show ((4:Int) == 1)=false from rfl,show ((4:Int) == 2)=false from rfl,show ((4:Int) == 3)=false from rfl,show ((4:Int) == 4)=true from rfl,cond_true,cond_false]
  rw [O7 hb,Option.bind_some]
  rcases Zx (xs:=b.fThings) (id:=r.fNum) with ⟨o,j,t1,t2,t3,t4,t5⟩ | ⟨t1,t2⟩
  ·have hs:=(Yx (x:=⟨r.fNum,0,false,false,false,false,⟨#[]⟩,0⟩) b7 t2).2
   rw [Nat.sub_zero] at hs
   simp only at hs
   rw [t1,t2]
   simp only [Int.toNat_natCast]
   have e:w64 ((j:Int)+1)=((j+1:Nat):Int):=by rw [w64_id (by omega) (by omega)];rfl
   simp only [e,Int.toNat_natCast,List.drop_zero,List.take_length,hs]
   rw [FN (by simp),TB (by simp;omega),TB (by rw [List.length_take,decide_eq_true_eq];omega),TB (by simp;omega),TB (by rw [List.length_take,List.length_drop,decide_eq_true_eq];omega)]
  ·rw [t1,t2];rfl
theorem JAH {b:SBook} {l:List SRec} (hb:b.fThings.length≤2932031007317) (hl:l.length≤140737488351232) (hr:∀ r ∈ l,r.fNum≤9223372036854775807):Pj b l=some (SX b l):=by
 have key:∀ (j i m:Nat) (b:SBook),i+j=l.length→b.fThings.length≤2932031007317→Oj (m+j+1) (.c0 l (l.length:Int) (i:Int) ⟨#[]⟩ 0 0 ⟨#[]⟩ 0 b.fWord b.fTries b.fLast b.fChain b.fCount [] b.fThings)=some (SX b (l.drop i)):=by
  intro j
  induction j with
  | zero=>
   intro i m b h hb
   obtain rfl:i=l.length:=by omega
   rw [Oj]
   simp only [Zn]
   rw [FN (by simp),List.drop_length];rfl
  | succ j ih=>
   intro i m b h hb
   have hi:i<l.length:=by omega
   have e:w64 ((i:Int)+1)=((i+1:Nat):Int):=by rw [w64_id (by omega) (by omega)];rfl
   rw [show m+(j+1)+1=(m+j+1)+1 by omega,Oj]
   simp only [Zn,e,Int.toNat_natCast,getD_at hi]
   rw [TB (by simp;omega),TB (by simp;omega),IAH (by show b.fThings.length≤_;omega) (hr _ (List.getElem_mem hi)),Option.bind_some,drop_at hi,SX]
   cases h2:(QX b l[i]).2
   ·rfl
   ·have h3:=Yo h2
    rw [FN (by rfl),cond_true]
    exact ih (i+1) m (QX b l[i]).1 (by omega) (by omega)
 obtain ⟨m,hm⟩:∃ m,gas=m+l.length+1:=⟨gas - (l.length+1),by have:=gas_lt (n:=l.length+1) (by omega);omega⟩
 rw [Pj,Sv,X8 hb,Option.bind_some,hm]
 exact key l.length 0 m b (by omega) hb
theorem C9 (a:SThing)  : La a a=some true:=by
 simp [La,Tv]
theorem KAH {a:(List SThing)} (h:a.length≤140737488351232):Sj a a=some true:=by
 have h0:a.length≤140737488351232:=h
 have key:∀ m i,i≤a.length→a.length - i<m→Qe m (.c0 a a i)=some true:=fun m i h1 h2=>
  loopN (A:=Unit) (n:=a.length) (Lp:=Qe) (st:=fun i _=>.c0 a a i) (Inv:=fun _ _=>True) (out:=fun _ _=>some true)
   (fun m _ _=>by simp [Qe,Bo])
   (fun m i _ hi _=>.inr ⟨(),by
    have hw:w64 ((i:Int)+1)=((i+1:Nat):Int):=by rw [w64_id (by omega) (by omega)];rfl
    simp only [Qe,Bo,Int.toNat_natCast,hw,C9 _,getD_at hi,Option.bind_some]
    simp [hi],trivial,rfl⟩) m i () h1 h2 trivial
 have h0:=key gas 0 (Nat.zero_le _) (gas_lt (by omega))
 unfold Sj Yv
 simp only [bne_self_eq_false,cond_false]
 exact h0
theorem D9 {a:SBook} (h:a.fThings.length≤140737488351232):Tj a a=some true:=by
 simp [Tj,Aw,KAH h]
theorem LAH (a:SRec)  : Lc a a=some true:=by
 simp [Lc,Dw,C9 _]
theorem MAH {a:(List SRec)} (h:a.length≤140737488351232):Vj a a=some true:=by
 have h0:a.length≤140737488351232:=h
 have key:∀ m i,i≤a.length→a.length - i<m→Ue m (.c0 a a i)=some true:=fun m i h1 h2=>
  loopN (A:=Unit) (n:=a.length) (Lp:=Ue) (st:=fun i _=>.c0 a a i) (Inv:=fun _ _=>True) (out:=fun _ _=>some true)
   (fun m _ _=>by simp [Ue,Ho])
   (fun m i _ hi _=>.inr ⟨(),by
    have hw:w64 ((i:Int)+1)=((i+1:Nat):Int):=by rw [w64_id (by omega) (by omega)];rfl
    simp only [Ue,Ho,Int.toNat_natCast,hw,LAH _,getD_at hi,Option.bind_some]
    simp [hi],trivial,rfl⟩) m i () h1 h2 trivial
 have h0:=key gas 0 (Nat.zero_le _) (gas_lt (by omega))
 unfold Vj Gw
 simp only [bne_self_eq_false,cond_false]
 exact h0
theorem NAH:∀ (j:Nat) (k:Int) (m:Nat) (out:ByteArray),0≤k→k≤9223372036854775807→k<10 ^ j→out.size+j≤1000→∃ s,Xj (m+j+1) (.c0 k out)=some s:=by
 intro j
 induction j with
 | zero=>
  intro k m out hk _ hk2 ho
  have:k=0:=by rw [Int.pow_zero] at hk2;omega
  subst this
  rw [Xj]
  simp only [Io]
  have h9:(⟨#[109]⟩:ByteArray).size=1:=rfl
  rw [FN (by simp),TB (by rw [h9,decide_eq_true_eq];omega)]
  exact ⟨_,rfl⟩
 | succ j ih=>
  intro k m out hk h64 hk2 ho
  rw [show m+(j+1)+1=(m+j+1)+1 by omega,Xj]
  simp only [Io]
  by_cases h:0<k
  ·have e1:w64 (k.tdiv 10)=k / 10:=by rw [Int.tdiv_eq_ediv_of_nonneg hk,w64_id (by omega) (by omega)]
   have h3:k / 10<10 ^ j:=Int.ediv_lt_of_lt_mul (by omega) (by rw [←Int.pow_succ];exact hk2)
   rw [TB (by simp;omega),TB (by rw [ofBytes_size,decide_eq_true_eq,List.length_singleton];omega),e1]
   exact ih _ m _ (by omega) (by omega) h3 (by rw [ByteArray.size_append,ofBytes_size,List.length_singleton];omega)
  ·have:k=0:=by omega
   subst this
   have h9:(⟨#[109]⟩:ByteArray).size=1:=rfl
   rw [FN (by simp),TB (by rw [h9,decide_eq_true_eq];omega)]
   exact ⟨_,rfl⟩
noncomputable def markT (k:Int):ByteArray:=(EY k).getD ⟨#[]⟩
theorem Dp {k:Int} (h:k≤1000000000000000000):EY k=some (markT k):=by
 have:∃ s,EY k=some s:=by
  rw [EY,Hw]
  by_cases hk:k≤0
  ·rw [TB (by simp;omega)];exact ⟨_,rfl⟩
  ·rw [FN (by simp;omega)]
   obtain ⟨m,hm⟩:∃ m,gas=m+19+1:=⟨gas - 20,by have:=gas_lt (n:=20) (by omega);omega⟩
   rw [hm]
   exact NAH 19 k m _ (by omega) (by omega) (by (have:(10:Int) ^ 19=10000000000000000000:=by decide);omega) (by show 0+19≤1000;omega)
 obtain ⟨s,hs⟩:=this
 rw [markT,hs];rfl
noncomputable def Gf (k:Int):SThing:=⟨k,k+1,((k+1+1).tmod 3 == 0),((k+1+1+1).tmod 3 == 0),((k+1+1+1+1).tmod 3 == 0),((k+1+1+1+1+1).tmod 3 == 0),markT (k+1+1+1+1+1+1),k+1+1+1+1+1+1+1⟩
noncomputable def OY (k:Int):Nat→List SThing
 | 0=>[]
 | n+1=>Gf k::OY (k+1+1+1+1+1+1+1+1) n
theorem OAH (n:Nat):∀ k,(OY k n).length=n:=by
 induction n with
 | zero=>intro k;rfl
 | succ n ih=>intro k;rw [OY,List.length_cons,ih]
theorem PAH {a:List SThing} {k:Int} {i m:Nat} (hi:i<a.length) (hk:0<k) (hk2:k≤100000000000000000) (hl:a.length≤100000000000000000) :
  PY (m+8) (.c0 k (i:Int) a)=PY m (.c0 (k+1+1+1+1+1+1+1+1) ((i+1:Nat):Int) (a.set i (Gf k))):=by
 have hwi:w64 ((i:Int)+1)=((i+1:Nat):Int):=by rw [w64_id (by omega) (by omega)];rfl
 have hlt:decide ((i:Int)<(a.length:Int))=true:=decide_eq_true (by omega)
 have hle:decide ((0:Int)≤(i:Int))=true:=decide_eq_true (by omega)
 have hw1:w64 (k+1)=k+1:=w64_id (by omega) (by omega)
 have hw2:w64 (k+1+1)=k+1+1:=w64_id (by omega) (by omega)
 have hw3:w64 (k+1+1+1)=k+1+1+1:=w64_id (by omega) (by omega)
 have hw4:w64 (k+1+1+1+1)=k+1+1+1+1:=w64_id (by omega) (by omega)
 have hw5:w64 (k+1+1+1+1+1)=k+1+1+1+1+1:=w64_id (by omega) (by omega)
 have hw6:w64 (k+1+1+1+1+1+1)=k+1+1+1+1+1+1:=w64_id (by omega) (by omega)
 have hw7:w64 (k+1+1+1+1+1+1+1)=k+1+1+1+1+1+1+1:=w64_id (by omega) (by omega)
 have hw8:w64 (k+1+1+1+1+1+1+1+1)=k+1+1+1+1+1+1+1+1:=w64_id (by omega) (by omega)
 have hm6:=Dp (k:=k+1+1+1+1+1+1) (by omega)
 rw [show m+8=m+1+1+1+1+1+1+1+1 from rfl]
 rw [PY]
 simp only [IZ,Int.toNat_natCast,List.length_set,VX hi,List.set_set,hwi,hw1,hw2,hw3,hw4,hw5,hw6,hw7,hw8,hm6,Option.bind_some,hlt,hle,Bool.and_self,cond_true]
 rw [PY]
 simp only [IZ,Int.toNat_natCast,List.length_set,VX hi,List.set_set,hwi,hw1,hw2,hw3,hw4,hw5,hw6,hw7,hw8,hm6,Option.bind_some,hlt,hle,Bool.and_self,cond_true]
 rw [PY]
 simp only [IZ,Int.toNat_natCast,List.length_set,VX hi,List.set_set,hwi,hw1,hw2,hw3,hw4,hw5,hw6,hw7,hw8,hm6,Option.bind_some,hlt,hle,Bool.and_self,cond_true]
 rw [PY]
 simp only [IZ,Int.toNat_natCast,List.length_set,VX hi,List.set_set,hwi,hw1,hw2,hw3,hw4,hw5,hw6,hw7,hw8,hm6,Option.bind_some,hlt,hle,Bool.and_self,cond_true]
 rw [PY]
 simp only [IZ,Int.toNat_natCast,List.length_set,VX hi,List.set_set,hwi,hw1,hw2,hw3,hw4,hw5,hw6,hw7,hw8,hm6,Option.bind_some,hlt,hle,Bool.and_self,cond_true]
 rw [PY]
 simp only [IZ,Int.toNat_natCast,List.length_set,VX hi,List.set_set,hwi,hw1,hw2,hw3,hw4,hw5,hw6,hw7,hw8,hm6,Option.bind_some,hlt,hle,Bool.and_self,cond_true]
 rw [PY]
 simp only [IZ,Int.toNat_natCast,List.length_set,VX hi,List.set_set,hwi,hw1,hw2,hw3,hw4,hw5,hw6,hw7,hw8,hm6,Option.bind_some,hlt,hle,Bool.and_self,cond_true]
 rw [PY]
 simp only [IZ,Int.toNat_natCast,List.length_set,VX hi,List.set_set,hwi,hw1,hw2,hw3,hw4,hw5,hw6,hw7,hw8,hm6,Option.bind_some,hlt,hle,Bool.and_self,cond_true]
 rfl
theorem QAH {a:List SThing} {k:Int} (hk:0<k) (hb:k+8*a.length≤100000000000000000):Zj a k=some (k+8*a.length,OY k a.length):=by
 have key:∀ (j i m:Nat) (k:Int) (b d:List SThing),i+j=a.length→d.length=i→b.length=j→0<k→k+8*j≤100000000000000000→PY (m+8*j+1) (.c0 k (i:Int) (d++b))=some (k+8*j,d++OY k j):=by
  intro j
  induction j with
  | zero=>
   intro i m k b d h1 h2 h3 h4 h5
   have hb0:b=[]:=List.length_eq_zero_iff.1 h3
   subst hb0
   rw [PY]
   simp only [IZ,List.append_nil,h2,OY]
   rw [FN (by simp)]
   simp
  | succ j ih=>
   intro i m k b d h1 h2 h3 h4 h5
   obtain ⟨x,b,rfl⟩:∃ x c,b=x::c:=by cases b with
    | nil=>cases h3
    | cons x c=>exact ⟨x,c,rfl⟩
   rw [List.length_cons] at h3
   have hlen:(d++x::b).length=a.length:=by rw [List.length_append,List.length_cons];omega
   rw [show m+8*(j+1)+1=(m+8*j+1)+8 by omega,PAH (by omega) h4 (by omega) (by omega),Rk h2]
   have h6:=ih (i+1) m (k+1+1+1+1+1+1+1+1) b (d++[Gf k]) (by omega) (by rw [List.length_append,List.length_singleton];omega) (by omega) (by omega) (by omega)
   rw [List.append_assoc,List.append_assoc,List.singleton_append,List.singleton_append] at h6
   rw [h6,OY]
   congr 2
   omega
 obtain ⟨m,hm⟩:∃ m,gas=m+8*a.length+1:=⟨gas - (8*a.length+1),by have:=gas_lt (n:=8*a.length+1) (by omega);omega⟩
 rw [Zj,Kw,hm]
 exact key a.length 0 m k a [] (by omega) rfl rfl hk hb
theorem F9 {a:SBook} {k:Int} (hk:0<k) (hb:k+8*a.fThings.length≤100000000000000000):Ak a k=some (k+8*a.fThings.length,OY k a.fThings.length):=by
 rw [Ak,Qw,QAH hk hb];rfl
noncomputable def Hy (k:Int):SRec:=⟨k,markT (k+1),k+1+1,⟨k+1+1+1,k+1+1+1+1,((k+1+1+1+1+1).tmod 3 == 0),((k+1+1+1+1+1+1).tmod 3 == 0),((k+1+1+1+1+1+1+1).tmod 3 == 0),((k+1+1+1+1+1+1+1+1).tmod 3 == 0),markT (k+1+1+1+1+1+1+1+1+1),k+1+1+1+1+1+1+1+1+1+1⟩⟩
noncomputable def Qd (k:Int):Nat→List SRec
 | 0=>[]
 | n+1=>Hy k::Qd (k+1+1+1+1+1+1+1+1+1+1+1) n
theorem LAI (n:Nat):∀ k,(Qd k n).length=n:=by
 induction n with
 | zero=>intro k;rfl
 | succ n ih=>intro k;rw [Qd,List.length_cons,ih]
theorem RAH {a:List SRec} {k:Int} {i m:Nat} (hi:i<a.length) (hk:0<k) (hk2:k≤100000000000000000) (hl:a.length≤100000000000000000) :
  FY (m+11) (.c0 k (i:Int) a)=FY m (.c0 (k+1+1+1+1+1+1+1+1+1+1+1) ((i+1:Nat):Int) (a.set i (Hy k))):=by
 have hwi:w64 ((i:Int)+1)=((i+1:Nat):Int):=by rw [w64_id (by omega) (by omega)];rfl
 have hlt:decide ((i:Int)<(a.length:Int))=true:=decide_eq_true (by omega)
 have hle:decide ((0:Int)≤(i:Int))=true:=decide_eq_true (by omega)
 have hw1:w64 (k+1)=k+1:=w64_id (by omega) (by omega)
 have hw2:w64 (k+1+1)=k+1+1:=w64_id (by omega) (by omega)
 have hw3:w64 (k+1+1+1)=k+1+1+1:=w64_id (by omega) (by omega)
 have hw4:w64 (k+1+1+1+1)=k+1+1+1+1:=w64_id (by omega) (by omega)
 have hw5:w64 (k+1+1+1+1+1)=k+1+1+1+1+1:=w64_id (by omega) (by omega)
 have hw6:w64 (k+1+1+1+1+1+1)=k+1+1+1+1+1+1:=w64_id (by omega) (by omega)
 have hw7:w64 (k+1+1+1+1+1+1+1)=k+1+1+1+1+1+1+1:=w64_id (by omega) (by omega)
 have hw8:w64 (k+1+1+1+1+1+1+1+1)=k+1+1+1+1+1+1+1+1:=w64_id (by omega) (by omega)
 have hw9:w64 (k+1+1+1+1+1+1+1+1+1)=k+1+1+1+1+1+1+1+1+1:=w64_id (by omega) (by omega)
 have hw10:w64 (k+1+1+1+1+1+1+1+1+1+1)=k+1+1+1+1+1+1+1+1+1+1:=w64_id (by omega) (by omega)
 have hw11:w64 (k+1+1+1+1+1+1+1+1+1+1+1)=k+1+1+1+1+1+1+1+1+1+1+1:=w64_id (by omega) (by omega)
 have hm1:=Dp (k:=k+1) (by omega)
 have hm9:=Dp (k:=k+1+1+1+1+1+1+1+1+1) (by omega)
 rw [show m+11=m+1+1+1+1+1+1+1+1+1+1+1 from rfl]
 rw [FY]
 simp only [QY,Int.toNat_natCast,List.length_set,VX hi,List.set_set,hwi,hw1,hw2,hw3,hw4,hw5,hw6,hw7,hw8,hw9,hw10,hw11,hm1,hm9,Option.bind_some,hlt,hle,Bool.and_self,cond_true]
 rw [FY]
 simp only [QY,Int.toNat_natCast,List.length_set,VX hi,List.set_set,hwi,hw1,hw2,hw3,hw4,hw5,hw6,hw7,hw8,hw9,hw10,hw11,hm1,hm9,Option.bind_some,hlt,hle,Bool.and_self,cond_true]
 rw [FY]
 simp only [QY,Int.toNat_natCast,List.length_set,VX hi,List.set_set,hwi,hw1,hw2,hw3,hw4,hw5,hw6,hw7,hw8,hw9,hw10,hw11,hm1,hm9,Option.bind_some,hlt,hle,Bool.and_self,cond_true]
 rw [FY]
 simp only [QY,Int.toNat_natCast,List.length_set,VX hi,List.set_set,hwi,hw1,hw2,hw3,hw4,hw5,hw6,hw7,hw8,hw9,hw10,hw11,hm1,hm9,Option.bind_some,hlt,hle,Bool.and_self,cond_true]
 rw [FY]
 simp only [QY,Int.toNat_natCast,List.length_set,VX hi,List.set_set,hwi,hw1,hw2,hw3,hw4,hw5,hw6,hw7,hw8,hw9,hw10,hw11,hm1,hm9,Option.bind_some,hlt,hle,Bool.and_self,cond_true]
 rw [FY]
 simp only [QY,Int.toNat_natCast,List.length_set,VX hi,List.set_set,hwi,hw1,hw2,hw3,hw4,hw5,hw6,hw7,hw8,hw9,hw10,hw11,hm1,hm9,Option.bind_some,hlt,hle,Bool.and_self,cond_true]
 rw [FY]
 simp only [QY,Int.toNat_natCast,List.length_set,VX hi,List.set_set,hwi,hw1,hw2,hw3,hw4,hw5,hw6,hw7,hw8,hw9,hw10,hw11,hm1,hm9,Option.bind_some,hlt,hle,Bool.and_self,cond_true]
 rw [FY]
 simp only [QY,Int.toNat_natCast,List.length_set,VX hi,List.set_set,hwi,hw1,hw2,hw3,hw4,hw5,hw6,hw7,hw8,hw9,hw10,hw11,hm1,hm9,Option.bind_some,hlt,hle,Bool.and_self,cond_true]
 rw [FY]
 simp only [QY,Int.toNat_natCast,List.length_set,VX hi,List.set_set,hwi,hw1,hw2,hw3,hw4,hw5,hw6,hw7,hw8,hw9,hw10,hw11,hm1,hm9,Option.bind_some,hlt,hle,Bool.and_self,cond_true]
 rw [FY]
 simp only [QY,Int.toNat_natCast,List.length_set,VX hi,List.set_set,hwi,hw1,hw2,hw3,hw4,hw5,hw6,hw7,hw8,hw9,hw10,hw11,hm1,hm9,Option.bind_some,hlt,hle,Bool.and_self,cond_true]
 rw [FY]
 simp only [QY,Int.toNat_natCast,List.length_set,VX hi,List.set_set,hwi,hw1,hw2,hw3,hw4,hw5,hw6,hw7,hw8,hw9,hw10,hw11,hm1,hm9,Option.bind_some,hlt,hle,Bool.and_self,cond_true]
 rfl
theorem SAH {a:List SRec} {k:Int} (hk:0<k) (hb:k+11*a.length≤100000000000000000):Ik a k=some (k+11*a.length,Qd k a.length):=by
 have key:∀ (j i m:Nat) (k:Int) (b d:List SRec),i+j=a.length→d.length=i→b.length=j→0<k→k+11*j≤100000000000000000→FY (m+11*j+1) (.c0 k (i:Int) (d++b))=some (k+11*j,d++Qd k j):=by
  intro j
  induction j with
  | zero=>
   intro i m k b d h1 h2 h3 h4 h5
   have hb0:b=[]:=List.length_eq_zero_iff.1 h3
   subst hb0
   rw [FY]
   simp only [QY,List.append_nil,h2,Qd]
   rw [FN (by simp)]
   simp
  | succ j ih=>
   intro i m k b d h1 h2 h3 h4 h5
   obtain ⟨x,b,rfl⟩:∃ x c,b=x::c:=by cases b with
    | nil=>cases h3
    | cons x c=>exact ⟨x,c,rfl⟩
   rw [List.length_cons] at h3
   have hlen:(d++x::b).length=a.length:=by rw [List.length_append,List.length_cons];omega
   rw [show m+11*(j+1)+1=(m+11*j+1)+11 by omega,RAH (by omega) h4 (by omega) (by omega),Rk h2]
   have h6:=ih (i+1) m (k+1+1+1+1+1+1+1+1+1+1+1) b (d++[Hy k]) (by omega) (by rw [List.length_append,List.length_singleton];omega) (by omega) (by omega) (by omega)
   rw [List.append_assoc,List.append_assoc,List.singleton_append,List.singleton_append] at h6
   rw [h6,Qd]
   congr 2
   omega
 obtain ⟨m,hm⟩:∃ m,gas=m+11*a.length+1:=⟨gas - (11*a.length+1),by have:=gas_lt (n:=11*a.length+1) (by omega);omega⟩
 rw [Ik,Uw,hm]
 exact key a.length 0 m k a [] (by omega) rfl rfl hk hb
theorem TAH {a:List SThing} {k:Int} {i m:Nat} (hi:i<a.length) (hg:∀ z,a.getD i z=Gf k) (hk:0<k) (hk2:k≤100000000000000000) (hl:a.length≤100000000000000000) :
  Mc (m+1) (.c0 a k (i:Int))=Mc m (.c0 a (k+1+1+1+1+1+1+1+1) ((i+1:Nat):Int)):=by
 have hwi:w64 ((i:Int)+1)=((i+1:Nat):Int):=by rw [w64_id (by omega) (by omega)];rfl
 have hlt:decide ((i:Int)<(a.length:Int))=true:=decide_eq_true (by omega)
 have hle:decide ((0:Int)≤(i:Int))=true:=decide_eq_true (by omega)
 have hw1:w64 (k+1)=k+1:=w64_id (by omega) (by omega)
 have hw2:w64 (k+1+1)=k+1+1:=w64_id (by omega) (by omega)
 have hw3:w64 (k+1+1+1)=k+1+1+1:=w64_id (by omega) (by omega)
 have hw4:w64 (k+1+1+1+1)=k+1+1+1+1:=w64_id (by omega) (by omega)
 have hw5:w64 (k+1+1+1+1+1)=k+1+1+1+1+1:=w64_id (by omega) (by omega)
 have hw6:w64 (k+1+1+1+1+1+1)=k+1+1+1+1+1+1:=w64_id (by omega) (by omega)
 have hw7:w64 (k+1+1+1+1+1+1+1)=k+1+1+1+1+1+1+1:=w64_id (by omega) (by omega)
 have hw8:w64 (k+1+1+1+1+1+1+1+1)=k+1+1+1+1+1+1+1+1:=w64_id (by omega) (by omega)
 have hm6:=Dp (k:=k+1+1+1+1+1+1) (by omega)
 rw [Mc]
 simp only [Jo,Int.toNat_natCast,hwi,hw1,hw2,hw3,hw4,hw5,hw6,hw7,hw8,hm6,Option.bind_some,hlt,hle,Bool.and_self,cond_true,hg,Gf,bne_self_eq_false,cond_false,toList_self,beq_self_eq_true,Bool.not_true]
theorem UAH:∀ (n:Nat) (k:Int) (i:Nat),i<n→∀ z,(OY k n).getD i z=Gf (k+8*i):=by
 intro n
 induction n with
 | zero=>intro k i h;omega
 | succ n ih=>
  intro k i h z
  cases i with
  | zero=>rw [OY,show k+8*((0:Nat):Int)=k by omega];rfl
  | succ i=>
   have h2:=ih (k+1+1+1+1+1+1+1+1) i (by omega) z
   rw [show k+1+1+1+1+1+1+1+1+8*(i:Int)=k+8*((i+1:Nat):Int) by omega] at h2
   rw [←h2,OY];rfl
theorem VAH {n:Nat} {k:Int} (hk:0<k) (hb:k+8*n≤100000000000000000):Nk (OY k n) k=some (k+8*n):=by
 have hl:=OAH n k
 have key:∀ (j i m:Nat),i+j=n→Mc (m+j+1) (.c0 (OY k n) (k+8*i) (i:Int))=some (k+8*n):=by
  intro j
  induction j with
  | zero=>
   intro i m h1
   obtain rfl:i=n:=by omega
   rw [Mc]
   simp only [Jo,hl]
   rw [FN (by simp)]
  | succ j ih=>
   intro i m h1
   rw [show m+(j+1)+1=(m+j+1)+1 by omega,TAH (by omega) (UAH n k i (by omega)) (by omega) (by omega) (by omega)]
   have h2:=ih (i+1) m (by omega)
   rw [show k+8*((i+1:Nat):Int)=k+8*(i:Int)+1+1+1+1+1+1+1+1 by omega] at h2
   exact h2
 obtain ⟨m,hm⟩:∃ m,gas=m+n+1:=⟨gas - (n+1),by have:=gas_lt (n:=n+1) (by omega);omega⟩
 have h0:=key n 0 m (by omega)
 rw [show k+8*((0:Nat):Int)=k by omega] at h0
 rw [Nk,Xw,hm]
 exact h0
theorem WAH {a:SBook} {n:Nat} {k:Int} (h:a.fThings=OY k n) (hk:0<k) (hb:k+8*n≤100000000000000000):Qk a k=some (k+8*n):=by
 rw [Qk,Zw,h,VAH hk hb,Option.bind_some,FN (by simp;omega)]
theorem MAI (b:SBook) (r:SRec):(QX b r).1.fThings.length≤8:=by
 cases h:(QX b r).2
 ·have:(QX b r).1=Bl:=by
   rw [QX] at h ⊢
   cases hc:(!(HY b) || (!(RV r).2 || decide (b.fCount≥10000)))
   ·rw [hc] at h
    simp only [cond_false] at h ⊢
    cases h1:r.fKind == 1
    ·rw [h1] at h
     simp only [cond_false] at h ⊢
     cases h2:r.fKind == 2
     ·rw [h2] at h
      simp only [cond_false] at h ⊢
      cases h3:r.fKind == 3
      ·rw [h3] at h
       simp only [cond_false] at h ⊢
       cases ht:YX b.fThings r.fNum with
       | none=>rfl
       | some x=>rw [ht] at h;cases h
      ·rw [h3] at h
       simp only [cond_true] at h ⊢
       cases ht:Md b r.fThing with
       | none=>rfl
       | some x=>rw [ht] at h;cases h
     ·rw [h2] at h;cases h
    ·rw [h1] at h;cases h
   ·rfl
  rw [this];exact Nat.zero_le _
 ·exact Yo h
theorem XAH {b:SBook} {l:List SRec} (h:b.fThings.length≤2932031007317):(SX b l).1.fThings.length≤2932031007317:=by
 induction l generalizing b with
 | nil=>exact h
 | cons r rs ih=>
  rw [SX]
  cases h3:(QX b r).2
  ·exact Nat.zero_le _
  ·have:=Yo h3
   exact ih (by omega)
theorem law_FnExactEnterAll (x0:SBook) (x1:List SRec) (g0:GSBook x0) (g1:(GList 80 GSRec) x1):laws_FnExactEnterAll x0 x1=some true:=by
 obtain ⟨r,hr⟩:=GAD g0 1048576
 obtain ⟨s,hs⟩:=JAD g1 r
 have hl:x0.fThings.length*48≤140737488351232:=g0.2.2.1.1
 have hl1:=g1.1
 have hl2:=XAH (b:=x0) (l:=x1) (by omega)
 have hE:=JAH (b:=x0) (l:=x1) (by omega) (by omega) (fun r hr=>(gint (g1.2 r hr).2.2.1).2)
 have hS:=UAF (b:=x0) (l:=x1) (by omega) (by omega)
 have m0:=F9 (a:=x0) (k:=1) (by omega) (by omega)
 have m1:=F9 (a:=(SX x0 x1).1) (k:=1) (by omega) (by omega)
 have m2:=SAH (a:=x1) (k:=1+8*x0.fThings.length) (by omega) (by omega)
 have h1:=WAH (a:=⟨(SX x0 x1).1.fWord,(SX x0 x1).1.fTries,OY 1 (SX x0 x1).1.fThings.length,(SX x0 x1).1.fLast,(SX x0 x1).1.fChain,(SX x0 x1).1.fCount⟩) rfl (k:=1) (by omega) (by omega)
 have d0:decide ((1:Int)+8*(x0.fThings.length:Int)+11*(x1.length:Int)<0)=false:=by rw [decide_eq_false_iff_not];omega
 have d1:decide ((1:Int)+8*((SX x0 x1).1.fThings.length:Int)<0)=false:=by rw [decide_eq_false_iff_not];omega
 simp only [laws_FnExactEnterAll,Dx,hr,hs,Option.bind_some,LAD g0,NAD g1,hE,hS,D9 (show x0.fThings.length≤140737488351232 by omega),D9 (show (SX x0 x1).1.fThings.length≤140737488351232 by omega),MAH (show x1.length≤140737488351232 by omega),m0,m1,m2,h1,d0,d1,beq_self_eq_true,Bool.not_true,cond_false,bne_self_eq_false]
 cases decide (r<0) <;> cases decide (s<0) <;> rfl
end Go.Proofs.YthfpmhalgimbbaaDoor.G
