/- The plain law of FnLocks: whatever the arguments, it answers true. Conditions: what is read is in reach. Part 1 of 1. -/
import Derived.Test.YtjfkbidckphneaaDoorFFnLocks
import Derived.Test.YtjfkbidckphneaaDoorOpens
import Derived.Test.YtjfkbidckphneaaDoorPBase
namespace Go.Proofs.YtjfkbidckphneaaDoor.G
open Go Go.Ev
set_option linter.unusedVariables false
set_option linter.unusedSimpArgs false
set_option linter.unusedSectionVars false
variable [PC]
theorem X9 (u:Unit):Wj u=some (decide ((codeL.length:Int) > 1048576)):=rfl
def bs (s:ByteArray):List Int:=s.data.toList.map fun b=>(b.toNat:Int)
theorem bs_len (s:ByteArray):(bs s).length=s.size:=by unfold bs;rw [List.length_map];rfl
theorem Y9 {s:ByteArray} {n:Int} (h:n ∈ bs s):0≤n∧n≤255:=by
 unfold bs at h;rw [List.mem_map] at h;obtain ⟨b,_,rfl⟩:=h
 have:=b.toNat_lt;omega
theorem RY (a b:ByteArray):bs (a++b)=bs a++bs b:=by simp [bs]
theorem Um (s:ByteArray):ofBytes (bs s)=s:=by
 cases s;simp [ofBytes,bs,Function.comp_def]
theorem FZ {s t:ByteArray} (h:bs s=bs t):s=t:=by rw [←Um s,h,Um]
theorem NM {l:List Int} (h:∀ n,n ∈ l→0≤n∧n≤255):bs (ofBytes l)=l:=by
 simp only [bs,ofBytes,List.map_map]
 conv=>rhs;rw [←List.map_id l]
 apply List.map_congr_left
 intro n hn
 obtain ⟨h1,h2⟩:=h n hn
 simp only [Function.comp,UInt8.toNat_ofNat',id]
 omega
theorem Z9 {s:ByteArray} {i:Nat} (h:i<s.size):bt s (i:Int)=(bs s)[i]'(by rw [bs_len];exact h):=by
 simp only [bt,Int.toNat_natCast,h,dite_true,bs,List.getElem_map]
 rfl
theorem OAD (s:ByteArray) (i:Int):0≤bt s i∧bt s i≤255:=by
 unfold bt;split
 ·have:=(s[i.toNat]).toNat_lt;omega
 ·omega
theorem MZ (s:ByteArray) (i j:Nat):bs (s.extract i j)=((bs s).take j).drop i:=by
 simp only [bs,ByteArray.data_extract,Array.toList_extract,List.extract_eq_take_drop,List.map_take,List.map_drop]
 rw [List.drop_take]
theorem TB {α:Type} {c:Bool} {a b:α} (h:c=true):(bif c then a else b)=a:=by rw [h];rfl
theorem FN {α:Type} {c:Bool} {a b:α} (h:c=false):(bif c then a else b)=b:=by rw [h];rfl
theorem Ob {s:ByteArray} {i:Nat} (h:i<s.size):bt s (i:Int)=(bs s).getD i 0:=by rw [Z9 h,getD_at]
theorem PAD {s:ByteArray} {i:Int} {j:Nat} (e:i=(j:Int)) (h:j<s.size):bt s i=(bs s).getD j 0:=by rw [e,Ob h]
theorem Nj {α:Type} {a b:List α} {i:Nat} (h:i<a.length) (d:α):(a++b).getD i d=a.getD i d:=by simp [List.getD,List.getElem?_append_left h]
theorem Gf {α:Type} {a b:List α} {i:Nat} (h:a.length≤i) (d:α):(a++b).getD i d=b.getD (i - a.length) d:=by simp [List.getD,List.getElem?_append_right h]
theorem Ae {α:Type} {a b:List α} {x y:α} {i:Nat} (h:a.length=i):(a++x::b).set i y=a++y::b:=by
 rw [List.set_append_right _ _ (by omega),h,Nat.sub_self];rfl
theorem QAD {a b:Nat} (h:a=b):Nat.beq a b=true:=by subst h;exact Nat.beq_refl _
theorem RAD {P:Int→Prop} (n:Int) (h:0≤n) (k:∀ m:Nat,n=(m:Int)→P (m:Int)):P n:=by
 have:=k n.toNat (by omega)
 rwa [show ((n.toNat:Nat):Int)=n by omega] at this
theorem SAD:bs (⟨#[]⟩:ByteArray)=[]:=rfl
def CV (l:List Int):Prop:=∀ n,n ∈ l→0≤n∧n≤255
theorem EZ {l:List Int} (h:CV l) (i:Nat):0≤l.getD i 0∧l.getD i 0≤255:=by
 by_cases hi:i<l.length
 ·rw [getD_at hi];exact h _ (List.getElem_mem hi)
 ·have:l.getD i 0=0:=by simp [List.getD,List.getElem?_eq_none (Nat.le_of_not_lt hi)]
  omega
theorem Ic (s:ByteArray):CV (bs s):=fun _ h=>Y9 h
theorem Oj (s:ByteArray):bytesOf s=bs s:=rfl
theorem AAA {α:Type} {l:List α} {i:Nat} (h:i<l.length) (y d:α):(l.set i y).getD i d=y:=by simp [List.getD,h]
def Ok {α:Type} (x:Option α) (Q:α→Prop):Prop:=∃ a,x=some a∧Q a
theorem Ok.bind {α β:Type} {x:Option α} {f:α→Option β} {Q:α→Prop} {R:β→Prop} (h:Ok x Q) (k:∀ a,Q a→Ok (f a) R):Ok (x.bind f) R:=by
 obtain ⟨a,rfl,h⟩:=h;exact k a h
theorem Ok.cond {α:Type} {c:Bool} {a b:Option α} {R:α→Prop} (h1:c=true→Ok a R) (h2:c=false→Ok b R):Ok (bif c then a else b) R:=by
 cases c
 ·exact h2 rfl
 ·exact h1 rfl
theorem Ok.chk {α:Type} {c:Bool} {a:Option α} {R:α→Prop} (hc:c=true) (h1:Ok a R):Ok (bif c then a else none) R:=by rw [hc];exact h1
theorem Ok.ret {α:Type} {a:α} {R:α→Prop} (h:R a):Ok (some a) R:=⟨a,rfl,h⟩
theorem Ok.eq {α:Type} {x:Option α} {a:α} (h:x=some a):Ok x (fun b=>b=a):=⟨a,h,rfl⟩
theorem Ok.mono {α:Type} {x:Option α} {Q R:α→Prop} (h:Ok x Q) (k:∀ a,Q a→R a):Ok x R:=by obtain ⟨a,h1,h2⟩:=h;exact ⟨a,h1,k a h2⟩
def PY (c:SL01Cur):Prop:=0≤c.fI
theorem TAD (n:Int) : -9223372036854775808≤w64 n∧w64 n≤9223372036854775807:=by
 simp only [w64,IntKind.wrap,IntKind.signed,IntKind.bits]
 simp
 omega
theorem Vm (n:Int):0≤w64 ((BitVec.toNat (BitVec.ofInt (IntKind.bits IntKind.i64) n &&& BitVec.ofInt (IntKind.bits IntKind.i64) 255):Nat):Int)∧w64 ((BitVec.toNat (BitVec.ofInt (IntKind.bits IntKind.i64) n &&& BitVec.ofInt (IntKind.bits IntKind.i64) 255):Nat):Int)≤255:=by
 have h:(BitVec.ofInt (IntKind.bits IntKind.i64) n &&& BitVec.ofInt (IntKind.bits IntKind.i64) 255).toNat≤255:=by
  rw [BitVec.toNat_and]
  exact Nat.le_trans Nat.and_le_right (by decide)
 rw [w64_id (by omega) (by omega)]
 omega
theorem Iz:Ok (Nc ()) PY:=by
 have hl:codeL.length≤140737488351232:=PC.hl
 have key:∀ (j i m:Nat) (h:Int),i+j=codeL.length→Ok (Xf (m+j+1) (.c0 h (i:Int))) PY:=by
  intro j
  induction j with
  | zero=>
   intro i m h hi
   rw [Xf];simp only [Yj]
   rw [FN (by simp;omega)]
   exact Ok.ret (Int.le_refl 0)
  | succ j ih=>
   intro i m h hi
   have hw:w64 ((i:Int)+1)=((i+1:Nat):Int):=by rw [w64_id (by omega) (by omega)];rfl
   rw [show m+(j+1)+1=(m+j+1)+1 from rfl,Xf]
   simp only [Yj,hw]
   refine Ok.cond (fun _=>Ok.cond (fun _=>?_) fun _=>Ok.ret (Int.le_refl 0)) fun _=>Ok.ret (Int.le_refl 0)
   refine Ok.chk (by simp;omega) (Ok.chk (by rw [Int.toNat_natCast];exact Nat.ble_eq_true_of_le (by omega)) (ih (i+1) m _ (by omega)))
 obtain ⟨m,hm⟩:∃ m,gas=m+codeL.length+1:=⟨gas - (codeL.length+1),by have:=gas_lt (n:=codeL.length+1) (by omega);omega⟩
 rw [Nc,Wn,hm]
 exact key codeL.length 0 m _ (Nat.zero_add _)
theorem Hf {c:SL01Cur} (hc:PY c):Ok (Xa c) fun r=>0≤r.1∧r.1≤255∧PY r.2:=by
 have hl:codeL.length≤140737488351232:=PC.hl
 have hc:0≤c.fI:=hc
 rw [Xa,Xn]
 refine Ok.cond (fun h=>?_) fun h=>Ok.ret ⟨(Vm _).1,(Vm _).2,hc⟩
 rw [decide_eq_true_eq] at h
 refine Ok.chk (by simp;omega) (Ok.chk (Nat.ble_eq_true_of_le (by omega)) (Ok.ret ⟨(Vm _).1,(Vm _).2,?_⟩))
 show 0≤w64 (c.fI+1)
 rw [w64_id (by omega) (by omega)];omega
theorem tmod_lt {a n:Int} (ha:0≤a) (hn:0<n):0≤a.tmod n∧a.tmod n<n:=⟨Int.tmod_nonneg _ ha,Int.tmod_lt_of_pos _ hn⟩
theorem Ia {c:SL01Cur} {n:Int} (hc:PY c):Ok (UY c n) fun r=>(0≤r.1∧(0<n→r.1<n)∧(n≤0→r.1=0))∧PY r.2:=by
 rw [UY,Zn]
 refine Ok.cond (fun h=>?_) fun h=>?_
 ·rw [decide_eq_true_eq] at h
  exact Ok.ret ⟨⟨Int.le_refl 0,fun h2=>h2,fun _=>rfl⟩,hc⟩
 ·rw [decide_eq_false_iff_not] at h
  have hn:(!(n == 0))=true:=by simp;omega
  refine Ok.cond (fun _=>?_) fun _=>?_
  ·refine Ok.bind (Hf hc) fun a ha=>Ok.chk hn (Ok.ret ?_)
   have:=tmod_lt ha.1 (show 0<n by omega)
   exact ⟨⟨this.1,fun _=>this.2,fun h2=>by omega⟩,ha.2.2⟩
  ·refine Ok.bind (Hf hc) fun a ha=>Ok.bind (Hf ha.2.2) fun b hb=>Ok.bind (Hf hb.2.2) fun d hd=>Ok.bind (Hf hd.2.2) fun e he=>Ok.chk hn (Ok.ret ?_)
   obtain ⟨a1,a2,_⟩:=ha
   obtain ⟨b1,b2,_⟩:=hb
   obtain ⟨d1,d2,_⟩:=hd
   obtain ⟨e1,e2,e3⟩:=he
   have hw:w64 (w64 (w64 (w64 (a.1*16777216)+w64 (b.1*65536))+w64 (d.1*256))+e.1)=a.1*16777216+b.1*65536+d.1*256+e.1:=by
    rw [w64_id (n:=a.1*16777216) (by omega) (by omega),w64_id (n:=b.1*65536) (by omega) (by omega),w64_id (n:=d.1*256) (by omega) (by omega),w64_id (n:=a.1*16777216+b.1*65536) (by omega) (by omega),w64_id (n:=a.1*16777216+b.1*65536+d.1*256) (by omega) (by omega),w64_id (by omega) (by omega)]
   have:=tmod_lt (show 0≤a.1*16777216+b.1*65536+d.1*256+e.1 by omega) (show 0<n by omega)
   simp only [hw]
   exact ⟨⟨this.1,fun _=>this.2,fun h2=>by omega⟩,e3⟩
theorem Xm {c:SL01Cur} {n:Int} (hc:PY c) (h0:0≤n):Ok (Za c n) fun r=>(r.1.size:Int)=min n 5000∧PY r.2:=by
 have key:∀ (j i m:Nat) (N:Nat) (a b:Int) (out:List Int),i+j=N→N≤5000→out.length=i→0≤a→Ok (Qe (m+j+1) (.c0 (N:Int) (i:Int) a b out)) fun r=>r.1.size=N∧PY r.2:=by
  intro j
  induction j with
  | zero=>
   intro i m N a b out hi hN ho ha
   rw [Qe];simp only [Zj]
   rw [FN (by simp;omega)]
   exact Ok.ret ⟨by rw [ofBytes_size];omega,ha⟩
  | succ j ih=>
   intro i m N a b out hi hN ho ha
   have hw:w64 ((i:Int)+1)=((i+1:Nat):Int):=by rw [w64_id (by omega) (by omega)];rfl
   rw [show m+(j+1)+1=(m+j+1)+1 from rfl,Qe]
   simp only [Zj,hw]
   rw [TB (by simp;omega)]
   exact Ok.bind (Hf (c:=⟨(),a,b⟩) ha) fun r hr=>Ok.chk (by simp;omega) (ih (i+1) m N _ _ _ (by omega) hN (by simp [ho]) hr.2.2)
 rw [Za,Bo]
 have run:∀ N:Nat,N≤5000→Ok (Qe gas (.c0 (N:Int) 0 c.fI c.fH [])) fun r=>r.1.size=N∧PY r.2:=fun N hN=>by
  obtain ⟨m,hm⟩:∃ m,gas=m+N+1:=⟨gas - (N+1),by have:=gas_lt (n:=N+1) (by omega);omega⟩
  rw [hm]
  exact key N 0 m N _ _ [] (Nat.zero_add _) hN rfl hc
 refine Ok.cond (fun h=>?_) fun h=>?_
 ·rw [decide_eq_true_eq] at h
  exact (run 5000 (Nat.le_refl _)).mono fun r hr=>⟨by omega,hr.2⟩
 ·rw [decide_eq_false_iff_not] at h
  have:=run n.toNat (by omega)
  rw [show ((n.toNat:Nat):Int)=n by omega] at this
  exact this.mono fun r hr=>⟨by omega,hr.2⟩
theorem Eu {c:SL01Cur} {l:List Int} (hc:PY c) (hl:0<l.length):Ok (Cb c l) fun r=>r.1 ∈ l∧PY r.2:=by
 rw [Cb,Io]
 refine Ok.bind (Ia hc) fun a ha=>?_
 have h1:=ha.1.2.1 (by omega)
 refine Ok.chk (by simp;omega) (Ok.ret ⟨?_,ha.2⟩)
 rw [getD_at (by omega)];exact List.getElem_mem _
theorem BAA {n:Nat} {x:Int} (h:n≤1000000000):Xb (n:Int) x=some (ofBytes (List.replicate n x)):=by
 have key:∀ (j i m:Nat),i+j=n→Gg (m+j+1) (.c0 (n:Int) x (i:Int) (List.replicate i x++List.replicate (n - i) 0))=some (ofBytes (List.replicate n x)):=by
  intro j
  induction j with
  | zero=>
   intro i m hi
   obtain rfl:i=n:=by omega
   rw [Gg]
   simp only [Ik]
   rw [FN (by simp),Nat.sub_self,List.replicate_zero,List.append_nil]
  | succ j ih=>
   intro i m hi
   have e:w64 ((i:Int)+1)=((i+1:Nat):Int):=by rw [w64_id (by omega) (by omega)];rfl
   rw [show m+(j+1)+1=(m+j+1)+1 by omega,Gg]
   simp only [Ik,e,Int.toNat_natCast]
   rw [TB (by simp;omega),TB (by simp;omega),show n - i=(n - (i+1))+1 by omega,List.replicate_succ,Ae (by simp)]
   have h2:=ih (i+1) m (by omega)
   rw [List.replicate_succ' (n:=i),List.append_assoc] at h2
   exact h2
 obtain ⟨m,hm⟩:∃ m,gas=m+n+1:=⟨gas - (n+1),by have:=gas_lt (n:=n+1) (by omega);omega⟩
 have h0:=key n 0 m (by omega)
 rw [List.replicate_zero,List.nil_append,Nat.sub_zero] at h0
 rw [Xb,Oo,TB (by simp;omega),hm]
 exact h0
theorem Jz {n x:Int} (h0:0≤n) (h1:n≤1000000000):Ok (Xb n x) fun r=>(r.size:Int)=n:=by
 have h:=BAA (n:=n.toNat) (x:=x) (by omega)
 rw [show ((n.toNat:Nat):Int)=n by omega] at h
 exact ⟨_,h,by show ((ofBytes (List.replicate n.toNat x)).size:Int)=n;rw [ofBytes_size,List.length_replicate];omega⟩
theorem Kz {c:SL01Cur} (hc:PY c):Ok (Tc c) fun r=>r.1.size≤100∧PY r.2:=by
 rw [Tc,Po]
 refine Ok.bind (Ia hc) fun a ha=>Ok.bind (Xm ha.2 ha.1.1) fun s hs=>Ok.bind (Eu hs.2 (Nat.succ_pos _)) fun n hn=>?_
 have h1:=ha.1.2.1 (by omega)
 have h2:0≤n.1∧n.1≤80:=by
  have:=hn.1
  simp only [List.mem_cons,List.not_mem_nil,or_false] at this
  omega
 refine Ok.bind (Jz h2.1 (by omega)) fun t ht=>?_
 have h3:=hs.1
 exact Ok.chk (by rw [decide_eq_true_eq];omega) (Ok.ret ⟨by show (s.1++t).size≤100;rw [ByteArray.size_append];omega,hn.2⟩)
theorem CAA {c:SL01Cur} {n:Int} (hc:PY c):Ok (Hg c n) fun r=>PY r.2:=by
 rw [Hg,Ro]
 exact Ok.bind (Ia hc) fun a ha=>Ok.ret ha.2
theorem DAA {c:SL01Cur} {n:Int} (hc:PY c):Ok (Ig c n) fun r=>PY r.2:=by
 rw [Ig,Vo]
 refine Ok.bind (CAA hc) fun a ha=>Ok.cond (fun _=>?_) fun _=>?_
 ·exact Ok.bind (Eu ha (Nat.succ_pos _)) fun r hr=>Ok.ret hr.2
 ·exact Ok.bind (Ia ha) fun r hr=>Ok.ret hr.2
theorem Nz {c:SL01Cur} (hc:PY c):Ok (Uc c) fun r=>r.1.size≤100∧PY r.2:=by
 rw [Uc,Xo]
 refine Ok.bind (Ia hc) fun a ha=>Ok.bind (Xm ha.2 ha.1.1) fun s hs=>Ok.bind (Eu hs.2 (Nat.succ_pos _)) fun n hn=>?_
 have h1:=ha.1.2.1 (by omega)
 have h2:0≤n.1∧n.1≤40:=by
  have:=hn.1
  simp only [List.mem_cons,List.not_mem_nil,or_false] at this
  omega
 refine Ok.bind (Jz h2.1 (by omega)) fun t ht=>?_
 have h3:=hs.1
 exact Ok.chk (by rw [decide_eq_true_eq];omega) (Ok.ret ⟨by show (s.1++t).size≤100;rw [ByteArray.size_append];omega,hn.2⟩)
theorem EAA:Ok (Jg ()) fun r=>r.1.size≤100∧r.2.2.size≤100:=by
 rw [Jg,Zo]
 exact Ok.bind Iz fun c hc=>Ok.bind (Kz hc) fun k hk=>Ok.bind (DAA hk.2) fun n hn=>Ok.bind (Nz hn) fun s hs=>Ok.ret ⟨hk.1,hs.1⟩
def XY (x a b:Int):Bool:=decide (a≤x) && decide (x≤b)
theorem Jc {x a b:Int}:XY x a b=true↔a≤x∧x≤b:=by simp [XY]
theorem Gu (x a b:Int):Bc x a b=some (XY x a b):=by
 show (bif decide (a≤x) then some (decide (x≤b)) else some false)=some (XY x a b)
 unfold XY;cases decide (a≤x) <;> rfl
theorem Oz (x a b:Int):Yb x a b=some (XY x a b):=by
 show (bif decide (a≤x) then some (decide (x≤b)) else some false)=some (XY x a b)
 unfold XY;cases decide (a≤x) <;> rfl
def IK (n:Int):List Int:=if n > 127 then (128+n % 128)::IK (n / 128) else [w8 n]
termination_by n.toNat
decreasing_by omega
theorem FAA:∀ (k:Nat) (n:Int),n<128 ^ k→(IK n).length≤max k 1:=by
 intro k
 induction k with
 | zero=>intro n h;rw [IK,if_neg (by omega)];simp
 | succ k ih=>
  intro n h
  rw [IK]
  split
  ·rename_i hn
   have h2:n / 128<128 ^ k:=by
    rw [Int.pow_succ] at h
    exact Int.ediv_lt_of_lt_mul (by omega) h
   have:=ih _ h2
   simp only [List.length_cons]
   by_cases hk:k=0
   ·subst hk;simp at h2;try omega
   ·omega
  ·simp;try omega
theorem Jf {n:Int} (h:n≤9223372036854775807):(IK n).length≤10:=by
 have:=FAA 10 n (by (have:(128:Int) ^ 10=1180591620717411303424:=by decide);omega)
 omega
theorem UAD (n:Int):1≤(IK n).length:=by rw [IK];split <;> simp
theorem Pz {n:Int} (h:n > 127) (h2:n≤9223372036854775807):w64 (n.tdiv 128)=n / 128∧w8 (w64 (n.tmod 128+128))=128+n % 128∧w8 (w64 (128+n.tmod 128))=128+n % 128:=by
 have e1:n.tdiv 128=n / 128:=Int.tdiv_eq_ediv_of_nonneg (by omega)
 have e2:n.tmod 128=n % 128:=Int.tmod_eq_emod_of_nonneg (by omega)
 refine ⟨by rw [e1,w64_id (by omega) (by omega)],?_,?_⟩
 ·rw [e2,w64_id (by omega) (by omega),w8_id (by omega) (by omega)];omega
 ·rw [e2,w64_id (by omega) (by omega),w8_id (by omega) (by omega)]
theorem Qz {n:Int} (h:n≤9223372036854775807):Cc n=some (ofBytes (IK n)):=by
 have key:∀ (n:Int) (m:Nat) (out:List Int),n≤9223372036854775807→(IK n).length≤m→out.length+(IK n).length≤1000→Ai m (.c0 n out)=some (ofBytes (out++IK n)):=by
  intro n
  induction n using IK.induct with
  | case1 n hn ih=>
   intro m out h1 h2 h3
   rw [IK,if_pos hn] at h2 h3 ⊢
   simp only [List.length_cons] at h2 h3
   obtain ⟨m,rfl⟩:∃ k,m=k+1:=⟨m - 1,by omega⟩
   obtain ⟨e1,e2,_⟩:=Pz hn h1
   simp only [Ai,Ql,e1,e2]
   rw [show decide (n > 127)=true from decide_eq_true hn,show decide ((out.length+1)*1≤140737488355328)=true from decide_eq_true (by omega)]
   simp only [cond_true]
   rw [ih m _ (by omega) (by omega) (by simp;omega)]
   simp
  | case2 n hn=>
   intro m out h1 h2 h3
   rw [IK,if_neg hn] at h2 h3 ⊢
   simp at h2 h3
   obtain ⟨m,rfl⟩:∃ k,m=k+1:=⟨m - 1,by omega⟩
   simp only [Ai,Ql]
   rw [show decide (n > 127)=false from decide_eq_false hn,show decide ((out.length+1)*1≤140737488355328)=true from decide_eq_true (by omega)]
   rfl
 have hl:=Jf h
 exact key n gas [] h (Nat.le_of_lt (gas_lt (by omega))) (by simp;omega)
theorem Rz {n:Int} (h:n≤9223372036854775807):Ue n=some (ofBytes (IK n)):=by
 have key:∀ (n:Int) (m:Nat) (out:List Int),n≤9223372036854775807→(IK n).length≤m→out.length+(IK n).length≤1000→Qg m (.c0 n out)=some (ofBytes (out++IK n)):=by
  intro n
  induction n using IK.induct with
  | case1 n hn ih=>
   intro m out h1 h2 h3
   rw [IK,if_pos hn] at h2 h3 ⊢
   simp only [List.length_cons] at h2 h3
   obtain ⟨m,rfl⟩:∃ k,m=k+1:=⟨m - 1,by omega⟩
   obtain ⟨e1,_,e2⟩:=Pz hn h1
   simp only [Qg,Rk,e1,e2]
   rw [show decide (n > 127)=true from decide_eq_true hn,show decide ((out.length+1)*1≤140737488355328)=true from decide_eq_true (by omega)]
   simp only [cond_true]
   rw [ih m _ (by omega) (by omega) (by simp;omega)]
   simp
  | case2 n hn=>
   intro m out h1 h2 h3
   rw [IK,if_neg hn] at h2 h3 ⊢
   simp at h2 h3
   obtain ⟨m,rfl⟩:∃ k,m=k+1:=⟨m - 1,by omega⟩
   simp only [Qg,Rk]
   rw [show decide (n > 127)=false from decide_eq_false hn,show decide ((out.length+1)*1≤140737488355328)=true from decide_eq_true (by omega)]
   rfl
 have hl:=Jf h
 exact key n gas [] h (Nat.le_of_lt (gas_lt (by omega))) (by simp;omega)
theorem GAA {n:Int}:Xc n=some (bif XY n 0 1000000000 then (ofBytes (IK n),true) else (⟨#[]⟩,false)):=by
 simp only [Xc,Dp,Oz,Option.bind_some]
 cases h:XY n 0 1000000000
 ·rfl
 ·rw [Jc] at h
  rw [Bool.not_true,cond_false,Rz (by omega),Option.bind_some,cond_true]
theorem HAA {n:Int} (h:0≤n) (h2:n≤255):Yc n=some (ofBytes [n]):=by
 simp only [Yc,Ep,w8_id h h2]
theorem Sz {n:Nat} (h:n≤1000000000):Zb (n:Int)=some (ofBytes (List.replicate n 0)):=by
 simp only [Zb,Gp,Int.toNat_natCast]
 rw [TB (by simp;omega)]
theorem Ce {n:Int}:w32 n=n % 4294967296:=by
 simp only [w32,IntKind.wrap,IntKind.signed,IntKind.bits]
 simp
theorem VZ {n:Int} (h1:0≤n) (h2:n<4294967296):w32 n=n:=by rw [Ce];omega
def R32 (n:Int):Prop:=0≤n∧n<4294967296
theorem BZ (n:Int):R32 (w32 n):=by unfold R32;rw [Ce];omega
theorem VAD {n:Int} (h:0≤n∧n≤255):R32 n:=by unfold R32;omega
def xr (x y:Int):Int:=w32 (((BitVec.toNat ((BitVec.ofInt (IntKind.bits IntKind.u32) x) ^^^ (BitVec.ofInt (IntKind.bits IntKind.u32) y))):Nat):Int)
def an (x y:Int):Int:=w32 (((BitVec.toNat ((BitVec.ofInt (IntKind.bits IntKind.u32) x) &&& (BitVec.ofInt (IntKind.bits IntKind.u32) y))):Nat):Int)
def Pj (x y:Int):Int:=w32 (((BitVec.toNat ((BitVec.ofInt (IntKind.bits IntKind.u32) x) ||| (BitVec.ofInt (IntKind.bits IntKind.u32) y))):Nat):Int)
theorem Ee (x y:Int):w32 (((BitVec.toNat ((BitVec.ofInt (IntKind.bits IntKind.u32) x) ^^^ (BitVec.ofInt (IntKind.bits IntKind.u32) y))):Nat):Int)=xr x y:=rfl
theorem Tz (x y:Int):w32 (((BitVec.toNat ((BitVec.ofInt (IntKind.bits IntKind.u32) x) &&& (BitVec.ofInt (IntKind.bits IntKind.u32) y))):Nat):Int)=an x y:=rfl
theorem Uz (x y:Int):w32 (((BitVec.toNat ((BitVec.ofInt (IntKind.bits IntKind.u32) x) ||| (BitVec.ofInt (IntKind.bits IntKind.u32) y))):Nat):Int)=Pj x y:=rfl
theorem WAD (x y:Int):R32 (xr x y):=BZ _
theorem XAD (x y:Int):R32 (an x y):=BZ _
theorem Vz {a b:Nat} {s:Nat} (hb:b<2 ^ s) (ha:a*2 ^ s<4294967296) (hs:b<4294967296):Pj ((a*2 ^ s:Nat):Int) (b:Int)=((a*2 ^ s+b:Nat):Int):=by
 have e:a*2 ^ s ||| b=a*2 ^ s+b:=by
  have:=Nat.shiftLeft_add_eq_or_of_lt hb a
  rw [Nat.shiftLeft_eq] at this
  exact this.symm
 unfold Pj
 have h3:a*2 ^ s ||| b<2 ^ 32:=Nat.or_lt_two_pow (by omega) (by omega)
 rw [BitVec.toNat_or]
 show w32 (((BitVec.ofInt 32 _).toNat ||| (BitVec.ofInt 32 _).toNat:Nat):Int)=_
 rw [BitVec.ofInt_natCast,BitVec.ofInt_natCast,BitVec.toNat_ofNat,BitVec.toNat_ofNat,Nat.mod_eq_of_lt (by omega),Nat.mod_eq_of_lt (by omega),e]
 rw [e] at h3
 exact VZ (by omega) (by omega)
theorem IAA {e:Int} (h:R32 e):xr (ite ((IntKind.signed IntKind.u32)=true) (-(1:Int)) (IntKind.max IntKind.u32)) e=w32 (4294967295 - e):=by
 obtain ⟨h1,h2⟩:=h
 obtain ⟨n,rfl⟩:∃ n:Nat,e=(n:Int):=⟨e.toNat,by omega⟩
 have hn:n<4294967296:=by omega
 have e1:(ite ((IntKind.signed IntKind.u32)=true) (-(1:Int)) (IntKind.max IntKind.u32))=4294967295:=by decide
 rw [e1]
 unfold xr
 show w32 (((BitVec.ofInt 32 4294967295 ^^^ BitVec.ofInt 32 (n:Int)).toNat:Nat):Int)=_
 have e2:BitVec.ofInt 32 4294967295=BitVec.allOnes 32:=by decide
 rw [e2,BitVec.ofInt_natCast,BitVec.allOnes_xor,BitVec.toNat_not,BitVec.toNat_ofNat]
 rw [Ce,Ce]
 omega
def rt (low high x:Int):Int:=x / low+x % low*high
theorem JAA {low high x:Int} (h:R32 x) (hl:0<low) (hh:0<high) (hlh:low*high=4294967296):R32 (rt low high x):=by
 unfold R32 rt at *
 have h1:0≤x / low:=Int.ediv_nonneg h.1 (by omega)
 have h2:0≤x % low:=Int.emod_nonneg _ (by omega)
 have h3:x % low<low:=Int.emod_lt_of_pos _ hl
 have h4:x / low<high:=Int.ediv_lt_of_lt_mul hl (by rw [Int.mul_comm,hlh];exact h.2)
 have h5:0≤x % low*high:=Int.mul_nonneg h2 (by omega)
 have h6:x % low*high≤(low - 1)*high:=Int.mul_le_mul_of_nonneg_right (by omega) (by omega)
 have h7:(low - 1)*high=low*high - high:=by rw [Int.sub_mul,Int.one_mul]
 omega
theorem KAA {x:Int} (h:R32 x) (n:Nat) (hn:0<n) (hn2:n<32):Pj (w32 (x*2 ^ (32 - n))) (x / 2 ^ n)=rt (2 ^ n) (2 ^ (32 - n)) x:=by
 obtain ⟨h1,h2⟩:=h
 obtain ⟨y,rfl⟩:∃ y:Nat,x=(y:Int):=⟨x.toNat,by omega⟩
 have hy:y<4294967296:=by omega
 have e0:(4294967296:Nat)=2 ^ n*2 ^ (32 - n):=by rw [←Nat.pow_add,show n+(32 - n)=32 by omega]
 have e1:w32 ((y:Int)*2 ^ (32 - n))=((y % 2 ^ n*2 ^ (32 - n):Nat):Int):=by
  rw [Ce]
  have h5:((y:Int)*2 ^ (32 - n))=((y*2 ^ (32 - n):Nat):Int):=by push_cast;rfl
  have h6:y*2 ^ (32 - n) % 4294967296=y % 2 ^ n*2 ^ (32 - n):=by rw [e0,Nat.mul_mod_mul_right]
  rw [h5,←h6]
  omega
 have e2:((y:Int) / 2 ^ n)=((y / 2 ^ n:Nat):Int):=by push_cast;rfl
 have hp:0<2 ^ n:=Nat.two_pow_pos n
 have hp2:0<2 ^ (32 - n):=Nat.two_pow_pos _
 have hm:y % 2 ^ n<2 ^ n:=Nat.mod_lt _ hp
 have hd:y / 2 ^ n<2 ^ (32 - n):=Nat.div_lt_of_lt_mul (by rw [←e0];exact hy)
 rw [e1,e2,Vz hd (by rw [e0];exact Nat.mul_lt_mul_of_pos_right hm hp2) (Nat.lt_of_le_of_lt (Nat.div_le_self _ _) hy)]
 unfold rt
 push_cast
 omega
def Xz (x:Int):Int:=xr (xr (rt 128 33554432 x) (rt 262144 16384 x)) (x / 8)
def sg1 (x:Int):Int:=xr (xr (rt 131072 32768 x) (rt 524288 8192 x)) (x / 1024)
def Yz (x:Int):Int:=xr (xr (rt 64 67108864 x) (rt 2048 2097152 x)) (rt 33554432 128 x)
def Zz (x:Int):Int:=xr (xr (rt 4 1073741824 x) (rt 8192 524288 x)) (rt 4194304 1024 x)
def LAA (w:List Int) (t:Nat):Int:=w32 (w32 (w32 (sg1 (w.getD (t - 2) 0)+w.getD (t - 7) 0)+Xz (w.getD (t - 15) 0))+w.getD (t - 16) 0)
def sched (w:List Int):Nat→List Int
 | 0=>w
 | n+1=>sched w n++[LAA (sched w n) (16+n)]
theorem Qj {w:List Int} (h:w.length=16) (n:Nat):(sched w n).length=16+n:=by
 induction n with
 | zero=>exact h
 | succ n ih=>simp [sched,ih];omega
theorem Ym {w:List Int} (h:∀ x ∈ w,R32 x) (n:Nat):∀ x ∈ sched w n,R32 x:=by
 induction n with
 | zero=>exact h
 | succ n ih=>
  intro x hx
  rw [sched,List.mem_append,List.mem_singleton] at hx
  rcases hx with hx | rfl
  ·exact ih x hx
  ·exact BZ _
theorem Rj {l:List Int} (h:∀ x ∈ l,R32 x) (i:Nat):R32 (l.getD i 0):=by
 by_cases hi:i<l.length
 ·rw [getD_at hi];exact h _ (List.getElem_mem hi)
 ·have:l.getD i 0=0:=by simp [List.getD,List.getElem?_eq_none (Nat.le_of_not_lt hi)]
  rw [this];unfold R32;omega
structure Reg where
 a:Int
 b:Int
 c:Int
 d:Int
 e:Int
 f:Int
 g:Int
 h:Int
def Reg.ok (r:Reg):Prop:=R32 r.a∧R32 r.b∧R32 r.c∧R32 r.d∧R32 r.e∧R32 r.f∧R32 r.g∧R32 r.h
def Reg.l (r:Reg):List Int:=[r.a,r.b,r.c,r.d,r.e,r.f,r.g,r.h]
theorem Reg.Sj (r:Reg):r.l.length=8:=rfl
def t1 (r:Reg) (k w:Int):Int:=w32 (w32 (w32 (w32 (r.h+Yz r.e)+xr (an r.e r.f) (an (w32 (4294967295 - r.e)) r.g))+k)+w)
def t2 (r:Reg):Int:=w32 (Zz r.a+xr (xr (an r.a r.b) (an r.a r.c)) (an r.b r.c))
def WZ (r:Reg) (k w:Int):Reg:=⟨w32 (t1 r k w+t2 r),r.a,r.b,r.c,w32 (r.d+t1 r k w),r.e,r.f,r.g⟩
theorem MAA {r:Reg} (h:r.ok) (k w:Int):(WZ r k w).ok:=⟨BZ _,h.1,h.2.1,h.2.2.1,BZ _,h.2.2.2.2.1,h.2.2.2.2.2.1,h.2.2.2.2.2.2.1⟩
def SY (K W:List Int) (r:Reg):Nat→Reg
 | 0=>r
 | n+1=>WZ (SY K W r n) (K.getD n 0) (W.getD n 0)
theorem O0 (K W:List Int) {r:Reg} (h:r.ok) (n:Nat):(SY K W r n).ok:=by
 induction n with
 | zero=>exact h
 | succ n ih=>exact MAA ih _ _
def Fe (s r:Reg):Reg:=⟨w32 (s.a+r.a),w32 (s.b+r.b),w32 (s.c+r.c),w32 (s.d+r.d),w32 (s.e+r.e),w32 (s.f+r.f),w32 (s.g+r.g),w32 (s.h+r.h)⟩
theorem NAA (s r:Reg):(Fe s r).ok:=⟨BZ _,BZ _,BZ _,BZ _,BZ _,BZ _,BZ _,BZ _⟩
def keysL:List Int:=[1116352408,1899447441,3049323471,3921009573,961987163,1508970993,2453635748,2870763221,3624381080,310598401,607225278,1426881987,1925078388,2162078206,2614888103,3248222580,3835390401,4022224774,264347078,604807628,770255983,1249150122,1555081692,1996064986,2554220882,2821834349,2952996808,3210313671,3336571891,3584528711,113926993,338241895,666307205,773529912,1294757372,1396182291,1695183700,1986661051,2177026350,2456956037,2730485921,2820302411,3259730800,3345764771,3516065817,3600352804,4094571909,275423344,430227734,506948616,659060556,883997877,958139571,1322822218,1537002063,1747873779,1955562222,2024104815,2227730452,2361852424,2428436474,2756734187,3204031479,3329325298]
def be4 (a b c d:Int):Int:=a*16777216+b*65536+c*256+d
def wordAt (l:List Int) (i:Nat):Int:=be4 (l.getD (4*i) 0) (l.getD (4*i+1) 0) (l.getD (4*i+2) 0) (l.getD (4*i+3) 0)
def RV (l:List Int) (n:Nat):List Int:=(List.range n).map (wordAt l)
theorem Qb (l:List Int) (n:Nat):(RV l n).length=n:=by simp [RV]
theorem U0 (l:List Int) (n:Nat):RV l (n+1)=RV l n++[wordAt l n]:=by simp [RV,List.range_succ]
theorem OAA {a b c d:Int} (ha:0≤a∧a≤255) (hb:0≤b∧b≤255) (hc:0≤c∧c≤255) (hd:0≤d∧d≤255):R32 (be4 a b c d):=by unfold R32 be4;omega
theorem PAA {l:List Int} (h:CV l) (i:Nat):R32 (wordAt l i):=OAA (EZ h _) (EZ h _) (EZ h _) (EZ h _)
theorem Hu {l:List Int} (h:CV l) (n:Nat):∀ x ∈ RV l n,R32 x:=by
 intro x hx
 simp only [RV,List.mem_map] at hx
 obtain ⟨i,_,rfl⟩:=hx
 exact PAA h i
def comp (s:Reg) (b:List Int):Reg:=Fe s (SY keysL (sched (RV b 16) 48) s 64)
theorem X0 (s:Reg) (b:List Int):(comp s b).ok:=NAA _ _
def comps:Nat→Reg→List Int→Reg
 | 0,s,_=>s
 | n+1,s,b=>comps n (comp s (b.take 64)) (b.drop 64)
theorem He {s:Reg} (h:s.ok):∀ (n:Nat) (b:List Int),(comps n s b).ok:=by
 intro n
 induction n generalizing s with
 | zero=>intro b;exact h
 | succ n ih=>intro b;exact ih (X0 _ _) _
theorem Y0 (n m:Nat):∀ (s:Reg) (b:List Int),comps (n+m) s b=comps m (comps n s b) (b.drop (64*n)):=by
 induction n with
 | zero=>intro s b;simp [comps]
 | succ n ih=>
  intro s b
  rw [Nat.add_right_comm,comps,comps,ih,List.drop_drop]
  congr 2
  omega
theorem QAA (n:Nat):∀ (s:Reg) (b c:List Int),64*n≤b.length→comps n s (b++c)=comps n s b:=by
 induction n with
 | zero=>intro s b c _;rfl
 | succ n ih=>
  intro s b c h
  rw [comps,comps,List.take_append_of_le_length (by omega),List.drop_append_of_le_length (by omega),ih _ _ _ (by simp;omega)]
def four (x:Int):List Int:=[x / 16777216,x / 65536 % 256,x / 256 % 256,x % 256]
theorem Zm {x:Int} (h:R32 x):CV (four x):=by
 intro n hn
 unfold R32 at h
 simp only [four,List.mem_cons,List.not_mem_nil,or_false] at hn
 rcases hn with rfl | rfl | rfl | rfl <;> omega
def SN (ws:List Int):List Int:=ws.flatMap four
theorem Rf (ws:List Int):(SN ws).length=4*ws.length:=by
 induction ws with
 | nil=>rfl
 | cons w ws ih=>
  rw [show SN (w::ws)=four w++SN ws from rfl,List.length_append,ih]
  simp only [four,List.length_cons,List.length_nil];omega
theorem Iu {ws:List Int} (h:∀ x ∈ ws,R32 x):CV (SN ws):=by
 intro n hn
 simp only [SN,List.mem_flatMap] at hn
 obtain ⟨x,hx,hn⟩:=hn
 exact Zm (h x hx) n hn
theorem O1 (a b:List Int):SN (a++b)=SN a++SN b:=by simp [SN]
theorem RAA {x:Int} (h:R32 x):be4 (x / 16777216) (x / 65536 % 256) (x / 256 % 256) (x % 256)=x:=by unfold R32 at h;unfold be4;omega
theorem U1:∀ {ws:List Int} (_:∀ x ∈ ws,R32 x) {i:Nat} (hi:i<ws.length),wordAt (SN ws) i=ws[i]
 | w::ws,h,0,_=>by
  have:=RAA (h w (List.mem_cons_self ..))
  simpa [wordAt,SN,four] using this
 | w::ws,h,i+1,hi=>by
  have ih:=U1 (ws:=ws) (fun x hx=>h x (List.mem_cons_of_mem _ hx)) (i:=i) (by simpa using hi)
  rw [List.getElem_cons_succ,←ih]
  have e:∀ j,(SN (w::ws)).getD (j+4) 0=(SN ws).getD j 0:=fun j=>by simp [SN,four,List.getD]
  unfold wordAt
  rw [show 4*(i+1)=4*i+4 by omega,show 4*i+4+1=(4*i+1)+4 by omega,show 4*i+4+2=(4*i+2)+4 by omega,show 4*i+4+3=(4*i+3)+4 by omega,e,e,e,e]
theorem SAA {ws:List Int} (h:∀ x ∈ ws,R32 x):RV (SN ws) ws.length=ws:=by
 apply List.ext_getElem
 ·rw [Qb]
 ·intro i h1 h2
  simp only [RV,List.getElem_map,List.getElem_range]
  exact U1 h h2
theorem Reg.Ie {r:Reg} (h:r.ok):∀ x ∈ r.l,R32 x:=by
 intro x hx
 simp only [Reg.l,List.mem_cons,List.not_mem_nil,or_false] at hx
 obtain ⟨h1,h2,h3,h4,h5,h6,h7,h8⟩:=h
 rcases hx with rfl | rfl | rfl | rfl | rfl | rfl | rfl | rfl <;> assumption
def NZ:Reg:=⟨1779033703,3144134277,1013904242,2773480762,1359893119,2600822924,528734635,1541459225⟩
theorem Lc:NZ.ok:=by unfold Reg.ok R32 NZ;decide
def XZ (n:Int):List Int:=[0,0,0,n / 4294967296 % 256,n / 16777216 % 256,n / 65536 % 256,n / 256 % 256,n % 256]
def KY (n:Nat):List Int:=128::(List.replicate ((119 - n % 64) % 64) 0++XZ (8*(n:Int)))
theorem Dn (n:Nat):(KY n).length=9+(119 - n % 64) % 64:=by simp [KY,XZ];omega
theorem TAA (n:Nat):(n+(KY n).length) % 64=0:=by rw [Dn];omega
theorem Ju (n:Nat):CV (KY n):=by
 intro x hx
 simp only [KY,XZ,List.mem_cons,List.mem_append,List.mem_replicate,List.not_mem_nil,or_false] at hx
 omega
def GZ (b:List Int):List Int:=SN (comps ((b.length+(KY b.length).length) / 64) NZ (b++KY b.length)).l
def YZ (s:ByteArray):ByteArray:=ofBytes (GZ (bs s))
theorem Ku (b:List Int):(GZ b).length=32:=by rw [GZ,Rf];rfl
theorem Y1 (b:List Int):CV (GZ b):=Iu (Reg.Ie (He Lc _ _))
theorem Je (s:ByteArray):(YZ s).size=32:=by rw [YZ,ofBytes_size,Ku]
theorem En (s:ByteArray):bs (YZ s)=GZ (bs s):=NM (Y1 _)
theorem U2 {x:Int} (h:R32 x):Eb x=some (ofBytes (four x)):=by
 obtain ⟨h1,h2⟩:=h
 have e1:Int.fdiv x (2 ^ (Min.min (24:Int).toNat (IntKind.bits IntKind.u32)))=x / 16777216:=Int.fdiv_eq_ediv_of_nonneg _ (by decide)
 have e2:Int.fdiv x (2 ^ (Min.min (16:Int).toNat (IntKind.bits IntKind.u32)))=x / 65536:=Int.fdiv_eq_ediv_of_nonneg _ (by decide)
 have e3:Int.fdiv x (2 ^ (Min.min (8:Int).toNat (IntKind.bits IntKind.u32)))=x / 256:=Int.fdiv_eq_ediv_of_nonneg _ (by decide)
 simp only [Eb,Ip,e1,e2,e3,w8_mod,four]
 rw [show x / 16777216 % 256=x / 16777216 by omega]
theorem UAA {n:Nat} (h:n<1099511627776):Vg (n:Int)=some (ofBytes (XZ (n:Int))):=by
 have e1:Int.fdiv (n:Int) (2 ^ (Min.min (32:Int).toNat (IntKind.bits IntKind.i64)))=(n:Int) / 4294967296:=Int.fdiv_eq_ediv_of_nonneg _ (by decide)
 simp only [Vg,Qp,e1,U2 (BZ _),Option.bind_some]
 rw [TB (by rw [ofBytes_size,ofBytes_size];simp [four])]
 congr 1
 apply FZ
 rw [RY,NM (Zm (BZ _)),NM (Zm (BZ _)),NM (fun x hx=>by
  simp only [XZ,List.mem_cons,List.not_mem_nil,or_false] at hx
  omega)]
 simp only [four,XZ,Ce,List.cons_append,List.nil_append,List.cons.injEq,and_true]
 omega
theorem VAA {n:Nat} (h:n≤100000000000):Xg (n:Int)=some (ofBytes (KY n)):=by
 have e1:(w64 (119 - ((n:Int).tmod 64))).tmod 64=(((119 - n % 64) % 64:Nat):Int):=by
  have a:(n:Int).tmod 64=(n:Int) % 64:=Int.tmod_eq_emod_of_nonneg (by omega)
  rw [a,w64_id (by omega) (by omega),Int.tmod_eq_emod_of_nonneg (by omega)]
  omega
 have e2:w64 (8*(n:Int))=((8*n:Nat):Int):=by rw [w64_id (by omega) (by omega)];omega
 have h0:(⟨#[128]⟩:ByteArray).size=1:=rfl
 simp only [Xg,Wp,e1,e2,Sz (n:=(119 - n % 64) % 64) (by omega),UAA (n:=8*n) (by omega),Option.bind_some]
 rw [TB (by rw [ofBytes_size];simp [h0];omega),TB (by rw [ByteArray.size_append,ofBytes_size,ofBytes_size];simp [h0,XZ];omega)]
 congr 1
 apply FZ
 have hb:CV (List.replicate ((119 - n % 64) % 64) (0:Int)):=fun x hx=>by
  have:=List.eq_of_mem_replicate hx;omega
 have hb2:CV (XZ ((8*n:Nat):Int)):=fun x hx=>by
  simp only [XZ,List.mem_cons,List.not_mem_nil,or_false] at hx
  omega
 rw [RY,RY,NM hb,NM hb2,NM (Ju n),KY]
 have e3:bs (⟨#[128]⟩:ByteArray)=[128]:=rfl
 rw [e3]
 simp
theorem WAA {x:Int} (h:R32 x) (n:Nat) (hn:0<n) (hn2:n<32) (k:Int) (hk:wu64 (((BitVec.toNat ((BitVec.ofInt (IntKind.bits IntKind.u64) (wu64 k)) &&& (BitVec.ofInt (IntKind.bits IntKind.u64) (31:Int)))):Nat):Int)=((32 - n:Nat):Int))
  (hk2:wu64 (32 - ((32 - n:Nat):Int))=(n:Int)):Yg x k=some (rt (2 ^ n) (2 ^ (32 - n)) x):=by
 have e1:Min.min ((32 - n:Nat):Int).toNat (IntKind.bits IntKind.u32)=32 - n:=by
  show Min.min ((32 - n:Nat):Int).toNat 32=_
  omega
 have e2:Min.min (n:Int).toNat (IntKind.bits IntKind.u32)=n:=by
  show Min.min (n:Int).toNat 32=_
  omega
 have e3:Int.fdiv x (2 ^ n)=x / 2 ^ n:=Int.fdiv_eq_ediv_of_nonneg _ (Int.le_of_lt (Int.pow_pos (by omega)))
 simp only [Yg,Yp,hk,hk2,e1,e2,e3]
 rw [show decide ((0:Int)≤(n:Int))=true from decide_eq_true (by omega)]
 simp only [cond_true,Uz]
 rw [KAA h n hn hn2]
theorem Ja {x:Int} (h:R32 x) (n:Nat) (hn:0<n) (hn2:n<32) (hk:wu64 (((BitVec.toNat ((BitVec.ofInt (IntKind.bits IntKind.u64) (wu64 (w64 (0 - (n:Int))))) &&& (BitVec.ofInt (IntKind.bits IntKind.u64) (31:Int)))):Nat):Int)=((32 - n:Nat):Int))
  (hk2:wu64 (32 - ((32 - n:Nat):Int))=(n:Int)):QY x (n:Int)=some (rt (2 ^ n) (2 ^ (32 - n)) x):=by
 simp only [QY,Zp,WAA h n hn hn2 _ hk hk2,Option.bind_some]
theorem XAA {x:Int} (h:R32 x):QY x 2=some (rt 4 1073741824 x):=Ja h 2 (by decide) (by decide) (by decide) (by decide)
theorem YAA {x:Int} (h:R32 x):QY x 13=some (rt 8192 524288 x):=Ja h 13 (by decide) (by decide) (by decide) (by decide)
theorem ZAA {x:Int} (h:R32 x):QY x 22=some (rt 4194304 1024 x):=Ja h 22 (by decide) (by decide) (by decide) (by decide)
theorem AAB {x:Int} (h:R32 x):QY x 6=some (rt 64 67108864 x):=Ja h 6 (by decide) (by decide) (by decide) (by decide)
theorem BAB {x:Int} (h:R32 x):QY x 11=some (rt 2048 2097152 x):=Ja h 11 (by decide) (by decide) (by decide) (by decide)
theorem CAB {x:Int} (h:R32 x):QY x 25=some (rt 33554432 128 x):=Ja h 25 (by decide) (by decide) (by decide) (by decide)
theorem DAB {x:Int} (h:R32 x):QY x 7=some (rt 128 33554432 x):=Ja h 7 (by decide) (by decide) (by decide) (by decide)
theorem EAB {x:Int} (h:R32 x):QY x 18=some (rt 262144 16384 x):=Ja h 18 (by decide) (by decide) (by decide) (by decide)
theorem FAB {x:Int} (h:R32 x):QY x 17=some (rt 131072 32768 x):=Ja h 17 (by decide) (by decide) (by decide) (by decide)
theorem GAB {x:Int} (h:R32 x):QY x 19=some (rt 524288 8192 x):=Ja h 19 (by decide) (by decide) (by decide) (by decide)
theorem IAB {a b:Int} (ha:0≤a∧a<16777216) (hb:0≤b∧b≤255):Pj (w32 (a*256)) (w32 b)=a*256+b:=by
 obtain ⟨x,rfl⟩:∃ x:Nat,a=(x:Int):=⟨a.toNat,by omega⟩
 obtain ⟨y,rfl⟩:∃ y:Nat,b=(y:Int):=⟨b.toNat,by omega⟩
 rw [VZ (by omega) (by omega),VZ (by omega) (by omega)]
 have:=Vz (a:=x) (b:=y) (s:=8) (by omega) (by omega) (by omega)
 have e:((x*2 ^ 8:Nat):Int)=(x:Int)*256:=by omega
 rw [Int.natCast_add,e] at this
 exact this
def OZ (l:List Int) (i:Nat):Nat→Int
 | 0=>0
 | k+1=>OZ l i k*256+l.getD (4*i+k) 0
theorem JAB (l:List Int) (i:Nat):OZ l i 4=wordAt l i:=by
 simp only [OZ,wordAt,be4,Nat.add_zero]
 omega
theorem KAB {l:List Int} (h:CV l) (i:Nat):∀ k,k<4→0≤OZ l i k∧OZ l i k<16777216
 | 0,_=>by simp [OZ]
 | 1,_=>by have:=EZ h (4*i+0);simp only [OZ];omega
 | 2,_=>by have:=EZ h (4*i+0);have:=EZ h (4*i+1);simp only [OZ];omega
 | 3,_=>by have:=EZ h (4*i+0);have:=EZ h (4*i+1);have:=EZ h (4*i+2);simp only [OZ];omega
theorem LAB {b:ByteArray} (hb:b.size=64) (v:List Int) (i:Nat) (hi:i<16):∀ (j k m:Nat),k+j=4→
  JZ (m+j+1) (.c1 b (i:Int) (i:Int) (k:Int) v (RV (bs b) i++OZ (bs b) i k::List.replicate (63 - i) 0))=JZ m (.c0 b ((i+1:Nat):Int) v (RV (bs b) (i+1)++List.replicate (63 - i) 0)):=by
 have hby:=Ic b
 intro j
 induction j with
 | zero=>
  intro k m h
  obtain rfl:k=4:=by omega
  have e:w64 ((i:Int)+1)=((i+1:Nat):Int):=by rw [w64_id (by omega) (by omega)];rfl
  rw [JZ]
  simp only [Ac,e]
  rw [FN (by simp),JAB,U0]
  simp
 | succ j ih=>
  intro k m h
  have hk:k<4:=by omega
  have hlen:(RV (bs b) i++OZ (bs b) i k::List.replicate (63 - i) 0).length=64:=by
   simp only [List.length_append,List.length_cons,List.length_replicate,Qb];omega
  have e:w64 ((k:Int)+1)=((k+1:Nat):Int):=by rw [w64_id (by omega) (by omega)];rfl
  have e4:w64 (4*(i:Int))=((4*i:Nat):Int):=by rw [w64_id (by omega) (by omega)];omega
  have e5:w64 (((4*i:Nat):Int)+(k:Int))=((4*i+k:Nat):Int):=by rw [w64_id (by omega) (by omega)];omega
  have e8:(2:Int) ^ (Min.min (8:Int).toNat (IntKind.bits IntKind.u32))=256:=by decide
  have hg:(RV (bs b) i++OZ (bs b) i k::List.replicate (63 - i) 0).getD i 0=OZ (bs b) i k:=by
   rw [Gf (by rw [Qb];omega),Qb,Nat.sub_self];rfl
  rw [show m+(j+1)+1=(m+j+1)+1 by omega,JZ]
  simp only [Ac,e,e4,e5,e8,Int.toNat_natCast,hlen,hg,Uz]
  rw [TB (by simp;omega),TB (by rfl),TB (by simp;omega),TB (by simp;omega),TB (by rfl),TB (by simp;omega)]
  rw [Ob (by omega),IAB (KAB hby i k hk) (EZ hby _),Ae (Qb _ i)]
  exact ih (k+1) m (by omega)
theorem MAB {b:ByteArray} (hb:b.size=64) (v:List Int):∀ (j i m:Nat),i+j=16→JZ (m+6*j+1) (.c0 b (i:Int) v (RV (bs b) i++List.replicate (64 - i) 0))=JZ m (.c2 16 v (RV (bs b) 16++List.replicate 48 0)):=by
 intro j
 induction j with
 | zero=>
  intro i m h
  obtain rfl:i=16:=by omega
  rw [JZ]
  simp only [Ac]
  rw [FN (by simp)]
 | succ j ih=>
  intro i m h
  rw [show m+6*(j+1)+1=(m+6*j+1)+4+1+1 by omega,JZ]
  simp only [Ac]
  rw [TB (by simp;omega)]
  have h1:=LAB hb v i (by omega) 4 0 (m+6*j+1) (by omega)
  rw [show 64 - i=(63 - i)+1 by omega,List.replicate_succ]
  have h2:=ih (i+1) m (by omega)
  rw [show 64 - (i+1)=63 - i by omega] at h2
  exact h1.trans h2
theorem NAB {w v:List Int} (hw:∀ x ∈ w,R32 x) (hwl:w.length=16) (hv:v.length=64):∀ (j i m:Nat),i+j=48→JZ (m+j+1) (.c2 ((16+i:Nat):Int) v (sched w i++List.replicate (48 - i) 0))=some (sched w 48):=by
 intro j
 induction j with
 | zero=>
  intro i m h
  obtain rfl:i=48:=by omega
  have hl:=Qj hwl 48
  rw [JZ]
  simp only [Ac,Nat.sub_self,List.replicate_zero,List.append_nil,hl,hv]
  rfl
 | succ j ih=>
  intro i m h
  have hl:=Qj hwl i
  have hr:=Ym hw i
  have hlen:(sched w i++List.replicate (48 - i) 0).length=64:=by
   simp only [List.length_append,List.length_replicate,hl];omega
  have e2:w64 (((16+i:Nat):Int) - 2)=((16+i - 2:Nat):Int):=by rw [w64_id (by omega) (by omega)];omega
  have e7:w64 (((16+i:Nat):Int) - 7)=((16+i - 7:Nat):Int):=by rw [w64_id (by omega) (by omega)];omega
  have e15:w64 (((16+i:Nat):Int) - 15)=((16+i - 15:Nat):Int):=by rw [w64_id (by omega) (by omega)];omega
  have e16:w64 (((16+i:Nat):Int) - 16)=((16+i - 16:Nat):Int):=by rw [w64_id (by omega) (by omega)];omega
  have e1:w64 (((16+i:Nat):Int)+1)=((16+(i+1):Nat):Int):=by rw [w64_id (by omega) (by omega)];omega
  have g2:(sched w i++List.replicate (48 - i) 0).getD (16+i - 2) 0=(sched w i).getD (16+i - 2) 0:=Nj (by omega) 0
  have g7:(sched w i++List.replicate (48 - i) 0).getD (16+i - 7) 0=(sched w i).getD (16+i - 7) 0:=Nj (by omega) 0
  have g15:(sched w i++List.replicate (48 - i) 0).getD (16+i - 15) 0=(sched w i).getD (16+i - 15) 0:=Nj (by omega) 0
  have g16:(sched w i++List.replicate (48 - i) 0).getD (16+i - 16) 0=(sched w i).getD (16+i - 16) 0:=Nj (by omega) 0
  have f10:∀ x:Int,Int.fdiv x (2 ^ (Min.min (10:Int).toNat (IntKind.bits IntKind.u32)))=x / 1024:=fun x=>Int.fdiv_eq_ediv_of_nonneg _ (by decide)
  have f3:∀ x:Int,Int.fdiv x (2 ^ (Min.min (3:Int).toNat (IntKind.bits IntKind.u32)))=x / 8:=fun x=>Int.fdiv_eq_ediv_of_nonneg _ (by decide)
  have r15:=Rj hr (16+i - 15)
  have r2:=Rj hr (16+i - 2)
  rw [show m+(j+1)+1=(m+j+1)+1 by omega,JZ]
  simp only [Ac,e1,e2,e7,e15,e16,Int.toNat_natCast,hlen,g2,g7,g15,g16,DAB r15,EAB r15,FAB r2,GAB r2,Option.bind_some,f10,f3,Ee]
  rw [TB (by simp;omega),TB (by rfl),TB (by simp;omega),TB (by rfl),TB (by simp;omega),TB (by rfl),TB (by simp;omega),TB (by rfl),TB (by simp;omega),TB (by rfl),TB (by simp;omega)]
  rw [show 48 - i=(48 - (i+1))+1 by omega,List.replicate_succ,Ae (by omega)]
  have h2:=ih (i+1) m (by omega)
  rw [sched,List.append_assoc] at h2
  exact h2
theorem OAB {b:ByteArray} (hb:b.size=64):Ad b=some (sched (RV (bs b) 16) 48):=by
 obtain ⟨m,hm⟩:∃ m,gas=(m+48+1)+6*16+1:=⟨gas - 146,by have:=gas_lt (n:=146) (by omega);omega⟩
 rw [Ad,Aq,hm]
 have h0:=MAB hb (List.replicate 64 0) 16 0 (m+48+1) (by omega)
 have h2:=NAB (w:=RV (bs b) 16) (v:=List.replicate 64 0) (Hu (Ic b) 16) (Qb _ 16) (List.length_replicate ..) 48 0 m (by omega)
 rw [show RV (bs b) 0++List.replicate (64 - 0) 0=List.replicate 64 (0:Int) from rfl,show ((0:Nat):Int)=0 from rfl] at h0
 rw [show ((16+0:Nat):Int)=16 from rfl,show sched (RV (bs b) 16) 0=RV (bs b) 16 from rfl,show 48 - 0=48 from rfl] at h2
 rw [h0,h2]
theorem PAB {s:ByteArray} {i:Nat} (h:4*i+4≤s.size) (hs:s.size≤9000000000000000000):Ud s ((4*i:Nat):Int)=some (wordAt (bs s) i):=by
 have hb:=Ic s
 have e1:w64 (((4*i:Nat):Int)+1)=((4*i+1:Nat):Int):=by rw [w64_id (by omega) (by omega)];rfl
 have e2:w64 (((4*i:Nat):Int)+2)=((4*i+2:Nat):Int):=by rw [w64_id (by omega) (by omega)];rfl
 have e3:w64 (((4*i:Nat):Int)+3)=((4*i+3:Nat):Int):=by rw [w64_id (by omega) (by omega)];rfl
 simp only [Ud,Ur,e1,e2,e3]
 rw [TB (by simp;omega),TB (by simp;omega),TB (by simp;omega),TB (by simp;omega)]
 rw [Ob (by omega),Ob (by omega),Ob (by omega),Ob (by omega)]
 have b0:=EZ hb (4*i)
 have b1:=EZ hb (4*i+1)
 have b2:=EZ hb (4*i+2)
 have b3:=EZ hb (4*i+3)
 unfold wordAt be4
 simp only [Ce]
 congr 1
 omega
theorem Y2 {s:ByteArray} (hs:s.size≤1000000000000):DZ s=some (RV (bs s) (s.size / 4)):=by
 have key:=loopN (A:=Unit) (n:=s.size / 4) (Lp:=Ji) (st:=fun i _=>.c0 s ((4*i:Nat):Int) (RV (bs s) i)) (Inv:=fun _ _=>True) (out:=fun _ _=>some (RV (bs s) (s.size / 4)))
  (fun m _ _=>by
   simp only [Ji,Xl]
   rw [w64_id (by omega) (by omega),FN (by simp;omega)])
  (fun m i _ hi _=>.inr ⟨(),by
   have e:w64 (((4*i:Nat):Int)+4)=((4*(i+1):Nat):Int):=by rw [w64_id (by omega) (by omega)];omega
   simp only [Ji,Xl,e,PAB (s:=s) (i:=i) (by omega) (by omega),Option.bind_some,Qb,U0]
   rw [TB (by simp;omega),TB (by simp;omega)],trivial,rfl⟩)
 exact key gas 0 () (Nat.zero_le _) (gas_lt (by omega)) trivial
theorem La {x low high:Int} (h:R32 x) (hl:0<low) (hh:0<high) (hlh:low*high=4294967296):Oi x low high=some (rt low high x):=by
 have hr:=JAA h hl hh hlh
 obtain ⟨h1,h2⟩:=h
 have e0:(!(low == 0))=true:=by simp;omega
 have d1:0≤x / low:=Int.ediv_nonneg h1 (by omega)
 have d2:0≤x % low*high:=Int.mul_nonneg (Int.emod_nonneg _ (by omega)) (by omega)
 unfold R32 rt at hr
 simp only [Oi,Yr,e0,cond_true,Int.tdiv_eq_ediv_of_nonneg h1,Int.tmod_eq_emod_of_nonneg h1]
 rw [VZ d1 (by omega),VZ d2 (by omega),VZ (by omega) (by omega)]
 rfl
theorem QAB {x:Int} (h:R32 x):LZ x 131072 524288 1024 true=some (sg1 x):=by
 have e1:w32 (w32 ((2147483648:Int).tdiv 131072)*2)=32768:=by decide
 have e2:w32 (w32 ((2147483648:Int).tdiv 524288)*2)=8192:=by decide
 have e3:w32 (x.tdiv 1024)=x / 1024:=by
  obtain ⟨h1,h2⟩:=h
  rw [Int.tdiv_eq_ediv_of_nonneg h1,VZ (by omega) (by omega)]
 simp only [LZ,Bf,e1,e2,e3,La h (low:=131072) (high:=32768) (by omega) (by omega) (by omega),La h (low:=524288) (high:=8192) (by omega) (by omega) (by omega),Option.bind_some,Ee]
 rfl
theorem RAB {x:Int} (h:R32 x):LZ x 128 262144 8 true=some (Xz x):=by
 have e1:w32 (w32 ((2147483648:Int).tdiv 128)*2)=33554432:=by decide
 have e2:w32 (w32 ((2147483648:Int).tdiv 262144)*2)=16384:=by decide
 have e3:w32 (x.tdiv 8)=x / 8:=by
  obtain ⟨h1,h2⟩:=h
  rw [Int.tdiv_eq_ediv_of_nonneg h1,VZ (by omega) (by omega)]
 simp only [LZ,Bf,e1,e2,e3,La h (low:=128) (high:=33554432) (by omega) (by omega) (by omega),La h (low:=262144) (high:=16384) (by omega) (by omega) (by omega),Option.bind_some,Ee]
 rfl
theorem SAB {x:Int} (h:R32 x):LZ x 64 2048 33554432 false=some (Yz x):=by
 have e1:w32 (w32 ((2147483648:Int).tdiv 64)*2)=67108864:=by decide
 have e2:w32 (w32 ((2147483648:Int).tdiv 2048)*2)=2097152:=by decide
 have e3:w32 (w32 ((2147483648:Int).tdiv 33554432)*2)=128:=by decide
 simp only [LZ,Bf,e1,e2,e3,La h (low:=64) (high:=67108864) (by omega) (by omega) (by omega),La h (low:=2048) (high:=2097152) (by omega) (by omega) (by omega),La h (low:=33554432) (high:=128) (by omega) (by omega) (by omega),Option.bind_some,Ee]
 rfl
theorem TAB {x:Int} (h:R32 x):LZ x 4 8192 4194304 false=some (Zz x):=by
 have e1:w32 (w32 ((2147483648:Int).tdiv 4)*2)=1073741824:=by decide
 have e2:w32 (w32 ((2147483648:Int).tdiv 8192)*2)=524288:=by decide
 have e3:w32 (w32 ((2147483648:Int).tdiv 4194304)*2)=1024:=by decide
 simp only [LZ,Bf,e1,e2,e3,La h (low:=4) (high:=1073741824) (by omega) (by omega) (by omega),La h (low:=8192) (high:=524288) (by omega) (by omega) (by omega),La h (low:=4194304) (high:=1024) (by omega) (by omega) (by omega),Option.bind_some,Ee]
 rfl
theorem J3 (s r:Reg):∀ i,i<8→(Fe s r).l.getD i 0=w32 (s.l.getD i 0+r.l.getD i 0)
 | 0,_=>rfl | 1,_=>rfl | 2,_=>rfl | 3,_=>rfl | 4,_=>rfl | 5,_=>rfl | 6,_=>rfl | 7,_=>rfl
 | n+8,h=>by omega
theorem YAD (n:Nat) (h:n<9223372036854775807):∃ m,gas=m+n:=⟨gas - n,by have:=gas_lt h;omega⟩
theorem UAB (s r:Reg):∀ (j i m:Nat),i+j=8→VY (m+j+1) (.c3 s.l (i:Int) r.l ((Fe s r).l.take i))=some (Fe s r).l:=by
 intro j
 induction j with
 | zero=>
  intro i m h
  obtain rfl:i=8:=by omega
  simp only [VY,Ea]
  rfl
 | succ j ih=>
  intro i m h
  have e:w64 ((i:Int)+1)=((i+1:Nat):Int):=by rw [w64_id (by omega) (by omega)];rfl
  have hl:∀ q:Reg,q.l.length=8:=fun _=>rfl
  rw [show m+(j+1)+1=(m+j+1)+1 by omega]
  simp only [VY,Ea,e,Int.toNat_natCast]
  rw [TB (by simp;omega),TB (by simp [hl];omega),TB (by simp [hl];omega),TB (by simp [hl];omega)]
  have h3:=ih (i+1) m (by omega)
  rw [take_at (by rw [hl];omega),←getD_at (by rw [hl];omega) 0,J3 _ _ _ (by omega)] at h3
  exact h3
def Lu:Nat→List Int→List Int
 | 0,v=>v
 | i+1,v=>Lu i (v.set (i+1) (v.getD i 0))
theorem VAB (t o W:List Int) (k T1 T2:Int) (hk:0≤k∧k<64):∀ (i m:Nat) (v:List Int),i<8→v.length=8→VY (m+i+1) (.c2 t o k T1 T2 (i:Int) W v)=VY m (.c1 t o (k+1) W (((Lu i v).set 4 (w32 ((Lu i v).getD 4 0+T1))).set 0 (w32 (T1+T2)))):=by
 intro i
 induction i with
 | zero=>
  intro m v _ hl
  have e:w64 (k+1)=k+1:=w64_id (by omega) (by omega)
  simp only [VY,Ea,e]
  rw [FN (by simp),TB (by simp [hl]),TB (by simp [hl]),TB (by simp [hl])]
  rfl
 | succ i ih=>
  intro m v hi hl
  have e:w64 (((i+1:Nat):Int) - 1)=(i:Int):=by rw [w64_id (by omega) (by omega)];omega
  rw [show m+(i+1)+1=(m+i+1)+1 by omega]
  rw [VY]
  simp only [Ea,e,Int.toNat_natCast]
  rw [TB (by simp;try omega),TB (by simp [hl];try omega),TB (by simp [hl];try omega),ih m _ (by omega) (by simp [hl])]
  rfl
theorem WAB (t W:List Int) (r:Reg) (hr:r.ok) (hW:∀ x ∈ W,R32 x) (hWl:W.length=64) (i m:Nat) (hi:i<64) :
  VY (m+9) (.c1 t keysL (i:Int) W r.l)=VY m (.c1 t keysL ((i:Int)+1) W (WZ r (keysL.getD i 0) (W.getD i 0)).l):=by
 obtain ⟨h1,h2,h3,h4,h5,h6,h7,h8⟩:=hr
 have hk:keysL.length=64:=rfl
 have g (q:Reg):q.l.getD 0 0=q.a∧q.l.getD 1 0=q.b∧q.l.getD 2 0=q.c∧q.l.getD 4 0=q.e∧q.l.getD 5 0=q.f∧q.l.getD 6 0=q.g∧q.l.getD 7 0=q.h:=⟨rfl,rfl,rfl,rfl,rfl,rfl,rfl⟩
 obtain ⟨g0,g1,g2,g4,g5,g6,g7⟩:=g r
 have hl:r.l.length=8:=rfl
 have z4:(4:Int).toNat=4:=rfl
 have z5:(5:Int).toNat=5:=rfl
 have z6:(6:Int).toNat=6:=rfl
 have z7:(7:Int).toNat=7:=rfl
 have z0:(0:Int).toNat=0:=rfl
 have z1:(1:Int).toNat=1:=rfl
 have z2:(2:Int).toNat=2:=rfl
 rw [show m+9=(m+7+1)+1 by omega,VY]
 simp only [Ea,z0,z1,z2,z4,z5,z6,z7,g0,g1,g2,g4,g5,g6,g7,hl,hk,hWl,SAB h5,TAB h1,Option.bind_some,Ee,Tz,Int.toNat_natCast]
 rw [TB (by simp;omega),TB (by simp),TB (by simp),TB (by simp),TB (by simp),TB (by simp;omega),TB (by simp;omega),TB (by simp),TB (by simp),TB (by simp),TB (by simp),TB (by simp),TB (by simp),TB (by simp)]
 exact VAB t keysL W (i:Int) (t1 r (keysL.getD i 0) (W.getD i 0)) (t2 r) (by omega) 7 m r.l (by omega) rfl
theorem XAB (s:Reg) (hs:s.ok) (W:List Int) (hW:∀ x ∈ W,R32 x) (hWl:W.length=64):∀ (j i m:Nat),i+j=64→VY (m+9*j+10) (.c1 s.l keysL (i:Int) W (SY keysL W s i).l)=some (Fe s (SY keysL W s 64)).l:=by
 intro j
 induction j with
 | zero=>
  intro i m h
  obtain rfl:i=64:=by omega
  rw [show m+9*0+10=(m+8+1)+1 by omega,VY]
  simp only [Ea]
  rw [FN (by simp)]
  exact UAB s _ 8 0 m (by omega)
 | succ j ih=>
  intro i m h
  rw [show m+9*(j+1)+10=(m+9*j+10)+9 by omega,WAB s.l W _ (O0 keysL W hs i) hW hWl i _ (by omega)]
  exact ih (i+1) m (by omega)
theorem YAB (s:Reg) (hs:s.ok) (w:List Int) (hw:∀ x ∈ w,R32 x) (hwl:w.length=16):∀ (j i m:Nat),i+j=48→VY (m+9*64+10+1+j) (.c0 s.l keysL ((16+i:Nat):Int) (sched w i))=some (Fe s (SY keysL (sched w 48) s 64)).l:=by
 intro j
 induction j with
 | zero=>
  intro i m h
  obtain rfl:i=48:=by omega
  rw [show m+9*64+10+1+0=(m+9*64+10)+1 by omega,VY]
  simp only [Ea]
  rw [FN (by simp),TB (by simp [Reg.l])]
  exact XAB s hs _ (Ym hw 48) (Qj hwl 48) 64 0 m (by omega)
 | succ j ih=>
  intro i m h
  have hl:=Qj hwl i
  have hr:=Ym hw i
  have e2:w64 (((16+i:Nat):Int) - 2)=((16+i - 2:Nat):Int):=by rw [w64_id (by omega) (by omega)];omega
  have e7:w64 (((16+i:Nat):Int) - 7)=((16+i - 7:Nat):Int):=by rw [w64_id (by omega) (by omega)];omega
  have e15:w64 (((16+i:Nat):Int) - 15)=((16+i - 15:Nat):Int):=by rw [w64_id (by omega) (by omega)];omega
  have e16:w64 (((16+i:Nat):Int) - 16)=((16+i - 16:Nat):Int):=by rw [w64_id (by omega) (by omega)];omega
  have e1:w64 (((16+i:Nat):Int)+1)=((16+(i+1):Nat):Int):=by rw [w64_id (by omega) (by omega)];omega
  rw [show m+9*64+10+1+(j+1)=(m+9*64+10+1+j)+1 by omega,VY]
  simp only [Ea,e1,e2,e7,e15,e16,Int.toNat_natCast,hl,QAB (Rj hr _),RAB (Rj hr _),Option.bind_some]
  rw [TB (by simp;omega),TB (by simp;omega),TB (by simp;omega),TB (by simp;omega),TB (by simp;omega),TB (by simp;omega)]
  exact ih (i+1) m (by omega)
theorem O3 {s:Reg} (hs:s.ok) {b:ByteArray} (hb:b.size=64):UZ s.l keysL b=some (comp s (bs b)).l:=by
 have hr:=Hu (Ic b) 16
 obtain ⟨m,hm⟩:∃ m,gas=m+9*64+10+1+48:=⟨gas - 635,by have:=gas_lt (n:=635) (by omega);omega⟩
 have h:=YAB s hs _ hr (Qb _ 16) 48 0 m (by omega)
 have e0:((16+0:Nat):Int)=16:=rfl
 rw [e0,show sched (RV (bs b) 16) 0=RV (bs b) 16 from rfl] at h
 rw [UZ,Zr,Y2 (s:=b) (by omega),Option.bind_some,hb,hm]
 exact h
theorem ZAB (s r v:List Int) (hs:s.length=8) (hv:v.length=8) (f:Nat→Int) (hf:∀ i,i<8→f i=w32 (r.getD i 0+s.getD i 0)) (hr:r.length=8):∀ (j i m:Nat),i+j=8→RZ (m+j+1) (.c1 (i:Int) s v ((List.range i).map f++r.drop i))=some ((List.range 8).map f):=by
 intro j
 induction j with
 | zero=>
  intro i m h
  obtain rfl:i=8:=by omega
  rw [RZ]
  simp only [Xe]
  rw [FN (by simp),List.drop_of_length_le (by omega),List.append_nil,TB (by simp),TB (by simp [hv]),TB (by simp)]
 | succ j ih=>
  intro i m h
  have e:w64 ((i:Int)+1)=((i+1:Nat):Int):=by rw [w64_id (by omega) (by omega)];rfl
  have hl:((List.range i).map f++r.drop i).length=8:=by simp [hr];omega
  have hm:((List.range i).map f).length=i:=by simp
  have hg:((List.range i).map f++r.drop i).getD i 0=r.getD i 0:=by
   rw [Gf (by omega),hm,Nat.sub_self]
   simp [List.getD]
  rw [show m+(j+1)+1=(m+j+1)+1 by omega,RZ]
  simp only [Xe,e,Int.toNat_natCast,hl,hs,hg]
  rw [TB (by simp;omega),TB (by rfl),TB (by simp;omega),TB (by rfl),TB (by simp;omega),TB (by rfl),TB (by simp;omega)]
  rw [drop_at (by omega:i<r.length),Ae hm,←hf i (by omega)]
  have h2:=ih (i+1) m (by omega)
  rw [List.range_succ,List.map_append,List.append_assoc] at h2
  exact h2
theorem AAC (s v W:List Int) (hW:∀ x ∈ W,R32 x) (hWl:W.length=64) (r:Reg) (hr:r.ok) (i m:Nat) (hi:i<64) :
  RZ (m+1) (.c0 r.a r.b r.c r.d r.e r.f r.g r.h (i:Int) s v W)=RZ m (.c0 (WZ r (keysL.getD i 0) (W.getD i 0)).a (WZ r (keysL.getD i 0) (W.getD i 0)).b (WZ r (keysL.getD i 0) (W.getD i 0)).c (WZ r (keysL.getD i 0) (W.getD i 0)).d (WZ r (keysL.getD i 0) (W.getD i 0)).e (WZ r (keysL.getD i 0) (W.getD i 0)).f (WZ r (keysL.getD i 0) (W.getD i 0)).g (WZ r (keysL.getD i 0) (W.getD i 0)).h ((i+1:Nat):Int) s v W):=by
 obtain ⟨h1,h2,h3,h4,h5,h6,h7,h8⟩:=hr
 have e:w64 ((i:Int)+1)=((i+1:Nat):Int):=by rw [w64_id (by omega) (by omega)];rfl
 rw [RZ]
 simp only [Xe,e,Int.toNat_natCast,hWl,AAB h5,BAB h5,CAB h5,XAA h1,YAA h1,ZAA h1,Option.bind_some,Ee,Tz,IAA h5]
 rw [TB (by simp;omega),TB (by simp;omega),TB (by rw [Nat.blt_eq];omega),TB (by rfl),TB (by simp;omega)]
 rfl
theorem BAC (s v W:List Int) (hW:∀ x ∈ W,R32 x) (hWl:W.length=64) (r:Reg) (hr:r.ok):∀ (j i m:Nat),i+j=64→
  RZ (m+j+1) (.c0 (SY keysL W r i).a (SY keysL W r i).b (SY keysL W r i).c (SY keysL W r i).d (SY keysL W r i).e (SY keysL W r i).f (SY keysL W r i).g (SY keysL W r i).h (i:Int) s v W)=RZ m (.c1 0 s v (SY keysL W r 64).l):=by
 intro j
 induction j with
 | zero=>
  intro i m h
  obtain rfl:i=64:=by omega
  rw [RZ]
  simp only [Xe]
  rw [FN (by simp)]
  rfl
 | succ j ih=>
  intro i m h
  rw [show m+(j+1)+1=(m+j+1)+1 by omega,AAC s v W hW hWl _ (O0 keysL W hr i) i _ (by omega)]
  exact ih (i+1) m (by omega)
theorem CAC {s:Reg} (hs:s.ok) {b:ByteArray} (hb:b.size=64):Bd s.l b=some (comp s (bs b)).l:=by
 obtain ⟨m,hm⟩:∃ m,gas=(m+8+1)+64+1:=⟨gas - 74,by have:=gas_lt (n:=74) (by omega);omega⟩
 have hr:=Ym (Hu (Ic b) 16) 48
 have hl:=Qj (Qb (bs b) 16) 48
 have hsl:s.l.length=8:=rfl
 have z0:(0:Int).toNat=0:=rfl
 have z1:(1:Int).toNat=1:=rfl
 have z2:(2:Int).toNat=2:=rfl
 have z3:(3:Int).toNat=3:=rfl
 have z4:(4:Int).toNat=4:=rfl
 have z5:(5:Int).toNat=5:=rfl
 have z6:(6:Int).toNat=6:=rfl
 have z7:(7:Int).toNat=7:=rfl
 rw [Bd,Bq,OAB hb,Option.bind_some,hm]
 simp only [hl,hsl,List.length_replicate,z0,z1,z2,z3,z4,z5,z6,z7]
 rw [TB (by rfl),TB (by rfl),TB (by rfl),TB (by rfl),TB (by rfl),TB (by rfl),TB (by rfl),TB (by rfl),TB (by rfl),TB (by rfl),TB (by rfl),TB (by rfl),TB (by rfl),TB (by rfl),TB (by rfl),TB (by rfl),TB (by rfl)]
 have h0:=BAC s.l [0,0,0,0,0,0,0,0] _ hr hl s hs 64 0 (m+8+1) (by omega)
 rw [show ((0:Nat):Int)=0 from rfl] at h0
 have hf:∀ i,i<8→(fun i=>w32 ((SY keysL (sched (RV (bs b) 16) 48) s 64).l.getD i 0+s.l.getD i 0)) i=w32 ((SY keysL (sched (RV (bs b) 16) 48) s 64).l.getD i 0+s.l.getD i 0):=fun _ _=>rfl
 have h1:=ZAB s.l (SY keysL (sched (RV (bs b) 16) 48) s 64).l [0,0,0,0,0,0,0,0] rfl rfl _ hf rfl 8 0 m (by omega)
 rw [show ((0:Nat):Int)=0 from rfl,List.range_zero,List.map_nil,List.nil_append,List.drop_zero] at h1
 have e:(List.range 8).map (fun i=>w32 ((SY keysL (sched (RV (bs b) 16) 48) s 64).l.getD i 0+s.l.getD i 0))=(comp s (bs b)).l:=by
  apply List.ext_getElem
  ·rw [Reg.Sj,List.length_map,List.length_range]
  ·intro i h1 h2
   have hi:i<8:=by simpa using h1
   rw [List.getElem_map,List.getElem_range,←getD_at h2 0]
   rw [comp,J3 _ _ i hi,Int.add_comm]
 rw [e] at h1
 exact h0.trans h1
theorem U3 {h:SHasher} (h1:h.fState.size=32) (h2:h.fRest.size<64) (h3:0≤h.fCount∧h.fCount≤1000000000) (h4:h.fCount % 64=(h.fRest.size:Int)):KZ h=some true:=by
 have e:XY h.fCount 0 1000000000=true:=by rw [Jc];omega
 simp only [KZ,Sr,Gu,Option.bind_some,e]
 rw [TB (by simp;omega),TB (by simp;omega),cond_true,Int.tmod_eq_emod_of_nonneg h3.1,h4]
 simp
theorem DAC {x:Int} (h:R32 x):[w8 (w32 (x.tdiv 16777216)),w8 ((w32 (x.tdiv 65536)).tmod 256),w8 ((w32 (x.tdiv 256)).tmod 256),w8 (x.tmod 256)]=four x:=by
 obtain ⟨h1,h2⟩:=h
 rw [Int.tdiv_eq_ediv_of_nonneg h1,Int.tdiv_eq_ediv_of_nonneg h1,Int.tdiv_eq_ediv_of_nonneg h1,Int.tmod_eq_emod_of_nonneg h1]
 rw [VZ (n:=x / 16777216) (by omega) (by omega),VZ (n:=x / 65536) (by omega) (by omega),VZ (n:=x / 256) (by omega) (by omega)]
 rw [Int.tmod_eq_emod_of_nonneg (by omega),Int.tmod_eq_emod_of_nonneg (by omega)]
 simp only [four,w8_mod,List.cons.injEq,and_true]
 omega
theorem Nu {ws:List Int} (h:∀ x ∈ ws,R32 x) (hl:ws.length≤1000000000000):PZ ws=some (ofBytes (SN ws)):=by
 have key:=loopN (A:=Unit) (n:=ws.length) (Lp:=Di) (st:=fun i _=>.c0 ws (i:Int) (SN (ws.take i))) (Inv:=fun _ _=>True) (out:=fun _ _=>some (ofBytes (SN ws)))
  (fun m _ _=>by
   simp only [Di,Ul]
   rw [FN (by simp),List.take_length])
  (fun m i _ hi _=>.inr ⟨(),by
   have e:w64 ((i:Int)+1)=((i+1:Nat):Int):=by rw [w64_id (by omega) (by omega)];rfl
   simp only [Di,Ul,e,Int.toNat_natCast]
   rw [TB (by simp;omega),TB (by simp;omega),TB (by rw [Rf,List.length_take];simp;omega)]
   rw [getD_at hi,DAC (h _ (List.getElem_mem hi)),take_at hi,O1]
   simp [SN],trivial,rfl⟩)
 exact key gas 0 () (Nat.zero_le _) (gas_lt (by omega)) trivial
def Ub:SHasher:=⟨ofBytes (SN NZ.l),⟨#[]⟩,0⟩
theorem EAC:Gi=some Ub:=by
 have h:=Nu (ws:=NZ.l) (Reg.Ie Lc) (by decide)
 have e:Sl=some NZ.l:=rfl
 simp only [Gi,Qr,e,h,Option.bind_some]
 rfl
theorem V3:Ba=some keysL:=rfl
theorem FAC (b:List Int) (i:Nat):(b.take (64*i+64)).drop (64*i)=(b.drop (64*i)).take 64:=by
 rw [List.drop_take];congr 1;omega
theorem X3 (i:Nat) (s:Reg) (b:List Int):comps (i+1) s b=comp (comps i s b) ((b.drop (64*i)).take 64):=by
 rw [Y0 i 1];rfl
theorem Y3 {r:Reg} (h:r.ok):DZ (ofBytes (SN r.l))=some r.l:=by
 have hs:(ofBytes (SN r.l)).size=32:=by rw [ofBytes_size,Rf];rfl
 rw [Y2 (by omega),hs,NM (Iu (Reg.Ie h))]
 exact congrArg some (SAA (Reg.Ie h))
theorem GAC {s:ByteArray} (hs:s.size≤1000000000):Ti Ub s=some ⟨ofBytes (SN (comps (s.size / 64) NZ (bs s)).l),s.extract (64*(s.size / 64)) s.size,(s.size:Int)⟩:=by
 have e0:KZ Ub=some true:=U3 (by rw [Ub,ofBytes_size,Rf];rfl) (by decide) (by decide) (by decide)
 have e1:((⟨#[]⟩:ByteArray)++s)=s:=FZ (by rw [RY];rfl)
 have key:=loopN (A:=Unit) (n:=s.size / 64) (Lp:=Si) (st:=fun i _=>.c0 s s ((64*i:Nat):Int) Ub (⟨(⟨#[]⟩:ByteArray),(⟨#[]⟩:ByteArray),(0:Int)⟩:SHasher) (comps i NZ (bs s)).l keysL) (Inv:=fun _ _=>True)
  (out:=fun _ _=>some ⟨ofBytes (SN (comps (s.size / 64) NZ (bs s)).l),s.extract (64*(s.size / 64)) s.size,(s.size:Int)⟩)
  (fun m _ _=>by
   have hw:w64 (Ub.fCount+(s.size:Int))=(s.size:Int):=by
    show w64 ((0:Int)+(s.size:Int))=_
    rw [Int.zero_add,w64_id (by omega) (by omega)]
   rw [Si]
   simp only [Cm,hw,Int.toNat_natCast]
   rw [w64_id (by omega) (by omega),FN (by simp;omega),Nu (Reg.Ie (He Lc _ _)) (by simp [Reg.l]),Option.bind_some,TB (by simp;omega)])
  (fun m i _ hi _=>.inr ⟨(),by
   have e:w64 (((64*i:Nat):Int)+64)=((64*(i+1):Nat):Int):=by rw [w64_id (by omega) (by omega)];omega
   rw [Si]
   simp only [Cm,e,Int.toNat_natCast]
   rw [TB (by simp;omega),TB (by simp;omega),O3 (He Lc _ _) (by simp;omega),Option.bind_some,MZ,show 64*(i+1)=64*i+64 by omega,FAC,←X3],trivial,rfl⟩)
 rw [Ti,Gs,e0,Option.bind_some,FN (by rfl)]
 have hw:w64 (Ub.fCount+(s.size:Int))=(s.size:Int):=by
  show w64 ((0:Int)+(s.size:Int))=_
  rw [Int.zero_add,w64_id (by omega) (by omega)]
 rw [hw,FN (by simp;omega),show Ub.fState=ofBytes (SN NZ.l) from rfl,Y3 Lc,Option.bind_some,V3,Option.bind_some,show Ub.fRest=⟨#[]⟩ from rfl,e1]
 rw [TB (by (have:(⟨#[]⟩:ByteArray).size=0:=rfl);simp only [this,decide_eq_true_eq];omega)]
 exact key gas 0 () (Nat.zero_le _) (gas_lt (by omega)) trivial
theorem HAC {s:Reg} (hs:s.ok) {t:ByteArray} (ht:t.size≤1000000000000):Eh s.l t=some ((comps (t.size / 64) s (bs t)).l,t.extract (64*(t.size / 64)) t.size):=by
 have key:∀ (j:Nat) (s:Reg) (t:ByteArray) (m:Nat),s.ok→t.size / 64=j→t.size≤1000000000000→Dh (m+j+1) (.c0 t s.l [0,0,0,0,0,0,0,0])=some ((comps j s (bs t)).l,t.extract (64*j) t.size):=by
  intro j
  induction j with
  | zero=>
   intro s t m hs hj ht
   rw [Dh]
   simp only [Gl,Reg.Sj]
   rw [FN (by simp;omega),TB (by rfl),TB (by rfl),TB (by rfl)]
   congr 2
   apply FZ
   rw [MZ,List.take_of_length_le (by rw [bs_len];omega)]
   rfl
  | succ j ih=>
   intro s t m hs hj ht
   have h64:(64:Int).toNat=64:=rfl
   have e1:bs (t.extract 0 64)=(bs t).take 64:=by rw [MZ];rfl
   have e2:bs (t.extract 64 t.size)=(bs t).drop 64:=by rw [MZ,List.take_of_length_le (by rw [bs_len];omega)]
   rw [show m+(j+1)+1=(m+j+1)+1 by omega,Dh]
   simp only [Gl,h64,Reg.Sj]
   rw [TB (by simp;omega),TB (by rfl),TB (by simp;omega)]
   rw [CAC hs (b:=t.extract 0 64) (by simp;omega),Option.bind_some]
   rw [Reg.Sj]
   rw [TB (by rfl)]
   rw [TB (by simp;omega)]
   rw [ih (comp s (bs (t.extract 0 64))) (t.extract 64 t.size) m (X0 _ _) (by simp;omega) (by simp;omega),e1,e2]
   have e3:(t.extract 64 t.size).extract (64*j) (t.extract 64 t.size).size=t.extract (64*(j+1)) t.size:=by
    apply FZ
    rw [MZ,e2,MZ,List.take_of_length_le (by simp [bs_len]),List.take_of_length_le (by rw [bs_len];omega),List.drop_drop]
    congr 1
    omega
   rw [e3,comps]
 obtain ⟨m,hm⟩:∃ m,gas=m+t.size / 64+1:=⟨gas - (t.size / 64+1),by have:=gas_lt (n:=t.size / 64+1) (by omega);omega⟩
 rw [Eh,Fq,hm]
 exact key _ s t m hs rfl ht
theorem IAC {r:Reg} (hr:r.ok):Ih r.l=some (ofBytes (SN r.l)):=by
 have hl:r.l.length=8:=rfl
 have hrl:=Reg.Ie hr
 have hby:∀ i,CV (SN (r.l.take i)):=fun i=>Iu (fun x hx=>hrl x (List.mem_of_mem_take hx))
 have key:=loopN (A:=Unit) (n:=8) (Lp:=Gh) (st:=fun i _=>.c0 (ofBytes (SN (r.l.take i))) r.l (i:Int)) (Inv:=fun _ _=>True) (out:=fun _ _=>some (ofBytes (SN r.l)))
  (fun m _ _=>by
   rw [Gh]
   simp only [Hl]
   rw [FN (by simp)]
   rfl)
  (fun m i _ hi _=>.inr ⟨(),by
   have e:w64 ((i:Int)+1)=((i+1:Nat):Int):=by rw [w64_id (by omega) (by omega)];rfl
   have hg:r.l.getD i 0=r.l[i]'(by omega):=getD_at (by omega) 0
   have hx:R32 (r.l.getD i 0):=Rj hrl i
   rw [Gh]
   simp only [Hl,e,Int.toNat_natCast,U2 hx,Option.bind_some,hl]
   rw [TB (by simp;omega),TB (by rfl),TB (by simp;omega),TB (by rw [ofBytes_size,ofBytes_size,Rf];simp [four];omega)]
   congr 2
   apply FZ
   rw [RY,NM (hby i),NM (hby (i+1)),NM (Zm hx),take_at (by omega),O1,hg]
   simp [SN],trivial,rfl⟩)
 rw [Ih,Hq,hl,TB (by rfl)]
 exact key gas 0 () (Nat.zero_le _) (gas_lt (by omega)) trivial
theorem JAC:Xk=some NZ.l:=rfl
theorem Ou {s:ByteArray} (hs:s.size≤1000000000):Ed s=some (YZ s):=by
 have h1:=Dn s.size
 have hsz:(s++ofBytes (KY s.size)).size=s.size+(KY s.size).length:=by rw [ByteArray.size_append,ofBytes_size]
 rw [Ed,Jq,JAC,Option.bind_some,VAA (n:=s.size) (by omega),Option.bind_some,TB (by rw [ofBytes_size];simp;omega),HAC Lc (by omega),Option.bind_some]
 simp only [Reg.Sj]
 rw [TB (by rfl),TB (by rfl),IAC (He Lc _ _),Option.bind_some,hsz,RY,NM (Ju _),YZ,GZ,bs_len]
def xb (x y:Int):Int:=w8 (((BitVec.toNat ((BitVec.ofInt (IntKind.bits IntKind.u8) x) ^^^ (BitVec.ofInt (IntKind.bits IntKind.u8) y))):Nat):Int)
theorem Gn (x y:Int):w8 (((BitVec.toNat ((BitVec.ofInt (IntKind.bits IntKind.u8) x) ^^^ (BitVec.ofInt (IntKind.bits IntKind.u8) y))):Nat):Int)=xb x y:=rfl
theorem I4 (x y:Int):0≤xb x y∧xb x y≤255:=by unfold xb;rw [w8_mod];omega
theorem KAC {x:Int} (h:0≤x∧x≤255) (y:Int):xb (xb x y) y=x:=by
 have e:∀ (a b:BitVec 8),BitVec.ofInt 8 (((a ^^^ b).toNat:Nat):Int) ^^^ b=a:=by
  intro a b
  rw [BitVec.ofInt_natCast,BitVec.ofNat_toNat,BitVec.setWidth_eq,BitVec.xor_assoc,BitVec.xor_self,BitVec.xor_zero]
 have h8:∀ (a b:BitVec 8),w8 (((a ^^^ b).toNat:Nat):Int)=(((a ^^^ b).toNat:Nat):Int):=fun a b=>by
  have:=(a ^^^ b).isLt;rw [w8_id (by omega) (by omega)]
 unfold xb
 show w8 (((BitVec.ofInt 8 (w8 (((BitVec.ofInt 8 x ^^^ BitVec.ofInt 8 y).toNat:Nat):Int)) ^^^ BitVec.ofInt 8 y).toNat:Nat):Int)=x
 rw [h8 (BitVec.ofInt 8 x),e,BitVec.toNat_ofInt,w8_mod]
 omega
def ZY (x:Int) (l:List Int):List Int:=l.map fun b=>xb b x
theorem Pn (x:Int) (l:List Int):(ZY x l).length=l.length:=by simp [ZY]
theorem Qn (x:Int) (l:List Int):CV (ZY x l):=fun n hn=>by
 simp only [ZY,List.mem_map] at hn
 obtain ⟨b,_,rfl⟩:=hn
 exact I4 _ _
def LY (k:List Int):List Int:=k++List.replicate (64 - k.length) 0
def Aa (k:List Int):List Int:=if 64<k.length then LY (GZ k) else LY k
theorem LAC (k:List Int):(Aa k).length=64:=by
 unfold Aa LY
 split
 ·rw [List.length_append,List.length_replicate,Ku]
 ·rw [List.length_append,List.length_replicate];omega
def QZ (k s:List Int):List Int:=GZ (ZY 92 (Aa k)++GZ (ZY 54 (Aa k)++s))
def Na (k s:ByteArray):ByteArray:=ofBytes (QZ (bs k) (bs s))
theorem Tf (k s:List Int):(QZ k s).length=32:=Ku _
theorem Tj (k s:List Int):CV (QZ k s):=Y1 _
theorem J4 (k s:ByteArray):bs (Na k s)=QZ (bs k) (bs s):=NM (Tj _ _)
theorem O4 (k s:ByteArray):(Na k s).size=32:=by rw [Na,ofBytes_size,Tf]
theorem NAC {α:Type} (f:α→α) {l:List α} {i:Nat} (h:i<l.length):((l.take i).map f++l.drop i).set i (f l[i])=(l.take (i+1)).map f++l.drop (i+1):=by
 rw [drop_at h,Ae (by simp;omega),take_at h,List.map_append,List.append_assoc]
 rfl
theorem OAC {f:Int→Int} {l:List Int} {i:Nat} (h:i<l.length):((l.take i).map f++l.drop i).getD i 0=l[i]:=by
 rw [Gf (by simp;omega)]
 simp [List.getD,Nat.min_eq_left (Nat.le_of_lt h),h]
theorem U4 {s:ByteArray} {x:Int} (hs:s.size≤140737488351232):Jd s x=some (ofBytes (ZY x (bs s))):=by
 have hl:=bs_len s
 have key:=loopN (A:=Unit) (n:=(bs s).length) (Lp:=Lh) (st:=fun i _=>.c0 x ((bs s).length:Int) (i:Int) (((bs s).take i).map (fun b=>xb b x)++(bs s).drop i)) (Inv:=fun _ _=>True) (out:=fun _ _=>some (ofBytes (ZY x (bs s))))
  (fun m _ _=>by
   rw [Lh]
   simp only [Il]
   rw [FN (by simp),List.take_length,List.drop_length,List.append_nil];rfl)
  (fun m i _ hi _=>.inr ⟨(),by
   have e:w64 ((i:Int)+1)=((i+1:Nat):Int):=by rw [w64_id (by omega) (by omega)];rfl
   have hlen:(((bs s).take i).map (fun b=>xb b x)++(bs s).drop i).length=(bs s).length:=by simp;omega
   rw [Lh]
   simp only [Il,e,Int.toNat_natCast,hlen,Gn,OAC hi]
   rw [TB (by simp;omega),TB (by simp;omega),TB (by simp;omega),NAC (fun b=>xb b x) hi],trivial,rfl⟩)
 rw [Jd,Nq,TB (by simp;omega),Oj]
 exact key gas 0 () (Nat.zero_le _) (gas_lt (by omega)) trivial
theorem ZAD {l:List Int} (h:CV l):CV (LY l):=fun x hx=>by
 simp only [LY,List.mem_append,List.mem_replicate] at hx
 rcases hx with hx | hx
 ·exact h x hx
 ·omega
theorem PAC {k:ByteArray} (h:k.size≤64):bs (k++ofBytes (List.replicate (64 - k.size) 0))=LY (bs k):=by
 rw [RY,NM (fun x hx=>by have:=List.eq_of_mem_replicate hx;omega),LY,bs_len]
theorem QAC {K:ByteArray} (h:K.size=64) {s:ByteArray}:YZ (ofBytes (ZY 92 (bs K))++YZ (ofBytes (ZY 54 (bs K))++s))=ofBytes (GZ (ZY 92 (bs K)++GZ (ZY 54 (bs K)++bs s))):=by
 rw [YZ,RY,En,RY,NM (Qn _ _),NM (Qn _ _)]
theorem V4 {k s:ByteArray} (hk:k.size≤900000000) (hs:s.size≤900000000):Fb k s=some (Na k s):=by
 have fin:∀ {K:ByteArray} {m:Int},K.size≤64→m=((64 - K.size:Nat):Int)→∀ (f:Option ByteArray),f=some (ofBytes (GZ (ZY 92 (LY (bs K))++GZ (ZY 54 (LY (bs K))++bs s))))→
   ((Zb m).bind fun r1=>bif decide (K.size+r1.size≤9223372036854775807) then (Jd (K++r1) 92).bind fun r2=>(Jd (K++r1) 54).bind fun r3=>bif decide (r3.size+s.size≤9223372036854775807) then (Ed (r3++s)).bind fun r4=>bif decide (r2.size+r4.size≤9223372036854775807) then (Ed (r2++r4)).bind fun r5=>some r5 else none else none else none)=f:=by
  intro K m hK hm f hf
  have h64:(K++ofBytes (List.replicate (64 - K.size) 0)).size=64:=by rw [ByteArray.size_append,ofBytes_size,List.length_replicate];omega
  subst hm
  have x1:=Pn 92 (LY (bs K))
  have x2:=Pn 54 (LY (bs K))
  have x3:(LY (bs K)).length=64:=by rw [LY,List.length_append,List.length_replicate,bs_len];omega
  have hb:=PAC hK
  have hf2:=QAC h64 (s:=s)
  rw [hb] at hf2
  rw [Sz (by omega),Option.bind_some,TB (by rw [ofBytes_size,List.length_replicate,decide_eq_true_eq];omega),U4 (by omega),Option.bind_some,U4 (by omega),Option.bind_some,hb]
  rw [TB (by rw [ofBytes_size,decide_eq_true_eq];omega),Ou (by rw [ByteArray.size_append,ofBytes_size];omega),Option.bind_some,TB (by rw [ofBytes_size,Je,decide_eq_true_eq];omega)]
  rw [Ou (by rw [ByteArray.size_append,ofBytes_size,Je];omega),Option.bind_some,hf,hf2]
 rw [Fb,Oq]
 by_cases h:64<k.size
 ·rw [TB (by simp;omega),Ou (by omega),Option.bind_some]
  apply fin (by rw [Je];omega) (by rw [Je];decide)
  rw [Na,QZ,Aa,if_pos (by rw [bs_len];omega),En]
 ·rw [FN (by simp;omega)]
  apply fin (by omega) (by rw [w64_id (by omega) (by omega)];omega)
  rw [Na,QZ,Aa,if_neg (by rw [bs_len];omega)]
def IZ (k v:List Int):Nat→List Int
 | 0=>[]
 | i+1=>IZ k v i++QZ k (109::(v++[(i:Int)]))
theorem Oa (k v:List Int) (i:Nat):(IZ k v i).length=32*i:=by
 induction i with
 | zero=>rfl
 | succ i ih=>rw [IZ,List.length_append,ih,Tf];omega
theorem Rn (k v:List Int) (i:Nat):CV (IZ k v i):=by
 induction i with
 | zero=>intro n hn;cases hn
 | succ i ih=>
  intro n hn
  rcases List.mem_append.1 hn with hn | hn
  ·exact ih n hn
  ·exact Tj _ _ n hn
def TT (k v:List Int) (n:Nat):List Int:=(IZ k v ((n+31) / 32)).take n
theorem AZ (k v:List Int) (n:Nat):(TT k v n).length=n:=by rw [TT,List.length_take,Oa];omega
theorem Me (k v:List Int) (n:Nat):CV (TT k v n):=fun x hx=>Rn _ _ _ x (List.mem_of_mem_take hx)
def maskOk (num:Int) (n:Int):Bool:=XY num 0 1000000000 && XY n 0 8000
def Qa (k:ByteArray) (num:Int) (n:Int):ByteArray×Bool:=bif maskOk num n then (ofBytes (TT (bs k) (IK num) n.toNat),true) else (⟨#[]⟩,false)
theorem Uj:∀ {n:Int},0≤n→CV (IK n):=by
 intro n
 induction n using IK.induct with
 | case1 n hn ih=>
  intro h x hx
  rw [IK,if_pos hn] at hx
  rcases List.mem_cons.1 hx with rfl | hx
  ·omega
  ·exact ih (by omega) x hx
 | case2 n hn=>
  intro h x hx
  rw [IK,if_neg hn] at hx
  rw [List.mem_singleton] at hx
  subst hx
  rw [w8_mod];omega
theorem X4 (k:ByteArray) {num:Int} (hn:0≤num) (hn2:num≤1000000000) (i:Nat) (hi:i≤255) :
  Na k (((⟨#[109]⟩:ByteArray)++ofBytes (IK num))++ofBytes [(i:Int)])=ofBytes (QZ (bs k) (109::(IK num++[(i:Int)]))):=by
 have e:bs (⟨#[109]⟩:ByteArray)=[109]:=rfl
 rw [Na,RY,RY,NM (Uj hn),e,NM (fun x hx=>by rw [List.mem_singleton] at hx;omega)]
 rfl
def JY (a b:List Int):List Int:=List.zipWith xb a b
theorem Mc {a b:List Int} (h:a.length≤b.length):(JY a b).length=a.length:=by rw [JY,List.length_zipWith];omega
theorem Vb (a b:List Int):CV (JY a b):=by
 intro n hn
 rw [JY,List.mem_iff_getElem] at hn
 obtain ⟨i,hi,rfl⟩:=hn
 rw [List.getElem_zipWith]
 exact I4 _ _
theorem Qu {α:Type} (f:α→α→α):∀ (a b:List α),List.zipWith f a (b.take a.length)=List.zipWith f a b
 | [],_=>rfl
 | _::_,[]=>rfl
 | x::a,y::b=>by rw [List.length_cons,List.take_succ_cons,List.zipWith_cons_cons,List.zipWith_cons_cons,Qu f a b]
theorem Y4 {a b:List Int} {i:Nat} (h:i<a.length) (h2:i<b.length):(List.zipWith xb (a.take i) (b.take i)++a.drop i).set i (xb a[i] (b.getD i 0))=List.zipWith xb (a.take (i+1)) (b.take (i+1))++a.drop (i+1):=by
 rw [drop_at h,Ae (by simp;omega),take_at h,take_at h2,getD_at h2,List.zipWith_append (by simp;omega),List.append_assoc]
 rfl
theorem Z4 {a b:List Int} {i:Nat} (h:i<a.length) (h2:i<b.length):(List.zipWith xb (a.take i) (b.take i)++a.drop i).getD i 0=a[i]:=by
 rw [Gf (by simp;omega)]
 simp [List.getD,Nat.min_eq_left (Nat.le_of_lt h),Nat.min_eq_left (Nat.le_of_lt h2),h]
def CZ (k:List Int) (num:Int) (s:List Int):List Int:=(QZ k (116::(IK num++s))).take 16
theorem Uf (k:List Int) (num:Int) (s:List Int):(CZ k num s).length=16:=by rw [CZ,List.length_take,Tf];rfl
theorem Ua (k:List Int) (num:Int) (s:List Int):CV (CZ k num s):=fun x hx=>Tj _ _ x (List.mem_of_mem_take hx)
def NY (k:List Int) (num:Int) (s:List Int):List Int:=JY s (TT k (IK num) s.length)++CZ k num (JY s (TT k (IK num) s.length))
def TY (k:ByteArray) (num:Int) (s:ByteArray):ByteArray×Bool:=bif maskOk num s.size then (ofBytes (NY (bs k) num (bs s)),true) else (⟨#[]⟩,false)
def OY (k:ByteArray) (num:Int) (t:ByteArray):ByteArray×Bool:=
 bif decide ((t.size:Int)<16) || !(maskOk num ((t.size:Int) - 16)) then (⟨#[]⟩,false)
 else bif CZ (bs k) num ((bs t).take (t.size - 16)) == (bs t).drop (t.size - 16) then (ofBytes (JY ((bs t).take (t.size - 16)) (TT (bs k) (IK num) (t.size - 16))),true)
 else (⟨#[]⟩,false)
theorem Tn {num n:Int}:maskOk num n=true↔(0≤num∧num≤1000000000)∧0≤n∧n≤8000:=by rw [maskOk,Bool.and_eq_true,Jc,Jc]
theorem Ru {k:ByteArray} {num n:Int} (hk:k.size≤900000000):Ib k num n=some (Qa k num n):=by
 rw [Ib,Qq,GAA,Option.bind_some,Qa,maskOk]
 cases h:XY num 0 1000000000
 ·rfl
 ·rw [Jc] at h
  rw [cond_true,FN (by rfl),Oz,Option.bind_some]
  cases h2:XY n 0 8000
  ·rfl
  ·rw [Jc] at h2
   rw [FN (by rfl),Bool.and_self,cond_true]
   have hv:=Jf (n:=num) (by omega)
   have hvb:=Uj h.1
   have key:=loopN (A:=Unit) (n:=(n.toNat+31) / 32) (Lp:=Qh) (st:=fun i _=>.c0 k n (ofBytes (IK num)) (ofBytes (IZ (bs k) (IK num) i)) (i:Int)) (Inv:=fun _ _=>True) (out:=fun _ _=>some (ofBytes (TT (bs k) (IK num) n.toNat),true))
    (fun m _ _=>by
     rw [Qh]
     simp only [Jl]
     rw [FN (by rw [ofBytes_size,Oa,decide_eq_false_iff_not];omega),TB (by rw [ofBytes_size,Oa];simp;omega)]
     refine congrArg (fun x=>some (x,true)) (FZ ?_)
     rw [MZ,NM (Rn _ _ _),NM (Me _ _ _),TT,List.drop_zero])
    (fun m i _ hi _=>.inr ⟨(),by
     have e:w64 ((i:Int)+1)=((i+1:Nat):Int):=by rw [w64_id (by omega) (by omega)];rfl
     have h9:(⟨#[109]⟩:ByteArray).size=1:=rfl
     rw [Qh]
     simp only [Jl,e]
     rw [TB (by rw [ofBytes_size,Oa,decide_eq_true_eq];omega),TB (by rw [ofBytes_size,h9,decide_eq_true_eq];omega),HAA (by omega) (by omega),Option.bind_some,TB (by rw [ByteArray.size_append,ofBytes_size,ofBytes_size,h9,decide_eq_true_eq,List.length_singleton];omega)]
     rw [V4 hk (by rw [ByteArray.size_append,ByteArray.size_append,ofBytes_size,ofBytes_size,h9,List.length_singleton];omega),Option.bind_some,X4 k h.1 h.2 i (by omega),TB (by rw [ofBytes_size,ofBytes_size,Oa,Tf,decide_eq_true_eq];omega)]
     rw [show ofBytes (IZ (bs k) (IK num) i)++ofBytes (QZ (bs k) (109::(IK num++[(i:Int)])))=ofBytes (IZ (bs k) (IK num) (i+1)) from FZ (by
      rw [RY,NM (Rn _ _ _),NM (Rn _ _ _),NM (Tj _ _),IZ])],trivial,rfl⟩)
   exact key gas 0 () (Nat.zero_le _) (gas_lt (by omega)) trivial
theorem D5 {a b:ByteArray} (ha:a.size≤140737488351232) (h:a.size≤b.size):Ld a b=some (ofBytes (JY (bs a) (bs b))):=by
 have hl:=bs_len a
 have hl2:=bs_len b
 have key:=loopN (A:=Unit) (n:=(bs a).length) (Lp:=Uh) (st:=fun i _=>.c0 b ((bs a).length:Int) (i:Int) (List.zipWith xb ((bs a).take i) ((bs b).take i)++(bs a).drop i)) (Inv:=fun _ _=>True) (out:=fun _ _=>some (ofBytes (JY (bs a) (bs b))))
  (fun m _ _=>by
   rw [Uh]
   simp only [Nl]
   rw [FN (by simp),List.take_length,List.drop_length,List.append_nil,JY,Qu])
  (fun m i _ hi _=>.inr ⟨(),by
   have e:w64 ((i:Int)+1)=((i+1:Nat):Int):=by rw [w64_id (by omega) (by omega)];rfl
   have hlen:(List.zipWith xb ((bs a).take i) ((bs b).take i)++(bs a).drop i).length=(bs a).length:=by simp;omega
   rw [Uh]
   simp only [Nl,e,Int.toNat_natCast,hlen,Gn,Z4 hi (show i<(bs b).length by omega)]
   rw [TB (by simp;omega),TB (by simp;omega),TB (by simp;omega),TB (by simp;omega),Ob (by omega),Y4 hi (by omega)],trivial,rfl⟩)
 rw [Ld,Vq,TB (by simp;omega),Oj]
 exact key gas 0 () (Nat.zero_le _) (gas_lt (by omega)) trivial
theorem E5 {k s:ByteArray} {num:Int} (hk:k.size≤900000000) (hn:0≤num∧num≤1000000000) (hs:s.size≤800000000):Md k num s=some (ofBytes (CZ (bs k) num (bs s))):=by
 have hv:=Jf (n:=num) (by omega)
 have h9:(⟨#[116]⟩:ByteArray).size=1:=rfl
 have e:bs (⟨#[116]⟩:ByteArray)=[116]:=rfl
 have h16:(16:Int).toNat=16:=rfl
 rw [Md,Wq,Rz (by omega),Option.bind_some,TB (by rw [ofBytes_size,h9,decide_eq_true_eq];omega),TB (by rw [ByteArray.size_append,ofBytes_size,h9,decide_eq_true_eq];omega)]
 rw [V4 hk (by rw [ByteArray.size_append,ByteArray.size_append,ofBytes_size,h9];omega),Option.bind_some,TB (by rw [O4];decide)]
 refine congrArg some (FZ ?_)
 rw [MZ,J4,h16,NM (Ua _ _ _),RY,RY,e,NM (Uj hn.1),CZ,List.drop_zero,List.append_assoc]
 rfl
theorem F5 {k s:ByteArray} {num:Int} (hk:k.size≤900000000) (hs:s.size≤800000000):Vh k num s=some (TY k num s):=by
 rw [Vh,Yq,Ru hk,Option.bind_some,Qa,TY]
 cases h:maskOk num s.size
 ·rfl
 ·have h':=Tn.1 h
  have hm:=AZ (bs k) (IK num) ((s.size:Int).toNat)
  have hl:=bs_len s
  rw [cond_true,cond_true,FN (by rfl),D5 (by omega) (by rw [ofBytes_size,hm];omega),Option.bind_some,NM (Me _ _ _)]
  have hx:(JY (bs s) (TT (bs k) (IK num) (s.size:Int).toNat)).length=s.size:=by rw [Mc (by omega),hl]
  rw [E5 hk h'.1 (by rw [ofBytes_size,hx];omega),Option.bind_some,NM (Vb _ _),TB (by rw [ofBytes_size,ofBytes_size,hx,Uf,decide_eq_true_eq];omega)]
  refine congrArg (fun x=>some (x,true)) (FZ ?_)
  rw [RY,NM (Vb _ _),NM (Ua _ _ _),NM (fun x hx=>by
   rcases List.mem_append.1 hx with hx | hx
   ·exact Vb _ _ x hx
   ·exact Ua _ _ _ x hx),NY,hl]
  rfl
theorem G5 (a b:ByteArray):(a.toList == b.toList)=(bs a == bs b):=by
 rw [toList_inj,Bool.eq_iff_iff,decide_eq_true_eq,beq_iff_eq]
 exact ⟨fun h=>by rw [h],FZ⟩
theorem I5 (t:ByteArray) {n:Nat} (h:t.size=n+16):bs (t.extract 0 n)=(bs t).take (t.size - 16)∧bs (t.extract n t.size)=(bs t).drop (t.size - 16):=by
 rw [MZ,MZ,List.take_of_length_le (by rw [bs_len];omega:(bs t).length≤t.size),h,Nat.add_sub_cancel]
 exact ⟨rfl,rfl⟩
theorem J5 {k t:ByteArray} {num:Int} (hk:k.size≤900000000) (ht:t.size≤800000000):Wh k num t=some (OY k num t):=by
 rw [Wh,Ar,OY]
 have hw:w64 ((t.size:Int) - 16)=(t.size:Int) - 16:=w64_id (by omega) (by omega)
 rw [hw]
 by_cases h:t.size<16
 ·rw [TB (by simp;omega),TB (by simp;omega)]
 ·obtain ⟨n,hn⟩:∃ n,t.size=n+16:=⟨t.size - 16,by omega⟩
  obtain ⟨e1,e2⟩:=I5 t hn
  have hz:(t.size:Int) - 16=(n:Int):=by omega
  have hb:=bs_len t
  rw [FN (by simp;omega),Ru hk,Option.bind_some,Qa,hz,show decide ((t.size:Int)<16)=false by simp;omega,Bool.false_or]
  cases hm:maskOk num n
  ·rfl
  ·have h':=Tn.1 hm
   have hml:=AZ (bs k) (IK num) n
   have hes:(t.extract 0 n).size=n:=by simp;omega
   rw [Bool.not_true,cond_false,cond_true,FN (by rfl),Int.toNat_natCast,TB (by simp;omega),E5 hk h'.1 (by omega),Option.bind_some,TB (by simp;omega),G5,NM (Ua _ _ _),e1,e2]
   cases hc:(CZ (bs k) num ((bs t).take (t.size - 16)) == (bs t).drop (t.size - 16))
   ·rfl
   ·rw [Bool.not_true,cond_false,TB (by simp;omega),D5 (by omega) (by rw [ofBytes_size,hml];omega),Option.bind_some,NM (Me _ _ _),e1,cond_true,show t.size - 16=n by omega]
theorem RAC {n:Int} (h:0≤n) (h2:n≤255):Qd n=some (ofBytes [n]):=by
 have e:n.tmod 256=n:=by rw [Int.tmod_eq_emod_of_nonneg h];omega
 simp only [Qd,Jr,e]
 rw [show decide (n<0)=false from decide_eq_false (by omega),w8_id h h2]
 rfl
def Oe (b:Int):Nat→List Int
 | 0=>[]
 | i+1=>(b / 256 ^ i % 256)::Oe b i
def Va:Nat→Nat
 | 0=>0
 | i+1=>Va i+(i+2)
theorem SAC (x:Int) (j:Nat):x / 256 / 256 ^ j=x / 256 ^ (j+1):=by
 rw [Int.ediv_ediv_of_nonneg (by omega)]
 congr 1
 rw [Int.pow_succ,Int.mul_comm]
theorem UAC (h:SHasher) (b:Int):∀ (j k i m:Nat) (x:Int) (t:List Int),k+j=i→i≤7→0≤x→x≤9223372036854775807→t.length≤1000→
  WY (m+j+1) (.c2 b (i:Int) x (k:Int) h t)=WY m (.c1 b ((i:Int) - 1) h (t++[x / 256 ^ j % 256])):=by
 intro j
 induction j with
 | zero=>
  intro k i m x t hk hi hx hx2 ht
  have e:w64 ((i:Int) - 1)=(i:Int) - 1:=w64_id (by omega) (by omega)
  have e2:w8 (x.tmod 256)=x % 256:=by rw [Int.tmod_eq_emod_of_nonneg hx,w8_id (by omega) (by omega)]
  rw [WY]
  simp only [Fa,e,e2]
  rw [FN (by simp;omega),TB (by simp;omega),Int.pow_zero,Int.ediv_one]
 | succ j ih=>
  intro k i m x t hk hi hx hx2 ht
  have e:w64 ((k:Int)+1)=((k+1:Nat):Int):=by rw [w64_id (by omega) (by omega)];rfl
  have e2:w64 (x.tdiv 256)=x / 256:=by rw [Int.tdiv_eq_ediv_of_nonneg hx,w64_id (by omega) (by omega)]
  rw [show m+(j+1)+1=(m+j+1)+1 by omega,WY]
  simp only [Fa,e,e2]
  rw [TB (by simp;omega),ih (k+1) i m (x / 256) t (by omega) hi (by omega) (by omega) ht,SAC]
theorem VAC (h:SHasher) (b:Int) (hb:0≤b) (hb2:b≤9223372036854775807):∀ (i m:Nat) (t:List Int),i≤8→t.length+i≤900→WY (m+Va i) (.c1 b ((i:Int) - 1) h t)=WY m (.c1 b (-1) h (t++Oe b i)):=by
 intro i
 induction i with
 | zero=>intro m t _ _;simp [Va,Oe]
 | succ i ih=>
  intro m t hi ht
  rw [Va,show m+(Va i+(i+2))=(m+Va i)+i+1+1 by omega,WY,show ((i+1:Nat):Int) - 1=(i:Int) by omega]
  simp only [Fa]
  rw [TB (by simp),show (0:Int)=((0:Nat):Int) from rfl,UAC h b i 0 i _ b t (by omega) (by omega) hb hb2 (by omega),ih m _ (by omega) (by simp;omega)]
  simp [Oe]
theorem WAC {b:Int} (h:0≤b) (h2:b<1099511627776):Oe b 8=XZ b:=by
 simp only [Oe,XZ,List.cons.injEq,and_true]
 omega
theorem XAC (r:Reg) (hr:r.ok) (t:List Int) (ht:CV t) (n:Nat) (hn:t.length=64*n) (hn2:n≤100):∀ (j i m:Nat),i+j=n→WY (m+j+1) (.c3 ((64*i:Nat):Int) t (comps i r t).l keysL)=some (ofBytes (SN (comps n r t).l)):=by
 intro j
 induction j with
 | zero=>
  intro i m h
  obtain rfl:i=n:=by omega
  rw [WY]
  simp only [Fa]
  rw [FN (by simp;omega),Nu (Reg.Ie (He hr _ _)) (by simp [Reg.l]),Option.bind_some]
 | succ j ih=>
  intro i m h
  have e:w64 (((64*i:Nat):Int)+64)=((64*(i+1):Nat):Int):=by rw [w64_id (by omega) (by omega)];omega
  have hl:((t.drop (64*i)).take (64*(i+1) - 64*i)).length=64:=by rw [List.length_take,List.length_drop];omega
  have hby:CV ((t.drop (64*i)).take (64*(i+1) - 64*i)):=fun x hx=>ht x (List.mem_of_mem_drop (List.mem_of_mem_take hx))
  rw [show m+(j+1)+1=(m+j+1)+1 by omega,WY]
  simp only [Fa,e,Int.toNat_natCast]
  rw [TB (by simp;omega),TB (by simp;omega),O3 (He hr _ _) (by rw [ofBytes_size,hl]),Option.bind_some,NM hby,show 64*(i+1) - 64*i=64 by omega,←X3]
  exact ih (i+1) m (by omega)
theorem YAC (h:SHasher) (r:List Int) (hr:r.length<64):∀ (j i m:Nat),i+j=(119 - r.length) % 64→WY (m+j+1) (.c0 h (r++128::List.replicate i 0))=WY m (.c1 (w64 (8*h.fCount)) 7 h (r++128::List.replicate ((119 - r.length) % 64) 0)):=by
 intro j
 induction j with
 | zero=>
  intro i m hi
  rw [WY]
  simp only [Fa]
  rw [FN (by rw [Int.tmod_eq_emod_of_nonneg (by omega)];simp;omega),show i=(119 - r.length) % 64 by omega]
 | succ j ih=>
  intro i m hi
  rw [show m+(j+1)+1=(m+j+1)+1 by omega,WY]
  simp only [Fa]
  rw [TB (by rw [Int.tmod_eq_emod_of_nonneg (by omega)];simp;omega),TB (by simp;omega)]
  have e:(r++128::List.replicate i (0:Int))++[0]=r++128::List.replicate (i+1) 0:=by
   rw [List.replicate_succ'];simp
  rw [e]
  exact ih (i+1) m (by omega)
theorem ZAC {r:Reg} (hr:r.ok) {s:ByteArray} {n:Nat} (hs:s.size=n % 64) (hn:n≤1000000000):Wi ⟨ofBytes (SN r.l),s,(n:Int)⟩=some (ofBytes (SN (comps ((s.size+(KY n).length) / 64) r (bs s++KY n)).l)):=by
 have e0:KZ ⟨ofBytes (SN r.l),s,(n:Int)⟩=some true:=U3 (by rw [ofBytes_size,Rf];rfl) (by simp only;omega) (by simp only;omega) (by simp only;omega)
 have hl:=bs_len s
 obtain ⟨m,hm⟩:∃ m,gas=((m+((s.size+(KY n).length) / 64)+1+1+Va 8)+((119 - (bs s).length) % 64)+1):=⟨gas - (((s.size+(KY n).length) / 64)+1+1+Va 8+((119 - (bs s).length) % 64)+1),by
  have:=gas_lt (n:=1000) (by omega)
  have h2:=Dn n
  have h3:Va 8=44:=rfl
  omega⟩
 have hw:w64 (8*(n:Int))=8*(n:Int):=w64_id (by omega) (by omega)
 have hrep:(bs s++128::List.replicate ((119 - (bs s).length) % 64) 0)++Oe (8*(n:Int)) 8=bs s++KY n:=by
  rw [WAC (by omega) (by omega),KY,hl,hs,show (119 - n % 64) % 64=(119 - n % 64) % 64 from rfl]
  simp
 rw [Wi,Ls,e0,Option.bind_some,FN (by rfl),TB (by simp;omega),Oj,TB (by rw [hl];simp;omega),hm]
 have h0:=YAC ⟨ofBytes (SN r.l),s,(n:Int)⟩ (bs s) (by omega) ((119 - (bs s).length) % 64) 0 (m+((s.size+(KY n).length) / 64)+1+1+Va 8) (by omega)
 rw [List.replicate_zero] at h0
 rw [h0,show (7:Int)=((8:Nat):Int) - 1 from rfl]
 simp only [hw]
 rw [VAC _ _ (by omega) (by omega) 8 _ _ (by omega) (by simp;omega),hrep,WY]
 simp only [Fa]
 rw [FN (by simp),Y3 hr,Option.bind_some,V3,Option.bind_some]
 have hb:CV (bs s++KY n):=fun x hx=>by
  rcases List.mem_append.1 hx with hx | hx
  ·exact Ic s x hx
  ·exact Ju n x hx
 have hlen:(bs s++KY n).length=64*((s.size+(KY n).length) / 64):=by
  have:=TAA n
  rw [List.length_append,hl]
  omega
 exact XAC r hr _ hb _ hlen (by have:=Dn n;omega) ((s.size+(KY n).length) / 64) 0 m (by omega)
theorem AAD (b:List Int):comps ((b.length+(KY b.length).length) / 64) NZ (b++KY b.length)=comps ((b.length % 64+(KY b.length).length) / 64) (comps (b.length / 64) NZ b) (b.drop (64*(b.length / 64))++KY b.length):=by
 rw [show (b.length+(KY b.length).length) / 64=b.length / 64+(b.length % 64+(KY b.length).length) / 64 by omega,Y0,QAA _ _ _ _ (by omega),List.drop_append_of_le_length (by omega)]
theorem Uu {s:ByteArray} (hs:s.size≤1000000000):Jb s=some (YZ s):=by
 have h1:(s.extract (64*(s.size / 64)) s.size).size=s.size % 64:=by simp;omega
 have h:=ZAC (He Lc (s.size / 64) (bs s)) (s:=s.extract (64*(s.size / 64)) s.size) h1 hs
 rw [MZ,h1,List.take_of_length_le (by rw [bs_len];omega)] at h
 rw [Jb,Ns,EAC,Option.bind_some,GAC hs,Option.bind_some,h,Option.bind_some,YZ,GZ,AAD,bs_len]
theorem O5 (k:List Int) {i:Nat}:(LY k).getD i 0=k.getD i 0:=by
 by_cases h:i<k.length
 ·rw [LY,Nj h]
 ·rw [LY,Gf (by omega)]
  simp only [List.getD]
  rw [List.getElem?_eq_none (by omega:k.length≤i)]
  by_cases h2:i - k.length<64 - k.length
  ·rw [List.getElem?_replicate,if_pos h2];rfl
  ·rw [List.getElem?_replicate,if_neg h2]
theorem P5 (f:Int→Int) {l:List Int} (hl:l.length=64) {i:Nat} (h:i<64) (y:Int) (hy:y=f (l.getD i 0)):((l.take i).map f++List.replicate (64 - i) 0).set i y=(l.take (i+1)).map f++List.replicate (64 - (i+1)) 0:=by
 rw [show 64 - i=(64 - (i+1))+1 by omega,List.replicate_succ,Ae (by simp;omega),take_at (by omega),hy,getD_at (by omega),List.map_append,List.append_assoc]
 rfl
theorem Q5 {k:ByteArray} (hk:k.size≤64) (x:Int):Ef gas (.c0 k x (0:Int) (List.replicate (64:Int).toNat (0:Int)))=some (ofBytes (ZY x (LY (bs k)))):=by
 have hl:(LY (bs k)).length=64:=by rw [LY,List.length_append,List.length_replicate,bs_len];omega
 have key:=loopN (A:=Unit) (n:=64) (Lp:=Ef) (st:=fun i _=>.c0 k x (i:Int) (((LY (bs k)).take i).map (fun b=>xb b x)++List.replicate (64 - i) 0)) (Inv:=fun _ _=>True) (out:=fun _ _=>some (ofBytes (ZY x (LY (bs k)))))
  (fun m _ _=>by
   rw [Ef]
   simp only [Em]
   rw [FN (by simp),List.take_of_length_le (by omega),Nat.sub_self,List.replicate_zero,List.append_nil];rfl)
  (fun m i _ hi _=>.inr ⟨(),by
   have e:w64 ((i:Int)+1)=((i+1:Nat):Int):=by rw [w64_id (by omega) (by omega)];rfl
   have hlen:(((LY (bs k)).take i).map (fun b=>xb b x)++List.replicate (64 - i) 0).length=64:=by simp [hl];omega
   have hm:(((LY (bs k)).take i).map (fun b=>xb b x)).length=i:=by simp [hl];omega
   rw [Ef]
   simp only [Em,e,Int.toNat_natCast,List.length_set,hlen,Gn]
   rw [TB (by simp;omega)]
   by_cases h:i<k.size
   ·rw [TB (by simp;omega),TB (by simp;omega),TB (by simp;omega),TB (by simp;omega),TB (by simp;omega),Ob h]
    rw [List.set_set,AAA (by omega)]
    rw [P5 (fun b=>xb b x) hl hi _ (by rw [O5])]
   ·rw [FN (by simp;omega),TB (by simp;omega),TB (by simp;omega)]
    rw [Gf (by omega),hm,Nat.sub_self]
    rw [P5 (fun b=>xb b x) hl hi _ (by
     rw [O5,show (bs k).getD i 0=0 by simp [List.getD,List.getElem?_eq_none (show (bs k).length≤i by rw [bs_len];omega)]]
     rw [show 64 - i=(63 - i)+1 by omega,List.replicate_succ];rfl)],trivial,rfl⟩)
 exact key gas 0 () (Nat.zero_le _) (gas_lt (by omega)) trivial
theorem U5 {k:ByteArray} (hk:k.size≤1000000000) (x:Int):Zi k x=some (ofBytes (ZY x (Aa (bs k)))):=by
 rw [Zi,Vs]
 by_cases h:64<k.size
 ·rw [TB (by simp;omega),Uu hk,Option.bind_some,Q5 (by rw [Je];omega),Aa,if_pos (by rw [bs_len];omega),En]
 ·rw [FN (by simp;omega),Q5 (by omega),Aa,if_neg (by rw [bs_len];omega)]
theorem V5 {k s:ByteArray} (hk:k.size≤900000000) (hs:s.size≤900000000):Nb k s=some (Na k s):=by
 have x1:=Pn 92 (Aa (bs k))
 have x2:=Pn 54 (Aa (bs k))
 have x3:=LAC (bs k)
 rw [Nb,Ws,U5 (by omega),Option.bind_some,U5 (by omega),Option.bind_some,TB (by rw [ofBytes_size,decide_eq_true_eq];omega)]
 rw [Uu (by rw [ByteArray.size_append,ofBytes_size];omega),Option.bind_some,TB (by rw [ofBytes_size,Je,decide_eq_true_eq];omega),Uu (by rw [ByteArray.size_append,ofBytes_size,Je];omega),Option.bind_some]
 rw [YZ,RY,En,RY,NM (Qn _ _),NM (Qn _ _),Na,QZ]
theorem X5 {k:ByteArray} {num n:Int} (hk:k.size≤900000000):Vd k num n=some (Qa k num n):=by
 rw [Vd,Et,Gu,Option.bind_some,Qa,maskOk]
 cases h:XY num 0 1000000000
 ·rfl
 ·rw [Jc] at h
  rw [FN (by rfl),Gu,Option.bind_some]
  cases h2:XY n 0 8000
  ·rfl
  ·rw [Jc] at h2
   rw [FN (by rfl),Bool.and_self,cond_true]
   have hv:=Jf (n:=num) (by omega)
   have hvb:=Uj h.1
   have key:=loopN (A:=Unit) (n:=(n.toNat+31) / 32) (Lp:=Cj) (st:=fun i _=>.c0 k num n (i:Int) (IZ (bs k) (IK num) i)) (Inv:=fun _ _=>True) (out:=fun _ _=>some (ofBytes (TT (bs k) (IK num) n.toNat),true))
    (fun m _ _=>by
     rw [Cj]
     simp only [Jm]
     rw [FN (by rw [Oa,decide_eq_false_iff_not];omega),TB (by rw [Oa];simp;omega)]
     rfl)
    (fun m i _ hi _=>.inr ⟨(),by
     have e:w64 ((i:Int)+1)=((i+1:Nat):Int):=by rw [w64_id (by omega) (by omega)];rfl
     have h9:(⟨#[109]⟩:ByteArray).size=1:=rfl
     rw [Cj]
     simp only [Jm,e]
     rw [TB (by rw [Oa,decide_eq_true_eq];omega),Qz (by omega),Option.bind_some,TB (by rw [ofBytes_size,h9,decide_eq_true_eq];omega),RAC (by omega) (by omega),Option.bind_some,TB (by rw [ByteArray.size_append,ofBytes_size,ofBytes_size,h9,decide_eq_true_eq,List.length_singleton];omega)]
     rw [V5 hk (by rw [ByteArray.size_append,ByteArray.size_append,ofBytes_size,ofBytes_size,h9,List.length_singleton];omega),Option.bind_some,X4 k h.1 h.2 i (by omega),Oj,NM (Tj _ _),TB (by rw [ofBytes_size,Tf];rfl),TB (by rw [Oa,Tf,decide_eq_true_eq];omega)]
     rfl,trivial,rfl⟩)
   exact key gas 0 () (Nat.zero_le _) (gas_lt (by omega)) trivial
theorem Y5 {a b:ByteArray} (ha:a.size≤140737488351232) (h:a.size≤b.size):Xd a b=some (ofBytes (JY (bs a) (bs b))):=by
 have hl:=bs_len a
 have hl2:=bs_len b
 have key:=loopN (A:=Unit) (n:=(bs a).length) (Lp:=Fj) (st:=fun i _=>.c0 b (i:Int) (List.zipWith xb ((bs a).take i) ((bs b).take i)++(bs a).drop i)) (Inv:=fun _ _=>True) (out:=fun _ _=>some (ofBytes (JY (bs a) (bs b))))
  (fun m _ _=>by
   rw [Fj]
   simp only [Om]
   rw [FN (by simp;omega),List.take_length,List.drop_length,List.append_nil,JY,Qu])
  (fun m i _ hi _=>.inr ⟨(),by
   have e:w64 ((i:Int)+1)=((i+1:Nat):Int):=by rw [w64_id (by omega) (by omega)];rfl
   have hlen:(List.zipWith xb ((bs a).take i) ((bs b).take i)++(bs a).drop i).length=(bs a).length:=by simp;omega
   rw [Fj]
   simp only [Om,e,Int.toNat_natCast,hlen,Gn,Z4 hi (show i<(bs b).length by omega)]
   rw [TB (by simp;omega),TB (by simp;omega),TB (by simp;omega),TB (by simp;omega),Ob (by omega),Y4 hi (by omega)],trivial,rfl⟩)
 rw [Xd,Gt,TB (by simp;omega),Oj]
 exact key gas 0 () (Nat.zero_le _) (gas_lt (by omega)) trivial
theorem Z5 {k s:ByteArray} {num:Int} (hk:k.size≤900000000) (hn:0≤num∧num≤1000000000) (hs:s.size≤800000000):Yd k num s=some (ofBytes (CZ (bs k) num (bs s))):=by
 have hv:=Jf (n:=num) (by omega)
 have h9:(⟨#[116]⟩:ByteArray).size=1:=rfl
 have e:bs (⟨#[116]⟩:ByteArray)=[116]:=rfl
 have h16:(16:Int).toNat=16:=rfl
 rw [Yd,Ht,Qz (by omega),Option.bind_some,TB (by rw [ofBytes_size,h9,decide_eq_true_eq];omega),TB (by rw [ByteArray.size_append,ofBytes_size,h9,decide_eq_true_eq];omega)]
 rw [V5 hk (by rw [ByteArray.size_append,ByteArray.size_append,ofBytes_size,h9];omega),Option.bind_some,TB (by rw [O4];decide)]
 refine congrArg some (FZ ?_)
 rw [MZ,J4,h16,NM (Ua _ _ _),RY,RY,e,NM (Uj hn.1),CZ,List.drop_zero,List.append_assoc]
 rfl
theorem D6 {k s:ByteArray} {num:Int} (hk:k.size≤900000000) (hs:s.size≤800000000):Zd k num s=some (TY k num s):=by
 rw [Zd,Jt,X5 hk,Option.bind_some,Qa,TY]
 cases h:maskOk num s.size
 ·rfl
 ·have h':=Tn.1 h
  have hm:=AZ (bs k) (IK num) ((s.size:Int).toNat)
  have hl:=bs_len s
  rw [cond_true,cond_true,FN (by rfl),Y5 (by omega) (by rw [ofBytes_size,hm];omega),Option.bind_some,NM (Me _ _ _)]
  have hx:(JY (bs s) (TT (bs k) (IK num) (s.size:Int).toNat)).length=s.size:=by rw [Mc (by omega),hl]
  rw [Z5 hk h'.1 (by rw [ofBytes_size,hx];omega),Option.bind_some,NM (Vb _ _),TB (by rw [ofBytes_size,ofBytes_size,hx,Uf,decide_eq_true_eq];omega)]
  refine congrArg (fun x=>some (x,true)) (FZ ?_)
  rw [RY,NM (Vb _ _),NM (Ua _ _ _),NM (fun x hx=>by
   rcases List.mem_append.1 hx with hx | hx
   ·exact Vb _ _ x hx
   ·exact Ua _ _ _ x hx),NY,hl]
  rfl
theorem CAD {c:SL01Cur} {s:ByteArray} (hc:PY c) (hs:s.size≤1000000000):Ok (Gj c s) fun r=>r.1.size≤s.size+1∧PY r.2:=by
 have hw:w64 ((s.size:Int)+1)=(s.size:Int)+1:=w64_id (by omega) (by omega)
 rw [Gj,Ot]
 refine Ok.bind (Ia hc) fun a ha=>Ok.cond (fun _=>?_) fun _=>Ok.cond (fun _=>?_) fun _=>Ok.cond (fun _=>Ok.cond (fun _=>Ok.cond (fun h=>?_) fun _=>Ok.ret ⟨Nat.le_succ _,ha.2⟩) fun _=>Ok.ret ⟨Nat.le_succ _,ha.2⟩) fun _=>Ok.cond (fun _=>Ok.cond (fun h=>?_) fun _=>Ok.ret ⟨Nat.le_succ _,ha.2⟩) fun _=>Ok.ret ⟨Nat.le_succ _,ha.2⟩
 ·refine Ok.bind (Xm ha.2 (by omega)) fun t ht=>?_
  have h1:=ht.1
  exact Ok.chk (by rw [decide_eq_true_eq];omega) (Ok.ret ⟨by show (s++t.1).size≤s.size+1;rw [ByteArray.size_append];omega,ht.2⟩)
 ·rw [hw]
  refine Ok.bind (Ia ha.2) fun t ht=>?_
  have h1:=ht.1.2.1 (by omega)
  have h0:=ht.1.1
  exact Ok.chk (by simp;omega) (Ok.ret ⟨by show (s.extract 0 t.1.toNat).size≤s.size+1;rw [ByteArray.size_extract];omega,ht.2⟩)
 all_goals
  rw [decide_eq_true_eq] at h
  refine Ok.bind (Ia ha.2) fun i hi=>?_
  have h1:=hi.1.2.1 (by omega)
  have h0:=hi.1.1
  refine Ok.chk (by simp;omega) (Ok.bind (Xm hi.2 (by omega)) fun t ht=>?_)
  have h2:=ht.1
  have hw2:w64 (i.1+1)=i.1+1:=w64_id (by omega) (by omega)
  rw [hw2]
  have e1:(s.extract 0 i.1.toNat).size=i.1.toNat:=by rw [ByteArray.size_extract];omega
  have e2:(s.extract (i.1+1).toNat s.size).size=s.size - (i.1+1).toNat:=by rw [ByteArray.size_extract];omega
  exact Ok.chk (by rw [decide_eq_true_eq];omega) (Ok.chk (by simp;omega) (Ok.chk (by rw [decide_eq_true_eq,ByteArray.size_append];omega) (Ok.ret ⟨by show ((s.extract 0 i.1.toNat++t.1)++s.extract (i.1+1).toNat s.size).size≤s.size+1;rw [ByteArray.size_append,ByteArray.size_append];omega,ht.2⟩)))
theorem Vj:∀ {a m:List Int},CV a→a.length≤m.length→JY (JY a m) m=a
 | [],_,_,_=>by simp [JY]
 | _::_,[],_,h=>by simp at h
 | x::a,y::m,hb,h=>by
  have h1:=Vj (a:=a) (m:=m) (fun n hn=>hb n (List.mem_cons_of_mem _ hn)) (by simpa using h)
  simp only [JY] at h1 ⊢
  rw [List.zipWith_cons_cons,List.zipWith_cons_cons,h1,KAC (hb x (List.mem_cons_self ..))]
theorem F6 {k t:ByteArray} {num:Int} (h:(OY k num t).2=true):16≤t.size∧maskOk num ((t.size:Int) - 16)=true∧CZ (bs k) num ((bs t).take (t.size - 16))=(bs t).drop (t.size - 16)∧bs (OY k num t).1=JY ((bs t).take (t.size - 16)) (TT (bs k) (IK num) (t.size - 16))∧bs t=(bs t).take (t.size - 16)++CZ (bs k) num ((bs t).take (t.size - 16)):=by
 rw [OY] at h ⊢
 cases h1:decide ((t.size:Int)<16) || !(maskOk num ((t.size:Int) - 16))
 ·rw [h1,cond_false] at h
  rw [Bool.or_eq_false_iff,decide_eq_false_iff_not,Bool.not_eq_false'] at h1
  cases h2:(CZ (bs k) num ((bs t).take (t.size - 16)) == (bs t).drop (t.size - 16))
  ·rw [h2] at h;cases h
  ·rw [cond_false,cond_true,NM (Vb _ _)]
   have h3:=beq_iff_eq.1 h2
   exact ⟨by omega,h1.2,h3,rfl,by rw [h3,List.take_append_drop]⟩
 ·rw [h1] at h;cases h
theorem DAD (k t:ByteArray) (num:Int):(OY k num t).1.size≤t.size:=by
 have hl:=bs_len t
 rw [OY]
 cases decide ((t.size:Int)<16) || !(maskOk num ((t.size:Int) - 16))
 ·rw [cond_false]
  cases (CZ (bs k) num ((bs t).take (t.size - 16)) == (bs t).drop (t.size - 16))
  ·exact Nat.zero_le _
  ·rw [cond_true,ofBytes_size,JY,List.length_zipWith,List.length_take];omega
 ·exact Nat.zero_le _
theorem EAD {k:ByteArray} {num:Int} {s:List Int} (hs:CV s) (hm:maskOk num s.length=true):OY k num (ofBytes (NY (bs k) num s))=(ofBytes s,true):=by
 have hx:(JY s (TT (bs k) (IK num) s.length)).length=s.length:=Mc (by rw [AZ];omega)
 have hb:CV (NY (bs k) num s):=fun x hx=>by
  rcases List.mem_append.1 hx with hx | hx
  ·exact Vb _ _ x hx
  ·exact Ua _ _ _ x hx
 have hsz:(ofBytes (NY (bs k) num s)).size=s.length+16:=by rw [ofBytes_size,NY,List.length_append,hx,Uf]
 rw [OY,NM hb,hsz,Nat.add_sub_cancel,show ((s.length+16:Nat):Int) - 16=(s.length:Int) by omega,hm]
 have h1:decide (((s.length+16:Nat):Int)<16)=false:=by rw [decide_eq_false_iff_not];omega
 have h2:(NY (bs k) num s).take s.length=JY s (TT (bs k) (IK num) s.length):=by rw [NY,List.take_append_of_le_length (by omega),List.take_of_length_le (by omega)]
 have h3:(NY (bs k) num s).drop s.length=CZ (bs k) num (JY s (TT (bs k) (IK num) s.length)):=by rw [NY,List.drop_append_of_le_length (by omega),List.drop_of_length_le (by omega),List.nil_append]
 rw [h1,h2,h3,beq_self_eq_true,Vj hs (by rw [AZ];omega)]
 rfl
theorem FAD {k t:ByteArray} {num:Int} (h:(OY k num t).2=true):NY (bs k) num (bs (OY k num t).1)=bs t:=by
 obtain ⟨h1,h2,h3,h4,h5⟩:=F6 h
 have hl:((bs t).take (t.size - 16)).length=t.size - 16:=by rw [List.length_take,bs_len];omega
 have hx:(bs (OY k num t).1).length=t.size - 16:=by rw [h4,Mc (by rw [AZ];omega),hl]
 rw [NY,hx,h4,Vj (fun n hn=>Ic t n (List.mem_of_mem_take hn)) (by rw [AZ];omega),←h5]
theorem AAE {k:ByteArray} {num:Int} {a b:List Int} (ha:CV a) (hb:CV b) (h:NY (bs k) num a=NY (bs k) num b):a=b:=by
 have xa:(JY a (TT (bs k) (IK num) a.length)).length=a.length:=Mc (by rw [AZ];omega)
 have xb':(JY b (TT (bs k) (IK num) b.length)).length=b.length:=Mc (by rw [AZ];omega)
 have hl:=congrArg List.length h
 rw [NY,NY,List.length_append,List.length_append,xa,xb',Uf,Uf] at hl
 have hab:a.length=b.length:=by omega
 have h1:=(List.append_inj h (by rw [xa,xb',hab])).1
 have h2:JY (JY a (TT (bs k) (IK num) a.length)) (TT (bs k) (IK num) a.length)=JY (JY b (TT (bs k) (IK num) b.length)) (TT (bs k) (IK num) b.length):=by rw [h1,hab]
 rw [Vj ha (by rw [AZ];omega),Vj hb (by rw [AZ];omega)] at h2
 exact h2
theorem G6 (k:List Int) (num:Int) (s:List Int):(NY k num s).length=s.length+16:=by rw [NY,List.length_append,Mc (by rw [AZ];omega),Uf]
theorem BAE (k:List Int) (num:Int) (s:List Int):CV (NY k num s):=fun x hx=>by
 rcases List.mem_append.1 hx with hx | hx
 ·exact Vb _ _ x hx
 ·exact Ua _ _ _ x hx
theorem H6 (k s:ByteArray) (num:Int):(TY k num s).1.size≤s.size+16:=by
 rw [TY]
 cases maskOk num s.size
 ·exact Nat.zero_le _
 ·show (ofBytes (NY (bs k) num (bs s))).size≤_
  rw [ofBytes_size,G6,bs_len];omega
theorem GAD {k s:ByteArray} {num:Int} (h:(TY k num s).2=true):OY k num (TY k num s).1=(s,true)∧(TY k num s).1.size=s.size+16:=by
 rw [TY] at h ⊢
 cases hm:maskOk num s.size
 ·rw [hm] at h;cases h
 ·rw [cond_true]
  exact ⟨by show OY k num (ofBytes (NY (bs k) num (bs s)))=_;rw [EAD (Ic s) (by rw [bs_len];exact hm),Um],by show (ofBytes (NY (bs k) num (bs s))).size=_;rw [ofBytes_size,G6,bs_len]⟩
theorem IAD {k t:ByteArray} {num:Int} (h:(OY k num t).2=true):TY k num (OY k num t).1=(t,true):=by
 obtain ⟨h1,h2,h3,h4,h5⟩:=F6 h
 have hl:((bs t).take (t.size - 16)).length=t.size - 16:=by rw [List.length_take,bs_len];omega
 have hx:(OY k num t).1.size=t.size - 16:=by rw [←bs_len,h4,Mc (by rw [AZ];omega),hl]
 rw [TY,hx,show ((t.size - 16:Nat):Int)=(t.size:Int) - 16 by omega,h2,cond_true,FAD h,Um]
theorem JAD:Ok (Ij ()) fun r=>r.1.size≤101∧r.2.2.size≤200:=by
 rw [Ij,Tt]
 refine Ok.bind Iz fun c hc=>Ok.bind (Kz hc) fun k hk=>Ok.bind (Ia hk.2) fun n hn=>Ok.bind (Nz hn.2) fun s hs=>?_
 have h1:=hk.1
 have h2:=hs.1
 have h3:=H6 k.1 s.1 n.1
 refine Ok.bind (Ok.eq (D6 (by omega) (by omega))) fun t ht=>Ok.bind (Ia hs.2) fun q hq=>?_
 subst ht
 refine Ok.cond (fun _=>?_) fun _=>Ok.cond (fun _=>Ok.ret ⟨by show k.1.size≤101;omega,by show (TY k.1 n.1 s.1).1.size≤200;omega⟩) fun _=>Ok.cond (fun _=>?_) fun _=>Ok.ret ⟨by show k.1.size≤101;omega,by show (TY k.1 n.1 s.1).1.size≤200;omega⟩
 ·refine Ok.bind (CAD hq.2 (by omega)) fun u hu=>Ok.ret ⟨by show k.1.size≤101;omega,?_⟩
  have:=hu.1
  show u.1.size≤200;omega
 ·have e:(⟨#[120]⟩:ByteArray).size=1:=rfl
  exact Ok.chk (by rw [decide_eq_true_eq];omega) (Ok.ret ⟨by show (k.1++(⟨#[120]⟩:ByteArray)).size≤101;rw [ByteArray.size_append];omega,by show (TY k.1 n.1 s.1).1.size≤200;omega⟩)
theorem KAD {k t:ByteArray} {num:Int} (hk:k.size≤900000000) (ht:t.size≤800000000):Jj k num t=some (OY k num t):=by
 rw [Jj,Yt,OY]
 have hw:w64 ((t.size:Int) - 16)=(t.size:Int) - 16:=w64_id (by omega) (by omega)
 rw [hw]
 by_cases h:t.size<16
 ·rw [TB (by simp;omega),TB (by simp;omega)]
 ·obtain ⟨n,hn⟩:∃ n,t.size=n+16:=⟨t.size - 16,by omega⟩
  obtain ⟨e1,e2⟩:=I5 t hn
  have hz:(t.size:Int) - 16=(n:Int):=by omega
  have hb:=bs_len t
  have hes:(t.extract 0 n).size=n:=by simp;omega
  rw [FN (by simp;omega),hz,Int.toNat_natCast,hes,TB (by simp;omega),X5 hk,Option.bind_some,Qa,show decide ((t.size:Int)<16)=false by simp;omega,Bool.false_or]
  cases hm:maskOk num n
  ·rfl
  ·have h':=Tn.1 hm
   have hml:=AZ (bs k) (IK num) n
   rw [Bool.not_true,cond_false,cond_true,FN (by rfl),Int.toNat_natCast,Z5 hk h'.1 (by omega),Option.bind_some,TB (by simp;omega)]
   simp only [Sm,Vt,Option.bind_some,G5,NM (Ua _ _ _),e1,e2]
   cases hc:(CZ (bs k) num ((bs t).take (t.size - 16)) == (bs t).drop (t.size - 16))
   ·rfl
   ·rw [Bool.not_true,cond_false,Y5 (by omega) (by rw [ofBytes_size,hml];omega),Option.bind_some,NM (Me _ _ _),e1,cond_true,show t.size - 16=n by omega]
theorem LAD (a b:ByteArray):Lj a b=some (decide (a.size≤b.size) && (bs b).take a.size == bs a):=by
 rw [Lj,Au]
 by_cases h:a.size≤b.size
 ·rw [TB (by simp;omega),TB (by simp;omega),decide_eq_true h,Bool.true_and,Int.toNat_natCast,toList_inj]
  refine congrArg some ?_
  rw [Bool.eq_iff_iff,decide_eq_true_eq,beq_iff_eq]
  have e:bs (b.extract 0 a.size)=(bs b).take a.size:=by rw [MZ,List.drop_zero]
  exact ⟨fun h=>by rw [←e,h],fun h=>FZ (by rw [e,h])⟩
 ·rw [FN (by simp;omega),decide_eq_false h];rfl
theorem MAD (k v:List Int):(TT k v 70).take 40=TT k v 40:=by
 have e:IZ k v 3=IZ k v 2++QZ k (109::(v++[((2:Nat):Int)])):=rfl
 have h2:=Oa k v 2
 rw [TT,TT,List.take_take]
 show (IZ k v 3).take 40=(IZ k v 2).take 40
 rw [e,List.take_append_of_le_length (by omega)]
theorem law_FnLocks (x0:Unit):laws_FnLocks x0=some true:=by
 rw [laws_FnLocks,Du,X9,Option.bind_some]
 cases decide ((codeL.length:Int) > 1048576)
 ·rw [cond_false]
  obtain ⟨⟨key,num,s⟩,h1,g1,g4⟩:=EAA
  obtain ⟨⟨k,n,u⟩,h2,g2,g3⟩:=JAD
  have g1:key.size≤100:=g1
  have g4:s.size≤100:=g4
  have g2:k.size≤101:=g2
  have g3:u.size≤200:=g3
  have z:=H6 key s num
  have z2:=DAD k u n
  have m40:Qa key 3 40=(ofBytes (TT (bs key) (IK 3) 40),true):=rfl
  have m70:Qa key 3 70=(ofBytes (TT (bs key) (IK 3) 70),true):=rfl
  have hb:(decide ((ofBytes (TT (bs key) (IK 3) 40)).size≤(ofBytes (TT (bs key) (IK 3) 70)).size) && (bs (ofBytes (TT (bs key) (IK 3) 70))).take (ofBytes (TT (bs key) (IK 3) 40)).size == bs (ofBytes (TT (bs key) (IK 3) 40)))=true:=by
   rw [NM (Me _ _ _),NM (Me _ _ _),ofBytes_size,ofBytes_size,AZ,AZ,MAD];simp
  have hz:((ofBytes (TT (bs key) (IK 3) 70)).size:Int) == 70:=by rw [ofBytes_size,AZ];rfl
  simp only [h1,h2,Option.bind_some,F5 (k:=key) (s:=s) (by omega) (by omega),D6 (k:=key) (s:=s) (by omega) (by omega),J5 (k:=key) (t:=(TY key num s).1) (by omega) (by omega),J5 (k:=k) (t:=u) (by omega) (by omega),KAD (k:=k) (t:=u) (by omega) (by omega),F5 (k:=k) (s:=(OY k n u).1) (by omega) (by omega),Ru (k:=key) (by omega),m40,m70,LAD,hb,hz,beq_self_eq_true,Bool.not_true,cond_false,cond_true]
  have last:(bif !(OY k n u).2 then some true else bif (ByteArray.toList (TY k n (OY k n u).1).1) == (ByteArray.toList u) then some true else some false)=some true:=by
   cases h:(OY k n u).2
   ·rfl
   ·rw [IAD h];simp
  rw [last]
  cases h:(TY key num s).2
  ·rfl
  ·obtain ⟨e1,e2⟩:=GAD h
   rw [e1,e2,w64_id (n:=(s.size:Int)+16) (by omega) (by omega)];simp
 ·rfl
end Go.Proofs.YtjfkbidckphneaaDoor.G
