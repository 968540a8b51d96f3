/- The plain law of FnRules: whatever the arguments, it answers true. Conditions: what is read is in reach. Part 1 of 1. -/
import Derived.Test.YtjfkbidckphneaaFFnRules
import Derived.Test.YtjfkbidckphneaaOpens
import Derived.Test.YtjfkbidckphneaaPBase
namespace Go.Proofs.Ytjfkbidckphneaa.G
open Go Go.Ev
set_option linter.unusedVariables false
set_option linter.unusedSimpArgs false
set_option linter.unusedSectionVars false
variable [PC]
theorem Po (u:Unit):Ba u=some (decide ((codeL.length:Int) > 1048576)):=rfl
def bs (s:ByteArray):List Int:=s.data.toList.map fun b=>(b.toNat:Int)
theorem bs_len (s:ByteArray):(bs s).length=s.size:=by unfold bs;rw [List.length_map];rfl
theorem Qo {s:ByteArray} {n:Int} (h:n ∈ bs s):0≤n∧n≤255:=by
 unfold bs at h;rw [List.mem_map] at h;obtain ⟨b,_,rfl⟩:=h
 have:=b.toNat_lt;omega
theorem Ro (a b:ByteArray):bs (a++b)=bs a++bs b:=by simp [bs]
theorem Uk (s:ByteArray):ofBytes (bs s)=s:=by
 cases s;simp [ofBytes,bs,Function.comp_def]
theorem Uo {s t:ByteArray} (h:bs s=bs t):s=t:=by rw [←Uk s,h,Uk]
theorem Di {l:List Int} (h:∀ n,n ∈ l→0≤n∧n≤255):bs (ofBytes l)=l:=by
 simp only [bs,ofBytes,List.map_map]
 conv=>rhs;rw [←List.map_id l]
 apply List.map_congr_left
 intro n hn
 obtain ⟨h1,h2⟩:=h n hn
 simp only [Function.comp,UInt8.toNat_ofNat',id]
 omega
theorem Vo {s:ByteArray} {i:Nat} (h:i<s.size):bt s (i:Int)=(bs s)[i]'(by rw [bs_len];exact h):=by
 simp only [bt,Int.toNat_natCast,h,dite_true,bs,List.getElem_map]
 rfl
theorem Vs (s:ByteArray) (i:Int):0≤bt s i∧bt s i≤255:=by
 unfold bt;split
 ·have:=(s[i.toNat]).toNat_lt;omega
 ·omega
theorem Vk (s:ByteArray) (i j:Nat):bs (s.extract i j)=((bs s).take j).drop i:=by
 simp only [bs,ByteArray.data_extract,Array.toList_extract,List.extract_eq_take_drop,List.map_take,List.map_drop]
 rw [List.drop_take]
theorem TB {α:Type} {c:Bool} {a b:α} (h:c=true):(bif c then a else b)=a:=by rw [h];rfl
theorem KY {α:Type} {c:Bool} {a b:α} (h:c=false):(bif c then a else b)=b:=by rw [h];rfl
theorem Ud {s:ByteArray} {i:Nat} (h:i<s.size):bt s (i:Int)=(bs s).getD i 0:=by rw [Vo h,getD_at]
theorem Ws {s:ByteArray} {i:Int} {j:Nat} (e:i=(j:Int)) (h:j<s.size):bt s i=(bs s).getD j 0:=by rw [e,Ud h]
theorem Dt {α:Type} {a b:List α} {i:Nat} (h:i<a.length) (d:α):(a++b).getD i d=a.getD i d:=by simp [List.getD,List.getElem?_append_left h]
theorem Et {α:Type} {a b:List α} {i:Nat} (h:a.length≤i) (d:α):(a++b).getD i d=b.getD (i - a.length) d:=by simp [List.getD,List.getElem?_append_right h]
theorem Gt {α:Type} {a b:List α} {x y:α} {i:Nat} (h:a.length=i):(a++x::b).set i y=a++y::b:=by
 rw [List.set_append_right _ _ (by omega),h,Nat.sub_self];rfl
theorem Ht {a b:Nat} (h:a=b):Nat.beq a b=true:=by subst h;exact Nat.beq_refl _
theorem Jt {P:Int→Prop} (n:Int) (h:0≤n) (k:∀ m:Nat,n=(m:Int)→P (m:Int)):P n:=by
 have:=k n.toNat (by omega)
 rwa [show ((n.toNat:Nat):Int)=n by omega] at this
theorem Kt:bs (⟨#[]⟩:ByteArray)=[]:=rfl
def XY (l:List Int):Prop:=∀ n,n ∈ l→0≤n∧n≤255
theorem MZ {l:List Int} (h:XY l) (i:Nat):0≤l.getD i 0∧l.getD i 0≤255:=by
 by_cases hi:i<l.length
 ·rw [getD_at hi];exact h _ (List.getElem_mem hi)
 ·have:l.getD i 0=0:=by simp [List.getD,List.getElem?_eq_none (Nat.le_of_not_lt hi)]
  omega
theorem Ei (s:ByteArray):XY (bs s):=fun _ h=>Qo h
theorem Xo (s:ByteArray):bytesOf s=bs s:=rfl
theorem Ot {α:Type} {l:List α} {i:Nat} (h:i<l.length) (y d:α):(l.set i y).getD i d=y:=by simp [List.getD,h]
def Ok {α:Type} (x:Option α) (Q:α→Prop):Prop:=∃ a,x=some a∧Q a
theorem Ok.bind {α β:Type} {x:Option α} {f:α→Option β} {Q:α→Prop} {R:β→Prop} (h:Ok x Q) (k:∀ a,Q a→Ok (f a) R):Ok (x.bind f) R:=by
 obtain ⟨a,rfl,h⟩:=h;exact k a h
theorem Ok.cond {α:Type} {c:Bool} {a b:Option α} {R:α→Prop} (h1:c=true→Ok a R) (h2:c=false→Ok b R):Ok (bif c then a else b) R:=by
 cases c
 ·exact h2 rfl
 ·exact h1 rfl
theorem Ok.chk {α:Type} {c:Bool} {a:Option α} {R:α→Prop} (hc:c=true) (h1:Ok a R):Ok (bif c then a else none) R:=by rw [hc];exact h1
theorem Ok.ret {α:Type} {a:α} {R:α→Prop} (h:R a):Ok (some a) R:=⟨a,rfl,h⟩
theorem Ok.eq {α:Type} {x:Option α} {a:α} (h:x=some a):Ok x (fun b=>b=a):=⟨a,h,rfl⟩
theorem Ok.mono {α:Type} {x:Option α} {Q R:α→Prop} (h:Ok x Q) (k:∀ a,Q a→R a):Ok x R:=by obtain ⟨a,h1,h2⟩:=h;exact ⟨a,h1,k a h2⟩
def TT (c:SL01Cur):Prop:=0≤c.fI
theorem Rt (n:Int) : -9223372036854775808≤w64 n∧w64 n≤9223372036854775807:=by
 simp only [w64,IntKind.wrap,IntKind.signed,IntKind.bits]
 simp
 omega
theorem Hf (n:Int):0≤w64 ((BitVec.toNat (BitVec.ofInt (IntKind.bits IntKind.i64) n &&& BitVec.ofInt (IntKind.bits IntKind.i64) 255):Nat):Int)∧w64 ((BitVec.toNat (BitVec.ofInt (IntKind.bits IntKind.i64) n &&& BitVec.ofInt (IntKind.bits IntKind.i64) 255):Nat):Int)≤255:=by
 have h:(BitVec.ofInt (IntKind.bits IntKind.i64) n &&& BitVec.ofInt (IntKind.bits IntKind.i64) 255).toNat≤255:=by
  rw [BitVec.toNat_and]
  exact Nat.le_trans Nat.and_le_right (by decide)
 rw [w64_id (by omega) (by omega)]
 omega
theorem Yo:Ok (Qb ()) TT:=by
 have hl:codeL.length≤140737488351232:=PC.hl
 have key:∀ (j i m:Nat) (h:Int),i+j=codeL.length→Ok (Ob (m+j+1) (.c0 h (i:Int))) TT:=by
  intro j
  induction j with
  | zero=>
   intro i m h hi
   rw [Ob];simp only [Ae]
   rw [KY (by simp;omega)]
   exact Ok.ret (Int.le_refl 0)
  | succ j ih=>
   intro i m h hi
   have hw:w64 ((i:Int)+1)=((i+1:Nat):Int):=by rw [w64_id (by omega) (by omega)];rfl
   rw [show m+(j+1)+1=(m+j+1)+1 from rfl,Ob]
   simp only [Ae,hw]
   refine Ok.cond (fun _=>Ok.cond (fun _=>?_) fun _=>Ok.ret (Int.le_refl 0)) fun _=>Ok.ret (Int.le_refl 0)
   refine Ok.chk (by simp;omega) (Ok.chk (by rw [Int.toNat_natCast];exact Nat.ble_eq_true_of_le (by omega)) (ih (i+1) m _ (by omega)))
 obtain ⟨m,hm⟩:∃ m,gas=m+codeL.length+1:=⟨gas - (codeL.length+1),by have:=gas_lt (n:=codeL.length+1) (by omega);omega⟩
 rw [Qb,Tf,hm]
 exact key codeL.length 0 m _ (Nat.zero_add _)
theorem Va {c:SL01Cur} (hc:TT c):Ok (EZ c) fun r=>0≤r.1∧r.1≤255∧TT r.2:=by
 have hl:codeL.length≤140737488351232:=PC.hl
 have hc:0≤c.fI:=hc
 rw [EZ,Uf]
 refine Ok.cond (fun h=>?_) fun h=>Ok.ret ⟨(Hf _).1,(Hf _).2,hc⟩
 rw [decide_eq_true_eq] at h
 refine Ok.chk (by simp;omega) (Ok.chk (Nat.ble_eq_true_of_le (by omega)) (Ok.ret ⟨(Hf _).1,(Hf _).2,?_⟩))
 show 0≤w64 (c.fI+1)
 rw [w64_id (by omega) (by omega)];omega
theorem tmod_lt {a n:Int} (ha:0≤a) (hn:0<n):0≤a.tmod n∧a.tmod n<n:=⟨Int.tmod_nonneg _ ha,Int.tmod_lt_of_pos _ hn⟩
theorem IZ {c:SL01Cur} {n:Int} (hc:TT c):Ok (PY c n) fun r=>(0≤r.1∧(0<n→r.1<n)∧(n≤0→r.1=0))∧TT r.2:=by
 rw [PY,Xf]
 refine Ok.cond (fun h=>?_) fun h=>?_
 ·rw [decide_eq_true_eq] at h
  exact Ok.ret ⟨⟨Int.le_refl 0,fun h2=>h2,fun _=>rfl⟩,hc⟩
 ·rw [decide_eq_false_iff_not] at h
  have hn:(!(n == 0))=true:=by simp;omega
  refine Ok.cond (fun _=>?_) fun _=>?_
  ·refine Ok.bind (Va hc) fun a ha=>Ok.chk hn (Ok.ret ?_)
   have:=tmod_lt ha.1 (show 0<n by omega)
   exact ⟨⟨this.1,fun _=>this.2,fun h2=>by omega⟩,ha.2.2⟩
  ·refine Ok.bind (Va hc) fun a ha=>Ok.bind (Va ha.2.2) fun b hb=>Ok.bind (Va hb.2.2) fun d hd=>Ok.bind (Va hd.2.2) fun e he=>Ok.chk hn (Ok.ret ?_)
   obtain ⟨a1,a2,_⟩:=ha
   obtain ⟨b1,b2,_⟩:=hb
   obtain ⟨d1,d2,_⟩:=hd
   obtain ⟨e1,e2,e3⟩:=he
   have hw:w64 (w64 (w64 (w64 (a.1*16777216)+w64 (b.1*65536))+w64 (d.1*256))+e.1)=a.1*16777216+b.1*65536+d.1*256+e.1:=by
    rw [w64_id (n:=a.1*16777216) (by omega) (by omega),w64_id (n:=b.1*65536) (by omega) (by omega),w64_id (n:=d.1*256) (by omega) (by omega),w64_id (n:=a.1*16777216+b.1*65536) (by omega) (by omega),w64_id (n:=a.1*16777216+b.1*65536+d.1*256) (by omega) (by omega),w64_id (by omega) (by omega)]
   have:=tmod_lt (show 0≤a.1*16777216+b.1*65536+d.1*256+e.1 by omega) (show 0<n by omega)
   simp only [hw]
   exact ⟨⟨this.1,fun _=>this.2,fun h2=>by omega⟩,e3⟩
theorem Xa {c:SL01Cur} {n:Int} (hc:TT c):Ok (OZ c n) fun r=>TT r.2:=by
 rw [OZ,Yf]
 exact Ok.bind (IZ hc) fun a ha=>Ok.ret ha.2
theorem Zo {c:SL01Cur} {n:Int} (hc:TT c) (h0:0≤n):Ok (Zb c n) fun r=>(r.1.size:Int)=min n 5000∧TT r.2:=by
 have key:∀ (j i m:Nat) (N:Nat) (a b:Int) (out:List Int),i+j=N→N≤5000→out.length=i→0≤a→Ok (Ea (m+j+1) (.c0 (N:Int) (i:Int) a b out)) fun r=>r.1.size=N∧TT r.2:=by
  intro j
  induction j with
  | zero=>
   intro i m N a b out hi hN ho ha
   rw [Ea];simp only [Ee]
   rw [KY (by simp;omega)]
   exact Ok.ret ⟨by rw [ofBytes_size];omega,ha⟩
  | succ j ih=>
   intro i m N a b out hi hN ho ha
   have hw:w64 ((i:Int)+1)=((i+1:Nat):Int):=by rw [w64_id (by omega) (by omega)];rfl
   rw [show m+(j+1)+1=(m+j+1)+1 from rfl,Ea]
   simp only [Ee,hw]
   rw [TB (by simp;omega)]
   exact Ok.bind (Va (c:=⟨(),a,b⟩) ha) fun r hr=>Ok.chk (by simp;omega) (ih (i+1) m N _ _ _ (by omega) hN (by simp [ho]) hr.2.2)
 rw [Zb,Ag]
 have run:∀ N:Nat,N≤5000→Ok (Ea gas (.c0 (N:Int) 0 c.fI c.fH [])) fun r=>r.1.size=N∧TT r.2:=fun N hN=>by
  obtain ⟨m,hm⟩:∃ m,gas=m+N+1:=⟨gas - (N+1),by have:=gas_lt (n:=N+1) (by omega);omega⟩
  rw [hm]
  exact key N 0 m N _ _ [] (Nat.zero_add _) hN rfl hc
 refine Ok.cond (fun h=>?_) fun h=>?_
 ·rw [decide_eq_true_eq] at h
  exact (run 5000 (Nat.le_refl _)).mono fun r hr=>⟨by omega,hr.2⟩
 ·rw [decide_eq_false_iff_not] at h
  have:=run n.toNat (by omega)
  rw [show ((n.toNat:Nat):Int)=n by omega] at this
  exact this.mono fun r hr=>⟨by omega,hr.2⟩
theorem Xk {c:SL01Cur} {l:List ByteArray} (hc:TT c) (hl:0<l.length):Ok (Ac c l) fun r=>r.1 ∈ l∧TT r.2:=by
 rw [Ac,Fg]
 refine Ok.bind (IZ hc) fun a ha=>?_
 have h1:=ha.1.2.1 (by omega)
 refine Ok.chk (by simp;omega) (Ok.ret ⟨?_,ha.2⟩)
 rw [getD_at (by omega)];exact List.getElem_mem _
theorem Ya {n:Int}:w32 n=n % 4294967296:=by
 simp only [w32,IntKind.wrap,IntKind.signed,IntKind.bits]
 simp
theorem JZ {n:Int} (h1:0≤n) (h2:n<4294967296):w32 n=n:=by rw [Ya];omega
def R32 (n:Int):Prop:=0≤n∧n<4294967296
theorem SY (n:Int):R32 (w32 n):=by unfold R32;rw [Ya];omega
theorem Tt {n:Int} (h:0≤n∧n≤255):R32 n:=by unfold R32;omega
def xr (x y:Int):Int:=w32 (((BitVec.toNat ((BitVec.ofInt (IntKind.bits IntKind.u32) x) ^^^ (BitVec.ofInt (IntKind.bits IntKind.u32) y))):Nat):Int)
def an (x y:Int):Int:=w32 (((BitVec.toNat ((BitVec.ofInt (IntKind.bits IntKind.u32) x) &&& (BitVec.ofInt (IntKind.bits IntKind.u32) y))):Nat):Int)
def Jf (x y:Int):Int:=w32 (((BitVec.toNat ((BitVec.ofInt (IntKind.bits IntKind.u32) x) ||| (BitVec.ofInt (IntKind.bits IntKind.u32) y))):Nat):Int)
theorem Vd (x y:Int):w32 (((BitVec.toNat ((BitVec.ofInt (IntKind.bits IntKind.u32) x) ^^^ (BitVec.ofInt (IntKind.bits IntKind.u32) y))):Nat):Int)=xr x y:=rfl
theorem Ap (x y:Int):w32 (((BitVec.toNat ((BitVec.ofInt (IntKind.bits IntKind.u32) x) &&& (BitVec.ofInt (IntKind.bits IntKind.u32) y))):Nat):Int)=an x y:=rfl
theorem Ut (x y:Int):w32 (((BitVec.toNat ((BitVec.ofInt (IntKind.bits IntKind.u32) x) ||| (BitVec.ofInt (IntKind.bits IntKind.u32) y))):Nat):Int)=Jf x y:=rfl
theorem Vt (x y:Int):R32 (xr x y):=SY _
theorem Xt (x y:Int):R32 (an x y):=SY _
theorem Dp {a b:Nat} {s:Nat} (hb:b<2 ^ s) (ha:a*2 ^ s<4294967296) (hs:b<4294967296):Jf ((a*2 ^ s:Nat):Int) (b:Int)=((a*2 ^ s+b:Nat):Int):=by
 have e:a*2 ^ s ||| b=a*2 ^ s+b:=by
  have:=Nat.shiftLeft_add_eq_or_of_lt hb a
  rw [Nat.shiftLeft_eq] at this
  exact this.symm
 unfold Jf
 have h3:a*2 ^ s ||| b<2 ^ 32:=Nat.or_lt_two_pow (by omega) (by omega)
 rw [BitVec.toNat_or]
 show w32 (((BitVec.ofInt 32 _).toNat ||| (BitVec.ofInt 32 _).toNat:Nat):Int)=_
 rw [BitVec.ofInt_natCast,BitVec.ofInt_natCast,BitVec.toNat_ofNat,BitVec.toNat_ofNat,Nat.mod_eq_of_lt (by omega),Nat.mod_eq_of_lt (by omega),e]
 rw [e] at h3
 exact JZ (by omega) (by omega)
theorem Yt {e:Int} (h:R32 e):xr (ite ((IntKind.signed IntKind.u32)=true) (-(1:Int)) (IntKind.max IntKind.u32)) e=w32 (4294967295 - e):=by
 obtain ⟨h1,h2⟩:=h
 obtain ⟨n,rfl⟩:∃ n:Nat,e=(n:Int):=⟨e.toNat,by omega⟩
 have hn:n<4294967296:=by omega
 have e1:(ite ((IntKind.signed IntKind.u32)=true) (-(1:Int)) (IntKind.max IntKind.u32))=4294967295:=by decide
 rw [e1]
 unfold xr
 show w32 (((BitVec.ofInt 32 4294967295 ^^^ BitVec.ofInt 32 (n:Int)).toNat:Nat):Int)=_
 have e2:BitVec.ofInt 32 4294967295=BitVec.allOnes 32:=by decide
 rw [e2,BitVec.ofInt_natCast,BitVec.allOnes_xor,BitVec.toNat_not,BitVec.toNat_ofNat]
 rw [Ya,Ya]
 omega
def rt (low high x:Int):Int:=x / low+x % low*high
theorem Ep {low high x:Int} (h:R32 x) (hl:0<low) (hh:0<high) (hlh:low*high=4294967296):R32 (rt low high x):=by
 unfold R32 rt at *
 have h1:0≤x / low:=Int.ediv_nonneg h.1 (by omega)
 have h2:0≤x % low:=Int.emod_nonneg _ (by omega)
 have h3:x % low<low:=Int.emod_lt_of_pos _ hl
 have h4:x / low<high:=Int.ediv_lt_of_lt_mul hl (by rw [Int.mul_comm,hlh];exact h.2)
 have h5:0≤x % low*high:=Int.mul_nonneg h2 (by omega)
 have h6:x % low*high≤(low - 1)*high:=Int.mul_le_mul_of_nonneg_right (by omega) (by omega)
 have h7:(low - 1)*high=low*high - high:=by rw [Int.sub_mul,Int.one_mul]
 omega
theorem Zt {x:Int} (h:R32 x) (n:Nat) (hn:0<n) (hn2:n<32):Jf (w32 (x*2 ^ (32 - n))) (x / 2 ^ n)=rt (2 ^ n) (2 ^ (32 - n)) x:=by
 obtain ⟨h1,h2⟩:=h
 obtain ⟨y,rfl⟩:∃ y:Nat,x=(y:Int):=⟨x.toNat,by omega⟩
 have hy:y<4294967296:=by omega
 have e0:(4294967296:Nat)=2 ^ n*2 ^ (32 - n):=by rw [←Nat.pow_add,show n+(32 - n)=32 by omega]
 have e1:w32 ((y:Int)*2 ^ (32 - n))=((y % 2 ^ n*2 ^ (32 - n):Nat):Int):=by
  rw [Ya]
  have h5:((y:Int)*2 ^ (32 - n))=((y*2 ^ (32 - n):Nat):Int):=by push_cast;rfl
  have h6:y*2 ^ (32 - n) % 4294967296=y % 2 ^ n*2 ^ (32 - n):=by rw [e0,Nat.mul_mod_mul_right]
  rw [h5,←h6]
  omega
 have e2:((y:Int) / 2 ^ n)=((y / 2 ^ n:Nat):Int):=by push_cast;rfl
 have hp:0<2 ^ n:=Nat.two_pow_pos n
 have hp2:0<2 ^ (32 - n):=Nat.two_pow_pos _
 have hm:y % 2 ^ n<2 ^ n:=Nat.mod_lt _ hp
 have hd:y / 2 ^ n<2 ^ (32 - n):=Nat.div_lt_of_lt_mul (by rw [←e0];exact hy)
 rw [e1,e2,Dp hd (by rw [e0];exact Nat.mul_lt_mul_of_pos_right hm hp2) (Nat.lt_of_le_of_lt (Nat.div_le_self _ _) hy)]
 unfold rt
 push_cast
 omega
def Yk (x:Int):Int:=xr (xr (rt 128 33554432 x) (rt 262144 16384 x)) (x / 8)
def sg1 (x:Int):Int:=xr (xr (rt 131072 32768 x) (rt 524288 8192 x)) (x / 1024)
def Zk (x:Int):Int:=xr (xr (rt 64 67108864 x) (rt 2048 2097152 x)) (rt 33554432 128 x)
def Bl (x:Int):Int:=xr (xr (rt 4 1073741824 x) (rt 8192 524288 x)) (rt 4194304 1024 x)
def Fp (w:List Int) (t:Nat):Int:=w32 (w32 (w32 (sg1 (w.getD (t - 2) 0)+w.getD (t - 7) 0)+Yk (w.getD (t - 15) 0))+w.getD (t - 16) 0)
def sched (w:List Int):Nat→List Int
 | 0=>w
 | n+1=>sched w n++[Fp (sched w n) (16+n)]
theorem Dl {w:List Int} (h:w.length=16) (n:Nat):(sched w n).length=16+n:=by
 induction n with
 | zero=>exact h
 | succ n ih=>simp [sched,ih];omega
theorem Gl {w:List Int} (h:∀ x ∈ w,R32 x) (n:Nat):∀ x ∈ sched w n,R32 x:=by
 induction n with
 | zero=>exact h
 | succ n ih=>
  intro x hx
  rw [sched,List.mem_append,List.mem_singleton] at hx
  rcases hx with hx | rfl
  ·exact ih x hx
  ·exact SY _
theorem Hl {l:List Int} (h:∀ x ∈ l,R32 x) (i:Nat):R32 (l.getD i 0):=by
 by_cases hi:i<l.length
 ·rw [getD_at hi];exact h _ (List.getElem_mem hi)
 ·have:l.getD i 0=0:=by simp [List.getD,List.getElem?_eq_none (Nat.le_of_not_lt hi)]
  rw [this];unfold R32;omega
structure Reg where
 a:Int
 b:Int
 c:Int
 d:Int
 e:Int
 f:Int
 g:Int
 h:Int
def Reg.ok (r:Reg):Prop:=R32 r.a∧R32 r.b∧R32 r.c∧R32 r.d∧R32 r.e∧R32 r.f∧R32 r.g∧R32 r.h
def Reg.l (r:Reg):List Int:=[r.a,r.b,r.c,r.d,r.e,r.f,r.g,r.h]
theorem Reg.Au (r:Reg):r.l.length=8:=rfl
def t1 (r:Reg) (k w:Int):Int:=w32 (w32 (w32 (w32 (r.h+Zk r.e)+xr (an r.e r.f) (an (w32 (4294967295 - r.e)) r.g))+k)+w)
def t2 (r:Reg):Int:=w32 (Bl r.a+xr (xr (an r.a r.b) (an r.a r.c)) (an r.b r.c))
def Gi (r:Reg) (k w:Int):Reg:=⟨w32 (t1 r k w+t2 r),r.a,r.b,r.c,w32 (r.d+t1 r k w),r.e,r.f,r.g⟩
theorem Gp {r:Reg} (h:r.ok) (k w:Int):(Gi r k w).ok:=⟨SY _,h.1,h.2.1,h.2.2.1,SY _,h.2.2.2.2.1,h.2.2.2.2.2.1,h.2.2.2.2.2.2.1⟩
def Za (K W:List Int) (r:Reg):Nat→Reg
 | 0=>r
 | n+1=>Gi (Za K W r n) (K.getD n 0) (W.getD n 0)
theorem Ip (K W:List Int) {r:Reg} (h:r.ok) (n:Nat):(Za K W r n).ok:=by
 induction n with
 | zero=>exact h
 | succ n ih=>exact Gp ih _ _
def XZ (s r:Reg):Reg:=⟨w32 (s.a+r.a),w32 (s.b+r.b),w32 (s.c+r.c),w32 (s.d+r.d),w32 (s.e+r.e),w32 (s.f+r.f),w32 (s.g+r.g),w32 (s.h+r.h)⟩
theorem Jp (s r:Reg):(XZ s r).ok:=⟨SY _,SY _,SY _,SY _,SY _,SY _,SY _,SY _⟩
def keysL:List Int:=[1116352408,1899447441,3049323471,3921009573,961987163,1508970993,2453635748,2870763221,3624381080,310598401,607225278,1426881987,1925078388,2162078206,2614888103,3248222580,3835390401,4022224774,264347078,604807628,770255983,1249150122,1555081692,1996064986,2554220882,2821834349,2952996808,3210313671,3336571891,3584528711,113926993,338241895,666307205,773529912,1294757372,1396182291,1695183700,1986661051,2177026350,2456956037,2730485921,2820302411,3259730800,3345764771,3516065817,3600352804,4094571909,275423344,430227734,506948616,659060556,883997877,958139571,1322822218,1537002063,1747873779,1955562222,2024104815,2227730452,2361852424,2428436474,2756734187,3204031479,3329325298]
def be4 (a b c d:Int):Int:=a*16777216+b*65536+c*256+d
def wordAt (l:List Int) (i:Nat):Int:=be4 (l.getD (4*i) 0) (l.getD (4*i+1) 0) (l.getD (4*i+2) 0) (l.getD (4*i+3) 0)
def NY (l:List Int) (n:Nat):List Int:=(List.range n).map (wordAt l)
theorem Ii (l:List Int) (n:Nat):(NY l n).length=n:=by simp [NY]
theorem Np (l:List Int) (n:Nat):NY l (n+1)=NY l n++[wordAt l n]:=by simp [NY,List.range_succ]
theorem Qp {a b c d:Int} (ha:0≤a∧a≤255) (hb:0≤b∧b≤255) (hc:0≤c∧c≤255) (hd:0≤d∧d≤255):R32 (be4 a b c d):=by unfold R32 be4;omega
theorem Vp {l:List Int} (h:XY l) (i:Nat):R32 (wordAt l i):=Qp (MZ h _) (MZ h _) (MZ h _) (MZ h _)
theorem Wp {l:List Int} (h:XY l) (n:Nat):∀ x ∈ NY l n,R32 x:=by
 intro x hx
 simp only [NY,List.mem_map] at hx
 obtain ⟨i,_,rfl⟩:=hx
 exact Vp h i
def comp (s:Reg) (b:List Int):Reg:=XZ s (Za keysL (sched (NY b 16) 48) s 64)
theorem Xp (s:Reg) (b:List Int):(comp s b).ok:=Jp _ _
def comps:Nat→Reg→List Int→Reg
 | 0,s,_=>s
 | n+1,s,b=>comps n (comp s (b.take 64)) (b.drop 64)
theorem Cb {s:Reg} (h:s.ok):∀ (n:Nat) (b:List Int),(comps n s b).ok:=by
 intro n
 induction n generalizing s with
 | zero=>intro b;exact h
 | succ n ih=>intro b;exact ih (Xp _ _) _
theorem Il (n m:Nat):∀ (s:Reg) (b:List Int),comps (n+m) s b=comps m (comps n s b) (b.drop (64*n)):=by
 induction n with
 | zero=>intro s b;simp [comps]
 | succ n ih=>
  intro s b
  rw [Nat.add_right_comm,comps,comps,ih,List.drop_drop]
  congr 2
  omega
theorem Yp (n:Nat):∀ (s:Reg) (b c:List Int),64*n≤b.length→comps n s (b++c)=comps n s b:=by
 induction n with
 | zero=>intro s b c _;rfl
 | succ n ih=>
  intro s b c h
  rw [comps,comps,List.take_append_of_le_length (by omega),List.drop_append_of_le_length (by omega),ih _ _ _ (by simp;omega)]
def four (x:Int):List Int:=[x / 16777216,x / 65536 % 256,x / 256 % 256,x % 256]
theorem Zp {x:Int} (h:R32 x):XY (four x):=by
 intro n hn
 unfold R32 at h
 simp only [four,List.mem_cons,List.not_mem_nil,or_false] at hn
 rcases hn with rfl | rfl | rfl | rfl <;> omega
def IK (ws:List Int):List Int:=ws.flatMap four
theorem Xd (ws:List Int):(IK ws).length=4*ws.length:=by
 induction ws with
 | nil=>rfl
 | cons w ws ih=>
  rw [show IK (w::ws)=four w++IK ws from rfl,List.length_append,ih]
  simp only [four,List.length_cons,List.length_nil];omega
theorem Jl {ws:List Int} (h:∀ x ∈ ws,R32 x):XY (IK ws):=by
 intro n hn
 simp only [IK,List.mem_flatMap] at hn
 obtain ⟨x,hx,hn⟩:=hn
 exact Zp (h x hx) n hn
theorem Aq (a b:List Int):IK (a++b)=IK a++IK b:=by simp [IK]
theorem Bq {x:Int} (h:R32 x):be4 (x / 16777216) (x / 65536 % 256) (x / 256 % 256) (x % 256)=x:=by unfold R32 at h;unfold be4;omega
theorem Ll:∀ {ws:List Int} (_:∀ x ∈ ws,R32 x) {i:Nat} (hi:i<ws.length),wordAt (IK ws) i=ws[i]
 | w::ws,h,0,_=>by
  have:=Bq (h w (List.mem_cons_self ..))
  simpa [wordAt,IK,four] using this
 | w::ws,h,i+1,hi=>by
  have ih:=Ll (ws:=ws) (fun x hx=>h x (List.mem_cons_of_mem _ hx)) (i:=i) (by simpa using hi)
  rw [List.getElem_cons_succ,←ih]
  have e:∀ j,(IK (w::ws)).getD (j+4) 0=(IK ws).getD j 0:=fun j=>by simp [IK,four,List.getD]
  unfold wordAt
  rw [show 4*(i+1)=4*i+4 by omega,show 4*i+4+1=(4*i+1)+4 by omega,show 4*i+4+2=(4*i+2)+4 by omega,show 4*i+4+3=(4*i+3)+4 by omega,e,e,e,e]
theorem Dq {ws:List Int} (h:∀ x ∈ ws,R32 x):NY (IK ws) ws.length=ws:=by
 apply List.ext_getElem
 ·rw [Ii]
 ·intro i h1 h2
  simp only [NY,List.getElem_map,List.getElem_range]
  exact Ll h h2
theorem Reg.Eb {r:Reg} (h:r.ok):∀ x ∈ r.l,R32 x:=by
 intro x hx
 simp only [Reg.l,List.mem_cons,List.not_mem_nil,or_false] at hx
 obtain ⟨h1,h2,h3,h4,h5,h6,h7,h8⟩:=h
 rcases hx with rfl | rfl | rfl | rfl | rfl | rfl | rfl | rfl <;> assumption
def UY:Reg:=⟨1779033703,3144134277,1013904242,2773480762,1359893119,2600822924,528734635,1541459225⟩
theorem Fb:UY.ok:=by unfold Reg.ok R32 UY;decide
def Yd (n:Int):List Int:=[0,0,0,n / 4294967296 % 256,n / 16777216 % 256,n / 65536 % 256,n / 256 % 256,n % 256]
def SN (n:Nat):List Int:=128::(List.replicate ((119 - n % 64) % 64) 0++Yd (8*(n:Int)))
theorem Ji (n:Nat):(SN n).length=9+(119 - n % 64) % 64:=by simp [SN,Yd];omega
theorem Fq (n:Nat):(n+(SN n).length) % 64=0:=by rw [Ji];omega
theorem Gq (n:Nat):XY (SN n):=by
 intro x hx
 simp only [SN,Yd,List.mem_cons,List.mem_append,List.mem_replicate,List.not_mem_nil,or_false] at hx
 omega
def Ib (b:List Int):List Int:=IK (comps ((b.length+(SN b.length).length) / 64) UY (b++SN b.length)).l
def Jb (s:ByteArray):ByteArray:=ofBytes (Ib (bs s))
theorem Hq (b:List Int):(Ib b).length=32:=by rw [Ib,Xd];rfl
theorem Iq (b:List Int):XY (Ib b):=Jl (Reg.Eb (Cb Fb _ _))
theorem Jq (s:ByteArray):(Jb s).size=32:=by rw [Jb,ofBytes_size,Hq]
theorem Du (s:ByteArray):bs (Jb s)=Ib (bs s):=Di (Iq _)
theorem Kq {x:Int} (h:R32 x):[w8 (w32 (x.tdiv 16777216)),w8 ((w32 (x.tdiv 65536)).tmod 256),w8 ((w32 (x.tdiv 256)).tmod 256),w8 (x.tmod 256)]=four x:=by
 obtain ⟨h1,h2⟩:=h
 rw [Int.tdiv_eq_ediv_of_nonneg h1,Int.tdiv_eq_ediv_of_nonneg h1,Int.tdiv_eq_ediv_of_nonneg h1,Int.tmod_eq_emod_of_nonneg h1]
 rw [JZ (n:=x / 16777216) (by omega) (by omega),JZ (n:=x / 65536) (by omega) (by omega),JZ (n:=x / 256) (by omega) (by omega)]
 rw [Int.tmod_eq_emod_of_nonneg (by omega),Int.tmod_eq_emod_of_nonneg (by omega)]
 simp only [four,w8_mod,List.cons.injEq,and_true]
 omega
theorem Oi {ws:List Int} (h:∀ x ∈ ws,R32 x) (hl:ws.length≤1000000000000):TY ws=some (ofBytes (IK ws)):=by
 have key:=loopN (A:=Unit) (n:=ws.length) (Lp:=Cc) (st:=fun i _=>.c0 ws (i:Int) (IK (ws.take i))) (Inv:=fun _ _=>True) (out:=fun _ _=>some (ofBytes (IK ws)))
  (fun m _ _=>by
   simp only [Cc,He]
   rw [KY (by simp),List.take_length])
  (fun m i _ hi _=>.inr ⟨(),by
   have e:w64 ((i:Int)+1)=((i+1:Nat):Int):=by rw [w64_id (by omega) (by omega)];rfl
   simp only [Cc,He,e,Int.toNat_natCast]
   rw [TB (by simp;omega),TB (by simp;omega),TB (by rw [Xd,List.length_take];simp;omega)]
   rw [getD_at hi,Kq (h _ (List.getElem_mem hi)),take_at hi,Aq]
   simp [IK],trivial,rfl⟩)
 exact key gas 0 () (Nat.zero_le _) (gas_lt (by omega)) trivial
def KZ:SHasher:=⟨ofBytes (IK UY.l),⟨#[]⟩,0⟩
theorem Nq:Ic=some KZ:=by
 have h:=Oi (ws:=UY.l) (Reg.Eb Fb) (by decide)
 have e:Fe=some UY.l:=rfl
 simp only [Ic,Jg,e,h,Option.bind_some]
 rfl
def NM (x a b:Int):Bool:=decide (a≤x) && decide (x≤b)
theorem YZ {x a b:Int}:NM x a b=true↔a≤x∧x≤b:=by simp [NM]
theorem Nl (x a b:Int):Fa x a b=some (NM x a b):=by
 show (bif decide (a≤x) then some (decide (x≤b)) else some false)=some (NM x a b)
 unfold NM;cases decide (a≤x) <;> rfl
theorem Ol {h:SHasher} (h1:h.fState.size=32) (h2:h.fRest.size<64) (h3:0≤h.fCount∧h.fCount≤1000000000) (h4:h.fCount % 64=(h.fRest.size:Int)):QY h=some true:=by
 have e:NM h.fCount 0 1000000000=true:=by rw [YZ];omega
 simp only [QY,Og,Nl,Option.bind_some,e]
 rw [TB (by simp;omega),TB (by simp;omega),cond_true,Int.tmod_eq_emod_of_nonneg h3.1,h4]
 simp
theorem Oq {s:ByteArray} {i:Nat} (h:4*i+4≤s.size) (hs:s.size≤9000000000000000000):QZ s ((4*i:Nat):Int)=some (wordAt (bs s) i):=by
 have hb:=Ei s
 have e1:w64 (((4*i:Nat):Int)+1)=((4*i+1:Nat):Int):=by rw [w64_id (by omega) (by omega)];rfl
 have e2:w64 (((4*i:Nat):Int)+2)=((4*i+2:Nat):Int):=by rw [w64_id (by omega) (by omega)];rfl
 have e3:w64 (((4*i:Nat):Int)+3)=((4*i+3:Nat):Int):=by rw [w64_id (by omega) (by omega)];rfl
 simp only [QZ,Pg,e1,e2,e3]
 rw [TB (by simp;omega),TB (by simp;omega),TB (by simp;omega),TB (by simp;omega)]
 rw [Ud (by omega),Ud (by omega),Ud (by omega),Ud (by omega)]
 have b0:=MZ hb (4*i)
 have b1:=MZ hb (4*i+1)
 have b2:=MZ hb (4*i+2)
 have b3:=MZ hb (4*i+3)
 unfold wordAt be4
 simp only [Ya]
 congr 1
 omega
theorem Ql {s:ByteArray} (hs:s.size≤1000000000000):LY s=some (NY (bs s) (s.size / 4)):=by
 have key:=loopN (A:=Unit) (n:=s.size / 4) (Lp:=Lc) (st:=fun i _=>.c0 s ((4*i:Nat):Int) (NY (bs s) i)) (Inv:=fun _ _=>True) (out:=fun _ _=>some (NY (bs s) (s.size / 4)))
  (fun m _ _=>by
   simp only [Lc,Oe]
   rw [w64_id (by omega) (by omega),KY (by simp;omega)])
  (fun m i _ hi _=>.inr ⟨(),by
   have e:w64 (((4*i:Nat):Int)+4)=((4*(i+1):Nat):Int):=by rw [w64_id (by omega) (by omega)];omega
   simp only [Lc,Oe,e,Oq (s:=s) (i:=i) (by omega) (by omega),Option.bind_some,Ii,Np]
   rw [TB (by simp;omega),TB (by simp;omega)],trivial,rfl⟩)
 exact key gas 0 () (Nat.zero_le _) (gas_lt (by omega)) trivial
theorem CZ {x low high:Int} (h:R32 x) (hl:0<low) (hh:0<high) (hlh:low*high=4294967296):Mc x low high=some (rt low high x):=by
 have hr:=Ep h hl hh hlh
 obtain ⟨h1,h2⟩:=h
 have e0:(!(low == 0))=true:=by simp;omega
 have d1:0≤x / low:=Int.ediv_nonneg h1 (by omega)
 have d2:0≤x % low*high:=Int.mul_nonneg (Int.emod_nonneg _ (by omega)) (by omega)
 unfold R32 rt at hr
 simp only [Mc,Vg,e0,cond_true,Int.tdiv_eq_ediv_of_nonneg h1,Int.tmod_eq_emod_of_nonneg h1]
 rw [JZ d1 (by omega),JZ d2 (by omega),JZ (by omega) (by omega)]
 rfl
theorem Pq {x:Int} (h:R32 x):RY x 131072 524288 1024 true=some (sg1 x):=by
 have e1:w32 (w32 ((2147483648:Int).tdiv 131072)*2)=32768:=by decide
 have e2:w32 (w32 ((2147483648:Int).tdiv 524288)*2)=8192:=by decide
 have e3:w32 (x.tdiv 1024)=x / 1024:=by
  obtain ⟨h1,h2⟩:=h
  rw [Int.tdiv_eq_ediv_of_nonneg h1,JZ (by omega) (by omega)]
 simp only [RY,Na,e1,e2,e3,CZ h (low:=131072) (high:=32768) (by omega) (by omega) (by omega),CZ h (low:=524288) (high:=8192) (by omega) (by omega) (by omega),Option.bind_some,Vd]
 rfl
theorem Qq {x:Int} (h:R32 x):RY x 128 262144 8 true=some (Yk x):=by
 have e1:w32 (w32 ((2147483648:Int).tdiv 128)*2)=33554432:=by decide
 have e2:w32 (w32 ((2147483648:Int).tdiv 262144)*2)=16384:=by decide
 have e3:w32 (x.tdiv 8)=x / 8:=by
  obtain ⟨h1,h2⟩:=h
  rw [Int.tdiv_eq_ediv_of_nonneg h1,JZ (by omega) (by omega)]
 simp only [RY,Na,e1,e2,e3,CZ h (low:=128) (high:=33554432) (by omega) (by omega) (by omega),CZ h (low:=262144) (high:=16384) (by omega) (by omega) (by omega),Option.bind_some,Vd]
 rfl
theorem Rq {x:Int} (h:R32 x):RY x 64 2048 33554432 false=some (Zk x):=by
 have e1:w32 (w32 ((2147483648:Int).tdiv 64)*2)=67108864:=by decide
 have e2:w32 (w32 ((2147483648:Int).tdiv 2048)*2)=2097152:=by decide
 have e3:w32 (w32 ((2147483648:Int).tdiv 33554432)*2)=128:=by decide
 simp only [RY,Na,e1,e2,e3,CZ h (low:=64) (high:=67108864) (by omega) (by omega) (by omega),CZ h (low:=2048) (high:=2097152) (by omega) (by omega) (by omega),CZ h (low:=33554432) (high:=128) (by omega) (by omega) (by omega),Option.bind_some,Vd]
 rfl
theorem Tq {x:Int} (h:R32 x):RY x 4 8192 4194304 false=some (Bl x):=by
 have e1:w32 (w32 ((2147483648:Int).tdiv 4)*2)=1073741824:=by decide
 have e2:w32 (w32 ((2147483648:Int).tdiv 8192)*2)=524288:=by decide
 have e3:w32 (w32 ((2147483648:Int).tdiv 4194304)*2)=1024:=by decide
 simp only [RY,Na,e1,e2,e3,CZ h (low:=4) (high:=1073741824) (by omega) (by omega) (by omega),CZ h (low:=8192) (high:=524288) (by omega) (by omega) (by omega),CZ h (low:=4194304) (high:=1024) (by omega) (by omega) (by omega),Option.bind_some,Vd]
 rfl
theorem Vq (s r:Reg):∀ i,i<8→(XZ s r).l.getD i 0=w32 (s.l.getD i 0+r.l.getD i 0)
 | 0,_=>rfl | 1,_=>rfl | 2,_=>rfl | 3,_=>rfl | 4,_=>rfl | 5,_=>rfl | 6,_=>rfl | 7,_=>rfl
 | n+8,h=>by omega
theorem Eu (n:Nat) (h:n<9223372036854775807):∃ m,gas=m+n:=⟨gas - n,by have:=gas_lt h;omega⟩
theorem Wq (s r:Reg):∀ (j i m:Nat),i+j=8→RV (m+j+1) (.c3 s.l (i:Int) r.l ((XZ s r).l.take i))=some (XZ s r).l:=by
 intro j
 induction j with
 | zero=>
  intro i m h
  obtain rfl:i=8:=by omega
  simp only [RV,AZ]
  rfl
 | succ j ih=>
  intro i m h
  have e:w64 ((i:Int)+1)=((i+1:Nat):Int):=by rw [w64_id (by omega) (by omega)];rfl
  have hl:∀ q:Reg,q.l.length=8:=fun _=>rfl
  rw [show m+(j+1)+1=(m+j+1)+1 by omega]
  simp only [RV,AZ,e,Int.toNat_natCast]
  rw [TB (by simp;omega),TB (by simp [hl];omega),TB (by simp [hl];omega),TB (by simp [hl];omega)]
  have h3:=ih (i+1) m (by omega)
  rw [take_at (by rw [hl];omega),←getD_at (by rw [hl];omega) 0,Vq _ _ _ (by omega)] at h3
  exact h3
def Qi:Nat→List Int→List Int
 | 0,v=>v
 | i+1,v=>Qi i (v.set (i+1) (v.getD i 0))
theorem Xq (t o W:List Int) (k T1 T2:Int) (hk:0≤k∧k<64):∀ (i m:Nat) (v:List Int),i<8→v.length=8→RV (m+i+1) (.c2 t o k T1 T2 (i:Int) W v)=RV m (.c1 t o (k+1) W (((Qi i v).set 4 (w32 ((Qi i v).getD 4 0+T1))).set 0 (w32 (T1+T2)))):=by
 intro i
 induction i with
 | zero=>
  intro m v _ hl
  have e:w64 (k+1)=k+1:=w64_id (by omega) (by omega)
  simp only [RV,AZ,e]
  rw [KY (by simp),TB (by simp [hl]),TB (by simp [hl]),TB (by simp [hl])]
  rfl
 | succ i ih=>
  intro m v hi hl
  have e:w64 (((i+1:Nat):Int) - 1)=(i:Int):=by rw [w64_id (by omega) (by omega)];omega
  rw [show m+(i+1)+1=(m+i+1)+1 by omega]
  rw [RV]
  simp only [AZ,e,Int.toNat_natCast]
  rw [TB (by simp;try omega),TB (by simp [hl];try omega),TB (by simp [hl];try omega),ih m _ (by omega) (by simp [hl])]
  rfl
theorem Yq (t W:List Int) (r:Reg) (hr:r.ok) (hW:∀ x ∈ W,R32 x) (hWl:W.length=64) (i m:Nat) (hi:i<64) :
  RV (m+9) (.c1 t keysL (i:Int) W r.l)=RV m (.c1 t keysL ((i:Int)+1) W (Gi r (keysL.getD i 0) (W.getD i 0)).l):=by
 obtain ⟨h1,h2,h3,h4,h5,h6,h7,h8⟩:=hr
 have hk:keysL.length=64:=rfl
 have g (q:Reg):q.l.getD 0 0=q.a∧q.l.getD 1 0=q.b∧q.l.getD 2 0=q.c∧q.l.getD 4 0=q.e∧q.l.getD 5 0=q.f∧q.l.getD 6 0=q.g∧q.l.getD 7 0=q.h:=⟨rfl,rfl,rfl,rfl,rfl,rfl,rfl⟩
 obtain ⟨g0,g1,g2,g4,g5,g6,g7⟩:=g r
 have hl:r.l.length=8:=rfl
 have z4:(4:Int).toNat=4:=rfl
 have z5:(5:Int).toNat=5:=rfl
 have z6:(6:Int).toNat=6:=rfl
 have z7:(7:Int).toNat=7:=rfl
 have z0:(0:Int).toNat=0:=rfl
 have z1:(1:Int).toNat=1:=rfl
 have z2:(2:Int).toNat=2:=rfl
 rw [show m+9=(m+7+1)+1 by omega,RV]
 simp only [AZ,z0,z1,z2,z4,z5,z6,z7,g0,g1,g2,g4,g5,g6,g7,hl,hk,hWl,Rq h5,Tq h1,Option.bind_some,Vd,Ap,Int.toNat_natCast]
 rw [TB (by simp;omega),TB (by simp),TB (by simp),TB (by simp),TB (by simp),TB (by simp;omega),TB (by simp;omega),TB (by simp),TB (by simp),TB (by simp),TB (by simp),TB (by simp),TB (by simp),TB (by simp)]
 exact Xq t keysL W (i:Int) (t1 r (keysL.getD i 0) (W.getD i 0)) (t2 r) (by omega) 7 m r.l (by omega) rfl
theorem Zq (s:Reg) (hs:s.ok) (W:List Int) (hW:∀ x ∈ W,R32 x) (hWl:W.length=64):∀ (j i m:Nat),i+j=64→RV (m+9*j+10) (.c1 s.l keysL (i:Int) W (Za keysL W s i).l)=some (XZ s (Za keysL W s 64)).l:=by
 intro j
 induction j with
 | zero=>
  intro i m h
  obtain rfl:i=64:=by omega
  rw [show m+9*0+10=(m+8+1)+1 by omega,RV]
  simp only [AZ]
  rw [KY (by simp)]
  exact Wq s _ 8 0 m (by omega)
 | succ j ih=>
  intro i m h
  rw [show m+9*(j+1)+10=(m+9*j+10)+9 by omega,Yq s.l W _ (Ip keysL W hs i) hW hWl i _ (by omega)]
  exact ih (i+1) m (by omega)
theorem Ar (s:Reg) (hs:s.ok) (w:List Int) (hw:∀ x ∈ w,R32 x) (hwl:w.length=16):∀ (j i m:Nat),i+j=48→RV (m+9*64+10+1+j) (.c0 s.l keysL ((16+i:Nat):Int) (sched w i))=some (XZ s (Za keysL (sched w 48) s 64)).l:=by
 intro j
 induction j with
 | zero=>
  intro i m h
  obtain rfl:i=48:=by omega
  rw [show m+9*64+10+1+0=(m+9*64+10)+1 by omega,RV]
  simp only [AZ]
  rw [KY (by simp),TB (by simp [Reg.l])]
  exact Zq s hs _ (Gl hw 48) (Dl hwl 48) 64 0 m (by omega)
 | succ j ih=>
  intro i m h
  have hl:=Dl hwl i
  have hr:=Gl hw i
  have e2:w64 (((16+i:Nat):Int) - 2)=((16+i - 2:Nat):Int):=by rw [w64_id (by omega) (by omega)];omega
  have e7:w64 (((16+i:Nat):Int) - 7)=((16+i - 7:Nat):Int):=by rw [w64_id (by omega) (by omega)];omega
  have e15:w64 (((16+i:Nat):Int) - 15)=((16+i - 15:Nat):Int):=by rw [w64_id (by omega) (by omega)];omega
  have e16:w64 (((16+i:Nat):Int) - 16)=((16+i - 16:Nat):Int):=by rw [w64_id (by omega) (by omega)];omega
  have e1:w64 (((16+i:Nat):Int)+1)=((16+(i+1):Nat):Int):=by rw [w64_id (by omega) (by omega)];omega
  rw [show m+9*64+10+1+(j+1)=(m+9*64+10+1+j)+1 by omega,RV]
  simp only [AZ,e1,e2,e7,e15,e16,Int.toNat_natCast,hl,Pq (Hl hr _),Qq (Hl hr _),Option.bind_some]
  rw [TB (by simp;omega),TB (by simp;omega),TB (by simp;omega),TB (by simp;omega),TB (by simp;omega),TB (by simp;omega)]
  exact ih (i+1) m (by omega)
theorem Rl {s:Reg} (hs:s.ok) {b:ByteArray} (hb:b.size=64):VY s.l keysL b=some (comp s (bs b)).l:=by
 have hr:=Wp (Ei b) 16
 obtain ⟨m,hm⟩:∃ m,gas=m+9*64+10+1+48:=⟨gas - 635,by have:=gas_lt (n:=635) (by omega);omega⟩
 have h:=Ar s hs _ hr (Ii _ 16) 48 0 m (by omega)
 have e0:((16+0:Nat):Int)=16:=rfl
 rw [e0,show sched (NY (bs b) 16) 0=NY (bs b) 16 from rfl] at h
 rw [VY,Xg,Ql (s:=b) (by omega),Option.bind_some,hb,hm]
 exact h
theorem Sl:ZY=some keysL:=rfl
theorem Hr (b:List Int) (i:Nat):(b.take (64*i+64)).drop (64*i)=(b.drop (64*i)).take 64:=by
 rw [List.drop_take];congr 1;omega
theorem Ul (i:Nat) (s:Reg) (b:List Int):comps (i+1) s b=comp (comps i s b) ((b.drop (64*i)).take 64):=by
 rw [Il i 1];rfl
theorem Vl {r:Reg} (h:r.ok):LY (ofBytes (IK r.l))=some r.l:=by
 have hs:(ofBytes (IK r.l)).size=32:=by rw [ofBytes_size,Xd];rfl
 rw [Ql (by omega),hs,Di (Jl (Reg.Eb h))]
 exact congrArg some (Dq (Reg.Eb h))
theorem Ir {s:ByteArray} (hs:s.size≤1000000000):Tc KZ s=some ⟨ofBytes (IK (comps (s.size / 64) UY (bs s)).l),s.extract (64*(s.size / 64)) s.size,(s.size:Int)⟩:=by
 have e0:QY KZ=some true:=Ol (by rw [KZ,ofBytes_size,Xd];rfl) (by decide) (by decide) (by decide)
 have e1:((⟨#[]⟩:ByteArray)++s)=s:=Uo (by rw [Ro];rfl)
 have key:=loopN (A:=Unit) (n:=s.size / 64) (Lp:=Qc) (st:=fun i _=>.c0 s s ((64*i:Nat):Int) KZ (⟨(⟨#[]⟩:ByteArray),(⟨#[]⟩:ByteArray),(0:Int)⟩:SHasher) (comps i UY (bs s)).l keysL) (Inv:=fun _ _=>True)
  (out:=fun _ _=>some ⟨ofBytes (IK (comps (s.size / 64) UY (bs s)).l),s.extract (64*(s.size / 64)) s.size,(s.size:Int)⟩)
  (fun m _ _=>by
   have hw:w64 (KZ.fCount+(s.size:Int))=(s.size:Int):=by
    show w64 ((0:Int)+(s.size:Int))=_
    rw [Int.zero_add,w64_id (by omega) (by omega)]
   rw [Qc]
   simp only [Xe,hw,Int.toNat_natCast]
   rw [w64_id (by omega) (by omega),KY (by simp;omega),Oi (Reg.Eb (Cb Fb _ _)) (by simp [Reg.l]),Option.bind_some,TB (by simp;omega)])
  (fun m i _ hi _=>.inr ⟨(),by
   have e:w64 (((64*i:Nat):Int)+64)=((64*(i+1):Nat):Int):=by rw [w64_id (by omega) (by omega)];omega
   rw [Qc]
   simp only [Xe,e,Int.toNat_natCast]
   rw [TB (by simp;omega),TB (by simp;omega),Rl (Cb Fb _ _) (by simp;omega),Option.bind_some,Vk,show 64*(i+1)=64*i+64 by omega,Hr,←Ul],trivial,rfl⟩)
 rw [Tc,Zg,e0,Option.bind_some,KY (by rfl)]
 have hw:w64 (KZ.fCount+(s.size:Int))=(s.size:Int):=by
  show w64 ((0:Int)+(s.size:Int))=_
  rw [Int.zero_add,w64_id (by omega) (by omega)]
 rw [hw,KY (by simp;omega),show KZ.fState=ofBytes (IK UY.l) from rfl,Vl Fb,Option.bind_some,Sl,Option.bind_some,show KZ.fRest=⟨#[]⟩ from rfl,e1]
 rw [TB (by (have:(⟨#[]⟩:ByteArray).size=0:=rfl);simp only [this,decide_eq_true_eq];omega)]
 exact key gas 0 () (Nat.zero_le _) (gas_lt (by omega)) trivial
def Aa (b:Int):Nat→List Int
 | 0=>[]
 | i+1=>(b / 256 ^ i % 256)::Aa b i
def DZ:Nat→Nat
 | 0=>0
 | i+1=>DZ i+(i+2)
theorem Jr (x:Int) (j:Nat):x / 256 / 256 ^ j=x / 256 ^ (j+1):=by
 rw [Int.ediv_ediv_of_nonneg (by omega)]
 congr 1
 rw [Int.pow_succ,Int.mul_comm]
theorem Kr (h:SHasher) (b:Int):∀ (j k i m:Nat) (x:Int) (t:List Int),k+j=i→i≤7→0≤x→x≤9223372036854775807→t.length≤1000→
  JY (m+j+1) (.c2 b (i:Int) x (k:Int) h t)=JY m (.c1 b ((i:Int) - 1) h (t++[x / 256 ^ j % 256])):=by
 intro j
 induction j with
 | zero=>
  intro k i m x t hk hi hx hx2 ht
  have e:w64 ((i:Int) - 1)=(i:Int) - 1:=w64_id (by omega) (by omega)
  have e2:w8 (x.tmod 256)=x % 256:=by rw [Int.tmod_eq_emod_of_nonneg hx,w8_id (by omega) (by omega)]
  rw [JY]
  simp only [BZ,e,e2]
  rw [KY (by simp;omega),TB (by simp;omega),Int.pow_zero,Int.ediv_one]
 | succ j ih=>
  intro k i m x t hk hi hx hx2 ht
  have e:w64 ((k:Int)+1)=((k+1:Nat):Int):=by rw [w64_id (by omega) (by omega)];rfl
  have e2:w64 (x.tdiv 256)=x / 256:=by rw [Int.tdiv_eq_ediv_of_nonneg hx,w64_id (by omega) (by omega)]
  rw [show m+(j+1)+1=(m+j+1)+1 by omega,JY]
  simp only [BZ,e,e2]
  rw [TB (by simp;omega),ih (k+1) i m (x / 256) t (by omega) hi (by omega) (by omega) ht,Jr]
theorem Lr (h:SHasher) (b:Int) (hb:0≤b) (hb2:b≤9223372036854775807):∀ (i m:Nat) (t:List Int),i≤8→t.length+i≤900→JY (m+DZ i) (.c1 b ((i:Int) - 1) h t)=JY m (.c1 b (-1) h (t++Aa b i)):=by
 intro i
 induction i with
 | zero=>intro m t _ _;simp [DZ,Aa]
 | succ i ih=>
  intro m t hi ht
  rw [DZ,show m+(DZ i+(i+2))=(m+DZ i)+i+1+1 by omega,JY,show ((i+1:Nat):Int) - 1=(i:Int) by omega]
  simp only [BZ]
  rw [TB (by simp),show (0:Int)=((0:Nat):Int) from rfl,Kr h b i 0 i _ b t (by omega) (by omega) hb hb2 (by omega),ih m _ (by omega) (by simp;omega)]
  simp [Aa]
theorem Nr {b:Int} (h:0≤b) (h2:b<1099511627776):Aa b 8=Yd b:=by
 simp only [Aa,Yd,List.cons.injEq,and_true]
 omega
theorem Qr (r:Reg) (hr:r.ok) (t:List Int) (ht:XY t) (n:Nat) (hn:t.length=64*n) (hn2:n≤100):∀ (j i m:Nat),i+j=n→JY (m+j+1) (.c3 ((64*i:Nat):Int) t (comps i r t).l keysL)=some (ofBytes (IK (comps n r t).l)):=by
 intro j
 induction j with
 | zero=>
  intro i m h
  obtain rfl:i=n:=by omega
  rw [JY]
  simp only [BZ]
  rw [KY (by simp;omega),Oi (Reg.Eb (Cb hr _ _)) (by simp [Reg.l]),Option.bind_some]
 | succ j ih=>
  intro i m h
  have e:w64 (((64*i:Nat):Int)+64)=((64*(i+1):Nat):Int):=by rw [w64_id (by omega) (by omega)];omega
  have hl:((t.drop (64*i)).take (64*(i+1) - 64*i)).length=64:=by rw [List.length_take,List.length_drop];omega
  have hby:XY ((t.drop (64*i)).take (64*(i+1) - 64*i)):=fun x hx=>ht x (List.mem_of_mem_drop (List.mem_of_mem_take hx))
  rw [show m+(j+1)+1=(m+j+1)+1 by omega,JY]
  simp only [BZ,e,Int.toNat_natCast]
  rw [TB (by simp;omega),TB (by simp;omega),Rl (Cb hr _ _) (by rw [ofBytes_size,hl]),Option.bind_some,Di hby,show 64*(i+1) - 64*i=64 by omega,←Ul]
  exact ih (i+1) m (by omega)
theorem Sr (h:SHasher) (r:List Int) (hr:r.length<64):∀ (j i m:Nat),i+j=(119 - r.length) % 64→JY (m+j+1) (.c0 h (r++128::List.replicate i 0))=JY m (.c1 (w64 (8*h.fCount)) 7 h (r++128::List.replicate ((119 - r.length) % 64) 0)):=by
 intro j
 induction j with
 | zero=>
  intro i m hi
  rw [JY]
  simp only [BZ]
  rw [KY (by rw [Int.tmod_eq_emod_of_nonneg (by omega)];simp;omega),show i=(119 - r.length) % 64 by omega]
 | succ j ih=>
  intro i m hi
  rw [show m+(j+1)+1=(m+j+1)+1 by omega,JY]
  simp only [BZ]
  rw [TB (by rw [Int.tmod_eq_emod_of_nonneg (by omega)];simp;omega),TB (by simp;omega)]
  have e:(r++128::List.replicate i (0:Int))++[0]=r++128::List.replicate (i+1) 0:=by
   rw [List.replicate_succ'];simp
  rw [e]
  exact ih (i+1) m (by omega)
theorem Ur {r:Reg} (hr:r.ok) {s:ByteArray} {n:Nat} (hs:s.size=n % 64) (hn:n≤1000000000):Xc ⟨ofBytes (IK r.l),s,(n:Int)⟩=some (ofBytes (IK (comps ((s.size+(SN n).length) / 64) r (bs s++SN n)).l)):=by
 have e0:QY ⟨ofBytes (IK r.l),s,(n:Int)⟩=some true:=Ol (by rw [ofBytes_size,Xd];rfl) (by simp only;omega) (by simp only;omega) (by simp only;omega)
 have hl:=bs_len s
 obtain ⟨m,hm⟩:∃ m,gas=((m+((s.size+(SN n).length) / 64)+1+1+DZ 8)+((119 - (bs s).length) % 64)+1):=⟨gas - (((s.size+(SN n).length) / 64)+1+1+DZ 8+((119 - (bs s).length) % 64)+1),by
  have:=gas_lt (n:=1000) (by omega)
  have h2:=Ji n
  have h3:DZ 8=44:=rfl
  omega⟩
 have hw:w64 (8*(n:Int))=8*(n:Int):=w64_id (by omega) (by omega)
 have hrep:(bs s++128::List.replicate ((119 - (bs s).length) % 64) 0)++Aa (8*(n:Int)) 8=bs s++SN n:=by
  rw [Nr (by omega) (by omega),SN,hl,hs,show (119 - n % 64) % 64=(119 - n % 64) % 64 from rfl]
  simp
 rw [Xc,Bh,e0,Option.bind_some,KY (by rfl),TB (by simp;omega),Xo,TB (by rw [hl];simp;omega),hm]
 have h0:=Sr ⟨ofBytes (IK r.l),s,(n:Int)⟩ (bs s) (by omega) ((119 - (bs s).length) % 64) 0 (m+((s.size+(SN n).length) / 64)+1+1+DZ 8) (by omega)
 rw [List.replicate_zero] at h0
 rw [h0,show (7:Int)=((8:Nat):Int) - 1 from rfl]
 simp only [hw]
 rw [Lr _ _ (by omega) (by omega) 8 _ _ (by omega) (by simp;omega),hrep,JY]
 simp only [BZ]
 rw [KY (by simp),Vl hr,Option.bind_some,Sl,Option.bind_some]
 have hb:XY (bs s++SN n):=fun x hx=>by
  rcases List.mem_append.1 hx with hx | hx
  ·exact Ei s x hx
  ·exact Gq n x hx
 have hlen:(bs s++SN n).length=64*((s.size+(SN n).length) / 64):=by
  have:=Fq n
  rw [List.length_append,hl]
  omega
 exact Qr r hr _ hb _ hlen (by have:=Ji n;omega) ((s.size+(SN n).length) / 64) 0 m (by omega)
theorem Vr (b:List Int):comps ((b.length+(SN b.length).length) / 64) UY (b++SN b.length)=comps ((b.length % 64+(SN b.length).length) / 64) (comps (b.length / 64) UY b) (b.drop (64*(b.length / 64))++SN b.length):=by
 rw [show (b.length+(SN b.length).length) / 64=b.length / 64+(b.length % 64+(SN b.length).length) / 64 by omega,Il,Yp _ _ _ _ (by omega),List.drop_append_of_le_length (by omega)]
theorem Wl {s:ByteArray} (hs:s.size≤1000000000):Yc s=some (Jb s):=by
 have h1:(s.extract (64*(s.size / 64)) s.size).size=s.size % 64:=by simp;omega
 have h:=Ur (Cb Fb (s.size / 64) (bs s)) (s:=s.extract (64*(s.size / 64)) s.size) h1 hs
 rw [Vk,h1,List.take_of_length_le (by rw [bs_len];omega)] at h
 rw [Yc,Eh,Nq,Option.bind_some,Ir hs,Option.bind_some,h,Option.bind_some,Jb,Ib,Vr,bs_len]
def FN (x:SThing):Bool:=NM x.fId 1 1000 && NM x.fKind 1 3 && NM x.fNext 0 16 && ((x.fKind == 2) || ((x.fNext == 0) && !x.fSigns)) && ((x.fKind == 1) || !x.fWraps) && (bif x.fKind == 3 then decide ((x.fValue.size:Int)≤100) else (x.fValue.size:Int) == 32)
theorem Xl (x:SThing):FZ x=some (FN x):=by
 simp only [FZ,Xh,Nl,Option.bind_some,FN,bne]
 cases NM x.fId 1 1000 <;> cases NM x.fKind 1 3 <;> cases NM x.fNext 0 16 <;> cases (x.fKind == 2) <;> cases (x.fKind == 1) <;> cases (x.fKind == 3) <;> cases (x.fNext == 0) <;> cases x.fSigns <;> cases x.fWraps <;> rfl
theorem Xr {x:SThing} (h:FN x=true):1≤x.fKind∧x.fKind≤3∧1≤x.fId∧x.fId≤1000∧0≤x.fNext∧x.fNext≤16∧x.fValue.size≤100:=by
 unfold FN at h
 simp only [Bool.and_eq_true] at h
 obtain ⟨⟨⟨⟨⟨h1,h2⟩,h3⟩,_⟩,_⟩,h4⟩:=h
 rw [YZ] at h1 h2 h3
 refine ⟨h2.1,h2.2,h1.1,h1.2,h3.1,h3.2,?_⟩
 cases hk:x.fKind == 3
 ·rw [hk] at h4;simp at h4;omega
 ·rw [hk] at h4;simp at h4;omega
theorem Yl {s:ByteArray} (h:s ∈ [(⟨#[97]⟩:ByteArray),⟨#[98]⟩,⟨#[99]⟩]):s.size=1:=by
 simp only [List.mem_cons,List.not_mem_nil,or_false] at h
 rcases h with rfl | rfl | rfl <;> rfl
theorem Yr {c:SL01Cur} (hc:TT c):Ok (Ad c) fun r=>FN r.1=true∧TT r.2:=by
 rw [Ad,Gh]
 refine Ok.bind (IZ hc) fun a ha=>Ok.bind (IZ ha.2) fun b hb=>Ok.bind (Xa hb.2) fun d hd=>Ok.bind (Xa hd) fun e he=>?_
 have a1:=ha.1.2.1 (by omega)
 have b1:=hb.1.2.1 (by omega)
 have hi:w64 (1+a.1)=1+a.1:=w64_id (by omega) (by omega)
 have hk:w64 (1+b.1)=1+b.1:=w64_id (by omega) (by omega)
 rw [hi,hk]
 have base:NM (1+a.1) 1 1000=true∧NM (1+b.1) 1 3=true:=⟨YZ.2 (by omega),YZ.2 (by omega)⟩
 have hd32:∀ s:ByteArray,((Jb s).size:Int) == 32:=fun s=>by rw [Jq];rfl
 refine Ok.cond (fun h3=>?_) fun h3=>Ok.cond (fun h2=>?_) fun h2=>?_
 ·refine Ok.bind (IZ he) fun f hf=>Ok.bind (Zo hf.2 hf.1.1) fun g hg=>Ok.ret ⟨?_,hg.2⟩
  have f1:=hf.1.2.1 (by omega)
  rw [beq_iff_eq] at h3
  rw [FN,base.1,base.2,h3,decide_eq_true (by have:=hg.1;omega:(g.1.size:Int)≤100)];rfl
 ·refine Ok.bind (IZ he) fun f hf=>Ok.bind (Xa hf.2) fun g hg=>Ok.bind (Xk hg (by decide)) fun t ht=>Ok.bind (Ok.eq (Wl (by rw [Yl ht.1];decide))) fun v hv=>Ok.ret ⟨?_,ht.2⟩
  have f1:=hf.1.2.1 (by omega)
  subst hv
  rw [beq_iff_eq] at h2
  rw [FN,base.1,base.2,h2,YZ.2 (⟨hf.1.1,by omega⟩:0≤f.1∧f.1≤16)]
  simp only [hd32];rfl
 ·refine Ok.bind (Xa he) fun g hg=>Ok.bind (Xk hg (by decide)) fun t ht=>Ok.bind (Ok.eq (Wl (by rw [Yl ht.1];decide))) fun v hv=>Ok.ret ⟨?_,ht.2⟩
  subst hv
  rw [beq_eq_false_iff_ne] at h3 h2
  have hk1:1+b.1=1:=by have:=YZ.1 base.2;omega
  rw [FN,base.1,base.2,hk1]
  simp only [hd32];rfl
theorem Ri {c:SL01Cur} {l:List Int} (hc:TT c) (hl:0<l.length):Ok (Bd c l) fun r=>r.1 ∈ l∧TT r.2:=by
 rw [Bd,Jh]
 refine Ok.bind (IZ hc) fun a ha=>?_
 have h1:=ha.1.2.1 (by omega)
 refine Ok.chk (by simp;omega) (Ok.ret ⟨?_,ha.2⟩)
 rw [getD_at (by omega)];exact List.getElem_mem _
theorem Zr {n x:Int} (h0:0≤n) (h1:n≤1000000000):Ok (Ld n x) fun r=>(r.size:Int)=n:=by
 obtain ⟨N,rfl⟩:∃ N:Nat,n=(N:Int):=⟨n.toNat,by omega⟩
 have key:∀ (j i m:Nat) (out:List Int),i+j=N→out.length=N→Ok (Jd (m+j+1) (.c0 (N:Int) x (i:Int) out)) fun r=>(r.size:Int)=N:=by
  intro j
  induction j with
  | zero=>
   intro i m out hi ho
   rw [Jd];simp only [Ye]
   rw [KY (by simp;omega)]
   exact Ok.ret (by rw [ofBytes_size,ho])
  | succ j ih=>
   intro i m out hi ho
   have hw:w64 ((i:Int)+1)=((i+1:Nat):Int):=by rw [w64_id (by omega) (by omega)];rfl
   rw [show m+(j+1)+1=(m+j+1)+1 from rfl,Jd]
   simp only [Ye,hw]
   rw [TB (by simp;omega)]
   exact Ok.chk (by simp;omega) (ih (i+1) m _ (by omega) (by rw [List.length_set];exact ho))
 obtain ⟨m,hm⟩:∃ m,gas=m+N+1:=⟨gas - (N+1),by have:=gas_lt (n:=N+1) (by omega);omega⟩
 rw [Ld,Nh,hm]
 refine Ok.chk (by simp;omega) ?_
 exact key N 0 m _ (Nat.zero_add _) (by simp)
theorem Es {c:SL01Cur} (hc:TT c):Ok (Md c) fun r=>(r.1.fValue.size≤200)∧TT r.2:=by
 rw [Md,Ph]
 refine Ok.bind (Yr hc) fun x hx=>Ok.bind (IZ hx.2) fun a ha=>?_
 have hs:=(Xr hx.1).2.2.2.2.2.2
 refine Ok.cond (fun _=>Ok.bind (Ri ha.2 (by decide)) fun r hr=>Ok.ret ⟨?_,hr.2⟩) fun _=>Ok.cond (fun _=>Ok.bind (IZ ha.2) fun r hr=>Ok.ret ⟨?_,hr.2⟩) fun _=>Ok.cond (fun _=>Ok.ret ⟨?_,ha.2⟩) fun _=>Ok.cond (fun _=>Ok.ret ⟨?_,ha.2⟩) fun _=>
  Ok.cond (fun _=>Ok.bind (Ri ha.2 (by decide)) fun r hr=>Ok.ret ⟨?_,hr.2⟩) fun _=>Ok.cond (fun _=>Ok.bind (Ri ha.2 (by decide)) fun r hr=>?_) fun _=>Ok.ret ⟨?_,ha.2⟩
 all_goals try (show x.1.fValue.size≤200;omega)
 have h5:31≤r.1∧r.1≤101:=by
  have:=hr.1
  simp only [List.mem_cons,List.not_mem_nil,or_false] at this
  omega
 exact Ok.bind (Zr (by omega) (by omega)) fun s hs=>Ok.ret ⟨by show s.size≤200;omega,hr.2⟩
theorem Gs:Ok (RZ ()) fun _=>True:=by
 rw [RZ,Qh]
 exact Ok.bind Yo fun c hc=>Ok.bind (Es hc) fun x hx=>Ok.bind (Xa hx.2) fun h hh=>Ok.bind (Xa hh) fun f hf=>Ok.ret trivial
theorem Js (x a b:Int):Af x a b=some (NM x a b):=by
 show (bif decide (a≤x) then some (decide (x≤b)) else some false)=some (NM x a b)
 unfold NM;cases decide (a≤x) <;> rfl
theorem Si (x:SThing):WY x=some (FN x):=by
 simp only [WY,Uh,Js,Option.bind_some,FN,bne]
 by_cases k1:x.fKind=1
 ·rw [k1]
  cases NM x.fId 1 1000 <;> cases NM x.fNext 0 16 <;> cases (x.fNext == 0) <;> cases x.fSigns <;> cases x.fWraps <;> simp [NM]
 ·by_cases k2:x.fKind=2
  ·rw [k2]
   cases NM x.fId 1 1000 <;> cases NM x.fNext 0 16 <;> cases (x.fNext == 0) <;> cases x.fSigns <;> cases x.fWraps <;> simp [NM]
  ·by_cases k3:x.fKind=3
   ·rw [k3]
    cases NM x.fId 1 1000 <;> cases NM x.fNext 0 16 <;> cases (x.fNext == 0) <;> cases x.fSigns <;> cases x.fWraps <;> simp [NM]
   ·have hr:NM x.fKind 1 3=false:=by
     cases h:NM x.fKind 1 3
     ·rfl
     ·rw [YZ] at h;omega
    have e1:(x.fKind == 1)=false:=by simpa using k1
    have e2:(x.fKind == 2)=false:=by simpa using k2
    have e3:(x.fKind == 3)=false:=by simpa using k3
    rw [hr,e1,e2,e3]
    cases NM x.fId 1 1000 <;> cases NM x.fNext 0 16 <;> cases (x.fNext == 0) <;> cases x.fSigns <;> cases x.fWraps <;> rfl
def zT:SThing:=⟨0,0,false,false,false,false,⟨#[]⟩,0⟩
def CV (x:SThing) (h f:Bool):SThing×Bool:=bif FN x && ((h || !x.fHidden) && (f || !x.fFixed)) then (⟨x.fId,x.fKind,h,f,x.fSigns,x.fWraps,x.fValue,x.fNext⟩,true) else (zT,false)
def OY (x:SThing) (d:Int):Bool:=FN x && (bif d == 1 then !x.fHidden else bif d == 2 then !x.fFixed && !(x.fKind == 2) else bif d == 3 then x.fSigns else bif d == 4 then x.fWraps else d == 5)
theorem Ls (x:SThing) (h f:Bool):UZ x h f=some (CV x h f):=by
 rw [UZ,Wh,Si,Option.bind_some,CV]
 cases FN x <;> cases x.fHidden <;> cases x.fFixed <;> cases h <;> cases f <;> rfl
theorem Ti (x:SThing) (d:Int):VZ x d=some (OY x d):=by
 rw [VZ,Zh,Si,Option.bind_some,OY,bne]
 cases FN x <;> cases d == 1 <;> cases d == 2 <;> cases d == 3 <;> cases d == 4 <;> cases x.fFixed <;> rfl
theorem Ns (x:SThing) (d:Int):WZ x d=some (OY x d):=by
 rw [WZ,Ai,Xl,Option.bind_some,OY,bne]
 cases FN x <;> cases d == 1 <;> cases d == 2 <;> cases d == 3 <;> cases d == 4 <;> cases x.fFixed <;> rfl
theorem Qs {x:SThing} {h f:Bool} {d:Int} (hc:(CV x h f).2=true) (hm:OY (CV x h f).1 d=true):OY x d=true:=by
 revert hc hm
 rw [CV]
 cases ho:FN x
 ·intro hc;cases hc
 have e:FN ⟨x.fId,x.fKind,h,f,x.fSigns,x.fWraps,x.fValue,x.fNext⟩=true:=ho
 cases hh:x.fHidden <;> cases hf:x.fFixed <;> cases h <;> cases f <;> intro hc hm
 all_goals try (cases hc;done)
 all_goals have hm:=show OY ⟨x.fId,x.fKind,_,_,x.fSigns,x.fWraps,x.fValue,x.fNext⟩ d=true from hm
 all_goals simp only [OY,ho,e,hh,hf,Bool.true_and,Bool.not_true,Bool.not_false,Bool.or_true,Bool.or_false,Bool.true_or,Bool.false_or,Bool.and_self,Bool.and_true,Bool.false_and,Bool.and_false,cond_true,cond_false] at hm ⊢
 all_goals (revert hm;cases d == 1 <;> cases d == 2 <;> cases d == 3 <;> cases d == 4 <;> simp)
theorem law_FnRules (x0:Unit):laws_FnRules x0=some true:=by
 rw [laws_FnRules,Ci,Po,Option.bind_some]
 cases decide ((codeL.length:Int) > 1048576)
 ·rw [cond_false]
  obtain ⟨⟨x,h,f⟩,h1,_⟩:=Gs
  rw [h1]
  simp only [Option.bind_some,Ls,Xl]
  have key:(CV x h f).2=(FN x && ((h || !x.fHidden) && (f || !x.fFixed))):=by rw [CV];cases FN x && ((h || !x.fHidden) && (f || !x.fFixed)) <;> rfl
  have last:∀ (j i m:Nat),i+j=7→(CV x h f).2=true→GZ (m+j+1) (.c2 (i:Int) x (CV x h f).1)=some true:=by
   intro j
   induction j with
   | zero=>
    intro i m hi hc
    rw [GZ];simp only [Ua,Si,Ti,Option.bind_some]
    rw [KY (by simp;omega)]
    have hx:CV x h f=(⟨x.fId,x.fKind,h,f,x.fSigns,x.fWraps,x.fValue,x.fNext⟩,true):=by
     rw [key] at hc
     rw [CV,hc];rfl
    have ho:FN x=true:=by rw [key,Bool.and_eq_true] at hc;exact hc.1
    have ho2:FN ⟨x.fId,x.fKind,h,f,x.fSigns,x.fWraps,x.fValue,x.fNext⟩=true:=ho
    rw [hx]
    simp only [OY,ho2,toList_self,beq_self_eq_true,cond_true];rfl
   | succ j ih=>
    intro i m hi hc
    have hw:w64 ((i:Int)+1)=((i+1:Nat):Int):=by rw [w64_id (by omega) (by omega)];rfl
    rw [show m+(j+1)+1=(m+j+1)+1 from rfl,GZ]
    simp only [Ua,Ti,Ns,Option.bind_some,hw,ih (i+1) m (by omega) hc]
    rw [TB (by simp;omega)]
    cases hm:OY (CV x h f).1 (i:Int)
    ·simp
    ·rw [Qs hc hm];rfl
  have mid:∀ m,GZ (m+9) (.c1 (CV x h f).2 x (CV x h f).1)=some true:=by
   intro m
   rw [GZ];simp only [Ua]
   cases hc:(CV x h f).2
   ·have:(CV x h f).1=zT:=by
     rw [key] at hc
     rw [CV,hc];rfl
    rw [this];rfl
   ·exact last 7 0 m rfl hc
  have fst:∀ m,GZ (m+10) (.c0 (CV x h f).2 x (CV x h f).1)=some true:=by
   intro m
   rw [GZ];simp only [Ua,Ti,Option.bind_some,mid m]
   have h9:OY x 9=false:=by rw [OY];cases FN x <;> rfl
   have h1:OY x 1=(FN x && !x.fHidden):=rfl
   have h2:OY x 2=(FN x && (!x.fFixed && !(x.fKind == 2))):=rfl
   have h3:OY x 3=(FN x && x.fSigns):=rfl
   rw [h9,h1,h2,h3]
   cases FN x <;> cases x.fHidden <;> cases x.fFixed <;> cases x.fKind == 2 <;> cases x.fSigns <;> rfl
  obtain ⟨m,hm⟩:∃ m,gas=m+10:=⟨gas - 10,rfl⟩
  rw [hm,fst m,key]
  cases FN x <;> cases x.fHidden <;> cases x.fFixed <;> cases h <;> cases f <;> rfl
 ·rfl
end Go.Proofs.Ytjfkbidckphneaa.G
