/- The plain law of FnChainsOfBooks: whatever the arguments, it answers true. Conditions: what is read is in reach. Part 1 of 1. -/
import Derived.Test.YtjfkbidckphneaaDoorFFnChainsOfBooks
import Derived.Test.YtjfkbidckphneaaDoorOpens
import Derived.Test.YtjfkbidckphneaaDoorPBase
namespace Go.Proofs.YtjfkbidckphneaaDoor.G
open Go Go.Ev
set_option linter.unusedVariables false
set_option linter.unusedSimpArgs false
set_option linter.unusedSectionVars false
variable [PC]
theorem XAD (u:Unit):Gm u=some (decide ((codeL.length:Int) > 1048576)):=rfl
def bs (s:ByteArray):List Int:=s.data.toList.map fun b=>(b.toNat:Int)
theorem bs_len (s:ByteArray):(bs s).length=s.size:=by unfold bs;rw [List.length_map];rfl
theorem YAD {s:ByteArray} {n:Int} (h:n ∈ bs s):0≤n∧n≤255:=by
 unfold bs at h;rw [List.mem_map] at h;obtain ⟨b,_,rfl⟩:=h
 have:=b.toNat_lt;omega
theorem Pg (a b:ByteArray):bs (a++b)=bs a++bs b:=by simp [bs]
theorem H8 (s:ByteArray):ofBytes (bs s)=s:=by
 cases s;simp [ofBytes,bs,Function.comp_def]
theorem Fe {s t:ByteArray} (h:bs s=bs t):s=t:=by rw [←H8 s,h,H8]
theorem QZ {l:List Int} (h:∀ n,n ∈ l→0≤n∧n≤255):bs (ofBytes l)=l:=by
 simp only [bs,ofBytes,List.map_map]
 conv=>rhs;rw [←List.map_id l]
 apply List.map_congr_left
 intro n hn
 obtain ⟨h1,h2⟩:=h n hn
 simp only [Function.comp,UInt8.toNat_ofNat',id]
 omega
theorem ZAD {s:ByteArray} {i:Nat} (h:i<s.size):bt s (i:Int)=(bs s)[i]'(by rw [bs_len];exact h):=by
 simp only [bt,Int.toNat_natCast,h,dite_true,bs,List.getElem_map]
 rfl
theorem EAI (s:ByteArray) (i:Int):0≤bt s i∧bt s i≤255:=by
 unfold bt;split
 ·have:=(s[i.toNat]).toNat_lt;omega
 ·omega
theorem He (s:ByteArray) (i j:Nat):bs (s.extract i j)=((bs s).take j).drop i:=by
 simp only [bs,ByteArray.data_extract,Array.toList_extract,List.extract_eq_take_drop,List.map_take,List.map_drop]
 rw [List.drop_take]
theorem TB {α:Type} {c:Bool} {a b:α} (h:c=true):(bif c then a else b)=a:=by rw [h];rfl
theorem FN {α:Type} {c:Bool} {a b:α} (h:c=false):(bif c then a else b)=b:=by rw [h];rfl
theorem Qg {s:ByteArray} {i:Nat} (h:i<s.size):bt s (i:Int)=(bs s).getD i 0:=by rw [ZAD h,getD_at]
theorem FAI {s:ByteArray} {i:Int} {j:Nat} (e:i=(j:Int)) (h:j<s.size):bt s i=(bs s).getD j 0:=by rw [e,Qg h]
theorem Dq {α:Type} {a b:List α} {i:Nat} (h:i<a.length) (d:α):(a++b).getD i d=a.getD i d:=by simp [List.getD,List.getElem?_append_left h]
theorem I8 {α:Type} {a b:List α} {i:Nat} (h:a.length≤i) (d:α):(a++b).getD i d=b.getD (i - a.length) d:=by simp [List.getD,List.getElem?_append_right h]
theorem Fq {α:Type} {a b:List α} {x y:α} {i:Nat} (h:a.length=i):(a++x::b).set i y=a++y::b:=by
 rw [List.set_append_right _ _ (by omega),h,Nat.sub_self];rfl
theorem GAI {a b:Nat} (h:a=b):Nat.beq a b=true:=by subst h;exact Nat.beq_refl _
theorem HAI {P:Int→Prop} (n:Int) (h:0≤n) (k:∀ m:Nat,n=(m:Int)→P (m:Int)):P n:=by
 have:=k n.toNat (by omega)
 rwa [show ((n.toNat:Nat):Int)=n by omega] at this
theorem IAI:bs (⟨#[]⟩:ByteArray)=[]:=rfl
def FZ (l:List Int):Prop:=∀ n,n ∈ l→0≤n∧n≤255
theorem GZ {l:List Int} (h:FZ l) (i:Nat):0≤l.getD i 0∧l.getD i 0≤255:=by
 by_cases hi:i<l.length
 ·rw [getD_at hi];exact h _ (List.getElem_mem hi)
 ·have:l.getD i 0=0:=by simp [List.getD,List.getElem?_eq_none (Nat.le_of_not_lt hi)]
  omega
theorem Ug (s:ByteArray):FZ (bs s):=fun _ h=>YAD h
theorem AAE (s:ByteArray):bytesOf s=bs s:=rfl
theorem JAI {α:Type} {l:List α} {i:Nat} (h:i<l.length) (y d:α):(l.set i y).getD i d=y:=by simp [List.getD,h]
def Ok {α:Type} (x:Option α) (Q:α→Prop):Prop:=∃ a,x=some a∧Q a
theorem Ok.bind {α β:Type} {x:Option α} {f:α→Option β} {Q:α→Prop} {R:β→Prop} (h:Ok x Q) (k:∀ a,Q a→Ok (f a) R):Ok (x.bind f) R:=by
 obtain ⟨a,rfl,h⟩:=h;exact k a h
theorem Ok.cond {α:Type} {c:Bool} {a b:Option α} {R:α→Prop} (h1:c=true→Ok a R) (h2:c=false→Ok b R):Ok (bif c then a else b) R:=by
 cases c
 ·exact h2 rfl
 ·exact h1 rfl
theorem Ok.chk {α:Type} {c:Bool} {a:Option α} {R:α→Prop} (hc:c=true) (h1:Ok a R):Ok (bif c then a else none) R:=by rw [hc];exact h1
theorem Ok.ret {α:Type} {a:α} {R:α→Prop} (h:R a):Ok (some a) R:=⟨a,rfl,h⟩
theorem Ok.eq {α:Type} {x:Option α} {a:α} (h:x=some a):Ok x (fun b=>b=a):=⟨a,h,rfl⟩
theorem Ok.mono {α:Type} {x:Option α} {Q R:α→Prop} (h:Ok x Q) (k:∀ a,Q a→R a):Ok x R:=by obtain ⟨a,h1,h2⟩:=h;exact ⟨a,h1,k a h2⟩
def PY (c:SL01Cur):Prop:=0≤c.fI
theorem BAE (n:Int) : -9223372036854775808≤w64 n∧w64 n≤9223372036854775807:=by
 simp only [w64,IntKind.wrap,IntKind.signed,IntKind.bits]
 simp
 omega
theorem Gq (n:Int):0≤w64 ((BitVec.toNat (BitVec.ofInt (IntKind.bits IntKind.i64) n &&& BitVec.ofInt (IntKind.bits IntKind.i64) 255):Nat):Int)∧w64 ((BitVec.toNat (BitVec.ofInt (IntKind.bits IntKind.i64) n &&& BitVec.ofInt (IntKind.bits IntKind.i64) 255):Nat):Int)≤255:=by
 have h:(BitVec.ofInt (IntKind.bits IntKind.i64) n &&& BitVec.ofInt (IntKind.bits IntKind.i64) 255).toNat≤255:=by
  rw [BitVec.toNat_and]
  exact Nat.le_trans Nat.and_le_right (by decide)
 rw [w64_id (by omega) (by omega)]
 omega
theorem Ny:Ok (Ba ()) PY:=by
 have hl:codeL.length≤140737488351232:=PC.hl
 have key:∀ (j i m:Nat) (h:Int),i+j=codeL.length→Ok (Dh (m+j+1) (.c0 h (i:Int))) PY:=by
  intro j
  induction j with
  | zero=>
   intro i m h hi
   rw [Dh];simp only [Jm]
   rw [FN (by simp;omega)]
   exact Ok.ret (Int.le_refl 0)
  | succ j ih=>
   intro i m h hi
   have hw:w64 ((i:Int)+1)=((i+1:Nat):Int):=by rw [w64_id (by omega) (by omega)];rfl
   rw [show m+(j+1)+1=(m+j+1)+1 from rfl,Dh]
   simp only [Jm,hw]
   refine Ok.cond (fun _=>Ok.cond (fun _=>?_) fun _=>Ok.ret (Int.le_refl 0)) fun _=>Ok.ret (Int.le_refl 0)
   refine Ok.chk (by simp;omega) (Ok.chk (by rw [Int.toNat_natCast];exact Nat.ble_eq_true_of_le (by omega)) (ih (i+1) m _ (by omega)))
 obtain ⟨m,hm⟩:∃ m,gas=m+codeL.length+1:=⟨gas - (codeL.length+1),by have:=gas_lt (n:=codeL.length+1) (by omega);omega⟩
 rw [Ba,Wq,hm]
 exact key codeL.length 0 m _ (Nat.zero_add _)
theorem Ie {n:Int}:w32 n=n % 4294967296:=by
 simp only [w32,IntKind.wrap,IntKind.signed,IntKind.bits]
 simp
theorem Na {n:Int} (h1:0≤n) (h2:n<4294967296):w32 n=n:=by rw [Ie];omega
def R32 (n:Int):Prop:=0≤n∧n<4294967296
theorem BZ (n:Int):R32 (w32 n):=by unfold R32;rw [Ie];omega
theorem KAI {n:Int} (h:0≤n∧n≤255):R32 n:=by unfold R32;omega
def xr (x y:Int):Int:=w32 (((BitVec.toNat ((BitVec.ofInt (IntKind.bits IntKind.u32) x) ^^^ (BitVec.ofInt (IntKind.bits IntKind.u32) y))):Nat):Int)
def an (x y:Int):Int:=w32 (((BitVec.toNat ((BitVec.ofInt (IntKind.bits IntKind.u32) x) &&& (BitVec.ofInt (IntKind.bits IntKind.u32) y))):Nat):Int)
def Sl (x y:Int):Int:=w32 (((BitVec.toNat ((BitVec.ofInt (IntKind.bits IntKind.u32) x) ||| (BitVec.ofInt (IntKind.bits IntKind.u32) y))):Nat):Int)
theorem Je (x y:Int):w32 (((BitVec.toNat ((BitVec.ofInt (IntKind.bits IntKind.u32) x) ^^^ (BitVec.ofInt (IntKind.bits IntKind.u32) y))):Nat):Int)=xr x y:=rfl
theorem J8 (x y:Int):w32 (((BitVec.toNat ((BitVec.ofInt (IntKind.bits IntKind.u32) x) &&& (BitVec.ofInt (IntKind.bits IntKind.u32) y))):Nat):Int)=an x y:=rfl
theorem L8 (x y:Int):w32 (((BitVec.toNat ((BitVec.ofInt (IntKind.bits IntKind.u32) x) ||| (BitVec.ofInt (IntKind.bits IntKind.u32) y))):Nat):Int)=Sl x y:=rfl
theorem LAI (x y:Int):R32 (xr x y):=BZ _
theorem MAI (x y:Int):R32 (an x y):=BZ _
theorem N8 {a b:Nat} {s:Nat} (hb:b<2 ^ s) (ha:a*2 ^ s<4294967296) (hs:b<4294967296):Sl ((a*2 ^ s:Nat):Int) (b:Int)=((a*2 ^ s+b:Nat):Int):=by
 have e:a*2 ^ s ||| b=a*2 ^ s+b:=by
  have:=Nat.shiftLeft_add_eq_or_of_lt hb a
  rw [Nat.shiftLeft_eq] at this
  exact this.symm
 unfold Sl
 have h3:a*2 ^ s ||| b<2 ^ 32:=Nat.or_lt_two_pow (by omega) (by omega)
 rw [BitVec.toNat_or]
 show w32 (((BitVec.ofInt 32 _).toNat ||| (BitVec.ofInt 32 _).toNat:Nat):Int)=_
 rw [BitVec.ofInt_natCast,BitVec.ofInt_natCast,BitVec.toNat_ofNat,BitVec.toNat_ofNat,Nat.mod_eq_of_lt (by omega),Nat.mod_eq_of_lt (by omega),e]
 rw [e] at h3
 exact Na (by omega) (by omega)
theorem CAE {e:Int} (h:R32 e):xr (ite ((IntKind.signed IntKind.u32)=true) (-(1:Int)) (IntKind.max IntKind.u32)) e=w32 (4294967295 - e):=by
 obtain ⟨h1,h2⟩:=h
 obtain ⟨n,rfl⟩:∃ n:Nat,e=(n:Int):=⟨e.toNat,by omega⟩
 have hn:n<4294967296:=by omega
 have e1:(ite ((IntKind.signed IntKind.u32)=true) (-(1:Int)) (IntKind.max IntKind.u32))=4294967295:=by decide
 rw [e1]
 unfold xr
 show w32 (((BitVec.ofInt 32 4294967295 ^^^ BitVec.ofInt 32 (n:Int)).toNat:Nat):Int)=_
 have e2:BitVec.ofInt 32 4294967295=BitVec.allOnes 32:=by decide
 rw [e2,BitVec.ofInt_natCast,BitVec.allOnes_xor,BitVec.toNat_not,BitVec.toNat_ofNat]
 rw [Ie,Ie]
 omega
def rt (low high x:Int):Int:=x / low+x % low*high
theorem DAE {low high x:Int} (h:R32 x) (hl:0<low) (hh:0<high) (hlh:low*high=4294967296):R32 (rt low high x):=by
 unfold R32 rt at *
 have h1:0≤x / low:=Int.ediv_nonneg h.1 (by omega)
 have h2:0≤x % low:=Int.emod_nonneg _ (by omega)
 have h3:x % low<low:=Int.emod_lt_of_pos _ hl
 have h4:x / low<high:=Int.ediv_lt_of_lt_mul hl (by rw [Int.mul_comm,hlh];exact h.2)
 have h5:0≤x % low*high:=Int.mul_nonneg h2 (by omega)
 have h6:x % low*high≤(low - 1)*high:=Int.mul_le_mul_of_nonneg_right (by omega) (by omega)
 have h7:(low - 1)*high=low*high - high:=by rw [Int.sub_mul,Int.one_mul]
 omega
theorem EAE {x:Int} (h:R32 x) (n:Nat) (hn:0<n) (hn2:n<32):Sl (w32 (x*2 ^ (32 - n))) (x / 2 ^ n)=rt (2 ^ n) (2 ^ (32 - n)) x:=by
 obtain ⟨h1,h2⟩:=h
 obtain ⟨y,rfl⟩:∃ y:Nat,x=(y:Int):=⟨x.toNat,by omega⟩
 have hy:y<4294967296:=by omega
 have e0:(4294967296:Nat)=2 ^ n*2 ^ (32 - n):=by rw [←Nat.pow_add,show n+(32 - n)=32 by omega]
 have e1:w32 ((y:Int)*2 ^ (32 - n))=((y % 2 ^ n*2 ^ (32 - n):Nat):Int):=by
  rw [Ie]
  have h5:((y:Int)*2 ^ (32 - n))=((y*2 ^ (32 - n):Nat):Int):=by push_cast;rfl
  have h6:y*2 ^ (32 - n) % 4294967296=y % 2 ^ n*2 ^ (32 - n):=by rw [e0,Nat.mul_mod_mul_right]
  rw [h5,←h6]
  omega
 have e2:((y:Int) / 2 ^ n)=((y / 2 ^ n:Nat):Int):=by push_cast;rfl
 have hp:0<2 ^ n:=Nat.two_pow_pos n
 have hp2:0<2 ^ (32 - n):=Nat.two_pow_pos _
 have hm:y % 2 ^ n<2 ^ n:=Nat.mod_lt _ hp
 have hd:y / 2 ^ n<2 ^ (32 - n):=Nat.div_lt_of_lt_mul (by rw [←e0];exact hy)
 rw [e1,e2,N8 hd (by rw [e0];exact Nat.mul_lt_mul_of_pos_right hm hp2) (Nat.lt_of_le_of_lt (Nat.div_le_self _ _) hy)]
 unfold rt
 push_cast
 omega
def O8 (x:Int):Int:=xr (xr (rt 128 33554432 x) (rt 262144 16384 x)) (x / 8)
def sg1 (x:Int):Int:=xr (xr (rt 131072 32768 x) (rt 524288 8192 x)) (x / 1024)
def P8 (x:Int):Int:=xr (xr (rt 64 67108864 x) (rt 2048 2097152 x)) (rt 33554432 128 x)
def Q8 (x:Int):Int:=xr (xr (rt 4 1073741824 x) (rt 8192 524288 x)) (rt 4194304 1024 x)
def FAE (w:List Int) (t:Nat):Int:=w32 (w32 (w32 (sg1 (w.getD (t - 2) 0)+w.getD (t - 7) 0)+O8 (w.getD (t - 15) 0))+w.getD (t - 16) 0)
def sched (w:List Int):Nat→List Int
 | 0=>w
 | n+1=>sched w n++[FAE (sched w n) (16+n)]
theorem Ul {w:List Int} (h:w.length=16) (n:Nat):(sched w n).length=16+n:=by
 induction n with
 | zero=>exact h
 | succ n ih=>simp [sched,ih];omega
theorem Hq {w:List Int} (h:∀ x ∈ w,R32 x) (n:Nat):∀ x ∈ sched w n,R32 x:=by
 induction n with
 | zero=>exact h
 | succ n ih=>
  intro x hx
  rw [sched,List.mem_append,List.mem_singleton] at hx
  rcases hx with hx | rfl
  ·exact ih x hx
  ·exact BZ _
theorem Vl {l:List Int} (h:∀ x ∈ l,R32 x) (i:Nat):R32 (l.getD i 0):=by
 by_cases hi:i<l.length
 ·rw [getD_at hi];exact h _ (List.getElem_mem hi)
 ·have:l.getD i 0=0:=by simp [List.getD,List.getElem?_eq_none (Nat.le_of_not_lt hi)]
  rw [this];unfold R32;omega
structure Reg where
 a:Int
 b:Int
 c:Int
 d:Int
 e:Int
 f:Int
 g:Int
 h:Int
def Reg.ok (r:Reg):Prop:=R32 r.a∧R32 r.b∧R32 r.c∧R32 r.d∧R32 r.e∧R32 r.f∧R32 r.g∧R32 r.h
def Reg.l (r:Reg):List Int:=[r.a,r.b,r.c,r.d,r.e,r.f,r.g,r.h]
theorem Reg.Wl (r:Reg):r.l.length=8:=rfl
def t1 (r:Reg) (k w:Int):Int:=w32 (w32 (w32 (w32 (r.h+P8 r.e)+xr (an r.e r.f) (an (w32 (4294967295 - r.e)) r.g))+k)+w)
def t2 (r:Reg):Int:=w32 (Q8 r.a+xr (xr (an r.a r.b) (an r.a r.c)) (an r.b r.c))
def Oa (r:Reg) (k w:Int):Reg:=⟨w32 (t1 r k w+t2 r),r.a,r.b,r.c,w32 (r.d+t1 r k w),r.e,r.f,r.g⟩
theorem GAE {r:Reg} (h:r.ok) (k w:Int):(Oa r k w).ok:=⟨BZ _,h.1,h.2.1,h.2.2.1,BZ _,h.2.2.2.2.1,h.2.2.2.2.2.1,h.2.2.2.2.2.2.1⟩
def RY (K W:List Int) (r:Reg):Nat→Reg
 | 0=>r
 | n+1=>Oa (RY K W r n) (K.getD n 0) (W.getD n 0)
theorem U8 (K W:List Int) {r:Reg} (h:r.ok) (n:Nat):(RY K W r n).ok:=by
 induction n with
 | zero=>exact h
 | succ n ih=>exact GAE ih _ _
def Me (s r:Reg):Reg:=⟨w32 (s.a+r.a),w32 (s.b+r.b),w32 (s.c+r.c),w32 (s.d+r.d),w32 (s.e+r.e),w32 (s.f+r.f),w32 (s.g+r.g),w32 (s.h+r.h)⟩
theorem HAE (s r:Reg):(Me s r).ok:=⟨BZ _,BZ _,BZ _,BZ _,BZ _,BZ _,BZ _,BZ _⟩
def keysL:List Int:=[1116352408,1899447441,3049323471,3921009573,961987163,1508970993,2453635748,2870763221,3624381080,310598401,607225278,1426881987,1925078388,2162078206,2614888103,3248222580,3835390401,4022224774,264347078,604807628,770255983,1249150122,1555081692,1996064986,2554220882,2821834349,2952996808,3210313671,3336571891,3584528711,113926993,338241895,666307205,773529912,1294757372,1396182291,1695183700,1986661051,2177026350,2456956037,2730485921,2820302411,3259730800,3345764771,3516065817,3600352804,4094571909,275423344,430227734,506948616,659060556,883997877,958139571,1322822218,1537002063,1747873779,1955562222,2024104815,2227730452,2361852424,2428436474,2756734187,3204031479,3329325298]
def be4 (a b c d:Int):Int:=a*16777216+b*65536+c*256+d
def wordAt (l:List Int) (i:Nat):Int:=be4 (l.getD (4*i) 0) (l.getD (4*i+1) 0) (l.getD (4*i+2) 0) (l.getD (4*i+3) 0)
def CV (l:List Int) (n:Nat):List Int:=(List.range n).map (wordAt l)
theorem Ac (l:List Int) (n:Nat):(CV l n).length=n:=by simp [CV]
theorem V8 (l:List Int) (n:Nat):CV l (n+1)=CV l n++[wordAt l n]:=by simp [CV,List.range_succ]
theorem IAE {a b c d:Int} (ha:0≤a∧a≤255) (hb:0≤b∧b≤255) (hc:0≤c∧c≤255) (hd:0≤d∧d≤255):R32 (be4 a b c d):=by unfold R32 be4;omega
theorem JAE {l:List Int} (h:FZ l) (i:Nat):R32 (wordAt l i):=IAE (GZ h _) (GZ h _) (GZ h _) (GZ h _)
theorem Oy {l:List Int} (h:FZ l) (n:Nat):∀ x ∈ CV l n,R32 x:=by
 intro x hx
 simp only [CV,List.mem_map] at hx
 obtain ⟨i,_,rfl⟩:=hx
 exact JAE h i
def comp (s:Reg) (b:List Int):Reg:=Me s (RY keysL (sched (CV b 16) 48) s 64)
theorem X8 (s:Reg) (b:List Int):(comp s b).ok:=HAE _ _
def comps:Nat→Reg→List Int→Reg
 | 0,s,_=>s
 | n+1,s,b=>comps n (comp s (b.take 64)) (b.drop 64)
theorem Oe {s:Reg} (h:s.ok):∀ (n:Nat) (b:List Int),(comps n s b).ok:=by
 intro n
 induction n generalizing s with
 | zero=>intro b;exact h
 | succ n ih=>intro b;exact ih (X8 _ _) _
theorem Y8 (n m:Nat):∀ (s:Reg) (b:List Int),comps (n+m) s b=comps m (comps n s b) (b.drop (64*n)):=by
 induction n with
 | zero=>intro s b;simp [comps]
 | succ n ih=>
  intro s b
  rw [Nat.add_right_comm,comps,comps,ih,List.drop_drop]
  congr 2
  omega
theorem KAE (n:Nat):∀ (s:Reg) (b c:List Int),64*n≤b.length→comps n s (b++c)=comps n s b:=by
 induction n with
 | zero=>intro s b c _;rfl
 | succ n ih=>
  intro s b c h
  rw [comps,comps,List.take_append_of_le_length (by omega),List.drop_append_of_le_length (by omega),ih _ _ _ (by simp;omega)]
def four (x:Int):List Int:=[x / 16777216,x / 65536 % 256,x / 256 % 256,x % 256]
theorem Iq {x:Int} (h:R32 x):FZ (four x):=by
 intro n hn
 unfold R32 at h
 simp only [four,List.mem_cons,List.not_mem_nil,or_false] at hn
 rcases hn with rfl | rfl | rfl | rfl <;> omega
def SN (ws:List Int):List Int:=ws.flatMap four
theorem Vg (ws:List Int):(SN ws).length=4*ws.length:=by
 induction ws with
 | nil=>rfl
 | cons w ws ih=>
  rw [show SN (w::ws)=four w++SN ws from rfl,List.length_append,ih]
  simp only [four,List.length_cons,List.length_nil];omega
theorem Py {ws:List Int} (h:∀ x ∈ ws,R32 x):FZ (SN ws):=by
 intro n hn
 simp only [SN,List.mem_flatMap] at hn
 obtain ⟨x,hx,hn⟩:=hn
 exact Iq (h x hx) n hn
theorem Z8 (a b:List Int):SN (a++b)=SN a++SN b:=by simp [SN]
theorem LAE {x:Int} (h:R32 x):be4 (x / 16777216) (x / 65536 % 256) (x / 256 % 256) (x % 256)=x:=by unfold R32 at h;unfold be4;omega
theorem C9:∀ {ws:List Int} (_:∀ x ∈ ws,R32 x) {i:Nat} (hi:i<ws.length),wordAt (SN ws) i=ws[i]
 | w::ws,h,0,_=>by
  have:=LAE (h w (List.mem_cons_self ..))
  simpa [wordAt,SN,four] using this
 | w::ws,h,i+1,hi=>by
  have ih:=C9 (ws:=ws) (fun x hx=>h x (List.mem_cons_of_mem _ hx)) (i:=i) (by simpa using hi)
  rw [List.getElem_cons_succ,←ih]
  have e:∀ j,(SN (w::ws)).getD (j+4) 0=(SN ws).getD j 0:=fun j=>by simp [SN,four,List.getD]
  unfold wordAt
  rw [show 4*(i+1)=4*i+4 by omega,show 4*i+4+1=(4*i+1)+4 by omega,show 4*i+4+2=(4*i+2)+4 by omega,show 4*i+4+3=(4*i+3)+4 by omega,e,e,e,e]
theorem MAE {ws:List Int} (h:∀ x ∈ ws,R32 x):CV (SN ws) ws.length=ws:=by
 apply List.ext_getElem
 ·rw [Ac]
 ·intro i h1 h2
  simp only [CV,List.getElem_map,List.getElem_range]
  exact C9 h h2
theorem Reg.Qe {r:Reg} (h:r.ok):∀ x ∈ r.l,R32 x:=by
 intro x hx
 simp only [Reg.l,List.mem_cons,List.not_mem_nil,or_false] at hx
 obtain ⟨h1,h2,h3,h4,h5,h6,h7,h8⟩:=h
 rcases hx with rfl | rfl | rfl | rfl | rfl | rfl | rfl | rfl <;> assumption
def RZ:Reg:=⟨1779033703,3144134277,1013904242,2773480762,1359893119,2600822924,528734635,1541459225⟩
theorem Nc:RZ.ok:=by unfold Reg.ok R32 RZ;decide
def Qa (n:Int):List Int:=[0,0,0,n / 4294967296 % 256,n / 16777216 % 256,n / 65536 % 256,n / 256 % 256,n % 256]
def RV (n:Nat):List Int:=128::(List.replicate ((119 - n % 64) % 64) 0++Qa (8*(n:Int)))
theorem Jq (n:Nat):(RV n).length=9+(119 - n % 64) % 64:=by simp [RV,Qa];omega
theorem NAE (n:Nat):(n+(RV n).length) % 64=0:=by rw [Jq];omega
theorem Qy (n:Nat):FZ (RV n):=by
 intro x hx
 simp only [RV,Qa,List.mem_cons,List.mem_append,List.mem_replicate,List.not_mem_nil,or_false] at hx
 omega
def Ue (b:List Int):List Int:=SN (comps ((b.length+(RV b.length).length) / 64) RZ (b++RV b.length)).l
def CZ (s:ByteArray):ByteArray:=ofBytes (Ue (bs s))
theorem OAE (b:List Int):(Ue b).length=32:=by rw [Ue,Vg];rfl
theorem PAE (b:List Int):FZ (Ue b):=Py (Reg.Qe (Oe Nc _ _))
theorem Ry (s:ByteArray):(CZ s).size=32:=by rw [CZ,ofBytes_size,OAE]
theorem NAI (s:ByteArray):bs (CZ s)=Ue (bs s):=QZ (PAE _)
theorem QAE {x:Int} (h:R32 x):[w8 (w32 (x.tdiv 16777216)),w8 ((w32 (x.tdiv 65536)).tmod 256),w8 ((w32 (x.tdiv 256)).tmod 256),w8 (x.tmod 256)]=four x:=by
 obtain ⟨h1,h2⟩:=h
 rw [Int.tdiv_eq_ediv_of_nonneg h1,Int.tdiv_eq_ediv_of_nonneg h1,Int.tdiv_eq_ediv_of_nonneg h1,Int.tmod_eq_emod_of_nonneg h1]
 rw [Na (n:=x / 16777216) (by omega) (by omega),Na (n:=x / 65536) (by omega) (by omega),Na (n:=x / 256) (by omega) (by omega)]
 rw [Int.tmod_eq_emod_of_nonneg (by omega),Int.tmod_eq_emod_of_nonneg (by omega)]
 simp only [four,w8_mod,List.cons.injEq,and_true]
 omega
theorem Uy {ws:List Int} (h:∀ x ∈ ws,R32 x) (hl:ws.length≤1000000000000):VZ ws=some (ofBytes (SN ws)):=by
 have key:=loopN (A:=Unit) (n:=ws.length) (Lp:=Fh) (st:=fun i _=>.c0 ws (i:Int) (SN (ws.take i))) (Inv:=fun _ _=>True) (out:=fun _ _=>some (ofBytes (SN ws)))
  (fun m _ _=>by
   simp only [Fh,Pm]
   rw [FN (by simp),List.take_length])
  (fun m i _ hi _=>.inr ⟨(),by
   have e:w64 ((i:Int)+1)=((i+1:Nat):Int):=by rw [w64_id (by omega) (by omega)];rfl
   simp only [Fh,Pm,e,Int.toNat_natCast]
   rw [TB (by simp;omega),TB (by simp;omega),TB (by rw [Vg,List.length_take];simp;omega)]
   rw [getD_at hi,QAE (h _ (List.getElem_mem hi)),take_at hi,Z8]
   simp [SN],trivial,rfl⟩)
 exact key gas 0 () (Nat.zero_le _) (gas_lt (by omega)) trivial
def Bc:SHasher:=⟨ofBytes (SN RZ.l),⟨#[]⟩,0⟩
theorem RAE:Ih=some Bc:=by
 have h:=Uy (ws:=RZ.l) (Reg.Qe Nc) (by decide)
 have e:Om=some RZ.l:=rfl
 simp only [Ih,Hr,e,h,Option.bind_some]
 rfl
def IK (x a b:Int):Bool:=decide (a≤x) && decide (x≤b)
theorem DZ {x a b:Int}:IK x a b=true↔a≤x∧x≤b:=by simp [IK]
theorem Kq (x a b:Int):WZ x a b=some (IK x a b):=by
 show (bif decide (a≤x) then some (decide (x≤b)) else some false)=some (IK x a b)
 unfold IK;cases decide (a≤x) <;> rfl
theorem D9 {h:SHasher} (h1:h.fState.size=32) (h2:h.fRest.size<64) (h3:0≤h.fCount∧h.fCount≤1000000000) (h4:h.fCount % 64=(h.fRest.size:Int)):LZ h=some true:=by
 have e:IK h.fCount 0 1000000000=true:=by rw [DZ];omega
 simp only [LZ,Ir,Kq,Option.bind_some,e]
 rw [TB (by simp;omega),TB (by simp;omega),cond_true,Int.tmod_eq_emod_of_nonneg h3.1,h4]
 simp
theorem SAE {s:ByteArray} {i:Nat} (h:4*i+4≤s.size) (hs:s.size≤9000000000000000000):Tc s ((4*i:Nat):Int)=some (wordAt (bs s) i):=by
 have hb:=Ug s
 have e1:w64 (((4*i:Nat):Int)+1)=((4*i+1:Nat):Int):=by rw [w64_id (by omega) (by omega)];rfl
 have e2:w64 (((4*i:Nat):Int)+2)=((4*i+2:Nat):Int):=by rw [w64_id (by omega) (by omega)];rfl
 have e3:w64 (((4*i:Nat):Int)+3)=((4*i+3:Nat):Int):=by rw [w64_id (by omega) (by omega)];rfl
 simp only [Tc,Jr,e1,e2,e3]
 rw [TB (by simp;omega),TB (by simp;omega),TB (by simp;omega),TB (by simp;omega)]
 rw [Qg (by omega),Qg (by omega),Qg (by omega),Qg (by omega)]
 have b0:=GZ hb (4*i)
 have b1:=GZ hb (4*i+1)
 have b2:=GZ hb (4*i+2)
 have b3:=GZ hb (4*i+3)
 unfold wordAt be4
 simp only [Ie]
 congr 1
 omega
theorem F9 {s:ByteArray} (hs:s.size≤1000000000000):EZ s=some (CV (bs s) (s.size / 4)):=by
 have key:=loopN (A:=Unit) (n:=s.size / 4) (Lp:=Nh) (st:=fun i _=>.c0 s ((4*i:Nat):Int) (CV (bs s) i)) (Inv:=fun _ _=>True) (out:=fun _ _=>some (CV (bs s) (s.size / 4)))
  (fun m _ _=>by
   simp only [Nh,Vm]
   rw [w64_id (by omega) (by omega),FN (by simp;omega)])
  (fun m i _ hi _=>.inr ⟨(),by
   have e:w64 (((4*i:Nat):Int)+4)=((4*(i+1):Nat):Int):=by rw [w64_id (by omega) (by omega)];omega
   simp only [Nh,Vm,e,SAE (s:=s) (i:=i) (by omega) (by omega),Option.bind_some,Ac,V8]
   rw [TB (by simp;omega),TB (by simp;omega)],trivial,rfl⟩)
 exact key gas 0 () (Nat.zero_le _) (gas_lt (by omega)) trivial
theorem Eb {x low high:Int} (h:R32 x) (hl:0<low) (hh:0<high) (hlh:low*high=4294967296):Oh x low high=some (rt low high x):=by
 have hr:=DAE h hl hh hlh
 obtain ⟨h1,h2⟩:=h
 have e0:(!(low == 0))=true:=by simp;omega
 have d1:0≤x / low:=Int.ediv_nonneg h1 (by omega)
 have d2:0≤x % low*high:=Int.mul_nonneg (Int.emod_nonneg _ (by omega)) (by omega)
 unfold R32 rt at hr
 simp only [Oh,Nr,e0,cond_true,Int.tdiv_eq_ediv_of_nonneg h1,Int.tmod_eq_emod_of_nonneg h1]
 rw [Na d1 (by omega),Na d2 (by omega),Na (by omega) (by omega)]
 rfl
theorem TAE {x:Int} (h:R32 x):MZ x 131072 524288 1024 true=some (sg1 x):=by
 have e1:w32 (w32 ((2147483648:Int).tdiv 131072)*2)=32768:=by decide
 have e2:w32 (w32 ((2147483648:Int).tdiv 524288)*2)=8192:=by decide
 have e3:w32 (x.tdiv 1024)=x / 1024:=by
  obtain ⟨h1,h2⟩:=h
  rw [Int.tdiv_eq_ediv_of_nonneg h1,Na (by omega) (by omega)]
 simp only [MZ,Jf,e1,e2,e3,Eb h (low:=131072) (high:=32768) (by omega) (by omega) (by omega),Eb h (low:=524288) (high:=8192) (by omega) (by omega) (by omega),Option.bind_some,Je]
 rfl
theorem UAE {x:Int} (h:R32 x):MZ x 128 262144 8 true=some (O8 x):=by
 have e1:w32 (w32 ((2147483648:Int).tdiv 128)*2)=33554432:=by decide
 have e2:w32 (w32 ((2147483648:Int).tdiv 262144)*2)=16384:=by decide
 have e3:w32 (x.tdiv 8)=x / 8:=by
  obtain ⟨h1,h2⟩:=h
  rw [Int.tdiv_eq_ediv_of_nonneg h1,Na (by omega) (by omega)]
 simp only [MZ,Jf,e1,e2,e3,Eb h (low:=128) (high:=33554432) (by omega) (by omega) (by omega),Eb h (low:=262144) (high:=16384) (by omega) (by omega) (by omega),Option.bind_some,Je]
 rfl
theorem VAE {x:Int} (h:R32 x):MZ x 64 2048 33554432 false=some (P8 x):=by
 have e1:w32 (w32 ((2147483648:Int).tdiv 64)*2)=67108864:=by decide
 have e2:w32 (w32 ((2147483648:Int).tdiv 2048)*2)=2097152:=by decide
 have e3:w32 (w32 ((2147483648:Int).tdiv 33554432)*2)=128:=by decide
 simp only [MZ,Jf,e1,e2,e3,Eb h (low:=64) (high:=67108864) (by omega) (by omega) (by omega),Eb h (low:=2048) (high:=2097152) (by omega) (by omega) (by omega),Eb h (low:=33554432) (high:=128) (by omega) (by omega) (by omega),Option.bind_some,Je]
 rfl
theorem WAE {x:Int} (h:R32 x):MZ x 4 8192 4194304 false=some (Q8 x):=by
 have e1:w32 (w32 ((2147483648:Int).tdiv 4)*2)=1073741824:=by decide
 have e2:w32 (w32 ((2147483648:Int).tdiv 8192)*2)=524288:=by decide
 have e3:w32 (w32 ((2147483648:Int).tdiv 4194304)*2)=1024:=by decide
 simp only [MZ,Jf,e1,e2,e3,Eb h (low:=4) (high:=1073741824) (by omega) (by omega) (by omega),Eb h (low:=8192) (high:=524288) (by omega) (by omega) (by omega),Eb h (low:=4194304) (high:=1024) (by omega) (by omega) (by omega),Option.bind_some,Je]
 rfl
theorem G9 (s r:Reg):∀ i,i<8→(Me s r).l.getD i 0=w32 (s.l.getD i 0+r.l.getD i 0)
 | 0,_=>rfl | 1,_=>rfl | 2,_=>rfl | 3,_=>rfl | 4,_=>rfl | 5,_=>rfl | 6,_=>rfl | 7,_=>rfl
 | n+8,h=>by omega
theorem OAI (n:Nat) (h:n<9223372036854775807):∃ m,gas=m+n:=⟨gas - n,by have:=gas_lt h;omega⟩
theorem XAE (s r:Reg):∀ (j i m:Nat),i+j=8→XY (m+j+1) (.c3 s.l (i:Int) r.l ((Me s r).l.take i))=some (Me s r).l:=by
 intro j
 induction j with
 | zero=>
  intro i m h
  obtain rfl:i=8:=by omega
  simp only [XY,Xa]
  rfl
 | succ j ih=>
  intro i m h
  have e:w64 ((i:Int)+1)=((i+1:Nat):Int):=by rw [w64_id (by omega) (by omega)];rfl
  have hl:∀ q:Reg,q.l.length=8:=fun _=>rfl
  rw [show m+(j+1)+1=(m+j+1)+1 by omega]
  simp only [XY,Xa,e,Int.toNat_natCast]
  rw [TB (by simp;omega),TB (by simp [hl];omega),TB (by simp [hl];omega),TB (by simp [hl];omega)]
  have h3:=ih (i+1) m (by omega)
  rw [take_at (by rw [hl];omega),←getD_at (by rw [hl];omega) 0,G9 _ _ _ (by omega)] at h3
  exact h3
def Vy:Nat→List Int→List Int
 | 0,v=>v
 | i+1,v=>Vy i (v.set (i+1) (v.getD i 0))
theorem YAE (t o W:List Int) (k T1 T2:Int) (hk:0≤k∧k<64):∀ (i m:Nat) (v:List Int),i<8→v.length=8→XY (m+i+1) (.c2 t o k T1 T2 (i:Int) W v)=XY m (.c1 t o (k+1) W (((Vy i v).set 4 (w32 ((Vy i v).getD 4 0+T1))).set 0 (w32 (T1+T2)))):=by
 intro i
 induction i with
 | zero=>
  intro m v _ hl
  have e:w64 (k+1)=k+1:=w64_id (by omega) (by omega)
  simp only [XY,Xa,e]
  rw [FN (by simp),TB (by simp [hl]),TB (by simp [hl]),TB (by simp [hl])]
  rfl
 | succ i ih=>
  intro m v hi hl
  have e:w64 (((i+1:Nat):Int) - 1)=(i:Int):=by rw [w64_id (by omega) (by omega)];omega
  rw [show m+(i+1)+1=(m+i+1)+1 by omega]
  rw [XY]
  simp only [Xa,e,Int.toNat_natCast]
  rw [TB (by simp;try omega),TB (by simp [hl];try omega),TB (by simp [hl];try omega),ih m _ (by omega) (by simp [hl])]
  rfl
theorem ZAE (t W:List Int) (r:Reg) (hr:r.ok) (hW:∀ x ∈ W,R32 x) (hWl:W.length=64) (i m:Nat) (hi:i<64) :
  XY (m+9) (.c1 t keysL (i:Int) W r.l)=XY m (.c1 t keysL ((i:Int)+1) W (Oa r (keysL.getD i 0) (W.getD i 0)).l):=by
 obtain ⟨h1,h2,h3,h4,h5,h6,h7,h8⟩:=hr
 have hk:keysL.length=64:=rfl
 have g (q:Reg):q.l.getD 0 0=q.a∧q.l.getD 1 0=q.b∧q.l.getD 2 0=q.c∧q.l.getD 4 0=q.e∧q.l.getD 5 0=q.f∧q.l.getD 6 0=q.g∧q.l.getD 7 0=q.h:=⟨rfl,rfl,rfl,rfl,rfl,rfl,rfl⟩
 obtain ⟨g0,g1,g2,g4,g5,g6,g7⟩:=g r
 have hl:r.l.length=8:=rfl
 have z4:(4:Int).toNat=4:=rfl
 have z5:(5:Int).toNat=5:=rfl
 have z6:(6:Int).toNat=6:=rfl
 have z7:(7:Int).toNat=7:=rfl
 have z0:(0:Int).toNat=0:=rfl
 have z1:(1:Int).toNat=1:=rfl
 have z2:(2:Int).toNat=2:=rfl
 rw [show m+9=(m+7+1)+1 by omega,XY]
 simp only [Xa,z0,z1,z2,z4,z5,z6,z7,g0,g1,g2,g4,g5,g6,g7,hl,hk,hWl,VAE h5,WAE h1,Option.bind_some,Je,J8,Int.toNat_natCast]
 rw [TB (by simp;omega),TB (by simp),TB (by simp),TB (by simp),TB (by simp),TB (by simp;omega),TB (by simp;omega),TB (by simp),TB (by simp),TB (by simp),TB (by simp),TB (by simp),TB (by simp),TB (by simp)]
 exact YAE t keysL W (i:Int) (t1 r (keysL.getD i 0) (W.getD i 0)) (t2 r) (by omega) 7 m r.l (by omega) rfl
theorem AAF (s:Reg) (hs:s.ok) (W:List Int) (hW:∀ x ∈ W,R32 x) (hWl:W.length=64):∀ (j i m:Nat),i+j=64→XY (m+9*j+10) (.c1 s.l keysL (i:Int) W (RY keysL W s i).l)=some (Me s (RY keysL W s 64)).l:=by
 intro j
 induction j with
 | zero=>
  intro i m h
  obtain rfl:i=64:=by omega
  rw [show m+9*0+10=(m+8+1)+1 by omega,XY]
  simp only [Xa]
  rw [FN (by simp)]
  exact XAE s _ 8 0 m (by omega)
 | succ j ih=>
  intro i m h
  rw [show m+9*(j+1)+10=(m+9*j+10)+9 by omega,ZAE s.l W _ (U8 keysL W hs i) hW hWl i _ (by omega)]
  exact ih (i+1) m (by omega)
theorem BAF (s:Reg) (hs:s.ok) (w:List Int) (hw:∀ x ∈ w,R32 x) (hwl:w.length=16):∀ (j i m:Nat),i+j=48→XY (m+9*64+10+1+j) (.c0 s.l keysL ((16+i:Nat):Int) (sched w i))=some (Me s (RY keysL (sched w 48) s 64)).l:=by
 intro j
 induction j with
 | zero=>
  intro i m h
  obtain rfl:i=48:=by omega
  rw [show m+9*64+10+1+0=(m+9*64+10)+1 by omega,XY]
  simp only [Xa]
  rw [FN (by simp),TB (by simp [Reg.l])]
  exact AAF s hs _ (Hq hw 48) (Ul hwl 48) 64 0 m (by omega)
 | succ j ih=>
  intro i m h
  have hl:=Ul hwl i
  have hr:=Hq hw i
  have e2:w64 (((16+i:Nat):Int) - 2)=((16+i - 2:Nat):Int):=by rw [w64_id (by omega) (by omega)];omega
  have e7:w64 (((16+i:Nat):Int) - 7)=((16+i - 7:Nat):Int):=by rw [w64_id (by omega) (by omega)];omega
  have e15:w64 (((16+i:Nat):Int) - 15)=((16+i - 15:Nat):Int):=by rw [w64_id (by omega) (by omega)];omega
  have e16:w64 (((16+i:Nat):Int) - 16)=((16+i - 16:Nat):Int):=by rw [w64_id (by omega) (by omega)];omega
  have e1:w64 (((16+i:Nat):Int)+1)=((16+(i+1):Nat):Int):=by rw [w64_id (by omega) (by omega)];omega
  rw [show m+9*64+10+1+(j+1)=(m+9*64+10+1+j)+1 by omega,XY]
  simp only [Xa,e1,e2,e7,e15,e16,Int.toNat_natCast,hl,TAE (Vl hr _),UAE (Vl hr _),Option.bind_some]
  rw [TB (by simp;omega),TB (by simp;omega),TB (by simp;omega),TB (by simp;omega),TB (by simp;omega),TB (by simp;omega)]
  exact ih (i+1) m (by omega)
theorem H9 {s:Reg} (hs:s.ok) {b:ByteArray} (hb:b.size=64):Ea s.l keysL b=some (comp s (bs b)).l:=by
 have hr:=Oy (Ug b) 16
 obtain ⟨m,hm⟩:∃ m,gas=m+9*64+10+1+48:=⟨gas - 635,by have:=gas_lt (n:=635) (by omega);omega⟩
 have h:=BAF s hs _ hr (Ac _ 16) 48 0 m (by omega)
 have e0:((16+0:Nat):Int)=16:=rfl
 rw [e0,show sched (CV (bs b) 16) 0=CV (bs b) 16 from rfl] at h
 rw [Ea,Qr,F9 (s:=b) (by omega),Option.bind_some,hb,hm]
 exact h
theorem I9:Va=some keysL:=rfl
theorem CAF (b:List Int) (i:Nat):(b.take (64*i+64)).drop (64*i)=(b.drop (64*i)).take 64:=by
 rw [List.drop_take];congr 1;omega
theorem J9 (i:Nat) (s:Reg) (b:List Int):comps (i+1) s b=comp (comps i s b) ((b.drop (64*i)).take 64):=by
 rw [Y8 i 1];rfl
theorem L9 {r:Reg} (h:r.ok):EZ (ofBytes (SN r.l))=some r.l:=by
 have hs:(ofBytes (SN r.l)).size=32:=by rw [ofBytes_size,Vg];rfl
 rw [F9 (by omega),hs,QZ (Py (Reg.Qe h))]
 exact congrArg some (MAE (Reg.Qe h))
theorem DAF {s:ByteArray} (hs:s.size≤1000000000):Uh Bc s=some ⟨ofBytes (SN (comps (s.size / 64) RZ (bs s)).l),s.extract (64*(s.size / 64)) s.size,(s.size:Int)⟩:=by
 have e0:LZ Bc=some true:=D9 (by rw [Bc,ofBytes_size,Vg];rfl) (by decide) (by decide) (by decide)
 have e1:((⟨#[]⟩:ByteArray)++s)=s:=Fe (by rw [Pg];rfl)
 have key:=loopN (A:=Unit) (n:=s.size / 64) (Lp:=Rh) (st:=fun i _=>.c0 s s ((64*i:Nat):Int) Bc (⟨(⟨#[]⟩:ByteArray),(⟨#[]⟩:ByteArray),(0:Int)⟩:SHasher) (comps i RZ (bs s)).l keysL) (Inv:=fun _ _=>True)
  (out:=fun _ _=>some ⟨ofBytes (SN (comps (s.size / 64) RZ (bs s)).l),s.extract (64*(s.size / 64)) s.size,(s.size:Int)⟩)
  (fun m _ _=>by
   have hw:w64 (Bc.fCount+(s.size:Int))=(s.size:Int):=by
    show w64 ((0:Int)+(s.size:Int))=_
    rw [Int.zero_add,w64_id (by omega) (by omega)]
   rw [Rh]
   simp only [Dn,hw,Int.toNat_natCast]
   rw [w64_id (by omega) (by omega),FN (by simp;omega),Uy (Reg.Qe (Oe Nc _ _)) (by simp [Reg.l]),Option.bind_some,TB (by simp;omega)])
  (fun m i _ hi _=>.inr ⟨(),by
   have e:w64 (((64*i:Nat):Int)+64)=((64*(i+1):Nat):Int):=by rw [w64_id (by omega) (by omega)];omega
   rw [Rh]
   simp only [Dn,e,Int.toNat_natCast]
   rw [TB (by simp;omega),TB (by simp;omega),H9 (Oe Nc _ _) (by simp;omega),Option.bind_some,He,show 64*(i+1)=64*i+64 by omega,CAF,←J9],trivial,rfl⟩)
 rw [Uh,Ur,e0,Option.bind_some,FN (by rfl)]
 have hw:w64 (Bc.fCount+(s.size:Int))=(s.size:Int):=by
  show w64 ((0:Int)+(s.size:Int))=_
  rw [Int.zero_add,w64_id (by omega) (by omega)]
 rw [hw,FN (by simp;omega),show Bc.fState=ofBytes (SN RZ.l) from rfl,L9 Nc,Option.bind_some,I9,Option.bind_some,show Bc.fRest=⟨#[]⟩ from rfl,e1]
 rw [TB (by (have:(⟨#[]⟩:ByteArray).size=0:=rfl);simp only [this,decide_eq_true_eq];omega)]
 exact key gas 0 () (Nat.zero_le _) (gas_lt (by omega)) trivial
def Ve (b:Int):Nat→List Int
 | 0=>[]
 | i+1=>(b / 256 ^ i % 256)::Ve b i
def Fb:Nat→Nat
 | 0=>0
 | i+1=>Fb i+(i+2)
theorem EAF (x:Int) (j:Nat):x / 256 / 256 ^ j=x / 256 ^ (j+1):=by
 rw [Int.ediv_ediv_of_nonneg (by omega)]
 congr 1
 rw [Int.pow_succ,Int.mul_comm]
theorem FAF (h:SHasher) (b:Int):∀ (j k i m:Nat) (x:Int) (t:List Int),k+j=i→i≤7→0≤x→x≤9223372036854775807→t.length≤1000→
  ZY (m+j+1) (.c2 b (i:Int) x (k:Int) h t)=ZY m (.c1 b ((i:Int) - 1) h (t++[x / 256 ^ j % 256])):=by
 intro j
 induction j with
 | zero=>
  intro k i m x t hk hi hx hx2 ht
  have e:w64 ((i:Int) - 1)=(i:Int) - 1:=w64_id (by omega) (by omega)
  have e2:w8 (x.tmod 256)=x % 256:=by rw [Int.tmod_eq_emod_of_nonneg hx,w8_id (by omega) (by omega)]
  rw [ZY]
  simp only [Ya,e,e2]
  rw [FN (by simp;omega),TB (by simp;omega),Int.pow_zero,Int.ediv_one]
 | succ j ih=>
  intro k i m x t hk hi hx hx2 ht
  have e:w64 ((k:Int)+1)=((k+1:Nat):Int):=by rw [w64_id (by omega) (by omega)];rfl
  have e2:w64 (x.tdiv 256)=x / 256:=by rw [Int.tdiv_eq_ediv_of_nonneg hx,w64_id (by omega) (by omega)]
  rw [show m+(j+1)+1=(m+j+1)+1 by omega,ZY]
  simp only [Ya,e,e2]
  rw [TB (by simp;omega),ih (k+1) i m (x / 256) t (by omega) hi (by omega) (by omega) ht,EAF]
theorem GAF (h:SHasher) (b:Int) (hb:0≤b) (hb2:b≤9223372036854775807):∀ (i m:Nat) (t:List Int),i≤8→t.length+i≤900→ZY (m+Fb i) (.c1 b ((i:Int) - 1) h t)=ZY m (.c1 b (-1) h (t++Ve b i)):=by
 intro i
 induction i with
 | zero=>intro m t _ _;simp [Fb,Ve]
 | succ i ih=>
  intro m t hi ht
  rw [Fb,show m+(Fb i+(i+2))=(m+Fb i)+i+1+1 by omega,ZY,show ((i+1:Nat):Int) - 1=(i:Int) by omega]
  simp only [Ya]
  rw [TB (by simp),show (0:Int)=((0:Nat):Int) from rfl,FAF h b i 0 i _ b t (by omega) (by omega) hb hb2 (by omega),ih m _ (by omega) (by simp;omega)]
  simp [Ve]
theorem HAF {b:Int} (h:0≤b) (h2:b<1099511627776):Ve b 8=Qa b:=by
 simp only [Ve,Qa,List.cons.injEq,and_true]
 omega
theorem IAF (r:Reg) (hr:r.ok) (t:List Int) (ht:FZ t) (n:Nat) (hn:t.length=64*n) (hn2:n≤100):∀ (j i m:Nat),i+j=n→ZY (m+j+1) (.c3 ((64*i:Nat):Int) t (comps i r t).l keysL)=some (ofBytes (SN (comps n r t).l)):=by
 intro j
 induction j with
 | zero=>
  intro i m h
  obtain rfl:i=n:=by omega
  rw [ZY]
  simp only [Ya]
  rw [FN (by simp;omega),Uy (Reg.Qe (Oe hr _ _)) (by simp [Reg.l]),Option.bind_some]
 | succ j ih=>
  intro i m h
  have e:w64 (((64*i:Nat):Int)+64)=((64*(i+1):Nat):Int):=by rw [w64_id (by omega) (by omega)];omega
  have hl:((t.drop (64*i)).take (64*(i+1) - 64*i)).length=64:=by rw [List.length_take,List.length_drop];omega
  have hby:FZ ((t.drop (64*i)).take (64*(i+1) - 64*i)):=fun x hx=>ht x (List.mem_of_mem_drop (List.mem_of_mem_take hx))
  rw [show m+(j+1)+1=(m+j+1)+1 by omega,ZY]
  simp only [Ya,e,Int.toNat_natCast]
  rw [TB (by simp;omega),TB (by simp;omega),H9 (Oe hr _ _) (by rw [ofBytes_size,hl]),Option.bind_some,QZ hby,show 64*(i+1) - 64*i=64 by omega,←J9]
  exact ih (i+1) m (by omega)
theorem JAF (h:SHasher) (r:List Int) (hr:r.length<64):∀ (j i m:Nat),i+j=(119 - r.length) % 64→ZY (m+j+1) (.c0 h (r++128::List.replicate i 0))=ZY m (.c1 (w64 (8*h.fCount)) 7 h (r++128::List.replicate ((119 - r.length) % 64) 0)):=by
 intro j
 induction j with
 | zero=>
  intro i m hi
  rw [ZY]
  simp only [Ya]
  rw [FN (by rw [Int.tmod_eq_emod_of_nonneg (by omega)];simp;omega),show i=(119 - r.length) % 64 by omega]
 | succ j ih=>
  intro i m hi
  rw [show m+(j+1)+1=(m+j+1)+1 by omega,ZY]
  simp only [Ya]
  rw [TB (by rw [Int.tmod_eq_emod_of_nonneg (by omega)];simp;omega),TB (by simp;omega)]
  have e:(r++128::List.replicate i (0:Int))++[0]=r++128::List.replicate (i+1) 0:=by
   rw [List.replicate_succ'];simp
  rw [e]
  exact ih (i+1) m (by omega)
theorem KAF {r:Reg} (hr:r.ok) {s:ByteArray} {n:Nat} (hs:s.size=n % 64) (hn:n≤1000000000):Wh ⟨ofBytes (SN r.l),s,(n:Int)⟩=some (ofBytes (SN (comps ((s.size+(RV n).length) / 64) r (bs s++RV n)).l)):=by
 have e0:LZ ⟨ofBytes (SN r.l),s,(n:Int)⟩=some true:=D9 (by rw [ofBytes_size,Vg];rfl) (by simp only;omega) (by simp only;omega) (by simp only;omega)
 have hl:=bs_len s
 obtain ⟨m,hm⟩:∃ m,gas=((m+((s.size+(RV n).length) / 64)+1+1+Fb 8)+((119 - (bs s).length) % 64)+1):=⟨gas - (((s.size+(RV n).length) / 64)+1+1+Fb 8+((119 - (bs s).length) % 64)+1),by
  have:=gas_lt (n:=1000) (by omega)
  have h2:=Jq n
  have h3:Fb 8=44:=rfl
  omega⟩
 have hw:w64 (8*(n:Int))=8*(n:Int):=w64_id (by omega) (by omega)
 have hrep:(bs s++128::List.replicate ((119 - (bs s).length) % 64) 0)++Ve (8*(n:Int)) 8=bs s++RV n:=by
  rw [HAF (by omega) (by omega),RV,hl,hs,show (119 - n % 64) % 64=(119 - n % 64) % 64 from rfl]
  simp
 rw [Wh,Xr,e0,Option.bind_some,FN (by rfl),TB (by simp;omega),AAE,TB (by rw [hl];simp;omega),hm]
 have h0:=JAF ⟨ofBytes (SN r.l),s,(n:Int)⟩ (bs s) (by omega) ((119 - (bs s).length) % 64) 0 (m+((s.size+(RV n).length) / 64)+1+1+Fb 8) (by omega)
 rw [List.replicate_zero] at h0
 rw [h0,show (7:Int)=((8:Nat):Int) - 1 from rfl]
 simp only [hw]
 rw [GAF _ _ (by omega) (by omega) 8 _ _ (by omega) (by simp;omega),hrep,ZY]
 simp only [Ya]
 rw [FN (by simp),L9 hr,Option.bind_some,I9,Option.bind_some]
 have hb:FZ (bs s++RV n):=fun x hx=>by
  rcases List.mem_append.1 hx with hx | hx
  ·exact Ug s x hx
  ·exact Qy n x hx
 have hlen:(bs s++RV n).length=64*((s.size+(RV n).length) / 64):=by
  have:=NAE n
  rw [List.length_append,hl]
  omega
 exact IAF r hr _ hb _ hlen (by have:=Jq n;omega) ((s.size+(RV n).length) / 64) 0 m (by omega)
theorem LAF (b:List Int):comps ((b.length+(RV b.length).length) / 64) RZ (b++RV b.length)=comps ((b.length % 64+(RV b.length).length) / 64) (comps (b.length / 64) RZ b) (b.drop (64*(b.length / 64))++RV b.length):=by
 rw [show (b.length+(RV b.length).length) / 64=b.length / 64+(b.length % 64+(RV b.length).length) / 64 by omega,Y8,KAE _ _ _ _ (by omega),List.drop_append_of_le_length (by omega)]
theorem Xl {s:ByteArray} (hs:s.size≤1000000000):NZ s=some (CZ s):=by
 have h1:(s.extract (64*(s.size / 64)) s.size).size=s.size % 64:=by simp;omega
 have h:=KAF (Oe Nc (s.size / 64) (bs s)) (s:=s.extract (64*(s.size / 64)) s.size) h1 hs
 rw [He,h1,List.take_of_length_le (by rw [bs_len];omega)] at h
 rw [NZ,Yr,RAE,Option.bind_some,DAF hs,Option.bind_some,h,Option.bind_some,CZ,Ue,LAF,bs_len]
theorem N9 {n:Nat} {x:Int} (h:n≤1000000000):Tf (n:Int) x=some (ofBytes (List.replicate n x)):=by
 have key:∀ (j i m:Nat),i+j=n→Zh (m+j+1) (.c0 (n:Int) x (i:Int) (List.replicate i x++List.replicate (n - i) 0))=some (ofBytes (List.replicate n x)):=by
  intro j
  induction j with
  | zero=>
   intro i m hi
   obtain rfl:i=n:=by omega
   rw [Zh]
   simp only [Gn]
   rw [FN (by simp),Nat.sub_self,List.replicate_zero,List.append_nil]
  | succ j ih=>
   intro i m hi
   have e:w64 ((i:Int)+1)=((i+1:Nat):Int):=by rw [w64_id (by omega) (by omega)];rfl
   rw [show m+(j+1)+1=(m+j+1)+1 by omega,Zh]
   simp only [Gn,e,Int.toNat_natCast]
   rw [TB (by simp;omega),TB (by simp;omega),show n - i=(n - (i+1))+1 by omega,List.replicate_succ,Fq (by simp)]
   have h2:=ih (i+1) m (by omega)
   rw [List.replicate_succ' (n:=i),List.append_assoc] at h2
   exact h2
 obtain ⟨m,hm⟩:∃ m,gas=m+n+1:=⟨gas - (n+1),by have:=gas_lt (n:=n+1) (by omega);omega⟩
 have h0:=key n 0 m (by omega)
 rw [List.replicate_zero,List.nil_append,Nat.sub_zero] at h0
 rw [Tf,Es,TB (by simp;omega),hm]
 exact h0
theorem PAI {n x:Int} (h0:0≤n) (h1:n≤1000000000):Ok (Tf n x) fun r=>(r.size:Int)=n:=by
 have h:=N9 (n:=n.toNat) (x:=x) (by omega)
 rw [show ((n.toNat:Nat):Int)=n by omega] at h
 exact ⟨_,h,by show ((ofBytes (List.replicate n.toNat x)).size:Int)=n;rw [ofBytes_size,List.length_replicate];omega⟩
def KY:SBook:=⟨CZ ⟨#[]⟩,0,[],0,ofBytes (List.replicate 32 0),0⟩
theorem Wy:Fa=some KY:=by
 rw [Fa,Gs,Xl (by decide),Option.bind_some,show (32:Int)=((32:Nat):Int) from rfl,N9 (by omega),Option.bind_some];rfl
theorem Xe {c:SL01Cur} (hc:PY c):Ok (OZ c) fun r=>0≤r.1∧r.1≤255∧PY r.2:=by
 have hl:codeL.length≤140737488351232:=PC.hl
 have hc:0≤c.fI:=hc
 rw [OZ,Ls]
 refine Ok.cond (fun h=>?_) fun h=>Ok.ret ⟨(Gq _).1,(Gq _).2,hc⟩
 rw [decide_eq_true_eq] at h
 refine Ok.chk (by simp;omega) (Ok.chk (Nat.ble_eq_true_of_le (by omega)) (Ok.ret ⟨(Gq _).1,(Gq _).2,?_⟩))
 show 0≤w64 (c.fI+1)
 rw [w64_id (by omega) (by omega)];omega
theorem tmod_lt {a n:Int} (ha:0≤a) (hn:0<n):0≤a.tmod n∧a.tmod n<n:=⟨Int.tmod_nonneg _ ha,Int.tmod_lt_of_pos _ hn⟩
theorem SY {c:SL01Cur} {n:Int} (hc:PY c):Ok (OY c n) fun r=>(0≤r.1∧(0<n→r.1<n)∧(n≤0→r.1=0))∧PY r.2:=by
 rw [OY,Qs]
 refine Ok.cond (fun h=>?_) fun h=>?_
 ·rw [decide_eq_true_eq] at h
  exact Ok.ret ⟨⟨Int.le_refl 0,fun h2=>h2,fun _=>rfl⟩,hc⟩
 ·rw [decide_eq_false_iff_not] at h
  have hn:(!(n == 0))=true:=by simp;omega
  refine Ok.cond (fun _=>?_) fun _=>?_
  ·refine Ok.bind (Xe hc) fun a ha=>Ok.chk hn (Ok.ret ?_)
   have:=tmod_lt ha.1 (show 0<n by omega)
   exact ⟨⟨this.1,fun _=>this.2,fun h2=>by omega⟩,ha.2.2⟩
  ·refine Ok.bind (Xe hc) fun a ha=>Ok.bind (Xe ha.2.2) fun b hb=>Ok.bind (Xe hb.2.2) fun d hd=>Ok.bind (Xe hd.2.2) fun e he=>Ok.chk hn (Ok.ret ?_)
   obtain ⟨a1,a2,_⟩:=ha
   obtain ⟨b1,b2,_⟩:=hb
   obtain ⟨d1,d2,_⟩:=hd
   obtain ⟨e1,e2,e3⟩:=he
   have hw:w64 (w64 (w64 (w64 (a.1*16777216)+w64 (b.1*65536))+w64 (d.1*256))+e.1)=a.1*16777216+b.1*65536+d.1*256+e.1:=by
    rw [w64_id (n:=a.1*16777216) (by omega) (by omega),w64_id (n:=b.1*65536) (by omega) (by omega),w64_id (n:=d.1*256) (by omega) (by omega),w64_id (n:=a.1*16777216+b.1*65536) (by omega) (by omega),w64_id (n:=a.1*16777216+b.1*65536+d.1*256) (by omega) (by omega),w64_id (by omega) (by omega)]
   have:=tmod_lt (show 0≤a.1*16777216+b.1*65536+d.1*256+e.1 by omega) (show 0<n by omega)
   simp only [hw]
   exact ⟨⟨this.1,fun _=>this.2,fun h2=>by omega⟩,e3⟩
theorem MAF {c:SL01Cur} {l:List Int} (hc:PY c) (hl:0<l.length):Ok (Ci c l) fun r=>r.1 ∈ l∧PY r.2:=by
 rw [Ci,Vs]
 refine Ok.bind (SY hc) fun a ha=>?_
 have h1:=ha.1.2.1 (by omega)
 refine Ok.chk (by simp;omega) (Ok.ret ⟨?_,ha.2⟩)
 rw [getD_at (by omega)];exact List.getElem_mem _
theorem Xy {c:SL01Cur} {l:List ByteArray} (hc:PY c) (hl:0<l.length):Ok (Yc c l) fun r=>r.1 ∈ l∧PY r.2:=by
 rw [Yc,Ws]
 refine Ok.bind (SY hc) fun a ha=>?_
 have h1:=ha.1.2.1 (by omega)
 refine Ok.chk (by simp;omega) (Ok.ret ⟨?_,ha.2⟩)
 rw [getD_at (by omega)];exact List.getElem_mem _
theorem Cc {c:SL01Cur} {n:Int} (hc:PY c):Ok (Ob c n) fun r=>PY r.2:=by
 rw [Ob,Dt]
 exact Ok.bind (SY hc) fun a ha=>Ok.ret ha.2
theorem NAF {c:SL01Cur} {n:Int} (hc:PY c) (h0:0≤n):Ok (Gi c n) fun r=>(r.1.size:Int)=min n 5000∧PY r.2:=by
 have key:∀ (j i m:Nat) (N:Nat) (a b:Int) (out:List Int),i+j=N→N≤5000→out.length=i→0≤a→Ok (Vf (m+j+1) (.c0 (N:Int) (i:Int) a b out)) fun r=>r.1.size=N∧PY r.2:=by
  intro j
  induction j with
  | zero=>
   intro i m N a b out hi hN ho ha
   rw [Vf];simp only [Rn]
   rw [FN (by simp;omega)]
   exact Ok.ret ⟨by rw [ofBytes_size];omega,ha⟩
  | succ j ih=>
   intro i m N a b out hi hN ho ha
   have hw:w64 ((i:Int)+1)=((i+1:Nat):Int):=by rw [w64_id (by omega) (by omega)];rfl
   rw [show m+(j+1)+1=(m+j+1)+1 from rfl,Vf]
   simp only [Rn,hw]
   rw [TB (by simp;omega)]
   exact Ok.bind (Xe (c:=⟨(),a,b⟩) ha) fun r hr=>Ok.chk (by simp;omega) (ih (i+1) m N _ _ _ (by omega) hN (by simp [ho]) hr.2.2)
 rw [Gi,Jt]
 have run:∀ N:Nat,N≤5000→Ok (Vf gas (.c0 (N:Int) 0 c.fI c.fH [])) fun r=>r.1.size=N∧PY r.2:=fun N hN=>by
  obtain ⟨m,hm⟩:∃ m,gas=m+N+1:=⟨gas - (N+1),by have:=gas_lt (n:=N+1) (by omega);omega⟩
  rw [hm]
  exact key N 0 m N _ _ [] (Nat.zero_add _) hN rfl hc
 refine Ok.cond (fun h=>?_) fun h=>?_
 ·rw [decide_eq_true_eq] at h
  exact (run 5000 (Nat.le_refl _)).mono fun r hr=>⟨by omega,hr.2⟩
 ·rw [decide_eq_false_iff_not] at h
  have:=run n.toNat (by omega)
  rw [show ((n.toNat:Nat):Int)=n by omega] at this
  exact this.mono fun r hr=>⟨by omega,hr.2⟩
def JY (x:SThing):Bool:=IK x.fId 1 1000 && IK x.fKind 1 3 && IK x.fNext 0 16 && ((x.fKind == 2) || ((x.fNext == 0) && !x.fSigns)) && ((x.fKind == 1) || !x.fWraps) && (bif x.fKind == 3 then decide ((x.fValue.size:Int)≤100) else (x.fValue.size:Int) == 32)
theorem O9 (x:SThing):Ub x=some (JY x):=by
 simp only [Ub,Xt,Kq,Option.bind_some,JY,bne]
 cases IK x.fId 1 1000 <;> cases IK x.fKind 1 3 <;> cases IK x.fNext 0 16 <;> cases (x.fKind == 2) <;> cases (x.fKind == 1) <;> cases (x.fKind == 3) <;> cases (x.fNext == 0) <;> cases x.fSigns <;> cases x.fWraps <;> rfl
theorem Ye {x:SThing} (h:JY x=true):1≤x.fKind∧x.fKind≤3∧1≤x.fId∧x.fId≤1000∧0≤x.fNext∧x.fNext≤16∧x.fValue.size≤100:=by
 unfold JY at h
 simp only [Bool.and_eq_true] at h
 obtain ⟨⟨⟨⟨⟨h1,h2⟩,h3⟩,_⟩,_⟩,h4⟩:=h
 rw [DZ] at h1 h2 h3
 refine ⟨h2.1,h2.2,h1.1,h1.2,h3.1,h3.2,?_⟩
 cases hk:x.fKind == 3
 ·rw [hk] at h4;simp at h4;omega
 ·rw [hk] at h4;simp at h4;omega
theorem P9 {s:ByteArray} (h:s ∈ [(⟨#[97]⟩:ByteArray),⟨#[98]⟩,⟨#[99]⟩]):s.size=1:=by
 simp only [List.mem_cons,List.not_mem_nil,or_false] at h
 rcases h with rfl | rfl | rfl <;> rfl
theorem OAF {c:SL01Cur} (hc:PY c):Ok (Ii c) fun r=>JY r.1=true∧PY r.2:=by
 rw [Ii,Ot]
 refine Ok.bind (SY hc) fun a ha=>Ok.bind (SY ha.2) fun b hb=>Ok.bind (Cc hb.2) fun d hd=>Ok.bind (Cc hd) fun e he=>?_
 have a1:=ha.1.2.1 (by omega)
 have b1:=hb.1.2.1 (by omega)
 have hi:w64 (1+a.1)=1+a.1:=w64_id (by omega) (by omega)
 have hk:w64 (1+b.1)=1+b.1:=w64_id (by omega) (by omega)
 rw [hi,hk]
 have base:IK (1+a.1) 1 1000=true∧IK (1+b.1) 1 3=true:=⟨DZ.2 (by omega),DZ.2 (by omega)⟩
 have hd32:∀ s:ByteArray,((CZ s).size:Int) == 32:=fun s=>by rw [Ry];rfl
 refine Ok.cond (fun h3=>?_) fun h3=>Ok.cond (fun h2=>?_) fun h2=>?_
 ·refine Ok.bind (SY he) fun f hf=>Ok.bind (NAF hf.2 hf.1.1) fun g hg=>Ok.ret ⟨?_,hg.2⟩
  have f1:=hf.1.2.1 (by omega)
  rw [beq_iff_eq] at h3
  rw [JY,base.1,base.2,h3,decide_eq_true (by have:=hg.1;omega:(g.1.size:Int)≤100)];rfl
 ·refine Ok.bind (SY he) fun f hf=>Ok.bind (Cc hf.2) fun g hg=>Ok.bind (Xy hg (by decide)) fun t ht=>Ok.bind (Ok.eq (Xl (by rw [P9 ht.1];decide))) fun v hv=>Ok.ret ⟨?_,ht.2⟩
  have f1:=hf.1.2.1 (by omega)
  subst hv
  rw [beq_iff_eq] at h2
  rw [JY,base.1,base.2,h2,DZ.2 (⟨hf.1.1,by omega⟩:0≤f.1∧f.1≤16)]
  simp only [hd32];rfl
 ·refine Ok.bind (Cc he) fun g hg=>Ok.bind (Xy hg (by decide)) fun t ht=>Ok.bind (Ok.eq (Xl (by rw [P9 ht.1];decide))) fun v hv=>Ok.ret ⟨?_,ht.2⟩
  subst hv
  rw [beq_eq_false_iff_ne] at h3 h2
  have hk1:1+b.1=1:=by have:=DZ.1 base.2;omega
  rw [JY,base.1,base.2,hk1]
  simp only [hd32];rfl
theorem Q9 {c:SL01Cur} {b:SBook} (hc:PY c) (hb:∀ x ∈ b.fThings,x.fId≤9223372036854775807):Ok (Qb c b) fun r=>r.1.fNum≤9223372036854775807∧PY r.2:=by
 have z:(0:Int)≤9223372036854775807:=by omega
 rw [Qb,Rt]
 refine Ok.bind (MAF hc (Nat.succ_pos _)) fun a ha=>Ok.cond (fun _=>?_) fun _=>Ok.cond (fun _=>?_) fun _=>Ok.cond (fun _=>?_) fun _=>Ok.cond (fun _=>?_) fun _=>Ok.ret ⟨z,ha.2⟩
 ·refine Ok.bind (Xy ha.2 (Nat.succ_pos _)) fun s hs=>?_
  have h1:s.1.size≤1000000000:=by
   have:=hs.1
   simp only [List.mem_cons,List.not_mem_nil,or_false] at this
   rcases this with h | h | h <;> rw [h] <;> decide
  exact Ok.bind (Ok.eq (Xl h1)) fun d _=>Ok.ret ⟨z,hs.2⟩
 ·refine Ok.bind (SY ha.2) fun s hs=>Ok.ret ⟨?_,hs.2⟩
  have:=hs.1.2.1 (by omega)
  show s.1≤9223372036854775807;omega
 ·refine Ok.bind (OAF ha.2) fun x hx=>Ok.cond (fun h=>?_) fun _=>Ok.ret ⟨z,hx.2⟩
  rw [decide_eq_true_eq] at h
  refine Ok.bind (Cc hx.2) fun y hy=>Ok.cond (fun _=>?_) fun _=>Ok.ret ⟨z,hy⟩
  refine Ok.bind (SY hy) fun i hi=>?_
  have h1:=hi.1.2.1 (by omega)
  have h0:=hi.1.1
  have hi2:=hi.2
  refine Ok.chk (by simp;omega) (Ok.cond (fun _=>?_) fun _=>?_)
  ·refine Ok.cond (fun _=>?_) fun _=>?_
   ·exact Ok.cond (fun _=>Ok.cond (fun _=>Ok.bind (SY hi2) fun k hk=>Ok.ret ⟨z,hk.2⟩) fun _=>Ok.ret ⟨z,hi2⟩) fun _=>Ok.ret ⟨z,hi2⟩
   ·exact Ok.bind (Cc hi2) fun q hq=>Ok.cond (fun _=>Ok.cond (fun _=>Ok.bind (SY hq) fun k hk=>Ok.ret ⟨z,hk.2⟩) fun _=>Ok.ret ⟨z,hq⟩) fun _=>Ok.ret ⟨z,hq⟩
  ·refine Ok.bind (Cc hi2) fun q hq=>Ok.cond (fun _=>?_) fun _=>?_
   ·exact Ok.cond (fun _=>Ok.cond (fun _=>Ok.bind (SY hq) fun k hk=>Ok.ret ⟨z,hk.2⟩) fun _=>Ok.ret ⟨z,hq⟩) fun _=>Ok.ret ⟨z,hq⟩
   ·exact Ok.bind (Cc hq) fun q hq=>Ok.cond (fun _=>Ok.cond (fun _=>Ok.bind (SY hq) fun k hk=>Ok.ret ⟨z,hk.2⟩) fun _=>Ok.ret ⟨z,hq⟩) fun _=>Ok.ret ⟨z,hq⟩
 ·refine Ok.bind (SY ha.2) fun s hs=>Ok.cond (fun h=>?_) fun _=>?_
  ·rw [decide_eq_true_eq] at h
   refine Ok.bind (SY hs.2) fun i hi=>?_
   have h1:=hi.1.2.1 (by omega)
   have h0:=hi.1.1
   refine Ok.chk (by simp;omega) (Ok.ret ⟨?_,hi.2⟩)
   rw [getD_at (by omega)]
   exact hb _ (List.getElem_mem _)
  ·exact Ok.ret ⟨(BAE _).2,hs.2⟩
def NM (n:Int):List Int:=if n > 127 then (128+n % 128)::NM (n / 128) else [w8 n]
termination_by n.toNat
decreasing_by omega
theorem PAF:∀ (k:Nat) (n:Int),n<128 ^ k→(NM n).length≤max k 1:=by
 intro k
 induction k with
 | zero=>intro n h;rw [NM,if_neg (by omega)];simp
 | succ k ih=>
  intro n h
  rw [NM]
  split
  ·rename_i hn
   have h2:n / 128<128 ^ k:=by
    rw [Int.pow_succ] at h
    exact Int.ediv_lt_of_lt_mul (by omega) h
   have:=ih _ h2
   simp only [List.length_cons]
   by_cases hk:k=0
   ·subst hk;simp at h2;try omega
   ·omega
  ·simp;try omega
theorem Ib {n:Int} (h:n≤9223372036854775807):(NM n).length≤10:=by
 have:=PAF 10 n (by (have:(128:Int) ^ 10=1180591620717411303424:=by decide);omega)
 omega
theorem QAI (n:Int):1≤(NM n).length:=by rw [NM];split <;> simp
theorem S9 {n:Int} (h:n > 127) (h2:n≤9223372036854775807):w64 (n.tdiv 128)=n / 128∧w8 (w64 (n.tmod 128+128))=128+n % 128∧w8 (w64 (128+n.tmod 128))=128+n % 128:=by
 have e1:n.tdiv 128=n / 128:=Int.tdiv_eq_ediv_of_nonneg (by omega)
 have e2:n.tmod 128=n % 128:=Int.tmod_eq_emod_of_nonneg (by omega)
 refine ⟨by rw [e1,w64_id (by omega) (by omega)],?_,?_⟩
 ·rw [e2,w64_id (by omega) (by omega),w8_id (by omega) (by omega)];omega
 ·rw [e2,w64_id (by omega) (by omega),w8_id (by omega) (by omega)]
theorem Yl {n:Int} (h:n≤9223372036854775807):Jc n=some (ofBytes (NM n)):=by
 have key:∀ (n:Int) (m:Nat) (out:List Int),n≤9223372036854775807→(NM n).length≤m→out.length+(NM n).length≤1000→Ri m (.c0 n out)=some (ofBytes (out++NM n)):=by
  intro n
  induction n using NM.induct with
  | case1 n hn ih=>
   intro m out h1 h2 h3
   rw [NM,if_pos hn] at h2 h3 ⊢
   simp only [List.length_cons] at h2 h3
   obtain ⟨m,rfl⟩:∃ k,m=k+1:=⟨m - 1,by omega⟩
   obtain ⟨e1,e2,_⟩:=S9 hn h1
   simp only [Ri,Tn,e1,e2]
   rw [show decide (n > 127)=true from decide_eq_true hn,show decide ((out.length+1)*1≤140737488355328)=true from decide_eq_true (by omega)]
   simp only [cond_true]
   rw [ih m _ (by omega) (by omega) (by simp;omega)]
   simp
  | case2 n hn=>
   intro m out h1 h2 h3
   rw [NM,if_neg hn] at h2 h3 ⊢
   simp at h2 h3
   obtain ⟨m,rfl⟩:∃ k,m=k+1:=⟨m - 1,by omega⟩
   simp only [Ri,Tn]
   rw [show decide (n > 127)=false from decide_eq_false hn,show decide ((out.length+1)*1≤140737488355328)=true from decide_eq_true (by omega)]
   rfl
 have hl:=Ib h
 exact key n gas [] h (Nat.le_of_lt (gas_lt (by omega))) (by simp;omega)
theorem QAF (b:Bool) (n:Int):Un b n=some (bif b then n else 0):=by cases b <;> rfl
theorem U9 {n:Int} (h:0≤n) (h2:n≤255):Ti n=some (ofBytes [n]):=by
 have e:n.tmod 256=n:=by rw [Int.tmod_eq_emod_of_nonneg h];omega
 simp only [Ti,Du,e]
 rw [show decide (n<0)=false from decide_eq_false (by omega),w8_id h h2]
 rfl
def Jb (s:ByteArray):ByteArray:=ofBytes (NM (s.size:Int))++s
theorem RAF {s:ByteArray} (h:s.size≤140737488351232):(Jb s).size≤s.size+10:=by
 unfold Jb;rw [ba_append_size,ofBytes_size];have:=Ib (n:=(s.size:Int)) (by omega);omega
theorem SAF {s:ByteArray} (h:s.size≤140737488351232):Ui s=some (Jb s):=by
 simp only [Ui,Gu,Yl (n:=(s.size:Int)) (by omega),Option.bind_some]
 have:=Ib (n:=(s.size:Int)) (by omega)
 rw [show decide ((ofBytes (NM (s.size:Int))).size+s.size≤9223372036854775807)=true from decide_eq_true (by rw [ofBytes_size];omega)]
 rfl
def Ze (x:SThing):Int:=(bif x.fHidden then 1 else 0)+(bif x.fFixed then 2 else 0)+(bif x.fSigns then 4 else 0)+(bif x.fWraps then 8 else 0)
theorem V9 (x:SThing):0≤Ze x∧Ze x≤15:=by
 unfold Ze;cases x.fHidden <;> cases x.fFixed <;> cases x.fSigns <;> cases x.fWraps <;> decide
theorem TAF (m:Nat) (a b c d:Bool):Qw (m+5) (.c0 0 4 0 [a,b,c,d])=some ((bif a then 1 else 0)+(bif b then 2 else 0)+(bif c then 4 else 0)+(bif d then 8 else 0)):=by
 cases a <;> cases b <;> cases c <;> cases d <;> kernel_rfl
theorem UAF (x:SThing):Ik x=some (Ze x):=by
 obtain ⟨m,this⟩:∃ m,gas=m+5:=⟨gas - 5,rfl⟩
 unfold Ik Nw
 rw [this]
 exact TAF _ _ _ _ _
def Nq (x:SThing):ByteArray:=ofBytes (NM x.fId)++ofBytes [x.fKind]++ofBytes [Ze x]++Jb x.fValue++ofBytes (NM x.fNext)
def IZ (x:SThing):ByteArray×Bool:=bif JY x then (Nq x,true) else (⟨#[]⟩,false)
theorem Yy {x:SThing} (h:JY x=true):(ofBytes (NM x.fId)).size≤10∧(Jb x.fValue).size≤110∧(ofBytes (NM x.fNext)).size≤10:=by
 obtain ⟨_,_,_,h1,_,h2,h3⟩:=Ye h
 rw [ofBytes_size,ofBytes_size]
 have:=Ib (n:=x.fId) (by omega)
 have:=Ib (n:=x.fNext) (by omega)
 have:=RAF (s:=x.fValue) (by omega)
 omega
theorem W9 {x:SThing} (h:JY x=true):(Nq x).size≤200:=by
 obtain ⟨h1,h2,h3⟩:=Yy h
 unfold Nq
 simp only [ba_append_size]
 have e1:∀ n:Int,(ofBytes [n]).size=1:=fun n=>ofBytes_size _
 rw [e1,e1];omega
theorem VAF (x:SThing):Wi x=some (IZ x):=by
 simp only [Wi,Iu,O9,Option.bind_some,IZ]
 cases h:JY x
 ·rfl
 ·obtain ⟨k1,k2,k3,k4,k5,k6,k7⟩:=Ye h
  obtain ⟨z1,z2,z3⟩:=Yy h
  have hf:=V9 x
  have e1:∀ n:Int,(ofBytes [n]).size=1:=fun n=>ofBytes_size _
  have ef:w64 (w64 (w64 ((bif x.fHidden then (1:Int) else 0)+(bif x.fFixed then 2 else 0))+(bif x.fSigns then 4 else 0))+(bif x.fWraps then 8 else 0))=Ze x:=by
   unfold Ze;cases x.fHidden <;> cases x.fFixed <;> cases x.fSigns <;> cases x.fWraps <;> rfl
  simp only [QAF,Option.bind_some,ef,Yl (n:=x.fId) (by omega),U9 (n:=x.fKind) (by omega) (by omega),U9 hf.1 (by omega),SAF (s:=x.fValue) (by omega),Yl (n:=x.fNext) (by omega),ba_append_size,e1]
  simp only [Bool.not_true,cond_false,cond_true]
  rw [show decide ((ofBytes (NM x.fId)).size+1≤9223372036854775807)=true from decide_eq_true (by omega),show decide ((ofBytes (NM x.fId)).size+1+1≤9223372036854775807)=true from decide_eq_true (by omega),
   show decide ((ofBytes (NM x.fId)).size+1+1+(Jb x.fValue).size≤9223372036854775807)=true from decide_eq_true (by omega),show decide ((ofBytes (NM x.fId)).size+1+1+(Jb x.fValue).size+(ofBytes (NM x.fNext)).size≤9223372036854775807)=true from decide_eq_true (by omega)]
  rfl
def UY (x:SThing):Bool:=(x.fId == 0) && ((x.fKind == 0) && ((x.fHidden == false) && ((x.fFixed == false) && ((x.fSigns == false) && ((x.fWraps == false) && (((ByteArray.toList x.fValue) == (ByteArray.toList (⟨#[]⟩:ByteArray))) && ((x.fNext == 0) && true)))))))
theorem X9 (x:SThing):((x.fId == 0) && ((x.fKind == 0) && ((x.fHidden == false) && ((x.fFixed == false) && ((x.fSigns == false) && ((x.fWraps == false) && (((ByteArray.toList x.fValue) == (ByteArray.toList (⟨#[]⟩:ByteArray))) && ((x.fNext == 0) && true))))))))=UY x:=rfl
def TY (s:ByteArray):Bool:=(ByteArray.toList s) == (ByteArray.toList (⟨#[]⟩:ByteArray))
theorem Y9 (s:ByteArray):((ByteArray.toList s) == (ByteArray.toList (⟨#[]⟩:ByteArray)))=TY s:=rfl
def noT:ByteArray×Bool:=((⟨#[]⟩:ByteArray),false)
def LY (r:SRec):ByteArray×Bool:=
 bif r.fKind == 1 then (bif (r.fText.size:Int) == 32 && r.fNum == 0 && UY r.fThing then (ofBytes [1]++r.fText,true) else noT)
 else bif r.fKind == 2 then (bif TY r.fText && UY r.fThing && IK r.fNum 0 3 then (ofBytes [2]++ofBytes (NM r.fNum),true) else noT)
 else bif r.fKind == 3 then (bif (IZ r.fThing).2 && TY r.fText && r.fNum == 0 then (ofBytes [3]++(IZ r.fThing).1,true) else noT)
 else bif r.fKind == 4 then (bif TY r.fText && UY r.fThing && IK r.fNum 1 1000 then (ofBytes [4]++ofBytes (NM r.fNum),true) else noT)
 else noT
theorem Oq {n a b:Int} (hb:b≤1000) (h:IK n a b=true) (k:Int):(ofBytes [k]).size+(ofBytes (NM n)).size≤9223372036854775807:=by
 rw [DZ] at h
 have:=Ib (n:=n) (by omega)
 rw [ofBytes_size,ofBytes_size];simp only [List.length_singleton];omega
theorem Z9 {x:SThing} (h:(IZ x).2=true) (k:Int):(ofBytes [k]).size+(IZ x).1.size≤9223372036854775807:=by
 unfold IZ at h ⊢
 cases ho:JY x
 ·rw [ho] at h;cases h
 ·have:=W9 ho
  rw [ofBytes_size];simp only [List.length_singleton,cond_true];omega
theorem WAF (r:SRec):Ad r=some (LY r):=by
 have h1:(⟨#[1]⟩:ByteArray)=ofBytes [1]:=rfl
 have h2:(⟨#[2]⟩:ByteArray)=ofBytes [2]:=rfl
 have h3:(⟨#[3]⟩:ByteArray)=ofBytes [3]:=rfl
 have h4:(⟨#[4]⟩:ByteArray)=ofBytes [4]:=rfl
 simp only [Ad,Ju,Kq,VAF,Option.bind_some,X9,h1,h2,h3,h4]
 simp only [Y9,LY]
 cases r.fKind == 1
 ·simp only [cond_false]
  cases r.fKind == 2
  ·simp only [cond_false]
   cases r.fKind == 3
   ·simp only [cond_false]
    cases r.fKind == 4
    ·rfl
    ·cases TY r.fText <;> cases UY r.fThing <;> (try rfl)
     cases h:IK r.fNum 1 1000
     ·rfl
     ·have h':=h
      rw [DZ] at h'
      simp only [cond_true,Yl (n:=r.fNum) (by omega),Option.bind_some,Bool.and_self,decide_eq_true (Oq (by omega) h 4)]
   ·cases h:(IZ r.fThing).2
    ·rfl
    ·cases TY r.fText <;> cases r.fNum == 0 <;> (try rfl)
     simp only [cond_true,Bool.and_self,decide_eq_true (Z9 h 3)]
  ·cases TY r.fText <;> cases UY r.fThing <;> (try rfl)
   cases h:IK r.fNum 0 3
   ·rfl
   ·have h':=h
    rw [DZ] at h'
    simp only [cond_true,Yl (n:=r.fNum) (by omega),Option.bind_some,Bool.and_self,decide_eq_true (Oq (by omega) h 2)]
 ·cases h:(r.fText.size:Int) == 32 <;> cases r.fNum == 0 <;> cases UY r.fThing <;> (try rfl)
  have h':r.fText.size=32:=by have:=beq_iff_eq.1 h;omega
  have e:(ofBytes [1]).size+r.fText.size≤9223372036854775807:=by rw [ofBytes_size];simp only [List.length_singleton];omega
  simp only [cond_true,Bool.and_self,decide_eq_true e]
def rise (last:Int):Int→List SThing→Bool
 | _,[]=>true
 | p,x::xs=>JY x && (!decide (x.fId > last) && (!decide (p≥x.fId) && rise last x.fId xs))
def KZ (l:List SThing):Nat→Int
 | 0=>0
 | i+1=>((l[i]?).map (·.fId)).getD 0
theorem Zy {l:List SThing} {i:Nat} (hi:i<l.length):KZ l (i+1)=l[i].fId:=by simp [KZ,hi]
theorem AAA {l:List SThing} {last:Int} {i:Nat} (hi:i<l.length):rise last (KZ l i) (l.drop i)=(JY l[i] && (!decide (l[i].fId > last) && (!decide (KZ l i≥l[i].fId) && rise last (KZ l (i+1)) (l.drop (i+1))))):=by
 rw [drop_at hi,rise,Zy hi]
def VY (b:SBook):Bool:=(b.fWord.size:Int) == 32 && ((b.fChain.size:Int) == 32 && (IK b.fTries 0 3 && (decide ((b.fThings.length:Int)≤8) && (IK b.fLast 0 1000 && (IK b.fCount 0 10000 && rise b.fLast 0 b.fThings)))))
theorem XAF {b:SBook} (hb:b.fThings.length≤140737488351232):∀ m i,i≤b.fThings.length→b.fThings.length - i<m→Bd m (.c0 i b)=some (rise b.fLast (KZ b.fThings i) (b.fThings.drop i)):=fun m i h1 h2=>
 loopN (A:=Unit) (n:=b.fThings.length) (Lp:=Bd) (st:=fun i _=>.c0 i b) (Inv:=fun _ _=>True) (out:=fun i _=>some (rise b.fLast (KZ b.fThings i) (b.fThings.drop i)))
  (fun m _ _=>by
   simp only [Bd,Yn]
   rw [show decide ((b.fThings.length:Int)<(b.fThings.length:Int))=false from decide_eq_false (by omega),List.drop_of_length_le (Nat.le_refl _)]
   rfl)
  (fun m i _ hi _=>by
   have hw:w64 ((i:Int)+1)=((i+1:Nat):Int):=by rw [w64_id (by omega) (by omega)];rfl
   simp only [AAA hi]
   simp only [Bd,Yn,Int.toNat_natCast,getD_at hi,O9,Option.bind_some,hw]
   rw [show decide ((i:Int)<(b.fThings.length:Int))=true from decide_eq_true (by omega),show decide ((0:Int)≤(i:Int))=true from decide_eq_true (by omega)]
   simp only [Bool.and_self,cond_true]
   cases h1:JY b.fThings[i]
   ·exact .inl rfl
   ·cases h2:decide (b.fThings[i].fId > b.fLast)
    ·by_cases h0:i=0
     ·subst h0
      refine .inr ⟨(),rfl,trivial,?_⟩
      rw [show decide (KZ b.fThings 0≥b.fThings[0].fId)=false from decide_eq_false (by have:=(Ye h1).2.2.1;simp only [KZ];omega)]
      rfl
     ·obtain ⟨j,rfl⟩:∃ j,i=j+1:=⟨i - 1,by omega⟩
      have hj:w64 (((j+1:Nat):Int) - 1)=(j:Int):=by rw [w64_id (by omega) (by omega)];omega
      have hjl:j<b.fThings.length:=by omega
      rw [Zy hjl]
      simp only [hj,Int.toNat_natCast,getD_at hjl,Bool.not_true,Bool.not_false,cond_false,Bool.true_and]
      rw [show decide (((j+1:Nat):Int) > 0)=true from decide_eq_true (by omega),show decide ((0:Int)≤(j:Int))=true from decide_eq_true (by omega),show decide ((j:Int)<(b.fThings.length:Int))=true from decide_eq_true (by omega)]
      simp only [Bool.and_self,cond_true]
      cases h3:decide (b.fThings[j].fId≥b.fThings[j+1].fId)
      ·exact .inr ⟨(),rfl,trivial,rfl⟩
      ·exact .inl rfl
    ·exact .inl rfl) m i () h1 h2 trivial
theorem Xg {b:SBook} (hb:b.fThings.length≤140737488351232):Ed b=some (VY b):=by
 have h0:Bd gas (.c0 0 b)=some (rise b.fLast 0 b.fThings):=XAF hb gas 0 (Nat.zero_le _) (gas_lt (by omega))
 simp only [Ed,Ku,Kq,Option.bind_some,VY,bne,h0]
 rw [show decide ((b.fThings.length:Int)≤8) = !decide ((b.fThings.length:Int) > 8) by rw [←decide_not];simp]
 cases (b.fWord.size:Int) == 32 <;> cases (b.fChain.size:Int) == 32 <;> cases IK b.fTries 0 3 <;> cases decide ((b.fThings.length:Int) > 8) <;> cases IK b.fLast 0 1000 <;> cases IK b.fCount 0 10000 <;> rfl
theorem BAA {b:SBook} (h:b.fThings.length≤2932031007317):Ia b=some b:=by
 rw [Ia,Lu,TB (by simp;omega)];rfl
def WY (xs:List SThing) (t:Int):Option SThing:=xs.find? fun x=>x.fId == t
def Yg:SThing:=⟨0,0,false,false,false,false,⟨#[]⟩,0⟩
theorem CAA {b:SBook} {t:Int} (h:b.fThings.length≤140737488351232):Zf b t=some (match WY b.fThings t with | some x=>(x,true) | none=>(Yg,false)):=by
 have key:∀ m i,i≤b.fThings.length→b.fThings.length - i<m→Yf m (.c0 t i b Yg)=some (match WY (b.fThings.drop i) t with | some x=>(x,true) | none=>(Yg,false)):=fun m i h1 h2=>
  loopN (A:=Unit) (n:=b.fThings.length) (Lp:=Yf) (st:=fun i _=>.c0 t i b Yg) (Inv:=fun _ _=>True) (out:=fun i _=>some (match WY (b.fThings.drop i) t with | some x=>(x,true) | none=>(Yg,false)))
   (fun m _ _=>by simp [Yf,Eo,WY,Yg])
   (fun m i _ hi _=>by
    have hw:w64 ((i:Int)+1)=((i+1:Nat):Int):=by rw [w64_id (by omega) (by omega)];rfl
    simp only [Yf,Eo,Int.toNat_natCast,getD_at hi,hw,drop_at hi,WY,List.find?_cons]
    cases hq:b.fThings[i].fId == t
    ·exact .inr ⟨(),by simp [hi],trivial,by simp⟩
    ·exact .inl (by simp [hi])) m i () h1 h2 trivial
 have h0:=key gas 0 (Nat.zero_le _) (gas_lt (by omega))
 exact h0
theorem Az {r:SRec} (h:(LY r).2=true):(r.fKind=1∧r.fText.size=32)∨(r.fKind=2∧0≤r.fNum∧r.fNum≤3)∨(r.fKind=3∧JY r.fThing=true)∨(r.fKind=4∧1≤r.fNum∧r.fNum≤1000):=by
 rw [LY] at h
 by_cases h1:r.fKind=1
 ·rw [show (r.fKind == 1)=true by rw [beq_iff_eq];exact h1,cond_true] at h
  cases hc:((r.fText.size:Int) == 32 && r.fNum == 0 && UY r.fThing)
  ·rw [hc] at h;cases h
  ·rw [Bool.and_eq_true,Bool.and_eq_true,beq_iff_eq] at hc
   exact .inl ⟨h1,by omega⟩
 rw [show (r.fKind == 1)=false by rw [beq_eq_false_iff_ne];exact h1,cond_false] at h
 by_cases h2:r.fKind=2
 ·rw [show (r.fKind == 2)=true by rw [beq_iff_eq];exact h2,cond_true] at h
  cases hc:(TY r.fText && UY r.fThing && IK r.fNum 0 3)
  ·rw [hc] at h;cases h
  ·rw [Bool.and_eq_true,DZ] at hc
   exact .inr (.inl ⟨h2,hc.2⟩)
 rw [show (r.fKind == 2)=false by rw [beq_eq_false_iff_ne];exact h2,cond_false] at h
 by_cases h3:r.fKind=3
 ·rw [show (r.fKind == 3)=true by rw [beq_iff_eq];exact h3,cond_true] at h
  cases hc:((IZ r.fThing).2 && TY r.fText && r.fNum == 0)
  ·rw [hc] at h;cases h
  ·rw [Bool.and_eq_true,Bool.and_eq_true] at hc
   refine .inr (.inr (.inl ⟨h3,?_⟩))
   have h4:=hc.1.1
   rw [IZ] at h4
   cases ho:JY r.fThing
   ·rw [ho] at h4;cases h4
   ·rfl
 rw [show (r.fKind == 3)=false by rw [beq_eq_false_iff_ne];exact h3,cond_false] at h
 by_cases h4:r.fKind=4
 ·rw [show (r.fKind == 4)=true by rw [beq_iff_eq];exact h4,cond_true] at h
  cases hc:(TY r.fText && UY r.fThing && IK r.fNum 1 1000)
  ·rw [hc] at h;cases h
  ·rw [Bool.and_eq_true,DZ] at hc
   exact .inr (.inr (.inr ⟨h4,hc.2⟩))
 rw [show (r.fKind == 4)=false by rw [beq_eq_false_iff_ne];exact h4] at h
 cases h
theorem DAA (r:SRec):(LY r).1.size≤300:=by
 rw [LY]
 have one:∀ n:Int,(ofBytes [n]).size=1:=fun n=>by rw [ofBytes_size];rfl
 cases hk1:(r.fKind == 1)
 ·rw [cond_false]
  cases hk2:(r.fKind == 2)
  ·rw [cond_false]
   cases hk3:(r.fKind == 3)
   ·rw [cond_false]
    cases hk4:(r.fKind == 4)
    ·exact Nat.zero_le _
    ·rw [cond_true]
     cases hc:(TY r.fText && UY r.fThing && IK r.fNum 1 1000)
     ·exact Nat.zero_le _
     ·rw [Bool.and_eq_true,DZ] at hc
      have:=Ib (n:=r.fNum) (by omega)
      rw [cond_true,ByteArray.size_append,one,ofBytes_size];omega
   ·rw [cond_true]
    cases hc:((IZ r.fThing).2 && TY r.fText && r.fNum == 0)
    ·exact Nat.zero_le _
    ·rw [cond_true,ByteArray.size_append,one,IZ]
     cases ho:JY r.fThing
     ·exact Nat.le_of_ble_eq_true rfl
     ·have:=W9 ho
      show 1+(Nq r.fThing).size≤300;omega
  ·rw [cond_true]
   cases hc:(TY r.fText && UY r.fThing && IK r.fNum 0 3)
   ·exact Nat.zero_le _
   ·rw [Bool.and_eq_true,DZ] at hc
    have:=Ib (n:=r.fNum) (by omega)
    rw [cond_true,ByteArray.size_append,one,ofBytes_size];omega
 ·rw [cond_true]
  cases hc:((r.fText.size:Int) == 32 && r.fNum == 0 && UY r.fThing)
  ·exact Nat.zero_le _
  ·rw [Bool.and_eq_true,Bool.and_eq_true,beq_iff_eq] at hc
   rw [cond_true,ByteArray.size_append,one];omega
def AZ:List SThing→Int→Nat→Option Nat
 | [],_,_=>none
 | x::xs,t,i=>if x.fId == t then some i else AZ xs t (i+1)
theorem YAF (t:Int):∀ (xs:List SThing) (i:Nat),match AZ xs t i with | some j=>i≤j∧j<i+xs.length∧WY xs t=xs[j - i]? | none=>WY xs t=none:=by
 intro xs
 induction xs with
 | nil=>intro i;rfl
 | cons x xs ih=>
  intro i
  simp only [AZ,WY,List.find?_cons]
  cases hq:x.fId == t
  ·have:=ih (i+1)
   simp only [Bool.false_eq_true,if_false]
   split at this
   ·rename_i j hj
    obtain ⟨h1,h2,h3⟩:=this
    refine ⟨by omega,by simp;omega,?_⟩
    rw [show j - i=(j - (i+1))+1 by omega,List.getElem?_cons_succ]
    exact h3
   ·exact this
  ·simp
theorem JZ {b:SBook}:VY b=true↔b.fWord.size=32∧b.fChain.size=32∧(0≤b.fTries∧b.fTries≤3)∧b.fThings.length≤8∧(0≤b.fLast∧b.fLast≤1000)∧(0≤b.fCount∧b.fCount≤10000)∧rise b.fLast 0 b.fThings=true:=by
 simp only [VY,Bool.and_eq_true,beq_iff_eq,DZ,decide_eq_true_eq]
 exact ⟨fun ⟨h1,h2,h3,h4,h5,h6,h7⟩=>⟨by omega,by omega,h3,by omega,h5,h6,h7⟩,fun ⟨h1,h2,h3,h4,h5,h6,h7⟩=>⟨by omega,by omega,h3,by omega,h5,h6,h7⟩⟩
theorem YZ {last p:Int} {x:SThing} {xs:List SThing}:rise last p (x::xs)=true↔JY x=true∧x.fId≤last∧p<x.fId∧rise last x.fId xs=true:=by
 simp only [rise,Bool.and_eq_true,Bool.not_eq_true',decide_eq_false_iff_not]
 exact ⟨fun ⟨h1,h2,h3,h4⟩=>⟨h1,by omega,by omega,h4⟩,fun ⟨h1,h2,h3,h4⟩=>⟨h1,by omega,by omega,h4⟩⟩
theorem Zl {last:Int}:∀ {xs:List SThing} {p:Int},rise last p xs=true→∀ x ∈ xs,p<x.fId∧x.fId≤last∧JY x=true
 | [],_,_,x,hx=>by cases hx
 | y::ys,p,h,x,hx=>by
  obtain ⟨h1,h2,h3,h4⟩:=YZ.1 h
  rcases List.mem_cons.1 hx with rfl | hx
  ·exact ⟨h3,h2,h1⟩
  ·have:=Zl h4 x hx
   exact ⟨by omega,this.2.1,this.2.2⟩
theorem Bz {last last2:Int} (hl:last≤last2):∀ {xs:List SThing} {p p2:Int},p2≤p→rise last p xs=true→rise last2 p2 xs=true
 | [],_,_,_,_=>rfl
 | y::ys,p,p2,hp,h=>by
  obtain ⟨h1,h2,h3,h4⟩:=YZ.1 h
  exact YZ.2 ⟨h1,by omega,by omega,Bz hl (Int.le_refl _) h4⟩
def Ua (x:SThing) (ts:List SThing):List SThing:=ts.filter fun t=>decide (t.fId<x.fId)
def Af (x:SThing) (ts:List SThing):List SThing:=ts.filter fun t=>decide (t.fId > x.fId)
def putAt (ts:List SThing) (x:SThing):List SThing:=Ua x ts++x::Af x ts
def without (ts:List SThing) (id:Int):List SThing:=ts.filter fun t=>t.fId != id
theorem ZAF {last:Int} {x:SThing}:∀ {xs:List SThing} {p:Int},x.fId≤p→rise last p xs=true→Ua x xs=[]∧Af x xs=xs∧without xs x.fId=xs:=by
 intro xs p hp h
 have ha:=Zl h
 refine ⟨List.filter_eq_nil_iff.2 fun t ht=>?_,List.filter_eq_self.2 fun t ht=>?_,List.filter_eq_self.2 fun t ht=>?_⟩
 ·have:=ha t ht;rw [decide_eq_true_eq];omega
 ·have:=ha t ht;rw [decide_eq_true_eq];omega
 ·have:=ha t ht;rw [bne_iff_ne];omega
theorem EAA {id:Int}:∀ {xs:List SThing} {i j:Nat},AZ xs id i=some j→i≤j∧∃ x ∈ xs,x.fId=id:=by
 intro xs
 induction xs with
 | nil=>intro i j h;cases h
 | cons y ys ih=>
  intro i j h
  rw [AZ] at h
  split at h
  ·rename_i hy;cases h;exact ⟨Nat.le_refl _,y,List.mem_cons_self ..,beq_iff_eq.1 hy⟩
  ·obtain ⟨h1,x,h2,h3⟩:=ih h;exact ⟨by omega,x,List.mem_cons_of_mem _ h2,h3⟩
theorem Dz {last:Int} {x:SThing}:∀ {xs:List SThing} {p:Int} {i j:Nat},rise last p xs=true→AZ xs x.fId i=some j→xs.set (j - i) x=putAt xs x∧(xs.take (j - i)++xs.drop (j - i+1))=without xs x.fId:=by
 intro xs
 induction xs with
 | nil=>intro p i j _ h;cases h
 | cons y ys ih=>
  intro p i j hr h
  obtain ⟨h1,h2,h3,h4⟩:=YZ.1 hr
  rw [AZ] at h
  split at h
  ·rename_i hy
   have hy:=beq_iff_eq.1 hy
   cases h
   obtain ⟨f1,f2,f3⟩:=ZAF (x:=x) (by omega) h4
   rw [Nat.sub_self]
   simp only [putAt,Ua,Af,without,List.filter_cons] at f1 f2 f3 ⊢
   rw [decide_eq_false (by omega),decide_eq_false (by omega),show (y.fId != x.fId)=false by rw [bne_eq_false_iff_eq];exact hy]
   simp [f1,f2,f3]
  ·rename_i hy
   obtain ⟨h5,z,h6,h7⟩:=EAA h
   have h8:=Zl h4 z h6
   obtain ⟨i1,i2⟩:=ih h4 h
   have e:j - i=(j - (i+1))+1:=by omega
   rw [e,List.set_cons_succ,i1,List.take_succ_cons,List.drop_succ_cons,List.cons_append,i2]
   simp only [putAt,Ua,Af,without,List.filter_cons]
   rw [decide_eq_true (by omega),decide_eq_false (by omega),show (y.fId != x.fId)=true by rw [bne_iff_ne];omega]
   simp
theorem AAG {last:Int} {x:SThing} {xs:List SThing} {p:Int} (h:rise last p xs=true) (hx:last<x.fId):putAt xs x=xs++[x]∧WY xs x.fId=none:=by
 have ha:=Zl h
 constructor
 ·rw [putAt,Ua,Af,List.filter_eq_self.2 fun t ht=>by have:=ha t ht;rw [decide_eq_true_eq];omega,List.filter_eq_nil_iff.2 fun t ht=>by have:=ha t ht;rw [decide_eq_true_eq];omega]
 ·rw [WY,List.find?_eq_none]
  intro t ht
  have:=ha t ht
  rw [beq_iff_eq];omega
theorem BAG {last:Int} {x:SThing} (hx:JY x=true) (hl:last<x.fId):∀ {xs:List SThing} {p:Int},p<x.fId→rise last p xs=true→rise x.fId p (xs++[x])=true:=by
 intro xs
 induction xs with
 | nil=>intro p hp _;exact YZ.2 ⟨hx,Int.le_refl _,hp,rfl⟩
 | cons y ys ih=>
  intro p hp h
  obtain ⟨h1,h2,h3,h4⟩:=YZ.1 h
  exact YZ.2 ⟨h1,by omega,h3,ih (by omega) h4⟩
theorem CAG {last:Int} {x:SThing} (hx:JY x=true):∀ {xs:List SThing} {p:Int} {i j:Nat},rise last p xs=true→AZ xs x.fId i=some j→rise last p (xs.set (j - i) x)=true:=by
 intro xs
 induction xs with
 | nil=>intro p i j _ h;cases h
 | cons y ys ih=>
  intro p i j hr h
  obtain ⟨h1,h2,h3,h4⟩:=YZ.1 hr
  rw [AZ] at h
  split at h
  ·rename_i hy
   have hy:=beq_iff_eq.1 hy
   cases h
   rw [Nat.sub_self,List.set_cons_zero]
   exact YZ.2 ⟨hx,by omega,by omega,Bz (Int.le_refl _) (by omega) h4⟩
  ·have h5:=(EAA h).1
   have e:j - i=(j - (i+1))+1:=by omega
   rw [e,List.set_cons_succ]
   exact YZ.2 ⟨h1,h2,h3,ih h4 h⟩
theorem EAG {last:Int} (id:Int):∀ {xs:List SThing} {p:Int},rise last p xs=true→rise last p (without xs id)=true:=by
 intro xs
 induction xs with
 | nil=>intro p _;rfl
 | cons y ys ih=>
  intro p h
  obtain ⟨h1,h2,h3,h4⟩:=YZ.1 h
  rw [without,List.filter_cons]
  split
  ·exact YZ.2 ⟨h1,h2,h3,ih h4⟩
  ·exact Bz (Int.le_refl _) (by omega) (ih h4)
def grown (x y:SThing):Bool:=y.fKind == x.fKind && ((bs y.fValue == bs x.fValue) && (y.fSigns == x.fSigns && (y.fWraps == x.fWraps && (decide (x.fNext≤y.fNext) && ((y.fHidden || !x.fHidden) && (y.fFixed || !x.fFixed))))))
def Am:SBook:=⟨⟨#[]⟩,0,[],0,⟨#[]⟩,0⟩
def Zg (b:SBook) (x:SThing):Option (List SThing×Int):=match WY b.fThings x.fId with
 | some old=>bif grown old x then some (putAt b.fThings x,b.fLast) else none
 | none=>bif x.fId != b.fLast+1 || decide ((b.fThings.length:Int)≥8) then none else some (b.fThings++[x],x.fId)
def NY (b:SBook) (r:SRec):SBook×Bool:=
 bif !(VY b) || (!(LY r).2 || decide (b.fCount≥10000)) then (Am,false)
 else bif r.fKind == 1 then (⟨r.fText,0,b.fThings,b.fLast,CZ (b.fChain++(LY r).1),b.fCount+1⟩,true)
 else bif r.fKind == 2 then (⟨b.fWord,r.fNum,b.fThings,b.fLast,CZ (b.fChain++(LY r).1),b.fCount+1⟩,true)
 else bif r.fKind == 3 then (match Zg b r.fThing with
  | some p=>(⟨b.fWord,b.fTries,p.1,p.2,CZ (b.fChain++(LY r).1),b.fCount+1⟩,true)
  | none=>(Am,false))
 else (match WY b.fThings r.fNum with
  | some _=>(⟨b.fWord,b.fTries,without b.fThings r.fNum,b.fLast,CZ (b.fChain++(LY r).1),b.fCount+1⟩,true)
  | none=>(Am,false))
theorem Ez {xs:List SThing} {id:Int}:(∃ x j,WY xs id=some x∧AZ xs id 0=some j∧j<xs.length∧xs[j]?=some x∧x.fId=id)∨(WY xs id=none∧AZ xs id 0=none):=by
 have h:=YAF id xs 0
 cases hp:AZ xs id 0 with
 | none=>rw [hp] at h;exact .inr ⟨h,rfl⟩
 | some j=>
  rw [hp] at h
  obtain ⟨_,h2,h3⟩:=h
  rw [Nat.sub_zero] at h3
  rw [Nat.zero_add] at h2
  refine .inl ⟨xs[j],j,?_,rfl,h2,List.getElem?_eq_getElem h2,?_⟩
  ·rw [h3,List.getElem?_eq_getElem h2]
  ·have h4:WY xs id=some xs[j]:=by rw [h3,List.getElem?_eq_getElem h2]
   have:=List.find?_some h4
   exact beq_iff_eq.1 this
theorem Cm {b:SBook} {r:SRec} (h:(NY b r).2=true):VY b=true∧(LY r).2=true∧b.fCount<10000∧VY (NY b r).1=true∧(NY b r).1.fCount=b.fCount+1∧(NY b r).1.fChain=CZ (b.fChain++(LY r).1):=by
 rw [NY] at h ⊢
 cases h1:VY b
 ·rw [h1] at h;cases h
 cases h2:(LY r).2
 ·rw [h1,h2] at h;cases h
 by_cases h3:b.fCount≥10000
 ·rw [h1,h2,decide_eq_true h3] at h;cases h
 rw [h1,h2,decide_eq_false h3] at h
 rw [decide_eq_false h3]
 simp only [Bool.not_true,Bool.or_false,cond_false] at h ⊢
 obtain ⟨b1,b2,b3,b4,b5,b6,b7⟩:=JZ.1 h1
 refine ⟨trivial,trivial,by omega,?_⟩
 have hd:∀ s,(CZ s).size=32:=Ry
 rcases Az h2 with ⟨hk,hz⟩ | ⟨hk,hz⟩ | ⟨hk,hz⟩ | ⟨hk,hz⟩
 ·rw [hk]
  exact ⟨JZ.2 ⟨hz,hd _,(by decide:(0:Int)≤0∧(0:Int)≤3),b4,b5,by show 0≤b.fCount+1∧b.fCount+1≤10000;omega,b7⟩,rfl,rfl⟩
 ·rw [hk]
  exact ⟨JZ.2 ⟨b1,hd _,hz,b4,b5,by show 0≤b.fCount+1∧b.fCount+1≤10000;omega,b7⟩,rfl,rfl⟩
 ·rw [hk] at h ⊢
  simp only [show ((3:Int) == 1)=false from rfl,show ((3:Int) == 2)=false from rfl,show ((3:Int) == 3)=true from rfl,cond_true,cond_false] at h ⊢
  rw [Zg] at h ⊢
  rcases Ez (xs:=b.fThings) (id:=r.fThing.fId) with ⟨x,j,t1,t2,t3,t4,t5⟩ | ⟨t1,t2⟩
  ·rw [t1] at h ⊢
   simp only at h ⊢
   cases hg:grown x r.fThing
   ·rw [hg] at h;cases h
   ·have e:=(Dz b7 t2).1
    rw [Nat.sub_zero] at e
    have hrs:=CAG hz b7 t2
    rw [Nat.sub_zero,e] at hrs
    exact ⟨JZ.2 ⟨b1,hd _,b3,by show (putAt b.fThings r.fThing).length≤8;rw [←e,List.length_set];exact b4,b5,by show 0≤b.fCount+1∧b.fCount+1≤10000;omega,hrs⟩,rfl,rfl⟩
  ·rw [t1] at h ⊢
   simp only at h ⊢
   cases hg:(r.fThing.fId != b.fLast+1 || decide ((b.fThings.length:Int)≥8))
   ·rw [Bool.or_eq_false_iff,bne_eq_false_iff_eq,decide_eq_false_iff_not] at hg
    have hid:r.fThing.fId≤1000:=by
     have:=hz
     simp only [JY,Bool.and_eq_true,DZ] at this
     omega
    exact ⟨JZ.2 ⟨b1,hd _,b3,by show (b.fThings++[r.fThing]).length≤8;rw [List.length_append,List.length_singleton];omega,by show 0≤r.fThing.fId∧r.fThing.fId≤1000;omega,by show 0≤b.fCount+1∧b.fCount+1≤10000;omega,BAG hz (by omega) (by omega) b7⟩,rfl,rfl⟩
   ·rw [hg] at h;cases h
 ·rw [hk] at h ⊢
  simp only [show ((4:Int) == 1)=false from rfl,show ((4:Int) == 2)=false from rfl,show ((4:Int) == 3)=false from rfl,cond_false] at h ⊢
  cases ht:WY b.fThings r.fNum with
  | none=>rw [ht] at h;cases h
  | some x=>exact ⟨JZ.2 ⟨b1,hd _,b3,by show (without b.fThings r.fNum).length≤8;exact Nat.le_trans (List.length_filter_le ..) b4,b5,by show 0≤b.fCount+1∧b.fCount+1≤10000;omega,EAG _ b7⟩,rfl,rfl⟩
theorem FAA (a b:ByteArray):(a.toList == b.toList)=(bs a == bs b):=by
 rw [toList_inj,Bool.eq_iff_iff,decide_eq_true_eq,beq_iff_eq]
 exact ⟨fun h=>by rw [h],Fe⟩
theorem FAG (x y:SThing):Jd x y=some (grown x y):=by
 rw [Jd,Nu,grown,FAA,show (bs x.fValue == bs y.fValue)=(bs y.fValue == bs x.fValue) by rw [Bool.eq_iff_iff,beq_iff_eq,beq_iff_eq];exact ⟨Eq.symm,Eq.symm⟩,
  show (x.fKind == y.fKind)=(y.fKind == x.fKind) by rw [Bool.eq_iff_iff,beq_iff_eq,beq_iff_eq];exact ⟨Eq.symm,Eq.symm⟩]
 cases (y.fKind == x.fKind) <;> cases (bs y.fValue == bs x.fValue) <;> cases y.fSigns <;> cases x.fSigns <;> cases y.fWraps <;> cases x.fWraps <;> cases decide (x.fNext≤y.fNext) <;> cases y.fHidden <;> cases x.fHidden <;> cases y.fFixed <;> cases x.fFixed <;> rfl
theorem Fz {f:SThing→Bool} {l:List SThing} {i:Nat} (h:i<l.length):(l.take (i+1)).filter f=(l.take i).filter f++(bif f l[i] then [l[i]] else []):=by
 rw [take_at h,List.filter_append]
 congr 1
theorem GAA {l:List SThing} {x:SThing} (hl:l.length≤1000000000):Ld l x=some (putAt l x):=by
 have k1:∀ (j i m:Nat),i+j=l.length→Vb (m+j) (.c1 l (i:Int) x (Ua x l++[x]++(l.take i).filter (fun t=>decide (t.fId > x.fId))))=Vb m (.c1 l (l.length:Int) x (Ua x l++[x]++Af x l)):=by
  intro j
  induction j with
  | zero=>(intro i m h;obtain rfl:i=l.length:=by omega);rw [List.take_length];rfl
  | succ j ih=>
   intro i m h
   have hi:i<l.length:=by omega
   have e:w64 ((i:Int)+1)=((i+1:Nat):Int):=by rw [w64_id (by omega) (by omega)];rfl
   have h2:=ih (i+1) m (by omega)
   rw [Fz hi] at h2
   have hf1:(Ua x l).length≤l.length:=List.length_filter_le ..
   have hf2:((l.take i).filter (fun t=>decide (t.fId > x.fId))).length≤i:=Nat.le_trans (List.length_filter_le ..) (by simp;omega)
   rw [show m+(j+1)=(m+j)+1 by omega,Vb]
   simp only [Ag,e,Int.toNat_natCast,getD_at hi]
   rw [TB (by simp;omega),TB (by simp;omega)]
   by_cases h3:l[i].fId > x.fId
   ·rw [decide_eq_true h3] at h2 ⊢
    rw [cond_true,TB (by simp;omega),TB (by simp only [List.length_append,List.length_singleton,decide_eq_true_eq];omega),←h2]
    simp
   ·rw [decide_eq_false h3] at h2 ⊢
    rw [cond_false,←h2]
    simp
 have k0:∀ (j i m:Nat),i+j=l.length→Vb (m+1+l.length+1+j) (.c0 l (i:Int) x ((l.take i).filter (fun t=>decide (t.fId<x.fId))))=some (putAt l x):=by
  intro j
  induction j with
  | zero=>
   intro i m h
   obtain rfl:i=l.length:=by omega
   have hf1:(Ua x l).length≤l.length:=List.length_filter_le ..
   rw [List.take_length,show l.filter (fun t=>decide (t.fId<x.fId))=Ua x l from rfl,Nat.add_zero,Vb]
   simp only [Ag]
   rw [FN (by simp),TB (by simp;omega)]
   have h2:=k1 l.length 0 (m+1) (by omega)
   rw [List.take_zero,List.filter_nil,List.append_nil,show ((0:Nat):Int)=0 from rfl] at h2
   rw [h2,Vb]
   simp only [Ag]
   rw [FN (by simp),putAt,List.append_assoc];rfl
  | succ j ih=>
   intro i m h
   have hi:i<l.length:=by omega
   have e:w64 ((i:Int)+1)=((i+1:Nat):Int):=by rw [w64_id (by omega) (by omega)];rfl
   have h2:=ih (i+1) m (by omega)
   rw [Fz hi] at h2
   have hf2:((l.take i).filter (fun t=>decide (t.fId<x.fId))).length≤i:=Nat.le_trans (List.length_filter_le ..) (by simp;omega)
   rw [show m+1+l.length+1+(j+1)=(m+1+l.length+1+j)+1 by omega,Vb]
   simp only [Ag,e,Int.toNat_natCast,getD_at hi]
   rw [TB (by simp;omega),TB (by simp;omega)]
   by_cases h3:l[i].fId<x.fId
   ·rw [decide_eq_true h3] at h2 ⊢
    rw [cond_true,TB (by simp;omega),TB (by simp only [decide_eq_true_eq];omega),←h2]
    simp
   ·rw [decide_eq_false h3] at h2 ⊢
    rw [cond_false,←h2]
    simp
 obtain ⟨m,hm⟩:∃ m,gas=m+1+l.length+1+l.length:=⟨gas - (2*l.length+2),by have:=gas_lt (n:=2*l.length+2) (by omega);omega⟩
 rw [Ld,Ou,hm]
 have h:=k0 l.length 0 m (by omega)
 rw [List.take_zero,List.filter_nil] at h
 exact h
theorem HAA {b:SBook} {r:SRec} (hb:b.fThings.length≤140737488351232):Ja b r=some (NY b r):=by
 have hok:(NY b r).2=true→_:=Cm (b:=b) (r:=r)
 rw [Ja,Qu,WAF,Option.bind_some,Xg hb,Option.bind_some]
 rw [NY] at hok ⊢
 cases h1:VY b
 ·rfl
 cases h2:(LY r).2
 ·rfl
 obtain ⟨b1,b2,b3,b4,b5,b6,b7⟩:=JZ.1 h1
 by_cases h3:b.fCount≥10000
 ·have h3':(b.fCount == 10000)=true:=by rw [beq_iff_eq];omega
  simp only [decide_eq_true h3,h3',Bool.not_true,Bool.or_true,Bool.false_or,cond_false,cond_true]
  rfl
 have hz:=DAA r
 have hw:w64 (b.fCount+1)=b.fCount+1:=w64_id (by omega) (by omega)
 have hdig:=Xl (s:=b.fChain++(LY r).1) (by rw [ByteArray.size_append];omega)
 have hsz:decide (b.fChain.size+(LY r).1.size≤9223372036854775807)=true:=by rw [decide_eq_true_eq];omega
 have h3':(b.fCount == 10000)=false:=by rw [beq_eq_false_iff_ne];omega
 rw [h1,h2,decide_eq_false h3] at hok
 simp only [Bool.not_true,Bool.or_self,cond_false] at hok
 simp only [decide_eq_false h3,h3',Bool.not_true,Bool.or_self,cond_false,BAA (show b.fThings.length≤2932031007317 by omega),hdig,hsz,hw,Option.bind_some,cond_true]
 rcases Az h2 with ⟨hk,hc⟩ | ⟨hk,hc⟩ | ⟨hk,hc⟩ | ⟨hk,hc⟩
 ·rw [hk] at hok ⊢
  simp only [show ((1:Int) == 1)=true from rfl,cond_true] at hok ⊢
  have h5:=(hok trivial).2.2.2.1
  rw [Xg (by simp only;omega),Option.bind_some,h5];rfl
 ·rw [hk] at hok ⊢
  simp only [show ((2:Int) == 1)=false from rfl,show ((2:Int) == 2)=true from rfl,cond_true,cond_false] at hok ⊢
  have h5:=(hok trivial).2.2.2.1
  rw [Xg (by simp only;omega),Option.bind_some,h5];rfl
 ·rw [hk] at hok ⊢
  simp only [show ((3:Int) == 1)=false from rfl,show ((3:Int) == 2)=false from rfl,show ((3:Int) == 3)=true from rfl,cond_true,cond_false] at hok ⊢
  have hid:=(Ye hc)
  have hpl:(putAt b.fThings r.fThing).length≤1000:=by
   have f1:(Ua r.fThing b.fThings).length≤b.fThings.length:=List.length_filter_le ..
   have f2:(Af r.fThing b.fThings).length≤b.fThings.length:=List.length_filter_le ..
   rw [putAt,List.length_append,List.length_cons];omega
  rw [CAA hb,Option.bind_some]
  rw [Zg] at hok ⊢
  cases ht:WY b.fThings r.fThing.fId with
  | some o=>
   rw [ht] at hok
   simp only [cond_true,FAG,Option.bind_some,Bool.not_true,cond_false,GAA (show b.fThings.length≤1000000000 by omega)] at hok ⊢
   cases hg:grown o r.fThing
   ·rfl
   ·rw [hg] at hok
    simp only [cond_true] at hok
    have h5:=(hok trivial).2.2.2.1
    simp only [Bool.not_true,cond_false,cond_true]
    rw [Xg (by simp only;omega),Option.bind_some,h5];rfl
  | none=>
   rw [ht] at hok
   have hw2:w64 (b.fLast+1)=b.fLast+1:=w64_id (by omega) (by omega)
   simp only [cond_false,Bool.not_false,cond_true,hw2,GAA (show b.fThings.length≤1000000000 by omega),Option.bind_some] at hok ⊢
   cases hg:(r.fThing.fId != b.fLast+1)
   ·rw [hg] at hok
    rw [bne_eq_false_iff_eq] at hg
    have hpn:=(AAG b7 (show b.fLast<r.fThing.fId by omega)).1
    by_cases h8:(b.fThings.length:Int)≥8
    ·rw [decide_eq_true h8,cond_false,TB (by rw [beq_iff_eq];omega)];rfl
    ·rw [decide_eq_false h8] at hok ⊢
     simp only [Bool.or_false,cond_false] at hok
     have h5:=(hok trivial).2.2.2.1
     rw [hpn] at hpl ⊢
     rw [cond_false,FN (by rw [beq_eq_false_iff_ne];omega),Xg (by simp only;omega),Option.bind_some,h5];rfl
   ·rfl
 ·rw [hk] at hok ⊢
  simp only [show ((4:Int) == 1)=false from rfl,show ((4:Int) == 2)=false from rfl,show ((4:Int) == 3)=false from rfl,show ((4:Int) == 4)=true from rfl,cond_true,cond_false] at hok ⊢
  rw [CAA hb,Option.bind_some]
  cases ht:WY b.fThings r.fNum with
  | none=>rfl
  | some o=>
   rw [ht] at hok
   simp only [Bool.not_true,cond_false] at hok ⊢
   have h5:=(hok trivial).2.2.2.1
   have key:∀ (j i m:Nat),i+j=b.fThings.length→Bj (m+j+1) (.c0 (LY r).1 (i:Int) b r ⟨#[]⟩ 0 0 ⟨#[]⟩ 0 b.fWord b.fTries b.fLast b.fChain b.fCount ((b.fThings.take i).filter (fun t=>t.fId != r.fNum)) [] b.fThings)=some (⟨b.fWord,b.fTries,without b.fThings r.fNum,b.fLast,CZ (b.fChain++(LY r).1),b.fCount+1⟩,true):=by
    intro j
    induction j with
    | zero=>
     intro i m hi
     obtain rfl:i=b.fThings.length:=by omega
     have hf1:(without b.fThings r.fNum).length≤b.fThings.length:=List.length_filter_le ..
     rw [List.take_length,show b.fThings.filter (fun t=>t.fId != r.fNum)=without b.fThings r.fNum from rfl,Bj]
     simp only [Jo,hdig,hsz,hw,Option.bind_some,cond_true]
     rw [FN (by simp),Xg (by simp only;omega),Option.bind_some,h5];rfl
    | succ j ih=>
     intro i m hi
     have hil:i<b.fThings.length:=by omega
     have e:w64 ((i:Int)+1)=((i+1:Nat):Int):=by rw [w64_id (by omega) (by omega)];rfl
     have h6:=ih (i+1) m (by omega)
     rw [Fz hil] at h6
     have hf2:((b.fThings.take i).filter (fun t=>t.fId != r.fNum)).length≤i:=Nat.le_trans (List.length_filter_le ..) (by simp;omega)
     rw [show m+(j+1)+1=(m+j+1)+1 by omega,Bj]
     simp only [Jo,e,Int.toNat_natCast,getD_at hil]
     rw [TB (by simp;omega),TB (by simp;omega)]
     cases h7:(b.fThings[i].fId != r.fNum)
     ·rw [h7] at h6
      rw [cond_false,←h6];simp
     ·rw [h7] at h6
      rw [cond_true,TB (by simp;omega),TB (by simp only [decide_eq_true_eq];omega),←h6];simp
   obtain ⟨m,hm⟩:∃ m,gas=m+b.fThings.length+1:=⟨gas - (b.fThings.length+1),by have:=gas_lt (n:=b.fThings.length+1) (by omega);omega⟩
   have h0:=key b.fThings.length 0 m (by omega)
   rw [List.take_zero,List.filter_nil] at h0
   rw [hm]
   exact h0
def TT (b:SBook):List SRec→SBook×Bool
 | []=>(b,true)
 | r::rs=>bif (NY b r).2 then TT (NY b r).1 rs else (Am,false)
theorem IAA {b:SBook} {r:SRec} (h:(NY b r).2=true):(NY b r).1.fThings.length≤8:=(JZ.1 (Cm h).2.2.2.1).2.2.2.1
theorem GAG {rs:List SRec}:∀ {b:SBook},VY b=true→(TT b rs).2=true→VY (TT b rs).1=true:=by
 induction rs with
 | nil=>intro b h _;exact h
 | cons r rs ih=>
  intro b h h2
  rw [TT] at h2 ⊢
  cases h3:(NY b r).2
  ·rw [h3] at h2;cases h2
  ·rw [h3,cond_true] at h2
   rw [cond_true]
   exact ih (Cm h3).2.2.2.1 h2
theorem JAA:VY KY=true:=JZ.2 ⟨Ry _,by rw [KY,ofBytes_size];rfl,(by decide:(0:Int)≤0∧(0:Int)≤3),(by decide:0≤8),(by decide:(0:Int)≤0∧(0:Int)≤1000),(by decide:(0:Int)≤0∧(0:Int)≤10000),rfl⟩
theorem Gz {l k:List SRec}:∀ {b:SBook},TT b (l++k)=bif (TT b l).2 then TT (TT b l).1 k else (Am,false):=by
 induction l with
 | nil=>intro b;rfl
 | cons r rs ih=>
  intro b
  rw [List.cons_append,TT,TT,ih]
  cases (NY b r).2 <;> rfl
theorem HAG {b:SBook} {l:List SRec} (w:Nat) (h:(TT b l).2=true):(TT b (l.take w)).2=true:=by
 have e:=Gz (b:=b) (l:=l.take w) (k:=l.drop w)
 rw [List.take_append_drop] at e
 cases hc:(TT b (l.take w)).2
 ·rw [e,hc] at h;cases h
 ·rfl
theorem KAA {l:List SRec}:∀ {b:SBook},(TT b l).2=true→(TT b l).1.fCount=b.fCount+(l.length:Int):=by
 induction l with
 | nil=>intro b _;show b.fCount=b.fCount+0;omega
 | cons r rs ih=>
  intro b h
  rw [TT] at h ⊢
  cases h2:(NY b r).2
  ·rw [h2] at h;cases h
  ·rw [h2,cond_true] at h
   rw [cond_true,ih h,(Cm h2).2.2.2.2.1,List.length_cons];omega
def Bf (l:List SRec) (b:SBook):Prop:=TT KY l=(b,true)∧VY b=true∧(∀ x ∈ l,x.fNum≤9223372036854775807)
theorem IAG:Bf [] KY:=⟨rfl,JAA,fun x hx=>by cases hx⟩
theorem JAG {l:List SRec} {b:SBook} {r:SRec} (h:Bf l b) (hr:r.fNum≤9223372036854775807) (he:(NY b r).2=true):Bf (l++[r]) (NY b r).1:=by
 refine ⟨?_,(Cm he).2.2.2.1,fun x hx=>?_⟩
 ·rw [Gz,h.1,cond_true,TT,he];rfl
 ·rcases List.mem_append.1 hx with hx | hx
  ·exact h.2.2 x hx
  ·rw [List.mem_singleton] at hx;rw [hx];exact hr
theorem LAA {b:SBook} (h:VY b=true):∀ x ∈ b.fThings,x.fId≤1000:=fun x hx=>by
 obtain ⟨_,_,_,_,h5,_,h7⟩:=JZ.1 h
 have:=Zl h7 x hx
 omega
theorem MAA {c:SL01Cur} (hc:PY c):Ok (Md c) fun r=>(Bf r.1 r.2.1∧r.1.length≤12)∧PY r.2.2:=by
 have key:∀ (j i m:Nat) (a h:Int) (b:SBook) (l:List SRec),i+j=12→0≤a→Bf l b→l.length≤i→Ok (Ej (m+j+1) (.c0 (i:Int) a h ⟨#[]⟩ 0 0 ⟨#[]⟩ 0 b.fWord b.fTries b.fLast b.fChain b.fCount l [] b.fThings)) fun r=>(Bf r.1 r.2.1∧r.1.length≤12)∧PY r.2.2:=by
  intro j
  induction j with
  | zero=>
   intro i m a h b l hi ha hd hl
   rw [Ej];simp only [Po]
   refine Ok.bind (SY (c:=⟨(),a,h⟩) ha) fun n hn=>?_
   have h1:=hn.1.2.1 (by omega)
   rw [FN (by rw [decide_eq_false_iff_not];omega)]
   exact Ok.ret ⟨⟨hd,by show l.length≤12;omega⟩,hn.2⟩
  | succ j ih=>
   intro i m a h b l hi ha hd hl
   have hw:w64 ((i:Int)+1)=((i+1:Nat):Int):=by rw [w64_id (by omega) (by omega)];rfl
   rw [show m+(j+1)+1=(m+j+1)+1 from rfl,Ej]
   simp only [Po,hw]
   refine Ok.bind (SY (c:=⟨(),a,h⟩) ha) fun n hn=>Ok.cond (fun _=>?_) fun _=>Ok.ret ⟨⟨hd,by show l.length≤12;omega⟩,hn.2⟩
   have hlen:=(JZ.1 hd.2.1).2.2.2.1
   refine Ok.bind (Q9 hn.2 (b:=b) fun x hx=>by have:=LAA hd.2.1 x hx;omega) fun r hr=>Ok.bind (Ok.eq (HAA (b:=b) (r:=r.1) (by omega))) fun e he=>?_
   subst he
   refine Ok.cond (fun h2=>Ok.chk (by rw [decide_eq_true_eq];omega) ?_) fun _=>?_
   ·exact ih (i+1) m _ _ (NY b r.1).1 _ (by omega) hr.2 (JAG hd hr.1 h2) (by rw [List.length_append,List.length_singleton];omega)
   ·exact ih (i+1) m _ _ b l (by omega) hr.2 hd (by omega)
 rw [Md,Ru,Wy,Option.bind_some]
 obtain ⟨m,hm⟩:∃ m,gas=m+12+1:=⟨gas - 13,rfl⟩
 rw [hm]
 exact key 12 0 m _ _ KY [] rfl hc IAG (Nat.le_refl 0)
theorem KAG:Ok (Fj ()) fun r=>r.length≤12∧∃ b,Bf r b:=by
 rw [Fj,Vu]
 exact Ok.bind Ny fun c hc=>Ok.bind (MAA hc) fun l hl=>Ok.ret ⟨hl.1.2,_,hl.1.1⟩
theorem NAA {n:Nat} (h:n≤1000000000):Qd (n:Int)=some (ofBytes (List.replicate n 0)):=by
 simp only [Qd,Xu,Int.toNat_natCast]
 rw [TB (by simp;omega)]
theorem OAA {x:Int} (h:R32 x):Xb x=some (ofBytes (four x)):=by
 obtain ⟨h1,h2⟩:=h
 have e1:Int.fdiv x (2 ^ (Min.min (24:Int).toNat (IntKind.bits IntKind.u32)))=x / 16777216:=Int.fdiv_eq_ediv_of_nonneg _ (by decide)
 have e2:Int.fdiv x (2 ^ (Min.min (16:Int).toNat (IntKind.bits IntKind.u32)))=x / 65536:=Int.fdiv_eq_ediv_of_nonneg _ (by decide)
 have e3:Int.fdiv x (2 ^ (Min.min (8:Int).toNat (IntKind.bits IntKind.u32)))=x / 256:=Int.fdiv_eq_ediv_of_nonneg _ (by decide)
 simp only [Xb,Yu,e1,e2,e3,w8_mod,four]
 rw [show x / 16777216 % 256=x / 16777216 by omega]
theorem LAG {n:Nat} (h:n<1099511627776):Ij (n:Int)=some (ofBytes (Qa (n:Int))):=by
 have e1:Int.fdiv (n:Int) (2 ^ (Min.min (32:Int).toNat (IntKind.bits IntKind.i64)))=(n:Int) / 4294967296:=Int.fdiv_eq_ediv_of_nonneg _ (by decide)
 simp only [Ij,Dv,e1,OAA (BZ _),Option.bind_some]
 rw [TB (by rw [ofBytes_size,ofBytes_size];simp [four])]
 congr 1
 apply Fe
 rw [Pg,QZ (Iq (BZ _)),QZ (Iq (BZ _)),QZ (fun x hx=>by
  simp only [Qa,List.mem_cons,List.not_mem_nil,or_false] at hx
  omega)]
 simp only [four,Qa,Ie,List.cons_append,List.nil_append,List.cons.injEq,and_true]
 omega
theorem MAG {n:Nat} (h:n≤100000000000):Jj (n:Int)=some (ofBytes (RV n)):=by
 have e1:(w64 (119 - ((n:Int).tmod 64))).tmod 64=(((119 - n % 64) % 64:Nat):Int):=by
  have a:(n:Int).tmod 64=(n:Int) % 64:=Int.tmod_eq_emod_of_nonneg (by omega)
  rw [a,w64_id (by omega) (by omega),Int.tmod_eq_emod_of_nonneg (by omega)]
  omega
 have e2:w64 (8*(n:Int))=((8*n:Nat):Int):=by rw [w64_id (by omega) (by omega)];omega
 have h0:(⟨#[128]⟩:ByteArray).size=1:=rfl
 simp only [Jj,Gv,e1,e2,NAA (n:=(119 - n % 64) % 64) (by omega),LAG (n:=8*n) (by omega),Option.bind_some]
 rw [TB (by rw [ofBytes_size];simp [h0];omega),TB (by rw [ByteArray.size_append,ofBytes_size,ofBytes_size];simp [h0,Qa];omega)]
 congr 1
 apply Fe
 have hb:FZ (List.replicate ((119 - n % 64) % 64) (0:Int)):=fun x hx=>by
  have:=List.eq_of_mem_replicate hx;omega
 have hb2:FZ (Qa ((8*n:Nat):Int)):=fun x hx=>by
  simp only [Qa,List.mem_cons,List.not_mem_nil,or_false] at hx
  omega
 rw [Pg,Pg,QZ hb,QZ hb2,QZ (Qy n),RV]
 have e3:bs (⟨#[128]⟩:ByteArray)=[128]:=rfl
 rw [e3]
 simp
theorem NAG {x:Int} (h:R32 x) (n:Nat) (hn:0<n) (hn2:n<32) (k:Int) (hk:wu64 (((BitVec.toNat ((BitVec.ofInt (IntKind.bits IntKind.u64) (wu64 k)) &&& (BitVec.ofInt (IntKind.bits IntKind.u64) (31:Int)))):Nat):Int)=((32 - n:Nat):Int))
  (hk2:wu64 (32 - ((32 - n:Nat):Int))=(n:Int)):Lj x k=some (rt (2 ^ n) (2 ^ (32 - n)) x):=by
 have e1:Min.min ((32 - n:Nat):Int).toNat (IntKind.bits IntKind.u32)=32 - n:=by
  show Min.min ((32 - n:Nat):Int).toNat 32=_
  omega
 have e2:Min.min (n:Int).toNat (IntKind.bits IntKind.u32)=n:=by
  show Min.min (n:Int).toNat 32=_
  omega
 have e3:Int.fdiv x (2 ^ n)=x / 2 ^ n:=Int.fdiv_eq_ediv_of_nonneg _ (Int.le_of_lt (Int.pow_pos (by omega)))
 simp only [Lj,Kv,hk,hk2,e1,e2,e3]
 rw [show decide ((0:Int)≤(n:Int))=true from decide_eq_true (by omega)]
 simp only [cond_true,L8]
 rw [EAE h n hn hn2]
theorem Nb {x:Int} (h:R32 x) (n:Nat) (hn:0<n) (hn2:n<32) (hk:wu64 (((BitVec.toNat ((BitVec.ofInt (IntKind.bits IntKind.u64) (wu64 (w64 (0 - (n:Int))))) &&& (BitVec.ofInt (IntKind.bits IntKind.u64) (31:Int)))):Nat):Int)=((32 - n:Nat):Int))
  (hk2:wu64 (32 - ((32 - n:Nat):Int))=(n:Int)):QY x (n:Int)=some (rt (2 ^ n) (2 ^ (32 - n)) x):=by
 simp only [QY,Nv,NAG h n hn hn2 _ hk hk2,Option.bind_some]
theorem OAG {x:Int} (h:R32 x):QY x 2=some (rt 4 1073741824 x):=Nb h 2 (by decide) (by decide) (by decide) (by decide)
theorem PAG {x:Int} (h:R32 x):QY x 13=some (rt 8192 524288 x):=Nb h 13 (by decide) (by decide) (by decide) (by decide)
theorem QAG {x:Int} (h:R32 x):QY x 22=some (rt 4194304 1024 x):=Nb h 22 (by decide) (by decide) (by decide) (by decide)
theorem RAG {x:Int} (h:R32 x):QY x 6=some (rt 64 67108864 x):=Nb h 6 (by decide) (by decide) (by decide) (by decide)
theorem SAG {x:Int} (h:R32 x):QY x 11=some (rt 2048 2097152 x):=Nb h 11 (by decide) (by decide) (by decide) (by decide)
theorem UAG {x:Int} (h:R32 x):QY x 25=some (rt 33554432 128 x):=Nb h 25 (by decide) (by decide) (by decide) (by decide)
theorem VAG {x:Int} (h:R32 x):QY x 7=some (rt 128 33554432 x):=Nb h 7 (by decide) (by decide) (by decide) (by decide)
theorem WAG {x:Int} (h:R32 x):QY x 18=some (rt 262144 16384 x):=Nb h 18 (by decide) (by decide) (by decide) (by decide)
theorem XAG {x:Int} (h:R32 x):QY x 17=some (rt 131072 32768 x):=Nb h 17 (by decide) (by decide) (by decide) (by decide)
theorem YAG {x:Int} (h:R32 x):QY x 19=some (rt 524288 8192 x):=Nb h 19 (by decide) (by decide) (by decide) (by decide)
theorem AAH {a b:Int} (ha:0≤a∧a<16777216) (hb:0≤b∧b≤255):Sl (w32 (a*256)) (w32 b)=a*256+b:=by
 obtain ⟨x,rfl⟩:∃ x:Nat,a=(x:Int):=⟨a.toNat,by omega⟩
 obtain ⟨y,rfl⟩:∃ y:Nat,b=(y:Int):=⟨b.toNat,by omega⟩
 rw [Na (by omega) (by omega),Na (by omega) (by omega)]
 have:=N8 (a:=x) (b:=y) (s:=8) (by omega) (by omega) (by omega)
 have e:((x*2 ^ 8:Nat):Int)=(x:Int)*256:=by omega
 rw [Int.natCast_add,e] at this
 exact this
def UZ (l:List Int) (i:Nat):Nat→Int
 | 0=>0
 | k+1=>UZ l i k*256+l.getD (4*i+k) 0
theorem BAH (l:List Int) (i:Nat):UZ l i 4=wordAt l i:=by
 simp only [UZ,wordAt,be4,Nat.add_zero]
 omega
theorem CAH {l:List Int} (h:FZ l) (i:Nat):∀ k,k<4→0≤UZ l i k∧UZ l i k<16777216
 | 0,_=>by simp [UZ]
 | 1,_=>by have:=GZ h (4*i+0);simp only [UZ];omega
 | 2,_=>by have:=GZ h (4*i+0);have:=GZ h (4*i+1);simp only [UZ];omega
 | 3,_=>by have:=GZ h (4*i+0);have:=GZ h (4*i+1);have:=GZ h (4*i+2);simp only [UZ];omega
theorem DAH {b:ByteArray} (hb:b.size=64) (v:List Int) (i:Nat) (hi:i<16):∀ (j k m:Nat),k+j=4→
  PZ (m+j+1) (.c1 b (i:Int) (i:Int) (k:Int) v (CV (bs b) i++UZ (bs b) i k::List.replicate (63 - i) 0))=PZ m (.c0 b ((i+1:Nat):Int) v (CV (bs b) (i+1)++List.replicate (63 - i) 0)):=by
 have hby:=Ug b
 intro j
 induction j with
 | zero=>
  intro k m h
  obtain rfl:k=4:=by omega
  have e:w64 ((i:Int)+1)=((i+1:Nat):Int):=by rw [w64_id (by omega) (by omega)];rfl
  rw [PZ]
  simp only [Lc,e]
  rw [FN (by simp),BAH,V8]
  simp
 | succ j ih=>
  intro k m h
  have hk:k<4:=by omega
  have hlen:(CV (bs b) i++UZ (bs b) i k::List.replicate (63 - i) 0).length=64:=by
   simp only [List.length_append,List.length_cons,List.length_replicate,Ac];omega
  have e:w64 ((k:Int)+1)=((k+1:Nat):Int):=by rw [w64_id (by omega) (by omega)];rfl
  have e4:w64 (4*(i:Int))=((4*i:Nat):Int):=by rw [w64_id (by omega) (by omega)];omega
  have e5:w64 (((4*i:Nat):Int)+(k:Int))=((4*i+k:Nat):Int):=by rw [w64_id (by omega) (by omega)];omega
  have e8:(2:Int) ^ (Min.min (8:Int).toNat (IntKind.bits IntKind.u32))=256:=by decide
  have hg:(CV (bs b) i++UZ (bs b) i k::List.replicate (63 - i) 0).getD i 0=UZ (bs b) i k:=by
   rw [I8 (by rw [Ac];omega),Ac,Nat.sub_self];rfl
  rw [show m+(j+1)+1=(m+j+1)+1 by omega,PZ]
  simp only [Lc,e,e4,e5,e8,Int.toNat_natCast,hlen,hg,L8]
  rw [TB (by simp;omega),TB (by rfl),TB (by simp;omega),TB (by simp;omega),TB (by rfl),TB (by simp;omega)]
  rw [Qg (by omega),AAH (CAH hby i k hk) (GZ hby _),Fq (Ac _ i)]
  exact ih (k+1) m (by omega)
theorem EAH {b:ByteArray} (hb:b.size=64) (v:List Int):∀ (j i m:Nat),i+j=16→PZ (m+6*j+1) (.c0 b (i:Int) v (CV (bs b) i++List.replicate (64 - i) 0))=PZ m (.c2 16 v (CV (bs b) 16++List.replicate 48 0)):=by
 intro j
 induction j with
 | zero=>
  intro i m h
  obtain rfl:i=16:=by omega
  rw [PZ]
  simp only [Lc]
  rw [FN (by simp)]
 | succ j ih=>
  intro i m h
  rw [show m+6*(j+1)+1=(m+6*j+1)+4+1+1 by omega,PZ]
  simp only [Lc]
  rw [TB (by simp;omega)]
  have h1:=DAH hb v i (by omega) 4 0 (m+6*j+1) (by omega)
  rw [show 64 - i=(63 - i)+1 by omega,List.replicate_succ]
  have h2:=ih (i+1) m (by omega)
  rw [show 64 - (i+1)=63 - i by omega] at h2
  exact h1.trans h2
theorem FAH {w v:List Int} (hw:∀ x ∈ w,R32 x) (hwl:w.length=16) (hv:v.length=64):∀ (j i m:Nat),i+j=48→PZ (m+j+1) (.c2 ((16+i:Nat):Int) v (sched w i++List.replicate (48 - i) 0))=some (sched w 48):=by
 intro j
 induction j with
 | zero=>
  intro i m h
  obtain rfl:i=48:=by omega
  have hl:=Ul hwl 48
  rw [PZ]
  simp only [Lc,Nat.sub_self,List.replicate_zero,List.append_nil,hl,hv]
  rfl
 | succ j ih=>
  intro i m h
  have hl:=Ul hwl i
  have hr:=Hq hw i
  have hlen:(sched w i++List.replicate (48 - i) 0).length=64:=by
   simp only [List.length_append,List.length_replicate,hl];omega
  have e2:w64 (((16+i:Nat):Int) - 2)=((16+i - 2:Nat):Int):=by rw [w64_id (by omega) (by omega)];omega
  have e7:w64 (((16+i:Nat):Int) - 7)=((16+i - 7:Nat):Int):=by rw [w64_id (by omega) (by omega)];omega
  have e15:w64 (((16+i:Nat):Int) - 15)=((16+i - 15:Nat):Int):=by rw [w64_id (by omega) (by omega)];omega
  have e16:w64 (((16+i:Nat):Int) - 16)=((16+i - 16:Nat):Int):=by rw [w64_id (by omega) (by omega)];omega
  have e1:w64 (((16+i:Nat):Int)+1)=((16+(i+1):Nat):Int):=by rw [w64_id (by omega) (by omega)];omega
  have g2:(sched w i++List.replicate (48 - i) 0).getD (16+i - 2) 0=(sched w i).getD (16+i - 2) 0:=Dq (by omega) 0
  have g7:(sched w i++List.replicate (48 - i) 0).getD (16+i - 7) 0=(sched w i).getD (16+i - 7) 0:=Dq (by omega) 0
  have g15:(sched w i++List.replicate (48 - i) 0).getD (16+i - 15) 0=(sched w i).getD (16+i - 15) 0:=Dq (by omega) 0
  have g16:(sched w i++List.replicate (48 - i) 0).getD (16+i - 16) 0=(sched w i).getD (16+i - 16) 0:=Dq (by omega) 0
  have f10:∀ x:Int,Int.fdiv x (2 ^ (Min.min (10:Int).toNat (IntKind.bits IntKind.u32)))=x / 1024:=fun x=>Int.fdiv_eq_ediv_of_nonneg _ (by decide)
  have f3:∀ x:Int,Int.fdiv x (2 ^ (Min.min (3:Int).toNat (IntKind.bits IntKind.u32)))=x / 8:=fun x=>Int.fdiv_eq_ediv_of_nonneg _ (by decide)
  have r15:=Vl hr (16+i - 15)
  have r2:=Vl hr (16+i - 2)
  rw [show m+(j+1)+1=(m+j+1)+1 by omega,PZ]
  simp only [Lc,e1,e2,e7,e15,e16,Int.toNat_natCast,hlen,g2,g7,g15,g16,VAG r15,WAG r15,XAG r2,YAG r2,Option.bind_some,f10,f3,Je]
  rw [TB (by simp;omega),TB (by rfl),TB (by simp;omega),TB (by rfl),TB (by simp;omega),TB (by rfl),TB (by simp;omega),TB (by rfl),TB (by simp;omega),TB (by rfl),TB (by simp;omega)]
  rw [show 48 - i=(48 - (i+1))+1 by omega,List.replicate_succ,Fq (by omega)]
  have h2:=ih (i+1) m (by omega)
  rw [sched,List.append_assoc] at h2
  exact h2
theorem GAH {b:ByteArray} (hb:b.size=64):Td b=some (sched (CV (bs b) 16) 48):=by
 obtain ⟨m,hm⟩:∃ m,gas=(m+48+1)+6*16+1:=⟨gas - 146,by have:=gas_lt (n:=146) (by omega);omega⟩
 rw [Td,Ov,hm]
 have h0:=EAH hb (List.replicate 64 0) 16 0 (m+48+1) (by omega)
 have h2:=FAH (w:=CV (bs b) 16) (v:=List.replicate 64 0) (Oy (Ug b) 16) (Ac _ 16) (List.length_replicate ..) 48 0 m (by omega)
 rw [show CV (bs b) 0++List.replicate (64 - 0) 0=List.replicate 64 (0:Int) from rfl,show ((0:Nat):Int)=0 from rfl] at h0
 rw [show ((16+0:Nat):Int)=16 from rfl,show sched (CV (bs b) 16) 0=CV (bs b) 16 from rfl,show 48 - 0=48 from rfl] at h2
 rw [h0,h2]
theorem HAH (s r v:List Int) (hs:s.length=8) (hv:v.length=8) (f:Nat→Int) (hf:∀ i,i<8→f i=w32 (r.getD i 0+s.getD i 0)) (hr:r.length=8):∀ (j i m:Nat),i+j=8→La (m+j+1) (.c1 (i:Int) s v ((List.range i).map f++r.drop i))=some ((List.range 8).map f):=by
 intro j
 induction j with
 | zero=>
  intro i m h
  obtain rfl:i=8:=by omega
  rw [La]
  simp only [Gg]
  rw [FN (by simp),List.drop_of_length_le (by omega),List.append_nil,TB (by simp),TB (by simp [hv]),TB (by simp)]
 | succ j ih=>
  intro i m h
  have e:w64 ((i:Int)+1)=((i+1:Nat):Int):=by rw [w64_id (by omega) (by omega)];rfl
  have hl:((List.range i).map f++r.drop i).length=8:=by simp [hr];omega
  have hm:((List.range i).map f).length=i:=by simp
  have hg:((List.range i).map f++r.drop i).getD i 0=r.getD i 0:=by
   rw [I8 (by omega),hm,Nat.sub_self]
   simp [List.getD]
  rw [show m+(j+1)+1=(m+j+1)+1 by omega,La]
  simp only [Gg,e,Int.toNat_natCast,hl,hs,hg]
  rw [TB (by simp;omega),TB (by rfl),TB (by simp;omega),TB (by rfl),TB (by simp;omega),TB (by rfl),TB (by simp;omega)]
  rw [drop_at (by omega:i<r.length),Fq hm,←hf i (by omega)]
  have h2:=ih (i+1) m (by omega)
  rw [List.range_succ,List.map_append,List.append_assoc] at h2
  exact h2
theorem IAH (s v W:List Int) (hW:∀ x ∈ W,R32 x) (hWl:W.length=64) (r:Reg) (hr:r.ok) (i m:Nat) (hi:i<64) :
  La (m+1) (.c0 r.a r.b r.c r.d r.e r.f r.g r.h (i:Int) s v W)=La m (.c0 (Oa r (keysL.getD i 0) (W.getD i 0)).a (Oa r (keysL.getD i 0) (W.getD i 0)).b (Oa r (keysL.getD i 0) (W.getD i 0)).c (Oa r (keysL.getD i 0) (W.getD i 0)).d (Oa r (keysL.getD i 0) (W.getD i 0)).e (Oa r (keysL.getD i 0) (W.getD i 0)).f (Oa r (keysL.getD i 0) (W.getD i 0)).g (Oa r (keysL.getD i 0) (W.getD i 0)).h ((i+1:Nat):Int) s v W):=by
 obtain ⟨h1,h2,h3,h4,h5,h6,h7,h8⟩:=hr
 have e:w64 ((i:Int)+1)=((i+1:Nat):Int):=by rw [w64_id (by omega) (by omega)];rfl
 rw [La]
 simp only [Gg,e,Int.toNat_natCast,hWl,RAG h5,SAG h5,UAG h5,OAG h1,PAG h1,QAG h1,Option.bind_some,Je,J8,CAE h5]
 rw [TB (by simp;omega),TB (by simp;omega),TB (by rw [Nat.blt_eq];omega),TB (by rfl),TB (by simp;omega)]
 rfl
theorem JAH (s v W:List Int) (hW:∀ x ∈ W,R32 x) (hWl:W.length=64) (r:Reg) (hr:r.ok):∀ (j i m:Nat),i+j=64→
  La (m+j+1) (.c0 (RY keysL W r i).a (RY keysL W r i).b (RY keysL W r i).c (RY keysL W r i).d (RY keysL W r i).e (RY keysL W r i).f (RY keysL W r i).g (RY keysL W r i).h (i:Int) s v W)=La m (.c1 0 s v (RY keysL W r 64).l):=by
 intro j
 induction j with
 | zero=>
  intro i m h
  obtain rfl:i=64:=by omega
  rw [La]
  simp only [Gg]
  rw [FN (by simp)]
  rfl
 | succ j ih=>
  intro i m h
  rw [show m+(j+1)+1=(m+j+1)+1 by omega,IAH s v W hW hWl _ (U8 keysL W hr i) i _ (by omega)]
  exact ih (i+1) m (by omega)
theorem KAH {s:Reg} (hs:s.ok) {b:ByteArray} (hb:b.size=64):Ud s.l b=some (comp s (bs b)).l:=by
 obtain ⟨m,hm⟩:∃ m,gas=(m+8+1)+64+1:=⟨gas - 74,by have:=gas_lt (n:=74) (by omega);omega⟩
 have hr:=Hq (Oy (Ug b) 16) 48
 have hl:=Ul (Ac (bs b) 16) 48
 have hsl:s.l.length=8:=rfl
 have z0:(0:Int).toNat=0:=rfl
 have z1:(1:Int).toNat=1:=rfl
 have z2:(2:Int).toNat=2:=rfl
 have z3:(3:Int).toNat=3:=rfl
 have z4:(4:Int).toNat=4:=rfl
 have z5:(5:Int).toNat=5:=rfl
 have z6:(6:Int).toNat=6:=rfl
 have z7:(7:Int).toNat=7:=rfl
 rw [Ud,Pv,GAH hb,Option.bind_some,hm]
 simp only [hl,hsl,List.length_replicate,z0,z1,z2,z3,z4,z5,z6,z7]
 rw [TB (by rfl),TB (by rfl),TB (by rfl),TB (by rfl),TB (by rfl),TB (by rfl),TB (by rfl),TB (by rfl),TB (by rfl),TB (by rfl),TB (by rfl),TB (by rfl),TB (by rfl),TB (by rfl),TB (by rfl),TB (by rfl),TB (by rfl)]
 have h0:=JAH s.l [0,0,0,0,0,0,0,0] _ hr hl s hs 64 0 (m+8+1) (by omega)
 rw [show ((0:Nat):Int)=0 from rfl] at h0
 have hf:∀ i,i<8→(fun i=>w32 ((RY keysL (sched (CV (bs b) 16) 48) s 64).l.getD i 0+s.l.getD i 0)) i=w32 ((RY keysL (sched (CV (bs b) 16) 48) s 64).l.getD i 0+s.l.getD i 0):=fun _ _=>rfl
 have h1:=HAH s.l (RY keysL (sched (CV (bs b) 16) 48) s 64).l [0,0,0,0,0,0,0,0] rfl rfl _ hf rfl 8 0 m (by omega)
 rw [show ((0:Nat):Int)=0 from rfl,List.range_zero,List.map_nil,List.nil_append,List.drop_zero] at h1
 have e:(List.range 8).map (fun i=>w32 ((RY keysL (sched (CV (bs b) 16) 48) s 64).l.getD i 0+s.l.getD i 0))=(comp s (bs b)).l:=by
  apply List.ext_getElem
  ·rw [Reg.Wl,List.length_map,List.length_range]
  ·intro i h1 h2
   have hi:i<8:=by simpa using h1
   rw [List.getElem_map,List.getElem_range,←getD_at h2 0]
   rw [comp,G9 _ _ i hi,Int.add_comm]
 rw [e] at h1
 exact h0.trans h1
theorem LAH {s:Reg} (hs:s.ok) {t:ByteArray} (ht:t.size≤1000000000000):Rj s.l t=some ((comps (t.size / 64) s (bs t)).l,t.extract (64*(t.size / 64)) t.size):=by
 have key:∀ (j:Nat) (s:Reg) (t:ByteArray) (m:Nat),s.ok→t.size / 64=j→t.size≤1000000000000→Qj (m+j+1) (.c0 t s.l [0,0,0,0,0,0,0,0])=some ((comps j s (bs t)).l,t.extract (64*j) t.size):=by
  intro j
  induction j with
  | zero=>
   intro s t m hs hj ht
   rw [Qj]
   simp only [Yo,Reg.Wl]
   rw [FN (by simp;omega),TB (by rfl),TB (by rfl),TB (by rfl)]
   congr 2
   apply Fe
   rw [He,List.take_of_length_le (by rw [bs_len];omega)]
   rfl
  | succ j ih=>
   intro s t m hs hj ht
   have h64:(64:Int).toNat=64:=rfl
   have e1:bs (t.extract 0 64)=(bs t).take 64:=by rw [He];rfl
   have e2:bs (t.extract 64 t.size)=(bs t).drop 64:=by rw [He,List.take_of_length_le (by rw [bs_len];omega)]
   rw [show m+(j+1)+1=(m+j+1)+1 by omega,Qj]
   simp only [Yo,h64,Reg.Wl]
   rw [TB (by simp;omega),TB (by rfl),TB (by simp;omega)]
   rw [KAH hs (b:=t.extract 0 64) (by simp;omega),Option.bind_some]
   rw [Reg.Wl]
   rw [TB (by rfl)]
   rw [TB (by simp;omega)]
   rw [ih (comp s (bs (t.extract 0 64))) (t.extract 64 t.size) m (X8 _ _) (by simp;omega) (by simp;omega),e1,e2]
   have e3:(t.extract 64 t.size).extract (64*j) (t.extract 64 t.size).size=t.extract (64*(j+1)) t.size:=by
    apply Fe
    rw [He,e2,He,List.take_of_length_le (by simp [bs_len]),List.take_of_length_le (by rw [bs_len];omega),List.drop_drop]
    congr 1
    omega
   rw [e3,comps]
 obtain ⟨m,hm⟩:∃ m,gas=m+t.size / 64+1:=⟨gas - (t.size / 64+1),by have:=gas_lt (n:=t.size / 64+1) (by omega);omega⟩
 rw [Rj,Sv,hm]
 exact key _ s t m hs rfl ht
theorem MAH {r:Reg} (hr:r.ok):Uj r.l=some (ofBytes (SN r.l)):=by
 have hl:r.l.length=8:=rfl
 have hrl:=Reg.Qe hr
 have hby:∀ i,FZ (SN (r.l.take i)):=fun i=>Py (fun x hx=>hrl x (List.mem_of_mem_take hx))
 have key:=loopN (A:=Unit) (n:=8) (Lp:=Tj) (st:=fun i _=>.c0 (ofBytes (SN (r.l.take i))) r.l (i:Int)) (Inv:=fun _ _=>True) (out:=fun _ _=>some (ofBytes (SN r.l)))
  (fun m _ _=>by
   rw [Tj]
   simp only [Zo]
   rw [FN (by simp)]
   rfl)
  (fun m i _ hi _=>.inr ⟨(),by
   have e:w64 ((i:Int)+1)=((i+1:Nat):Int):=by rw [w64_id (by omega) (by omega)];rfl
   have hg:r.l.getD i 0=r.l[i]'(by omega):=getD_at (by omega) 0
   have hx:R32 (r.l.getD i 0):=Vl hrl i
   rw [Tj]
   simp only [Zo,e,Int.toNat_natCast,OAA hx,Option.bind_some,hl]
   rw [TB (by simp;omega),TB (by rfl),TB (by simp;omega),TB (by rw [ofBytes_size,ofBytes_size,Vg];simp [four];omega)]
   congr 2
   apply Fe
   rw [Pg,QZ (hby i),QZ (hby (i+1)),QZ (Iq hx),take_at (by omega),Z8,hg]
   simp [SN],trivial,rfl⟩)
 rw [Uj,Wv,hl,TB (by rfl)]
 exact key gas 0 () (Nat.zero_le _) (gas_lt (by omega)) trivial
theorem NAH:Qo=some RZ.l:=rfl
theorem PAA {s:ByteArray} (hs:s.size≤1000000000):Vd s=some (CZ s):=by
 have h1:=Jq s.size
 have hsz:(s++ofBytes (RV s.size)).size=s.size+(RV s.size).length:=by rw [ByteArray.size_append,ofBytes_size]
 rw [Vd,Xv,NAH,Option.bind_some,MAG (n:=s.size) (by omega),Option.bind_some,TB (by rw [ofBytes_size];simp;omega),LAH Nc (by omega),Option.bind_some]
 simp only [Reg.Wl]
 rw [TB (by rfl),TB (by rfl),MAH (Oe Nc _ _),Option.bind_some,hsz,Pg,QZ (Qy _),CZ,Ue,bs_len]
theorem QAA:Xd=some KY:=by
 rw [Xd,Yv,PAA (by decide),Option.bind_some,show (32:Int)=((32:Nat):Int) from rfl,NAA (by omega),Option.bind_some];rfl
theorem RAA {b:SBook} (h:b.fThings.length≤2932031007317):Yb b=some b:=by
 rw [Yb,Zv,TB (by simp;omega)]
theorem Pq {n:Int} (h:n≤9223372036854775807):Mc n=some (ofBytes (NM n)):=by
 have key:∀ (n:Int) (m:Nat) (out:List Int),n≤9223372036854775807→(NM n).length≤m→out.length+(NM n).length≤1000→Yj m (.c0 n out)=some (ofBytes (out++NM n)):=by
  intro n
  induction n using NM.induct with
  | case1 n hn ih=>
   intro m out h1 h2 h3
   rw [NM,if_pos hn] at h2 h3 ⊢
   simp only [List.length_cons] at h2 h3
   obtain ⟨m,rfl⟩:∃ k,m=k+1:=⟨m - 1,by omega⟩
   obtain ⟨e1,_,e2⟩:=S9 hn h1
   simp only [Yj,Ep,e1,e2]
   rw [show decide (n > 127)=true from decide_eq_true hn,show decide ((out.length+1)*1≤140737488355328)=true from decide_eq_true (by omega)]
   simp only [cond_true]
   rw [ih m _ (by omega) (by omega) (by simp;omega)]
   simp
  | case2 n hn=>
   intro m out h1 h2 h3
   rw [NM,if_neg hn] at h2 h3 ⊢
   simp at h2 h3
   obtain ⟨m,rfl⟩:∃ k,m=k+1:=⟨m - 1,by omega⟩
   simp only [Yj,Ep]
   rw [show decide (n > 127)=false from decide_eq_false hn,show decide ((out.length+1)*1≤140737488355328)=true from decide_eq_true (by omega)]
   rfl
 have hl:=Ib h
 exact key n gas [] h (Nat.le_of_lt (gas_lt (by omega))) (by simp;omega)
theorem Hz (x a b:Int):Cb x a b=some (IK x a b):=by
 show (bif decide (a≤x) then some (decide (x≤b)) else some false)=some (IK x a b)
 unfold IK;cases decide (a≤x) <;> rfl
theorem SAA (x:SThing):Zb x=some (JY x):=by
 simp only [Zb,Hw,Hz,Option.bind_some,JY,bne]
 by_cases k1:x.fKind=1
 ·rw [k1]
  cases IK x.fId 1 1000 <;> cases IK x.fNext 0 16 <;> cases (x.fNext == 0) <;> cases x.fSigns <;> cases x.fWraps <;> simp [IK]
 ·by_cases k2:x.fKind=2
  ·rw [k2]
   cases IK x.fId 1 1000 <;> cases IK x.fNext 0 16 <;> cases (x.fNext == 0) <;> cases x.fSigns <;> cases x.fWraps <;> simp [IK]
  ·by_cases k3:x.fKind=3
   ·rw [k3]
    cases IK x.fId 1 1000 <;> cases IK x.fNext 0 16 <;> cases (x.fNext == 0) <;> cases x.fSigns <;> cases x.fWraps <;> simp [IK]
   ·have hr:IK x.fKind 1 3=false:=by
     cases h:IK x.fKind 1 3
     ·rfl
     ·rw [DZ] at h;omega
    have e1:(x.fKind == 1)=false:=by simpa using k1
    have e2:(x.fKind == 2)=false:=by simpa using k2
    have e3:(x.fKind == 3)=false:=by simpa using k3
    rw [hr,e1,e2,e3]
    cases IK x.fId 1 1000 <;> cases IK x.fNext 0 16 <;> cases (x.fNext == 0) <;> cases x.fSigns <;> cases x.fWraps <;> rfl
theorem Ah {n:Int} (h:0≤n) (h2:n≤255):Yd n=some (ofBytes [n]):=by
 simp only [Yd,Jw,w8_id h h2]
theorem OAH {s:ByteArray} (h:s.size≤140737488351232):Jk s=some (Jb s):=by
 simp only [Jk,Uw,Pq (n:=(s.size:Int)) (by omega),Option.bind_some]
 have:=Ib (n:=(s.size:Int)) (by omega)
 rw [show decide ((ofBytes (NM (s.size:Int))).size+s.size≤9223372036854775807)=true from decide_eq_true (by rw [ofBytes_size];omega)]
 rfl
theorem PAH (x:SThing):Nk x=some (IZ x):=by
 simp only [Nk,Xw,SAA,Option.bind_some,IZ]
 cases h:JY x
 ·rfl
 ·obtain ⟨k1,k2,k3,k4,k5,k6,k7⟩:=Ye h
  obtain ⟨z1,z2,z3⟩:=Yy h
  have hf:=V9 x
  have e1:∀ n:Int,(ofBytes [n]).size=1:=fun n=>ofBytes_size _
  simp only [UAF,Option.bind_some,Pq (n:=x.fId) (by omega),Ah (n:=x.fKind) (by omega) (by omega),Ah hf.1 (by omega),OAH (s:=x.fValue) (by omega),Pq (n:=x.fNext) (by omega),ba_append_size,e1]
  simp only [Bool.not_true,cond_false,cond_true]
  rw [show decide ((ofBytes (NM x.fId)).size+1≤9223372036854775807)=true from decide_eq_true (by omega),show decide ((ofBytes (NM x.fId)).size+1+1≤9223372036854775807)=true from decide_eq_true (by omega),
   show decide ((ofBytes (NM x.fId)).size+1+1+(Jb x.fValue).size≤9223372036854775807)=true from decide_eq_true (by omega),show decide ((ofBytes (NM x.fId)).size+1+1+(Jb x.fValue).size+(ofBytes (NM x.fNext)).size≤9223372036854775807)=true from decide_eq_true (by omega)]
  rfl
theorem QAH {r:SRec} (g:r.fNum≤9223372036854775807):Qk r=some (LY r):=by
 simp only [Qk,Zw,Hz,PAH,Pq g,Option.bind_some,X9]
 simp only [Y9,LY]
 cases k1:r.fKind == 1
 ·simp only [cond_false]
  cases k2:r.fKind == 2
  ·simp only [cond_false]
   cases k3:r.fKind == 3
   ·simp only [cond_false]
    cases k4:r.fKind == 4
    ·rfl
    ·have k:r.fKind=4:=by simpa using k4
     rw [k]
     simp only [beq_self_eq_true,Ah (n:=4) (by omega) (by omega),Option.bind_some,Bool.true_and,cond_true]
     cases h:IK r.fNum 1 1000
     ·cases TY r.fText <;> cases UY r.fThing <;> rfl
     ·cases TY r.fText <;> cases UY r.fThing <;> (try rfl)
      simp only [Bool.not_true,cond_false,cond_true,Bool.and_self,decide_eq_true (Oq (by omega) h 4)]
   ·have k:r.fKind=3:=by simpa using k3
    rw [k]
    simp only [beq_self_eq_true,Ah (n:=3) (by omega) (by omega),Option.bind_some,Bool.true_and,cond_true,Bool.and_true]
    cases h:(IZ r.fThing).2
    ·cases TY r.fText <;> cases r.fNum == 0 <;> rfl
    ·cases TY r.fText <;> cases r.fNum == 0 <;> (try rfl)
     simp only [Bool.not_true,cond_false,cond_true,Bool.and_self,decide_eq_true (Z9 h 3)]
  ·have k:r.fKind=2:=by simpa using k2
   rw [k]
   simp only [beq_self_eq_true,Ah (n:=2) (by omega) (by omega),Option.bind_some,Bool.true_and,cond_true]
   cases h:IK r.fNum 0 3
   ·cases TY r.fText <;> cases UY r.fThing <;> rfl
   ·cases TY r.fText <;> cases UY r.fThing <;> (try rfl)
    simp only [Bool.not_true,cond_false,cond_true,Bool.and_self,decide_eq_true (Oq (by omega) h 2)]
 ·have k:r.fKind=1:=by simpa using k1
  rw [k]
  simp only [beq_self_eq_true,Ah (n:=1) (by omega) (by omega),Option.bind_some,Bool.true_and,cond_true]
  cases h:(r.fText.size:Int) == 32 <;> cases r.fNum == 0 <;> cases UY r.fThing <;> (try rfl)
  have h':r.fText.size=32:=by have:=beq_iff_eq.1 h;omega
  have e:(ofBytes [1]).size+r.fText.size≤9223372036854775807:=by rw [ofBytes_size];simp only [List.length_singleton];omega
  simp only [Bool.not_true,cond_false,cond_true,Bool.and_self,decide_eq_true e]
def Qq (b:SBook):Bool:=(b.fWord.size:Int) == 32 && ((b.fChain.size:Int) == 32 && (IK b.fTries 0 3 && (decide ((b.fThings.length:Int)≤8) && (IK b.fLast 0 1000 && IK b.fCount 0 10000))))
theorem RAH {b:SBook} (hb:b.fThings.length≤140737488351232):∀ m i,i≤b.fThings.length→b.fThings.length - i<m→Ig m (.c0 b.fThings b.fThings.length i b)=some (rise b.fLast (KZ b.fThings i) (b.fThings.drop i) && Qq b):=fun m i h1 h2=>
 loopN (A:=Unit) (n:=b.fThings.length) (Lp:=Ig) (st:=fun i _=>.c0 b.fThings b.fThings.length i b) (Inv:=fun _ _=>True) (out:=fun i _=>some (rise b.fLast (KZ b.fThings i) (b.fThings.drop i) && Qq b))
  (fun m _ _=>by
   simp only [Ig,Jp,Hz,Option.bind_some,Qq]
   rw [show decide ((b.fThings.length:Int)<(b.fThings.length:Int))=false from decide_eq_false (by omega),List.drop_of_length_le (Nat.le_refl _)]
   cases (b.fWord.size:Int) == 32 <;> cases (b.fChain.size:Int) == 32 <;> cases IK b.fTries 0 3 <;> cases decide ((b.fThings.length:Int)≤8) <;> cases IK b.fLast 0 1000 <;> rfl)
  (fun m i _ hi _=>by
   have hw:w64 ((i:Int)+1)=((i+1:Nat):Int):=by rw [w64_id (by omega) (by omega)];rfl
   simp only [AAA hi]
   simp only [Ig,Jp,Int.toNat_natCast,getD_at hi,SAA,Option.bind_some,hw]
   rw [show decide ((i:Int)<(b.fThings.length:Int))=true from decide_eq_true (by omega),show decide ((0:Int)≤(i:Int))=true from decide_eq_true (by omega)]
   simp only [Bool.and_self,cond_true]
   cases h1:JY b.fThings[i]
   ·exact .inl rfl
   ·cases h2:decide (b.fThings[i].fId > b.fLast)
    ·by_cases h0:i=0
     ·subst h0
      refine .inr ⟨(),rfl,trivial,?_⟩
      rw [show decide (KZ b.fThings 0≥b.fThings[0].fId)=false from decide_eq_false (by have:=(Ye h1).2.2.1;simp only [KZ];omega)]
      rfl
     ·obtain ⟨j,rfl⟩:∃ j,i=j+1:=⟨i - 1,by omega⟩
      have hj:w64 (((j+1:Nat):Int) - 1)=(j:Int):=by rw [w64_id (by omega) (by omega)];omega
      have hjl:j<b.fThings.length:=by omega
      rw [Zy hjl]
      simp only [hj,Int.toNat_natCast,getD_at hjl,Bool.not_true,Bool.not_false,cond_false,Bool.true_and]
      rw [show decide (((j+1:Nat):Int) > 0)=true from decide_eq_true (by omega),show decide ((0:Int)≤(j:Int))=true from decide_eq_true (by omega),show decide ((j:Int)<(b.fThings.length:Int))=true from decide_eq_true (by omega)]
      simp only [Bool.and_self,cond_true]
      cases h3:decide (b.fThings[j].fId≥b.fThings[j+1].fId)
      ·exact .inr ⟨(),rfl,trivial,rfl⟩
      ·exact .inl rfl
    ·exact .inl rfl) m i () h1 h2 trivial
theorem TAA {b:SBook} (hb:b.fThings.length≤140737488351232):Zd b=some (VY b):=by
 have h0:=RAH hb gas 0 (Nat.zero_le _) (gas_lt (by omega))
 simp only [Zd,Dx]
 refine h0.trans (congrArg some ?_)
 simp only [VY,Qq,List.drop_zero,KZ]
 cases rise b.fLast 0 b.fThings <;> simp
theorem UAA {b:SBook} {t:Int} (h:b.fThings.length≤140737488351232):Og b t=some (match AZ b.fThings t 0 with | some j=>(j:Int) | none=> -1):=by
 have key:∀ m i,i≤b.fThings.length→b.fThings.length - i<m→Jg m (.c0 t b.fThings b.fThings.length i)=some (match AZ (b.fThings.drop i) t i with | some j=>(j:Int) | none=> -1):=fun m i h1 h2=>
  loopN (A:=Unit) (n:=b.fThings.length) (Lp:=Jg) (st:=fun i _=>.c0 t b.fThings b.fThings.length i) (Inv:=fun _ _=>True) (out:=fun i _=>some (match AZ (b.fThings.drop i) t i with | some j=>(j:Int) | none=> -1))
   (fun m _ _=>by simp [Jg,Qp,AZ])
   (fun m i _ hi _=>by
    have hw:w64 ((i:Int)+1)=((i+1:Nat):Int):=by rw [w64_id (by omega) (by omega)];rfl
    simp only [Jg,Qp,Int.toNat_natCast,getD_at hi,hw,drop_at hi,AZ]
    cases hq:b.fThings[i].fId == t
    ·exact .inr ⟨(),by simp [hi],trivial,by simp⟩
    ·exact .inl (by simp [hi])) m i () h1 h2 trivial
 have h0:=key gas 0 (Nat.zero_le _) (gas_lt (by omega))
 exact h0
theorem SAH (x y:SThing):Vk x y=some (grown x y):=by
 rw [Vk,Ox,grown,FAA,show decide (y.fNext≥x.fNext)=decide (x.fNext≤y.fNext) from rfl]
 cases (y.fKind == x.fKind) <;> cases (bs y.fValue == bs x.fValue) <;> cases y.fSigns <;> cases x.fSigns <;> cases y.fWraps <;> cases x.fWraps <;> cases decide (x.fNext≤y.fNext) <;> cases y.fHidden <;> cases x.fHidden <;> cases y.fFixed <;> cases x.fFixed <;> rfl
theorem TAH {b:SBook} {x:SThing} (hb:VY b=true) (hx:x.fId≤1000):Xk b x=some (match Zg b x with
 | some p=>(true,⟨b.fWord,b.fTries,p.1,p.2,b.fChain,b.fCount⟩)
 | none=>(false,b)):=by
 obtain ⟨b1,b2,b3,b4,b5,b6,b7⟩:=JZ.1 hb
 rw [Xk,Qx,UAA (by omega),Option.bind_some,Zg]
 rcases Ez (xs:=b.fThings) (id:=x.fId) with ⟨o,j,t1,t2,t3,t4,t5⟩ | ⟨t1,t2⟩
 ·have hg:∀ z,b.fThings.getD j z=o:=fun z=>by rw [List.getD,t4];rfl
  have hs:=(Dz b7 t2).1
  rw [Nat.sub_zero] at hs
  rw [t1,t2]
  simp only [Int.toNat_natCast,hg,SAH,Option.bind_some,hs]
  rw [TB (by simp),TB (by simp;omega)]
  cases grown o x
  ·rfl
  ·rw [FN (by rfl),TB (by simp;omega)];rfl
 ·rw [t1,t2]
  simp only
  have hw:w64 (b.fLast+1)=b.fLast+1:=w64_id (by omega) (by omega)
  rw [FN (by rfl),hw]
  cases h1:(x.fId != b.fLast+1)
  ·by_cases h2:(b.fThings.length:Int)≥8
   ·rw [decide_eq_true h2];rfl
   ·rw [decide_eq_false h2,cond_false,cond_false,TB (by simp;omega)];rfl
  ·rfl
theorem UAH {b:SBook} {r:SRec} (hb:b.fThings.length≤140737488351232) (hr:r.fNum≤9223372036854775807):Ae b r=some (NY b r):=by
 rw [Ae,Rx,QAH hr,Option.bind_some,TAA hb,Option.bind_some,NY]
 cases h1:VY b
 ·rfl
 cases h2:(LY r).2
 ·rfl
 by_cases h3:b.fCount≥10000
 ·rw [decide_eq_true h3];rfl
 obtain ⟨b1,b2,b3,b4,b5,b6,b7⟩:=JZ.1 h1
 have hz:=DAA r
 have hw:w64 (b.fCount+1)=b.fCount+1:=w64_id (by omega) (by omega)
 have hdig:=PAA (s:=b.fChain++(LY r).1) (by rw [ByteArray.size_append];omega)
 have hsz:decide (b.fChain.size+(LY r).1.size≤9223372036854775807)=true:=by rw [decide_eq_true_eq];omega
 simp only [decide_eq_false h3,Bool.not_true,Bool.or_self,cond_false,RAA (show b.fThings.length≤2932031007317 by omega),hdig,hsz,hw,Option.bind_some,cond_true]
 rcases Az h2 with ⟨hk,hc⟩ | ⟨hk,hc⟩ | ⟨hk,hc⟩ | ⟨hk,hc⟩
 ·rw [hk];rfl
 ·rw [hk];rfl
 ·rw [hk]
  simp only [show ((3:Int) == 1)=false from rfl,show ((3:Int) == 2)=false from rfl,show ((3:Int) == 3)=true from rfl,cond_true,cond_false]
  rw [TAH h1 (Ye hc).2.2.2.1,Option.bind_some]
  cases Zg b r.fThing with
  | none=>rfl
  | some p=>simp only [Bool.not_true,cond_false,hw]
 ·rw [hk]
  simp only [show ((4:Int) == 1)=false from rfl,show ((4:Int) == 2)=false from rfl,show ((4:Int) == 3)=false from rfl,show ((4:Int) == 4)=true from rfl,cond_true,cond_false]
  rw [UAA hb,Option.bind_some]
  rcases Ez (xs:=b.fThings) (id:=r.fNum) with ⟨o,j,t1,t2,t3,t4,t5⟩ | ⟨t1,t2⟩
  ·have hs:=(Dz (x:=⟨r.fNum,0,false,false,false,false,⟨#[]⟩,0⟩) b7 t2).2
   rw [Nat.sub_zero] at hs
   simp only at hs
   rw [t1,t2]
   simp only [Int.toNat_natCast]
   have e:w64 ((j:Int)+1)=((j+1:Nat):Int):=by rw [w64_id (by omega) (by omega)];rfl
   simp only [e,Int.toNat_natCast,List.drop_zero,List.take_length,hs]
   rw [FN (by simp),TB (by simp;omega),TB (by rw [List.length_take,decide_eq_true_eq];omega),TB (by simp;omega),TB (by rw [List.length_take,List.length_drop,decide_eq_true_eq];omega)]
  ·rw [t1,t2];rfl
theorem Rq {b:SBook} {l:List SRec} (hb:b.fThings.length≤2932031007317) (hl:l.length≤140737488351232) (hr:∀ r ∈ l,r.fNum≤9223372036854775807):Ce b l=some (TT b l):=by
 have key:∀ (j i m:Nat) (b:SBook),i+j=l.length→b.fThings.length≤2932031007317→Zk (m+j+1) (.c0 l (l.length:Int) (i:Int) ⟨#[]⟩ 0 0 ⟨#[]⟩ 0 b.fWord b.fTries b.fLast b.fChain b.fCount [] b.fThings)=some (TT b (l.drop i)):=by
  intro j
  induction j with
  | zero=>
   intro i m b h hb
   obtain rfl:i=l.length:=by omega
   rw [Zk]
   simp only [Xp]
   rw [FN (by simp),List.drop_length];rfl
  | succ j ih=>
   intro i m b h hb
   have hi:i<l.length:=by omega
   have e:w64 ((i:Int)+1)=((i+1:Nat):Int):=by rw [w64_id (by omega) (by omega)];rfl
   rw [show m+(j+1)+1=(m+j+1)+1 by omega,Zk]
   simp only [Xp,e,Int.toNat_natCast,getD_at hi]
   rw [TB (by simp;omega),TB (by simp;omega),UAH (by show b.fThings.length≤_;omega) (hr _ (List.getElem_mem hi)),Option.bind_some,drop_at hi,TT]
   cases h2:(NY b l[i]).2
   ·rfl
   ·have h3:=IAA h2
    rw [FN (by rfl),cond_true]
    exact ih (i+1) m (NY b l[i]).1 (by omega) (by omega)
 obtain ⟨m,hm⟩:∃ m,gas=m+l.length+1:=⟨gas - (l.length+1),by have:=gas_lt (n:=l.length+1) (by omega);omega⟩
 rw [Ce,Ux,RAA hb,Option.bind_some,hm]
 exact key l.length 0 m b (by omega) hb
theorem VAA {b:SBook} {l:List SRec} (hb:b.fThings.length≤2932031007317) (hl:l.length≤140737488351232):Ee b l=some (TT b l):=by
 have key:∀ (j i m:Nat) (b:SBook),i+j=l.length→b.fThings.length≤2932031007317→Dl (m+j+1) (.c0 l (i:Int) ⟨#[]⟩ 0 0 ⟨#[]⟩ 0 b.fWord b.fTries b.fLast b.fChain b.fCount [] b.fThings)=some (TT b (l.drop i)):=by
  intro j
  induction j with
  | zero=>
   intro i m b h hb
   obtain rfl:i=l.length:=by omega
   rw [Dl]
   simp only [Zp]
   rw [FN (by simp),List.drop_length];rfl
  | succ j ih=>
   intro i m b h hb
   have hi:i<l.length:=by omega
   have e:w64 ((i:Int)+1)=((i+1:Nat):Int):=by rw [w64_id (by omega) (by omega)];rfl
   rw [show m+(j+1)+1=(m+j+1)+1 by omega,Dl]
   simp only [Zp,e,Int.toNat_natCast,getD_at hi]
   rw [TB (by simp;omega),TB (by simp;omega),HAA (by show b.fThings.length≤_;omega),Option.bind_some,drop_at hi,TT]
   cases h2:(NY b l[i]).2
   ·rfl
   ·have h3:=IAA h2
    rw [FN (by rfl),cond_true]
    exact ih (i+1) m (NY b l[i]).1 (by omega) (by omega)
 obtain ⟨m,hm⟩:∃ m,gas=m+l.length+1:=⟨gas - (l.length+1),by have:=gas_lt (n:=l.length+1) (by omega);omega⟩
 rw [Ee,Vx,BAA hb,Option.bind_some,hm]
 exact key l.length 0 m b (by omega) hb
theorem VAH:Ok (Il ()) fun r=>r.length=12∧∀ x ∈ r,0≤x∧x<10000:=by
 have key:∀ (j i m:Nat) (a h:Int) (l:List Int),i+j=12→0≤a→l.length=i→(∀ x ∈ l,0≤x∧x<10000)→Ok (Hl (m+j+1) (.c0 (i:Int) a h l)) fun r=>r.length=12∧∀ x ∈ r,0≤x∧x<10000:=by
  intro j
  induction j with
  | zero=>
   intro i m a h l hi ha hl hx
   rw [Hl];simp only [Aq]
   rw [FN (by rw [decide_eq_false_iff_not];omega)]
   exact Ok.ret ⟨by omega,hx⟩
  | succ j ih=>
   intro i m a h l hi ha hl hx
   have hw:w64 ((i:Int)+1)=((i+1:Nat):Int):=by rw [w64_id (by omega) (by omega)];rfl
   rw [show m+(j+1)+1=(m+j+1)+1 from rfl,Hl]
   simp only [Aq,hw]
   rw [TB (by rw [decide_eq_true_eq];omega)]
   refine Ok.bind (SY (c:=⟨(),a,h⟩) ha) fun n hn=>Ok.chk (by rw [decide_eq_true_eq];omega) (ih (i+1) m _ _ _ (by omega) hn.2 (by rw [List.length_append,List.length_singleton];omega) fun x hx2=>?_)
   rcases List.mem_append.1 hx2 with hx2 | hx2
   ·exact hx x hx2
   ·rw [List.mem_singleton] at hx2;rw [hx2];exact ⟨hn.1.1,hn.1.2.1 (by omega)⟩
 rw [Il,Xx]
 refine Ok.bind Ny fun c hc=>Ok.bind (Xe hc) fun r hr=>?_
 obtain ⟨m,hm⟩:∃ m,gas=m+12+1:=⟨gas - 13,rfl⟩
 rw [hm]
 exact key 12 0 m _ _ [] rfl hr.2.2 rfl fun x hx=>by cases hx
def Em (x y:SThing):Bool:=(x.fId == y.fId) && ((x.fKind == y.fKind) && ((x.fHidden == y.fHidden) && ((x.fFixed == y.fFixed) && ((x.fSigns == y.fSigns) && ((x.fWraps == y.fWraps) && (((ByteArray.toList x.fValue) == (ByteArray.toList y.fValue)) && ((x.fNext == y.fNext) && true)))))))
theorem WAH (x y:SThing):((x.fId == y.fId) && ((x.fKind == y.fKind) && ((x.fHidden == y.fHidden) && ((x.fFixed == y.fFixed) && ((x.fSigns == y.fSigns) && ((x.fWraps == y.fWraps) && (((ByteArray.toList x.fValue) == (ByteArray.toList y.fValue)) && ((x.fNext == y.fNext) && true))))))))=Em x y:=rfl
theorem XAH {x y:SThing}:Em x y=true↔x=y:=by
 simp only [Em,Bool.and_eq_true,beq_iff_eq]
 constructor
 ·rintro ⟨h1,h2,h3,h4,h5,h6,h7,h8,_⟩
  have h7':x.fValue=y.fValue:=by
   have:=toList_inj (s:=x.fValue) (t:=y.fValue)
   rw [h7] at this
   simpa using this
  cases x;cases y;simp_all
 ·rintro rfl;simp
def Aa:List SThing→List SThing→Bool
 | [],[]=>true
 | x::a,y::b=>Em x y && Aa a b
 | _,_=>false
theorem Iz:∀ {a b:List SThing},Aa a b=true↔a=b
 | [],[]=>by simp [Aa]
 | x::a,y::b=>by simp [Aa,XAH,Iz]
 | [],_::_=>by simp [Aa]
 | _::_,[]=>by simp [Aa]
theorem YAH {a b:List SThing} (h:a.length≠b.length):Aa a b=false:=by
 cases h2:Aa a b
 ·rfl
 ·rw [Iz] at h2;subst h2;exact absurd rfl h
def Tq (a b:SBook):Bool:=(a.fWord.toList == b.fWord.toList) && ((a.fTries == b.fTries) && (Aa a.fThings b.fThings && ((a.fLast == b.fLast) && ((a.fChain.toList == b.fChain.toList) && (a.fCount == b.fCount)))))
theorem ZAH {a b:SBook}:Tq a b=true↔a=b:=by
 simp only [Tq,Bool.and_eq_true,toList_inj,decide_eq_true_eq,beq_iff_eq,Iz]
 constructor
 ·rintro ⟨h1,h2,h3,h4,h5,h6⟩
  cases a;cases b;simp_all
 ·rintro rfl;simp
theorem AAI {a b:SBook} (h0:a.fThings.length≤140737488351232):Nl a b=some (Tq a b):=by
 rw [Nl,Zx,Tq]
 by_cases hl:a.fThings.length=b.fThings.length
 ·have key:∀ (j i m:Nat),i+j=a.fThings.length→Ll (m+j+1) (.c0 (i:Int) a b)=some (Aa (a.fThings.drop i) (b.fThings.drop i)):=by
   intro j
   induction j with
   | zero=>
    intro i m h
    obtain rfl:i=a.fThings.length:=by omega
    rw [Ll]
    simp only [Bq]
    rw [FN (by simp),List.drop_length,hl,List.drop_length];rfl
   | succ j ih=>
    intro i m h
    have hi:i<a.fThings.length:=by omega
    have hi2:i<b.fThings.length:=by omega
    have e:w64 ((i:Int)+1)=((i+1:Nat):Int):=by rw [w64_id (by omega) (by omega)];rfl
    rw [show m+(j+1)+1=(m+j+1)+1 by omega,Ll]
    simp only [Bq,e,Int.toNat_natCast,getD_at hi,getD_at hi2,WAH,ih (i+1) m (by omega)]
    rw [TB (by simp;omega),TB (by simp;omega),TB (by simp;omega),drop_at hi,drop_at hi2,Aa]
    cases Em a.fThings[i] b.fThings[i] <;> rfl
  obtain ⟨m,hm⟩:∃ m,gas=m+a.fThings.length+1:=⟨gas - (a.fThings.length+1),by have:=gas_lt (n:=a.fThings.length+1) (by omega);omega⟩
  have hz:=key a.fThings.length 0 m (by omega)
  rw [List.drop_zero,List.drop_zero,show ((0:Nat):Int)=0 from rfl] at hz
  have h1:((a.fThings.length:Int) != (b.fThings.length:Int))=false:=by rw [bne_eq_false_iff_eq];omega
  rw [h1,hm,hz]
  simp only [bne]
  cases a.fWord.toList == b.fWord.toList <;> cases a.fTries == b.fTries <;> cases Aa a.fThings b.fThings <;> cases a.fLast == b.fLast <;> cases a.fChain.toList == b.fChain.toList <;> cases a.fCount == b.fCount <;> rfl
 ·have h1:((a.fThings.length:Int) != (b.fThings.length:Int))=true:=by rw [bne_iff_ne];omega
  rw [h1,YAH hl]
  simp only [bne]
  cases a.fWord.toList == b.fWord.toList <;> cases a.fTries == b.fTries <;> cases a.fLast == b.fLast <;> cases a.fChain.toList == b.fChain.toList <;> cases a.fCount == b.fCount <;> rfl
def chainB (b:SBook) (l:List SRec):Bool:=(TT KY l).2 && (((TT KY l).1.fChain.toList == b.fChain.toList) && ((TT KY l).1.fCount == b.fCount))
theorem Jz {b:SBook} {l:List SRec} (hl:l.length≤140737488351232) (hr:∀ r ∈ l,r.fNum≤9223372036854775807):Ol b l=some (chainB b l):=by
 rw [Ol,Ey,QAA,Option.bind_some,Rq (Nat.zero_le _) hl hr,Option.bind_some,chainB]
 cases (TT KY l).2
 ·rfl
 ·cases (TT KY l).1.fChain.toList == b.fChain.toList <;> rfl
theorem BAI:Ok (Ql ()) fun r=>r.2.length≤12∧∀ x ∈ r.2,x.fNum≤9223372036854775807:=by
 rw [Ql,Hy]
 refine Ok.bind Ny fun c hc=>Ok.bind (MAA hc) fun l hl=>?_
 have h12:=hl.1.2
 have hnum:=hl.1.1.2.2
 refine Ok.cond (fun h=>?_) fun _=>Ok.ret ⟨h12,hnum⟩
 rw [decide_eq_true_eq] at h
 refine Ok.bind (Cc hl.2) fun a ha=>Ok.cond (fun _=>?_) fun _=>Ok.ret ⟨h12,hnum⟩
 rw [List.nil_append]
 refine Ok.chk (by rw [decide_eq_true_eq];omega) (Ok.bind (SY ha) fun n hn=>?_)
 have h1:=hn.1.2.1 (by omega)
 have h0:=hn.1.1
 refine Ok.bind (Q9 hn.2 fun x hx=>by have:=LAA hl.1.1.2.1 x hx;omega) fun r hr=>Ok.chk (by simp;omega) (Ok.ret ⟨?_,fun x hx=>?_⟩)
 ·show (l.1.set n.1.toNat r.1).length≤12
  rw [List.length_set];exact h12
 ·rcases List.mem_or_eq_of_mem_set hx with hx | hx
  ·exact hnum x hx
  ·rw [hx];exact hr.1
theorem CAI {b:SBook} {l:List SRec} (hl:l.length≤140737488351232):Rl b l=some (chainB b l):=by
 rw [Rl,Jy,Wy,Option.bind_some,VAA (Nat.zero_le _) hl,Option.bind_some,chainB]
 cases (TT KY l).2
 ·rfl
 ·cases (TT KY l).1.fChain.toList == b.fChain.toList <;> rfl
theorem law_FnChainsOfBooks (x0:Unit):laws_FnChainsOfBooks x0=some true:=by
 rw [laws_FnChainsOfBooks,Ky,XAD,Option.bind_some]
 cases decide ((codeL.length:Int) > 1048576)
 ·rw [cond_false]
  obtain ⟨l,h1,hl,b,hd⟩:=KAG
  obtain ⟨ps,h2,hp,hpx⟩:=VAH
  obtain ⟨⟨e,more⟩,h3,hm1,hm2⟩:=BAI
  have hm1:more.length≤12:=hm1
  have hm2:∀ x ∈ more,x.fNum≤9223372036854775807:=hm2
  have he:=hd.1
  have hnum:=hd.2.2
  have hcnt:=KAA (b:=KY) (l:=l) (by rw [he])
  rw [he] at hcnt
  have hcnt:b.fCount=0+(l.length:Int):=hcnt
  have hbl:=(JZ.1 hd.2.1).2.2.2.1
  have hp0:ps.getD 0 0=ps[0]'(by omega):=getD_at (by omega) 0
  have hw:w64 ((l.length:Int)+1)=(l.length:Int)+1:=w64_id (by omega) (by omega)
  have ht:=tmod_lt (a:=ps[0]'(by omega)) (n:=(l.length:Int)+1) (hpx _ (List.getElem_mem _)).1 (by omega)
  have hall:chainB b l=true:=by rw [chainB,he];simp
  have hshort:l.length≠0→chainB b (l.take (l.length - 1))=false:=fun h0=>by
   cases hc:(TT KY (l.take (l.length - 1))).2
   ·rw [chainB,hc];rfl
   ·have h4:=KAA (b:=KY) hc
    rw [List.length_take] at h4
    have h4:(TT KY (l.take (l.length - 1))).1.fCount=0+((min (l.length - 1) l.length:Nat):Int):=h4
    rw [chainB,show ((TT KY (l.take (l.length - 1))).1.fCount == b.fCount)=false by rw [beq_eq_false_iff_ne];omega,Bool.and_false,Bool.and_false]
  rw [h1,h2]
  simp only [Option.bind_some,QAA,Wy,Rq (b:=KY) (l:=l) (Nat.zero_le _) (by omega) hnum,VAA (b:=KY) (l:=l) (Nat.zero_le _) (by omega),he,hw,show (0:Int).toNat=0 from rfl,hp0]
  generalize (ps[0]'(by omega)).tmod ((l.length:Int)+1)=q at ht
  obtain ⟨K,rfl⟩:∃ K:Nat,q=(K:Int):=⟨q.toNat,by omega⟩
  have hc:=HAG (b:=KY) (l:=l) K (by rw [he])
  have hcl:=(JZ.1 (GAG JAA hc)).2.2.2.1
  have happ:=Gz (b:=KY) (l:=l.take K) (k:=l.drop K)
  rw [List.take_append_drop,he,hc,cond_true] at happ
  rw [TB (by rw [hp];rfl),TB (by simp;omega),TB (by simp;omega),List.drop_zero,Nat.sub_zero,Int.toNat_natCast,List.take_of_length_le (l:=l.drop K) (by rw [List.length_drop];omega)]
  rw [Rq (b:=KY) (l:=l.take K) (Nat.zero_le _) (by rw [List.length_take];omega) (fun r hr=>hnum r (List.mem_of_mem_take hr)),Option.bind_some,TB (by simp;omega),Rq (l:=l.drop K) (by omega) (by rw [List.length_drop];omega) (fun r hr=>hnum r (List.mem_of_mem_drop hr)),Option.bind_some,←happ,hc]
  simp only [Bool.not_true,cond_false,AAI (a:=b) (b:=b) (by omega),ZAH.2 rfl,Option.bind_some,Jz (b:=b) (l:=l) (by omega) hnum,hall,TAA (b:=b) (by omega),hd.2.1,h3,Jz (b:=e) (l:=more) (by omega) hm2,CAI (b:=e) (l:=more) (by omega),beq_self_eq_true,cond_true]
  by_cases h0:l.length=0
  ·rw [TB (by rw [h0];rfl)]
  ·have hw2:w64 ((l.length:Int) - 1)=((l.length - 1:Nat):Int):=by rw [w64_id (by omega) (by omega)];omega
   rw [FN (by rw [beq_eq_false_iff_ne];omega),hw2,TB (by rw [Bool.and_eq_true,decide_eq_true_eq,decide_eq_true_eq];omega),Int.toNat_natCast,Nat.sub_zero,Jz (b:=b) (by rw [List.length_take];omega) (fun r hr=>hnum r (List.mem_of_mem_take hr)),hshort h0];rfl
 ·rfl
end Go.Proofs.YtjfkbidckphneaaDoor.G
