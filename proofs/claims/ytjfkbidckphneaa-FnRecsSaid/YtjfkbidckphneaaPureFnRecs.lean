/- The plain law of FnRecs: whatever the arguments, it answers true. Conditions: what is read is in reach. Part 1 of 1. -/
import Derived.Test.YtjfkbidckphneaaFFnRecs
import Derived.Test.YtjfkbidckphneaaOpens
import Derived.Test.YtjfkbidckphneaaPBase
namespace Go.Proofs.Ytjfkbidckphneaa.G
open Go Go.Ev
set_option linter.unusedVariables false
set_option linter.unusedSimpArgs false
set_option linter.unusedSectionVars false
variable [PC]
theorem p_laws_big (u:Unit):laws_big u=some (decide ((codeL.length:Int) > 1048576)):=rfl
def bs (s:ByteArray):List Int:=s.data.toList.map fun b=>(b.toNat:Int)
theorem bs_len (s:ByteArray):(bs s).length=s.size:=by unfold bs;rw [List.length_map];rfl
theorem bs_byte {s:ByteArray} {n:Int} (h:n ∈ bs s):0≤n∧n≤255:=by
 unfold bs at h;rw [List.mem_map] at h;obtain ⟨b,_,rfl⟩:=h
 have:=b.toNat_lt;omega
theorem bs_append (a b:ByteArray):bs (a++b)=bs a++bs b:=by simp [bs]
theorem ofBytes_bs (s:ByteArray):ofBytes (bs s)=s:=by
 cases s;simp [ofBytes,bs,Function.comp_def]
theorem bs_inj {s t:ByteArray} (h:bs s=bs t):s=t:=by rw [←ofBytes_bs s,h,ofBytes_bs]
theorem bs_ofBytes {l:List Int} (h:∀ n,n ∈ l→0≤n∧n≤255):bs (ofBytes l)=l:=by
 simp only [bs,ofBytes,List.map_map]
 conv=>rhs;rw [←List.map_id l]
 apply List.map_congr_left
 intro n hn
 obtain ⟨h1,h2⟩:=h n hn
 simp only [Function.comp,UInt8.toNat_ofNat',id]
 omega
theorem bt_eq {s:ByteArray} {i:Nat} (h:i<s.size):bt s (i:Int)=(bs s)[i]'(by rw [bs_len];exact h):=by
 simp only [bt,Int.toNat_natCast,h,dite_true,bs,List.getElem_map]
 rfl
theorem bt_byte (s:ByteArray) (i:Int):0≤bt s i∧bt s i≤255:=by
 unfold bt;split
 ·have:=(s[i.toNat]).toNat_lt;omega
 ·omega
theorem bs_extract (s:ByteArray) (i j:Nat):bs (s.extract i j)=((bs s).take j).drop i:=by
 simp only [bs,ByteArray.data_extract,Array.toList_extract,List.extract_eq_take_drop,List.map_take,List.map_drop]
 rw [List.drop_take]
theorem cond_t {α:Type} {c:Bool} {a b:α} (h:c=true):(bif c then a else b)=a:=by rw [h];rfl
theorem cond_f {α:Type} {c:Bool} {a b:α} (h:c=false):(bif c then a else b)=b:=by rw [h];rfl
theorem bt_getD {s:ByteArray} {i:Nat} (h:i<s.size):bt s (i:Int)=(bs s).getD i 0:=by rw [bt_eq h,getD_at]
theorem bt_at {s:ByteArray} {i:Int} {j:Nat} (e:i=(j:Int)) (h:j<s.size):bt s i=(bs s).getD j 0:=by rw [e,bt_getD h]
theorem getD_app1 {α:Type} {a b:List α} {i:Nat} (h:i<a.length) (d:α):(a++b).getD i d=a.getD i d:=by simp [List.getD,List.getElem?_append_left h]
theorem getD_app2 {α:Type} {a b:List α} {i:Nat} (h:a.length≤i) (d:α):(a++b).getD i d=b.getD (i - a.length) d:=by simp [List.getD,List.getElem?_append_right h]
theorem set_app {α:Type} {a b:List α} {x y:α} {i:Nat} (h:a.length=i):(a++x::b).set i y=a++y::b:=by
 rw [List.set_append_right _ _ (by omega),h,Nat.sub_self];rfl
theorem beq_t {a b:Nat} (h:a=b):Nat.beq a b=true:=by subst h;exact Nat.beq_refl _
theorem int_ex {P:Int→Prop} (n:Int) (h:0≤n) (k:∀ m:Nat,n=(m:Int)→P (m:Int)):P n:=by
 have:=k n.toNat (by omega)
 rwa [show ((n.toNat:Nat):Int)=n by omega] at this
theorem bs_nil:bs (⟨#[]⟩:ByteArray)=[]:=rfl
def Byt (l:List Int):Prop:=∀ n,n ∈ l→0≤n∧n≤255
theorem byt_getD {l:List Int} (h:Byt l) (i:Nat):0≤l.getD i 0∧l.getD i 0≤255:=by
 by_cases hi:i<l.length
 ·rw [getD_at hi];exact h _ (List.getElem_mem hi)
 ·have:l.getD i 0=0:=by simp [List.getD,List.getElem?_eq_none (Nat.le_of_not_lt hi)]
  omega
theorem byt_bs (s:ByteArray):Byt (bs s):=fun _ h=>bs_byte h
theorem bytesOf_bs (s:ByteArray):bytesOf s=bs s:=rfl
theorem getD_set {α:Type} {l:List α} {i:Nat} (h:i<l.length) (y d:α):(l.set i y).getD i d=y:=by simp [List.getD,h]
def Ok {α:Type} (x:Option α) (Q:α→Prop):Prop:=∃ a,x=some a∧Q a
theorem Ok.bind {α β:Type} {x:Option α} {f:α→Option β} {Q:α→Prop} {R:β→Prop} (h:Ok x Q) (k:∀ a,Q a→Ok (f a) R):Ok (x.bind f) R:=by
 obtain ⟨a,rfl,h⟩:=h;exact k a h
theorem Ok.cond {α:Type} {c:Bool} {a b:Option α} {R:α→Prop} (h1:c=true→Ok a R) (h2:c=false→Ok b R):Ok (bif c then a else b) R:=by
 cases c
 ·exact h2 rfl
 ·exact h1 rfl
theorem Ok.chk {α:Type} {c:Bool} {a:Option α} {R:α→Prop} (hc:c=true) (h1:Ok a R):Ok (bif c then a else none) R:=by rw [hc];exact h1
theorem Ok.ret {α:Type} {a:α} {R:α→Prop} (h:R a):Ok (some a) R:=⟨a,rfl,h⟩
theorem Ok.eq {α:Type} {x:Option α} {a:α} (h:x=some a):Ok x (fun b=>b=a):=⟨a,h,rfl⟩
theorem Ok.mono {α:Type} {x:Option α} {Q R:α→Prop} (h:Ok x Q) (k:∀ a,Q a→R a):Ok x R:=by obtain ⟨a,h1,h2⟩:=h;exact ⟨a,h1,k a h2⟩
def Cur (c:SL01Cur):Prop:=0≤c.fI
theorem w64_r (n:Int) : -9223372036854775808≤w64 n∧w64 n≤9223372036854775807:=by
 simp only [w64,IntKind.wrap,IntKind.signed,IntKind.bits]
 simp
 omega
theorem and255 (n:Int):0≤w64 ((BitVec.toNat (BitVec.ofInt (IntKind.bits IntKind.i64) n &&& BitVec.ofInt (IntKind.bits IntKind.i64) 255):Nat):Int)∧w64 ((BitVec.toNat (BitVec.ofInt (IntKind.bits IntKind.i64) n &&& BitVec.ofInt (IntKind.bits IntKind.i64) 255):Nat):Int)≤255:=by
 have h:(BitVec.ofInt (IntKind.bits IntKind.i64) n &&& BitVec.ofInt (IntKind.bits IntKind.i64) 255).toNat≤255:=by
  rw [BitVec.toNat_and]
  exact Nat.le_trans Nat.and_le_right (by decide)
 rw [w64_id (by omega) (by omega)]
 omega
theorem p_spec_l01New:Ok (spec_l01New ()) Cur:=by
 have hl:codeL.length≤140737488351232:=PC.hl
 have key:∀ (j i m:Nat) (h:Int),i+j=codeL.length→Ok (L_spec_l01New (m+j+1) (.c0 h (i:Int))) Cur:=by
  intro j
  induction j with
  | zero=>
   intro i m h hi
   rw [L_spec_l01New];simp only [B_spec_l01New]
   rw [cond_f (by simp;omega)]
   exact Ok.ret (Int.le_refl 0)
  | succ j ih=>
   intro i m h hi
   have hw:w64 ((i:Int)+1)=((i+1:Nat):Int):=by rw [w64_id (by omega) (by omega)];rfl
   rw [show m+(j+1)+1=(m+j+1)+1 from rfl,L_spec_l01New]
   simp only [B_spec_l01New,hw]
   refine Ok.cond (fun _=>Ok.cond (fun _=>?_) fun _=>Ok.ret (Int.le_refl 0)) fun _=>Ok.ret (Int.le_refl 0)
   refine Ok.chk (by simp;omega) (Ok.chk (by rw [Int.toNat_natCast];exact Nat.ble_eq_true_of_le (by omega)) (ih (i+1) m _ (by omega)))
 obtain ⟨m,hm⟩:∃ m,gas=m+codeL.length+1:=⟨gas - (codeL.length+1),by have:=gas_lt (n:=codeL.length+1) (by omega);omega⟩
 rw [spec_l01New,E_spec_l01New,hm]
 exact key codeL.length 0 m _ (Nat.zero_add _)
theorem w32_mod {n:Int}:w32 n=n % 4294967296:=by
 simp only [w32,IntKind.wrap,IntKind.signed,IntKind.bits]
 simp
theorem w32_id {n:Int} (h1:0≤n) (h2:n<4294967296):w32 n=n:=by rw [w32_mod];omega
def R32 (n:Int):Prop:=0≤n∧n<4294967296
theorem r32_w (n:Int):R32 (w32 n):=by unfold R32;rw [w32_mod];omega
theorem r32_byte {n:Int} (h:0≤n∧n≤255):R32 n:=by unfold R32;omega
def xr (x y:Int):Int:=w32 (((BitVec.toNat ((BitVec.ofInt (IntKind.bits IntKind.u32) x) ^^^ (BitVec.ofInt (IntKind.bits IntKind.u32) y))):Nat):Int)
def an (x y:Int):Int:=w32 (((BitVec.toNat ((BitVec.ofInt (IntKind.bits IntKind.u32) x) &&& (BitVec.ofInt (IntKind.bits IntKind.u32) y))):Nat):Int)
def ort (x y:Int):Int:=w32 (((BitVec.toNat ((BitVec.ofInt (IntKind.bits IntKind.u32) x) ||| (BitVec.ofInt (IntKind.bits IntKind.u32) y))):Nat):Int)
theorem xr_e (x y:Int):w32 (((BitVec.toNat ((BitVec.ofInt (IntKind.bits IntKind.u32) x) ^^^ (BitVec.ofInt (IntKind.bits IntKind.u32) y))):Nat):Int)=xr x y:=rfl
theorem an_e (x y:Int):w32 (((BitVec.toNat ((BitVec.ofInt (IntKind.bits IntKind.u32) x) &&& (BitVec.ofInt (IntKind.bits IntKind.u32) y))):Nat):Int)=an x y:=rfl
theorem ort_e (x y:Int):w32 (((BitVec.toNat ((BitVec.ofInt (IntKind.bits IntKind.u32) x) ||| (BitVec.ofInt (IntKind.bits IntKind.u32) y))):Nat):Int)=ort x y:=rfl
theorem r32_xr (x y:Int):R32 (xr x y):=r32_w _
theorem r32_an (x y:Int):R32 (an x y):=r32_w _
theorem ort_add {a b:Nat} {s:Nat} (hb:b<2 ^ s) (ha:a*2 ^ s<4294967296) (hs:b<4294967296):ort ((a*2 ^ s:Nat):Int) (b:Int)=((a*2 ^ s+b:Nat):Int):=by
 have e:a*2 ^ s ||| b=a*2 ^ s+b:=by
  have:=Nat.shiftLeft_add_eq_or_of_lt hb a
  rw [Nat.shiftLeft_eq] at this
  exact this.symm
 unfold ort
 have h3:a*2 ^ s ||| b<2 ^ 32:=Nat.or_lt_two_pow (by omega) (by omega)
 rw [BitVec.toNat_or]
 show w32 (((BitVec.ofInt 32 _).toNat ||| (BitVec.ofInt 32 _).toNat:Nat):Int)=_
 rw [BitVec.ofInt_natCast,BitVec.ofInt_natCast,BitVec.toNat_ofNat,BitVec.toNat_ofNat,Nat.mod_eq_of_lt (by omega),Nat.mod_eq_of_lt (by omega),e]
 rw [e] at h3
 exact w32_id (by omega) (by omega)
theorem xr_max {e:Int} (h:R32 e):xr (ite ((IntKind.signed IntKind.u32)=true) (-(1:Int)) (IntKind.max IntKind.u32)) e=w32 (4294967295 - e):=by
 obtain ⟨h1,h2⟩:=h
 obtain ⟨n,rfl⟩:∃ n:Nat,e=(n:Int):=⟨e.toNat,by omega⟩
 have hn:n<4294967296:=by omega
 have e1:(ite ((IntKind.signed IntKind.u32)=true) (-(1:Int)) (IntKind.max IntKind.u32))=4294967295:=by decide
 rw [e1]
 unfold xr
 show w32 (((BitVec.ofInt 32 4294967295 ^^^ BitVec.ofInt 32 (n:Int)).toNat:Nat):Int)=_
 have e2:BitVec.ofInt 32 4294967295=BitVec.allOnes 32:=by decide
 rw [e2,BitVec.ofInt_natCast,BitVec.allOnes_xor,BitVec.toNat_not,BitVec.toNat_ofNat]
 rw [w32_mod,w32_mod]
 omega
def rt (low high x:Int):Int:=x / low+x % low*high
theorem r32_rt {low high x:Int} (h:R32 x) (hl:0<low) (hh:0<high) (hlh:low*high=4294967296):R32 (rt low high x):=by
 unfold R32 rt at *
 have h1:0≤x / low:=Int.ediv_nonneg h.1 (by omega)
 have h2:0≤x % low:=Int.emod_nonneg _ (by omega)
 have h3:x % low<low:=Int.emod_lt_of_pos _ hl
 have h4:x / low<high:=Int.ediv_lt_of_lt_mul hl (by rw [Int.mul_comm,hlh];exact h.2)
 have h5:0≤x % low*high:=Int.mul_nonneg h2 (by omega)
 have h6:x % low*high≤(low - 1)*high:=Int.mul_le_mul_of_nonneg_right (by omega) (by omega)
 have h7:(low - 1)*high=low*high - high:=by rw [Int.sub_mul,Int.one_mul]
 omega
theorem rt_or {x:Int} (h:R32 x) (n:Nat) (hn:0<n) (hn2:n<32):ort (w32 (x*2 ^ (32 - n))) (x / 2 ^ n)=rt (2 ^ n) (2 ^ (32 - n)) x:=by
 obtain ⟨h1,h2⟩:=h
 obtain ⟨y,rfl⟩:∃ y:Nat,x=(y:Int):=⟨x.toNat,by omega⟩
 have hy:y<4294967296:=by omega
 have e0:(4294967296:Nat)=2 ^ n*2 ^ (32 - n):=by rw [←Nat.pow_add,show n+(32 - n)=32 by omega]
 have e1:w32 ((y:Int)*2 ^ (32 - n))=((y % 2 ^ n*2 ^ (32 - n):Nat):Int):=by
  rw [w32_mod]
  have h5:((y:Int)*2 ^ (32 - n))=((y*2 ^ (32 - n):Nat):Int):=by push_cast;rfl
  have h6:y*2 ^ (32 - n) % 4294967296=y % 2 ^ n*2 ^ (32 - n):=by rw [e0,Nat.mul_mod_mul_right]
  rw [h5,←h6]
  omega
 have e2:((y:Int) / 2 ^ n)=((y / 2 ^ n:Nat):Int):=by push_cast;rfl
 have hp:0<2 ^ n:=Nat.two_pow_pos n
 have hp2:0<2 ^ (32 - n):=Nat.two_pow_pos _
 have hm:y % 2 ^ n<2 ^ n:=Nat.mod_lt _ hp
 have hd:y / 2 ^ n<2 ^ (32 - n):=Nat.div_lt_of_lt_mul (by rw [←e0];exact hy)
 rw [e1,e2,ort_add hd (by rw [e0];exact Nat.mul_lt_mul_of_pos_right hm hp2) (Nat.lt_of_le_of_lt (Nat.div_le_self _ _) hy)]
 unfold rt
 push_cast
 omega
def sg0 (x:Int):Int:=xr (xr (rt 128 33554432 x) (rt 262144 16384 x)) (x / 8)
def sg1 (x:Int):Int:=xr (xr (rt 131072 32768 x) (rt 524288 8192 x)) (x / 1024)
def ep1 (x:Int):Int:=xr (xr (rt 64 67108864 x) (rt 2048 2097152 x)) (rt 33554432 128 x)
def ep0 (x:Int):Int:=xr (xr (rt 4 1073741824 x) (rt 8192 524288 x)) (rt 4194304 1024 x)
def nextW (w:List Int) (t:Nat):Int:=w32 (w32 (w32 (sg1 (w.getD (t - 2) 0)+w.getD (t - 7) 0)+sg0 (w.getD (t - 15) 0))+w.getD (t - 16) 0)
def sched (w:List Int):Nat→List Int
 | 0=>w
 | n+1=>sched w n++[nextW (sched w n) (16+n)]
theorem sched_len {w:List Int} (h:w.length=16) (n:Nat):(sched w n).length=16+n:=by
 induction n with
 | zero=>exact h
 | succ n ih=>simp [sched,ih];omega
theorem sched_r {w:List Int} (h:∀ x ∈ w,R32 x) (n:Nat):∀ x ∈ sched w n,R32 x:=by
 induction n with
 | zero=>exact h
 | succ n ih=>
  intro x hx
  rw [sched,List.mem_append,List.mem_singleton] at hx
  rcases hx with hx | rfl
  ·exact ih x hx
  ·exact r32_w _
theorem r_getD {l:List Int} (h:∀ x ∈ l,R32 x) (i:Nat):R32 (l.getD i 0):=by
 by_cases hi:i<l.length
 ·rw [getD_at hi];exact h _ (List.getElem_mem hi)
 ·have:l.getD i 0=0:=by simp [List.getD,List.getElem?_eq_none (Nat.le_of_not_lt hi)]
  rw [this];unfold R32;omega
structure Reg where
 a:Int
 b:Int
 c:Int
 d:Int
 e:Int
 f:Int
 g:Int
 h:Int
def Reg.ok (r:Reg):Prop:=R32 r.a∧R32 r.b∧R32 r.c∧R32 r.d∧R32 r.e∧R32 r.f∧R32 r.g∧R32 r.h
def Reg.l (r:Reg):List Int:=[r.a,r.b,r.c,r.d,r.e,r.f,r.g,r.h]
theorem Reg.l_len (r:Reg):r.l.length=8:=rfl
def t1 (r:Reg) (k w:Int):Int:=w32 (w32 (w32 (w32 (r.h+ep1 r.e)+xr (an r.e r.f) (an (w32 (4294967295 - r.e)) r.g))+k)+w)
def t2 (r:Reg):Int:=w32 (ep0 r.a+xr (xr (an r.a r.b) (an r.a r.c)) (an r.b r.c))
def rnd (r:Reg) (k w:Int):Reg:=⟨w32 (t1 r k w+t2 r),r.a,r.b,r.c,w32 (r.d+t1 r k w),r.e,r.f,r.g⟩
theorem rnd_ok {r:Reg} (h:r.ok) (k w:Int):(rnd r k w).ok:=⟨r32_w _,h.1,h.2.1,h.2.2.1,r32_w _,h.2.2.2.2.1,h.2.2.2.2.2.1,h.2.2.2.2.2.2.1⟩
def rnds (K W:List Int) (r:Reg):Nat→Reg
 | 0=>r
 | n+1=>rnd (rnds K W r n) (K.getD n 0) (W.getD n 0)
theorem rnds_ok (K W:List Int) {r:Reg} (h:r.ok) (n:Nat):(rnds K W r n).ok:=by
 induction n with
 | zero=>exact h
 | succ n ih=>exact rnd_ok ih _ _
def regAdd (s r:Reg):Reg:=⟨w32 (s.a+r.a),w32 (s.b+r.b),w32 (s.c+r.c),w32 (s.d+r.d),w32 (s.e+r.e),w32 (s.f+r.f),w32 (s.g+r.g),w32 (s.h+r.h)⟩
theorem regAdd_ok (s r:Reg):(regAdd s r).ok:=⟨r32_w _,r32_w _,r32_w _,r32_w _,r32_w _,r32_w _,r32_w _,r32_w _⟩
def keysL:List Int:=[1116352408,1899447441,3049323471,3921009573,961987163,1508970993,2453635748,2870763221,3624381080,310598401,607225278,1426881987,1925078388,2162078206,2614888103,3248222580,3835390401,4022224774,264347078,604807628,770255983,1249150122,1555081692,1996064986,2554220882,2821834349,2952996808,3210313671,3336571891,3584528711,113926993,338241895,666307205,773529912,1294757372,1396182291,1695183700,1986661051,2177026350,2456956037,2730485921,2820302411,3259730800,3345764771,3516065817,3600352804,4094571909,275423344,430227734,506948616,659060556,883997877,958139571,1322822218,1537002063,1747873779,1955562222,2024104815,2227730452,2361852424,2428436474,2756734187,3204031479,3329325298]
def be4 (a b c d:Int):Int:=a*16777216+b*65536+c*256+d
def wordAt (l:List Int) (i:Nat):Int:=be4 (l.getD (4*i) 0) (l.getD (4*i+1) 0) (l.getD (4*i+2) 0) (l.getD (4*i+3) 0)
def wordsN (l:List Int) (n:Nat):List Int:=(List.range n).map (wordAt l)
theorem wordsN_len (l:List Int) (n:Nat):(wordsN l n).length=n:=by simp [wordsN]
theorem wordsN_succ (l:List Int) (n:Nat):wordsN l (n+1)=wordsN l n++[wordAt l n]:=by simp [wordsN,List.range_succ]
theorem be4_r {a b c d:Int} (ha:0≤a∧a≤255) (hb:0≤b∧b≤255) (hc:0≤c∧c≤255) (hd:0≤d∧d≤255):R32 (be4 a b c d):=by unfold R32 be4;omega
theorem wordAt_r {l:List Int} (h:Byt l) (i:Nat):R32 (wordAt l i):=be4_r (byt_getD h _) (byt_getD h _) (byt_getD h _) (byt_getD h _)
theorem wordsN_r {l:List Int} (h:Byt l) (n:Nat):∀ x ∈ wordsN l n,R32 x:=by
 intro x hx
 simp only [wordsN,List.mem_map] at hx
 obtain ⟨i,_,rfl⟩:=hx
 exact wordAt_r h i
def comp (s:Reg) (b:List Int):Reg:=regAdd s (rnds keysL (sched (wordsN b 16) 48) s 64)
theorem comp_ok (s:Reg) (b:List Int):(comp s b).ok:=regAdd_ok _ _
def comps:Nat→Reg→List Int→Reg
 | 0,s,_=>s
 | n+1,s,b=>comps n (comp s (b.take 64)) (b.drop 64)
theorem comps_ok {s:Reg} (h:s.ok):∀ (n:Nat) (b:List Int),(comps n s b).ok:=by
 intro n
 induction n generalizing s with
 | zero=>intro b;exact h
 | succ n ih=>intro b;exact ih (comp_ok _ _) _
theorem comps_add (n m:Nat):∀ (s:Reg) (b:List Int),comps (n+m) s b=comps m (comps n s b) (b.drop (64*n)):=by
 induction n with
 | zero=>intro s b;simp [comps]
 | succ n ih=>
  intro s b
  rw [Nat.add_right_comm,comps,comps,ih,List.drop_drop]
  congr 2
  omega
theorem comps_app (n:Nat):∀ (s:Reg) (b c:List Int),64*n≤b.length→comps n s (b++c)=comps n s b:=by
 induction n with
 | zero=>intro s b c _;rfl
 | succ n ih=>
  intro s b c h
  rw [comps,comps,List.take_append_of_le_length (by omega),List.drop_append_of_le_length (by omega),ih _ _ _ (by simp;omega)]
def four (x:Int):List Int:=[x / 16777216,x / 65536 % 256,x / 256 % 256,x % 256]
theorem four_byt {x:Int} (h:R32 x):Byt (four x):=by
 intro n hn
 unfold R32 at h
 simp only [four,List.mem_cons,List.not_mem_nil,or_false] at hn
 rcases hn with rfl | rfl | rfl | rfl <;> omega
def bytesL (ws:List Int):List Int:=ws.flatMap four
theorem bytesL_len (ws:List Int):(bytesL ws).length=4*ws.length:=by
 induction ws with
 | nil=>rfl
 | cons w ws ih=>
  rw [show bytesL (w::ws)=four w++bytesL ws from rfl,List.length_append,ih]
  simp only [four,List.length_cons,List.length_nil];omega
theorem bytesL_byt {ws:List Int} (h:∀ x ∈ ws,R32 x):Byt (bytesL ws):=by
 intro n hn
 simp only [bytesL,List.mem_flatMap] at hn
 obtain ⟨x,hx,hn⟩:=hn
 exact four_byt (h x hx) n hn
theorem bytesL_app (a b:List Int):bytesL (a++b)=bytesL a++bytesL b:=by simp [bytesL]
theorem be4_four {x:Int} (h:R32 x):be4 (x / 16777216) (x / 65536 % 256) (x / 256 % 256) (x % 256)=x:=by unfold R32 at h;unfold be4;omega
theorem wordAt_bytesL:∀ {ws:List Int} (_:∀ x ∈ ws,R32 x) {i:Nat} (hi:i<ws.length),wordAt (bytesL ws) i=ws[i]
 | w::ws,h,0,_=>by
  have:=be4_four (h w (List.mem_cons_self ..))
  simpa [wordAt,bytesL,four] using this
 | w::ws,h,i+1,hi=>by
  have ih:=wordAt_bytesL (ws:=ws) (fun x hx=>h x (List.mem_cons_of_mem _ hx)) (i:=i) (by simpa using hi)
  rw [List.getElem_cons_succ,←ih]
  have e:∀ j,(bytesL (w::ws)).getD (j+4) 0=(bytesL ws).getD j 0:=fun j=>by simp [bytesL,four,List.getD]
  unfold wordAt
  rw [show 4*(i+1)=4*i+4 by omega,show 4*i+4+1=(4*i+1)+4 by omega,show 4*i+4+2=(4*i+2)+4 by omega,show 4*i+4+3=(4*i+3)+4 by omega,e,e,e,e]
theorem wordsN_bytesL {ws:List Int} (h:∀ x ∈ ws,R32 x):wordsN (bytesL ws) ws.length=ws:=by
 apply List.ext_getElem
 ·rw [wordsN_len]
 ·intro i h1 h2
  simp only [wordsN,List.getElem_map,List.getElem_range]
  exact wordAt_bytesL h h2
theorem Reg.l_r {r:Reg} (h:r.ok):∀ x ∈ r.l,R32 x:=by
 intro x hx
 simp only [Reg.l,List.mem_cons,List.not_mem_nil,or_false] at hx
 obtain ⟨h1,h2,h3,h4,h5,h6,h7,h8⟩:=h
 rcases hx with rfl | rfl | rfl | rfl | rfl | rfl | rfl | rfl <;> assumption
def reg0:Reg:=⟨1779033703,3144134277,1013904242,2773480762,1359893119,2600822924,528734635,1541459225⟩
theorem reg0_ok:reg0.ok:=by unfold Reg.ok R32 reg0;decide
def big8 (n:Int):List Int:=[0,0,0,n / 4294967296 % 256,n / 16777216 % 256,n / 65536 % 256,n / 256 % 256,n % 256]
def endL (n:Nat):List Int:=128::(List.replicate ((119 - n % 64) % 64) 0++big8 (8*(n:Int)))
theorem endL_len (n:Nat):(endL n).length=9+(119 - n % 64) % 64:=by simp [endL,big8];omega
theorem end_whole (n:Nat):(n+(endL n).length) % 64=0:=by rw [endL_len];omega
theorem endL_byt (n:Nat):Byt (endL n):=by
 intro x hx
 simp only [endL,big8,List.mem_cons,List.mem_append,List.mem_replicate,List.not_mem_nil,or_false] at hx
 omega
def digL (b:List Int):List Int:=bytesL (comps ((b.length+(endL b.length).length) / 64) reg0 (b++endL b.length)).l
def dig (s:ByteArray):ByteArray:=ofBytes (digL (bs s))
theorem digL_len (b:List Int):(digL b).length=32:=by rw [digL,bytesL_len];rfl
theorem digL_byt (b:List Int):Byt (digL b):=bytesL_byt (Reg.l_r (comps_ok reg0_ok _ _))
theorem dig_size (s:ByteArray):(dig s).size=32:=by rw [dig,ofBytes_size,digL_len]
theorem bs_dig (s:ByteArray):bs (dig s)=digL (bs s):=bs_ofBytes (digL_byt _)
theorem four_e {x:Int} (h:R32 x):[w8 (w32 (x.tdiv 16777216)),w8 ((w32 (x.tdiv 65536)).tmod 256),w8 ((w32 (x.tdiv 256)).tmod 256),w8 (x.tmod 256)]=four x:=by
 obtain ⟨h1,h2⟩:=h
 rw [Int.tdiv_eq_ediv_of_nonneg h1,Int.tdiv_eq_ediv_of_nonneg h1,Int.tdiv_eq_ediv_of_nonneg h1,Int.tmod_eq_emod_of_nonneg h1]
 rw [w32_id (n:=x / 16777216) (by omega) (by omega),w32_id (n:=x / 65536) (by omega) (by omega),w32_id (n:=x / 256) (by omega) (by omega)]
 rw [Int.tmod_eq_emod_of_nonneg (by omega),Int.tmod_eq_emod_of_nonneg (by omega)]
 simp only [four,w8_mod,List.cons.injEq,and_true]
 omega
theorem p_spec_l05Bytes {ws:List Int} (h:∀ x ∈ ws,R32 x) (hl:ws.length≤1000000000000):spec_l05Bytes ws=some (ofBytes (bytesL ws)):=by
 have key:=loopN (A:=Unit) (n:=ws.length) (Lp:=L_spec_l05Bytes) (st:=fun i _=>.c0 ws (i:Int) (bytesL (ws.take i))) (Inv:=fun _ _=>True) (out:=fun _ _=>some (ofBytes (bytesL ws)))
  (fun m _ _=>by
   simp only [L_spec_l05Bytes,B_spec_l05Bytes]
   rw [cond_f (by simp),List.take_length])
  (fun m i _ hi _=>.inr ⟨(),by
   have e:w64 ((i:Int)+1)=((i+1:Nat):Int):=by rw [w64_id (by omega) (by omega)];rfl
   simp only [L_spec_l05Bytes,B_spec_l05Bytes,e,Int.toNat_natCast]
   rw [cond_t (by simp;omega),cond_t (by simp;omega),cond_t (by rw [bytesL_len,List.length_take];simp;omega)]
   rw [getD_at hi,four_e (h _ (List.getElem_mem hi)),take_at hi,bytesL_app]
   simp [bytesL],trivial,rfl⟩)
 exact key gas 0 () (Nat.zero_le _) (gas_lt (by omega)) trivial
def hash0:SHasher:=⟨ofBytes (bytesL reg0.l),⟨#[]⟩,0⟩
theorem p_spec_HasherNew:spec_HasherNew=some hash0:=by
 have h:=p_spec_l05Bytes (ws:=reg0.l) (Reg.l_r reg0_ok) (by decide)
 have e:spec_l05First=some reg0.l:=rfl
 simp only [spec_HasherNew,E_spec_HasherNew,e,h,Option.bind_some]
 rfl
def inR (x a b:Int):Bool:=decide (a≤x) && decide (x≤b)
theorem inR_iff {x a b:Int}:inR x a b=true↔a≤x∧x≤b:=by simp [inR]
theorem p_spec_l01In (x a b:Int):spec_l01In x a b=some (inR x a b):=by
 show (bif decide (a≤x) then some (decide (x≤b)) else some false)=some (inR x a b)
 unfold inR;cases decide (a≤x) <;> rfl
theorem p_spec_HasherOk {h:SHasher} (h1:h.fState.size=32) (h2:h.fRest.size<64) (h3:0≤h.fCount∧h.fCount≤1000000000) (h4:h.fCount % 64=(h.fRest.size:Int)):spec_HasherOk h=some true:=by
 have e:inR h.fCount 0 1000000000=true:=by rw [inR_iff];omega
 simp only [spec_HasherOk,E_spec_HasherOk,p_spec_l01In,Option.bind_some,e]
 rw [cond_t (by simp;omega),cond_t (by simp;omega),cond_true,Int.tmod_eq_emod_of_nonneg h3.1,h4]
 simp
theorem p_spec_l05Word {s:ByteArray} {i:Nat} (h:4*i+4≤s.size) (hs:s.size≤9000000000000000000):spec_l05Word s ((4*i:Nat):Int)=some (wordAt (bs s) i):=by
 have hb:=byt_bs s
 have e1:w64 (((4*i:Nat):Int)+1)=((4*i+1:Nat):Int):=by rw [w64_id (by omega) (by omega)];rfl
 have e2:w64 (((4*i:Nat):Int)+2)=((4*i+2:Nat):Int):=by rw [w64_id (by omega) (by omega)];rfl
 have e3:w64 (((4*i:Nat):Int)+3)=((4*i+3:Nat):Int):=by rw [w64_id (by omega) (by omega)];rfl
 simp only [spec_l05Word,E_spec_l05Word,e1,e2,e3]
 rw [cond_t (by simp;omega),cond_t (by simp;omega),cond_t (by simp;omega),cond_t (by simp;omega)]
 rw [bt_getD (by omega),bt_getD (by omega),bt_getD (by omega),bt_getD (by omega)]
 have b0:=byt_getD hb (4*i)
 have b1:=byt_getD hb (4*i+1)
 have b2:=byt_getD hb (4*i+2)
 have b3:=byt_getD hb (4*i+3)
 unfold wordAt be4
 simp only [w32_mod]
 congr 1
 omega
theorem p_spec_l05Words {s:ByteArray} (hs:s.size≤1000000000000):spec_l05Words s=some (wordsN (bs s) (s.size / 4)):=by
 have key:=loopN (A:=Unit) (n:=s.size / 4) (Lp:=L_spec_l05Words) (st:=fun i _=>.c0 s ((4*i:Nat):Int) (wordsN (bs s) i)) (Inv:=fun _ _=>True) (out:=fun _ _=>some (wordsN (bs s) (s.size / 4)))
  (fun m _ _=>by
   simp only [L_spec_l05Words,B_spec_l05Words]
   rw [w64_id (by omega) (by omega),cond_f (by simp;omega)])
  (fun m i _ hi _=>.inr ⟨(),by
   have e:w64 (((4*i:Nat):Int)+4)=((4*(i+1):Nat):Int):=by rw [w64_id (by omega) (by omega)];omega
   simp only [L_spec_l05Words,B_spec_l05Words,e,p_spec_l05Word (s:=s) (i:=i) (by omega) (by omega),Option.bind_some,wordsN_len,wordsN_succ]
   rw [cond_t (by simp;omega),cond_t (by simp;omega)],trivial,rfl⟩)
 exact key gas 0 () (Nat.zero_le _) (gas_lt (by omega)) trivial
theorem p_spec_l05Right {x low high:Int} (h:R32 x) (hl:0<low) (hh:0<high) (hlh:low*high=4294967296):spec_l05Right x low high=some (rt low high x):=by
 have hr:=r32_rt h hl hh hlh
 obtain ⟨h1,h2⟩:=h
 have e0:(!(low == 0))=true:=by simp;omega
 have d1:0≤x / low:=Int.ediv_nonneg h1 (by omega)
 have d2:0≤x % low*high:=Int.mul_nonneg (Int.emod_nonneg _ (by omega)) (by omega)
 unfold R32 rt at hr
 simp only [spec_l05Right,E_spec_l05Right,e0,cond_true,Int.tdiv_eq_ediv_of_nonneg h1,Int.tmod_eq_emod_of_nonneg h1]
 rw [w32_id d1 (by omega),w32_id d2 (by omega),w32_id (by omega) (by omega)]
 rfl
theorem p_spec_sg1 {x:Int} (h:R32 x):spec_l05S x 131072 524288 1024 true=some (sg1 x):=by
 have e1:w32 (w32 ((2147483648:Int).tdiv 131072)*2)=32768:=by decide
 have e2:w32 (w32 ((2147483648:Int).tdiv 524288)*2)=8192:=by decide
 have e3:w32 (x.tdiv 1024)=x / 1024:=by
  obtain ⟨h1,h2⟩:=h
  rw [Int.tdiv_eq_ediv_of_nonneg h1,w32_id (by omega) (by omega)]
 simp only [spec_l05S,E_spec_l05S,e1,e2,e3,p_spec_l05Right h (low:=131072) (high:=32768) (by omega) (by omega) (by omega),p_spec_l05Right h (low:=524288) (high:=8192) (by omega) (by omega) (by omega),Option.bind_some,xr_e]
 rfl
theorem p_spec_sg0 {x:Int} (h:R32 x):spec_l05S x 128 262144 8 true=some (sg0 x):=by
 have e1:w32 (w32 ((2147483648:Int).tdiv 128)*2)=33554432:=by decide
 have e2:w32 (w32 ((2147483648:Int).tdiv 262144)*2)=16384:=by decide
 have e3:w32 (x.tdiv 8)=x / 8:=by
  obtain ⟨h1,h2⟩:=h
  rw [Int.tdiv_eq_ediv_of_nonneg h1,w32_id (by omega) (by omega)]
 simp only [spec_l05S,E_spec_l05S,e1,e2,e3,p_spec_l05Right h (low:=128) (high:=33554432) (by omega) (by omega) (by omega),p_spec_l05Right h (low:=262144) (high:=16384) (by omega) (by omega) (by omega),Option.bind_some,xr_e]
 rfl
theorem p_spec_ep1 {x:Int} (h:R32 x):spec_l05S x 64 2048 33554432 false=some (ep1 x):=by
 have e1:w32 (w32 ((2147483648:Int).tdiv 64)*2)=67108864:=by decide
 have e2:w32 (w32 ((2147483648:Int).tdiv 2048)*2)=2097152:=by decide
 have e3:w32 (w32 ((2147483648:Int).tdiv 33554432)*2)=128:=by decide
 simp only [spec_l05S,E_spec_l05S,e1,e2,e3,p_spec_l05Right h (low:=64) (high:=67108864) (by omega) (by omega) (by omega),p_spec_l05Right h (low:=2048) (high:=2097152) (by omega) (by omega) (by omega),p_spec_l05Right h (low:=33554432) (high:=128) (by omega) (by omega) (by omega),Option.bind_some,xr_e]
 rfl
theorem p_spec_ep0 {x:Int} (h:R32 x):spec_l05S x 4 8192 4194304 false=some (ep0 x):=by
 have e1:w32 (w32 ((2147483648:Int).tdiv 4)*2)=1073741824:=by decide
 have e2:w32 (w32 ((2147483648:Int).tdiv 8192)*2)=524288:=by decide
 have e3:w32 (w32 ((2147483648:Int).tdiv 4194304)*2)=1024:=by decide
 simp only [spec_l05S,E_spec_l05S,e1,e2,e3,p_spec_l05Right h (low:=4) (high:=1073741824) (by omega) (by omega) (by omega),p_spec_l05Right h (low:=8192) (high:=524288) (by omega) (by omega) (by omega),p_spec_l05Right h (low:=4194304) (high:=1024) (by omega) (by omega) (by omega),Option.bind_some,xr_e]
 rfl
theorem regAdd_at (s r:Reg):∀ i,i<8→(regAdd s r).l.getD i 0=w32 (s.l.getD i 0+r.l.getD i 0)
 | 0,_=>rfl | 1,_=>rfl | 2,_=>rfl | 3,_=>rfl | 4,_=>rfl | 5,_=>rfl | 6,_=>rfl | 7,_=>rfl
 | n+8,h=>by omega
theorem gas_add (n:Nat) (h:n<9223372036854775807):∃ m,gas=m+n:=⟨gas - n,by have:=gas_lt h;omega⟩
theorem l05Round3 (s r:Reg):∀ (j i m:Nat),i+j=8→L_spec_l05Round (m+j+1) (.c3 s.l (i:Int) r.l ((regAdd s r).l.take i))=some (regAdd s r).l:=by
 intro j
 induction j with
 | zero=>
  intro i m h
  obtain rfl:i=8:=by omega
  simp only [L_spec_l05Round,B_spec_l05Round]
  rfl
 | succ j ih=>
  intro i m h
  have e:w64 ((i:Int)+1)=((i+1:Nat):Int):=by rw [w64_id (by omega) (by omega)];rfl
  have hl:∀ q:Reg,q.l.length=8:=fun _=>rfl
  rw [show m+(j+1)+1=(m+j+1)+1 by omega]
  simp only [L_spec_l05Round,B_spec_l05Round,e,Int.toNat_natCast]
  rw [cond_t (by simp;omega),cond_t (by simp [hl];omega),cond_t (by simp [hl];omega),cond_t (by simp [hl];omega)]
  have h3:=ih (i+1) m (by omega)
  rw [take_at (by rw [hl];omega),←getD_at (by rw [hl];omega) 0,regAdd_at _ _ _ (by omega)] at h3
  exact h3
def shL:Nat→List Int→List Int
 | 0,v=>v
 | i+1,v=>shL i (v.set (i+1) (v.getD i 0))
theorem l05Round2 (t o W:List Int) (k T1 T2:Int) (hk:0≤k∧k<64):∀ (i m:Nat) (v:List Int),i<8→v.length=8→L_spec_l05Round (m+i+1) (.c2 t o k T1 T2 (i:Int) W v)=L_spec_l05Round m (.c1 t o (k+1) W (((shL i v).set 4 (w32 ((shL i v).getD 4 0+T1))).set 0 (w32 (T1+T2)))):=by
 intro i
 induction i with
 | zero=>
  intro m v _ hl
  have e:w64 (k+1)=k+1:=w64_id (by omega) (by omega)
  simp only [L_spec_l05Round,B_spec_l05Round,e]
  rw [cond_f (by simp),cond_t (by simp [hl]),cond_t (by simp [hl]),cond_t (by simp [hl])]
  rfl
 | succ i ih=>
  intro m v hi hl
  have e:w64 (((i+1:Nat):Int) - 1)=(i:Int):=by rw [w64_id (by omega) (by omega)];omega
  rw [show m+(i+1)+1=(m+i+1)+1 by omega]
  rw [L_spec_l05Round]
  simp only [B_spec_l05Round,e,Int.toNat_natCast]
  rw [cond_t (by simp;try omega),cond_t (by simp [hl];try omega),cond_t (by simp [hl];try omega),ih m _ (by omega) (by simp [hl])]
  rfl
theorem l05Round1 (t W:List Int) (r:Reg) (hr:r.ok) (hW:∀ x ∈ W,R32 x) (hWl:W.length=64) (i m:Nat) (hi:i<64) :
  L_spec_l05Round (m+9) (.c1 t keysL (i:Int) W r.l)=L_spec_l05Round m (.c1 t keysL ((i:Int)+1) W (rnd r (keysL.getD i 0) (W.getD i 0)).l):=by
 obtain ⟨h1,h2,h3,h4,h5,h6,h7,h8⟩:=hr
 have hk:keysL.length=64:=rfl
 have g (q:Reg):q.l.getD 0 0=q.a∧q.l.getD 1 0=q.b∧q.l.getD 2 0=q.c∧q.l.getD 4 0=q.e∧q.l.getD 5 0=q.f∧q.l.getD 6 0=q.g∧q.l.getD 7 0=q.h:=⟨rfl,rfl,rfl,rfl,rfl,rfl,rfl⟩
 obtain ⟨g0,g1,g2,g4,g5,g6,g7⟩:=g r
 have hl:r.l.length=8:=rfl
 have z4:(4:Int).toNat=4:=rfl
 have z5:(5:Int).toNat=5:=rfl
 have z6:(6:Int).toNat=6:=rfl
 have z7:(7:Int).toNat=7:=rfl
 have z0:(0:Int).toNat=0:=rfl
 have z1:(1:Int).toNat=1:=rfl
 have z2:(2:Int).toNat=2:=rfl
 rw [show m+9=(m+7+1)+1 by omega,L_spec_l05Round]
 simp only [B_spec_l05Round,z0,z1,z2,z4,z5,z6,z7,g0,g1,g2,g4,g5,g6,g7,hl,hk,hWl,p_spec_ep1 h5,p_spec_ep0 h1,Option.bind_some,xr_e,an_e,Int.toNat_natCast]
 rw [cond_t (by simp;omega),cond_t (by simp),cond_t (by simp),cond_t (by simp),cond_t (by simp),cond_t (by simp;omega),cond_t (by simp;omega),cond_t (by simp),cond_t (by simp),cond_t (by simp),cond_t (by simp),cond_t (by simp),cond_t (by simp),cond_t (by simp)]
 exact l05Round2 t keysL W (i:Int) (t1 r (keysL.getD i 0) (W.getD i 0)) (t2 r) (by omega) 7 m r.l (by omega) rfl
theorem l05Round1s (s:Reg) (hs:s.ok) (W:List Int) (hW:∀ x ∈ W,R32 x) (hWl:W.length=64):∀ (j i m:Nat),i+j=64→L_spec_l05Round (m+9*j+10) (.c1 s.l keysL (i:Int) W (rnds keysL W s i).l)=some (regAdd s (rnds keysL W s 64)).l:=by
 intro j
 induction j with
 | zero=>
  intro i m h
  obtain rfl:i=64:=by omega
  rw [show m+9*0+10=(m+8+1)+1 by omega,L_spec_l05Round]
  simp only [B_spec_l05Round]
  rw [cond_f (by simp)]
  exact l05Round3 s _ 8 0 m (by omega)
 | succ j ih=>
  intro i m h
  rw [show m+9*(j+1)+10=(m+9*j+10)+9 by omega,l05Round1 s.l W _ (rnds_ok keysL W hs i) hW hWl i _ (by omega)]
  exact ih (i+1) m (by omega)
theorem l05Round0 (s:Reg) (hs:s.ok) (w:List Int) (hw:∀ x ∈ w,R32 x) (hwl:w.length=16):∀ (j i m:Nat),i+j=48→L_spec_l05Round (m+9*64+10+1+j) (.c0 s.l keysL ((16+i:Nat):Int) (sched w i))=some (regAdd s (rnds keysL (sched w 48) s 64)).l:=by
 intro j
 induction j with
 | zero=>
  intro i m h
  obtain rfl:i=48:=by omega
  rw [show m+9*64+10+1+0=(m+9*64+10)+1 by omega,L_spec_l05Round]
  simp only [B_spec_l05Round]
  rw [cond_f (by simp),cond_t (by simp [Reg.l])]
  exact l05Round1s s hs _ (sched_r hw 48) (sched_len hwl 48) 64 0 m (by omega)
 | succ j ih=>
  intro i m h
  have hl:=sched_len hwl i
  have hr:=sched_r hw i
  have e2:w64 (((16+i:Nat):Int) - 2)=((16+i - 2:Nat):Int):=by rw [w64_id (by omega) (by omega)];omega
  have e7:w64 (((16+i:Nat):Int) - 7)=((16+i - 7:Nat):Int):=by rw [w64_id (by omega) (by omega)];omega
  have e15:w64 (((16+i:Nat):Int) - 15)=((16+i - 15:Nat):Int):=by rw [w64_id (by omega) (by omega)];omega
  have e16:w64 (((16+i:Nat):Int) - 16)=((16+i - 16:Nat):Int):=by rw [w64_id (by omega) (by omega)];omega
  have e1:w64 (((16+i:Nat):Int)+1)=((16+(i+1):Nat):Int):=by rw [w64_id (by omega) (by omega)];omega
  rw [show m+9*64+10+1+(j+1)=(m+9*64+10+1+j)+1 by omega,L_spec_l05Round]
  simp only [B_spec_l05Round,e1,e2,e7,e15,e16,Int.toNat_natCast,hl,p_spec_sg1 (r_getD hr _),p_spec_sg0 (r_getD hr _),Option.bind_some]
  rw [cond_t (by simp;omega),cond_t (by simp;omega),cond_t (by simp;omega),cond_t (by simp;omega),cond_t (by simp;omega),cond_t (by simp;omega)]
  exact ih (i+1) m (by omega)
theorem p_spec_l05Round {s:Reg} (hs:s.ok) {b:ByteArray} (hb:b.size=64):spec_l05Round s.l keysL b=some (comp s (bs b)).l:=by
 have hr:=wordsN_r (byt_bs b) 16
 obtain ⟨m,hm⟩:∃ m,gas=m+9*64+10+1+48:=⟨gas - 635,by have:=gas_lt (n:=635) (by omega);omega⟩
 have h:=l05Round0 s hs _ hr (wordsN_len _ 16) 48 0 m (by omega)
 have e0:((16+0:Nat):Int)=16:=rfl
 rw [e0,show sched (wordsN (bs b) 16) 0=wordsN (bs b) 16 from rfl] at h
 rw [spec_l05Round,E_spec_l05Round,p_spec_l05Words (s:=b) (by omega),Option.bind_some,hb,hm]
 exact h
theorem keys_e:spec_l05K=some keysL:=rfl
theorem blk_e (b:List Int) (i:Nat):(b.take (64*i+64)).drop (64*i)=(b.drop (64*i)).take 64:=by
 rw [List.drop_take];congr 1;omega
theorem comps_last (i:Nat) (s:Reg) (b:List Int):comps (i+1) s b=comp (comps i s b) ((b.drop (64*i)).take 64):=by
 rw [comps_add i 1];rfl
theorem words_state {r:Reg} (h:r.ok):spec_l05Words (ofBytes (bytesL r.l))=some r.l:=by
 have hs:(ofBytes (bytesL r.l)).size=32:=by rw [ofBytes_size,bytesL_len];rfl
 rw [p_spec_l05Words (by omega),hs,bs_ofBytes (bytesL_byt (Reg.l_r h))]
 exact congrArg some (wordsN_bytesL (Reg.l_r h))
theorem p_spec_HashMore0 {s:ByteArray} (hs:s.size≤1000000000):spec_HashMore hash0 s=some ⟨ofBytes (bytesL (comps (s.size / 64) reg0 (bs s)).l),s.extract (64*(s.size / 64)) s.size,(s.size:Int)⟩:=by
 have e0:spec_HasherOk hash0=some true:=p_spec_HasherOk (by rw [hash0,ofBytes_size,bytesL_len];rfl) (by decide) (by decide) (by decide)
 have e1:((⟨#[]⟩:ByteArray)++s)=s:=bs_inj (by rw [bs_append];rfl)
 have key:=loopN (A:=Unit) (n:=s.size / 64) (Lp:=L_spec_HashMore) (st:=fun i _=>.c0 s s ((64*i:Nat):Int) hash0 (⟨(⟨#[]⟩:ByteArray),(⟨#[]⟩:ByteArray),(0:Int)⟩:SHasher) (comps i reg0 (bs s)).l keysL) (Inv:=fun _ _=>True)
  (out:=fun _ _=>some ⟨ofBytes (bytesL (comps (s.size / 64) reg0 (bs s)).l),s.extract (64*(s.size / 64)) s.size,(s.size:Int)⟩)
  (fun m _ _=>by
   have hw:w64 (hash0.fCount+(s.size:Int))=(s.size:Int):=by
    show w64 ((0:Int)+(s.size:Int))=_
    rw [Int.zero_add,w64_id (by omega) (by omega)]
   rw [L_spec_HashMore]
   simp only [B_spec_HashMore,hw,Int.toNat_natCast]
   rw [w64_id (by omega) (by omega),cond_f (by simp;omega),p_spec_l05Bytes (Reg.l_r (comps_ok reg0_ok _ _)) (by simp [Reg.l]),Option.bind_some,cond_t (by simp;omega)])
  (fun m i _ hi _=>.inr ⟨(),by
   have e:w64 (((64*i:Nat):Int)+64)=((64*(i+1):Nat):Int):=by rw [w64_id (by omega) (by omega)];omega
   rw [L_spec_HashMore]
   simp only [B_spec_HashMore,e,Int.toNat_natCast]
   rw [cond_t (by simp;omega),cond_t (by simp;omega),p_spec_l05Round (comps_ok reg0_ok _ _) (by simp;omega),Option.bind_some,bs_extract,show 64*(i+1)=64*i+64 by omega,blk_e,←comps_last],trivial,rfl⟩)
 rw [spec_HashMore,E_spec_HashMore,e0,Option.bind_some,cond_f (by rfl)]
 have hw:w64 (hash0.fCount+(s.size:Int))=(s.size:Int):=by
  show w64 ((0:Int)+(s.size:Int))=_
  rw [Int.zero_add,w64_id (by omega) (by omega)]
 rw [hw,cond_f (by simp;omega),show hash0.fState=ofBytes (bytesL reg0.l) from rfl,words_state reg0_ok,Option.bind_some,keys_e,Option.bind_some,show hash0.fRest=⟨#[]⟩ from rfl,e1]
 rw [cond_t (by (have:(⟨#[]⟩:ByteArray).size=0:=rfl);simp only [this,decide_eq_true_eq];omega)]
 exact key gas 0 () (Nat.zero_le _) (gas_lt (by omega)) trivial
def bigL (b:Int):Nat→List Int
 | 0=>[]
 | i+1=>(b / 256 ^ i % 256)::bigL b i
def bigCost:Nat→Nat
 | 0=>0
 | i+1=>bigCost i+(i+2)
theorem div_step (x:Int) (j:Nat):x / 256 / 256 ^ j=x / 256 ^ (j+1):=by
 rw [Int.ediv_ediv_of_nonneg (by omega)]
 congr 1
 rw [Int.pow_succ,Int.mul_comm]
theorem hend2 (h:SHasher) (b:Int):∀ (j k i m:Nat) (x:Int) (t:List Int),k+j=i→i≤7→0≤x→x≤9223372036854775807→t.length≤1000→
  L_spec_HashEnd (m+j+1) (.c2 b (i:Int) x (k:Int) h t)=L_spec_HashEnd m (.c1 b ((i:Int) - 1) h (t++[x / 256 ^ j % 256])):=by
 intro j
 induction j with
 | zero=>
  intro k i m x t hk hi hx hx2 ht
  have e:w64 ((i:Int) - 1)=(i:Int) - 1:=w64_id (by omega) (by omega)
  have e2:w8 (x.tmod 256)=x % 256:=by rw [Int.tmod_eq_emod_of_nonneg hx,w8_id (by omega) (by omega)]
  rw [L_spec_HashEnd]
  simp only [B_spec_HashEnd,e,e2]
  rw [cond_f (by simp;omega),cond_t (by simp;omega),Int.pow_zero,Int.ediv_one]
 | succ j ih=>
  intro k i m x t hk hi hx hx2 ht
  have e:w64 ((k:Int)+1)=((k+1:Nat):Int):=by rw [w64_id (by omega) (by omega)];rfl
  have e2:w64 (x.tdiv 256)=x / 256:=by rw [Int.tdiv_eq_ediv_of_nonneg hx,w64_id (by omega) (by omega)]
  rw [show m+(j+1)+1=(m+j+1)+1 by omega,L_spec_HashEnd]
  simp only [B_spec_HashEnd,e,e2]
  rw [cond_t (by simp;omega),ih (k+1) i m (x / 256) t (by omega) hi (by omega) (by omega) ht,div_step]
theorem hend1 (h:SHasher) (b:Int) (hb:0≤b) (hb2:b≤9223372036854775807):∀ (i m:Nat) (t:List Int),i≤8→t.length+i≤900→L_spec_HashEnd (m+bigCost i) (.c1 b ((i:Int) - 1) h t)=L_spec_HashEnd m (.c1 b (-1) h (t++bigL b i)):=by
 intro i
 induction i with
 | zero=>intro m t _ _;simp [bigCost,bigL]
 | succ i ih=>
  intro m t hi ht
  rw [bigCost,show m+(bigCost i+(i+2))=(m+bigCost i)+i+1+1 by omega,L_spec_HashEnd,show ((i+1:Nat):Int) - 1=(i:Int) by omega]
  simp only [B_spec_HashEnd]
  rw [cond_t (by simp),show (0:Int)=((0:Nat):Int) from rfl,hend2 h b i 0 i _ b t (by omega) (by omega) hb hb2 (by omega),ih m _ (by omega) (by simp;omega)]
  simp [bigL]
theorem bigL_big8 {b:Int} (h:0≤b) (h2:b<1099511627776):bigL b 8=big8 b:=by
 simp only [bigL,big8,List.cons.injEq,and_true]
 omega
theorem hend3 (r:Reg) (hr:r.ok) (t:List Int) (ht:Byt t) (n:Nat) (hn:t.length=64*n) (hn2:n≤100):∀ (j i m:Nat),i+j=n→L_spec_HashEnd (m+j+1) (.c3 ((64*i:Nat):Int) t (comps i r t).l keysL)=some (ofBytes (bytesL (comps n r t).l)):=by
 intro j
 induction j with
 | zero=>
  intro i m h
  obtain rfl:i=n:=by omega
  rw [L_spec_HashEnd]
  simp only [B_spec_HashEnd]
  rw [cond_f (by simp;omega),p_spec_l05Bytes (Reg.l_r (comps_ok hr _ _)) (by simp [Reg.l]),Option.bind_some]
 | succ j ih=>
  intro i m h
  have e:w64 (((64*i:Nat):Int)+64)=((64*(i+1):Nat):Int):=by rw [w64_id (by omega) (by omega)];omega
  have hl:((t.drop (64*i)).take (64*(i+1) - 64*i)).length=64:=by rw [List.length_take,List.length_drop];omega
  have hby:Byt ((t.drop (64*i)).take (64*(i+1) - 64*i)):=fun x hx=>ht x (List.mem_of_mem_drop (List.mem_of_mem_take hx))
  rw [show m+(j+1)+1=(m+j+1)+1 by omega,L_spec_HashEnd]
  simp only [B_spec_HashEnd,e,Int.toNat_natCast]
  rw [cond_t (by simp;omega),cond_t (by simp;omega),p_spec_l05Round (comps_ok hr _ _) (by rw [ofBytes_size,hl]),Option.bind_some,bs_ofBytes hby,show 64*(i+1) - 64*i=64 by omega,←comps_last]
  exact ih (i+1) m (by omega)
theorem hend0 (h:SHasher) (r:List Int) (hr:r.length<64):∀ (j i m:Nat),i+j=(119 - r.length) % 64→L_spec_HashEnd (m+j+1) (.c0 h (r++128::List.replicate i 0))=L_spec_HashEnd m (.c1 (w64 (8*h.fCount)) 7 h (r++128::List.replicate ((119 - r.length) % 64) 0)):=by
 intro j
 induction j with
 | zero=>
  intro i m hi
  rw [L_spec_HashEnd]
  simp only [B_spec_HashEnd]
  rw [cond_f (by rw [Int.tmod_eq_emod_of_nonneg (by omega)];simp;omega),show i=(119 - r.length) % 64 by omega]
 | succ j ih=>
  intro i m hi
  rw [show m+(j+1)+1=(m+j+1)+1 by omega,L_spec_HashEnd]
  simp only [B_spec_HashEnd]
  rw [cond_t (by rw [Int.tmod_eq_emod_of_nonneg (by omega)];simp;omega),cond_t (by simp;omega)]
  have e:(r++128::List.replicate i (0:Int))++[0]=r++128::List.replicate (i+1) 0:=by
   rw [List.replicate_succ'];simp
  rw [e]
  exact ih (i+1) m (by omega)
theorem p_spec_HashEnd {r:Reg} (hr:r.ok) {s:ByteArray} {n:Nat} (hs:s.size=n % 64) (hn:n≤1000000000):spec_HashEnd ⟨ofBytes (bytesL r.l),s,(n:Int)⟩=some (ofBytes (bytesL (comps ((s.size+(endL n).length) / 64) r (bs s++endL n)).l)):=by
 have e0:spec_HasherOk ⟨ofBytes (bytesL r.l),s,(n:Int)⟩=some true:=p_spec_HasherOk (by rw [ofBytes_size,bytesL_len];rfl) (by simp only;omega) (by simp only;omega) (by simp only;omega)
 have hl:=bs_len s
 obtain ⟨m,hm⟩:∃ m,gas=((m+((s.size+(endL n).length) / 64)+1+1+bigCost 8)+((119 - (bs s).length) % 64)+1):=⟨gas - (((s.size+(endL n).length) / 64)+1+1+bigCost 8+((119 - (bs s).length) % 64)+1),by
  have:=gas_lt (n:=1000) (by omega)
  have h2:=endL_len n
  have h3:bigCost 8=44:=rfl
  omega⟩
 have hw:w64 (8*(n:Int))=8*(n:Int):=w64_id (by omega) (by omega)
 have hrep:(bs s++128::List.replicate ((119 - (bs s).length) % 64) 0)++bigL (8*(n:Int)) 8=bs s++endL n:=by
  rw [bigL_big8 (by omega) (by omega),endL,hl,hs,show (119 - n % 64) % 64=(119 - n % 64) % 64 from rfl]
  simp
 rw [spec_HashEnd,E_spec_HashEnd,e0,Option.bind_some,cond_f (by rfl),cond_t (by simp;omega),bytesOf_bs,cond_t (by rw [hl];simp;omega),hm]
 have h0:=hend0 ⟨ofBytes (bytesL r.l),s,(n:Int)⟩ (bs s) (by omega) ((119 - (bs s).length) % 64) 0 (m+((s.size+(endL n).length) / 64)+1+1+bigCost 8) (by omega)
 rw [List.replicate_zero] at h0
 rw [h0,show (7:Int)=((8:Nat):Int) - 1 from rfl]
 simp only [hw]
 rw [hend1 _ _ (by omega) (by omega) 8 _ _ (by omega) (by simp;omega),hrep,L_spec_HashEnd]
 simp only [B_spec_HashEnd]
 rw [cond_f (by simp),words_state hr,Option.bind_some,keys_e,Option.bind_some]
 have hb:Byt (bs s++endL n):=fun x hx=>by
  rcases List.mem_append.1 hx with hx | hx
  ·exact byt_bs s x hx
  ·exact endL_byt n x hx
 have hlen:(bs s++endL n).length=64*((s.size+(endL n).length) / 64):=by
  have:=end_whole n
  rw [List.length_append,hl]
  omega
 exact hend3 r hr _ hb _ hlen (by have:=endL_len n;omega) ((s.size+(endL n).length) / 64) 0 m (by omega)
theorem dig_split (b:List Int):comps ((b.length+(endL b.length).length) / 64) reg0 (b++endL b.length)=comps ((b.length % 64+(endL b.length).length) / 64) (comps (b.length / 64) reg0 b) (b.drop (64*(b.length / 64))++endL b.length):=by
 rw [show (b.length+(endL b.length).length) / 64=b.length / 64+(b.length % 64+(endL b.length).length) / 64 by omega,comps_add,comps_app _ _ _ _ (by omega),List.drop_append_of_le_length (by omega)]
theorem p_spec_DigestOf {s:ByteArray} (hs:s.size≤1000000000):spec_DigestOf s=some (dig s):=by
 have h1:(s.extract (64*(s.size / 64)) s.size).size=s.size % 64:=by simp;omega
 have h:=p_spec_HashEnd (comps_ok reg0_ok (s.size / 64) (bs s)) (s:=s.extract (64*(s.size / 64)) s.size) h1 hs
 rw [bs_extract,h1,List.take_of_length_le (by rw [bs_len];omega)] at h
 rw [spec_DigestOf,E_spec_DigestOf,p_spec_HasherNew,Option.bind_some,p_spec_HashMore0 hs,Option.bind_some,h,Option.bind_some,dig,digL,dig_split,bs_len]
theorem p_spec_l01Long {n:Nat} {x:Int} (h:n≤1000000000):spec_l01Long (n:Int) x=some (ofBytes (List.replicate n x)):=by
 have key:∀ (j i m:Nat),i+j=n→L_spec_l01Long (m+j+1) (.c0 (n:Int) x (i:Int) (List.replicate i x++List.replicate (n - i) 0))=some (ofBytes (List.replicate n x)):=by
  intro j
  induction j with
  | zero=>
   intro i m hi
   obtain rfl:i=n:=by omega
   rw [L_spec_l01Long]
   simp only [B_spec_l01Long]
   rw [cond_f (by simp),Nat.sub_self,List.replicate_zero,List.append_nil]
  | succ j ih=>
   intro i m hi
   have e:w64 ((i:Int)+1)=((i+1:Nat):Int):=by rw [w64_id (by omega) (by omega)];rfl
   rw [show m+(j+1)+1=(m+j+1)+1 by omega,L_spec_l01Long]
   simp only [B_spec_l01Long,e,Int.toNat_natCast]
   rw [cond_t (by simp;omega),cond_t (by simp;omega),show n - i=(n - (i+1))+1 by omega,List.replicate_succ,set_app (by simp)]
   have h2:=ih (i+1) m (by omega)
   rw [List.replicate_succ' (n:=i),List.append_assoc] at h2
   exact h2
 obtain ⟨m,hm⟩:∃ m,gas=m+n+1:=⟨gas - (n+1),by have:=gas_lt (n:=n+1) (by omega);omega⟩
 have h0:=key n 0 m (by omega)
 rw [List.replicate_zero,List.nil_append,Nat.sub_zero] at h0
 rw [spec_l01Long,E_spec_l01Long,cond_t (by simp;omega),hm]
 exact h0
theorem ok_l01Long {n x:Int} (h0:0≤n) (h1:n≤1000000000):Ok (spec_l01Long n x) fun r=>(r.size:Int)=n:=by
 have h:=p_spec_l01Long (n:=n.toNat) (x:=x) (by omega)
 rw [show ((n.toNat:Nat):Int)=n by omega] at h
 exact ⟨_,h,by show ((ofBytes (List.replicate n.toNat x)).size:Int)=n;rw [ofBytes_size,List.length_replicate];omega⟩
def Vb:SBook:=⟨dig ⟨#[]⟩,0,[],0,ofBytes (List.replicate 32 0),0⟩
theorem Vs:VZ=some Vb:=by
 rw [VZ,Qh,p_spec_DigestOf (by decide),Option.bind_some,show (32:Int)=((32:Nat):Int) from rfl,p_spec_l01Long (by omega),Option.bind_some];rfl
theorem p_spec_l01Byte {c:SL01Cur} (hc:Cur c):Ok (spec_l01Byte c) fun r=>0≤r.1∧r.1≤255∧Cur r.2:=by
 have hl:codeL.length≤140737488351232:=PC.hl
 have hc:0≤c.fI:=hc
 rw [spec_l01Byte,E_spec_l01Byte]
 refine Ok.cond (fun h=>?_) fun h=>Ok.ret ⟨(and255 _).1,(and255 _).2,hc⟩
 rw [decide_eq_true_eq] at h
 refine Ok.chk (by simp;omega) (Ok.chk (Nat.ble_eq_true_of_le (by omega)) (Ok.ret ⟨(and255 _).1,(and255 _).2,?_⟩))
 show 0≤w64 (c.fI+1)
 rw [w64_id (by omega) (by omega)];omega
theorem tmod_lt {a n:Int} (ha:0≤a) (hn:0<n):0≤a.tmod n∧a.tmod n<n:=⟨Int.tmod_nonneg _ ha,Int.tmod_lt_of_pos _ hn⟩
theorem p_spec_l01Below {c:SL01Cur} {n:Int} (hc:Cur c):Ok (spec_l01Below c n) fun r=>(0≤r.1∧(0<n→r.1<n)∧(n≤0→r.1=0))∧Cur r.2:=by
 rw [spec_l01Below,E_spec_l01Below]
 refine Ok.cond (fun h=>?_) fun h=>?_
 ·rw [decide_eq_true_eq] at h
  exact Ok.ret ⟨⟨Int.le_refl 0,fun h2=>h2,fun _=>rfl⟩,hc⟩
 ·rw [decide_eq_false_iff_not] at h
  have hn:(!(n == 0))=true:=by simp;omega
  refine Ok.cond (fun _=>?_) fun _=>?_
  ·refine Ok.bind (p_spec_l01Byte hc) fun a ha=>Ok.chk hn (Ok.ret ?_)
   have:=tmod_lt ha.1 (show 0<n by omega)
   exact ⟨⟨this.1,fun _=>this.2,fun h2=>by omega⟩,ha.2.2⟩
  ·refine Ok.bind (p_spec_l01Byte hc) fun a ha=>Ok.bind (p_spec_l01Byte ha.2.2) fun b hb=>Ok.bind (p_spec_l01Byte hb.2.2) fun d hd=>Ok.bind (p_spec_l01Byte hd.2.2) fun e he=>Ok.chk hn (Ok.ret ?_)
   obtain ⟨a1,a2,_⟩:=ha
   obtain ⟨b1,b2,_⟩:=hb
   obtain ⟨d1,d2,_⟩:=hd
   obtain ⟨e1,e2,e3⟩:=he
   have hw:w64 (w64 (w64 (w64 (a.1*16777216)+w64 (b.1*65536))+w64 (d.1*256))+e.1)=a.1*16777216+b.1*65536+d.1*256+e.1:=by
    rw [w64_id (n:=a.1*16777216) (by omega) (by omega),w64_id (n:=b.1*65536) (by omega) (by omega),w64_id (n:=d.1*256) (by omega) (by omega),w64_id (n:=a.1*16777216+b.1*65536) (by omega) (by omega),w64_id (n:=a.1*16777216+b.1*65536+d.1*256) (by omega) (by omega),w64_id (by omega) (by omega)]
   have:=tmod_lt (show 0≤a.1*16777216+b.1*65536+d.1*256+e.1 by omega) (show 0<n by omega)
   simp only [hw]
   exact ⟨⟨this.1,fun _=>this.2,fun h2=>by omega⟩,e3⟩
theorem p_spec_l01PickInt {c:SL01Cur} {l:List Int} (hc:Cur c) (hl:0<l.length):Ok (spec_l01PickInt c l) fun r=>r.1 ∈ l∧Cur r.2:=by
 rw [spec_l01PickInt,E_spec_l01PickInt]
 refine Ok.bind (p_spec_l01Below hc) fun a ha=>?_
 have h1:=ha.1.2.1 (by omega)
 refine Ok.chk (by simp;omega) (Ok.ret ⟨?_,ha.2⟩)
 rw [getD_at (by omega)];exact List.getElem_mem _
theorem p_spec_l01Pick {c:SL01Cur} {l:List ByteArray} (hc:Cur c) (hl:0<l.length):Ok (spec_l01Pick c l) fun r=>r.1 ∈ l∧Cur r.2:=by
 rw [spec_l01Pick,E_spec_l01Pick]
 refine Ok.bind (p_spec_l01Below hc) fun a ha=>?_
 have h1:=ha.1.2.1 (by omega)
 refine Ok.chk (by simp;omega) (Ok.ret ⟨?_,ha.2⟩)
 rw [getD_at (by omega)];exact List.getElem_mem _
theorem p_spec_l01Once {c:SL01Cur} {n:Int} (hc:Cur c):Ok (spec_l01Once c n) fun r=>Cur r.2:=by
 rw [spec_l01Once,E_spec_l01Once]
 exact Ok.bind (p_spec_l01Below hc) fun a ha=>Ok.ret ha.2
theorem p_spec_l01Text {c:SL01Cur} {n:Int} (hc:Cur c) (h0:0≤n):Ok (spec_l01Text c n) fun r=>(r.1.size:Int)=min n 5000∧Cur r.2:=by
 have key:∀ (j i m:Nat) (N:Nat) (a b:Int) (out:List Int),i+j=N→N≤5000→out.length=i→0≤a→Ok (L_spec_l01Text (m+j+1) (.c0 (N:Int) (i:Int) a b out)) fun r=>r.1.size=N∧Cur r.2:=by
  intro j
  induction j with
  | zero=>
   intro i m N a b out hi hN ho ha
   rw [L_spec_l01Text];simp only [B_spec_l01Text]
   rw [cond_f (by simp;omega)]
   exact Ok.ret ⟨by rw [ofBytes_size];omega,ha⟩
  | succ j ih=>
   intro i m N a b out hi hN ho ha
   have hw:w64 ((i:Int)+1)=((i+1:Nat):Int):=by rw [w64_id (by omega) (by omega)];rfl
   rw [show m+(j+1)+1=(m+j+1)+1 from rfl,L_spec_l01Text]
   simp only [B_spec_l01Text,hw]
   rw [cond_t (by simp;omega)]
   exact Ok.bind (p_spec_l01Byte (c:=⟨(),a,b⟩) ha) fun r hr=>Ok.chk (by simp;omega) (ih (i+1) m N _ _ _ (by omega) hN (by simp [ho]) hr.2.2)
 rw [spec_l01Text,E_spec_l01Text]
 have run:∀ N:Nat,N≤5000→Ok (L_spec_l01Text gas (.c0 (N:Int) 0 c.fI c.fH [])) fun r=>r.1.size=N∧Cur r.2:=fun N hN=>by
  obtain ⟨m,hm⟩:∃ m,gas=m+N+1:=⟨gas - (N+1),by have:=gas_lt (n:=N+1) (by omega);omega⟩
  rw [hm]
  exact key N 0 m N _ _ [] (Nat.zero_add _) hN rfl hc
 refine Ok.cond (fun h=>?_) fun h=>?_
 ·rw [decide_eq_true_eq] at h
  exact (run 5000 (Nat.le_refl _)).mono fun r hr=>⟨by omega,hr.2⟩
 ·rw [decide_eq_false_iff_not] at h
  have:=run n.toNat (by omega)
  rw [show ((n.toNat:Nat):Int)=n by omega] at this
  exact this.mono fun r hr=>⟨by omega,hr.2⟩
def thingOk (x:SThing):Bool:=inR x.fId 1 1000 && inR x.fKind 1 3 && inR x.fNext 0 16 && ((x.fKind == 2) || ((x.fNext == 0) && !x.fSigns)) && ((x.fKind == 1) || !x.fWraps) && (bif x.fKind == 3 then decide ((x.fValue.size:Int)≤100) else (x.fValue.size:Int) == 32)
theorem p_spec_ThingOk (x:SThing):spec_ThingOk x=some (thingOk x):=by
 simp only [spec_ThingOk,E_spec_ThingOk,p_spec_l01In,Option.bind_some,thingOk,bne]
 cases inR x.fId 1 1000 <;> cases inR x.fKind 1 3 <;> cases inR x.fNext 0 16 <;> cases (x.fKind == 2) <;> cases (x.fKind == 1) <;> cases (x.fKind == 3) <;> cases (x.fNext == 0) <;> cases x.fSigns <;> cases x.fWraps <;> rfl
theorem thingOk_kind {x:SThing} (h:thingOk x=true):1≤x.fKind∧x.fKind≤3∧1≤x.fId∧x.fId≤1000∧0≤x.fNext∧x.fNext≤16∧x.fValue.size≤100:=by
 unfold thingOk at h
 simp only [Bool.and_eq_true] at h
 obtain ⟨⟨⟨⟨⟨h1,h2⟩,h3⟩,_⟩,_⟩,h4⟩:=h
 rw [inR_iff] at h1 h2 h3
 refine ⟨h2.1,h2.2,h1.1,h1.2,h3.1,h3.2,?_⟩
 cases hk:x.fKind == 3
 ·rw [hk] at h4;simp at h4;omega
 ·rw [hk] at h4;simp at h4;omega
theorem abc_size {s:ByteArray} (h:s ∈ [(⟨#[97]⟩:ByteArray),⟨#[98]⟩,⟨#[99]⟩]):s.size=1:=by
 simp only [List.mem_cons,List.not_mem_nil,or_false] at h
 rcases h with rfl | rfl | rfl <;> rfl
theorem p_spec_l19Thing {c:SL01Cur} (hc:Cur c):Ok (spec_l19Thing c) fun r=>thingOk r.1=true∧Cur r.2:=by
 rw [spec_l19Thing,E_spec_l19Thing]
 refine Ok.bind (p_spec_l01Below hc) fun a ha=>Ok.bind (p_spec_l01Below ha.2) fun b hb=>Ok.bind (p_spec_l01Once hb.2) fun d hd=>Ok.bind (p_spec_l01Once hd) fun e he=>?_
 have a1:=ha.1.2.1 (by omega)
 have b1:=hb.1.2.1 (by omega)
 have hi:w64 (1+a.1)=1+a.1:=w64_id (by omega) (by omega)
 have hk:w64 (1+b.1)=1+b.1:=w64_id (by omega) (by omega)
 rw [hi,hk]
 have base:inR (1+a.1) 1 1000=true∧inR (1+b.1) 1 3=true:=⟨inR_iff.2 (by omega),inR_iff.2 (by omega)⟩
 have hd32:∀ s:ByteArray,((dig s).size:Int) == 32:=fun s=>by rw [dig_size];rfl
 refine Ok.cond (fun h3=>?_) fun h3=>Ok.cond (fun h2=>?_) fun h2=>?_
 ·refine Ok.bind (p_spec_l01Below he) fun f hf=>Ok.bind (p_spec_l01Text hf.2 hf.1.1) fun g hg=>Ok.ret ⟨?_,hg.2⟩
  have f1:=hf.1.2.1 (by omega)
  rw [beq_iff_eq] at h3
  rw [thingOk,base.1,base.2,h3,decide_eq_true (by have:=hg.1;omega:(g.1.size:Int)≤100)];rfl
 ·refine Ok.bind (p_spec_l01Below he) fun f hf=>Ok.bind (p_spec_l01Once hf.2) fun g hg=>Ok.bind (p_spec_l01Pick hg (by decide)) fun t ht=>Ok.bind (Ok.eq (p_spec_DigestOf (by rw [abc_size ht.1];decide))) fun v hv=>Ok.ret ⟨?_,ht.2⟩
  have f1:=hf.1.2.1 (by omega)
  subst hv
  rw [beq_iff_eq] at h2
  rw [thingOk,base.1,base.2,h2,inR_iff.2 (⟨hf.1.1,by omega⟩:0≤f.1∧f.1≤16)]
  simp only [hd32];rfl
 ·refine Ok.bind (p_spec_l01Once he) fun g hg=>Ok.bind (p_spec_l01Pick hg (by decide)) fun t ht=>Ok.bind (Ok.eq (p_spec_DigestOf (by rw [abc_size ht.1];decide))) fun v hv=>Ok.ret ⟨?_,ht.2⟩
  subst hv
  rw [beq_eq_false_iff_ne] at h3 h2
  have hk1:1+b.1=1:=by have:=inR_iff.1 base.2;omega
  rw [thingOk,base.1,base.2,hk1]
  simp only [hd32];rfl
theorem Jo {c:SL01Cur} {b:SBook} (hc:Cur c) (hb:∀ x ∈ b.fThings,x.fId≤9223372036854775807):Ok (EZ c b) fun r=>r.1.fNum≤9223372036854775807∧Cur r.2:=by
 have z:(0:Int)≤9223372036854775807:=by omega
 rw [EZ,Rh]
 refine Ok.bind (p_spec_l01PickInt hc (Nat.succ_pos _)) fun a ha=>Ok.cond (fun _=>?_) fun _=>Ok.cond (fun _=>?_) fun _=>Ok.cond (fun _=>?_) fun _=>Ok.cond (fun _=>?_) fun _=>Ok.ret ⟨z,ha.2⟩
 ·refine Ok.bind (p_spec_l01Pick ha.2 (Nat.succ_pos _)) fun s hs=>?_
  have h1:s.1.size≤1000000000:=by
   have:=hs.1
   simp only [List.mem_cons,List.not_mem_nil,or_false] at this
   rcases this with h | h | h <;> rw [h] <;> decide
  exact Ok.bind (Ok.eq (p_spec_DigestOf h1)) fun d _=>Ok.ret ⟨z,hs.2⟩
 ·refine Ok.bind (p_spec_l01Below ha.2) fun s hs=>Ok.ret ⟨?_,hs.2⟩
  have:=hs.1.2.1 (by omega)
  show s.1≤9223372036854775807;omega
 ·refine Ok.bind (p_spec_l19Thing ha.2) fun x hx=>Ok.cond (fun h=>?_) fun _=>Ok.ret ⟨z,hx.2⟩
  rw [decide_eq_true_eq] at h
  refine Ok.bind (p_spec_l01Once hx.2) fun y hy=>Ok.cond (fun _=>?_) fun _=>Ok.ret ⟨z,hy⟩
  refine Ok.bind (p_spec_l01Below hy) fun i hi=>?_
  have h1:=hi.1.2.1 (by omega)
  have h0:=hi.1.1
  have hi2:=hi.2
  refine Ok.chk (by simp;omega) (Ok.cond (fun _=>?_) fun _=>?_)
  ·refine Ok.cond (fun _=>?_) fun _=>?_
   ·exact Ok.cond (fun _=>Ok.cond (fun _=>Ok.bind (p_spec_l01Below hi2) fun k hk=>Ok.ret ⟨z,hk.2⟩) fun _=>Ok.ret ⟨z,hi2⟩) fun _=>Ok.ret ⟨z,hi2⟩
   ·exact Ok.bind (p_spec_l01Once hi2) fun q hq=>Ok.cond (fun _=>Ok.cond (fun _=>Ok.bind (p_spec_l01Below hq) fun k hk=>Ok.ret ⟨z,hk.2⟩) fun _=>Ok.ret ⟨z,hq⟩) fun _=>Ok.ret ⟨z,hq⟩
  ·refine Ok.bind (p_spec_l01Once hi2) fun q hq=>Ok.cond (fun _=>?_) fun _=>?_
   ·exact Ok.cond (fun _=>Ok.cond (fun _=>Ok.bind (p_spec_l01Below hq) fun k hk=>Ok.ret ⟨z,hk.2⟩) fun _=>Ok.ret ⟨z,hq⟩) fun _=>Ok.ret ⟨z,hq⟩
   ·exact Ok.bind (p_spec_l01Once hq) fun q hq=>Ok.cond (fun _=>Ok.cond (fun _=>Ok.bind (p_spec_l01Below hq) fun k hk=>Ok.ret ⟨z,hk.2⟩) fun _=>Ok.ret ⟨z,hq⟩) fun _=>Ok.ret ⟨z,hq⟩
 ·refine Ok.bind (p_spec_l01Below ha.2) fun s hs=>Ok.cond (fun h=>?_) fun _=>?_
  ·rw [decide_eq_true_eq] at h
   refine Ok.bind (p_spec_l01Below hs.2) fun i hi=>?_
   have h1:=hi.1.2.1 (by omega)
   have h0:=hi.1.1
   refine Ok.chk (by simp;omega) (Ok.ret ⟨?_,hi.2⟩)
   rw [getD_at (by omega)]
   exact hb _ (List.getElem_mem _)
  ·exact Ok.ret ⟨(w64_r _).2,hs.2⟩
def TB (n:Int):List Int:=if n > 127 then (128+n % 128)::TB (n / 128) else [w8 n]
termination_by n.toNat
decreasing_by omega
theorem Ko:∀ (k:Nat) (n:Int),n<128 ^ k→(TB n).length≤max k 1:=by
 intro k
 induction k with
 | zero=>intro n h;rw [TB,if_neg (by omega)];simp
 | succ k ih=>
  intro n h
  rw [TB]
  split
  ·rename_i hn
   have h2:n / 128<128 ^ k:=by
    rw [Int.pow_succ] at h
    exact Int.ediv_lt_of_lt_mul (by omega) h
   have:=ih _ h2
   simp only [List.length_cons]
   by_cases hk:k=0
   ·subst hk;simp at h2;try omega
   ·omega
  ·simp;try omega
theorem CZ {n:Int} (h:n≤9223372036854775807):(TB n).length≤10:=by
 have:=Ko 10 n (by (have:(128:Int) ^ 10=1180591620717411303424:=by decide);omega)
 omega
theorem PZ (n:Int):1≤(TB n).length:=by rw [TB];split <;> simp
theorem Oo {n:Int} (h:n > 127) (h2:n≤9223372036854775807):w64 (n.tdiv 128)=n / 128∧w8 (w64 (n.tmod 128+128))=128+n % 128∧w8 (w64 (128+n.tmod 128))=128+n % 128:=by
 have e1:n.tdiv 128=n / 128:=Int.tdiv_eq_ediv_of_nonneg (by omega)
 have e2:n.tmod 128=n % 128:=Int.tmod_eq_emod_of_nonneg (by omega)
 refine ⟨by rw [e1,w64_id (by omega) (by omega)],?_,?_⟩
 ·rw [e2,w64_id (by omega) (by omega),w8_id (by omega) (by omega)];omega
 ·rw [e2,w64_id (by omega) (by omega),w8_id (by omega) (by omega)]
theorem Xb {n:Int} (h:n≤9223372036854775807):RY n=some (ofBytes (TB n)):=by
 have key:∀ (n:Int) (m:Nat) (out:List Int),n≤9223372036854775807→(TB n).length≤m→out.length+(TB n).length≤1000→Nc m (.c0 n out)=some (ofBytes (out++TB n)):=by
  intro n
  induction n using TB.induct with
  | case1 n hn ih=>
   intro m out h1 h2 h3
   rw [TB,if_pos hn] at h2 h3 ⊢
   simp only [List.length_cons] at h2 h3
   obtain ⟨m,rfl⟩:∃ k,m=k+1:=⟨m - 1,by omega⟩
   obtain ⟨e1,e2,_⟩:=Oo hn h1
   simp only [Nc,Xe,e1,e2]
   rw [show decide (n > 127)=true from decide_eq_true hn,show decide ((out.length+1)*1≤140737488355328)=true from decide_eq_true (by omega)]
   simp only [cond_true]
   rw [ih m _ (by omega) (by omega) (by simp;omega)]
   simp
  | case2 n hn=>
   intro m out h1 h2 h3
   rw [TB,if_neg hn] at h2 h3 ⊢
   simp at h2 h3
   obtain ⟨m,rfl⟩:∃ k,m=k+1:=⟨m - 1,by omega⟩
   simp only [Nc,Xe]
   rw [show decide (n > 127)=false from decide_eq_false hn,show decide ((out.length+1)*1≤140737488355328)=true from decide_eq_true (by omega)]
   rfl
 have hl:=CZ h
 exact key n gas [] h (Nat.le_of_lt (gas_lt (by omega))) (by simp;omega)
theorem Ws (b:Bool) (n:Int):Ze b n=some (bif b then n else 0):=by cases b <;> rfl
theorem Po {n:Int} (h:0≤n) (h2:n≤255):Qc n=some (ofBytes [n]):=by
 have e:n.tmod 256=n:=by rw [Int.tmod_eq_emod_of_nonneg h];omega
 simp only [Qc,Xh,e]
 rw [show decide (n<0)=false from decide_eq_false (by omega),w8_id h h2]
 rfl
def ZY (s:ByteArray):ByteArray:=ofBytes (TB (s.size:Int))++s
theorem Dt {s:ByteArray} (h:s.size≤140737488351232):(ZY s).size≤s.size+10:=by
 unfold ZY;rw [ba_append_size,ofBytes_size];have:=CZ (n:=(s.size:Int)) (by omega);omega
theorem Et {s:ByteArray} (h:s.size≤140737488351232):Tc s=some (ZY s):=by
 simp only [Tc,Zh,Xb (n:=(s.size:Int)) (by omega),Option.bind_some]
 have:=CZ (n:=(s.size:Int)) (by omega)
 rw [show decide ((ofBytes (TB (s.size:Int))).size+s.size≤9223372036854775807)=true from decide_eq_true (by rw [ofBytes_size];omega)]
 rfl
def TT (x:SThing):Int:=(bif x.fHidden then 1 else 0)+(bif x.fFixed then 2 else 0)+(bif x.fSigns then 4 else 0)+(bif x.fWraps then 8 else 0)
theorem Je (x:SThing):0≤TT x∧TT x≤15:=by
 unfold TT;cases x.fHidden <;> cases x.fFixed <;> cases x.fSigns <;> cases x.fWraps <;> decide
theorem Gt (m:Nat) (a b c d:Bool):Zi (m+5) (.c0 0 4 0 [a,b,c,d])=some ((bif a then 1 else 0)+(bif b then 2 else 0)+(bif c then 4 else 0)+(bif d then 8 else 0)):=by
 cases a <;> cases b <;> cases c <;> cases d <;> kernel_rfl
theorem Ht (x:SThing):Xd x=some (TT x):=by
 obtain ⟨m,this⟩:∃ m,gas=m+5:=⟨gas - 5,rfl⟩
 unfold Xd Yi
 rw [this]
 exact Gt _ _ _ _ _
def DZ (x:SThing):ByteArray:=ofBytes (TB x.fId)++ofBytes [x.fKind]++ofBytes [TT x]++ZY x.fValue++ofBytes (TB x.fNext)
def NM (x:SThing):ByteArray×Bool:=bif thingOk x then (DZ x,true) else (⟨#[]⟩,false)
theorem Jk {x:SThing} (h:thingOk x=true):(ofBytes (TB x.fId)).size≤10∧(ZY x.fValue).size≤110∧(ofBytes (TB x.fNext)).size≤10:=by
 obtain ⟨_,_,_,h1,_,h2,h3⟩:=thingOk_kind h
 rw [ofBytes_size,ofBytes_size]
 have:=CZ (n:=x.fId) (by omega)
 have:=CZ (n:=x.fNext) (by omega)
 have:=Dt (s:=x.fValue) (by omega)
 omega
theorem Qo {x:SThing} (h:thingOk x=true):(DZ x).size≤200:=by
 obtain ⟨h1,h2,h3⟩:=Jk h
 unfold DZ
 simp only [ba_append_size]
 have e1:∀ n:Int,(ofBytes [n]).size=1:=fun n=>ofBytes_size _
 rw [e1,e1];omega
theorem Nk (x:SThing):XZ x=some (NM x):=by
 simp only [XZ,Ai,p_spec_ThingOk,Option.bind_some,NM]
 cases h:thingOk x
 ·rfl
 ·obtain ⟨k1,k2,k3,k4,k5,k6,k7⟩:=thingOk_kind h
  obtain ⟨z1,z2,z3⟩:=Jk h
  have hf:=Je x
  have e1:∀ n:Int,(ofBytes [n]).size=1:=fun n=>ofBytes_size _
  have ef:w64 (w64 (w64 ((bif x.fHidden then (1:Int) else 0)+(bif x.fFixed then 2 else 0))+(bif x.fSigns then 4 else 0))+(bif x.fWraps then 8 else 0))=TT x:=by
   unfold TT;cases x.fHidden <;> cases x.fFixed <;> cases x.fSigns <;> cases x.fWraps <;> rfl
  simp only [Ws,Option.bind_some,ef,Xb (n:=x.fId) (by omega),Po (n:=x.fKind) (by omega) (by omega),Po hf.1 (by omega),Et (s:=x.fValue) (by omega),Xb (n:=x.fNext) (by omega),ba_append_size,e1]
  simp only [Bool.not_true,cond_false,cond_true]
  rw [show decide ((ofBytes (TB x.fId)).size+1≤9223372036854775807)=true from decide_eq_true (by omega),show decide ((ofBytes (TB x.fId)).size+1+1≤9223372036854775807)=true from decide_eq_true (by omega),
   show decide ((ofBytes (TB x.fId)).size+1+1+(ZY x.fValue).size≤9223372036854775807)=true from decide_eq_true (by omega),show decide ((ofBytes (TB x.fId)).size+1+1+(ZY x.fValue).size+(ofBytes (TB x.fNext)).size≤9223372036854775807)=true from decide_eq_true (by omega)]
  rfl
def SN (x:SThing):Bool:=(x.fId == 0) && ((x.fKind == 0) && ((x.fHidden == false) && ((x.fFixed == false) && ((x.fSigns == false) && ((x.fWraps == false) && (((ByteArray.toList x.fValue) == (ByteArray.toList (⟨#[]⟩:ByteArray))) && ((x.fNext == 0) && true)))))))
theorem Ro (x:SThing):((x.fId == 0) && ((x.fKind == 0) && ((x.fHidden == false) && ((x.fFixed == false) && ((x.fSigns == false) && ((x.fWraps == false) && (((ByteArray.toList x.fValue) == (ByteArray.toList (⟨#[]⟩:ByteArray))) && ((x.fNext == 0) && true))))))))=SN x:=rfl
def FN (s:ByteArray):Bool:=(ByteArray.toList s) == (ByteArray.toList (⟨#[]⟩:ByteArray))
theorem Qk (s:ByteArray):((ByteArray.toList s) == (ByteArray.toList (⟨#[]⟩:ByteArray)))=FN s:=rfl
def noT:ByteArray×Bool:=((⟨#[]⟩:ByteArray),false)
def IK (r:SRec):ByteArray×Bool:=
 bif r.fKind == 1 then (bif (r.fText.size:Int) == 32 && r.fNum == 0 && SN r.fThing then (ofBytes [1]++r.fText,true) else noT)
 else bif r.fKind == 2 then (bif FN r.fText && SN r.fThing && inR r.fNum 0 3 then (ofBytes [2]++ofBytes (TB r.fNum),true) else noT)
 else bif r.fKind == 3 then (bif (NM r.fThing).2 && FN r.fText && r.fNum == 0 then (ofBytes [3]++(NM r.fThing).1,true) else noT)
 else bif r.fKind == 4 then (bif FN r.fText && SN r.fThing && inR r.fNum 1 1000 then (ofBytes [4]++ofBytes (TB r.fNum),true) else noT)
 else noT
theorem Eh {n a b:Int} (hb:b≤1000) (h:inR n a b=true) (k:Int):(ofBytes [k]).size+(ofBytes (TB n)).size≤9223372036854775807:=by
 rw [inR_iff] at h
 have:=CZ (n:=n) (by omega)
 rw [ofBytes_size,ofBytes_size];simp only [List.length_singleton];omega
theorem Uo {x:SThing} (h:(NM x).2=true) (k:Int):(ofBytes [k]).size+(NM x).1.size≤9223372036854775807:=by
 unfold NM at h ⊢
 cases ho:thingOk x
 ·rw [ho] at h;cases h
 ·have:=Qo ho
  rw [ofBytes_size];simp only [List.length_singleton,cond_true];omega
theorem QZ (r:SRec):OY r=some (IK r):=by
 have h1:(⟨#[1]⟩:ByteArray)=ofBytes [1]:=rfl
 have h2:(⟨#[2]⟩:ByteArray)=ofBytes [2]:=rfl
 have h3:(⟨#[3]⟩:ByteArray)=ofBytes [3]:=rfl
 have h4:(⟨#[4]⟩:ByteArray)=ofBytes [4]:=rfl
 simp only [OY,Ci,p_spec_l01In,Nk,Option.bind_some,Ro,h1,h2,h3,h4]
 simp only [Qk,IK]
 cases r.fKind == 1
 ·simp only [cond_false]
  cases r.fKind == 2
  ·simp only [cond_false]
   cases r.fKind == 3
   ·simp only [cond_false]
    cases r.fKind == 4
    ·rfl
    ·cases FN r.fText <;> cases SN r.fThing <;> (try rfl)
     cases h:inR r.fNum 1 1000
     ·rfl
     ·have h':=h
      rw [inR_iff] at h'
      simp only [cond_true,Xb (n:=r.fNum) (by omega),Option.bind_some,Bool.and_self,decide_eq_true (Eh (by omega) h 4)]
   ·cases h:(NM r.fThing).2
    ·rfl
    ·cases FN r.fText <;> cases r.fNum == 0 <;> (try rfl)
     simp only [cond_true,Bool.and_self,decide_eq_true (Uo h 3)]
  ·cases FN r.fText <;> cases SN r.fThing <;> (try rfl)
   cases h:inR r.fNum 0 3
   ·rfl
   ·have h':=h
    rw [inR_iff] at h'
    simp only [cond_true,Xb (n:=r.fNum) (by omega),Option.bind_some,Bool.and_self,decide_eq_true (Eh (by omega) h 2)]
 ·cases h:(r.fText.size:Int) == 32 <;> cases r.fNum == 0 <;> cases SN r.fThing <;> (try rfl)
  have h':r.fText.size=32:=by have:=beq_iff_eq.1 h;omega
  have e:(ofBytes [1]).size+r.fText.size≤9223372036854775807:=by rw [ofBytes_size];simp only [List.length_singleton];omega
  simp only [cond_true,Bool.and_self,decide_eq_true e]
def rise (last:Int):Int→List SThing→Bool
 | _,[]=>true
 | p,x::xs=>thingOk x && (!decide (x.fId > last) && (!decide (p≥x.fId) && rise last x.fId xs))
def JZ (l:List SThing):Nat→Int
 | 0=>0
 | i+1=>((l[i]?).map (·.fId)).getD 0
theorem Vo {l:List SThing} {i:Nat} (hi:i<l.length):JZ l (i+1)=l[i].fId:=by simp [JZ,hi]
theorem Jt {l:List SThing} {last:Int} {i:Nat} (hi:i<l.length):rise last (JZ l i) (l.drop i)=(thingOk l[i] && (!decide (l[i].fId > last) && (!decide (JZ l i≥l[i].fId) && rise last (JZ l (i+1)) (l.drop (i+1))))):=by
 rw [drop_at hi,rise,Vo hi]
def NY (b:SBook):Bool:=(b.fWord.size:Int) == 32 && ((b.fChain.size:Int) == 32 && (inR b.fTries 0 3 && (decide ((b.fThings.length:Int)≤8) && (inR b.fLast 0 1000 && (inR b.fCount 0 10000 && rise b.fLast 0 b.fThings)))))
theorem Kt {b:SBook} (hb:b.fThings.length≤140737488351232):∀ m i,i≤b.fThings.length→b.fThings.length - i<m→Aa m (.c0 i b)=some (rise b.fLast (JZ b.fThings i) (b.fThings.drop i)):=fun m i h1 h2=>
 loopN (A:=Unit) (n:=b.fThings.length) (Lp:=Aa) (st:=fun i _=>.c0 i b) (Inv:=fun _ _=>True) (out:=fun i _=>some (rise b.fLast (JZ b.fThings i) (b.fThings.drop i)))
  (fun m _ _=>by
   simp only [Aa,Ef]
   rw [show decide ((b.fThings.length:Int)<(b.fThings.length:Int))=false from decide_eq_false (by omega),List.drop_of_length_le (Nat.le_refl _)]
   rfl)
  (fun m i _ hi _=>by
   have hw:w64 ((i:Int)+1)=((i+1:Nat):Int):=by rw [w64_id (by omega) (by omega)];rfl
   simp only [Jt hi]
   simp only [Aa,Ef,Int.toNat_natCast,getD_at hi,p_spec_ThingOk,Option.bind_some,hw]
   rw [show decide ((i:Int)<(b.fThings.length:Int))=true from decide_eq_true (by omega),show decide ((0:Int)≤(i:Int))=true from decide_eq_true (by omega)]
   simp only [Bool.and_self,cond_true]
   cases h1:thingOk b.fThings[i]
   ·exact .inl rfl
   ·cases h2:decide (b.fThings[i].fId > b.fLast)
    ·by_cases h0:i=0
     ·subst h0
      refine .inr ⟨(),rfl,trivial,?_⟩
      rw [show decide (JZ b.fThings 0≥b.fThings[0].fId)=false from decide_eq_false (by have:=(thingOk_kind h1).2.2.1;simp only [JZ];omega)]
      rfl
     ·obtain ⟨j,rfl⟩:∃ j,i=j+1:=⟨i - 1,by omega⟩
      have hj:w64 (((j+1:Nat):Int) - 1)=(j:Int):=by rw [w64_id (by omega) (by omega)];omega
      have hjl:j<b.fThings.length:=by omega
      rw [Vo hjl]
      simp only [hj,Int.toNat_natCast,getD_at hjl,Bool.not_true,Bool.not_false,cond_false,Bool.true_and]
      rw [show decide (((j+1:Nat):Int) > 0)=true from decide_eq_true (by omega),show decide ((0:Int)≤(j:Int))=true from decide_eq_true (by omega),show decide ((j:Int)<(b.fThings.length:Int))=true from decide_eq_true (by omega)]
      simp only [Bool.and_self,cond_true]
      cases h3:decide (b.fThings[j].fId≥b.fThings[j+1].fId)
      ·exact .inr ⟨(),rfl,trivial,rfl⟩
      ·exact .inl rfl
    ·exact .inl rfl) m i () h1 h2 trivial
theorem Yb {b:SBook} (hb:b.fThings.length≤140737488351232):Ba b=some (NY b):=by
 have h0:Aa gas (.c0 0 b)=some (rise b.fLast 0 b.fThings):=Kt hb gas 0 (Nat.zero_le _) (gas_lt (by omega))
 simp only [Ba,Di,p_spec_l01In,Option.bind_some,NY,bne,h0]
 rw [show decide ((b.fThings.length:Int)≤8) = !decide ((b.fThings.length:Int) > 8) by rw [←decide_not];simp]
 cases (b.fWord.size:Int) == 32 <;> cases (b.fChain.size:Int) == 32 <;> cases inR b.fTries 0 3 <;> cases decide ((b.fThings.length:Int) > 8) <;> cases inR b.fLast 0 1000 <;> cases inR b.fCount 0 10000 <;> rfl
theorem Ot {b:SBook} (h:b.fThings.length≤2932031007317):Ea b=some b:=by
 rw [Ea,Ei,cond_t (by simp;omega)];rfl
def CV (xs:List SThing) (t:Int):Option SThing:=xs.find? fun x=>x.fId == t
def Zb:SThing:=⟨0,0,false,false,false,false,⟨#[]⟩,0⟩
theorem Xo {b:SBook} {t:Int} (h:b.fThings.length≤140737488351232):Qb b t=some (match CV b.fThings t with | some x=>(x,true) | none=>(Zb,false)):=by
 have key:∀ m i,i≤b.fThings.length→b.fThings.length - i<m→Ob m (.c0 t i b Zb)=some (match CV (b.fThings.drop i) t with | some x=>(x,true) | none=>(Zb,false)):=fun m i h1 h2=>
  loopN (A:=Unit) (n:=b.fThings.length) (Lp:=Ob) (st:=fun i _=>.c0 t i b Zb) (Inv:=fun _ _=>True) (out:=fun i _=>some (match CV (b.fThings.drop i) t with | some x=>(x,true) | none=>(Zb,false)))
   (fun m _ _=>by simp [Ob,Jf,CV,Zb])
   (fun m i _ hi _=>by
    have hw:w64 ((i:Int)+1)=((i+1:Nat):Int):=by rw [w64_id (by omega) (by omega)];rfl
    simp only [Ob,Jf,Int.toNat_natCast,getD_at hi,hw,drop_at hi,CV,List.find?_cons]
    cases hq:b.fThings[i].fId == t
    ·exact .inr ⟨(),by simp [hi],trivial,by simp⟩
    ·exact .inl (by simp [hi])) m i () h1 h2 trivial
 have h0:=key gas 0 (Nat.zero_le _) (gas_lt (by omega))
 exact h0
theorem Yo {r:SRec} (h:(IK r).2=true):(r.fKind=1∧r.fText.size=32)∨(r.fKind=2∧0≤r.fNum∧r.fNum≤3)∨(r.fKind=3∧thingOk r.fThing=true)∨(r.fKind=4∧1≤r.fNum∧r.fNum≤1000):=by
 rw [IK] at h
 by_cases h1:r.fKind=1
 ·rw [show (r.fKind == 1)=true by rw [beq_iff_eq];exact h1,cond_true] at h
  cases hc:((r.fText.size:Int) == 32 && r.fNum == 0 && SN r.fThing)
  ·rw [hc] at h;cases h
  ·rw [Bool.and_eq_true,Bool.and_eq_true,beq_iff_eq] at hc
   exact .inl ⟨h1,by omega⟩
 rw [show (r.fKind == 1)=false by rw [beq_eq_false_iff_ne];exact h1,cond_false] at h
 by_cases h2:r.fKind=2
 ·rw [show (r.fKind == 2)=true by rw [beq_iff_eq];exact h2,cond_true] at h
  cases hc:(FN r.fText && SN r.fThing && inR r.fNum 0 3)
  ·rw [hc] at h;cases h
  ·rw [Bool.and_eq_true,inR_iff] at hc
   exact .inr (.inl ⟨h2,hc.2⟩)
 rw [show (r.fKind == 2)=false by rw [beq_eq_false_iff_ne];exact h2,cond_false] at h
 by_cases h3:r.fKind=3
 ·rw [show (r.fKind == 3)=true by rw [beq_iff_eq];exact h3,cond_true] at h
  cases hc:((NM r.fThing).2 && FN r.fText && r.fNum == 0)
  ·rw [hc] at h;cases h
  ·rw [Bool.and_eq_true,Bool.and_eq_true] at hc
   refine .inr (.inr (.inl ⟨h3,?_⟩))
   have h4:=hc.1.1
   rw [NM] at h4
   cases ho:thingOk r.fThing
   ·rw [ho] at h4;cases h4
   ·rfl
 rw [show (r.fKind == 3)=false by rw [beq_eq_false_iff_ne];exact h3,cond_false] at h
 by_cases h4:r.fKind=4
 ·rw [show (r.fKind == 4)=true by rw [beq_iff_eq];exact h4,cond_true] at h
  cases hc:(FN r.fText && SN r.fThing && inR r.fNum 1 1000)
  ·rw [hc] at h;cases h
  ·rw [Bool.and_eq_true,inR_iff] at hc
   exact .inr (.inr (.inr ⟨h4,hc.2⟩))
 rw [show (r.fKind == 4)=false by rw [beq_eq_false_iff_ne];exact h4] at h
 cases h
theorem Rk (r:SRec):(IK r).1.size≤300:=by
 rw [IK]
 have one:∀ n:Int,(ofBytes [n]).size=1:=fun n=>by rw [ofBytes_size];rfl
 cases hk1:(r.fKind == 1)
 ·rw [cond_false]
  cases hk2:(r.fKind == 2)
  ·rw [cond_false]
   cases hk3:(r.fKind == 3)
   ·rw [cond_false]
    cases hk4:(r.fKind == 4)
    ·exact Nat.zero_le _
    ·rw [cond_true]
     cases hc:(FN r.fText && SN r.fThing && inR r.fNum 1 1000)
     ·exact Nat.zero_le _
     ·rw [Bool.and_eq_true,inR_iff] at hc
      have:=CZ (n:=r.fNum) (by omega)
      rw [cond_true,ByteArray.size_append,one,ofBytes_size];omega
   ·rw [cond_true]
    cases hc:((NM r.fThing).2 && FN r.fText && r.fNum == 0)
    ·exact Nat.zero_le _
    ·rw [cond_true,ByteArray.size_append,one,NM]
     cases ho:thingOk r.fThing
     ·exact Nat.le_of_ble_eq_true rfl
     ·have:=Qo ho
      show 1+(DZ r.fThing).size≤300;omega
  ·rw [cond_true]
   cases hc:(FN r.fText && SN r.fThing && inR r.fNum 0 3)
   ·exact Nat.zero_le _
   ·rw [Bool.and_eq_true,inR_iff] at hc
    have:=CZ (n:=r.fNum) (by omega)
    rw [cond_true,ByteArray.size_append,one,ofBytes_size];omega
 ·rw [cond_true]
  cases hc:((r.fText.size:Int) == 32 && r.fNum == 0 && SN r.fThing)
  ·exact Nat.zero_le _
  ·rw [Bool.and_eq_true,Bool.and_eq_true,beq_iff_eq] at hc
   rw [cond_true,ByteArray.size_append,one];omega
def SY:List SThing→Int→Nat→Option Nat
 | [],_,_=>none
 | x::xs,t,i=>if x.fId == t then some i else SY xs t (i+1)
theorem Rt (t:Int):∀ (xs:List SThing) (i:Nat),match SY xs t i with | some j=>i≤j∧j<i+xs.length∧CV xs t=xs[j - i]? | none=>CV xs t=none:=by
 intro xs
 induction xs with
 | nil=>intro i;rfl
 | cons x xs ih=>
  intro i
  simp only [SY,CV,List.find?_cons]
  cases hq:x.fId == t
  ·have:=ih (i+1)
   simp only [Bool.false_eq_true,if_false]
   split at this
   ·rename_i j hj
    obtain ⟨h1,h2,h3⟩:=this
    refine ⟨by omega,by simp;omega,?_⟩
    rw [show j - i=(j - (i+1))+1 by omega,List.getElem?_cons_succ]
    exact h3
   ·exact this
  ·simp
theorem AZ {b:SBook}:NY b=true↔b.fWord.size=32∧b.fChain.size=32∧(0≤b.fTries∧b.fTries≤3)∧b.fThings.length≤8∧(0≤b.fLast∧b.fLast≤1000)∧(0≤b.fCount∧b.fCount≤10000)∧rise b.fLast 0 b.fThings=true:=by
 simp only [NY,Bool.and_eq_true,beq_iff_eq,inR_iff,decide_eq_true_eq]
 exact ⟨fun ⟨h1,h2,h3,h4,h5,h6,h7⟩=>⟨by omega,by omega,h3,by omega,h5,h6,h7⟩,fun ⟨h1,h2,h3,h4,h5,h6,h7⟩=>⟨by omega,by omega,h3,by omega,h5,h6,h7⟩⟩
theorem TY {last p:Int} {x:SThing} {xs:List SThing}:rise last p (x::xs)=true↔thingOk x=true∧x.fId≤last∧p<x.fId∧rise last x.fId xs=true:=by
 simp only [rise,Bool.and_eq_true,Bool.not_eq_true',decide_eq_false_iff_not]
 exact ⟨fun ⟨h1,h2,h3,h4⟩=>⟨h1,by omega,by omega,h4⟩,fun ⟨h1,h2,h3,h4⟩=>⟨h1,by omega,by omega,h4⟩⟩
theorem Me {last:Int}:∀ {xs:List SThing} {p:Int},rise last p xs=true→∀ x ∈ xs,p<x.fId∧x.fId≤last∧thingOk x=true
 | [],_,_,x,hx=>by cases hx
 | y::ys,p,h,x,hx=>by
  obtain ⟨h1,h2,h3,h4⟩:=TY.1 h
  rcases List.mem_cons.1 hx with rfl | hx
  ·exact ⟨h3,h2,h1⟩
  ·have:=Me h4 x hx
   exact ⟨by omega,this.2.1,this.2.2⟩
theorem Uk {last last2:Int} (hl:last≤last2):∀ {xs:List SThing} {p p2:Int},p2≤p→rise last p xs=true→rise last2 p2 xs=true
 | [],_,_,_,_=>rfl
 | y::ys,p,p2,hp,h=>by
  obtain ⟨h1,h2,h3,h4⟩:=TY.1 h
  exact TY.2 ⟨h1,by omega,by omega,Uk hl (Int.le_refl _) h4⟩
def BZ (x:SThing) (ts:List SThing):List SThing:=ts.filter fun t=>decide (t.fId<x.fId)
def Fb (x:SThing) (ts:List SThing):List SThing:=ts.filter fun t=>decide (t.fId > x.fId)
def putAt (ts:List SThing) (x:SThing):List SThing:=BZ x ts++x::Fb x ts
def without (ts:List SThing) (id:Int):List SThing:=ts.filter fun t=>t.fId != id
theorem Tt {last:Int} {x:SThing}:∀ {xs:List SThing} {p:Int},x.fId≤p→rise last p xs=true→BZ x xs=[]∧Fb x xs=xs∧without xs x.fId=xs:=by
 intro xs p hp h
 have ha:=Me h
 refine ⟨List.filter_eq_nil_iff.2 fun t ht=>?_,List.filter_eq_self.2 fun t ht=>?_,List.filter_eq_self.2 fun t ht=>?_⟩
 ·have:=ha t ht;rw [decide_eq_true_eq];omega
 ·have:=ha t ht;rw [decide_eq_true_eq];omega
 ·have:=ha t ht;rw [bne_iff_ne];omega
theorem Zo {id:Int}:∀ {xs:List SThing} {i j:Nat},SY xs id i=some j→i≤j∧∃ x ∈ xs,x.fId=id:=by
 intro xs
 induction xs with
 | nil=>intro i j h;cases h
 | cons y ys ih=>
  intro i j h
  rw [SY] at h
  split at h
  ·rename_i hy;cases h;exact ⟨Nat.le_refl _,y,List.mem_cons_self ..,beq_iff_eq.1 hy⟩
  ·obtain ⟨h1,x,h2,h3⟩:=ih h;exact ⟨by omega,x,List.mem_cons_of_mem _ h2,h3⟩
theorem Ut {last:Int} {x:SThing}:∀ {xs:List SThing} {p:Int} {i j:Nat},rise last p xs=true→SY xs x.fId i=some j→xs.set (j - i) x=putAt xs x∧(xs.take (j - i)++xs.drop (j - i+1))=without xs x.fId:=by
 intro xs
 induction xs with
 | nil=>intro p i j _ h;cases h
 | cons y ys ih=>
  intro p i j hr h
  obtain ⟨h1,h2,h3,h4⟩:=TY.1 hr
  rw [SY] at h
  split at h
  ·rename_i hy
   have hy:=beq_iff_eq.1 hy
   cases h
   obtain ⟨f1,f2,f3⟩:=Tt (x:=x) (by omega) h4
   rw [Nat.sub_self]
   simp only [putAt,BZ,Fb,without,List.filter_cons] at f1 f2 f3 ⊢
   rw [decide_eq_false (by omega),decide_eq_false (by omega),show (y.fId != x.fId)=false by rw [bne_eq_false_iff_eq];exact hy]
   simp [f1,f2,f3]
  ·rename_i hy
   obtain ⟨h5,z,h6,h7⟩:=Zo h
   have h8:=Me h4 z h6
   obtain ⟨i1,i2⟩:=ih h4 h
   have e:j - i=(j - (i+1))+1:=by omega
   rw [e,List.set_cons_succ,i1,List.take_succ_cons,List.drop_succ_cons,List.cons_append,i2]
   simp only [putAt,BZ,Fb,without,List.filter_cons]
   rw [decide_eq_true (by omega),decide_eq_false (by omega),show (y.fId != x.fId)=true by rw [bne_iff_ne];omega]
   simp
theorem Vt {last:Int} {x:SThing} {xs:List SThing} {p:Int} (h:rise last p xs=true) (hx:last<x.fId):putAt xs x=xs++[x]∧CV xs x.fId=none:=by
 have ha:=Me h
 constructor
 ·rw [putAt,BZ,Fb,List.filter_eq_self.2 fun t ht=>by have:=ha t ht;rw [decide_eq_true_eq];omega,List.filter_eq_nil_iff.2 fun t ht=>by have:=ha t ht;rw [decide_eq_true_eq];omega]
 ·rw [CV,List.find?_eq_none]
  intro t ht
  have:=ha t ht
  rw [beq_iff_eq];omega
theorem Xt {last:Int} {x:SThing} (hx:thingOk x=true) (hl:last<x.fId):∀ {xs:List SThing} {p:Int},p<x.fId→rise last p xs=true→rise x.fId p (xs++[x])=true:=by
 intro xs
 induction xs with
 | nil=>intro p hp _;exact TY.2 ⟨hx,Int.le_refl _,hp,rfl⟩
 | cons y ys ih=>
  intro p hp h
  obtain ⟨h1,h2,h3,h4⟩:=TY.1 h
  exact TY.2 ⟨h1,by omega,h3,ih (by omega) h4⟩
theorem Yt {last:Int} {x:SThing} (hx:thingOk x=true):∀ {xs:List SThing} {p:Int} {i j:Nat},rise last p xs=true→SY xs x.fId i=some j→rise last p (xs.set (j - i) x)=true:=by
 intro xs
 induction xs with
 | nil=>intro p i j _ h;cases h
 | cons y ys ih=>
  intro p i j hr h
  obtain ⟨h1,h2,h3,h4⟩:=TY.1 hr
  rw [SY] at h
  split at h
  ·rename_i hy
   have hy:=beq_iff_eq.1 hy
   cases h
   rw [Nat.sub_self,List.set_cons_zero]
   exact TY.2 ⟨hx,by omega,by omega,Uk (Int.le_refl _) (by omega) h4⟩
  ·have h5:=(Zo h).1
   have e:j - i=(j - (i+1))+1:=by omega
   rw [e,List.set_cons_succ]
   exact TY.2 ⟨h1,h2,h3,ih h4 h⟩
theorem Zt {last:Int} (id:Int):∀ {xs:List SThing} {p:Int},rise last p xs=true→rise last p (without xs id)=true:=by
 intro xs
 induction xs with
 | nil=>intro p _;rfl
 | cons y ys ih=>
  intro p h
  obtain ⟨h1,h2,h3,h4⟩:=TY.1 h
  rw [without,List.filter_cons]
  split
  ·exact TY.2 ⟨h1,h2,h3,ih h4⟩
  ·exact Uk (Int.le_refl _) (by omega) (ih h4)
def grown (x y:SThing):Bool:=y.fKind == x.fKind && ((bs y.fValue == bs x.fValue) && (y.fSigns == x.fSigns && (y.fWraps == x.fWraps && (decide (x.fNext≤y.fNext) && ((y.fHidden || !x.fHidden) && (y.fFixed || !x.fFixed))))))
def Oe:SBook:=⟨⟨#[]⟩,0,[],0,⟨#[]⟩,0⟩
def Vk (b:SBook) (x:SThing):Option (List SThing×Int):=match CV b.fThings x.fId with
 | some old=>bif grown old x then some (putAt b.fThings x,b.fLast) else none
 | none=>bif x.fId != b.fLast+1 || decide ((b.fThings.length:Int)≥8) then none else some (b.fThings++[x],x.fId)
def JY (b:SBook) (r:SRec):SBook×Bool:=
 bif !(NY b) || (!(IK r).2 || decide (b.fCount≥10000)) then (Oe,false)
 else bif r.fKind == 1 then (⟨r.fText,0,b.fThings,b.fLast,dig (b.fChain++(IK r).1),b.fCount+1⟩,true)
 else bif r.fKind == 2 then (⟨b.fWord,r.fNum,b.fThings,b.fLast,dig (b.fChain++(IK r).1),b.fCount+1⟩,true)
 else bif r.fKind == 3 then (match Vk b r.fThing with
  | some p=>(⟨b.fWord,b.fTries,p.1,p.2,dig (b.fChain++(IK r).1),b.fCount+1⟩,true)
  | none=>(Oe,false))
 else (match CV b.fThings r.fNum with
  | some _=>(⟨b.fWord,b.fTries,without b.fThings r.fNum,b.fLast,dig (b.fChain++(IK r).1),b.fCount+1⟩,true)
  | none=>(Oe,false))
theorem Au {xs:List SThing} {id:Int}:(∃ x j,CV xs id=some x∧SY xs id 0=some j∧j<xs.length∧xs[j]?=some x∧x.fId=id)∨(CV xs id=none∧SY xs id 0=none):=by
 have h:=Rt id xs 0
 cases hp:SY xs id 0 with
 | none=>rw [hp] at h;exact .inr ⟨h,rfl⟩
 | some j=>
  rw [hp] at h
  obtain ⟨_,h2,h3⟩:=h
  rw [Nat.sub_zero] at h3
  rw [Nat.zero_add] at h2
  refine .inl ⟨xs[j],j,?_,rfl,h2,List.getElem?_eq_getElem h2,?_⟩
  ·rw [h3,List.getElem?_eq_getElem h2]
  ·have h4:CV xs id=some xs[j]:=by rw [h3,List.getElem?_eq_getElem h2]
   have:=List.find?_some h4
   exact beq_iff_eq.1 this
theorem Fh {b:SBook} {r:SRec} (h:(JY b r).2=true):NY b=true∧(IK r).2=true∧b.fCount<10000∧NY (JY b r).1=true∧(JY b r).1.fCount=b.fCount+1∧(JY b r).1.fChain=dig (b.fChain++(IK r).1):=by
 rw [JY] at h ⊢
 cases h1:NY b
 ·rw [h1] at h;cases h
 cases h2:(IK r).2
 ·rw [h1,h2] at h;cases h
 by_cases h3:b.fCount≥10000
 ·rw [h1,h2,decide_eq_true h3] at h;cases h
 rw [h1,h2,decide_eq_false h3] at h
 rw [decide_eq_false h3]
 simp only [Bool.not_true,Bool.or_false,cond_false] at h ⊢
 obtain ⟨b1,b2,b3,b4,b5,b6,b7⟩:=AZ.1 h1
 refine ⟨trivial,trivial,by omega,?_⟩
 have hd:∀ s,(dig s).size=32:=dig_size
 rcases Yo h2 with ⟨hk,hz⟩ | ⟨hk,hz⟩ | ⟨hk,hz⟩ | ⟨hk,hz⟩
 ·rw [hk]
  exact ⟨AZ.2 ⟨hz,hd _,(by decide:(0:Int)≤0∧(0:Int)≤3),b4,b5,by show 0≤b.fCount+1∧b.fCount+1≤10000;omega,b7⟩,rfl,rfl⟩
 ·rw [hk]
  exact ⟨AZ.2 ⟨b1,hd _,hz,b4,b5,by show 0≤b.fCount+1∧b.fCount+1≤10000;omega,b7⟩,rfl,rfl⟩
 ·rw [hk] at h ⊢
  simp only [show ((3:Int) == 1)=false from rfl,show ((3:Int) == 2)=false from rfl,show ((3:Int) == 3)=true from rfl,cond_true,cond_false] at h ⊢
  rw [Vk] at h ⊢
  rcases Au (xs:=b.fThings) (id:=r.fThing.fId) with ⟨x,j,t1,t2,t3,t4,t5⟩ | ⟨t1,t2⟩
  ·rw [t1] at h ⊢
   simp only at h ⊢
   cases hg:grown x r.fThing
   ·rw [hg] at h;cases h
   ·have e:=(Ut b7 t2).1
    rw [Nat.sub_zero] at e
    have hrs:=Yt hz b7 t2
    rw [Nat.sub_zero,e] at hrs
    exact ⟨AZ.2 ⟨b1,hd _,b3,by show (putAt b.fThings r.fThing).length≤8;rw [←e,List.length_set];exact b4,b5,by show 0≤b.fCount+1∧b.fCount+1≤10000;omega,hrs⟩,rfl,rfl⟩
  ·rw [t1] at h ⊢
   simp only at h ⊢
   cases hg:(r.fThing.fId != b.fLast+1 || decide ((b.fThings.length:Int)≥8))
   ·rw [Bool.or_eq_false_iff,bne_eq_false_iff_eq,decide_eq_false_iff_not] at hg
    have hid:r.fThing.fId≤1000:=by
     have:=hz
     simp only [thingOk,Bool.and_eq_true,inR_iff] at this
     omega
    exact ⟨AZ.2 ⟨b1,hd _,b3,by show (b.fThings++[r.fThing]).length≤8;rw [List.length_append,List.length_singleton];omega,by show 0≤r.fThing.fId∧r.fThing.fId≤1000;omega,by show 0≤b.fCount+1∧b.fCount+1≤10000;omega,Xt hz (by omega) (by omega) b7⟩,rfl,rfl⟩
   ·rw [hg] at h;cases h
 ·rw [hk] at h ⊢
  simp only [show ((4:Int) == 1)=false from rfl,show ((4:Int) == 2)=false from rfl,show ((4:Int) == 3)=false from rfl,cond_false] at h ⊢
  cases ht:CV b.fThings r.fNum with
  | none=>rw [ht] at h;cases h
  | some x=>exact ⟨AZ.2 ⟨b1,hd _,b3,by show (without b.fThings r.fNum).length≤8;exact Nat.le_trans (List.length_filter_le ..) b4,b5,by show 0≤b.fCount+1∧b.fCount+1≤10000;omega,Zt _ b7⟩,rfl,rfl⟩
theorem Du (a b:ByteArray):(a.toList == b.toList)=(bs a == bs b):=by
 rw [toList_inj,Bool.eq_iff_iff,decide_eq_true_eq,beq_iff_eq]
 exact ⟨fun h=>by rw [h],bs_inj⟩
theorem Eu (x y:SThing):Fa x y=some (grown x y):=by
 rw [Fa,Gi,grown,Du,show (bs x.fValue == bs y.fValue)=(bs y.fValue == bs x.fValue) by rw [Bool.eq_iff_iff,beq_iff_eq,beq_iff_eq];exact ⟨Eq.symm,Eq.symm⟩,
  show (x.fKind == y.fKind)=(y.fKind == x.fKind) by rw [Bool.eq_iff_iff,beq_iff_eq,beq_iff_eq];exact ⟨Eq.symm,Eq.symm⟩]
 cases (y.fKind == x.fKind) <;> cases (bs y.fValue == bs x.fValue) <;> cases y.fSigns <;> cases x.fSigns <;> cases y.fWraps <;> cases x.fWraps <;> cases decide (x.fNext≤y.fNext) <;> cases y.fHidden <;> cases x.fHidden <;> cases y.fFixed <;> cases x.fFixed <;> rfl
theorem Xk {f:SThing→Bool} {l:List SThing} {i:Nat} (h:i<l.length):(l.take (i+1)).filter f=(l.take i).filter f++(bif f l[i] then [l[i]] else []):=by
 rw [take_at h,List.filter_append]
 congr 1
theorem Ap {l:List SThing} {x:SThing} (hl:l.length≤1000000000):Ia l x=some (putAt l x):=by
 have k1:∀ (j i m:Nat),i+j=l.length→FZ (m+j) (.c1 l (i:Int) x (BZ x l++[x]++(l.take i).filter (fun t=>decide (t.fId > x.fId))))=FZ m (.c1 l (l.length:Int) x (BZ x l++[x]++Fb x l)):=by
  intro j
  induction j with
  | zero=>(intro i m h;obtain rfl:i=l.length:=by omega);rw [List.take_length];rfl
  | succ j ih=>
   intro i m h
   have hi:i<l.length:=by omega
   have e:w64 ((i:Int)+1)=((i+1:Nat):Int):=by rw [w64_id (by omega) (by omega)];rfl
   have h2:=ih (i+1) m (by omega)
   rw [Xk hi] at h2
   have hf1:(BZ x l).length≤l.length:=List.length_filter_le ..
   have hf2:((l.take i).filter (fun t=>decide (t.fId > x.fId))).length≤i:=Nat.le_trans (List.length_filter_le ..) (by simp;omega)
   rw [show m+(j+1)=(m+j)+1 by omega,FZ]
   simp only [Ub,e,Int.toNat_natCast,getD_at hi]
   rw [cond_t (by simp;omega),cond_t (by simp;omega)]
   by_cases h3:l[i].fId > x.fId
   ·rw [decide_eq_true h3] at h2 ⊢
    rw [cond_true,cond_t (by simp;omega),cond_t (by simp only [List.length_append,List.length_singleton,decide_eq_true_eq];omega),←h2]
    simp
   ·rw [decide_eq_false h3] at h2 ⊢
    rw [cond_false,←h2]
    simp
 have k0:∀ (j i m:Nat),i+j=l.length→FZ (m+1+l.length+1+j) (.c0 l (i:Int) x ((l.take i).filter (fun t=>decide (t.fId<x.fId))))=some (putAt l x):=by
  intro j
  induction j with
  | zero=>
   intro i m h
   obtain rfl:i=l.length:=by omega
   have hf1:(BZ x l).length≤l.length:=List.length_filter_le ..
   rw [List.take_length,show l.filter (fun t=>decide (t.fId<x.fId))=BZ x l from rfl,Nat.add_zero,FZ]
   simp only [Ub]
   rw [cond_f (by simp),cond_t (by simp;omega)]
   have h2:=k1 l.length 0 (m+1) (by omega)
   rw [List.take_zero,List.filter_nil,List.append_nil,show ((0:Nat):Int)=0 from rfl] at h2
   rw [h2,FZ]
   simp only [Ub]
   rw [cond_f (by simp),putAt,List.append_assoc];rfl
  | succ j ih=>
   intro i m h
   have hi:i<l.length:=by omega
   have e:w64 ((i:Int)+1)=((i+1:Nat):Int):=by rw [w64_id (by omega) (by omega)];rfl
   have h2:=ih (i+1) m (by omega)
   rw [Xk hi] at h2
   have hf2:((l.take i).filter (fun t=>decide (t.fId<x.fId))).length≤i:=Nat.le_trans (List.length_filter_le ..) (by simp;omega)
   rw [show m+1+l.length+1+(j+1)=(m+1+l.length+1+j)+1 by omega,FZ]
   simp only [Ub,e,Int.toNat_natCast,getD_at hi]
   rw [cond_t (by simp;omega),cond_t (by simp;omega)]
   by_cases h3:l[i].fId<x.fId
   ·rw [decide_eq_true h3] at h2 ⊢
    rw [cond_true,cond_t (by simp;omega),cond_t (by simp only [decide_eq_true_eq];omega),←h2]
    simp
   ·rw [decide_eq_false h3] at h2 ⊢
    rw [cond_false,←h2]
    simp
 obtain ⟨m,hm⟩:∃ m,gas=m+1+l.length+1+l.length:=⟨gas - (2*l.length+2),by have:=gas_lt (n:=2*l.length+2) (by omega);omega⟩
 rw [Ia,Ii,hm]
 have h:=k0 l.length 0 m (by omega)
 rw [List.take_zero,List.filter_nil] at h
 exact h
theorem Gu {b:SBook} {r:SRec} (hb:b.fThings.length≤140737488351232):Ja b r=some (JY b r):=by
 have hok:(JY b r).2=true→_:=Fh (b:=b) (r:=r)
 rw [Ja,Ji,QZ,Option.bind_some,Yb hb,Option.bind_some]
 rw [JY] at hok ⊢
 cases h1:NY b
 ·rfl
 cases h2:(IK r).2
 ·rfl
 obtain ⟨b1,b2,b3,b4,b5,b6,b7⟩:=AZ.1 h1
 by_cases h3:b.fCount≥10000
 ·have h3':(b.fCount == 10000)=true:=by rw [beq_iff_eq];omega
  simp only [decide_eq_true h3,h3',Bool.not_true,Bool.or_true,Bool.false_or,cond_false,cond_true]
  rfl
 have hz:=Rk r
 have hw:w64 (b.fCount+1)=b.fCount+1:=w64_id (by omega) (by omega)
 have hdig:=p_spec_DigestOf (s:=b.fChain++(IK r).1) (by rw [ByteArray.size_append];omega)
 have hsz:decide (b.fChain.size+(IK r).1.size≤9223372036854775807)=true:=by rw [decide_eq_true_eq];omega
 have h3':(b.fCount == 10000)=false:=by rw [beq_eq_false_iff_ne];omega
 rw [h1,h2,decide_eq_false h3] at hok
 simp only [Bool.not_true,Bool.or_self,cond_false] at hok
 simp only [decide_eq_false h3,h3',Bool.not_true,Bool.or_self,cond_false,Ot (show b.fThings.length≤2932031007317 by omega),hdig,hsz,hw,Option.bind_some,cond_true]
 rcases Yo h2 with ⟨hk,hc⟩ | ⟨hk,hc⟩ | ⟨hk,hc⟩ | ⟨hk,hc⟩
 ·rw [hk] at hok ⊢
  simp only [show ((1:Int) == 1)=true from rfl,cond_true] at hok ⊢
  have h5:=(hok trivial).2.2.2.1
  rw [Yb (by simp only;omega),Option.bind_some,h5];rfl
 ·rw [hk] at hok ⊢
  simp only [show ((2:Int) == 1)=false from rfl,show ((2:Int) == 2)=true from rfl,cond_true,cond_false] at hok ⊢
  have h5:=(hok trivial).2.2.2.1
  rw [Yb (by simp only;omega),Option.bind_some,h5];rfl
 ·rw [hk] at hok ⊢
  simp only [show ((3:Int) == 1)=false from rfl,show ((3:Int) == 2)=false from rfl,show ((3:Int) == 3)=true from rfl,cond_true,cond_false] at hok ⊢
  have hid:=(thingOk_kind hc)
  have hpl:(putAt b.fThings r.fThing).length≤1000:=by
   have f1:(BZ r.fThing b.fThings).length≤b.fThings.length:=List.length_filter_le ..
   have f2:(Fb r.fThing b.fThings).length≤b.fThings.length:=List.length_filter_le ..
   rw [putAt,List.length_append,List.length_cons];omega
  rw [Xo hb,Option.bind_some]
  rw [Vk] at hok ⊢
  cases ht:CV b.fThings r.fThing.fId with
  | some o=>
   rw [ht] at hok
   simp only [cond_true,Eu,Option.bind_some,Bool.not_true,cond_false,Ap (show b.fThings.length≤1000000000 by omega)] at hok ⊢
   cases hg:grown o r.fThing
   ·rfl
   ·rw [hg] at hok
    simp only [cond_true] at hok
    have h5:=(hok trivial).2.2.2.1
    simp only [Bool.not_true,cond_false,cond_true]
    rw [Yb (by simp only;omega),Option.bind_some,h5];rfl
  | none=>
   rw [ht] at hok
   have hw2:w64 (b.fLast+1)=b.fLast+1:=w64_id (by omega) (by omega)
   simp only [cond_false,Bool.not_false,cond_true,hw2,Ap (show b.fThings.length≤1000000000 by omega),Option.bind_some] at hok ⊢
   cases hg:(r.fThing.fId != b.fLast+1)
   ·rw [hg] at hok
    rw [bne_eq_false_iff_eq] at hg
    have hpn:=(Vt b7 (show b.fLast<r.fThing.fId by omega)).1
    by_cases h8:(b.fThings.length:Int)≥8
    ·rw [decide_eq_true h8,cond_false,cond_t (by rw [beq_iff_eq];omega)];rfl
    ·rw [decide_eq_false h8] at hok ⊢
     simp only [Bool.or_false,cond_false] at hok
     have h5:=(hok trivial).2.2.2.1
     rw [hpn] at hpl ⊢
     rw [cond_false,cond_f (by rw [beq_eq_false_iff_ne];omega),Yb (by simp only;omega),Option.bind_some,h5];rfl
   ·rfl
 ·rw [hk] at hok ⊢
  simp only [show ((4:Int) == 1)=false from rfl,show ((4:Int) == 2)=false from rfl,show ((4:Int) == 3)=false from rfl,show ((4:Int) == 4)=true from rfl,cond_true,cond_false] at hok ⊢
  rw [Xo hb,Option.bind_some]
  cases ht:CV b.fThings r.fNum with
  | none=>rfl
  | some o=>
   rw [ht] at hok
   simp only [Bool.not_true,cond_false] at hok ⊢
   have h5:=(hok trivial).2.2.2.1
   have key:∀ (j i m:Nat),i+j=b.fThings.length→Ed (m+j+1) (.c0 (IK r).1 (i:Int) b r ⟨#[]⟩ 0 0 ⟨#[]⟩ 0 b.fWord b.fTries b.fLast b.fChain b.fCount ((b.fThings.take i).filter (fun t=>t.fId != r.fNum)) [] b.fThings)=some (⟨b.fWord,b.fTries,without b.fThings r.fNum,b.fLast,dig (b.fChain++(IK r).1),b.fCount+1⟩,true):=by
    intro j
    induction j with
    | zero=>
     intro i m hi
     obtain rfl:i=b.fThings.length:=by omega
     have hf1:(without b.fThings r.fNum).length≤b.fThings.length:=List.length_filter_le ..
     rw [List.take_length,show b.fThings.filter (fun t=>t.fId != r.fNum)=without b.fThings r.fNum from rfl,Ed]
     simp only [Vf,hdig,hsz,hw,Option.bind_some,cond_true]
     rw [cond_f (by simp),Yb (by simp only;omega),Option.bind_some,h5];rfl
    | succ j ih=>
     intro i m hi
     have hil:i<b.fThings.length:=by omega
     have e:w64 ((i:Int)+1)=((i+1:Nat):Int):=by rw [w64_id (by omega) (by omega)];rfl
     have h6:=ih (i+1) m (by omega)
     rw [Xk hil] at h6
     have hf2:((b.fThings.take i).filter (fun t=>t.fId != r.fNum)).length≤i:=Nat.le_trans (List.length_filter_le ..) (by simp;omega)
     rw [show m+(j+1)+1=(m+j+1)+1 by omega,Ed]
     simp only [Vf,e,Int.toNat_natCast,getD_at hil]
     rw [cond_t (by simp;omega),cond_t (by simp;omega)]
     cases h7:(b.fThings[i].fId != r.fNum)
     ·rw [h7] at h6
      rw [cond_false,←h6];simp
     ·rw [h7] at h6
      rw [cond_true,cond_t (by simp;omega),cond_t (by simp only [decide_eq_true_eq];omega),←h6];simp
   obtain ⟨m,hm⟩:∃ m,gas=m+b.fThings.length+1:=⟨gas - (b.fThings.length+1),by have:=gas_lt (n:=b.fThings.length+1) (by omega);omega⟩
   have h0:=key b.fThings.length 0 m (by omega)
   rw [List.take_zero,List.filter_nil] at h0
   rw [hm]
   exact h0
def UY (b:SBook):List SRec→SBook×Bool
 | []=>(b,true)
 | r::rs=>bif (JY b r).2 then UY (JY b r).1 rs else (Oe,false)
theorem Xv {b:SBook} {r:SRec} (h:(JY b r).2=true):(JY b r).1.fThings.length≤8:=(AZ.1 (Fh h).2.2.2.1).2.2.2.1
theorem Yv {rs:List SRec}:∀ {b:SBook},NY b=true→(UY b rs).2=true→NY (UY b rs).1=true:=by
 induction rs with
 | nil=>intro b h _;exact h
 | cons r rs ih=>
  intro b h h2
  rw [UY] at h2 ⊢
  cases h3:(JY b r).2
  ·rw [h3] at h2;cases h2
  ·rw [h3,cond_true] at h2
   rw [cond_true]
   exact ih (Fh h3).2.2.2.1 h2
theorem Hu:NY Vb=true:=AZ.2 ⟨dig_size _,by rw [Vb,ofBytes_size];rfl,(by decide:(0:Int)≤0∧(0:Int)≤3),(by decide:0≤8),(by decide:(0:Int)≤0∧(0:Int)≤1000),(by decide:(0:Int)≤0∧(0:Int)≤10000),rfl⟩
theorem Iu {l k:List SRec}:∀ {b:SBook},UY b (l++k)=bif (UY b l).2 then UY (UY b l).1 k else (Oe,false):=by
 induction l with
 | nil=>intro b;rfl
 | cons r rs ih=>
  intro b
  rw [List.cons_append,UY,UY,ih]
  cases (JY b r).2 <;> rfl
def Ac (l:List SRec) (b:SBook):Prop:=UY Vb l=(b,true)∧NY b=true∧(∀ x ∈ l,x.fNum≤9223372036854775807)
theorem Ju:Ac [] Vb:=⟨rfl,Hu,fun x hx=>by cases hx⟩
theorem Ku {l:List SRec} {b:SBook} {r:SRec} (h:Ac l b) (hr:r.fNum≤9223372036854775807) (he:(JY b r).2=true):Ac (l++[r]) (JY b r).1:=by
 refine ⟨?_,(Fh he).2.2.2.1,fun x hx=>?_⟩
 ·rw [Iu,h.1,cond_true,UY,he];rfl
 ·rcases List.mem_append.1 hx with hx | hx
  ·exact h.2.2 x hx
  ·rw [List.mem_singleton] at hx;rw [hx];exact hr
theorem Yk {b:SBook} (h:NY b=true):∀ x ∈ b.fThings,x.fId≤1000:=fun x hx=>by
 obtain ⟨_,_,_,_,h5,_,h7⟩:=AZ.1 h
 have:=Me h7 x hx
 omega
theorem Dp {c:SL01Cur} (hc:Cur c):Ok (La c) fun r=>(Ac r.1 r.2.1∧r.1.length≤12)∧Cur r.2.2:=by
 have key:∀ (j i m:Nat) (a h:Int) (b:SBook) (l:List SRec),i+j=12→0≤a→Ac l b→l.length≤i→Ok (Ld (m+j+1) (.c0 (i:Int) a h ⟨#[]⟩ 0 0 ⟨#[]⟩ 0 b.fWord b.fTries b.fLast b.fChain b.fCount l [] b.fThings)) fun r=>(Ac r.1 r.2.1∧r.1.length≤12)∧Cur r.2.2:=by
  intro j
  induction j with
  | zero=>
   intro i m a h b l hi ha hd hl
   rw [Ld];simp only [Yf]
   refine Ok.bind (p_spec_l01Below (c:=⟨(),a,h⟩) ha) fun n hn=>?_
   have h1:=hn.1.2.1 (by omega)
   rw [cond_f (by rw [decide_eq_false_iff_not];omega)]
   exact Ok.ret ⟨⟨hd,by show l.length≤12;omega⟩,hn.2⟩
  | succ j ih=>
   intro i m a h b l hi ha hd hl
   have hw:w64 ((i:Int)+1)=((i+1:Nat):Int):=by rw [w64_id (by omega) (by omega)];rfl
   rw [show m+(j+1)+1=(m+j+1)+1 from rfl,Ld]
   simp only [Yf,hw]
   refine Ok.bind (p_spec_l01Below (c:=⟨(),a,h⟩) ha) fun n hn=>Ok.cond (fun _=>?_) fun _=>Ok.ret ⟨⟨hd,by show l.length≤12;omega⟩,hn.2⟩
   have hlen:=(AZ.1 hd.2.1).2.2.2.1
   refine Ok.bind (Jo hn.2 (b:=b) fun x hx=>by have:=Yk hd.2.1 x hx;omega) fun r hr=>Ok.bind (Ok.eq (Gu (b:=b) (r:=r.1) (by omega))) fun e he=>?_
   subst he
   refine Ok.cond (fun h2=>Ok.chk (by rw [decide_eq_true_eq];omega) ?_) fun _=>?_
   ·exact ih (i+1) m _ _ (JY b r.1).1 _ (by omega) hr.2 (Ku hd hr.1 h2) (by rw [List.length_append,List.length_singleton];omega)
   ·exact ih (i+1) m _ _ b l (by omega) hr.2 hd (by omega)
 rw [La,Oi,Vs,Option.bind_some]
 obtain ⟨m,hm⟩:∃ m,gas=m+12+1:=⟨gas - 13,rfl⟩
 rw [hm]
 exact key 12 0 m _ _ Vb [] rfl hc Ju (Nat.le_refl 0)
theorem p_spec_l19Any {c:SL01Cur} (hc:Cur c):Ok (spec_l19Any c) fun r=>(r.1.fValue.size≤200)∧Cur r.2:=by
 rw [spec_l19Any,E_spec_l19Any]
 refine Ok.bind (p_spec_l19Thing hc) fun x hx=>Ok.bind (p_spec_l01Below hx.2) fun a ha=>?_
 have hs:=(thingOk_kind hx.1).2.2.2.2.2.2
 refine Ok.cond (fun _=>Ok.bind (p_spec_l01PickInt ha.2 (by decide)) fun r hr=>Ok.ret ⟨?_,hr.2⟩) fun _=>Ok.cond (fun _=>Ok.bind (p_spec_l01Below ha.2) fun r hr=>Ok.ret ⟨?_,hr.2⟩) fun _=>Ok.cond (fun _=>Ok.ret ⟨?_,ha.2⟩) fun _=>Ok.cond (fun _=>Ok.ret ⟨?_,ha.2⟩) fun _=>
  Ok.cond (fun _=>Ok.bind (p_spec_l01PickInt ha.2 (by decide)) fun r hr=>Ok.ret ⟨?_,hr.2⟩) fun _=>Ok.cond (fun _=>Ok.bind (p_spec_l01PickInt ha.2 (by decide)) fun r hr=>?_) fun _=>Ok.ret ⟨?_,ha.2⟩
 all_goals try (show x.1.fValue.size≤200;omega)
 have h5:31≤r.1∧r.1≤101:=by
  have:=hr.1
  simp only [List.mem_cons,List.not_mem_nil,or_false] at this
  omega
 exact Ok.bind (ok_l01Long (by omega) (by omega)) fun s hs=>Ok.ret ⟨by show s.size≤200;omega,hr.2⟩
theorem Ep {c:SL01Cur} {b:SBook} (hc:Cur c) (hb:∀ x ∈ b.fThings,x.fId≤9223372036854775807):Ok (Na c b) fun r=>r.1.fNum≤9223372036854775807∧Cur r.2:=by
 rw [Na,Qi]
 refine Ok.bind (Jo hc hb) fun r hr=>Ok.bind (p_spec_l01Below hr.2) fun a ha=>Ok.cond (fun _=>?_) fun _=>Ok.cond (fun _=>?_) fun _=>Ok.cond (fun _=>Ok.ret ⟨hr.1,ha.2⟩) fun _=>Ok.cond (fun _=>?_) fun _=>Ok.ret ⟨hr.1,ha.2⟩
 ·exact Ok.bind (p_spec_l01Below ha.2) fun q hq=>Ok.ret ⟨hr.1,hq.2⟩
 ·refine Ok.bind (p_spec_l01PickInt ha.2 (Nat.succ_pos _)) fun q hq=>Ok.ret ⟨?_,hq.2⟩
  have:=hq.1
  simp only [List.mem_cons,List.not_mem_nil,or_false] at this
  show q.1≤9223372036854775807;omega
 ·exact Ok.bind (p_spec_l19Any ha.2) fun q hq=>Ok.ret ⟨hr.1,hq.2⟩
theorem Lu:Ok (Md ()) fun r=>r.fNum≤9223372036854775807:=by
 rw [Md,Si]
 exact Ok.bind p_spec_l01New fun c hc=>Ok.bind (Dp hc) fun l hl=>Ok.bind (Ep hl.2 fun x hx=>by have:=Yk hl.1.1.2.1 x hx;omega) fun r hr=>Ok.ret hr.1
theorem Gh {n:Int} (h:n≤9223372036854775807):LZ n=some (ofBytes (TB n)):=by
 have key:∀ (n:Int) (m:Nat) (out:List Int),n≤9223372036854775807→(TB n).length≤m→out.length+(TB n).length≤1000→Ud m (.c0 n out)=some (ofBytes (out++TB n)):=by
  intro n
  induction n using TB.induct with
  | case1 n hn ih=>
   intro m out h1 h2 h3
   rw [TB,if_pos hn] at h2 h3 ⊢
   simp only [List.length_cons] at h2 h3
   obtain ⟨m,rfl⟩:∃ k,m=k+1:=⟨m - 1,by omega⟩
   obtain ⟨e1,_,e2⟩:=Oo hn h1
   simp only [Ud,Ag,e1,e2]
   rw [show decide (n > 127)=true from decide_eq_true hn,show decide ((out.length+1)*1≤140737488355328)=true from decide_eq_true (by omega)]
   simp only [cond_true]
   rw [ih m _ (by omega) (by omega) (by simp;omega)]
   simp
  | case2 n hn=>
   intro m out h1 h2 h3
   rw [TB,if_neg hn] at h2 h3 ⊢
   simp at h2 h3
   obtain ⟨m,rfl⟩:∃ k,m=k+1:=⟨m - 1,by omega⟩
   simp only [Ud,Ag]
   rw [show decide (n > 127)=false from decide_eq_false hn,show decide ((out.length+1)*1≤140737488355328)=true from decide_eq_true (by omega)]
   rfl
 have hl:=CZ h
 exact key n gas [] h (Nat.le_of_lt (gas_lt (by omega))) (by simp;omega)
theorem p_impl_in (x a b:Int):impl_in x a b=some (inR x a b):=by
 show (bif decide (a≤x) then some (decide (x≤b)) else some false)=some (inR x a b)
 unfold inR;cases decide (a≤x) <;> rfl
theorem p_impl_ThingOk (x:SThing):impl_ThingOk x=some (thingOk x):=by
 simp only [impl_ThingOk,E_impl_ThingOk,p_impl_in,Option.bind_some,thingOk,bne]
 by_cases k1:x.fKind=1
 ·rw [k1]
  cases inR x.fId 1 1000 <;> cases inR x.fNext 0 16 <;> cases (x.fNext == 0) <;> cases x.fSigns <;> cases x.fWraps <;> simp [inR]
 ·by_cases k2:x.fKind=2
  ·rw [k2]
   cases inR x.fId 1 1000 <;> cases inR x.fNext 0 16 <;> cases (x.fNext == 0) <;> cases x.fSigns <;> cases x.fWraps <;> simp [inR]
  ·by_cases k3:x.fKind=3
   ·rw [k3]
    cases inR x.fId 1 1000 <;> cases inR x.fNext 0 16 <;> cases (x.fNext == 0) <;> cases x.fSigns <;> cases x.fWraps <;> simp [inR]
   ·have hr:inR x.fKind 1 3=false:=by
     cases h:inR x.fKind 1 3
     ·rfl
     ·rw [inR_iff] at h;omega
    have e1:(x.fKind == 1)=false:=by simpa using k1
    have e2:(x.fKind == 2)=false:=by simpa using k2
    have e3:(x.fKind == 3)=false:=by simpa using k3
    rw [hr,e1,e2,e3]
    cases inR x.fId 1 1000 <;> cases inR x.fNext 0 16 <;> cases (x.fNext == 0) <;> cases x.fSigns <;> cases x.fWraps <;> rfl
theorem Bc {n:Int} (h:0≤n) (h2:n≤255):Oa n=some (ofBytes [n]):=by
 simp only [Oa,Wi,w8_id h h2]
theorem Nu {s:ByteArray} (h:s.size≤140737488351232):Yd s=some (ZY s):=by
 simp only [Yd,Bj,Gh (n:=(s.size:Int)) (by omega),Option.bind_some]
 have:=CZ (n:=(s.size:Int)) (by omega)
 rw [show decide ((ofBytes (TB (s.size:Int))).size+s.size≤9223372036854775807)=true from decide_eq_true (by rw [ofBytes_size];omega)]
 rfl
theorem Zk (x:SThing):Qa x=some (NM x):=by
 simp only [Qa,Cj,p_impl_ThingOk,Option.bind_some,NM]
 cases h:thingOk x
 ·rfl
 ·obtain ⟨k1,k2,k3,k4,k5,k6,k7⟩:=thingOk_kind h
  obtain ⟨z1,z2,z3⟩:=Jk h
  have hf:=Je x
  have e1:∀ n:Int,(ofBytes [n]).size=1:=fun n=>ofBytes_size _
  simp only [Ht,Option.bind_some,Gh (n:=x.fId) (by omega),Bc (n:=x.fKind) (by omega) (by omega),Bc hf.1 (by omega),Nu (s:=x.fValue) (by omega),Gh (n:=x.fNext) (by omega),ba_append_size,e1]
  simp only [Bool.not_true,cond_false,cond_true]
  rw [show decide ((ofBytes (TB x.fId)).size+1≤9223372036854775807)=true from decide_eq_true (by omega),show decide ((ofBytes (TB x.fId)).size+1+1≤9223372036854775807)=true from decide_eq_true (by omega),
   show decide ((ofBytes (TB x.fId)).size+1+1+(ZY x.fValue).size≤9223372036854775807)=true from decide_eq_true (by omega),show decide ((ofBytes (TB x.fId)).size+1+1+(ZY x.fValue).size+(ofBytes (TB x.fNext)).size≤9223372036854775807)=true from decide_eq_true (by omega)]
  rfl
theorem KZ {r:SRec} (g:r.fNum≤9223372036854775807):Ua r=some (IK r):=by
 simp only [Ua,Ej,p_impl_in,Zk,Gh g,Option.bind_some,Ro]
 simp only [Qk,IK]
 cases k1:r.fKind == 1
 ·simp only [cond_false]
  cases k2:r.fKind == 2
  ·simp only [cond_false]
   cases k3:r.fKind == 3
   ·simp only [cond_false]
    cases k4:r.fKind == 4
    ·rfl
    ·have k:r.fKind=4:=by simpa using k4
     rw [k]
     simp only [beq_self_eq_true,Bc (n:=4) (by omega) (by omega),Option.bind_some,Bool.true_and,cond_true]
     cases h:inR r.fNum 1 1000
     ·cases FN r.fText <;> cases SN r.fThing <;> rfl
     ·cases FN r.fText <;> cases SN r.fThing <;> (try rfl)
      simp only [Bool.not_true,cond_false,cond_true,Bool.and_self,decide_eq_true (Eh (by omega) h 4)]
   ·have k:r.fKind=3:=by simpa using k3
    rw [k]
    simp only [beq_self_eq_true,Bc (n:=3) (by omega) (by omega),Option.bind_some,Bool.true_and,cond_true,Bool.and_true]
    cases h:(NM r.fThing).2
    ·cases FN r.fText <;> cases r.fNum == 0 <;> rfl
    ·cases FN r.fText <;> cases r.fNum == 0 <;> (try rfl)
     simp only [Bool.not_true,cond_false,cond_true,Bool.and_self,decide_eq_true (Uo h 3)]
  ·have k:r.fKind=2:=by simpa using k2
   rw [k]
   simp only [beq_self_eq_true,Bc (n:=2) (by omega) (by omega),Option.bind_some,Bool.true_and,cond_true]
   cases h:inR r.fNum 0 3
   ·cases FN r.fText <;> cases SN r.fThing <;> rfl
   ·cases FN r.fText <;> cases SN r.fThing <;> (try rfl)
    simp only [Bool.not_true,cond_false,cond_true,Bool.and_self,decide_eq_true (Eh (by omega) h 2)]
 ·have k:r.fKind=1:=by simpa using k1
  rw [k]
  simp only [beq_self_eq_true,Bc (n:=1) (by omega) (by omega),Option.bind_some,Bool.true_and,cond_true]
  cases h:(r.fText.size:Int) == 32 <;> cases r.fNum == 0 <;> cases SN r.fThing <;> (try rfl)
  have h':r.fText.size=32:=by have:=beq_iff_eq.1 h;omega
  have e:(ofBytes [1]).size+r.fText.size≤9223372036854775807:=by rw [ofBytes_size];simp only [List.length_singleton];omega
  simp only [Bool.not_true,cond_false,cond_true,Bool.and_self,decide_eq_true e]
def pw (k:Nat):Int:=128 ^ k
theorem Cc:pw 0=1:=rfl
theorem Bl (k:Nat):pw (k+1)=pw k*128:=Int.pow_succ ..
theorem Ib {k:Nat} (h:k<5):pw k=1∨pw k=128∨pw k=16384∨pw k=2097152∨pw k=268435456:=by
 rcases (by omega:k=0∨k=1∨k=2∨k=3∨k=4) with rfl | rfl | rfl | rfl | rfl
 ·exact .inl rfl
 ·exact .inr (.inl rfl)
 ·exact .inr (.inr (.inl rfl))
 ·exact .inr (.inr (.inr (.inl rfl)))
 ·exact .inr (.inr (.inr (.inr rfl)))
def Jb:Int×Int×Bool:=(0,0,false)
def RV (text:ByteArray) (a:Nat) (r:Int×Int×Bool):Prop:=r=Jb∨∃ v:Int,∃ q:Nat,r=(v,((q:Nat):Int),true)∧0≤v∧v≤1000000000∧a<q∧q≤text.size
def At (text:ByteArray) (p:Nat) (l:List Int):Prop:=∃ rest,(bs text).drop p=l++rest
theorem At.left {text:ByteArray} {p:Nat} {l m:List Int} (h:At text p (l++m)):At text p l:=by
 obtain ⟨r,hr⟩:=h;exact ⟨m++r,by rw [hr,List.append_assoc]⟩
theorem At.right {text:ByteArray} {p:Nat} {l m:List Int} (h:At text p (l++m)):At text (p+l.length) m:=by
 obtain ⟨r,hr⟩:=h;exact ⟨r,by rw [←List.drop_drop,hr,List.append_assoc,List.drop_left]⟩
theorem At.size {text:ByteArray} {p:Nat} {l:List Int} (h:At text p l):l=[]∨p+l.length≤text.size:=by
 obtain ⟨r,hr⟩:=h
 have:=congrArg List.length hr
 rw [List.length_drop,bs_len,List.length_append] at this
 cases l with
 | nil=>exact .inl rfl
 | cons x xs=>right;simp only [List.length_cons] at this ⊢;omega
theorem At.head {text:ByteArray} {p:Nat} {x:Int} {l:List Int} (h:At text p (x::l)):p<text.size∧bt text (p:Int)=x:=by
 have hs:p+(x::l).length≤text.size:=by rcases h.size with h | h;exact absurd h (by simp);exact h
 simp only [List.length_cons] at hs
 have hp:p<text.size:=by omega
 refine ⟨hp,?_⟩
 rw [bt_eq hp]
 obtain ⟨r,hr⟩:=h
 have hl:p<(bs text).length:=by rw [bs_len];exact hp
 rw [List.drop_eq_getElem_cons hl] at hr
 injection hr
theorem At.tail {text:ByteArray} {p:Nat} {x:Int} {l:List Int} (h:At text p (x::l)):At text (p+1) l:=At.right (l:=[x]) h
theorem At.extract {text:ByteArray} {p:Nat} {l:List Int} (h:At text p l) (hl:∀ n,n ∈ l→0≤n∧n≤255):text.extract p (p+l.length)=ofBytes l:=by
 apply bs_inj
 rw [bs_extract,bs_ofBytes hl]
 obtain ⟨r,hr⟩:=h
 rw [List.drop_take,hr]
 simp
theorem RZ:∀ (n:Int),0≤n→∀ x,x ∈ TB n→0≤x∧x≤255:=by
 intro n
 induction n using TB.induct with
 | case1 n hn ih=>
  intro h x hx
  rw [TB,if_pos hn] at hx
  rcases List.mem_cons.1 hx with rfl | hx
  ·omega
  ·exact ih (by omega) x hx
 | case2 n hn=>
  intro h x hx
  rw [TB,if_neg hn,w8_id h (by omega)] at hx
  rw [List.mem_singleton] at hx
  omega
theorem Ih {n:Int} (h:0≤n) (h2:n≤127):TB n=[n]:=by
 rw [TB,if_neg (by omega),w8_id h (by omega)]
theorem Fp {n:Int} (h:n≤1000000000):(TB n).length≤5:=by
 have:=Ko 5 n (by (have:(128:Int) ^ 5=34359738368:=by decide);omega)
 omega
theorem Gp {text:ByteArray} {a k m:Nat} {n s:Int} (hs:text.size≤140737488351232) (ha:a≤text.size) (hi:text.size≤a+k∨5≤k):IZ (m+1) (.c0 text a n s ((a+k:Nat):Int))=some Jb:=by
 simp only [IZ,Zg]
 by_cases h:a+k<text.size
 ·rw [show decide (((a+k:Nat):Int)<(text.size:Int))=true from decide_eq_true (by omega),w64_id (n:=(a:Int)+5) (by omega) (by omega),show decide (((a+k:Nat):Int)<(a:Int)+5)=false from decide_eq_false (by omega)]
  rfl
 ·rw [show decide (((a+k:Nat):Int)<(text.size:Int))=false from decide_eq_false (by omega)]
  rfl
theorem Dc {k:Nat} {n b:Int} (hk:k<5) (h0:0≤n) (h1:n<pw k) (hb:0≤b∧b≤255) :
  (b<128→b.tmod 128=b∧w64 (b*pw k)=b*pw k∧w64 (n+b*pw k)=n+b*pw k∧0≤n+b*pw k∧n+b*pw k<pw (k+1))∧
  (¬ b<128→b.tmod 128=b - 128∧w64 ((b - 128)*pw k)=(b - 128)*pw k∧w64 (n+(b - 128)*pw k)=n+(b - 128)*pw k∧0≤n+(b - 128)*pw k∧n+(b - 128)*pw k<pw (k+1))∧w64 (pw k*128)=pw (k+1):=by
 rw [Bl]
 have e:b.tmod 128=b % 128:=Int.tmod_eq_emod_of_nonneg hb.1
 refine ⟨fun h=>?_,fun h=>?_,?_⟩
 ·have hc:0≤b*pw k∧b*pw k≤34091302912∧b*pw k≤127*pw k:=by rcases Ib hk with e | e | e | e | e <;> rw [e] <;> omega
  have hp:pw k≤268435456:=by rcases Ib hk with e | e | e | e | e <;> rw [e] <;> omega
  exact ⟨by rw [e];omega,w64_id (by omega) (by omega),w64_id (by omega) (by omega),by omega,by omega⟩
 ·have hc:0≤(b - 128)*pw k∧(b - 128)*pw k≤34091302912∧(b - 128)*pw k≤127*pw k:=by rcases Ib hk with e | e | e | e | e <;> rw [e] <;> omega
  have hp:pw k≤268435456:=by rcases Ib hk with e | e | e | e | e <;> rw [e] <;> omega
  exact ⟨by rw [e];omega,w64_id (by omega) (by omega),w64_id (by omega) (by omega),by omega,by omega⟩
 ·rcases Ib hk with e | e | e | e | e <;> rw [e,w64_id (by omega) (by omega)]
theorem Dl {text:ByteArray} {a k m:Nat} {n b:Int} (hs:text.size≤140737488351232) (hk:k<5) (hi:a+k<text.size) (h0:0≤n) (h1:n<pw k) (hb:bt text ((a+k:Nat):Int)=b) :
  IZ (m+1) (.c0 text a n (pw k) ((a+k:Nat):Int))=if b<128 then (if n+b*pw k > 1000000000 then some Jb else if ofBytes (TB (n+b*pw k))=text.extract a (a+k+1) then some (n+b*pw k,((a+k+1:Nat):Int),true) else some Jb) else IZ m (.c0 text a (n+(b - 128)*pw k) (pw (k+1)) ((a+k+1:Nat):Int)):=by
 have hb':=bt_byte text ((a+k:Nat):Int)
 rw [hb] at hb'
 obtain ⟨n1,n2,n3⟩:=Dc hk h0 h1 hb'
 have hw:w64 (((a+k:Nat):Int)+1)=((a+k+1:Nat):Int):=by rw [w64_id (by omega) (by omega)];omega
 simp only [IZ,Zg,hb,w64_id (n:=b) (by omega) (by omega),n3,hw,Int.toNat_natCast]
 rw [show decide (((a+k:Nat):Int)<(text.size:Int))=true from decide_eq_true (by omega),w64_id (n:=(a:Int)+5) (by omega) (by omega),show decide (((a+k:Nat):Int)<(a:Int)+5)=true from decide_eq_true (by omega),
  show decide ((0:Int)≤((a+k:Nat):Int))=true from decide_eq_true (by omega)]
 simp only [Bool.and_self,cond_true]
 by_cases h:b<128
 ·obtain ⟨e1,e2,e3,e4,_⟩:=n1 h
  rw [if_pos h,e1,e2,e3,show decide (b<128)=true from decide_eq_true h]
  by_cases h2:n+b*pw k > 1000000000
  ·rw [if_pos h2,show decide (n+b*pw k > 1000000000)=true from decide_eq_true h2];rfl
  ·rw [if_neg h2,show decide (n+b*pw k > 1000000000)=false from decide_eq_false h2,Xb (by omega)]
   simp only [cond_true,cond_false,Option.bind_some]
   rw [show decide ((0:Int)≤(a:Int))=true from decide_eq_true (by omega),show decide ((a:Int)≤((a+k+1:Nat):Int))=true from decide_eq_true (by omega),show decide (((a+k+1:Nat):Int)≤(text.size:Int))=true from decide_eq_true (by omega),toList_inj]
   by_cases h3:ofBytes (TB (n+b*pw k))=text.extract a (a+k+1)
   ·rw [if_pos h3,decide_eq_true h3];rfl
   ·rw [if_neg h3,decide_eq_false h3];rfl
 ·obtain ⟨e1,e2,e3,_,_⟩:=n2 h
  rw [if_neg h,e1,e2,e3,show decide (b<128)=false from decide_eq_false h]
  rfl
theorem Ou {text:ByteArray} {a:Nat} (hs:text.size≤140737488351232) (ha:a≤text.size):∀ j k m n,k+j=5→j<m→0≤n→n<pw k→∃ r,IZ m (.c0 text a n (pw k) ((a+k:Nat):Int))=some r∧RV text a r:=by
 intro j
 induction j with
 | zero=>
  intro k m n hk hm _ _
  obtain ⟨m,rfl⟩:∃ q,m=q+1:=⟨m - 1,by omega⟩
  exact ⟨_,Gp hs ha (.inr (by omega)),.inl rfl⟩
 | succ j ih=>
  intro k m n hk hm h0 h1
  obtain ⟨m,rfl⟩:∃ q,m=q+1:=⟨m - 1,by omega⟩
  by_cases hi:a+k<text.size
  ·have hb:=bt_byte text ((a+k:Nat):Int)
   generalize hbe:bt text ((a+k:Nat):Int)=b at hb
   obtain ⟨n1,n2,_⟩:=Dc (b:=b) (by omega:k<5) h0 h1 hb
   rw [Dl hs (by omega) hi h0 h1 hbe]
   split
   ·rename_i h
    split
    ·exact ⟨_,rfl,.inl rfl⟩
    ·split
     ·exact ⟨_,rfl,.inr ⟨_,_,rfl,(n1 h).2.2.2.1,by omega,by omega,by omega⟩⟩
     ·exact ⟨_,rfl,.inl rfl⟩
   ·rename_i h
    obtain ⟨_,_,_,e4,e5⟩:=n2 h
    exact ih (k+1) m _ (by omega) (by omega) e4 e5
  ·exact ⟨_,Gp hs ha (.inl (by omega)),.inl rfl⟩
theorem Qu {text:ByteArray} {a:Nat} {V:Int} (hs:text.size≤140737488351232) (hV0:0≤V) (hV:V≤1000000000) (hA:At text a (TB V)):∀ U k m n,TB U=(TB V).drop k→0≤U→n+pw k*U=V→0≤n→n<pw k→5<m+k→IZ m (.c0 text a n (pw k) ((a+k:Nat):Int))=some (V,((a+(TB V).length:Nat):Int),true):=by
 have h5:=Fp hV
 intro U
 induction U using TB.induct with
 | case1 U hU ih=>
  intro k m n e1 u0 e2 h0 h1 hm
  have hl:=congrArg List.length e1
  rw [List.length_drop] at hl
  have hp:=PZ U
  have hk:k<5:=by omega
  obtain ⟨m,rfl⟩:∃ q,m=q+1:=⟨m - 1,by omega⟩
  have hA':At text (a+k) (TB U):=by
   have:At text a ((TB V).take k++(TB V).drop k):=by rw [List.take_append_drop];exact hA
   have:=this.right
   rw [List.length_take,Nat.min_eq_left (by omega),←e1] at this
   exact this
  have e3:=e1
  rw [TB,if_pos hU] at hA' e3
  obtain ⟨hi,hb⟩:=hA'.head
  obtain ⟨n1,n2,_⟩:=Dc (b:=128+U % 128) hk h0 h1 (by omega)
  obtain ⟨_,_,_,e4,e5⟩:=n2 (by omega)
  rw [Dl hs hk hi h0 h1 hb,if_neg (by omega)]
  refine ih (k+1) m _ ?_ (by omega) ?_ e4 e5 (by omega)
  ·rw [←List.drop_drop,←e3];rfl
  ·rw [Bl]
   rcases Ib hk with e | e | e | e | e <;> rw [e] at e2 ⊢ <;> omega
 | case2 U hU=>
  intro k m n e1 u0 e2 h0 h1 hm
  have hl:=congrArg List.length e1
  rw [List.length_drop] at hl
  have hp:=PZ U
  have hk:k<5:=by omega
  obtain ⟨m,rfl⟩:∃ q,m=q+1:=⟨m - 1,by omega⟩
  have hA':At text (a+k) (TB U):=by
   have:At text a ((TB V).take k++(TB V).drop k):=by rw [List.take_append_drop];exact hA
   have:=this.right
   rw [List.length_take,Nat.min_eq_left (by omega),←e1] at this
   exact this
  rw [Ih u0 (by omega)] at hA' hl
  simp only [List.length_singleton] at hl
  obtain ⟨hi,hb⟩:=hA'.head
  have e3:n+U*pw k=V:=by rw [Int.mul_comm];exact e2
  have e4:a+k+1=a+(TB V).length:=by omega
  rw [Dl hs hk hi h0 h1 hb,if_pos (by omega),e3,if_neg (by omega),e4,if_pos (hA.extract (RZ V hV0)).symm]
theorem Ru {text:ByteArray} {a:Nat} (hs:text.size≤140737488351232) (ha:a≤text.size):∃ r,Za text a=some r∧RV text a r:=by
 simp only [Za,Yg,p_spec_l01In,Option.bind_some]
 rw [show inR (a:Int) 0 (text.size:Int)=true from inR_iff.2 ⟨by omega,by omega⟩]
 exact Ou hs ha 5 0 gas 0 rfl (gas_lt (by omega)) (by omega) (by rw [Cc];omega)
theorem Uu {text:ByteArray} {a:Nat} {V:Int} (hs:text.size≤140737488351232) (hV0:0≤V) (hV:V≤1000000000) (hA:At text a (TB V)):Za text a=some (V,((a+(TB V).length:Nat):Int),true):=by
 have ha:a+(TB V).length≤text.size:=by
  rcases hA.size with h | h
  ·have:=PZ V;rw [h] at this;simp at this
  ·exact h
 simp only [Za,Yg,p_spec_l01In,Option.bind_some]
 rw [show inR (a:Int) 0 (text.size:Int)=true from inR_iff.2 ⟨by omega,by omega⟩]
 exact Qu hs hV0 hV hA V 0 gas 0 (by simp) hV0 (by rw [Cc];omega) (by omega) (by rw [Cc];omega) (by have:=gas_lt (n:=5) (by omega);omega)
theorem Vu {k:Nat} (h:k<5):(2:Int) ^ (Min.min (w64 (7*(k:Int))).toNat (IntKind.bits IntKind.i64))=pw k∧w64 (7*(k:Int))=7*(k:Int):=by
 refine ⟨?_,w64_id (by omega) (by omega)⟩
 rcases (by omega:k=0∨k=1∨k=2∨k=3∨k=4) with rfl | rfl | rfl | rfl | rfl <;> kernel_rfl
theorem Ip {text:ByteArray} {a k m:Nat} {n:Int} (hs:text.size≤140737488351232) (ha:a≤text.size) (hk:k≤5) (hi:text.size≤a+k∨5≤k):GZ (m+1) (.c0 text a n k)=some Jb:=by
 simp only [GZ,Ig]
 by_cases h:k<5
 ·rw [show decide ((k:Int)<5)=true from decide_eq_true (by omega),w64_id (n:=(a:Int)+k) (by omega) (by omega),show decide ((a:Int)+k<(text.size:Int))=false from decide_eq_false (by omega)]
  rfl
 ·rw [show decide ((k:Int)<5)=false from decide_eq_false (by omega)]
  rfl
theorem Gl {text:ByteArray} {a k m:Nat} {n b:Int} (hs:text.size≤140737488351232) (hk:k<5) (hi:a+k<text.size) (h0:0≤n) (h1:n<pw k) (hb:bt text ((a+k:Nat):Int)=b) :
  GZ (m+1) (.c0 text a n k)=if b<128 then (if b=0∧0<k∨n+b*pw k > 1000000000 then some Jb else some (n+b*pw k,((a+k+1:Nat):Int),true)) else GZ m (.c0 text a (n+(b - 128)*pw k) ((k+1:Nat):Int)):=by
 have hb':=bt_byte text ((a+k:Nat):Int)
 rw [hb] at hb'
 obtain ⟨n1,n2,n3⟩:=Dc hk h0 h1 hb'
 obtain ⟨p1,p2⟩:=Vu hk
 rw [p2] at p1
 have ha:w64 ((a:Int)+(k:Int))=((a+k:Nat):Int):=by rw [w64_id (by omega) (by omega)];omega
 have hw:w64 (((a+k:Nat):Int)+1)=((a+k+1:Nat):Int):=by rw [w64_id (by omega) (by omega)];omega
 have hw2:w64 ((k:Int)+1)=((k+1:Nat):Int):=by rw [w64_id (by omega) (by omega)];omega
 simp only [GZ,Ig,ha,hb,w64_id (n:=b) (by omega) (by omega),p2,p1,hw,hw2]
 rw [show decide (((a+k:Nat):Int)<(text.size:Int))=true from decide_eq_true (by omega),show decide ((k:Int)<5)=true from decide_eq_true (by omega),show decide ((0:Int)≤7*(k:Int))=true from decide_eq_true (by omega),
  show decide ((0:Int)≤((a+k:Nat):Int))=true from decide_eq_true (by omega)]
 simp only [Bool.and_self,cond_true]
 by_cases h:b<128
 ·obtain ⟨e1,e2,e3,e4,_⟩:=n1 h
  rw [if_pos h,e1,e2,e3,show decide (b<128)=true from decide_eq_true h]
  simp only [cond_true]
  by_cases hz:b=0
  ·rw [show (b == 0)=true from beq_iff_eq.2 hz]
   by_cases hk0:0<k
   ·rw [if_pos (.inl ⟨hz,hk0⟩),show decide ((k:Int) > 0)=true from decide_eq_true (by omega)];rfl
   ·rw [show decide ((k:Int) > 0)=false from decide_eq_false (by omega)]
    by_cases h2:n+b*pw k > 1000000000
    ·rw [if_pos (.inr h2),show decide (n+b*pw k > 1000000000)=true from decide_eq_true h2];rfl
    ·rw [if_neg (by omega),show decide (n+b*pw k > 1000000000)=false from decide_eq_false h2];rfl
  ·rw [show (b == 0)=false from beq_eq_false_iff_ne.2 hz]
   by_cases h2:n+b*pw k > 1000000000
   ·rw [if_pos (.inr h2),show decide (n+b*pw k > 1000000000)=true from decide_eq_true h2];rfl
   ·rw [if_neg (by omega),show decide (n+b*pw k > 1000000000)=false from decide_eq_false h2];rfl
 ·obtain ⟨e1,e2,e3,_,_⟩:=n2 h
  rw [if_neg h,e1,e2,e3,show decide (b<128)=false from decide_eq_false h]
  rfl
theorem Wu {text:ByteArray} {a:Nat} (hs:text.size≤140737488351232) (ha:a≤text.size):∀ j k m n,k+j=5→j<m→0≤n→n<pw k→∃ r,GZ m (.c0 text a n k)=some r∧RV text a r:=by
 intro j
 induction j with
 | zero=>
  intro k m n hk hm _ _
  obtain ⟨m,rfl⟩:∃ q,m=q+1:=⟨m - 1,by omega⟩
  exact ⟨_,Ip hs ha (by omega) (.inr (by omega)),.inl rfl⟩
 | succ j ih=>
  intro k m n hk hm h0 h1
  obtain ⟨m,rfl⟩:∃ q,m=q+1:=⟨m - 1,by omega⟩
  by_cases hi:a+k<text.size
  ·have hb:=bt_byte text ((a+k:Nat):Int)
   generalize hbe:bt text ((a+k:Nat):Int)=b at hb
   obtain ⟨n1,n2,_⟩:=Dc (b:=b) (by omega:k<5) h0 h1 hb
   rw [Gl hs (by omega) hi h0 h1 hbe]
   split
   ·rename_i h
    split
    ·exact ⟨_,rfl,.inl rfl⟩
    ·exact ⟨_,rfl,.inr ⟨_,_,rfl,(n1 h).2.2.2.1,by omega,by omega,by omega⟩⟩
   ·rename_i h
    obtain ⟨_,_,_,e4,e5⟩:=n2 h
    exact ih (k+1) m _ (by omega) (by omega) e4 e5
  ·exact ⟨_,Ip hs ha (by omega) (.inl (by omega)),.inl rfl⟩
theorem Xu {text:ByteArray} {a:Nat} {V:Int} (hs:text.size≤140737488351232) (hV:V≤1000000000) (hA:At text a (TB V)):∀ U k m n,TB U=(TB V).drop k→0≤U→(0<k→0<U)→n+pw k*U=V→0≤n→n<pw k→5<m+k→GZ m (.c0 text a n k)=some (V,((a+(TB V).length:Nat):Int),true):=by
 have h5:=Fp hV
 intro U
 induction U using TB.induct with
 | case1 U hU ih=>
  intro k m n e1 u0 uz e2 h0 h1 hm
  have hl:=congrArg List.length e1
  rw [List.length_drop] at hl
  have hp:=PZ U
  have hk:k<5:=by omega
  obtain ⟨m,rfl⟩:∃ q,m=q+1:=⟨m - 1,by omega⟩
  have hA':At text (a+k) (TB U):=by
   have:At text a ((TB V).take k++(TB V).drop k):=by rw [List.take_append_drop];exact hA
   have:=this.right
   rw [List.length_take,Nat.min_eq_left (by omega),←e1] at this
   exact this
  have e3:=e1
  rw [TB,if_pos hU] at hA' e3
  obtain ⟨hi,hb⟩:=hA'.head
  obtain ⟨n1,n2,_⟩:=Dc (b:=128+U % 128) hk h0 h1 (by omega)
  obtain ⟨_,_,_,e4,e5⟩:=n2 (by omega)
  rw [Gl hs hk hi h0 h1 hb,if_neg (by omega)]
  refine ih (k+1) m _ ?_ (by omega) (fun _=>by omega) ?_ e4 e5 (by omega)
  ·rw [←List.drop_drop,←e3];rfl
  ·rw [Bl]
   rcases Ib hk with e | e | e | e | e <;> rw [e] at e2 ⊢ <;> omega
 | case2 U hU=>
  intro k m n e1 u0 uz e2 h0 h1 hm
  have hl:=congrArg List.length e1
  rw [List.length_drop] at hl
  have hp:=PZ U
  have hk:k<5:=by omega
  obtain ⟨m,rfl⟩:∃ q,m=q+1:=⟨m - 1,by omega⟩
  have hA':At text (a+k) (TB U):=by
   have:At text a ((TB V).take k++(TB V).drop k):=by rw [List.take_append_drop];exact hA
   have:=this.right
   rw [List.length_take,Nat.min_eq_left (by omega),←e1] at this
   exact this
  rw [Ih u0 (by omega)] at hA' hl
  simp only [List.length_singleton] at hl
  obtain ⟨hi,hb⟩:=hA'.head
  have e3:n+U*pw k=V:=by rw [Int.mul_comm];exact e2
  have e4:a+k+1=a+(TB V).length:=by omega
  rw [Gl hs hk hi h0 h1 hb,if_pos (by omega),e3,if_neg (by omega),e4]
theorem Hl {text:ByteArray} {a:Nat} (hs:text.size≤140737488351232) (ha:a≤text.size):∃ r,LY text a=some r∧RV text a r:=by
 simp only [LY,Hg,p_impl_in,Option.bind_some]
 rw [show inR (a:Int) 0 (text.size:Int)=true from inR_iff.2 ⟨by omega,by omega⟩]
 exact Wu hs ha 5 0 gas 0 rfl (gas_lt (by omega)) (by omega) (by rw [Cc];omega)
theorem Jh {text:ByteArray} {a:Nat} {V:Int} (hs:text.size≤140737488351232) (hV0:0≤V) (hV:V≤1000000000) (hA:At text a (TB V)):LY text a=some (V,((a+(TB V).length:Nat):Int),true):=by
 have ha:a+(TB V).length≤text.size:=by
  rcases hA.size with h | h
  ·have:=PZ V;rw [h] at this;simp at this
  ·exact h
 simp only [LY,Hg,p_impl_in,Option.bind_some]
 rw [show inR (a:Int) 0 (text.size:Int)=true from inR_iff.2 ⟨by omega,by omega⟩]
 exact Xu hs hV hA V 0 gas 0 (by simp) hV0 (fun h=>absurd h (Nat.lt_irrefl 0)) (by rw [Cc];omega) (by omega) (by rw [Cc];omega) (by have:=gas_lt (n:=5) (by omega);omega)
def Lh (text:ByteArray) (c:SFields):Prop:=∃ p:Nat,∃ b:Bool,c=⟨text,(p:Int),b⟩∧p≤text.size
theorem Nh {text:ByteArray} {c:SFields} (hs:text.size≤140737488351232) (h:Lh text c):∃ v c',MZ c=some (v,c')∧Lh text c':=by
 obtain ⟨p,b,rfl,hp⟩:=h
 obtain ⟨r,hr,hR⟩:=Hl hs hp
 simp only [MZ,Jg,hr,Option.bind_some]
 rcases hR with rfl | ⟨v,q,rfl,h0,h1,_,h3⟩
 ·exact ⟨_,_,rfl,⟨p,true,rfl,hp⟩⟩
 ·exact ⟨_,_,rfl,⟨q,b,rfl,h3⟩⟩
theorem Oh {text:ByteArray} {a:Nat} {V:Int} (hs:text.size≤140737488351232) (hV0:0≤V) (hV:V≤1000000000) (hA:At text a (TB V)):MZ ⟨text,(a:Int),false⟩=some (V,⟨text,((a+(TB V).length:Nat):Int),false⟩):=by
 simp only [MZ,Jg,Jh hs hV0 hV hA,Option.bind_some]
 rfl
theorem Yu {text:ByteArray} {a:Nat} (hs:text.size≤140737488351232) (ha:a≤text.size):∃ s q ok,Va text a=some (s,q,ok)∧(ok=true→∃ p:Nat,q=(p:Int)∧p≤text.size):=by
 obtain ⟨r,hr,hR⟩:=Hl hs ha
 simp only [Va,Og,hr,Option.bind_some]
 rcases hR with rfl | ⟨v,q,rfl,h0,h1,h2,h3⟩
 ·exact ⟨_,_,_,rfl,fun h=>by cases h⟩
 ·rw [w64_id (n:=(text.size:Int) - (q:Int)) (by omega) (by omega),w64_id (n:=(q:Int)+v) (by omega) (by omega)]
  simp only [Bool.not_true,cond_false]
  cases decide (v > 20000)
  ·by_cases hv:v > (text.size:Int) - (q:Int)
   ·rw [decide_eq_true hv];exact ⟨_,_,_,rfl,fun h=>by cases h⟩
   ·rw [decide_eq_false hv,show decide ((0:Int)≤(q:Int))=true from decide_eq_true (by omega),show decide ((q:Int)≤q+v)=true from decide_eq_true (by omega),show decide ((q:Int)+v≤(text.size:Int))=true from decide_eq_true (by omega)]
    exact ⟨_,_,_,rfl,fun _=>⟨((q:Int)+v).toNat,by omega,by omega⟩⟩
  ·exact ⟨_,_,_,rfl,fun h=>by cases h⟩
theorem Zu {text:ByteArray} {p:Nat} {s:ByteArray} (hs:text.size≤140737488351232) (hz:s.size≤20000) (hA:At text p (TB (s.size:Int)++bs s)):Va text p=some (s,((p+(TB (s.size:Int)).length+s.size:Nat):Int),true):=by
 have hp:p+(TB (s.size:Int)).length≤text.size:=by
  rcases hA.left.size with h | h
  ·have:=PZ (s.size:Int);rw [h] at this;simp at this
  ·exact h
 have hA2:=hA.right
 have hx:=hA2.extract (fun n hn=>bs_byte hn)
 rw [bs_len,ofBytes_bs] at hx
 simp only [Va,Og,Jh hs (by omega) (by omega) hA.left,Option.bind_some]
 generalize p+(TB (s.size:Int)).length=q at *
 have hz:q+s.size≤text.size:=by
  rcases hA2.size with h | h
  ·have:=congrArg List.length h;rw [bs_len,List.length_nil] at this;omega
  ·rw [bs_len] at h;exact h
 have e2:w64 ((q:Int)+(s.size:Int))=((q+s.size:Nat):Int):=by rw [w64_id (by omega) (by omega)];omega
 rw [w64_id (n:=(text.size:Int) - (q:Int)) (by omega) (by omega),e2,Int.toNat_natCast,Int.toNat_natCast,hx,
  show decide ((s.size:Int) > 20000)=false from decide_eq_false (by omega),show decide ((s.size:Int) > (text.size:Int) - (q:Int))=false from decide_eq_false (by omega),show decide ((0:Int)≤(q:Int))=true from decide_eq_true (by omega),show decide ((q:Int)≤((q+s.size:Nat):Int))=true from decide_eq_true (by omega),show decide (((q+s.size:Nat):Int)≤(text.size:Int))=true from decide_eq_true (by omega)]
 rfl
theorem Bv {text:ByteArray} {c:SFields} (hs:text.size≤140737488351232) (h:Lh text c):∃ v c',Xa c=some (v,c')∧Lh text c':=by
 obtain ⟨p,b,rfl,hp⟩:=h
 obtain ⟨s,q,ok,hr,hR⟩:=Yu hs hp
 simp only [Xa,Pg,hr,Option.bind_some]
 cases ok
 ·exact ⟨_,_,rfl,⟨p,true,rfl,hp⟩⟩
 ·obtain ⟨q,rfl,h3⟩:=hR rfl
  exact ⟨_,_,rfl,⟨q,b,rfl,h3⟩⟩
theorem Dv {text:ByteArray} {p:Nat} {s:ByteArray} (hs:text.size≤140737488351232) (hz:s.size≤20000) (hA:At text p (TB (s.size:Int)++bs s)):Xa ⟨text,(p:Int),false⟩=some (s,⟨text,((p+(TB (s.size:Int)).length+s.size:Nat):Int),false⟩):=by
 simp only [Xa,Pg,Zu hs hz hA,Option.bind_some]
 rfl
def UZ (text:ByteArray) (c:SL19Cur):Prop:=∃ p:Nat,∃ b:Bool,c=⟨text,(p:Int),b⟩∧p≤text.size
theorem Ph {text:ByteArray} {c:SL19Cur} (hs:text.size≤140737488351232) (h:UZ text c):∃ v c',WY c=some (v,c')∧UZ text c'∧0≤v∧v≤1000000000:=by
 obtain ⟨p,b,rfl,hp⟩:=h
 obtain ⟨r,hr,hR⟩:=Ru hs hp
 simp only [WY,Ah,hr,Option.bind_some]
 cases b
 ·rcases hR with rfl | ⟨v,q,rfl,h0,h1,_,h3⟩
  ·exact ⟨_,_,rfl,⟨p,true,rfl,hp⟩,by omega,by omega⟩
  ·exact ⟨_,_,rfl,⟨q,false,rfl,h3⟩,h0,h1⟩
 ·exact ⟨_,_,rfl,⟨p,true,rfl,hp⟩,by omega,by omega⟩
theorem Qe {text:ByteArray} {a:Nat} {V:Int} (hs:text.size≤140737488351232) (hV0:0≤V) (hV:V≤1000000000) (hA:At text a (TB V)):WY ⟨text,(a:Int),false⟩=some (V,⟨text,((a+(TB V).length:Nat):Int),false⟩):=by
 simp only [WY,Ah,Uu hs hV0 hV hA,Option.bind_some]
 rfl
theorem Il {text:ByteArray} {c:SL19Cur} {n:Int} (hs:text.size≤140737488351232) (h:UZ text c) (h0:0≤n) (h1:n≤1000000000):∃ s c',PY c n=some (s,c')∧UZ text c'∧s.size≤1000000000∧(c'.fBad=false→(s.size:Int)=n∧c.fAt+n≤(text.size:Int)):=by
 obtain ⟨p,b,rfl,hp⟩:=h
 simp only [PY,Ug]
 have e1:w64 ((text.size:Int) - (p:Int))=(text.size:Int) - p:=w64_id (by omega) (by omega)
 have e2:w64 ((p:Int)+n)=p+n:=w64_id (by omega) (by omega)
 have e3:w64 ((p:Int)+n - n)=p:=by rw [w64_id (by omega) (by omega)];omega
 rw [e1,e2,e3]
 cases b
 ·by_cases hn:n > (text.size:Int) - p
  ·rw [show decide (n > (text.size:Int) - p)=true from decide_eq_true hn]
   exact ⟨_,_,rfl,⟨p,true,rfl,hp⟩,by show 0≤_;omega,fun h=>by cases h⟩
  ·rw [show decide (n > (text.size:Int) - p)=false from decide_eq_false hn,show decide ((0:Int)≤(p:Int))=true from decide_eq_true (by omega),show decide ((p:Int)≤p+n)=true from decide_eq_true (by omega),show decide ((p:Int)+n≤(text.size:Int))=true from decide_eq_true (by omega)]
   have hz:(text.extract (p:Int).toNat ((p:Int)+n).toNat).size=n.toNat:=by rw [ByteArray.size_extract];omega
   refine ⟨_,_,rfl,⟨((p:Int)+n).toNat,false,?_,by omega⟩,by rw [hz];omega,fun _=>⟨by rw [hz];omega,by show (p:Int)+n≤_;omega⟩⟩
   rw [Int.toNat_of_nonneg (by omega)]
 ·exact ⟨_,_,rfl,⟨p,true,rfl,hp⟩,by show 0≤_;omega,fun h=>by cases h⟩
theorem Jl {text:ByteArray} {p:Nat} {s:ByteArray} (hs:text.size≤140737488351232) (hA:At text p (bs s)) (hp:p≤text.size):PY ⟨text,(p:Int),false⟩ (s.size:Int)=some (s,⟨text,((p+s.size:Nat):Int),false⟩):=by
 have hz:p+s.size≤text.size:=by
  rcases hA.size with h | h
  ·have:=congrArg List.length h;rw [bs_len,List.length_nil] at this;omega
  ·rw [bs_len] at h;exact h
 have e1:w64 ((text.size:Int) - (p:Int))=(text.size:Int) - p:=w64_id (by omega) (by omega)
 have e2:w64 ((p:Int)+(s.size:Int))=((p+s.size:Nat):Int):=by rw [w64_id (by omega) (by omega)];omega
 have e3:w64 (((p+s.size:Nat):Int) - (s.size:Int))=p:=by rw [w64_id (by omega) (by omega)];omega
 simp only [PY,Ug,e1,e2,e3,Int.toNat_natCast]
 have hx:=hA.extract (fun n hn=>bs_byte hn)
 rw [bs_len,ofBytes_bs] at hx
 rw [show decide ((s.size:Int) > (text.size:Int) - p)=false from decide_eq_false (by omega),show decide ((0:Int)≤(p:Int))=true from decide_eq_true (by omega),show decide ((p:Int)≤((p+s.size:Nat):Int))=true from decide_eq_true (by omega),show decide (((p+s.size:Nat):Int)≤(text.size:Int))=true from decide_eq_true (by omega),hx]
 rfl
theorem Ll {text:ByteArray} {c:SL19Cur} (hs:text.size≤140737488351232) (h:UZ text c):∃ v c',QY c=some (v,c')∧UZ text c'∧0≤v∧v≤255∧(c'.fBad=true→v=0)∧(c'.fBad=false→c.fAt+1≤(text.size:Int)):=by
 obtain ⟨s,c',e,hc,_,hn⟩:=Il (n:=1) hs h (by omega) (by omega)
 simp only [QY,Xg,e,Option.bind_some]
 cases hb:c'.fBad
 ·obtain ⟨h1,h2⟩:=hn hb
  rw [show decide ((0:Int)≤(0:Int))=true from rfl,show decide ((0:Int)<(s.size:Int))=true from decide_eq_true (by omega)]
  have:=bt_byte s 0
  rw [w64_id (n:=bt s 0) (by omega) (by omega)]
  exact ⟨_,_,rfl,hc,this.1,this.2,fun h=>(by rw [hb] at h;cases h),fun _=>h2⟩
 ·exact ⟨_,_,rfl,hc,by omega,by omega,fun _=>rfl,fun h=>(by rw [hb] at h;cases h)⟩
theorem Ic {text:ByteArray} {p:Nat} {b:Int} (hs:text.size≤140737488351232) (hA:At text p [b]):QY ⟨text,(p:Int),false⟩=some (b,⟨text,((p+1:Nat):Int),false⟩):=by
 obtain ⟨h1,h2⟩:=hA.head
 have hb:=bt_byte text p
 rw [h2] at hb
 have hB:bs (ofBytes [b])=[b]:=bs_ofBytes (by simpa using hb)
 have e:=Jl (s:=ofBytes [b]) hs (by rw [hB];exact hA) (Nat.le_of_lt h1)
 have h0:bt (ofBytes [b]) 0=b:=by
  have:=bt_eq (s:=ofBytes [b]) (i:=0) (by rw [ofBytes_size];simp)
  simp only [hB] at this
  exact this
 simp only [QY,Xg]
 rw [show PY ⟨text,(p:Int),false⟩ 1=_ from e]
 simp only [Option.bind_some,h0,w64_id (n:=b) (by omega) (by omega)]
 rfl
theorem Fv {text:ByteArray} {c:SL19Cur} (hs:text.size≤140737488351232) (h:UZ text c):∃ s c',Cb c=some (s,c')∧UZ text c'∧s.size≤1000000000:=by
 obtain ⟨v,c1,e1,h1,h2,h3⟩:=Ph hs h
 obtain ⟨s,c2,e2,h4,h5,_⟩:=Il hs h1 h2 h3
 simp only [Cb,Bh,e1,e2,Option.bind_some]
 exact ⟨_,_,rfl,h4,h5⟩
theorem Gv {text:ByteArray} {p:Nat} {s:ByteArray} (hs:text.size≤140737488351232) (hz:s.size≤1000000000) (hA:At text p (TB (s.size:Int)++bs s)):Cb ⟨text,(p:Int),false⟩=some (s,⟨text,((p+(TB (s.size:Int)).length+s.size:Nat):Int),false⟩):=by
 have hp:p+(TB (s.size:Int)).length≤text.size:=by
  rcases hA.left.size with h | h
  ·have:=PZ (s.size:Int);rw [h] at this;simp at this
  ·exact h
 simp only [Cb,Bh,Qe hs (by omega) (by omega) hA.left,Jl hs hA.right hp,Option.bind_some]
def Zv (f:Int) (h a b c:Bool):Prop:=f=(bif h then 1 else 0)+(bif a then 2 else 0)+(bif b then 4 else 0)+(bif c then 8 else 0)
theorem Jv (x:SThing):(((TT x).tmod 2 == 1)=x.fHidden)∧(((w64 ((TT x).tdiv 2)).tmod 2 == 1)=x.fFixed)∧(((w64 ((TT x).tdiv 4)).tmod 2 == 1)=x.fSigns)∧(((w64 ((TT x).tdiv 8)).tmod 2 == 1)=x.fWraps):=by
 unfold TT
 cases x.fHidden <;> cases x.fFixed <;> cases x.fSigns <;> cases x.fWraps <;> decide
theorem Jp {x:SThing} (h:thingOk x=true):bs (DZ x)=TB x.fId++([x.fKind]++([TT x]++((TB (x.fValue.size:Int)++bs x.fValue)++TB x.fNext))):=by
 obtain ⟨k1,k2,k3,k4,k5,k6,k7⟩:=thingOk_kind h
 have hf:=Je x
 unfold DZ ZY
 simp only [bs_append,bs_ofBytes (RZ x.fId (by omega)),bs_ofBytes (RZ x.fNext (by omega)),bs_ofBytes (RZ (x.fValue.size:Int) (by omega)),bs_ofBytes (l:=[x.fKind]) (by simp;omega),bs_ofBytes (l:=[TT x]) (by simp;omega),List.append_assoc]
def Nl (text:ByteArray) (r:SThing×Bool):Prop:=(r.2=true∧NM r.1=(text,true))∨r=(⟨(0:Int),(0:Int),false,false,false,false,(⟨#[]⟩:ByteArray),(0:Int)⟩,false)
theorem Np {text:ByteArray} (hs:text.size≤140737488351232):∃ r,OZ text=some r∧Nl text r:=by
 obtain ⟨v0,c0,e0,h0,_⟩:=Ph hs (c:=⟨text,(0:Int),false⟩) ⟨0,false,rfl,by omega⟩
 obtain ⟨v1,c1,e1,h1,_⟩:=Ll hs h0
 obtain ⟨v2,c2,e2,h2,_⟩:=Ll hs h1
 obtain ⟨v3,c3,e3,h3,_⟩:=Fv hs h2
 obtain ⟨v4,c4,e4,h4,_⟩:=Ph hs h3
 simp only [OZ,Dh,e0,e1,e2,e3,e4,Nk,Option.bind_some]
 cases c4.fBad
 ·cases h5:(NM (⟨v0,v1,v2.tmod 2 == 1,(w64 (v2.tdiv 2)).tmod 2 == 1,(w64 (v2.tdiv 4)).tmod 2 == 1,(w64 (v2.tdiv 8)).tmod 2 == 1,v3,v4⟩:SThing)).2
  ·exact ⟨_,rfl,.inr rfl⟩
  ·rw [toList_inj]
   by_cases h6:(NM (⟨v0,v1,v2.tmod 2 == 1,(w64 (v2.tdiv 2)).tmod 2 == 1,(w64 (v2.tdiv 4)).tmod 2 == 1,(w64 (v2.tdiv 8)).tmod 2 == 1,v3,v4⟩:SThing)).1=text
   ·rw [decide_eq_true h6];exact ⟨_,rfl,.inl ⟨rfl,Prod.ext h6 h5⟩⟩
   ·rw [decide_eq_false h6];exact ⟨_,rfl,.inr rfl⟩
 ·exact ⟨_,rfl,.inr rfl⟩
theorem Qp {text:ByteArray} {x:SThing} (h:NM x=(text,true)):thingOk x=true∧text=DZ x:=by
 unfold NM at h
 cases ho:thingOk x <;> rw [ho] at h
 ·simp at h
 ·exact ⟨rfl,(congrArg Prod.fst h).symm⟩
theorem Vp {text:ByteArray} {x:SThing} (hs:text.size≤140737488351232) (h:NM x=(text,true)):OZ text=some (x,true):=by
 obtain ⟨ho,rfl⟩:=Qp h
 obtain ⟨k1,k2,k3,k4,k5,k6,k7⟩:=thingOk_kind ho
 have hf:=Je x
 have hA:At (DZ x) 0 _:=⟨[],by rw [List.drop_zero,Jp ho,List.append_nil]⟩
 have a1:=hA.right
 have a2:=a1.right
 have a3:=a2.right
 have a4:=a3.right
 have e0:=Qe hs (by omega) (by omega) hA.left
 have e1:=Ic hs a1.left
 have e2:=Ic hs a2.left
 have e3:=Gv hs (by omega) a3.left
 have e4:=Qe hs (by omega) (by omega) a4
 simp only [List.length_append,bs_len,List.length_singleton,Nat.zero_add,←Nat.add_assoc] at e0 e1 e2 e3 e4
 obtain ⟨b1,b2,b3,b4⟩:=Jv x
 simp only [OZ,Dh]
 rw [show ((0:Int))=((0:Nat):Int) from rfl,e0]
 simp only [e1,e2,e3,e4,Option.bind_some,b1,b2,b3,b4,Nk,h,toList_self]
 rfl
theorem Kv (x:SThing):((w64 (((BitVec.toNat ((BitVec.ofInt (IntKind.bits IntKind.i64) (TT x)) &&& (BitVec.ofInt (IntKind.bits IntKind.i64) (1:Int)))):Nat):Int) != 0)=x.fHidden)∧((w64 (((BitVec.toNat ((BitVec.ofInt (IntKind.bits IntKind.i64) (TT x)) &&& (BitVec.ofInt (IntKind.bits IntKind.i64) (2:Int)))):Nat):Int) != 0)=x.fFixed)∧((w64 (((BitVec.toNat ((BitVec.ofInt (IntKind.bits IntKind.i64) (TT x)) &&& (BitVec.ofInt (IntKind.bits IntKind.i64) (4:Int)))):Nat):Int) != 0)=x.fSigns)∧((w64 (((BitVec.toNat ((BitVec.ofInt (IntKind.bits IntKind.i64) (TT x)) &&& (BitVec.ofInt (IntKind.bits IntKind.i64) (8:Int)))):Nat):Int) != 0)=x.fWraps):=by
 unfold TT
 cases x.fHidden <;> cases x.fFixed <;> cases x.fSigns <;> cases x.fWraps <;> refine ⟨?_,?_,?_,?_⟩ <;> kernel_rfl
theorem Wp {text:ByteArray} (hs:text.size≤140737488351232):∃ r,NZ text=some r∧Nl text r:=by
 obtain ⟨v0,c0,e0,h0⟩:=Nh hs (c:=⟨text,(0:Int),false⟩) ⟨0,false,rfl,by omega⟩
 obtain ⟨v1,c1,e1,h1⟩:=Nh hs h0
 obtain ⟨v2,c2,e2,h2⟩:=Nh hs h1
 obtain ⟨v3,c3,e3,h3⟩:=Bv hs h2
 obtain ⟨v4,c4,e4,h4⟩:=Nh hs h3
 simp only [NZ,Qg,e0,e1,e2,e3,e4,Zk,Option.bind_some]
 generalize (w64 (((BitVec.toNat ((BitVec.ofInt (IntKind.bits IntKind.i64) v2) &&& (BitVec.ofInt (IntKind.bits IntKind.i64) (1:Int)))):Nat):Int) != 0)=b1
 generalize (w64 (((BitVec.toNat ((BitVec.ofInt (IntKind.bits IntKind.i64) v2) &&& (BitVec.ofInt (IntKind.bits IntKind.i64) (2:Int)))):Nat):Int) != 0)=b2
 generalize (w64 (((BitVec.toNat ((BitVec.ofInt (IntKind.bits IntKind.i64) v2) &&& (BitVec.ofInt (IntKind.bits IntKind.i64) (4:Int)))):Nat):Int) != 0)=b3
 generalize (w64 (((BitVec.toNat ((BitVec.ofInt (IntKind.bits IntKind.i64) v2) &&& (BitVec.ofInt (IntKind.bits IntKind.i64) (8:Int)))):Nat):Int) != 0)=b4
 cases c4.fBad
 ·cases h5:(NM (⟨v0,v1,b1,b2,b3,b4,v3,v4⟩:SThing)).2
  ·exact ⟨_,rfl,.inr rfl⟩
  ·rw [toList_inj]
   by_cases h6:(NM (⟨v0,v1,b1,b2,b3,b4,v3,v4⟩:SThing)).1=text
   ·rw [decide_eq_true h6];exact ⟨_,rfl,.inl ⟨rfl,Prod.ext h6 h5⟩⟩
   ·rw [decide_eq_false h6];exact ⟨_,rfl,.inr rfl⟩
 ·exact ⟨_,rfl,.inr rfl⟩
theorem Xp {text:ByteArray} {x:SThing} (hs:text.size≤140737488351232) (h:NM x=(text,true)):NZ text=some (x,true):=by
 obtain ⟨ho,rfl⟩:=Qp h
 obtain ⟨k1,k2,k3,k4,k5,k6,k7⟩:=thingOk_kind ho
 have hf:=Je x
 have hA:At (DZ x) 0 _:=⟨[],by rw [List.drop_zero,Jp ho,List.append_nil]⟩
 rw [←Ih (n:=x.fKind) (by omega) (by omega),←Ih (n:=TT x) (by omega) (by omega)] at hA
 have a1:=hA.right
 have a2:=a1.right
 have a3:=a2.right
 have a4:=a3.right
 have e0:=Oh hs (by omega) (by omega) hA.left
 have e1:=Oh hs (by omega) (by omega) a1.left
 have e2:=Oh hs (by omega) (by omega) a2.left
 have e3:=Dv hs (by omega) a3.left
 have e4:=Oh hs (by omega) (by omega) a4
 simp only [List.length_append,bs_len,Nat.zero_add,←Nat.add_assoc] at e0 e1 e2 e3 e4
 obtain ⟨b1,b2,b3,b4⟩:=Kv x
 simp only [NZ,Qg]
 rw [show MZ ⟨DZ x,(0:Int),false⟩=_ from e0]
 simp only [e1,e2,e3,e4,Option.bind_some,b1,b2,b3,b4,Zk,h,toList_self]
 rfl
theorem Aw {text:ByteArray} (hs:text.size≤140737488351232):∃ r,OZ text=some r∧NZ text=some r∧Nl text r:=by
 obtain ⟨r,hr,h⟩:=Np hs
 obtain ⟨q,hq,h'⟩:=Wp hs
 rcases h with ⟨h1,h2⟩ | h
 ·have:=Xp hs h2
  refine ⟨r,hr,?_,.inl ⟨h1,h2⟩⟩
  rw [this];congr 1;exact Prod.ext rfl h1.symm
 ·rcases h' with ⟨h1,h2⟩ | h'
  ·have:=Vp hs h2
   rw [hr] at this
   injection this with this
   rw [h] at this
   exact Bool.noConfusion (congrArg Prod.snd this)
  ·exact ⟨r,hr,by rw [hq,h',h],.inr h⟩
def KY:SRec:=⟨(0:Int),(⟨#[]⟩:ByteArray),(0:Int),(⟨(0:Int),(0:Int),false,false,false,false,(⟨#[]⟩:ByteArray),(0:Int)⟩:SThing)⟩
def Ue (text:ByteArray) (r:SRec×Bool):Prop:=(r.2=true∧IK r.1=(text,true))∨r=(KY,false)
theorem Jc {text:ByteArray} (x:SRec) (bad:Bool):∃ r,(bif bad then some (KY,false) else bif !(IK x).2 then some (KY,false) else bif !((ByteArray.toList (IK x).1) == (ByteArray.toList text)) then some (KY,false) else some (x,true))=some r∧Ue text r:=by
 cases bad
 ·cases h5:(IK x).2
  ·exact ⟨_,rfl,.inr rfl⟩
  ·rw [toList_inj]
   by_cases h6:(IK x).1=text
   ·rw [decide_eq_true h6];exact ⟨_,rfl,.inl ⟨rfl,Prod.ext h6 h5⟩⟩
   ·rw [decide_eq_false h6];exact ⟨_,rfl,.inr rfl⟩
 ·exact ⟨_,rfl,.inr rfl⟩
theorem Nv {text:ByteArray} (hs:text.size≤140737488351232):∃ r,XY text=some r∧Ue text r:=by
 obtain ⟨v0,c0,e0,h0,_,_,hz,hn⟩:=Ll hs (c:=⟨text,(0:Int),false⟩) ⟨0,false,rfl,by omega⟩
 obtain ⟨v1,c1,e1,h1,_⟩:=Il (n:=32) hs h0 (by omega) (by omega)
 obtain ⟨v3,c3,e3,h3,_⟩:=Ph hs h0
 simp only [XY,Eb,e0,e1,e3,QZ,Option.bind_some]
 cases v0 == 1
 ·simp only [cond_false]
  cases v0 == 2
  ·simp only [cond_false]
   cases v0 == 4
   ·simp only [cond_false]
    cases h:v0 == 3
    ·exact Jc _ _
    ·have hv:v0=3:=beq_iff_eq.1 h
     have hsz:(0:Int)+1≤(text.size:Int):=by
      cases hb:c0.fBad
      ·exact hn hb
      ·have:=hz hb;omega
     obtain ⟨r,e5,_⟩:=Np (text:=text.extract (1:Int).toNat text.size) (by rw [ByteArray.size_extract];omega)
     rw [show decide ((1:Int)≤(text.size:Int))=true from decide_eq_true (by omega),e5]
     exact Jc _ _
   ·exact Jc _ _
  ·exact Jc _ _
 ·exact Jc _ _
theorem Ol {text:ByteArray} {x:SRec} (h:IK x=(text,true)) :
  (∃ s:ByteArray,x=⟨1,s,0,KY.fThing⟩∧s.size=32∧text=ofBytes [1]++s)∨(∃ n:Int,x=⟨2,KY.fText,n,KY.fThing⟩∧0≤n∧n≤3∧text=ofBytes [2]++ofBytes (TB n))∨
  (∃ t:SThing,∃ s:ByteArray,x=⟨3,KY.fText,0,t⟩∧NM t=(s,true)∧text=ofBytes [3]++s)∨(∃ n:Int,x=⟨4,KY.fText,n,KY.fThing⟩∧1≤n∧n≤1000∧text=ofBytes [4]++ofBytes (TB n)):=by
 have hE:∀ s:ByteArray,FN s=true→s=⟨#[]⟩:=fun s h=>by unfold FN at h;rw [toList_inj] at h;exact of_decide_eq_true h
 have hZ:∀ t:SThing,SN t=true→t=KY.fThing:=fun t h=>by
  unfold SN at h
  simp only [Qk] at h
  obtain ⟨t1,t2,t3,t4,t5,t6,t7,t8⟩:=t
  simp only [Bool.and_eq_true,beq_iff_eq] at h
  obtain ⟨rfl,rfl,rfl,rfl,rfl,rfl,h7,rfl,_⟩:=h
  rw [hE _ h7];rfl
 obtain ⟨k,s,n,t⟩:=x
 unfold IK at h
 simp only at h
 cases k1:k == 1 <;> rw [k1] at h
 ·cases k2:k == 2 <;> rw [k2] at h
  ·cases k3:k == 3 <;> rw [k3] at h
   ·cases k4:k == 4 <;> rw [k4] at h
    ·exact Bool.noConfusion (congrArg Prod.snd h)
    ·simp only [cond_false,cond_true] at h
     cases hc:FN s && SN t && inR n 1 1000 <;> rw [hc] at h
     ·exact Bool.noConfusion (congrArg Prod.snd h)
     ·simp only [Bool.and_eq_true,inR_iff] at hc
      refine .inr (.inr (.inr ⟨n,?_,hc.2.1,hc.2.2,(congrArg Prod.fst h).symm⟩))
      rw [beq_iff_eq.1 k4,hE _ hc.1.1,hZ _ hc.1.2];rfl
   ·simp only [cond_false,cond_true] at h
    cases hc:(NM t).2 && FN s && n == 0 <;> rw [hc] at h
    ·exact Bool.noConfusion (congrArg Prod.snd h)
    ·simp only [Bool.and_eq_true,beq_iff_eq] at hc
     refine .inr (.inr (.inl ⟨t,(NM t).1,?_,Prod.ext rfl hc.1.1,(congrArg Prod.fst h).symm⟩))
     rw [beq_iff_eq.1 k3,hE _ hc.1.2,hc.2];rfl
  ·simp only [cond_false,cond_true] at h
   cases hc:FN s && SN t && inR n 0 3 <;> rw [hc] at h
   ·exact Bool.noConfusion (congrArg Prod.snd h)
   ·simp only [Bool.and_eq_true,inR_iff] at hc
    refine .inr (.inl ⟨n,?_,hc.2.1,hc.2.2,(congrArg Prod.fst h).symm⟩)
    rw [beq_iff_eq.1 k2,hE _ hc.1.1,hZ _ hc.1.2];rfl
 ·simp only [cond_false,cond_true] at h
  cases hc:(s.size:Int) == 32 && n == 0 && SN t <;> rw [hc] at h
  ·exact Bool.noConfusion (congrArg Prod.snd h)
  ·simp only [Bool.and_eq_true,beq_iff_eq] at hc
   refine .inl ⟨s,?_,by omega,(congrArg Prod.fst h).symm⟩
   rw [beq_iff_eq.1 k1,hZ _ hc.2,hc.1.2]
theorem Nb {k:Int} {s:ByteArray} (h0:0≤k) (h1:k≤255):At (ofBytes [k]++s) 0 ([k]++bs s):=⟨[],by rw [List.drop_zero,bs_append,bs_ofBytes (by simp;omega),List.append_nil]⟩
theorem Ql {k:Int} {s:ByteArray}:(ofBytes [k]++s).extract (1:Int).toNat (ofBytes [k]++s).size=s:=by
 apply bs_inj
 rw [bs_extract,←bs_len,List.take_length,bs_append]
 rfl
theorem Ov {text:ByteArray} {x:SRec} (hs:text.size≤140737488351232) (h:IK x=(text,true)):XY text=some (x,true):=by
 rcases Ol h with ⟨s,rfl,hz,rfl⟩ | ⟨n,rfl,h0,h1,rfl⟩ | ⟨t,s,rfl,ht,rfl⟩ | ⟨n,rfl,h0,h1,rfl⟩
 ·have hA:=Nb (k:=1) (s:=s) (by omega) (by omega)
  have e0:=Ic hs hA.left
  have e1:=Jl hs hA.right (by rw [ba_append_size,ofBytes_size];simp)
  simp only [List.length_singleton,Nat.zero_add,hz] at e0 e1
  simp only [XY,Eb]
  rw [show QY ⟨ofBytes [1]++s,(0:Int),false⟩=_ from e0]
  simp only [Option.bind_some]
  rw [show PY ⟨ofBytes [1]++s,((1:Nat):Int),false⟩ 32=_ from e1]
  have h':IK ⟨1,s,0,⟨(0:Int),(0:Int),false,false,false,false,(⟨#[]⟩:ByteArray),(0:Int)⟩⟩=_:=h
  simp only [Option.bind_some,QZ,h',toList_self]
  rfl
 ·have hA:=Nb (k:=2) (s:=ofBytes (TB n)) (by omega) (by omega)
  rw [bs_ofBytes (RZ n h0)] at hA
  have e0:=Ic hs hA.left
  have e1:=Qe hs (by omega) (by omega) hA.right
  simp only [List.length_singleton,Nat.zero_add] at e0 e1
  simp only [XY,Eb]
  rw [show QY ⟨ofBytes [2]++ofBytes (TB n),(0:Int),false⟩=_ from e0]
  have h':IK ⟨2,⟨#[]⟩,n,⟨(0:Int),(0:Int),false,false,false,false,(⟨#[]⟩:ByteArray),(0:Int)⟩⟩=_:=h
  simp only [Option.bind_some,e1,QZ,h',toList_self]
  rfl
 ·have hA:=Nb (k:=3) (s:=s) (by omega) (by omega)
  have e0:=Ic hs hA.left
  have hsz:s.size≤140737488351232:=by rw [ba_append_size] at hs;omega
  have e1:=Vp hsz ht
  simp only [List.length_singleton,Nat.zero_add] at e0
  simp only [XY,Eb]
  rw [show QY ⟨ofBytes [3]++s,(0:Int),false⟩=_ from e0]
  have h':IK ⟨3,⟨#[]⟩,0,t⟩=_:=h
  have hd:decide ((1:Int)≤((ofBytes [3]++s).size:Int))=true:=decide_eq_true (by rw [ba_append_size,ofBytes_size];simp only [List.length_singleton];omega)
  simp only [Option.bind_some,Ql,e1,QZ,h',toList_self,hd]
  rfl
 ·have hA:=Nb (k:=4) (s:=ofBytes (TB n)) (by omega) (by omega)
  rw [bs_ofBytes (RZ n (by omega))] at hA
  have e0:=Ic hs hA.left
  have e1:=Qe hs (by omega) (by omega) hA.right
  simp only [List.length_singleton,Nat.zero_add] at e0 e1
  simp only [XY,Eb]
  rw [show QY ⟨ofBytes [4]++ofBytes (TB n),(0:Int),false⟩=_ from e0]
  have h':IK ⟨4,⟨#[]⟩,n,⟨(0:Int),(0:Int),false,false,false,false,(⟨#[]⟩:ByteArray),(0:Int)⟩⟩=_:=h
  simp only [Option.bind_some,e1,QZ,h',toList_self]
  rfl
theorem Rl {text:ByteArray} (x:SRec):∃ r,(bif !(IK x).2 then some (KY,false) else bif !((ByteArray.toList (IK x).1) == (ByteArray.toList text)) then some (KY,false) else some (x,true))=some r∧Ue text r:=Jc x false
theorem Pv {text:ByteArray} (hs:text.size≤140737488351232):∃ r,VY text=some r∧Ue text r:=by
 simp only [VY,Ya]
 rw [toList_inj]
 by_cases he:text=⟨#[]⟩
 ·rw [decide_eq_true he];exact ⟨_,rfl,.inr rfl⟩
 ·have hz:0<text.size:=by
   rcases Nat.eq_zero_or_pos text.size with h | h
   ·exact absurd (bs_inj (List.eq_nil_of_length_eq_zero (by rw [bs_len];exact h)):text=⟨#[]⟩) he
   ·exact h
  rw [decide_eq_false he,show decide ((0:Int)<(text.size:Int))=true from decide_eq_true (by omega),show decide ((1:Int)≤(text.size:Int))=true from decide_eq_true (by omega)]
  have hb:=bt_byte text 0
  rw [w64_id (n:=bt text 0) (by omega) (by omega)]
  obtain ⟨⟨t,tb⟩,e1,_⟩:=Wp (text:=text.extract (1:Int).toNat text.size) (by rw [ByteArray.size_extract];omega)
  obtain ⟨⟨v,q,ok⟩,e2,hR⟩:=Hl (a:=1) hs hz
  have hv:v≤1000000000:=by
   rcases hR with h | ⟨v',_,h,_,h1,_⟩
   ·have:=congrArg Prod.fst h;simp only [Jb] at this;omega
   ·have:=congrArg Prod.fst h;simp only at this;omega
  rw [e1,show LY text (1:Int)=_ from e2]
  simp only [Option.bind_some,cond_false,cond_true,Bool.and_self]
  cases bt text 0 == 1
  ·simp only [cond_false]
   cases bt text 0 == 3
   ·simp only [cond_false]
    rw [KZ (by simp only;omega)]
    exact Rl _
   ·simp only [cond_true]
    rw [KZ (by simp only;omega)]
    exact Rl _
  ·simp only [cond_true]
   rw [KZ (by simp only;omega)]
   exact Rl _
theorem Yp {text:ByteArray} {x:SRec} (hs:text.size≤140737488351232) (h:IK x=(text,true)):VY text=some (x,true):=by
 have hne:∀ (k:Int) (s:ByteArray),(decide (ofBytes [k]++s=⟨#[]⟩))=false:=fun k s=>decide_eq_false fun h=>by
  have:=congrArg ByteArray.size h
  rw [ba_append_size,ofBytes_size] at this
  simp only [List.length_singleton] at this
  have h0:(⟨#[]⟩:ByteArray).size=0:=rfl
  omega
 have hd:∀ (k:Int) (s:ByteArray),decide ((0:Int)<((ofBytes [k]++s).size:Int))=true∧decide ((1:Int)≤((ofBytes [k]++s).size:Int))=true:=fun k s=>by
  rw [ba_append_size,ofBytes_size];simp only [List.length_singleton]
  exact ⟨decide_eq_true (by omega),decide_eq_true (by omega)⟩
 have hk:∀ (k:Int) (s:ByteArray),0≤k→k≤255→w64 (bt (ofBytes [k]++s) 0)=k:=fun k s h0 h1=>by
  rw [(Nb (k:=k) (s:=s) h0 h1).left.head.2 |> fun e=>(show bt (ofBytes [k]++s) 0=k from e),w64_id (by omega) (by omega)]
 rcases Ol h with ⟨s,rfl,hz,rfl⟩ | ⟨n,rfl,h0,h1,rfl⟩ | ⟨t,s,rfl,ht,rfl⟩ | ⟨n,rfl,h0,h1,rfl⟩
 ·have h':IK ⟨1,s,0,⟨(0:Int),(0:Int),false,false,false,false,(⟨#[]⟩:ByteArray),(0:Int)⟩⟩=_:=h
  simp only [VY,Ya,hk 1 s (by omega) (by omega),hd,Ql,KZ (r:=⟨1,s,0,⟨(0:Int),(0:Int),false,false,false,false,(⟨#[]⟩:ByteArray),(0:Int)⟩⟩) (by simp only;omega),h',Option.bind_some,toList_inj,hne]
  simp [KY]
 ·have hA:=Nb (k:=2) (s:=ofBytes (TB n)) (by omega) (by omega)
  rw [bs_ofBytes (RZ n h0)] at hA
  have e1:=Jh hs (by omega) (by omega) hA.right
  simp only [List.length_singleton,Nat.zero_add] at e1
  have e2:LY (ofBytes [2]++ofBytes (TB n)) (1:Int)=_:=e1
  have h':IK ⟨2,⟨#[]⟩,n,⟨(0:Int),(0:Int),false,false,false,false,(⟨#[]⟩:ByteArray),(0:Int)⟩⟩=_:=h
  simp only [VY,Ya,hk 2 _ (by omega) (by omega),hd,e2,Option.bind_some,KZ (r:=⟨2,⟨#[]⟩,n,⟨(0:Int),(0:Int),false,false,false,false,(⟨#[]⟩:ByteArray),(0:Int)⟩⟩) (by simp only;omega),h',toList_inj,hne]
  simp [KY]
 ·have hsz:s.size≤140737488351232:=by rw [ba_append_size] at hs;omega
  have e1:=Xp hsz ht
  have h':IK ⟨3,⟨#[]⟩,0,t⟩=_:=h
  simp only [VY,Ya,hk 3 s (by omega) (by omega),hd,Ql,e1,Option.bind_some,KZ (r:=⟨3,⟨#[]⟩,0,t⟩) (by simp only;omega),h',toList_inj,hne]
  simp [KY]
 ·have hA:=Nb (k:=4) (s:=ofBytes (TB n)) (by omega) (by omega)
  rw [bs_ofBytes (RZ n (by omega))] at hA
  have e1:=Jh hs (by omega) (by omega) hA.right
  simp only [List.length_singleton,Nat.zero_add] at e1
  have e2:LY (ofBytes [4]++ofBytes (TB n)) (1:Int)=_:=e1
  have h':IK ⟨4,⟨#[]⟩,n,⟨(0:Int),(0:Int),false,false,false,false,(⟨#[]⟩:ByteArray),(0:Int)⟩⟩=_:=h
  simp only [VY,Ya,hk 4 _ (by omega) (by omega),hd,e2,Option.bind_some,KZ (r:=⟨4,⟨#[]⟩,n,⟨(0:Int),(0:Int),false,false,false,false,(⟨#[]⟩:ByteArray),(0:Int)⟩⟩) (by simp only;omega),h',toList_inj,hne]
  simp [KY]
theorem Zp {text:ByteArray} (hs:text.size≤140737488351232):∃ r,XY text=some r∧VY text=some r∧Ue text r:=by
 obtain ⟨r,hr,h⟩:=Nv hs
 obtain ⟨q,hq,h'⟩:=Pv hs
 rcases h with ⟨h1,h2⟩ | h
 ·have:=Yp hs h2
  refine ⟨r,hr,?_,.inl ⟨h1,h2⟩⟩
  rw [this];congr 1;exact Prod.ext rfl h1.symm
 ·rcases h' with ⟨h1,h2⟩ | h'
  ·have:=Ov hs h2
   rw [hr] at this
   injection this with this
   rw [h] at this
   exact Bool.noConfusion (congrArg Prod.snd this)
  ·exact ⟨r,hr,by rw [hq,h',h],.inr h⟩
theorem Qv {c:SL01Cur} {s:ByteArray} (hc:Cur c) (hs:s.size≤1000000000):Ok (Ce c s) fun r=>r.1.size≤s.size+1∧Cur r.2:=by
 have hw:w64 ((s.size:Int)+1)=(s.size:Int)+1:=w64_id (by omega) (by omega)
 rw [Ce,Qj]
 refine Ok.bind (p_spec_l01Below hc) fun a ha=>Ok.cond (fun _=>?_) fun _=>Ok.cond (fun _=>?_) fun _=>Ok.cond (fun _=>Ok.cond (fun _=>Ok.cond (fun h=>?_) fun _=>Ok.ret ⟨Nat.le_succ _,ha.2⟩) fun _=>Ok.ret ⟨Nat.le_succ _,ha.2⟩) fun _=>Ok.cond (fun _=>Ok.cond (fun h=>?_) fun _=>Ok.ret ⟨Nat.le_succ _,ha.2⟩) fun _=>Ok.ret ⟨Nat.le_succ _,ha.2⟩
 ·refine Ok.bind (p_spec_l01Text ha.2 (by omega)) fun t ht=>?_
  have h1:=ht.1
  exact Ok.chk (by rw [decide_eq_true_eq];omega) (Ok.ret ⟨by show (s++t.1).size≤s.size+1;rw [ByteArray.size_append];omega,ht.2⟩)
 ·rw [hw]
  refine Ok.bind (p_spec_l01Below ha.2) fun t ht=>?_
  have h1:=ht.1.2.1 (by omega)
  have h0:=ht.1.1
  exact Ok.chk (by simp;omega) (Ok.ret ⟨by show (s.extract 0 t.1.toNat).size≤s.size+1;rw [ByteArray.size_extract];omega,ht.2⟩)
 all_goals
  rw [decide_eq_true_eq] at h
  refine Ok.bind (p_spec_l01Below ha.2) fun i hi=>?_
  have h1:=hi.1.2.1 (by omega)
  have h0:=hi.1.1
  refine Ok.chk (by simp;omega) (Ok.bind (p_spec_l01Text hi.2 (by omega)) fun t ht=>?_)
  have h2:=ht.1
  have hw2:w64 (i.1+1)=i.1+1:=w64_id (by omega) (by omega)
  rw [hw2]
  have e1:(s.extract 0 i.1.toNat).size=i.1.toNat:=by rw [ByteArray.size_extract];omega
  have e2:(s.extract (i.1+1).toNat s.size).size=s.size - (i.1+1).toNat:=by rw [ByteArray.size_extract];omega
  exact Ok.chk (by rw [decide_eq_true_eq];omega) (Ok.chk (by simp;omega) (Ok.chk (by rw [decide_eq_true_eq,ByteArray.size_append];omega) (Ok.ret ⟨by show ((s.extract 0 i.1.toNat++t.1)++s.extract (i.1+1).toNat s.size).size≤s.size+1;rw [ByteArray.size_append,ByteArray.size_append];omega,ht.2⟩)))
theorem Sv:Ok (Ee ()) fun r=>r.size≤301:=by
 rw [Ee,Sj]
 refine Ok.bind p_spec_l01New fun c hc=>Ok.bind (Dp hc) fun l hl=>Ok.bind (Ep hl.2 fun x hx=>by have:=Yk hl.1.1.2.1 x hx;omega) fun r hr=>Ok.bind (Ok.eq (QZ _)) fun t ht=>?_
 have h1:=Rk r.1
 subst ht
 exact Ok.bind (Qv hr.2 (by omega)) fun s hs=>Ok.ret (by show s.1.size≤301;have:=hs.1;omega)
theorem Tv {r:SRec} {t:ByteArray} (h:IK r=(t,true)):r.fNum≤9223372036854775807:=by
 rcases Ol h with ⟨s,rfl,hz,rfl⟩ | ⟨n,rfl,h0,h1,rfl⟩ | ⟨t,s,rfl,ht,rfl⟩ | ⟨n,rfl,h0,h1,rfl⟩
 all_goals (simp only;omega)
theorem law_FnRecs (x0:Unit):laws_FnRecs x0=some true:=by
 rw [laws_FnRecs,Ik,p_laws_big,Option.bind_some]
 cases decide ((codeL.length:Int) > 1048576)
 ·rw [cond_false]
  obtain ⟨r,h1,g1⟩:=Lu
  obtain ⟨t,h2,g2⟩:=Sv
  have z:=Rk r
  obtain ⟨q,q1,q2,q3⟩:=Zp (text:=(IK r).1) (by omega)
  obtain ⟨p,p1,p2,p3⟩:=Zp (text:=t) (by omega)
  have hp:p.1.fNum≤9223372036854775807:=by
   rcases p3 with ⟨_,h⟩ | h
   ·exact Tv h
   ·rw [h];show (0:Int)≤_;omega
  simp only [h1,h2,Option.bind_some,KZ g1,QZ,q2,p1,p2,KZ hp,beq_self_eq_true,Bool.not_true,cond_false,cond_true]
  have last:(bif !p.2 then some true else some ((ByteArray.toList (IK p.1).1) == (ByteArray.toList t)))=some true:=by
   rcases p3 with ⟨e,h⟩ | h
   ·rw [e,h];simp
   ·rw [h];rfl
  rw [last]
  cases hr:(IK r).2
  ·rfl
  ·have h:=Yp (text:=(IK r).1) (x:=r) (by omega) (Prod.ext rfl hr)
   rw [q2] at h
   injection h with h
   rw [h]
   simp
 ·rfl
end Go.Proofs.Ytjfkbidckphneaa.G
