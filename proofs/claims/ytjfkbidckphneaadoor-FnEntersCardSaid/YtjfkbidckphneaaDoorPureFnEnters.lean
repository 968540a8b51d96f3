/- The plain law of FnEnters: whatever the arguments, it answers true. Conditions: what is read is in reach. Part 1 of 1. -/
import Derived.Test.YtjfkbidckphneaaDoorFFnEnters
import Derived.Test.YtjfkbidckphneaaDoorOpens
import Derived.Test.YtjfkbidckphneaaDoorPBase
namespace Go.Proofs.YtjfkbidckphneaaDoor.G
open Go Go.Ev
set_option linter.unusedVariables false
set_option linter.unusedSimpArgs false
set_option linter.unusedSectionVars false
variable [PC]
theorem QAC (u:Unit):Gf u=some (decide ((codeL.length:Int) > 1048576)):=rfl
def bs (s:ByteArray):List Int:=s.data.toList.map fun b=>(b.toNat:Int)
theorem bs_len (s:ByteArray):(bs s).length=s.size:=by unfold bs;rw [List.length_map];rfl
theorem RAC {s:ByteArray} {n:Int} (h:n ∈ bs s):0≤n∧n≤255:=by
 unfold bs at h;rw [List.mem_map] at h;obtain ⟨b,_,rfl⟩:=h
 have:=b.toNat_lt;omega
theorem Pg (a b:ByteArray):bs (a++b)=bs a++bs b:=by simp [bs]
theorem X6 (s:ByteArray):ofBytes (bs s)=s:=by
 cases s;simp [ofBytes,bs,Function.comp_def]
theorem Qc {s t:ByteArray} (h:bs s=bs t):s=t:=by rw [←X6 s,h,X6]
theorem OZ {l:List Int} (h:∀ n,n ∈ l→0≤n∧n≤255):bs (ofBytes l)=l:=by
 simp only [bs,ofBytes,List.map_map]
 conv=>rhs;rw [←List.map_id l]
 apply List.map_congr_left
 intro n hn
 obtain ⟨h1,h2⟩:=h n hn
 simp only [Function.comp,UInt8.toNat_ofNat',id]
 omega
theorem SAC {s:ByteArray} {i:Nat} (h:i<s.size):bt s (i:Int)=(bs s)[i]'(by rw [bs_len];exact h):=by
 simp only [bt,Int.toNat_natCast,h,dite_true,bs,List.getElem_map]
 rfl
theorem KAH (s:ByteArray) (i:Int):0≤bt s i∧bt s i≤255:=by
 unfold bt;split
 ·have:=(s[i.toNat]).toNat_lt;omega
 ·omega
theorem Je (s:ByteArray) (i j:Nat):bs (s.extract i j)=((bs s).take j).drop i:=by
 simp only [bs,ByteArray.data_extract,Array.toList_extract,List.extract_eq_take_drop,List.map_take,List.map_drop]
 rw [List.drop_take]
theorem TB {α:Type} {c:Bool} {a b:α} (h:c=true):(bif c then a else b)=a:=by rw [h];rfl
theorem TT {α:Type} {c:Bool} {a b:α} (h:c=false):(bif c then a else b)=b:=by rw [h];rfl
theorem Qg {s:ByteArray} {i:Nat} (h:i<s.size):bt s (i:Int)=(bs s).getD i 0:=by rw [SAC h,getD_at]
theorem LAH {s:ByteArray} {i:Int} {j:Nat} (e:i=(j:Int)) (h:j<s.size):bt s i=(bs s).getD j 0:=by rw [e,Qg h]
theorem Np {α:Type} {a b:List α} {i:Nat} (h:i<a.length) (d:α):(a++b).getD i d=a.getD i d:=by simp [List.getD,List.getElem?_append_left h]
theorem Y6 {α:Type} {a b:List α} {i:Nat} (h:a.length≤i) (d:α):(a++b).getD i d=b.getD (i - a.length) d:=by simp [List.getD,List.getElem?_append_right h]
theorem Qp {α:Type} {a b:List α} {x y:α} {i:Nat} (h:a.length=i):(a++x::b).set i y=a++y::b:=by
 rw [List.set_append_right _ _ (by omega),h,Nat.sub_self];rfl
theorem MAH {a b:Nat} (h:a=b):Nat.beq a b=true:=by subst h;exact Nat.beq_refl _
theorem NAH {P:Int→Prop} (n:Int) (h:0≤n) (k:∀ m:Nat,n=(m:Int)→P (m:Int)):P n:=by
 have:=k n.toNat (by omega)
 rwa [show ((n.toNat:Nat):Int)=n by omega] at this
theorem OAH:bs (⟨#[]⟩:ByteArray)=[]:=rfl
def EZ (l:List Int):Prop:=∀ n,n ∈ l→0≤n∧n≤255
theorem FZ {l:List Int} (h:EZ l) (i:Nat):0≤l.getD i 0∧l.getD i 0≤255:=by
 by_cases hi:i<l.length
 ·rw [getD_at hi];exact h _ (List.getElem_mem hi)
 ·have:l.getD i 0=0:=by simp [List.getD,List.getElem?_eq_none (Nat.le_of_not_lt hi)]
  omega
theorem Ug (s:ByteArray):EZ (bs s):=fun _ h=>RAC h
theorem UAC (s:ByteArray):bytesOf s=bs s:=rfl
theorem PAH {α:Type} {l:List α} {i:Nat} (h:i<l.length) (y d:α):(l.set i y).getD i d=y:=by simp [List.getD,h]
def Ok {α:Type} (x:Option α) (Q:α→Prop):Prop:=∃ a,x=some a∧Q a
theorem Ok.bind {α β:Type} {x:Option α} {f:α→Option β} {Q:α→Prop} {R:β→Prop} (h:Ok x Q) (k:∀ a,Q a→Ok (f a) R):Ok (x.bind f) R:=by
 obtain ⟨a,rfl,h⟩:=h;exact k a h
theorem Ok.cond {α:Type} {c:Bool} {a b:Option α} {R:α→Prop} (h1:c=true→Ok a R) (h2:c=false→Ok b R):Ok (bif c then a else b) R:=by
 cases c
 ·exact h2 rfl
 ·exact h1 rfl
theorem Ok.chk {α:Type} {c:Bool} {a:Option α} {R:α→Prop} (hc:c=true) (h1:Ok a R):Ok (bif c then a else none) R:=by rw [hc];exact h1
theorem Ok.ret {α:Type} {a:α} {R:α→Prop} (h:R a):Ok (some a) R:=⟨a,rfl,h⟩
theorem Ok.eq {α:Type} {x:Option α} {a:α} (h:x=some a):Ok x (fun b=>b=a):=⟨a,h,rfl⟩
theorem Ok.mono {α:Type} {x:Option α} {Q R:α→Prop} (h:Ok x Q) (k:∀ a,Q a→R a):Ok x R:=by obtain ⟨a,h1,h2⟩:=h;exact ⟨a,h1,k a h2⟩
def JY (c:SL01Cur):Prop:=0≤c.fI
theorem VAC (n:Int) : -9223372036854775808≤w64 n∧w64 n≤9223372036854775807:=by
 simp only [w64,IntKind.wrap,IntKind.signed,IntKind.bits]
 simp
 omega
theorem Vp (n:Int):0≤w64 ((BitVec.toNat (BitVec.ofInt (IntKind.bits IntKind.i64) n &&& BitVec.ofInt (IntKind.bits IntKind.i64) 255):Nat):Int)∧w64 ((BitVec.toNat (BitVec.ofInt (IntKind.bits IntKind.i64) n &&& BitVec.ofInt (IntKind.bits IntKind.i64) 255):Nat):Int)≤255:=by
 have h:(BitVec.ofInt (IntKind.bits IntKind.i64) n &&& BitVec.ofInt (IntKind.bits IntKind.i64) 255).toNat≤255:=by
  rw [BitVec.toNat_and]
  exact Nat.le_trans Nat.and_le_right (by decide)
 rw [w64_id (by omega) (by omega)]
 omega
theorem WAC:Ok (Fh ()) JY:=by
 have hl:codeL.length≤140737488351232:=PC.hl
 have key:∀ (j i m:Nat) (h:Int),i+j=codeL.length→Ok (Eh (m+j+1) (.c0 h (i:Int))) JY:=by
  intro j
  induction j with
  | zero=>
   intro i m h hi
   rw [Eh];simp only [Yl]
   rw [TT (by simp;omega)]
   exact Ok.ret (Int.le_refl 0)
  | succ j ih=>
   intro i m h hi
   have hw:w64 ((i:Int)+1)=((i+1:Nat):Int):=by rw [w64_id (by omega) (by omega)];rfl
   rw [show m+(j+1)+1=(m+j+1)+1 from rfl,Eh]
   simp only [Yl,hw]
   refine Ok.cond (fun _=>Ok.cond (fun _=>?_) fun _=>Ok.ret (Int.le_refl 0)) fun _=>Ok.ret (Int.le_refl 0)
   refine Ok.chk (by simp;omega) (Ok.chk (by rw [Int.toNat_natCast];exact Nat.ble_eq_true_of_le (by omega)) (ih (i+1) m _ (by omega)))
 obtain ⟨m,hm⟩:∃ m,gas=m+codeL.length+1:=⟨gas - (codeL.length+1),by have:=gas_lt (n:=codeL.length+1) (by omega);omega⟩
 rw [Fh,Kq,hm]
 exact key codeL.length 0 m _ (Nat.zero_add _)
theorem Me {n:Int}:w32 n=n % 4294967296:=by
 simp only [w32,IntKind.wrap,IntKind.signed,IntKind.bits]
 simp
theorem Ja {n:Int} (h1:0≤n) (h2:n<4294967296):w32 n=n:=by rw [Me];omega
def R32 (n:Int):Prop:=0≤n∧n<4294967296
theorem AZ (n:Int):R32 (w32 n):=by unfold R32;rw [Me];omega
theorem QAH {n:Int} (h:0≤n∧n≤255):R32 n:=by unfold R32;omega
def xr (x y:Int):Int:=w32 (((BitVec.toNat ((BitVec.ofInt (IntKind.bits IntKind.u32) x) ^^^ (BitVec.ofInt (IntKind.bits IntKind.u32) y))):Nat):Int)
def an (x y:Int):Int:=w32 (((BitVec.toNat ((BitVec.ofInt (IntKind.bits IntKind.u32) x) &&& (BitVec.ofInt (IntKind.bits IntKind.u32) y))):Nat):Int)
def Ol (x y:Int):Int:=w32 (((BitVec.toNat ((BitVec.ofInt (IntKind.bits IntKind.u32) x) ||| (BitVec.ofInt (IntKind.bits IntKind.u32) y))):Nat):Int)
theorem Oe (x y:Int):w32 (((BitVec.toNat ((BitVec.ofInt (IntKind.bits IntKind.u32) x) ^^^ (BitVec.ofInt (IntKind.bits IntKind.u32) y))):Nat):Int)=xr x y:=rfl
theorem D7 (x y:Int):w32 (((BitVec.toNat ((BitVec.ofInt (IntKind.bits IntKind.u32) x) &&& (BitVec.ofInt (IntKind.bits IntKind.u32) y))):Nat):Int)=an x y:=rfl
theorem F7 (x y:Int):w32 (((BitVec.toNat ((BitVec.ofInt (IntKind.bits IntKind.u32) x) ||| (BitVec.ofInt (IntKind.bits IntKind.u32) y))):Nat):Int)=Ol x y:=rfl
theorem RAH (x y:Int):R32 (xr x y):=AZ _
theorem SAH (x y:Int):R32 (an x y):=AZ _
theorem G7 {a b:Nat} {s:Nat} (hb:b<2 ^ s) (ha:a*2 ^ s<4294967296) (hs:b<4294967296):Ol ((a*2 ^ s:Nat):Int) (b:Int)=((a*2 ^ s+b:Nat):Int):=by
 have e:a*2 ^ s ||| b=a*2 ^ s+b:=by
  have:=Nat.shiftLeft_add_eq_or_of_lt hb a
  rw [Nat.shiftLeft_eq] at this
  exact this.symm
 unfold Ol
 have h3:a*2 ^ s ||| b<2 ^ 32:=Nat.or_lt_two_pow (by omega) (by omega)
 rw [BitVec.toNat_or]
 show w32 (((BitVec.ofInt 32 _).toNat ||| (BitVec.ofInt 32 _).toNat:Nat):Int)=_
 rw [BitVec.ofInt_natCast,BitVec.ofInt_natCast,BitVec.toNat_ofNat,BitVec.toNat_ofNat,Nat.mod_eq_of_lt (by omega),Nat.mod_eq_of_lt (by omega),e]
 rw [e] at h3
 exact Ja (by omega) (by omega)
theorem XAC {e:Int} (h:R32 e):xr (ite ((IntKind.signed IntKind.u32)=true) (-(1:Int)) (IntKind.max IntKind.u32)) e=w32 (4294967295 - e):=by
 obtain ⟨h1,h2⟩:=h
 obtain ⟨n,rfl⟩:∃ n:Nat,e=(n:Int):=⟨e.toNat,by omega⟩
 have hn:n<4294967296:=by omega
 have e1:(ite ((IntKind.signed IntKind.u32)=true) (-(1:Int)) (IntKind.max IntKind.u32))=4294967295:=by decide
 rw [e1]
 unfold xr
 show w32 (((BitVec.ofInt 32 4294967295 ^^^ BitVec.ofInt 32 (n:Int)).toNat:Nat):Int)=_
 have e2:BitVec.ofInt 32 4294967295=BitVec.allOnes 32:=by decide
 rw [e2,BitVec.ofInt_natCast,BitVec.allOnes_xor,BitVec.toNat_not,BitVec.toNat_ofNat]
 rw [Me,Me]
 omega
def rt (low high x:Int):Int:=x / low+x % low*high
theorem YAC {low high x:Int} (h:R32 x) (hl:0<low) (hh:0<high) (hlh:low*high=4294967296):R32 (rt low high x):=by
 unfold R32 rt at *
 have h1:0≤x / low:=Int.ediv_nonneg h.1 (by omega)
 have h2:0≤x % low:=Int.emod_nonneg _ (by omega)
 have h3:x % low<low:=Int.emod_lt_of_pos _ hl
 have h4:x / low<high:=Int.ediv_lt_of_lt_mul hl (by rw [Int.mul_comm,hlh];exact h.2)
 have h5:0≤x % low*high:=Int.mul_nonneg h2 (by omega)
 have h6:x % low*high≤(low - 1)*high:=Int.mul_le_mul_of_nonneg_right (by omega) (by omega)
 have h7:(low - 1)*high=low*high - high:=by rw [Int.sub_mul,Int.one_mul]
 omega
theorem ZAC {x:Int} (h:R32 x) (n:Nat) (hn:0<n) (hn2:n<32):Ol (w32 (x*2 ^ (32 - n))) (x / 2 ^ n)=rt (2 ^ n) (2 ^ (32 - n)) x:=by
 obtain ⟨h1,h2⟩:=h
 obtain ⟨y,rfl⟩:∃ y:Nat,x=(y:Int):=⟨x.toNat,by omega⟩
 have hy:y<4294967296:=by omega
 have e0:(4294967296:Nat)=2 ^ n*2 ^ (32 - n):=by rw [←Nat.pow_add,show n+(32 - n)=32 by omega]
 have e1:w32 ((y:Int)*2 ^ (32 - n))=((y % 2 ^ n*2 ^ (32 - n):Nat):Int):=by
  rw [Me]
  have h5:((y:Int)*2 ^ (32 - n))=((y*2 ^ (32 - n):Nat):Int):=by push_cast;rfl
  have h6:y*2 ^ (32 - n) % 4294967296=y % 2 ^ n*2 ^ (32 - n):=by rw [e0,Nat.mul_mod_mul_right]
  rw [h5,←h6]
  omega
 have e2:((y:Int) / 2 ^ n)=((y / 2 ^ n:Nat):Int):=by push_cast;rfl
 have hp:0<2 ^ n:=Nat.two_pow_pos n
 have hp2:0<2 ^ (32 - n):=Nat.two_pow_pos _
 have hm:y % 2 ^ n<2 ^ n:=Nat.mod_lt _ hp
 have hd:y / 2 ^ n<2 ^ (32 - n):=Nat.div_lt_of_lt_mul (by rw [←e0];exact hy)
 rw [e1,e2,G7 hd (by rw [e0];exact Nat.mul_lt_mul_of_pos_right hm hp2) (Nat.lt_of_le_of_lt (Nat.div_le_self _ _) hy)]
 unfold rt
 push_cast
 omega
def H7 (x:Int):Int:=xr (xr (rt 128 33554432 x) (rt 262144 16384 x)) (x / 8)
def sg1 (x:Int):Int:=xr (xr (rt 131072 32768 x) (rt 524288 8192 x)) (x / 1024)
def I7 (x:Int):Int:=xr (xr (rt 64 67108864 x) (rt 2048 2097152 x)) (rt 33554432 128 x)
def J7 (x:Int):Int:=xr (xr (rt 4 1073741824 x) (rt 8192 524288 x)) (rt 4194304 1024 x)
def AAD (w:List Int) (t:Nat):Int:=w32 (w32 (w32 (sg1 (w.getD (t - 2) 0)+w.getD (t - 7) 0)+H7 (w.getD (t - 15) 0))+w.getD (t - 16) 0)
def sched (w:List Int):Nat→List Int
 | 0=>w
 | n+1=>sched w n++[AAD (sched w n) (16+n)]
theorem Ql {w:List Int} (h:w.length=16) (n:Nat):(sched w n).length=16+n:=by
 induction n with
 | zero=>exact h
 | succ n ih=>simp [sched,ih];omega
theorem Wp {w:List Int} (h:∀ x ∈ w,R32 x) (n:Nat):∀ x ∈ sched w n,R32 x:=by
 induction n with
 | zero=>exact h
 | succ n ih=>
  intro x hx
  rw [sched,List.mem_append,List.mem_singleton] at hx
  rcases hx with hx | rfl
  ·exact ih x hx
  ·exact AZ _
theorem Rl {l:List Int} (h:∀ x ∈ l,R32 x) (i:Nat):R32 (l.getD i 0):=by
 by_cases hi:i<l.length
 ·rw [getD_at hi];exact h _ (List.getElem_mem hi)
 ·have:l.getD i 0=0:=by simp [List.getD,List.getElem?_eq_none (Nat.le_of_not_lt hi)]
  rw [this];unfold R32;omega
structure Reg where
 a:Int
 b:Int
 c:Int
 d:Int
 e:Int
 f:Int
 g:Int
 h:Int
def Reg.ok (r:Reg):Prop:=R32 r.a∧R32 r.b∧R32 r.c∧R32 r.d∧R32 r.e∧R32 r.f∧R32 r.g∧R32 r.h
def Reg.l (r:Reg):List Int:=[r.a,r.b,r.c,r.d,r.e,r.f,r.g,r.h]
theorem Reg.Sl (r:Reg):r.l.length=8:=rfl
def t1 (r:Reg) (k w:Int):Int:=w32 (w32 (w32 (w32 (r.h+I7 r.e)+xr (an r.e r.f) (an (w32 (4294967295 - r.e)) r.g))+k)+w)
def t2 (r:Reg):Int:=w32 (J7 r.a+xr (xr (an r.a r.b) (an r.a r.c)) (an r.b r.c))
def La (r:Reg) (k w:Int):Reg:=⟨w32 (t1 r k w+t2 r),r.a,r.b,r.c,w32 (r.d+t1 r k w),r.e,r.f,r.g⟩
theorem CAD {r:Reg} (h:r.ok) (k w:Int):(La r k w).ok:=⟨AZ _,h.1,h.2.1,h.2.2.1,AZ _,h.2.2.2.2.1,h.2.2.2.2.2.1,h.2.2.2.2.2.2.1⟩
def SY (K W:List Int) (r:Reg):Nat→Reg
 | 0=>r
 | n+1=>La (SY K W r n) (K.getD n 0) (W.getD n 0)
theorem N7 (K W:List Int) {r:Reg} (h:r.ok) (n:Nat):(SY K W r n).ok:=by
 induction n with
 | zero=>exact h
 | succ n ih=>exact CAD ih _ _
def Qe (s r:Reg):Reg:=⟨w32 (s.a+r.a),w32 (s.b+r.b),w32 (s.c+r.c),w32 (s.d+r.d),w32 (s.e+r.e),w32 (s.f+r.f),w32 (s.g+r.g),w32 (s.h+r.h)⟩
theorem DAD (s r:Reg):(Qe s r).ok:=⟨AZ _,AZ _,AZ _,AZ _,AZ _,AZ _,AZ _,AZ _⟩
def keysL:List Int:=[1116352408,1899447441,3049323471,3921009573,961987163,1508970993,2453635748,2870763221,3624381080,310598401,607225278,1426881987,1925078388,2162078206,2614888103,3248222580,3835390401,4022224774,264347078,604807628,770255983,1249150122,1555081692,1996064986,2554220882,2821834349,2952996808,3210313671,3336571891,3584528711,113926993,338241895,666307205,773529912,1294757372,1396182291,1695183700,1986661051,2177026350,2456956037,2730485921,2820302411,3259730800,3345764771,3516065817,3600352804,4094571909,275423344,430227734,506948616,659060556,883997877,958139571,1322822218,1537002063,1747873779,1955562222,2024104815,2227730452,2361852424,2428436474,2756734187,3204031479,3329325298]
def be4 (a b c d:Int):Int:=a*16777216+b*65536+c*256+d
def wordAt (l:List Int) (i:Nat):Int:=be4 (l.getD (4*i) 0) (l.getD (4*i+1) 0) (l.getD (4*i+2) 0) (l.getD (4*i+3) 0)
def CV (l:List Int) (n:Nat):List Int:=(List.range n).map (wordAt l)
theorem Zb (l:List Int) (n:Nat):(CV l n).length=n:=by simp [CV]
theorem O7 (l:List Int) (n:Nat):CV l (n+1)=CV l n++[wordAt l n]:=by simp [CV,List.range_succ]
theorem EAD {a b c d:Int} (ha:0≤a∧a≤255) (hb:0≤b∧b≤255) (hc:0≤c∧c≤255) (hd:0≤d∧d≤255):R32 (be4 a b c d):=by unfold R32 be4;omega
theorem FAD {l:List Int} (h:EZ l) (i:Nat):R32 (wordAt l i):=EAD (FZ h _) (FZ h _) (FZ h _) (FZ h _)
theorem Qx {l:List Int} (h:EZ l) (n:Nat):∀ x ∈ CV l n,R32 x:=by
 intro x hx
 simp only [CV,List.mem_map] at hx
 obtain ⟨i,_,rfl⟩:=hx
 exact FAD h i
def comp (s:Reg) (b:List Int):Reg:=Qe s (SY keysL (sched (CV b 16) 48) s 64)
theorem P7 (s:Reg) (b:List Int):(comp s b).ok:=DAD _ _
def comps:Nat→Reg→List Int→Reg
 | 0,s,_=>s
 | n+1,s,b=>comps n (comp s (b.take 64)) (b.drop 64)
theorem Ue {s:Reg} (h:s.ok):∀ (n:Nat) (b:List Int),(comps n s b).ok:=by
 intro n
 induction n generalizing s with
 | zero=>intro b;exact h
 | succ n ih=>intro b;exact ih (P7 _ _) _
theorem Q7 (n m:Nat):∀ (s:Reg) (b:List Int),comps (n+m) s b=comps m (comps n s b) (b.drop (64*n)):=by
 induction n with
 | zero=>intro s b;simp [comps]
 | succ n ih=>
  intro s b
  rw [Nat.add_right_comm,comps,comps,ih,List.drop_drop]
  congr 2
  omega
theorem GAD (n:Nat):∀ (s:Reg) (b c:List Int),64*n≤b.length→comps n s (b++c)=comps n s b:=by
 induction n with
 | zero=>intro s b c _;rfl
 | succ n ih=>
  intro s b c h
  rw [comps,comps,List.take_append_of_le_length (by omega),List.drop_append_of_le_length (by omega),ih _ _ _ (by simp;omega)]
def four (x:Int):List Int:=[x / 16777216,x / 65536 % 256,x / 256 % 256,x % 256]
theorem Xp {x:Int} (h:R32 x):EZ (four x):=by
 intro n hn
 unfold R32 at h
 simp only [four,List.mem_cons,List.not_mem_nil,or_false] at hn
 rcases hn with rfl | rfl | rfl | rfl <;> omega
def SN (ws:List Int):List Int:=ws.flatMap four
theorem Vg (ws:List Int):(SN ws).length=4*ws.length:=by
 induction ws with
 | nil=>rfl
 | cons w ws ih=>
  rw [show SN (w::ws)=four w++SN ws from rfl,List.length_append,ih]
  simp only [four,List.length_cons,List.length_nil];omega
theorem Rx {ws:List Int} (h:∀ x ∈ ws,R32 x):EZ (SN ws):=by
 intro n hn
 simp only [SN,List.mem_flatMap] at hn
 obtain ⟨x,hx,hn⟩:=hn
 exact Xp (h x hx) n hn
theorem U7 (a b:List Int):SN (a++b)=SN a++SN b:=by simp [SN]
theorem IAD {x:Int} (h:R32 x):be4 (x / 16777216) (x / 65536 % 256) (x / 256 % 256) (x % 256)=x:=by unfold R32 at h;unfold be4;omega
theorem V7:∀ {ws:List Int} (_:∀ x ∈ ws,R32 x) {i:Nat} (hi:i<ws.length),wordAt (SN ws) i=ws[i]
 | w::ws,h,0,_=>by
  have:=IAD (h w (List.mem_cons_self ..))
  simpa [wordAt,SN,four] using this
 | w::ws,h,i+1,hi=>by
  have ih:=V7 (ws:=ws) (fun x hx=>h x (List.mem_cons_of_mem _ hx)) (i:=i) (by simpa using hi)
  rw [List.getElem_cons_succ,←ih]
  have e:∀ j,(SN (w::ws)).getD (j+4) 0=(SN ws).getD j 0:=fun j=>by simp [SN,four,List.getD]
  unfold wordAt
  rw [show 4*(i+1)=4*i+4 by omega,show 4*i+4+1=(4*i+1)+4 by omega,show 4*i+4+2=(4*i+2)+4 by omega,show 4*i+4+3=(4*i+3)+4 by omega,e,e,e,e]
theorem JAD {ws:List Int} (h:∀ x ∈ ws,R32 x):CV (SN ws) ws.length=ws:=by
 apply List.ext_getElem
 ·rw [Zb]
 ·intro i h1 h2
  simp only [CV,List.getElem_map,List.getElem_range]
  exact V7 h h2
theorem Reg.Ve {r:Reg} (h:r.ok):∀ x ∈ r.l,R32 x:=by
 intro x hx
 simp only [Reg.l,List.mem_cons,List.not_mem_nil,or_false] at hx
 obtain ⟨h1,h2,h3,h4,h5,h6,h7,h8⟩:=h
 rcases hx with rfl | rfl | rfl | rfl | rfl | rfl | rfl | rfl <;> assumption
def PZ:Reg:=⟨1779033703,3144134277,1013904242,2773480762,1359893119,2600822924,528734635,1541459225⟩
theorem Tc:PZ.ok:=by unfold Reg.ok R32 PZ;decide
def Na (n:Int):List Int:=[0,0,0,n / 4294967296 % 256,n / 16777216 % 256,n / 65536 % 256,n / 256 % 256,n % 256]
def KY (n:Nat):List Int:=128::(List.replicate ((119 - n % 64) % 64) 0++Na (8*(n:Int)))
theorem Yp (n:Nat):(KY n).length=9+(119 - n % 64) % 64:=by simp [KY,Na];omega
theorem KAD (n:Nat):(n+(KY n).length) % 64=0:=by rw [Yp];omega
theorem Ux (n:Nat):EZ (KY n):=by
 intro x hx
 simp only [KY,Na,List.mem_cons,List.mem_append,List.mem_replicate,List.not_mem_nil,or_false] at hx
 omega
def Xe (b:List Int):List Int:=SN (comps ((b.length+(KY b.length).length) / 64) PZ (b++KY b.length)).l
def BZ (s:ByteArray):ByteArray:=ofBytes (Xe (bs s))
theorem LAD (b:List Int):(Xe b).length=32:=by rw [Xe,Vg];rfl
theorem MAD (b:List Int):EZ (Xe b):=Rx (Reg.Ve (Ue Tc _ _))
theorem Zp (s:ByteArray):(BZ s).size=32:=by rw [BZ,ofBytes_size,LAD]
theorem TAH (s:ByteArray):bs (BZ s)=Xe (bs s):=OZ (MAD _)
theorem NAD {x:Int} (h:R32 x):[w8 (w32 (x.tdiv 16777216)),w8 ((w32 (x.tdiv 65536)).tmod 256),w8 ((w32 (x.tdiv 256)).tmod 256),w8 (x.tmod 256)]=four x:=by
 obtain ⟨h1,h2⟩:=h
 rw [Int.tdiv_eq_ediv_of_nonneg h1,Int.tdiv_eq_ediv_of_nonneg h1,Int.tdiv_eq_ediv_of_nonneg h1,Int.tmod_eq_emod_of_nonneg h1]
 rw [Ja (n:=x / 16777216) (by omega) (by omega),Ja (n:=x / 65536) (by omega) (by omega),Ja (n:=x / 256) (by omega) (by omega)]
 rw [Int.tmod_eq_emod_of_nonneg (by omega),Int.tmod_eq_emod_of_nonneg (by omega)]
 simp only [four,w8_mod,List.cons.injEq,and_true]
 omega
theorem Vx {ws:List Int} (h:∀ x ∈ ws,R32 x) (hl:ws.length≤1000000000000):UZ ws=some (ofBytes (SN ws)):=by
 have key:=loopN (A:=Unit) (n:=ws.length) (Lp:=Ih) (st:=fun i _=>.c0 ws (i:Int) (SN (ws.take i))) (Inv:=fun _ _=>True) (out:=fun _ _=>some (ofBytes (SN ws)))
  (fun m _ _=>by
   simp only [Ih,Am]
   rw [TT (by simp),List.take_length])
  (fun m i _ hi _=>.inr ⟨(),by
   have e:w64 ((i:Int)+1)=((i+1:Nat):Int):=by rw [w64_id (by omega) (by omega)];rfl
   simp only [Ih,Am,e,Int.toNat_natCast]
   rw [TB (by simp;omega),TB (by simp;omega),TB (by rw [Vg,List.length_take];simp;omega)]
   rw [getD_at hi,NAD (h _ (List.getElem_mem hi)),take_at hi,U7]
   simp [SN],trivial,rfl⟩)
 exact key gas 0 () (Nat.zero_le _) (gas_lt (by omega)) trivial
def Ac:SHasher:=⟨ofBytes (SN PZ.l),⟨#[]⟩,0⟩
theorem OAD:Lh=some Ac:=by
 have h:=Vx (ws:=PZ.l) (Reg.Ve Tc) (by decide)
 have e:Zl=some PZ.l:=rfl
 simp only [Lh,Qq,e,h,Option.bind_some]
 rfl
def NM (x a b:Int):Bool:=decide (a≤x) && decide (x≤b)
theorem CZ {x a b:Int}:NM x a b=true↔a≤x∧x≤b:=by simp [NM]
theorem Aq (x a b:Int):VZ x a b=some (NM x a b):=by
 show (bif decide (a≤x) then some (decide (x≤b)) else some false)=some (NM x a b)
 unfold NM;cases decide (a≤x) <;> rfl
theorem X7 {h:SHasher} (h1:h.fState.size=32) (h2:h.fRest.size<64) (h3:0≤h.fCount∧h.fCount≤1000000000) (h4:h.fCount % 64=(h.fRest.size:Int)):KZ h=some true:=by
 have e:NM h.fCount 0 1000000000=true:=by rw [CZ];omega
 simp only [KZ,Rq,Aq,Option.bind_some,e]
 rw [TB (by simp;omega),TB (by simp;omega),cond_true,Int.tmod_eq_emod_of_nonneg h3.1,h4]
 simp
theorem PAD {s:ByteArray} {i:Nat} (h:4*i+4≤s.size) (hs:s.size≤9000000000000000000):Ed s ((4*i:Nat):Int)=some (wordAt (bs s) i):=by
 have hb:=Ug s
 have e1:w64 (((4*i:Nat):Int)+1)=((4*i+1:Nat):Int):=by rw [w64_id (by omega) (by omega)];rfl
 have e2:w64 (((4*i:Nat):Int)+2)=((4*i+2:Nat):Int):=by rw [w64_id (by omega) (by omega)];rfl
 have e3:w64 (((4*i:Nat):Int)+3)=((4*i+3:Nat):Int):=by rw [w64_id (by omega) (by omega)];rfl
 simp only [Ed,Tq,e1,e2,e3]
 rw [TB (by simp;omega),TB (by simp;omega),TB (by simp;omega),TB (by simp;omega)]
 rw [Qg (by omega),Qg (by omega),Qg (by omega),Qg (by omega)]
 have b0:=FZ hb (4*i)
 have b1:=FZ hb (4*i+1)
 have b2:=FZ hb (4*i+2)
 have b3:=FZ hb (4*i+3)
 unfold wordAt be4
 simp only [Me]
 congr 1
 omega
theorem Y7 {s:ByteArray} (hs:s.size≤1000000000000):DZ s=some (CV (bs s) (s.size / 4)):=by
 have key:=loopN (A:=Unit) (n:=s.size / 4) (Lp:=Ph) (st:=fun i _=>.c0 s ((4*i:Nat):Int) (CV (bs s) i)) (Inv:=fun _ _=>True) (out:=fun _ _=>some (CV (bs s) (s.size / 4)))
  (fun m _ _=>by
   simp only [Ph,Jm]
   rw [w64_id (by omega) (by omega),TT (by simp;omega)])
  (fun m i _ hi _=>.inr ⟨(),by
   have e:w64 (((4*i:Nat):Int)+4)=((4*(i+1):Nat):Int):=by rw [w64_id (by omega) (by omega)];omega
   simp only [Ph,Jm,e,PAD (s:=s) (i:=i) (by omega) (by omega),Option.bind_some,Zb,O7]
   rw [TB (by simp;omega),TB (by simp;omega)],trivial,rfl⟩)
 exact key gas 0 () (Nat.zero_le _) (gas_lt (by omega)) trivial
theorem Za {x low high:Int} (h:R32 x) (hl:0<low) (hh:0<high) (hlh:low*high=4294967296):Qh x low high=some (rt low high x):=by
 have hr:=YAC h hl hh hlh
 obtain ⟨h1,h2⟩:=h
 have e0:(!(low == 0))=true:=by simp;omega
 have d1:0≤x / low:=Int.ediv_nonneg h1 (by omega)
 have d2:0≤x % low*high:=Int.mul_nonneg (Int.emod_nonneg _ (by omega)) (by omega)
 unfold R32 rt at hr
 simp only [Qh,Xq,e0,cond_true,Int.tdiv_eq_ediv_of_nonneg h1,Int.tmod_eq_emod_of_nonneg h1]
 rw [Ja d1 (by omega),Ja d2 (by omega),Ja (by omega) (by omega)]
 rfl
theorem QAD {x:Int} (h:R32 x):LZ x 131072 524288 1024 true=some (sg1 x):=by
 have e1:w32 (w32 ((2147483648:Int).tdiv 131072)*2)=32768:=by decide
 have e2:w32 (w32 ((2147483648:Int).tdiv 524288)*2)=8192:=by decide
 have e3:w32 (x.tdiv 1024)=x / 1024:=by
  obtain ⟨h1,h2⟩:=h
  rw [Int.tdiv_eq_ediv_of_nonneg h1,Ja (by omega) (by omega)]
 simp only [LZ,Tf,e1,e2,e3,Za h (low:=131072) (high:=32768) (by omega) (by omega) (by omega),Za h (low:=524288) (high:=8192) (by omega) (by omega) (by omega),Option.bind_some,Oe]
 rfl
theorem RAD {x:Int} (h:R32 x):LZ x 128 262144 8 true=some (H7 x):=by
 have e1:w32 (w32 ((2147483648:Int).tdiv 128)*2)=33554432:=by decide
 have e2:w32 (w32 ((2147483648:Int).tdiv 262144)*2)=16384:=by decide
 have e3:w32 (x.tdiv 8)=x / 8:=by
  obtain ⟨h1,h2⟩:=h
  rw [Int.tdiv_eq_ediv_of_nonneg h1,Ja (by omega) (by omega)]
 simp only [LZ,Tf,e1,e2,e3,Za h (low:=128) (high:=33554432) (by omega) (by omega) (by omega),Za h (low:=262144) (high:=16384) (by omega) (by omega) (by omega),Option.bind_some,Oe]
 rfl
theorem SAD {x:Int} (h:R32 x):LZ x 64 2048 33554432 false=some (I7 x):=by
 have e1:w32 (w32 ((2147483648:Int).tdiv 64)*2)=67108864:=by decide
 have e2:w32 (w32 ((2147483648:Int).tdiv 2048)*2)=2097152:=by decide
 have e3:w32 (w32 ((2147483648:Int).tdiv 33554432)*2)=128:=by decide
 simp only [LZ,Tf,e1,e2,e3,Za h (low:=64) (high:=67108864) (by omega) (by omega) (by omega),Za h (low:=2048) (high:=2097152) (by omega) (by omega) (by omega),Za h (low:=33554432) (high:=128) (by omega) (by omega) (by omega),Option.bind_some,Oe]
 rfl
theorem TAD {x:Int} (h:R32 x):LZ x 4 8192 4194304 false=some (J7 x):=by
 have e1:w32 (w32 ((2147483648:Int).tdiv 4)*2)=1073741824:=by decide
 have e2:w32 (w32 ((2147483648:Int).tdiv 8192)*2)=524288:=by decide
 have e3:w32 (w32 ((2147483648:Int).tdiv 4194304)*2)=1024:=by decide
 simp only [LZ,Tf,e1,e2,e3,Za h (low:=4) (high:=1073741824) (by omega) (by omega) (by omega),Za h (low:=8192) (high:=524288) (by omega) (by omega) (by omega),Za h (low:=4194304) (high:=1024) (by omega) (by omega) (by omega),Option.bind_some,Oe]
 rfl
theorem Z7 (s r:Reg):∀ i,i<8→(Qe s r).l.getD i 0=w32 (s.l.getD i 0+r.l.getD i 0)
 | 0,_=>rfl | 1,_=>rfl | 2,_=>rfl | 3,_=>rfl | 4,_=>rfl | 5,_=>rfl | 6,_=>rfl | 7,_=>rfl
 | n+8,h=>by omega
theorem UAH (n:Nat) (h:n<9223372036854775807):∃ m,gas=m+n:=⟨gas - n,by have:=gas_lt h;omega⟩
theorem UAD (s r:Reg):∀ (j i m:Nat),i+j=8→WY (m+j+1) (.c3 s.l (i:Int) r.l ((Qe s r).l.take i))=some (Qe s r).l:=by
 intro j
 induction j with
 | zero=>
  intro i m h
  obtain rfl:i=8:=by omega
  simp only [WY,Qa]
  rfl
 | succ j ih=>
  intro i m h
  have e:w64 ((i:Int)+1)=((i+1:Nat):Int):=by rw [w64_id (by omega) (by omega)];rfl
  have hl:∀ q:Reg,q.l.length=8:=fun _=>rfl
  rw [show m+(j+1)+1=(m+j+1)+1 by omega]
  simp only [WY,Qa,e,Int.toNat_natCast]
  rw [TB (by simp;omega),TB (by simp [hl];omega),TB (by simp [hl];omega),TB (by simp [hl];omega)]
  have h3:=ih (i+1) m (by omega)
  rw [take_at (by rw [hl];omega),←getD_at (by rw [hl];omega) 0,Z7 _ _ _ (by omega)] at h3
  exact h3
def Wx:Nat→List Int→List Int
 | 0,v=>v
 | i+1,v=>Wx i (v.set (i+1) (v.getD i 0))
theorem VAD (t o W:List Int) (k T1 T2:Int) (hk:0≤k∧k<64):∀ (i m:Nat) (v:List Int),i<8→v.length=8→WY (m+i+1) (.c2 t o k T1 T2 (i:Int) W v)=WY m (.c1 t o (k+1) W (((Wx i v).set 4 (w32 ((Wx i v).getD 4 0+T1))).set 0 (w32 (T1+T2)))):=by
 intro i
 induction i with
 | zero=>
  intro m v _ hl
  have e:w64 (k+1)=k+1:=w64_id (by omega) (by omega)
  simp only [WY,Qa,e]
  rw [TT (by simp),TB (by simp [hl]),TB (by simp [hl]),TB (by simp [hl])]
  rfl
 | succ i ih=>
  intro m v hi hl
  have e:w64 (((i+1:Nat):Int) - 1)=(i:Int):=by rw [w64_id (by omega) (by omega)];omega
  rw [show m+(i+1)+1=(m+i+1)+1 by omega]
  rw [WY]
  simp only [Qa,e,Int.toNat_natCast]
  rw [TB (by simp;try omega),TB (by simp [hl];try omega),TB (by simp [hl];try omega),ih m _ (by omega) (by simp [hl])]
  rfl
theorem WAD (t W:List Int) (r:Reg) (hr:r.ok) (hW:∀ x ∈ W,R32 x) (hWl:W.length=64) (i m:Nat) (hi:i<64) :
  WY (m+9) (.c1 t keysL (i:Int) W r.l)=WY m (.c1 t keysL ((i:Int)+1) W (La r (keysL.getD i 0) (W.getD i 0)).l):=by
 obtain ⟨h1,h2,h3,h4,h5,h6,h7,h8⟩:=hr
 have hk:keysL.length=64:=rfl
 have g (q:Reg):q.l.getD 0 0=q.a∧q.l.getD 1 0=q.b∧q.l.getD 2 0=q.c∧q.l.getD 4 0=q.e∧q.l.getD 5 0=q.f∧q.l.getD 6 0=q.g∧q.l.getD 7 0=q.h:=⟨rfl,rfl,rfl,rfl,rfl,rfl,rfl⟩
 obtain ⟨g0,g1,g2,g4,g5,g6,g7⟩:=g r
 have hl:r.l.length=8:=rfl
 have z4:(4:Int).toNat=4:=rfl
 have z5:(5:Int).toNat=5:=rfl
 have z6:(6:Int).toNat=6:=rfl
 have z7:(7:Int).toNat=7:=rfl
 have z0:(0:Int).toNat=0:=rfl
 have z1:(1:Int).toNat=1:=rfl
 have z2:(2:Int).toNat=2:=rfl
 rw [show m+9=(m+7+1)+1 by omega,WY]
 simp only [Qa,z0,z1,z2,z4,z5,z6,z7,g0,g1,g2,g4,g5,g6,g7,hl,hk,hWl,SAD h5,TAD h1,Option.bind_some,Oe,D7,Int.toNat_natCast]
 rw [TB (by simp;omega),TB (by simp),TB (by simp),TB (by simp),TB (by simp),TB (by simp;omega),TB (by simp;omega),TB (by simp),TB (by simp),TB (by simp),TB (by simp),TB (by simp),TB (by simp),TB (by simp)]
 exact VAD t keysL W (i:Int) (t1 r (keysL.getD i 0) (W.getD i 0)) (t2 r) (by omega) 7 m r.l (by omega) rfl
theorem XAD (s:Reg) (hs:s.ok) (W:List Int) (hW:∀ x ∈ W,R32 x) (hWl:W.length=64):∀ (j i m:Nat),i+j=64→WY (m+9*j+10) (.c1 s.l keysL (i:Int) W (SY keysL W s i).l)=some (Qe s (SY keysL W s 64)).l:=by
 intro j
 induction j with
 | zero=>
  intro i m h
  obtain rfl:i=64:=by omega
  rw [show m+9*0+10=(m+8+1)+1 by omega,WY]
  simp only [Qa]
  rw [TT (by simp)]
  exact UAD s _ 8 0 m (by omega)
 | succ j ih=>
  intro i m h
  rw [show m+9*(j+1)+10=(m+9*j+10)+9 by omega,WAD s.l W _ (N7 keysL W hs i) hW hWl i _ (by omega)]
  exact ih (i+1) m (by omega)
theorem YAD (s:Reg) (hs:s.ok) (w:List Int) (hw:∀ x ∈ w,R32 x) (hwl:w.length=16):∀ (j i m:Nat),i+j=48→WY (m+9*64+10+1+j) (.c0 s.l keysL ((16+i:Nat):Int) (sched w i))=some (Qe s (SY keysL (sched w 48) s 64)).l:=by
 intro j
 induction j with
 | zero=>
  intro i m h
  obtain rfl:i=48:=by omega
  rw [show m+9*64+10+1+0=(m+9*64+10)+1 by omega,WY]
  simp only [Qa]
  rw [TT (by simp),TB (by simp [Reg.l])]
  exact XAD s hs _ (Wp hw 48) (Ql hwl 48) 64 0 m (by omega)
 | succ j ih=>
  intro i m h
  have hl:=Ql hwl i
  have hr:=Wp hw i
  have e2:w64 (((16+i:Nat):Int) - 2)=((16+i - 2:Nat):Int):=by rw [w64_id (by omega) (by omega)];omega
  have e7:w64 (((16+i:Nat):Int) - 7)=((16+i - 7:Nat):Int):=by rw [w64_id (by omega) (by omega)];omega
  have e15:w64 (((16+i:Nat):Int) - 15)=((16+i - 15:Nat):Int):=by rw [w64_id (by omega) (by omega)];omega
  have e16:w64 (((16+i:Nat):Int) - 16)=((16+i - 16:Nat):Int):=by rw [w64_id (by omega) (by omega)];omega
  have e1:w64 (((16+i:Nat):Int)+1)=((16+(i+1):Nat):Int):=by rw [w64_id (by omega) (by omega)];omega
  rw [show m+9*64+10+1+(j+1)=(m+9*64+10+1+j)+1 by omega,WY]
  simp only [Qa,e1,e2,e7,e15,e16,Int.toNat_natCast,hl,QAD (Rl hr _),RAD (Rl hr _),Option.bind_some]
  rw [TB (by simp;omega),TB (by simp;omega),TB (by simp;omega),TB (by simp;omega),TB (by simp;omega),TB (by simp;omega)]
  exact ih (i+1) m (by omega)
theorem A8 {s:Reg} (hs:s.ok) {b:ByteArray} (hb:b.size=64):Aa s.l keysL b=some (comp s (bs b)).l:=by
 have hr:=Qx (Ug b) 16
 obtain ⟨m,hm⟩:∃ m,gas=m+9*64+10+1+48:=⟨gas - 635,by have:=gas_lt (n:=635) (by omega);omega⟩
 have h:=YAD s hs _ hr (Zb _ 16) 48 0 m (by omega)
 have e0:((16+0:Nat):Int)=16:=rfl
 rw [e0,show sched (CV (bs b) 16) 0=CV (bs b) 16 from rfl] at h
 rw [Aa,Yq,Y7 (s:=b) (by omega),Option.bind_some,hb,hm]
 exact h
theorem D8:Oa=some keysL:=rfl
theorem ZAD (b:List Int) (i:Nat):(b.take (64*i+64)).drop (64*i)=(b.drop (64*i)).take 64:=by
 rw [List.drop_take];congr 1;omega
theorem E8 (i:Nat) (s:Reg) (b:List Int):comps (i+1) s b=comp (comps i s b) ((b.drop (64*i)).take 64):=by
 rw [Q7 i 1];rfl
theorem F8 {r:Reg} (h:r.ok):DZ (ofBytes (SN r.l))=some r.l:=by
 have hs:(ofBytes (SN r.l)).size=32:=by rw [ofBytes_size,Vg];rfl
 rw [Y7 (by omega),hs,OZ (Rx (Reg.Ve h))]
 exact congrArg some (JAD (Reg.Ve h))
theorem AAE {s:ByteArray} (hs:s.size≤1000000000):Wh Ac s=some ⟨ofBytes (SN (comps (s.size / 64) PZ (bs s)).l),s.extract (64*(s.size / 64)) s.size,(s.size:Int)⟩:=by
 have e0:KZ Ac=some true:=X7 (by rw [Ac,ofBytes_size,Vg];rfl) (by decide) (by decide) (by decide)
 have e1:((⟨#[]⟩:ByteArray)++s)=s:=Qc (by rw [Pg];rfl)
 have key:=loopN (A:=Unit) (n:=s.size / 64) (Lp:=Vh) (st:=fun i _=>.c0 s s ((64*i:Nat):Int) Ac (⟨(⟨#[]⟩:ByteArray),(⟨#[]⟩:ByteArray),(0:Int)⟩:SHasher) (comps i PZ (bs s)).l keysL) (Inv:=fun _ _=>True)
  (out:=fun _ _=>some ⟨ofBytes (SN (comps (s.size / 64) PZ (bs s)).l),s.extract (64*(s.size / 64)) s.size,(s.size:Int)⟩)
  (fun m _ _=>by
   have hw:w64 (Ac.fCount+(s.size:Int))=(s.size:Int):=by
    show w64 ((0:Int)+(s.size:Int))=_
    rw [Int.zero_add,w64_id (by omega) (by omega)]
   rw [Vh]
   simp only [Qm,hw,Int.toNat_natCast]
   rw [w64_id (by omega) (by omega),TT (by simp;omega),Vx (Reg.Ve (Ue Tc _ _)) (by simp [Reg.l]),Option.bind_some,TB (by simp;omega)])
  (fun m i _ hi _=>.inr ⟨(),by
   have e:w64 (((64*i:Nat):Int)+64)=((64*(i+1):Nat):Int):=by rw [w64_id (by omega) (by omega)];omega
   rw [Vh]
   simp only [Qm,e,Int.toNat_natCast]
   rw [TB (by simp;omega),TB (by simp;omega),A8 (Ue Tc _ _) (by simp;omega),Option.bind_some,Je,show 64*(i+1)=64*i+64 by omega,ZAD,←E8],trivial,rfl⟩)
 rw [Wh,Ar,e0,Option.bind_some,TT (by rfl)]
 have hw:w64 (Ac.fCount+(s.size:Int))=(s.size:Int):=by
  show w64 ((0:Int)+(s.size:Int))=_
  rw [Int.zero_add,w64_id (by omega) (by omega)]
 rw [hw,TT (by simp;omega),show Ac.fState=ofBytes (SN PZ.l) from rfl,F8 Tc,Option.bind_some,D8,Option.bind_some,show Ac.fRest=⟨#[]⟩ from rfl,e1]
 rw [TB (by (have:(⟨#[]⟩:ByteArray).size=0:=rfl);simp only [this,decide_eq_true_eq];omega)]
 exact key gas 0 () (Nat.zero_le _) (gas_lt (by omega)) trivial
def Ye (b:Int):Nat→List Int
 | 0=>[]
 | i+1=>(b / 256 ^ i % 256)::Ye b i
def Cb:Nat→Nat
 | 0=>0
 | i+1=>Cb i+(i+2)
theorem BAE (x:Int) (j:Nat):x / 256 / 256 ^ j=x / 256 ^ (j+1):=by
 rw [Int.ediv_ediv_of_nonneg (by omega)]
 congr 1
 rw [Int.pow_succ,Int.mul_comm]
theorem CAE (h:SHasher) (b:Int):∀ (j k i m:Nat) (x:Int) (t:List Int),k+j=i→i≤7→0≤x→x≤9223372036854775807→t.length≤1000→
  XY (m+j+1) (.c2 b (i:Int) x (k:Int) h t)=XY m (.c1 b ((i:Int) - 1) h (t++[x / 256 ^ j % 256])):=by
 intro j
 induction j with
 | zero=>
  intro k i m x t hk hi hx hx2 ht
  have e:w64 ((i:Int) - 1)=(i:Int) - 1:=w64_id (by omega) (by omega)
  have e2:w8 (x.tmod 256)=x % 256:=by rw [Int.tmod_eq_emod_of_nonneg hx,w8_id (by omega) (by omega)]
  rw [XY]
  simp only [Ua,e,e2]
  rw [TT (by simp;omega),TB (by simp;omega),Int.pow_zero,Int.ediv_one]
 | succ j ih=>
  intro k i m x t hk hi hx hx2 ht
  have e:w64 ((k:Int)+1)=((k+1:Nat):Int):=by rw [w64_id (by omega) (by omega)];rfl
  have e2:w64 (x.tdiv 256)=x / 256:=by rw [Int.tdiv_eq_ediv_of_nonneg hx,w64_id (by omega) (by omega)]
  rw [show m+(j+1)+1=(m+j+1)+1 by omega,XY]
  simp only [Ua,e,e2]
  rw [TB (by simp;omega),ih (k+1) i m (x / 256) t (by omega) hi (by omega) (by omega) ht,BAE]
theorem DAE (h:SHasher) (b:Int) (hb:0≤b) (hb2:b≤9223372036854775807):∀ (i m:Nat) (t:List Int),i≤8→t.length+i≤900→XY (m+Cb i) (.c1 b ((i:Int) - 1) h t)=XY m (.c1 b (-1) h (t++Ye b i)):=by
 intro i
 induction i with
 | zero=>intro m t _ _;simp [Cb,Ye]
 | succ i ih=>
  intro m t hi ht
  rw [Cb,show m+(Cb i+(i+2))=(m+Cb i)+i+1+1 by omega,XY,show ((i+1:Nat):Int) - 1=(i:Int) by omega]
  simp only [Ua]
  rw [TB (by simp),show (0:Int)=((0:Nat):Int) from rfl,CAE h b i 0 i _ b t (by omega) (by omega) hb hb2 (by omega),ih m _ (by omega) (by simp;omega)]
  simp [Ye]
theorem EAE {b:Int} (h:0≤b) (h2:b<1099511627776):Ye b 8=Na b:=by
 simp only [Ye,Na,List.cons.injEq,and_true]
 omega
theorem FAE (r:Reg) (hr:r.ok) (t:List Int) (ht:EZ t) (n:Nat) (hn:t.length=64*n) (hn2:n≤100):∀ (j i m:Nat),i+j=n→XY (m+j+1) (.c3 ((64*i:Nat):Int) t (comps i r t).l keysL)=some (ofBytes (SN (comps n r t).l)):=by
 intro j
 induction j with
 | zero=>
  intro i m h
  obtain rfl:i=n:=by omega
  rw [XY]
  simp only [Ua]
  rw [TT (by simp;omega),Vx (Reg.Ve (Ue hr _ _)) (by simp [Reg.l]),Option.bind_some]
 | succ j ih=>
  intro i m h
  have e:w64 (((64*i:Nat):Int)+64)=((64*(i+1):Nat):Int):=by rw [w64_id (by omega) (by omega)];omega
  have hl:((t.drop (64*i)).take (64*(i+1) - 64*i)).length=64:=by rw [List.length_take,List.length_drop];omega
  have hby:EZ ((t.drop (64*i)).take (64*(i+1) - 64*i)):=fun x hx=>ht x (List.mem_of_mem_drop (List.mem_of_mem_take hx))
  rw [show m+(j+1)+1=(m+j+1)+1 by omega,XY]
  simp only [Ua,e,Int.toNat_natCast]
  rw [TB (by simp;omega),TB (by simp;omega),A8 (Ue hr _ _) (by rw [ofBytes_size,hl]),Option.bind_some,OZ hby,show 64*(i+1) - 64*i=64 by omega,←E8]
  exact ih (i+1) m (by omega)
theorem GAE (h:SHasher) (r:List Int) (hr:r.length<64):∀ (j i m:Nat),i+j=(119 - r.length) % 64→XY (m+j+1) (.c0 h (r++128::List.replicate i 0))=XY m (.c1 (w64 (8*h.fCount)) 7 h (r++128::List.replicate ((119 - r.length) % 64) 0)):=by
 intro j
 induction j with
 | zero=>
  intro i m hi
  rw [XY]
  simp only [Ua]
  rw [TT (by rw [Int.tmod_eq_emod_of_nonneg (by omega)];simp;omega),show i=(119 - r.length) % 64 by omega]
 | succ j ih=>
  intro i m hi
  rw [show m+(j+1)+1=(m+j+1)+1 by omega,XY]
  simp only [Ua]
  rw [TB (by rw [Int.tmod_eq_emod_of_nonneg (by omega)];simp;omega),TB (by simp;omega)]
  have e:(r++128::List.replicate i (0:Int))++[0]=r++128::List.replicate (i+1) 0:=by
   rw [List.replicate_succ'];simp
  rw [e]
  exact ih (i+1) m (by omega)
theorem HAE {r:Reg} (hr:r.ok) {s:ByteArray} {n:Nat} (hs:s.size=n % 64) (hn:n≤1000000000):Yh ⟨ofBytes (SN r.l),s,(n:Int)⟩=some (ofBytes (SN (comps ((s.size+(KY n).length) / 64) r (bs s++KY n)).l)):=by
 have e0:KZ ⟨ofBytes (SN r.l),s,(n:Int)⟩=some true:=X7 (by rw [ofBytes_size,Vg];rfl) (by simp only;omega) (by simp only;omega) (by simp only;omega)
 have hl:=bs_len s
 obtain ⟨m,hm⟩:∃ m,gas=((m+((s.size+(KY n).length) / 64)+1+1+Cb 8)+((119 - (bs s).length) % 64)+1):=⟨gas - (((s.size+(KY n).length) / 64)+1+1+Cb 8+((119 - (bs s).length) % 64)+1),by
  have:=gas_lt (n:=1000) (by omega)
  have h2:=Yp n
  have h3:Cb 8=44:=rfl
  omega⟩
 have hw:w64 (8*(n:Int))=8*(n:Int):=w64_id (by omega) (by omega)
 have hrep:(bs s++128::List.replicate ((119 - (bs s).length) % 64) 0)++Ye (8*(n:Int)) 8=bs s++KY n:=by
  rw [EAE (by omega) (by omega),KY,hl,hs,show (119 - n % 64) % 64=(119 - n % 64) % 64 from rfl]
  simp
 rw [Yh,Ir,e0,Option.bind_some,TT (by rfl),TB (by simp;omega),UAC,TB (by rw [hl];simp;omega),hm]
 have h0:=GAE ⟨ofBytes (SN r.l),s,(n:Int)⟩ (bs s) (by omega) ((119 - (bs s).length) % 64) 0 (m+((s.size+(KY n).length) / 64)+1+1+Cb 8) (by omega)
 rw [List.replicate_zero] at h0
 rw [h0,show (7:Int)=((8:Nat):Int) - 1 from rfl]
 simp only [hw]
 rw [DAE _ _ (by omega) (by omega) 8 _ _ (by omega) (by simp;omega),hrep,XY]
 simp only [Ua]
 rw [TT (by simp),F8 hr,Option.bind_some,D8,Option.bind_some]
 have hb:EZ (bs s++KY n):=fun x hx=>by
  rcases List.mem_append.1 hx with hx | hx
  ·exact Ug s x hx
  ·exact Ux n x hx
 have hlen:(bs s++KY n).length=64*((s.size+(KY n).length) / 64):=by
  have:=KAD n
  rw [List.length_append,hl]
  omega
 exact FAE r hr _ hb _ hlen (by have:=Yp n;omega) ((s.size+(KY n).length) / 64) 0 m (by omega)
theorem IAE (b:List Int):comps ((b.length+(KY b.length).length) / 64) PZ (b++KY b.length)=comps ((b.length % 64+(KY b.length).length) / 64) (comps (b.length / 64) PZ b) (b.drop (64*(b.length / 64))++KY b.length):=by
 rw [show (b.length+(KY b.length).length) / 64=b.length / 64+(b.length % 64+(KY b.length).length) / 64 by omega,Q7,GAD _ _ _ _ (by omega),List.drop_append_of_le_length (by omega)]
theorem Ul {s:ByteArray} (hs:s.size≤1000000000):MZ s=some (BZ s):=by
 have h1:(s.extract (64*(s.size / 64)) s.size).size=s.size % 64:=by simp;omega
 have h:=HAE (Ue Tc (s.size / 64) (bs s)) (s:=s.extract (64*(s.size / 64)) s.size) h1 hs
 rw [Je,h1,List.take_of_length_le (by rw [bs_len];omega)] at h
 rw [MZ,Jr,OAD,Option.bind_some,AAE hs,Option.bind_some,h,Option.bind_some,BZ,Xe,IAE,bs_len]
theorem G8 {n:Nat} {x:Int} (h:n≤1000000000):Ic (n:Int) x=some (ofBytes (List.replicate n x)):=by
 have key:∀ (j i m:Nat),i+j=n→Ci (m+j+1) (.c0 (n:Int) x (i:Int) (List.replicate i x++List.replicate (n - i) 0))=some (ofBytes (List.replicate n x)):=by
  intro j
  induction j with
  | zero=>
   intro i m hi
   obtain rfl:i=n:=by omega
   rw [Ci]
   simp only [Vm]
   rw [TT (by simp),Nat.sub_self,List.replicate_zero,List.append_nil]
  | succ j ih=>
   intro i m hi
   have e:w64 ((i:Int)+1)=((i+1:Nat):Int):=by rw [w64_id (by omega) (by omega)];rfl
   rw [show m+(j+1)+1=(m+j+1)+1 by omega,Ci]
   simp only [Vm,e,Int.toNat_natCast]
   rw [TB (by simp;omega),TB (by simp;omega),show n - i=(n - (i+1))+1 by omega,List.replicate_succ,Qp (by simp)]
   have h2:=ih (i+1) m (by omega)
   rw [List.replicate_succ' (n:=i),List.append_assoc] at h2
   exact h2
 obtain ⟨m,hm⟩:∃ m,gas=m+n+1:=⟨gas - (n+1),by have:=gas_lt (n:=n+1) (by omega);omega⟩
 have h0:=key n 0 m (by omega)
 rw [List.replicate_zero,List.nil_append,Nat.sub_zero] at h0
 rw [Ic,Kr,TB (by simp;omega),hm]
 exact h0
theorem JAE {n x:Int} (h0:0≤n) (h1:n≤1000000000):Ok (Ic n x) fun r=>(r.size:Int)=n:=by
 have h:=G8 (n:=n.toNat) (x:=x) (by omega)
 rw [show ((n.toNat:Nat):Int)=n by omega] at h
 exact ⟨_,h,by show ((ofBytes (List.replicate n.toNat x)).size:Int)=n;rw [ofBytes_size,List.length_replicate];omega⟩
def Xg:SBook:=⟨BZ ⟨#[]⟩,0,[],0,ofBytes (List.replicate 32 0),0⟩
theorem KAE:Ld=some Xg:=by
 rw [Ld,Lr,Ul (by decide),Option.bind_some,show (32:Int)=((32:Nat):Int) from rfl,G8 (by omega),Option.bind_some];rfl
theorem Yg {c:SL01Cur} (hc:JY c):Ok (Jb c) fun r=>0≤r.1∧r.1≤255∧JY r.2:=by
 have hl:codeL.length≤140737488351232:=PC.hl
 have hc:0≤c.fI:=hc
 rw [Jb,Nr]
 refine Ok.cond (fun h=>?_) fun h=>Ok.ret ⟨(Vp _).1,(Vp _).2,hc⟩
 rw [decide_eq_true_eq] at h
 refine Ok.chk (by simp;omega) (Ok.chk (Nat.ble_eq_true_of_le (by omega)) (Ok.ret ⟨(Vp _).1,(Vp _).2,?_⟩))
 show 0≤w64 (c.fI+1)
 rw [w64_id (by omega) (by omega)];omega
theorem tmod_lt {a n:Int} (ha:0≤a) (hn:0<n):0≤a.tmod n∧a.tmod n<n:=⟨Int.tmod_nonneg _ ha,Int.tmod_lt_of_pos _ hn⟩
theorem PY {c:SL01Cur} {n:Int} (hc:JY c):Ok (OY c n) fun r=>(0≤r.1∧(0<n→r.1<n)∧(n≤0→r.1=0))∧JY r.2:=by
 rw [OY,Sr]
 refine Ok.cond (fun h=>?_) fun h=>?_
 ·rw [decide_eq_true_eq] at h
  exact Ok.ret ⟨⟨Int.le_refl 0,fun h2=>h2,fun _=>rfl⟩,hc⟩
 ·rw [decide_eq_false_iff_not] at h
  have hn:(!(n == 0))=true:=by simp;omega
  refine Ok.cond (fun _=>?_) fun _=>?_
  ·refine Ok.bind (Yg hc) fun a ha=>Ok.chk hn (Ok.ret ?_)
   have:=tmod_lt ha.1 (show 0<n by omega)
   exact ⟨⟨this.1,fun _=>this.2,fun h2=>by omega⟩,ha.2.2⟩
  ·refine Ok.bind (Yg hc) fun a ha=>Ok.bind (Yg ha.2.2) fun b hb=>Ok.bind (Yg hb.2.2) fun d hd=>Ok.bind (Yg hd.2.2) fun e he=>Ok.chk hn (Ok.ret ?_)
   obtain ⟨a1,a2,_⟩:=ha
   obtain ⟨b1,b2,_⟩:=hb
   obtain ⟨d1,d2,_⟩:=hd
   obtain ⟨e1,e2,e3⟩:=he
   have hw:w64 (w64 (w64 (w64 (a.1*16777216)+w64 (b.1*65536))+w64 (d.1*256))+e.1)=a.1*16777216+b.1*65536+d.1*256+e.1:=by
    rw [w64_id (n:=a.1*16777216) (by omega) (by omega),w64_id (n:=b.1*65536) (by omega) (by omega),w64_id (n:=d.1*256) (by omega) (by omega),w64_id (n:=a.1*16777216+b.1*65536) (by omega) (by omega),w64_id (n:=a.1*16777216+b.1*65536+d.1*256) (by omega) (by omega),w64_id (by omega) (by omega)]
   have:=tmod_lt (show 0≤a.1*16777216+b.1*65536+d.1*256+e.1 by omega) (show 0<n by omega)
   simp only [hw]
   exact ⟨⟨this.1,fun _=>this.2,fun h2=>by omega⟩,e3⟩
theorem Uc {c:SL01Cur} {l:List Int} (hc:JY c) (hl:0<l.length):Ok (Ba c l) fun r=>r.1 ∈ l∧JY r.2:=by
 rw [Ba,Ur]
 refine Ok.bind (PY hc) fun a ha=>?_
 have h1:=ha.1.2.1 (by omega)
 refine Ok.chk (by simp;omega) (Ok.ret ⟨?_,ha.2⟩)
 rw [getD_at (by omega)];exact List.getElem_mem _
theorem Xx {c:SL01Cur} {l:List ByteArray} (hc:JY c) (hl:0<l.length):Ok (Md c l) fun r=>r.1 ∈ l∧JY r.2:=by
 rw [Md,Vr]
 refine Ok.bind (PY hc) fun a ha=>?_
 have h1:=ha.1.2.1 (by omega)
 refine Ok.chk (by simp;omega) (Ok.ret ⟨?_,ha.2⟩)
 rw [getD_at (by omega)];exact List.getElem_mem _
theorem Xc {c:SL01Cur} {n:Int} (hc:JY c):Ok (Qd c n) fun r=>JY r.2:=by
 rw [Qd,Xr]
 exact Ok.bind (PY hc) fun a ha=>Ok.ret ha.2
theorem LAE {c:SL01Cur} {n:Int} (hc:JY c) (h0:0≤n):Ok (Gi c n) fun r=>(r.1.size:Int)=min n 5000∧JY r.2:=by
 have key:∀ (j i m:Nat) (N:Nat) (a b:Int) (out:List Int),i+j=N→N≤5000→out.length=i→0≤a→Ok (Xf (m+j+1) (.c0 (N:Int) (i:Int) a b out)) fun r=>r.1.size=N∧JY r.2:=by
  intro j
  induction j with
  | zero=>
   intro i m N a b out hi hN ho ha
   rw [Xf];simp only [Gn]
   rw [TT (by simp;omega)]
   exact Ok.ret ⟨by rw [ofBytes_size];omega,ha⟩
  | succ j ih=>
   intro i m N a b out hi hN ho ha
   have hw:w64 ((i:Int)+1)=((i+1:Nat):Int):=by rw [w64_id (by omega) (by omega)];rfl
   rw [show m+(j+1)+1=(m+j+1)+1 from rfl,Xf]
   simp only [Gn,hw]
   rw [TB (by simp;omega)]
   exact Ok.bind (Yg (c:=⟨(),a,b⟩) ha) fun r hr=>Ok.chk (by simp;omega) (ih (i+1) m N _ _ _ (by omega) hN (by simp [ho]) hr.2.2)
 rw [Gi,Zr]
 have run:∀ N:Nat,N≤5000→Ok (Xf gas (.c0 (N:Int) 0 c.fI c.fH [])) fun r=>r.1.size=N∧JY r.2:=fun N hN=>by
  obtain ⟨m,hm⟩:∃ m,gas=m+N+1:=⟨gas - (N+1),by have:=gas_lt (n:=N+1) (by omega);omega⟩
  rw [hm]
  exact key N 0 m N _ _ [] (Nat.zero_add _) hN rfl hc
 refine Ok.cond (fun h=>?_) fun h=>?_
 ·rw [decide_eq_true_eq] at h
  exact (run 5000 (Nat.le_refl _)).mono fun r hr=>⟨by omega,hr.2⟩
 ·rw [decide_eq_false_iff_not] at h
  have:=run n.toNat (by omega)
  rw [show ((n.toNat:Nat):Int)=n by omega] at this
  exact this.mono fun r hr=>⟨by omega,hr.2⟩
def LY (x:SThing):Bool:=NM x.fId 1 1000 && NM x.fKind 1 3 && NM x.fNext 0 16 && ((x.fKind == 2) || ((x.fNext == 0) && !x.fSigns)) && ((x.fKind == 1) || !x.fWraps) && (bif x.fKind == 3 then decide ((x.fValue.size:Int)≤100) else (x.fValue.size:Int) == 32)
theorem H8 (x:SThing):Qb x=some (LY x):=by
 simp only [Qb,Qs,Aq,Option.bind_some,LY,bne]
 cases NM x.fId 1 1000 <;> cases NM x.fKind 1 3 <;> cases NM x.fNext 0 16 <;> cases (x.fKind == 2) <;> cases (x.fKind == 1) <;> cases (x.fKind == 3) <;> cases (x.fNext == 0) <;> cases x.fSigns <;> cases x.fWraps <;> rfl
theorem Bc {x:SThing} (h:LY x=true):1≤x.fKind∧x.fKind≤3∧1≤x.fId∧x.fId≤1000∧0≤x.fNext∧x.fNext≤16∧x.fValue.size≤100:=by
 unfold LY at h
 simp only [Bool.and_eq_true] at h
 obtain ⟨⟨⟨⟨⟨h1,h2⟩,h3⟩,_⟩,_⟩,h4⟩:=h
 rw [CZ] at h1 h2 h3
 refine ⟨h2.1,h2.2,h1.1,h1.2,h3.1,h3.2,?_⟩
 cases hk:x.fKind == 3
 ·rw [hk] at h4;simp at h4;omega
 ·rw [hk] at h4;simp at h4;omega
theorem I8 {s:ByteArray} (h:s ∈ [(⟨#[97]⟩:ByteArray),⟨#[98]⟩,⟨#[99]⟩]):s.size=1:=by
 simp only [List.mem_cons,List.not_mem_nil,or_false] at h
 rcases h with rfl | rfl | rfl <;> rfl
theorem J8 {c:SL01Cur} (hc:JY c):Ok (Td c) fun r=>LY r.1=true∧JY r.2:=by
 rw [Td,Es]
 refine Ok.bind (PY hc) fun a ha=>Ok.bind (PY ha.2) fun b hb=>Ok.bind (Xc hb.2) fun d hd=>Ok.bind (Xc hd) fun e he=>?_
 have a1:=ha.1.2.1 (by omega)
 have b1:=hb.1.2.1 (by omega)
 have hi:w64 (1+a.1)=1+a.1:=w64_id (by omega) (by omega)
 have hk:w64 (1+b.1)=1+b.1:=w64_id (by omega) (by omega)
 rw [hi,hk]
 have base:NM (1+a.1) 1 1000=true∧NM (1+b.1) 1 3=true:=⟨CZ.2 (by omega),CZ.2 (by omega)⟩
 have hd32:∀ s:ByteArray,((BZ s).size:Int) == 32:=fun s=>by rw [Zp];rfl
 refine Ok.cond (fun h3=>?_) fun h3=>Ok.cond (fun h2=>?_) fun h2=>?_
 ·refine Ok.bind (PY he) fun f hf=>Ok.bind (LAE hf.2 hf.1.1) fun g hg=>Ok.ret ⟨?_,hg.2⟩
  have f1:=hf.1.2.1 (by omega)
  rw [beq_iff_eq] at h3
  rw [LY,base.1,base.2,h3,decide_eq_true (by have:=hg.1;omega:(g.1.size:Int)≤100)];rfl
 ·refine Ok.bind (PY he) fun f hf=>Ok.bind (Xc hf.2) fun g hg=>Ok.bind (Xx hg (by decide)) fun t ht=>Ok.bind (Ok.eq (Ul (by rw [I8 ht.1];decide))) fun v hv=>Ok.ret ⟨?_,ht.2⟩
  have f1:=hf.1.2.1 (by omega)
  subst hv
  rw [beq_iff_eq] at h2
  rw [LY,base.1,base.2,h2,CZ.2 (⟨hf.1.1,by omega⟩:0≤f.1∧f.1≤16)]
  simp only [hd32];rfl
 ·refine Ok.bind (Xc he) fun g hg=>Ok.bind (Xx hg (by decide)) fun t ht=>Ok.bind (Ok.eq (Ul (by rw [I8 ht.1];decide))) fun v hv=>Ok.ret ⟨?_,ht.2⟩
  subst hv
  rw [beq_eq_false_iff_ne] at h3 h2
  have hk1:1+b.1=1:=by have:=CZ.1 base.2;omega
  rw [LY,base.1,base.2,hk1]
  simp only [hd32];rfl
theorem L8 {c:SL01Cur} {b:SBook} (hc:JY c) (hb:∀ x ∈ b.fThings,x.fId≤9223372036854775807):Ok (Ob c b) fun r=>r.1.fNum≤9223372036854775807∧JY r.2:=by
 have z:(0:Int)≤9223372036854775807:=by omega
 rw [Ob,Gs]
 refine Ok.bind (Uc hc (Nat.succ_pos _)) fun a ha=>Ok.cond (fun _=>?_) fun _=>Ok.cond (fun _=>?_) fun _=>Ok.cond (fun _=>?_) fun _=>Ok.cond (fun _=>?_) fun _=>Ok.ret ⟨z,ha.2⟩
 ·refine Ok.bind (Xx ha.2 (Nat.succ_pos _)) fun s hs=>?_
  have h1:s.1.size≤1000000000:=by
   have:=hs.1
   simp only [List.mem_cons,List.not_mem_nil,or_false] at this
   rcases this with h | h | h <;> rw [h] <;> decide
  exact Ok.bind (Ok.eq (Ul h1)) fun d _=>Ok.ret ⟨z,hs.2⟩
 ·refine Ok.bind (PY ha.2) fun s hs=>Ok.ret ⟨?_,hs.2⟩
  have:=hs.1.2.1 (by omega)
  show s.1≤9223372036854775807;omega
 ·refine Ok.bind (J8 ha.2) fun x hx=>Ok.cond (fun h=>?_) fun _=>Ok.ret ⟨z,hx.2⟩
  rw [decide_eq_true_eq] at h
  refine Ok.bind (Xc hx.2) fun y hy=>Ok.cond (fun _=>?_) fun _=>Ok.ret ⟨z,hy⟩
  refine Ok.bind (PY hy) fun i hi=>?_
  have h1:=hi.1.2.1 (by omega)
  have h0:=hi.1.1
  have hi2:=hi.2
  refine Ok.chk (by simp;omega) (Ok.cond (fun _=>?_) fun _=>?_)
  ·refine Ok.cond (fun _=>?_) fun _=>?_
   ·exact Ok.cond (fun _=>Ok.cond (fun _=>Ok.bind (PY hi2) fun k hk=>Ok.ret ⟨z,hk.2⟩) fun _=>Ok.ret ⟨z,hi2⟩) fun _=>Ok.ret ⟨z,hi2⟩
   ·exact Ok.bind (Xc hi2) fun q hq=>Ok.cond (fun _=>Ok.cond (fun _=>Ok.bind (PY hq) fun k hk=>Ok.ret ⟨z,hk.2⟩) fun _=>Ok.ret ⟨z,hq⟩) fun _=>Ok.ret ⟨z,hq⟩
  ·refine Ok.bind (Xc hi2) fun q hq=>Ok.cond (fun _=>?_) fun _=>?_
   ·exact Ok.cond (fun _=>Ok.cond (fun _=>Ok.bind (PY hq) fun k hk=>Ok.ret ⟨z,hk.2⟩) fun _=>Ok.ret ⟨z,hq⟩) fun _=>Ok.ret ⟨z,hq⟩
   ·exact Ok.bind (Xc hq) fun q hq=>Ok.cond (fun _=>Ok.cond (fun _=>Ok.bind (PY hq) fun k hk=>Ok.ret ⟨z,hk.2⟩) fun _=>Ok.ret ⟨z,hq⟩) fun _=>Ok.ret ⟨z,hq⟩
 ·refine Ok.bind (PY ha.2) fun s hs=>Ok.cond (fun h=>?_) fun _=>?_
  ·rw [decide_eq_true_eq] at h
   refine Ok.bind (PY hs.2) fun i hi=>?_
   have h1:=hi.1.2.1 (by omega)
   have h0:=hi.1.1
   refine Ok.chk (by simp;omega) (Ok.ret ⟨?_,hi.2⟩)
   rw [getD_at (by omega)]
   exact hb _ (List.getElem_mem _)
  ·exact Ok.ret ⟨(VAC _).2,hs.2⟩
def FN (n:Int):List Int:=if n > 127 then (128+n % 128)::FN (n / 128) else [w8 n]
termination_by n.toNat
decreasing_by omega
theorem MAE:∀ (k:Nat) (n:Int),n<128 ^ k→(FN n).length≤max k 1:=by
 intro k
 induction k with
 | zero=>intro n h;rw [FN,if_neg (by omega)];simp
 | succ k ih=>
  intro n h
  rw [FN]
  split
  ·rename_i hn
   have h2:n / 128<128 ^ k:=by
    rw [Int.pow_succ] at h
    exact Int.ediv_lt_of_lt_mul (by omega) h
   have:=ih _ h2
   simp only [List.length_cons]
   by_cases hk:k=0
   ·subst hk;simp at h2;try omega
   ·omega
  ·simp;try omega
theorem Eb {n:Int} (h:n≤9223372036854775807):(FN n).length≤10:=by
 have:=MAE 10 n (by (have:(128:Int) ^ 10=1180591620717411303424:=by decide);omega)
 omega
theorem VAH (n:Int):1≤(FN n).length:=by rw [FN];split <;> simp
theorem N8 {n:Int} (h:n > 127) (h2:n≤9223372036854775807):w64 (n.tdiv 128)=n / 128∧w8 (w64 (n.tmod 128+128))=128+n % 128∧w8 (w64 (128+n.tmod 128))=128+n % 128:=by
 have e1:n.tdiv 128=n / 128:=Int.tdiv_eq_ediv_of_nonneg (by omega)
 have e2:n.tmod 128=n % 128:=Int.tmod_eq_emod_of_nonneg (by omega)
 refine ⟨by rw [e1,w64_id (by omega) (by omega)],?_,?_⟩
 ·rw [e2,w64_id (by omega) (by omega),w8_id (by omega) (by omega)];omega
 ·rw [e2,w64_id (by omega) (by omega),w8_id (by omega) (by omega)]
theorem Vl {n:Int} (h:n≤9223372036854775807):Jc n=some (ofBytes (FN n)):=by
 have key:∀ (n:Int) (m:Nat) (out:List Int),n≤9223372036854775807→(FN n).length≤m→out.length+(FN n).length≤1000→Qi m (.c0 n out)=some (ofBytes (out++FN n)):=by
  intro n
  induction n using FN.induct with
  | case1 n hn ih=>
   intro m out h1 h2 h3
   rw [FN,if_pos hn] at h2 h3 ⊢
   simp only [List.length_cons] at h2 h3
   obtain ⟨m,rfl⟩:∃ k,m=k+1:=⟨m - 1,by omega⟩
   obtain ⟨e1,e2,_⟩:=N8 hn h1
   simp only [Qi,Qn,e1,e2]
   rw [show decide (n > 127)=true from decide_eq_true hn,show decide ((out.length+1)*1≤140737488355328)=true from decide_eq_true (by omega)]
   simp only [cond_true]
   rw [ih m _ (by omega) (by omega) (by simp;omega)]
   simp
  | case2 n hn=>
   intro m out h1 h2 h3
   rw [FN,if_neg hn] at h2 h3 ⊢
   simp at h2 h3
   obtain ⟨m,rfl⟩:∃ k,m=k+1:=⟨m - 1,by omega⟩
   simp only [Qi,Qn]
   rw [show decide (n > 127)=false from decide_eq_false hn,show decide ((out.length+1)*1≤140737488355328)=true from decide_eq_true (by omega)]
   rfl
 have hl:=Eb h
 exact key n gas [] h (Nat.le_of_lt (gas_lt (by omega))) (by simp;omega)
theorem NAE (b:Bool) (n:Int):Rn b n=some (bif b then n else 0):=by cases b <;> rfl
theorem O8 {n:Int} (h:0≤n) (h2:n≤255):Si n=some (ofBytes [n]):=by
 have e:n.tmod 256=n:=by rw [Int.tmod_eq_emod_of_nonneg h];omega
 simp only [Si,Dt,e]
 rw [show decide (n<0)=false from decide_eq_false (by omega),w8_id h h2]
 rfl
def Fb (s:ByteArray):ByteArray:=ofBytes (FN (s.size:Int))++s
theorem OAE {s:ByteArray} (h:s.size≤140737488351232):(Fb s).size≤s.size+10:=by
 unfold Fb;rw [ba_append_size,ofBytes_size];have:=Eb (n:=(s.size:Int)) (by omega);omega
theorem PAE {s:ByteArray} (h:s.size≤140737488351232):Ti s=some (Fb s):=by
 simp only [Ti,Gt,Vl (n:=(s.size:Int)) (by omega),Option.bind_some]
 have:=Eb (n:=(s.size:Int)) (by omega)
 rw [show decide ((ofBytes (FN (s.size:Int))).size+s.size≤9223372036854775807)=true from decide_eq_true (by rw [ofBytes_size];omega)]
 rfl
def Ze (x:SThing):Int:=(bif x.fHidden then 1 else 0)+(bif x.fFixed then 2 else 0)+(bif x.fSigns then 4 else 0)+(bif x.fWraps then 8 else 0)
theorem P8 (x:SThing):0≤Ze x∧Ze x≤15:=by
 unfold Ze;cases x.fHidden <;> cases x.fFixed <;> cases x.fSigns <;> cases x.fWraps <;> decide
theorem QAE (m:Nat) (a b c d:Bool):Vu (m+5) (.c0 0 4 0 [a,b,c,d])=some ((bif a then 1 else 0)+(bif b then 2 else 0)+(bif c then 4 else 0)+(bif d then 8 else 0)):=by
 cases a <;> cases b <;> cases c <;> cases d <;> kernel_rfl
theorem RAE (x:SThing):Qj x=some (Ze x):=by
 obtain ⟨m,this⟩:∃ m,gas=m+5:=⟨gas - 5,rfl⟩
 unfold Qj Uu
 rw [this]
 exact QAE _ _ _ _ _
def Bq (x:SThing):ByteArray:=ofBytes (FN x.fId)++ofBytes [x.fKind]++ofBytes [Ze x]++Fb x.fValue++ofBytes (FN x.fNext)
def GZ (x:SThing):ByteArray×Bool:=bif LY x then (Bq x,true) else (⟨#[]⟩,false)
theorem Yx {x:SThing} (h:LY x=true):(ofBytes (FN x.fId)).size≤10∧(Fb x.fValue).size≤110∧(ofBytes (FN x.fNext)).size≤10:=by
 obtain ⟨_,_,_,h1,_,h2,h3⟩:=Bc h
 rw [ofBytes_size,ofBytes_size]
 have:=Eb (n:=x.fId) (by omega)
 have:=Eb (n:=x.fNext) (by omega)
 have:=OAE (s:=x.fValue) (by omega)
 omega
theorem Q8 {x:SThing} (h:LY x=true):(Bq x).size≤200:=by
 obtain ⟨h1,h2,h3⟩:=Yx h
 unfold Bq
 simp only [ba_append_size]
 have e1:∀ n:Int,(ofBytes [n]).size=1:=fun n=>ofBytes_size _
 rw [e1,e1];omega
theorem SAE (x:SThing):Ui x=some (GZ x):=by
 simp only [Ui,Jt,H8,Option.bind_some,GZ]
 cases h:LY x
 ·rfl
 ·obtain ⟨k1,k2,k3,k4,k5,k6,k7⟩:=Bc h
  obtain ⟨z1,z2,z3⟩:=Yx h
  have hf:=P8 x
  have e1:∀ n:Int,(ofBytes [n]).size=1:=fun n=>ofBytes_size _
  have ef:w64 (w64 (w64 ((bif x.fHidden then (1:Int) else 0)+(bif x.fFixed then 2 else 0))+(bif x.fSigns then 4 else 0))+(bif x.fWraps then 8 else 0))=Ze x:=by
   unfold Ze;cases x.fHidden <;> cases x.fFixed <;> cases x.fSigns <;> cases x.fWraps <;> rfl
  simp only [NAE,Option.bind_some,ef,Vl (n:=x.fId) (by omega),O8 (n:=x.fKind) (by omega) (by omega),O8 hf.1 (by omega),PAE (s:=x.fValue) (by omega),Vl (n:=x.fNext) (by omega),ba_append_size,e1]
  simp only [Bool.not_true,cond_false,cond_true]
  rw [show decide ((ofBytes (FN x.fId)).size+1≤9223372036854775807)=true from decide_eq_true (by omega),show decide ((ofBytes (FN x.fId)).size+1+1≤9223372036854775807)=true from decide_eq_true (by omega),
   show decide ((ofBytes (FN x.fId)).size+1+1+(Fb x.fValue).size≤9223372036854775807)=true from decide_eq_true (by omega),show decide ((ofBytes (FN x.fId)).size+1+1+(Fb x.fValue).size+(ofBytes (FN x.fNext)).size≤9223372036854775807)=true from decide_eq_true (by omega)]
  rfl
def UY (x:SThing):Bool:=(x.fId == 0) && ((x.fKind == 0) && ((x.fHidden == false) && ((x.fFixed == false) && ((x.fSigns == false) && ((x.fWraps == false) && (((ByteArray.toList x.fValue) == (ByteArray.toList (⟨#[]⟩:ByteArray))) && ((x.fNext == 0) && true)))))))
theorem U8 (x:SThing):((x.fId == 0) && ((x.fKind == 0) && ((x.fHidden == false) && ((x.fFixed == false) && ((x.fSigns == false) && ((x.fWraps == false) && (((ByteArray.toList x.fValue) == (ByteArray.toList (⟨#[]⟩:ByteArray))) && ((x.fNext == 0) && true))))))))=UY x:=rfl
def TY (s:ByteArray):Bool:=(ByteArray.toList s) == (ByteArray.toList (⟨#[]⟩:ByteArray))
theorem V8 (s:ByteArray):((ByteArray.toList s) == (ByteArray.toList (⟨#[]⟩:ByteArray)))=TY s:=rfl
def noT:ByteArray×Bool:=((⟨#[]⟩:ByteArray),false)
def NY (r:SRec):ByteArray×Bool:=
 bif r.fKind == 1 then (bif (r.fText.size:Int) == 32 && r.fNum == 0 && UY r.fThing then (ofBytes [1]++r.fText,true) else noT)
 else bif r.fKind == 2 then (bif TY r.fText && UY r.fThing && NM r.fNum 0 3 then (ofBytes [2]++ofBytes (FN r.fNum),true) else noT)
 else bif r.fKind == 3 then (bif (GZ r.fThing).2 && TY r.fText && r.fNum == 0 then (ofBytes [3]++(GZ r.fThing).1,true) else noT)
 else bif r.fKind == 4 then (bif TY r.fText && UY r.fThing && NM r.fNum 1 1000 then (ofBytes [4]++ofBytes (FN r.fNum),true) else noT)
 else noT
theorem Dq {n a b:Int} (hb:b≤1000) (h:NM n a b=true) (k:Int):(ofBytes [k]).size+(ofBytes (FN n)).size≤9223372036854775807:=by
 rw [CZ] at h
 have:=Eb (n:=n) (by omega)
 rw [ofBytes_size,ofBytes_size];simp only [List.length_singleton];omega
theorem X8 {x:SThing} (h:(GZ x).2=true) (k:Int):(ofBytes [k]).size+(GZ x).1.size≤9223372036854775807:=by
 unfold GZ at h ⊢
 cases ho:LY x
 ·rw [ho] at h;cases h
 ·have:=Q8 ho
  rw [ofBytes_size];simp only [List.length_singleton,cond_true];omega
theorem TAE (r:SRec):Ud r=some (NY r):=by
 have h1:(⟨#[1]⟩:ByteArray)=ofBytes [1]:=rfl
 have h2:(⟨#[2]⟩:ByteArray)=ofBytes [2]:=rfl
 have h3:(⟨#[3]⟩:ByteArray)=ofBytes [3]:=rfl
 have h4:(⟨#[4]⟩:ByteArray)=ofBytes [4]:=rfl
 simp only [Ud,Kt,Aq,SAE,Option.bind_some,U8,h1,h2,h3,h4]
 simp only [V8,NY]
 cases r.fKind == 1
 ·simp only [cond_false]
  cases r.fKind == 2
  ·simp only [cond_false]
   cases r.fKind == 3
   ·simp only [cond_false]
    cases r.fKind == 4
    ·rfl
    ·cases TY r.fText <;> cases UY r.fThing <;> (try rfl)
     cases h:NM r.fNum 1 1000
     ·rfl
     ·have h':=h
      rw [CZ] at h'
      simp only [cond_true,Vl (n:=r.fNum) (by omega),Option.bind_some,Bool.and_self,decide_eq_true (Dq (by omega) h 4)]
   ·cases h:(GZ r.fThing).2
    ·rfl
    ·cases TY r.fText <;> cases r.fNum == 0 <;> (try rfl)
     simp only [cond_true,Bool.and_self,decide_eq_true (X8 h 3)]
  ·cases TY r.fText <;> cases UY r.fThing <;> (try rfl)
   cases h:NM r.fNum 0 3
   ·rfl
   ·have h':=h
    rw [CZ] at h'
    simp only [cond_true,Vl (n:=r.fNum) (by omega),Option.bind_some,Bool.and_self,decide_eq_true (Dq (by omega) h 2)]
 ·cases h:(r.fText.size:Int) == 32 <;> cases r.fNum == 0 <;> cases UY r.fThing <;> (try rfl)
  have h':r.fText.size=32:=by have:=beq_iff_eq.1 h;omega
  have e:(ofBytes [1]).size+r.fText.size≤9223372036854775807:=by rw [ofBytes_size];simp only [List.length_singleton];omega
  simp only [cond_true,Bool.and_self,decide_eq_true e]
def rise (last:Int):Int→List SThing→Bool
 | _,[]=>true
 | p,x::xs=>LY x && (!decide (x.fId > last) && (!decide (p≥x.fId) && rise last x.fId xs))
def IZ (l:List SThing):Nat→Int
 | 0=>0
 | i+1=>((l[i]?).map (·.fId)).getD 0
theorem Zx {l:List SThing} {i:Nat} (hi:i<l.length):IZ l (i+1)=l[i].fId:=by simp [IZ,hi]
theorem Y8 {l:List SThing} {last:Int} {i:Nat} (hi:i<l.length):rise last (IZ l i) (l.drop i)=(LY l[i] && (!decide (l[i].fId > last) && (!decide (IZ l i≥l[i].fId) && rise last (IZ l (i+1)) (l.drop (i+1))))):=by
 rw [drop_at hi,rise,Zx hi]
def QY (b:SBook):Bool:=(b.fWord.size:Int) == 32 && ((b.fChain.size:Int) == 32 && (NM b.fTries 0 3 && (decide ((b.fThings.length:Int)≤8) && (NM b.fLast 0 1000 && (NM b.fCount 0 10000 && rise b.fLast 0 b.fThings)))))
theorem UAE {b:SBook} (hb:b.fThings.length≤140737488351232):∀ m i,i≤b.fThings.length→b.fThings.length - i<m→Vd m (.c0 i b)=some (rise b.fLast (IZ b.fThings i) (b.fThings.drop i)):=fun m i h1 h2=>
 loopN (A:=Unit) (n:=b.fThings.length) (Lp:=Vd) (st:=fun i _=>.c0 i b) (Inv:=fun _ _=>True) (out:=fun i _=>some (rise b.fLast (IZ b.fThings i) (b.fThings.drop i)))
  (fun m _ _=>by
   simp only [Vd,Un]
   rw [show decide ((b.fThings.length:Int)<(b.fThings.length:Int))=false from decide_eq_false (by omega),List.drop_of_length_le (Nat.le_refl _)]
   rfl)
  (fun m i _ hi _=>by
   have hw:w64 ((i:Int)+1)=((i+1:Nat):Int):=by rw [w64_id (by omega) (by omega)];rfl
   simp only [Y8 hi]
   simp only [Vd,Un,Int.toNat_natCast,getD_at hi,H8,Option.bind_some,hw]
   rw [show decide ((i:Int)<(b.fThings.length:Int))=true from decide_eq_true (by omega),show decide ((0:Int)≤(i:Int))=true from decide_eq_true (by omega)]
   simp only [Bool.and_self,cond_true]
   cases h1:LY b.fThings[i]
   ·exact .inl rfl
   ·cases h2:decide (b.fThings[i].fId > b.fLast)
    ·by_cases h0:i=0
     ·subst h0
      refine .inr ⟨(),rfl,trivial,?_⟩
      rw [show decide (IZ b.fThings 0≥b.fThings[0].fId)=false from decide_eq_false (by have:=(Bc h1).2.2.1;simp only [IZ];omega)]
      rfl
     ·obtain ⟨j,rfl⟩:∃ j,i=j+1:=⟨i - 1,by omega⟩
      have hj:w64 (((j+1:Nat):Int) - 1)=(j:Int):=by rw [w64_id (by omega) (by omega)];omega
      have hjl:j<b.fThings.length:=by omega
      rw [Zx hjl]
      simp only [hj,Int.toNat_natCast,getD_at hjl,Bool.not_true,Bool.not_false,cond_false,Bool.true_and]
      rw [show decide (((j+1:Nat):Int) > 0)=true from decide_eq_true (by omega),show decide ((0:Int)≤(j:Int))=true from decide_eq_true (by omega),show decide ((j:Int)<(b.fThings.length:Int))=true from decide_eq_true (by omega)]
      simp only [Bool.and_self,cond_true]
      cases h3:decide (b.fThings[j].fId≥b.fThings[j+1].fId)
      ·exact .inr ⟨(),rfl,trivial,rfl⟩
      ·exact .inl rfl
    ·exact .inl rfl) m i () h1 h2 trivial
theorem Af {b:SBook} (hb:b.fThings.length≤140737488351232):Ea b=some (QY b):=by
 have h0:Vd gas (.c0 0 b)=some (rise b.fLast 0 b.fThings):=UAE hb gas 0 (Nat.zero_le _) (gas_lt (by omega))
 simp only [Ea,Ot,Aq,Option.bind_some,QY,bne,h0]
 rw [show decide ((b.fThings.length:Int)≤8) = !decide ((b.fThings.length:Int) > 8) by rw [←decide_not];simp]
 cases (b.fWord.size:Int) == 32 <;> cases (b.fChain.size:Int) == 32 <;> cases NM b.fTries 0 3 <;> cases decide ((b.fThings.length:Int) > 8) <;> cases NM b.fLast 0 1000 <;> cases NM b.fCount 0 10000 <;> rfl
theorem Z8 {b:SBook} (h:b.fThings.length≤2932031007317):Ub b=some b:=by
 rw [Ub,Rt,TB (by simp;omega)];rfl
def RV (xs:List SThing) (t:Int):Option SThing:=xs.find? fun x=>x.fId == t
def Bf:SThing:=⟨0,0,false,false,false,false,⟨#[]⟩,0⟩
theorem C9 {b:SBook} {t:Int} (h:b.fThings.length≤140737488351232):Ag b t=some (match RV b.fThings t with | some x=>(x,true) | none=>(Bf,false)):=by
 have key:∀ m i,i≤b.fThings.length→b.fThings.length - i<m→Zf m (.c0 t i b Bf)=some (match RV (b.fThings.drop i) t with | some x=>(x,true) | none=>(Bf,false)):=fun m i h1 h2=>
  loopN (A:=Unit) (n:=b.fThings.length) (Lp:=Zf) (st:=fun i _=>.c0 t i b Bf) (Inv:=fun _ _=>True) (out:=fun i _=>some (match RV (b.fThings.drop i) t with | some x=>(x,true) | none=>(Bf,false)))
   (fun m _ _=>by simp [Zf,Yn,RV,Bf])
   (fun m i _ hi _=>by
    have hw:w64 ((i:Int)+1)=((i+1:Nat):Int):=by rw [w64_id (by omega) (by omega)];rfl
    simp only [Zf,Yn,Int.toNat_natCast,getD_at hi,hw,drop_at hi,RV,List.find?_cons]
    cases hq:b.fThings[i].fId == t
    ·exact .inr ⟨(),by simp [hi],trivial,by simp⟩
    ·exact .inl (by simp [hi])) m i () h1 h2 trivial
 have h0:=key gas 0 (Nat.zero_le _) (gas_lt (by omega))
 exact h0
theorem Fq {r:SRec} (h:(NY r).2=true):(r.fKind=1∧r.fText.size=32)∨(r.fKind=2∧0≤r.fNum∧r.fNum≤3)∨(r.fKind=3∧LY r.fThing=true)∨(r.fKind=4∧1≤r.fNum∧r.fNum≤1000):=by
 rw [NY] at h
 by_cases h1:r.fKind=1
 ·rw [show (r.fKind == 1)=true by rw [beq_iff_eq];exact h1,cond_true] at h
  cases hc:((r.fText.size:Int) == 32 && r.fNum == 0 && UY r.fThing)
  ·rw [hc] at h;cases h
  ·rw [Bool.and_eq_true,Bool.and_eq_true,beq_iff_eq] at hc
   exact .inl ⟨h1,by omega⟩
 rw [show (r.fKind == 1)=false by rw [beq_eq_false_iff_ne];exact h1,cond_false] at h
 by_cases h2:r.fKind=2
 ·rw [show (r.fKind == 2)=true by rw [beq_iff_eq];exact h2,cond_true] at h
  cases hc:(TY r.fText && UY r.fThing && NM r.fNum 0 3)
  ·rw [hc] at h;cases h
  ·rw [Bool.and_eq_true,CZ] at hc
   exact .inr (.inl ⟨h2,hc.2⟩)
 rw [show (r.fKind == 2)=false by rw [beq_eq_false_iff_ne];exact h2,cond_false] at h
 by_cases h3:r.fKind=3
 ·rw [show (r.fKind == 3)=true by rw [beq_iff_eq];exact h3,cond_true] at h
  cases hc:((GZ r.fThing).2 && TY r.fText && r.fNum == 0)
  ·rw [hc] at h;cases h
  ·rw [Bool.and_eq_true,Bool.and_eq_true] at hc
   refine .inr (.inr (.inl ⟨h3,?_⟩))
   have h4:=hc.1.1
   rw [GZ] at h4
   cases ho:LY r.fThing
   ·rw [ho] at h4;cases h4
   ·rfl
 rw [show (r.fKind == 3)=false by rw [beq_eq_false_iff_ne];exact h3,cond_false] at h
 by_cases h4:r.fKind=4
 ·rw [show (r.fKind == 4)=true by rw [beq_iff_eq];exact h4,cond_true] at h
  cases hc:(TY r.fText && UY r.fThing && NM r.fNum 1 1000)
  ·rw [hc] at h;cases h
  ·rw [Bool.and_eq_true,CZ] at hc
   exact .inr (.inr (.inr ⟨h4,hc.2⟩))
 rw [show (r.fKind == 4)=false by rw [beq_eq_false_iff_ne];exact h4] at h
 cases h
theorem D9 (r:SRec):(NY r).1.size≤300:=by
 rw [NY]
 have one:∀ n:Int,(ofBytes [n]).size=1:=fun n=>by rw [ofBytes_size];rfl
 cases hk1:(r.fKind == 1)
 ·rw [cond_false]
  cases hk2:(r.fKind == 2)
  ·rw [cond_false]
   cases hk3:(r.fKind == 3)
   ·rw [cond_false]
    cases hk4:(r.fKind == 4)
    ·exact Nat.zero_le _
    ·rw [cond_true]
     cases hc:(TY r.fText && UY r.fThing && NM r.fNum 1 1000)
     ·exact Nat.zero_le _
     ·rw [Bool.and_eq_true,CZ] at hc
      have:=Eb (n:=r.fNum) (by omega)
      rw [cond_true,ByteArray.size_append,one,ofBytes_size];omega
   ·rw [cond_true]
    cases hc:((GZ r.fThing).2 && TY r.fText && r.fNum == 0)
    ·exact Nat.zero_le _
    ·rw [cond_true,ByteArray.size_append,one,GZ]
     cases ho:LY r.fThing
     ·exact Nat.le_of_ble_eq_true rfl
     ·have:=Q8 ho
      show 1+(Bq r.fThing).size≤300;omega
  ·rw [cond_true]
   cases hc:(TY r.fText && UY r.fThing && NM r.fNum 0 3)
   ·exact Nat.zero_le _
   ·rw [Bool.and_eq_true,CZ] at hc
    have:=Eb (n:=r.fNum) (by omega)
    rw [cond_true,ByteArray.size_append,one,ofBytes_size];omega
 ·rw [cond_true]
  cases hc:((r.fText.size:Int) == 32 && r.fNum == 0 && UY r.fThing)
  ·exact Nat.zero_le _
  ·rw [Bool.and_eq_true,Bool.and_eq_true,beq_iff_eq] at hc
   rw [cond_true,ByteArray.size_append,one];omega
def VY:List SThing→Int→Nat→Option Nat
 | [],_,_=>none
 | x::xs,t,i=>if x.fId == t then some i else VY xs t (i+1)
theorem F9 (t:Int):∀ (xs:List SThing) (i:Nat),match VY xs t i with | some j=>i≤j∧j<i+xs.length∧RV xs t=xs[j - i]? | none=>RV xs t=none:=by
 intro xs
 induction xs with
 | nil=>intro i;rfl
 | cons x xs ih=>
  intro i
  simp only [VY,RV,List.find?_cons]
  cases hq:x.fId == t
  ·have:=ih (i+1)
   simp only [Bool.false_eq_true,if_false]
   split at this
   ·rename_i j hj
    obtain ⟨h1,h2,h3⟩:=this
    refine ⟨by omega,by simp;omega,?_⟩
    rw [show j - i=(j - (i+1))+1 by omega,List.getElem?_cons_succ]
    exact h3
   ·exact this
  ·simp
theorem ZY {b:SBook}:QY b=true↔b.fWord.size=32∧b.fChain.size=32∧(0≤b.fTries∧b.fTries≤3)∧b.fThings.length≤8∧(0≤b.fLast∧b.fLast≤1000)∧(0≤b.fCount∧b.fCount≤10000)∧rise b.fLast 0 b.fThings=true:=by
 simp only [QY,Bool.and_eq_true,beq_iff_eq,CZ,decide_eq_true_eq]
 exact ⟨fun ⟨h1,h2,h3,h4,h5,h6,h7⟩=>⟨by omega,by omega,h3,by omega,h5,h6,h7⟩,fun ⟨h1,h2,h3,h4,h5,h6,h7⟩=>⟨by omega,by omega,h3,by omega,h5,h6,h7⟩⟩
theorem QZ {last p:Int} {x:SThing} {xs:List SThing}:rise last p (x::xs)=true↔LY x=true∧x.fId≤last∧p<x.fId∧rise last x.fId xs=true:=by
 simp only [rise,Bool.and_eq_true,Bool.not_eq_true',decide_eq_false_iff_not]
 exact ⟨fun ⟨h1,h2,h3,h4⟩=>⟨h1,by omega,by omega,h4⟩,fun ⟨h1,h2,h3,h4⟩=>⟨h1,by omega,by omega,h4⟩⟩
theorem Zg {last:Int}:∀ {xs:List SThing} {p:Int},rise last p xs=true→∀ x ∈ xs,p<x.fId∧x.fId≤last∧LY x=true
 | [],_,_,x,hx=>by cases hx
 | y::ys,p,h,x,hx=>by
  obtain ⟨h1,h2,h3,h4⟩:=QZ.1 h
  rcases List.mem_cons.1 hx with rfl | hx
  ·exact ⟨h3,h2,h1⟩
  ·have:=Zg h4 x hx
   exact ⟨by omega,this.2.1,this.2.2⟩
theorem Dy {last last2:Int} (hl:last≤last2):∀ {xs:List SThing} {p p2:Int},p2≤p→rise last p xs=true→rise last2 p2 xs=true
 | [],_,_,_,_=>rfl
 | y::ys,p,p2,hp,h=>by
  obtain ⟨h1,h2,h3,h4⟩:=QZ.1 h
  exact QZ.2 ⟨h1,by omega,by omega,Dy hl (Int.le_refl _) h4⟩
def XZ (x:SThing) (ts:List SThing):List SThing:=ts.filter fun t=>decide (t.fId<x.fId)
def Yc (x:SThing) (ts:List SThing):List SThing:=ts.filter fun t=>decide (t.fId > x.fId)
def putAt (ts:List SThing) (x:SThing):List SThing:=XZ x ts++x::Yc x ts
def without (ts:List SThing) (id:Int):List SThing:=ts.filter fun t=>t.fId != id
theorem VAE {last:Int} {x:SThing}:∀ {xs:List SThing} {p:Int},x.fId≤p→rise last p xs=true→XZ x xs=[]∧Yc x xs=xs∧without xs x.fId=xs:=by
 intro xs p hp h
 have ha:=Zg h
 refine ⟨List.filter_eq_nil_iff.2 fun t ht=>?_,List.filter_eq_self.2 fun t ht=>?_,List.filter_eq_self.2 fun t ht=>?_⟩
 ·have:=ha t ht;rw [decide_eq_true_eq];omega
 ·have:=ha t ht;rw [decide_eq_true_eq];omega
 ·have:=ha t ht;rw [bne_iff_ne];omega
theorem G9 {id:Int}:∀ {xs:List SThing} {i j:Nat},VY xs id i=some j→i≤j∧∃ x ∈ xs,x.fId=id:=by
 intro xs
 induction xs with
 | nil=>intro i j h;cases h
 | cons y ys ih=>
  intro i j h
  rw [VY] at h
  split at h
  ·rename_i hy;cases h;exact ⟨Nat.le_refl _,y,List.mem_cons_self ..,beq_iff_eq.1 hy⟩
  ·obtain ⟨h1,x,h2,h3⟩:=ih h;exact ⟨by omega,x,List.mem_cons_of_mem _ h2,h3⟩
theorem Ey {last:Int} {x:SThing}:∀ {xs:List SThing} {p:Int} {i j:Nat},rise last p xs=true→VY xs x.fId i=some j→xs.set (j - i) x=putAt xs x∧(xs.take (j - i)++xs.drop (j - i+1))=without xs x.fId:=by
 intro xs
 induction xs with
 | nil=>intro p i j _ h;cases h
 | cons y ys ih=>
  intro p i j hr h
  obtain ⟨h1,h2,h3,h4⟩:=QZ.1 hr
  rw [VY] at h
  split at h
  ·rename_i hy
   have hy:=beq_iff_eq.1 hy
   cases h
   obtain ⟨f1,f2,f3⟩:=VAE (x:=x) (by omega) h4
   rw [Nat.sub_self]
   simp only [putAt,XZ,Yc,without,List.filter_cons] at f1 f2 f3 ⊢
   rw [decide_eq_false (by omega),decide_eq_false (by omega),show (y.fId != x.fId)=false by rw [bne_eq_false_iff_eq];exact hy]
   simp [f1,f2,f3]
  ·rename_i hy
   obtain ⟨h5,z,h6,h7⟩:=G9 h
   have h8:=Zg h4 z h6
   obtain ⟨i1,i2⟩:=ih h4 h
   have e:j - i=(j - (i+1))+1:=by omega
   rw [e,List.set_cons_succ,i1,List.take_succ_cons,List.drop_succ_cons,List.cons_append,i2]
   simp only [putAt,XZ,Yc,without,List.filter_cons]
   rw [decide_eq_true (by omega),decide_eq_false (by omega),show (y.fId != x.fId)=true by rw [bne_iff_ne];omega]
   simp
theorem WAE {last:Int} {x:SThing} {xs:List SThing} {p:Int} (h:rise last p xs=true) (hx:last<x.fId):putAt xs x=xs++[x]∧RV xs x.fId=none:=by
 have ha:=Zg h
 constructor
 ·rw [putAt,XZ,Yc,List.filter_eq_self.2 fun t ht=>by have:=ha t ht;rw [decide_eq_true_eq];omega,List.filter_eq_nil_iff.2 fun t ht=>by have:=ha t ht;rw [decide_eq_true_eq];omega]
 ·rw [RV,List.find?_eq_none]
  intro t ht
  have:=ha t ht
  rw [beq_iff_eq];omega
theorem XAE {last:Int} {x:SThing} (hx:LY x=true) (hl:last<x.fId):∀ {xs:List SThing} {p:Int},p<x.fId→rise last p xs=true→rise x.fId p (xs++[x])=true:=by
 intro xs
 induction xs with
 | nil=>intro p hp _;exact QZ.2 ⟨hx,Int.le_refl _,hp,rfl⟩
 | cons y ys ih=>
  intro p hp h
  obtain ⟨h1,h2,h3,h4⟩:=QZ.1 h
  exact QZ.2 ⟨h1,by omega,h3,ih (by omega) h4⟩
theorem YAE {last:Int} {x:SThing} (hx:LY x=true):∀ {xs:List SThing} {p:Int} {i j:Nat},rise last p xs=true→VY xs x.fId i=some j→rise last p (xs.set (j - i) x)=true:=by
 intro xs
 induction xs with
 | nil=>intro p i j _ h;cases h
 | cons y ys ih=>
  intro p i j hr h
  obtain ⟨h1,h2,h3,h4⟩:=QZ.1 hr
  rw [VY] at h
  split at h
  ·rename_i hy
   have hy:=beq_iff_eq.1 hy
   cases h
   rw [Nat.sub_self,List.set_cons_zero]
   exact QZ.2 ⟨hx,by omega,by omega,Dy (Int.le_refl _) (by omega) h4⟩
  ·have h5:=(G9 h).1
   have e:j - i=(j - (i+1))+1:=by omega
   rw [e,List.set_cons_succ]
   exact QZ.2 ⟨h1,h2,h3,ih h4 h⟩
theorem ZAE {last:Int} (id:Int):∀ {xs:List SThing} {p:Int},rise last p xs=true→rise last p (without xs id)=true:=by
 intro xs
 induction xs with
 | nil=>intro p _;rfl
 | cons y ys ih=>
  intro p h
  obtain ⟨h1,h2,h3,h4⟩:=QZ.1 h
  rw [without,List.filter_cons]
  split
  ·exact QZ.2 ⟨h1,h2,h3,ih h4⟩
  ·exact Dy (Int.le_refl _) (by omega) (ih h4)
def grown (x y:SThing):Bool:=y.fKind == x.fKind && ((bs y.fValue == bs x.fValue) && (y.fSigns == x.fSigns && (y.fWraps == x.fWraps && (decide (x.fNext≤y.fNext) && ((y.fHidden || !x.fHidden) && (y.fFixed || !x.fFixed))))))
def Df:SBook:=⟨⟨#[]⟩,0,[],0,⟨#[]⟩,0⟩
def Cc (b:SBook) (x:SThing):Option (List SThing×Int):=match RV b.fThings x.fId with
 | some old=>bif grown old x then some (putAt b.fThings x,b.fLast) else none
 | none=>bif x.fId != b.fLast+1 || decide ((b.fThings.length:Int)≥8) then none else some (b.fThings++[x],x.fId)
def IK (b:SBook) (r:SRec):SBook×Bool:=
 bif !(QY b) || (!(NY r).2 || decide (b.fCount≥10000)) then (Df,false)
 else bif r.fKind == 1 then (⟨r.fText,0,b.fThings,b.fLast,BZ (b.fChain++(NY r).1),b.fCount+1⟩,true)
 else bif r.fKind == 2 then (⟨b.fWord,r.fNum,b.fThings,b.fLast,BZ (b.fChain++(NY r).1),b.fCount+1⟩,true)
 else bif r.fKind == 3 then (match Cc b r.fThing with
  | some p=>(⟨b.fWord,b.fTries,p.1,p.2,BZ (b.fChain++(NY r).1),b.fCount+1⟩,true)
  | none=>(Df,false))
 else (match RV b.fThings r.fNum with
  | some _=>(⟨b.fWord,b.fTries,without b.fThings r.fNum,b.fLast,BZ (b.fChain++(NY r).1),b.fCount+1⟩,true)
  | none=>(Df,false))
theorem Gy {xs:List SThing} {id:Int}:(∃ x j,RV xs id=some x∧VY xs id 0=some j∧j<xs.length∧xs[j]?=some x∧x.fId=id)∨(RV xs id=none∧VY xs id 0=none):=by
 have h:=F9 id xs 0
 cases hp:VY xs id 0 with
 | none=>rw [hp] at h;exact .inr ⟨h,rfl⟩
 | some j=>
  rw [hp] at h
  obtain ⟨_,h2,h3⟩:=h
  rw [Nat.sub_zero] at h3
  rw [Nat.zero_add] at h2
  refine .inl ⟨xs[j],j,?_,rfl,h2,List.getElem?_eq_getElem h2,?_⟩
  ·rw [h3,List.getElem?_eq_getElem h2]
  ·have h4:RV xs id=some xs[j]:=by rw [h3,List.getElem?_eq_getElem h2]
   have:=List.find?_some h4
   exact beq_iff_eq.1 this
theorem Ef {b:SBook} {r:SRec} (h:(IK b r).2=true):QY b=true∧(NY r).2=true∧b.fCount<10000∧QY (IK b r).1=true∧(IK b r).1.fCount=b.fCount+1∧(IK b r).1.fChain=BZ (b.fChain++(NY r).1):=by
 rw [IK] at h ⊢
 cases h1:QY b
 ·rw [h1] at h;cases h
 cases h2:(NY r).2
 ·rw [h1,h2] at h;cases h
 by_cases h3:b.fCount≥10000
 ·rw [h1,h2,decide_eq_true h3] at h;cases h
 rw [h1,h2,decide_eq_false h3] at h
 rw [decide_eq_false h3]
 simp only [Bool.not_true,Bool.or_false,cond_false] at h ⊢
 obtain ⟨b1,b2,b3,b4,b5,b6,b7⟩:=ZY.1 h1
 refine ⟨trivial,trivial,by omega,?_⟩
 have hd:∀ s,(BZ s).size=32:=Zp
 rcases Fq h2 with ⟨hk,hz⟩ | ⟨hk,hz⟩ | ⟨hk,hz⟩ | ⟨hk,hz⟩
 ·rw [hk]
  exact ⟨ZY.2 ⟨hz,hd _,(by decide:(0:Int)≤0∧(0:Int)≤3),b4,b5,by show 0≤b.fCount+1∧b.fCount+1≤10000;omega,b7⟩,rfl,rfl⟩
 ·rw [hk]
  exact ⟨ZY.2 ⟨b1,hd _,hz,b4,b5,by show 0≤b.fCount+1∧b.fCount+1≤10000;omega,b7⟩,rfl,rfl⟩
 ·rw [hk] at h ⊢
  simp only [show ((3:Int) == 1)=false from rfl,show ((3:Int) == 2)=false from rfl,show ((3:Int) == 3)=true from rfl,cond_true,cond_false] at h ⊢
  rw [Cc] at h ⊢
  rcases Gy (xs:=b.fThings) (id:=r.fThing.fId) with ⟨x,j,t1,t2,t3,t4,t5⟩ | ⟨t1,t2⟩
  ·rw [t1] at h ⊢
   simp only at h ⊢
   cases hg:grown x r.fThing
   ·rw [hg] at h;cases h
   ·have e:=(Ey b7 t2).1
    rw [Nat.sub_zero] at e
    have hrs:=YAE hz b7 t2
    rw [Nat.sub_zero,e] at hrs
    exact ⟨ZY.2 ⟨b1,hd _,b3,by show (putAt b.fThings r.fThing).length≤8;rw [←e,List.length_set];exact b4,b5,by show 0≤b.fCount+1∧b.fCount+1≤10000;omega,hrs⟩,rfl,rfl⟩
  ·rw [t1] at h ⊢
   simp only at h ⊢
   cases hg:(r.fThing.fId != b.fLast+1 || decide ((b.fThings.length:Int)≥8))
   ·rw [Bool.or_eq_false_iff,bne_eq_false_iff_eq,decide_eq_false_iff_not] at hg
    have hid:r.fThing.fId≤1000:=by
     have:=hz
     simp only [LY,Bool.and_eq_true,CZ] at this
     omega
    exact ⟨ZY.2 ⟨b1,hd _,b3,by show (b.fThings++[r.fThing]).length≤8;rw [List.length_append,List.length_singleton];omega,by show 0≤r.fThing.fId∧r.fThing.fId≤1000;omega,by show 0≤b.fCount+1∧b.fCount+1≤10000;omega,XAE hz (by omega) (by omega) b7⟩,rfl,rfl⟩
   ·rw [hg] at h;cases h
 ·rw [hk] at h ⊢
  simp only [show ((4:Int) == 1)=false from rfl,show ((4:Int) == 2)=false from rfl,show ((4:Int) == 3)=false from rfl,cond_false] at h ⊢
  cases ht:RV b.fThings r.fNum with
  | none=>rw [ht] at h;cases h
  | some x=>exact ⟨ZY.2 ⟨b1,hd _,b3,by show (without b.fThings r.fNum).length≤8;exact Nat.le_trans (List.length_filter_le ..) b4,b5,by show 0≤b.fCount+1∧b.fCount+1≤10000;omega,ZAE _ b7⟩,rfl,rfl⟩
theorem H9 (a b:ByteArray):(a.toList == b.toList)=(bs a == bs b):=by
 rw [toList_inj,Bool.eq_iff_iff,decide_eq_true_eq,beq_iff_eq]
 exact ⟨fun h=>by rw [h],Qc⟩
theorem AAF (x y:SThing):Xd x y=some (grown x y):=by
 rw [Xd,Ut,grown,H9,show (bs x.fValue == bs y.fValue)=(bs y.fValue == bs x.fValue) by rw [Bool.eq_iff_iff,beq_iff_eq,beq_iff_eq];exact ⟨Eq.symm,Eq.symm⟩,
  show (x.fKind == y.fKind)=(y.fKind == x.fKind) by rw [Bool.eq_iff_iff,beq_iff_eq,beq_iff_eq];exact ⟨Eq.symm,Eq.symm⟩]
 cases (y.fKind == x.fKind) <;> cases (bs y.fValue == bs x.fValue) <;> cases y.fSigns <;> cases x.fSigns <;> cases y.fWraps <;> cases x.fWraps <;> cases decide (x.fNext≤y.fNext) <;> cases y.fHidden <;> cases x.fHidden <;> cases y.fFixed <;> cases x.fFixed <;> rfl
theorem Hy {f:SThing→Bool} {l:List SThing} {i:Nat} (h:i<l.length):(l.take (i+1)).filter f=(l.take i).filter f++(bif f l[i] then [l[i]] else []):=by
 rw [take_at h,List.filter_append]
 congr 1
theorem I9 {l:List SThing} {x:SThing} (hl:l.length≤1000000000):Yd l x=some (putAt l x):=by
 have k1:∀ (j i m:Nat),i+j=l.length→Vb (m+j) (.c1 l (i:Int) x (XZ x l++[x]++(l.take i).filter (fun t=>decide (t.fId > x.fId))))=Vb m (.c1 l (l.length:Int) x (XZ x l++[x]++Yc x l)):=by
  intro j
  induction j with
  | zero=>(intro i m h;obtain rfl:i=l.length:=by omega);rw [List.take_length];rfl
  | succ j ih=>
   intro i m h
   have hi:i<l.length:=by omega
   have e:w64 ((i:Int)+1)=((i+1:Nat):Int):=by rw [w64_id (by omega) (by omega)];rfl
   have h2:=ih (i+1) m (by omega)
   rw [Hy hi] at h2
   have hf1:(XZ x l).length≤l.length:=List.length_filter_le ..
   have hf2:((l.take i).filter (fun t=>decide (t.fId > x.fId))).length≤i:=Nat.le_trans (List.length_filter_le ..) (by simp;omega)
   rw [show m+(j+1)=(m+j)+1 by omega,Vb]
   simp only [Bg,e,Int.toNat_natCast,getD_at hi]
   rw [TB (by simp;omega),TB (by simp;omega)]
   by_cases h3:l[i].fId > x.fId
   ·rw [decide_eq_true h3] at h2 ⊢
    rw [cond_true,TB (by simp;omega),TB (by simp only [List.length_append,List.length_singleton,decide_eq_true_eq];omega),←h2]
    simp
   ·rw [decide_eq_false h3] at h2 ⊢
    rw [cond_false,←h2]
    simp
 have k0:∀ (j i m:Nat),i+j=l.length→Vb (m+1+l.length+1+j) (.c0 l (i:Int) x ((l.take i).filter (fun t=>decide (t.fId<x.fId))))=some (putAt l x):=by
  intro j
  induction j with
  | zero=>
   intro i m h
   obtain rfl:i=l.length:=by omega
   have hf1:(XZ x l).length≤l.length:=List.length_filter_le ..
   rw [List.take_length,show l.filter (fun t=>decide (t.fId<x.fId))=XZ x l from rfl,Nat.add_zero,Vb]
   simp only [Bg]
   rw [TT (by simp),TB (by simp;omega)]
   have h2:=k1 l.length 0 (m+1) (by omega)
   rw [List.take_zero,List.filter_nil,List.append_nil,show ((0:Nat):Int)=0 from rfl] at h2
   rw [h2,Vb]
   simp only [Bg]
   rw [TT (by simp),putAt,List.append_assoc];rfl
  | succ j ih=>
   intro i m h
   have hi:i<l.length:=by omega
   have e:w64 ((i:Int)+1)=((i+1:Nat):Int):=by rw [w64_id (by omega) (by omega)];rfl
   have h2:=ih (i+1) m (by omega)
   rw [Hy hi] at h2
   have hf2:((l.take i).filter (fun t=>decide (t.fId<x.fId))).length≤i:=Nat.le_trans (List.length_filter_le ..) (by simp;omega)
   rw [show m+1+l.length+1+(j+1)=(m+1+l.length+1+j)+1 by omega,Vb]
   simp only [Bg,e,Int.toNat_natCast,getD_at hi]
   rw [TB (by simp;omega),TB (by simp;omega)]
   by_cases h3:l[i].fId<x.fId
   ·rw [decide_eq_true h3] at h2 ⊢
    rw [cond_true,TB (by simp;omega),TB (by simp only [decide_eq_true_eq];omega),←h2]
    simp
   ·rw [decide_eq_false h3] at h2 ⊢
    rw [cond_false,←h2]
    simp
 obtain ⟨m,hm⟩:∃ m,gas=m+1+l.length+1+l.length:=⟨gas - (2*l.length+2),by have:=gas_lt (n:=2*l.length+2) (by omega);omega⟩
 rw [Yd,Vt,hm]
 have h:=k0 l.length 0 m (by omega)
 rw [List.take_zero,List.filter_nil] at h
 exact h
theorem J9 {b:SBook} {r:SRec} (hb:b.fThings.length≤140737488351232):Fa b r=some (IK b r):=by
 have hok:(IK b r).2=true→_:=Ef (b:=b) (r:=r)
 rw [Fa,Xt,TAE,Option.bind_some,Af hb,Option.bind_some]
 rw [IK] at hok ⊢
 cases h1:QY b
 ·rfl
 cases h2:(NY r).2
 ·rfl
 obtain ⟨b1,b2,b3,b4,b5,b6,b7⟩:=ZY.1 h1
 by_cases h3:b.fCount≥10000
 ·have h3':(b.fCount == 10000)=true:=by rw [beq_iff_eq];omega
  simp only [decide_eq_true h3,h3',Bool.not_true,Bool.or_true,Bool.false_or,cond_false,cond_true]
  rfl
 have hz:=D9 r
 have hw:w64 (b.fCount+1)=b.fCount+1:=w64_id (by omega) (by omega)
 have hdig:=Ul (s:=b.fChain++(NY r).1) (by rw [ByteArray.size_append];omega)
 have hsz:decide (b.fChain.size+(NY r).1.size≤9223372036854775807)=true:=by rw [decide_eq_true_eq];omega
 have h3':(b.fCount == 10000)=false:=by rw [beq_eq_false_iff_ne];omega
 rw [h1,h2,decide_eq_false h3] at hok
 simp only [Bool.not_true,Bool.or_self,cond_false] at hok
 simp only [decide_eq_false h3,h3',Bool.not_true,Bool.or_self,cond_false,Z8 (show b.fThings.length≤2932031007317 by omega),hdig,hsz,hw,Option.bind_some,cond_true]
 rcases Fq h2 with ⟨hk,hc⟩ | ⟨hk,hc⟩ | ⟨hk,hc⟩ | ⟨hk,hc⟩
 ·rw [hk] at hok ⊢
  simp only [show ((1:Int) == 1)=true from rfl,cond_true] at hok ⊢
  have h5:=(hok trivial).2.2.2.1
  rw [Af (by simp only;omega),Option.bind_some,h5];rfl
 ·rw [hk] at hok ⊢
  simp only [show ((2:Int) == 1)=false from rfl,show ((2:Int) == 2)=true from rfl,cond_true,cond_false] at hok ⊢
  have h5:=(hok trivial).2.2.2.1
  rw [Af (by simp only;omega),Option.bind_some,h5];rfl
 ·rw [hk] at hok ⊢
  simp only [show ((3:Int) == 1)=false from rfl,show ((3:Int) == 2)=false from rfl,show ((3:Int) == 3)=true from rfl,cond_true,cond_false] at hok ⊢
  have hid:=(Bc hc)
  have hpl:(putAt b.fThings r.fThing).length≤1000:=by
   have f1:(XZ r.fThing b.fThings).length≤b.fThings.length:=List.length_filter_le ..
   have f2:(Yc r.fThing b.fThings).length≤b.fThings.length:=List.length_filter_le ..
   rw [putAt,List.length_append,List.length_cons];omega
  rw [C9 hb,Option.bind_some]
  rw [Cc] at hok ⊢
  cases ht:RV b.fThings r.fThing.fId with
  | some o=>
   rw [ht] at hok
   simp only [cond_true,AAF,Option.bind_some,Bool.not_true,cond_false,I9 (show b.fThings.length≤1000000000 by omega)] at hok ⊢
   cases hg:grown o r.fThing
   ·rfl
   ·rw [hg] at hok
    simp only [cond_true] at hok
    have h5:=(hok trivial).2.2.2.1
    simp only [Bool.not_true,cond_false,cond_true]
    rw [Af (by simp only;omega),Option.bind_some,h5];rfl
  | none=>
   rw [ht] at hok
   have hw2:w64 (b.fLast+1)=b.fLast+1:=w64_id (by omega) (by omega)
   simp only [cond_false,Bool.not_false,cond_true,hw2,I9 (show b.fThings.length≤1000000000 by omega),Option.bind_some] at hok ⊢
   cases hg:(r.fThing.fId != b.fLast+1)
   ·rw [hg] at hok
    rw [bne_eq_false_iff_eq] at hg
    have hpn:=(WAE b7 (show b.fLast<r.fThing.fId by omega)).1
    by_cases h8:(b.fThings.length:Int)≥8
    ·rw [decide_eq_true h8,cond_false,TB (by rw [beq_iff_eq];omega)];rfl
    ·rw [decide_eq_false h8] at hok ⊢
     simp only [Bool.or_false,cond_false] at hok
     have h5:=(hok trivial).2.2.2.1
     rw [hpn] at hpl ⊢
     rw [cond_false,TT (by rw [beq_eq_false_iff_ne];omega),Af (by simp only;omega),Option.bind_some,h5];rfl
   ·rfl
 ·rw [hk] at hok ⊢
  simp only [show ((4:Int) == 1)=false from rfl,show ((4:Int) == 2)=false from rfl,show ((4:Int) == 3)=false from rfl,show ((4:Int) == 4)=true from rfl,cond_true,cond_false] at hok ⊢
  rw [C9 hb,Option.bind_some]
  cases ht:RV b.fThings r.fNum with
  | none=>rfl
  | some o=>
   rw [ht] at hok
   simp only [Bool.not_true,cond_false] at hok ⊢
   have h5:=(hok trivial).2.2.2.1
   have key:∀ (j i m:Nat),i+j=b.fThings.length→Bj (m+j+1) (.c0 (NY r).1 (i:Int) b r ⟨#[]⟩ 0 0 ⟨#[]⟩ 0 b.fWord b.fTries b.fLast b.fChain b.fCount ((b.fThings.take i).filter (fun t=>t.fId != r.fNum)) [] b.fThings)=some (⟨b.fWord,b.fTries,without b.fThings r.fNum,b.fLast,BZ (b.fChain++(NY r).1),b.fCount+1⟩,true):=by
    intro j
    induction j with
    | zero=>
     intro i m hi
     obtain rfl:i=b.fThings.length:=by omega
     have hf1:(without b.fThings r.fNum).length≤b.fThings.length:=List.length_filter_le ..
     rw [List.take_length,show b.fThings.filter (fun t=>t.fId != r.fNum)=without b.fThings r.fNum from rfl,Bj]
     simp only [Eo,hdig,hsz,hw,Option.bind_some,cond_true]
     rw [TT (by simp),Af (by simp only;omega),Option.bind_some,h5];rfl
    | succ j ih=>
     intro i m hi
     have hil:i<b.fThings.length:=by omega
     have e:w64 ((i:Int)+1)=((i+1:Nat):Int):=by rw [w64_id (by omega) (by omega)];rfl
     have h6:=ih (i+1) m (by omega)
     rw [Hy hil] at h6
     have hf2:((b.fThings.take i).filter (fun t=>t.fId != r.fNum)).length≤i:=Nat.le_trans (List.length_filter_le ..) (by simp;omega)
     rw [show m+(j+1)+1=(m+j+1)+1 by omega,Bj]
     simp only [Eo,e,Int.toNat_natCast,getD_at hil]
     rw [TB (by simp;omega),TB (by simp;omega)]
     cases h7:(b.fThings[i].fId != r.fNum)
     ·rw [h7] at h6
      rw [cond_false,←h6];simp
     ·rw [h7] at h6
      rw [cond_true,TB (by simp;omega),TB (by simp only [decide_eq_true_eq];omega),←h6];simp
   obtain ⟨m,hm⟩:∃ m,gas=m+b.fThings.length+1:=⟨gas - (b.fThings.length+1),by have:=gas_lt (n:=b.fThings.length+1) (by omega);omega⟩
   have h0:=key b.fThings.length 0 m (by omega)
   rw [List.take_zero,List.filter_nil] at h0
   rw [hm]
   exact h0
def JZ (b:SBook):List SRec→SBook×Bool
 | []=>(b,true)
 | r::rs=>bif (IK b r).2 then JZ (IK b r).1 rs else (Df,false)
theorem L9 {b:SBook} {r:SRec} (h:(IK b r).2=true):(IK b r).1.fThings.length≤8:=(ZY.1 (Ef h).2.2.2.1).2.2.2.1
theorem WAH {rs:List SRec}:∀ {b:SBook},QY b=true→(JZ b rs).2=true→QY (JZ b rs).1=true:=by
 induction rs with
 | nil=>intro b h _;exact h
 | cons r rs ih=>
  intro b h h2
  rw [JZ] at h2 ⊢
  cases h3:(IK b r).2
  ·rw [h3] at h2;cases h2
  ·rw [h3,cond_true] at h2
   rw [cond_true]
   exact ih (Ef h3).2.2.2.1 h2
theorem BAF:QY Xg=true:=ZY.2 ⟨Zp _,by rw [Xg,ofBytes_size];rfl,(by decide:(0:Int)≤0∧(0:Int)≤3),(by decide:0≤8),(by decide:(0:Int)≤0∧(0:Int)≤1000),(by decide:(0:Int)≤0∧(0:Int)≤10000),rfl⟩
theorem CAF {l k:List SRec}:∀ {b:SBook},JZ b (l++k)=bif (JZ b l).2 then JZ (JZ b l).1 k else (Df,false):=by
 induction l with
 | nil=>intro b;rfl
 | cons r rs ih=>
  intro b
  rw [List.cons_append,JZ,JZ,ih]
  cases (IK b r).2 <;> rfl
def Ah (l:List SRec) (b:SBook):Prop:=JZ Xg l=(b,true)∧QY b=true∧(∀ x ∈ l,x.fNum≤9223372036854775807)
theorem DAF:Ah [] Xg:=⟨rfl,BAF,fun x hx=>by cases hx⟩
theorem EAF {l:List SRec} {b:SBook} {r:SRec} (h:Ah l b) (hr:r.fNum≤9223372036854775807) (he:(IK b r).2=true):Ah (l++[r]) (IK b r).1:=by
 refine ⟨?_,(Ef he).2.2.2.1,fun x hx=>?_⟩
 ·rw [CAF,h.1,cond_true,JZ,he];rfl
 ·rcases List.mem_append.1 hx with hx | hx
  ·exact h.2.2 x hx
  ·rw [List.mem_singleton] at hx;rw [hx];exact hr
theorem N9 {b:SBook} (h:QY b=true):∀ x ∈ b.fThings,x.fId≤1000:=fun x hx=>by
 obtain ⟨_,_,_,_,h5,_,h7⟩:=ZY.1 h
 have:=Zg h7 x hx
 omega
theorem FAF {c:SL01Cur} (hc:JY c):Ok (Fj c) fun r=>(Ah r.1 r.2.1∧r.1.length≤12)∧JY r.2.2:=by
 have key:∀ (j i m:Nat) (a h:Int) (b:SBook) (l:List SRec),i+j=12→0≤a→Ah l b→l.length≤i→Ok (Ej (m+j+1) (.c0 (i:Int) a h ⟨#[]⟩ 0 0 ⟨#[]⟩ 0 b.fWord b.fTries b.fLast b.fChain b.fCount l [] b.fThings)) fun r=>(Ah r.1 r.2.1∧r.1.length≤12)∧JY r.2.2:=by
  intro j
  induction j with
  | zero=>
   intro i m a h b l hi ha hd hl
   rw [Ej];simp only [Io]
   refine Ok.bind (PY (c:=⟨(),a,h⟩) ha) fun n hn=>?_
   have h1:=hn.1.2.1 (by omega)
   rw [TT (by rw [decide_eq_false_iff_not];omega)]
   exact Ok.ret ⟨⟨hd,by show l.length≤12;omega⟩,hn.2⟩
  | succ j ih=>
   intro i m a h b l hi ha hd hl
   have hw:w64 ((i:Int)+1)=((i+1:Nat):Int):=by rw [w64_id (by omega) (by omega)];rfl
   rw [show m+(j+1)+1=(m+j+1)+1 from rfl,Ej]
   simp only [Io,hw]
   refine Ok.bind (PY (c:=⟨(),a,h⟩) ha) fun n hn=>Ok.cond (fun _=>?_) fun _=>Ok.ret ⟨⟨hd,by show l.length≤12;omega⟩,hn.2⟩
   have hlen:=(ZY.1 hd.2.1).2.2.2.1
   refine Ok.bind (L8 hn.2 (b:=b) fun x hx=>by have:=N9 hd.2.1 x hx;omega) fun r hr=>Ok.bind (Ok.eq (J9 (b:=b) (r:=r.1) (by omega))) fun e he=>?_
   subst he
   refine Ok.cond (fun h2=>Ok.chk (by rw [decide_eq_true_eq];omega) ?_) fun _=>?_
   ·exact ih (i+1) m _ _ (IK b r.1).1 _ (by omega) hr.2 (EAF hd hr.1 h2) (by rw [List.length_append,List.length_singleton];omega)
   ·exact ih (i+1) m _ _ b l (by omega) hr.2 hd (by omega)
 rw [Fj,Zt,KAE,Option.bind_some]
 obtain ⟨m,hm⟩:∃ m,gas=m+12+1:=⟨gas - 13,rfl⟩
 rw [hm]
 exact key 12 0 m _ _ Xg [] rfl hc DAF (Nat.le_refl 0)
theorem O9 {c:SL01Cur} (hc:JY c):Ok (Zd c) fun r=>(r.1.fValue.size≤200∧r.1.fId≤1001)∧JY r.2:=by
 rw [Zd,Au]
 refine Ok.bind (J8 hc) fun x hx=>Ok.bind (PY hx.2) fun a ha=>?_
 have hs:=(Bc hx.1).2.2.2.2.2.2
 have hd:x.1.fId≤1001:=by have:=(Bc hx.1).2.2.2.1;omega
 refine Ok.cond (fun _=>Ok.bind (Uc ha.2 (by decide)) fun r hr=>Ok.ret ⟨?_,hr.2⟩) fun _=>Ok.cond (fun _=>Ok.bind (PY ha.2) fun r hr=>Ok.ret ⟨?_,hr.2⟩) fun _=>Ok.cond (fun _=>Ok.ret ⟨?_,ha.2⟩) fun _=>Ok.cond (fun _=>Ok.ret ⟨?_,ha.2⟩) fun _=>
  Ok.cond (fun _=>Ok.bind (Uc ha.2 (by decide)) fun r hr=>Ok.ret ⟨?_,hr.2⟩) fun _=>Ok.cond (fun _=>Ok.bind (Uc ha.2 (by decide)) fun r hr=>?_) fun _=>Ok.ret ⟨?_,ha.2⟩
 ·refine ⟨by show x.1.fValue.size≤200;omega,?_⟩
  have:=hr.1
  simp only [List.mem_cons,List.not_mem_nil,or_false] at this
  show r.1≤1001;omega
 all_goals try exact ⟨by show x.1.fValue.size≤200;omega,hd⟩
 have h5:31≤r.1∧r.1≤101:=by
  have:=hr.1
  simp only [List.mem_cons,List.not_mem_nil,or_false] at this
  omega
 exact Ok.bind (JAE (by omega) (by omega)) fun s hs=>Ok.ret ⟨⟨by show s.size≤200;omega,hd⟩,hr.2⟩
theorem GAF {c:SL01Cur} (hc:JY c):Ok (Gj c) fun r=>(r.1.fThings.length≤9∧∀ x ∈ r.1.fThings,x.fId≤1001)∧JY r.2:=by
 rw [Gj,Eu]
 refine Ok.bind (FAF hc) fun l hl=>?_
 have hlen:=(ZY.1 hl.1.1.2.1).2.2.2.1
 have hid:∀ x ∈ l.2.1.fThings,x.fId≤1001:=fun x hx=>by have:=N9 hl.1.1.2.1 x hx;omega
 have hl9:l.2.1.fThings.length≤9:=by omega
 refine Ok.bind (Ok.eq (Z8 (b:=l.2.1) (by omega))) fun b hb=>Ok.bind (PY hl.2) fun a ha=>?_
 subst hb
 refine Ok.cond (fun _=>Ok.ret ⟨⟨hl9,hid⟩,ha.2⟩) fun _=>Ok.cond (fun _=>?_) fun _=>Ok.cond (fun _=>?_) fun _=>Ok.cond (fun _=>?_) fun _=>Ok.cond (fun _=>?_) fun _=>Ok.ret ⟨⟨hl9,hid⟩,ha.2⟩
 ·exact Ok.bind (Uc ha.2 (Nat.succ_pos _)) fun q hq=>Ok.ret ⟨⟨hl9,hid⟩,hq.2⟩
 ·exact Ok.bind (Uc ha.2 (Nat.succ_pos _)) fun q hq=>Ok.ret ⟨⟨hl9,hid⟩,hq.2⟩
 ·refine Ok.bind (O9 ha.2) fun q hq=>Ok.chk (by rw [decide_eq_true_eq];omega) (Ok.ret ⟨⟨?_,fun x hx=>?_⟩,hq.2⟩)
  ·show (l.2.1.fThings++[q.1]).length≤9
   rw [List.length_append,List.length_singleton];omega
  ·rcases List.mem_append.1 hx with hx | hx
   ·exact hid x hx
   ·rw [List.mem_singleton] at hx;rw [hx];exact hq.1.2
 ·exact Ok.bind (Uc ha.2 (Nat.succ_pos _)) fun q hq=>Ok.ret ⟨⟨hl9,hid⟩,hq.2⟩
theorem HAF {c:SL01Cur} {b:SBook} (hc:JY c) (hb:∀ x ∈ b.fThings,x.fId≤9223372036854775807):Ok (Ij c b) fun r=>r.1.fNum≤9223372036854775807∧JY r.2:=by
 rw [Ij,Hu]
 refine Ok.bind (L8 hc hb) fun r hr=>Ok.bind (PY hr.2) fun a ha=>Ok.cond (fun _=>?_) fun _=>Ok.cond (fun _=>?_) fun _=>Ok.cond (fun _=>Ok.ret ⟨hr.1,ha.2⟩) fun _=>Ok.cond (fun _=>?_) fun _=>Ok.ret ⟨hr.1,ha.2⟩
 ·exact Ok.bind (PY ha.2) fun q hq=>Ok.ret ⟨hr.1,hq.2⟩
 ·refine Ok.bind (Uc ha.2 (Nat.succ_pos _)) fun q hq=>Ok.ret ⟨?_,hq.2⟩
  have:=hq.1
  simp only [List.mem_cons,List.not_mem_nil,or_false] at this
  show q.1≤9223372036854775807;omega
 ·exact Ok.bind (O9 ha.2) fun q hq=>Ok.ret ⟨hr.1,hq.2⟩
theorem IAF:Ok (Ae ()) fun r=>r.1.fThings.length≤9∧r.2.fNum≤9223372036854775807:=by
 rw [Ae,Iu]
 exact Ok.bind WAC fun c hc=>Ok.bind (GAF hc) fun b hb=>Ok.bind (HAF hb.2 fun x hx=>by have:=hb.1.2 x hx;omega) fun r hr=>Ok.ret ⟨hb.1.1,hr.1⟩
theorem Gq {n:Int} (h:n≤9223372036854775807):Lc n=some (ofBytes (FN n)):=by
 have key:∀ (n:Int) (m:Nat) (out:List Int),n≤9223372036854775807→(FN n).length≤m→out.length+(FN n).length≤1000→Nj m (.c0 n out)=some (ofBytes (out++FN n)):=by
  intro n
  induction n using FN.induct with
  | case1 n hn ih=>
   intro m out h1 h2 h3
   rw [FN,if_pos hn] at h2 h3 ⊢
   simp only [List.length_cons] at h2 h3
   obtain ⟨m,rfl⟩:∃ k,m=k+1:=⟨m - 1,by omega⟩
   obtain ⟨e1,_,e2⟩:=N8 hn h1
   simp only [Nj,Oo,e1,e2]
   rw [show decide (n > 127)=true from decide_eq_true hn,show decide ((out.length+1)*1≤140737488355328)=true from decide_eq_true (by omega)]
   simp only [cond_true]
   rw [ih m _ (by omega) (by omega) (by simp;omega)]
   simp
  | case2 n hn=>
   intro m out h1 h2 h3
   rw [FN,if_neg hn] at h2 h3 ⊢
   simp at h2 h3
   obtain ⟨m,rfl⟩:∃ k,m=k+1:=⟨m - 1,by omega⟩
   simp only [Nj,Oo]
   rw [show decide (n > 127)=false from decide_eq_false hn,show decide ((out.length+1)*1≤140737488355328)=true from decide_eq_true (by omega)]
   rfl
 have hl:=Eb h
 exact key n gas [] h (Nat.le_of_lt (gas_lt (by omega))) (by simp;omega)
theorem Iy (x a b:Int):Xa x a b=some (NM x a b):=by
 show (bif decide (a≤x) then some (decide (x≤b)) else some false)=some (NM x a b)
 unfold NM;cases decide (a≤x) <;> rfl
theorem P9 (x:SThing):Xb x=some (LY x):=by
 simp only [Xb,Nu,Iy,Option.bind_some,LY,bne]
 by_cases k1:x.fKind=1
 ·rw [k1]
  cases NM x.fId 1 1000 <;> cases NM x.fNext 0 16 <;> cases (x.fNext == 0) <;> cases x.fSigns <;> cases x.fWraps <;> simp [NM]
 ·by_cases k2:x.fKind=2
  ·rw [k2]
   cases NM x.fId 1 1000 <;> cases NM x.fNext 0 16 <;> cases (x.fNext == 0) <;> cases x.fSigns <;> cases x.fWraps <;> simp [NM]
  ·by_cases k3:x.fKind=3
   ·rw [k3]
    cases NM x.fId 1 1000 <;> cases NM x.fNext 0 16 <;> cases (x.fNext == 0) <;> cases x.fSigns <;> cases x.fWraps <;> simp [NM]
   ·have hr:NM x.fKind 1 3=false:=by
     cases h:NM x.fKind 1 3
     ·rfl
     ·rw [CZ] at h;omega
    have e1:(x.fKind == 1)=false:=by simpa using k1
    have e2:(x.fKind == 2)=false:=by simpa using k2
    have e3:(x.fKind == 3)=false:=by simpa using k3
    rw [hr,e1,e2,e3]
    cases NM x.fId 1 1000 <;> cases NM x.fNext 0 16 <;> cases (x.fNext == 0) <;> cases x.fSigns <;> cases x.fWraps <;> rfl
theorem Bh {n:Int} (h:0≤n) (h2:n≤255):Ce n=some (ofBytes [n]):=by
 simp only [Ce,Qu,w8_id h h2]
theorem JAF {s:ByteArray} (h:s.size≤140737488351232):Rj s=some (Fb s):=by
 simp only [Rj,Xu,Gq (n:=(s.size:Int)) (by omega),Option.bind_some]
 have:=Eb (n:=(s.size:Int)) (by omega)
 rw [show decide ((ofBytes (FN (s.size:Int))).size+s.size≤9223372036854775807)=true from decide_eq_true (by rw [ofBytes_size];omega)]
 rfl
theorem KAF (x:SThing):Sj x=some (GZ x):=by
 simp only [Sj,Zu,P9,Option.bind_some,GZ]
 cases h:LY x
 ·rfl
 ·obtain ⟨k1,k2,k3,k4,k5,k6,k7⟩:=Bc h
  obtain ⟨z1,z2,z3⟩:=Yx h
  have hf:=P8 x
  have e1:∀ n:Int,(ofBytes [n]).size=1:=fun n=>ofBytes_size _
  simp only [RAE,Option.bind_some,Gq (n:=x.fId) (by omega),Bh (n:=x.fKind) (by omega) (by omega),Bh hf.1 (by omega),JAF (s:=x.fValue) (by omega),Gq (n:=x.fNext) (by omega),ba_append_size,e1]
  simp only [Bool.not_true,cond_false,cond_true]
  rw [show decide ((ofBytes (FN x.fId)).size+1≤9223372036854775807)=true from decide_eq_true (by omega),show decide ((ofBytes (FN x.fId)).size+1+1≤9223372036854775807)=true from decide_eq_true (by omega),
   show decide ((ofBytes (FN x.fId)).size+1+1+(Fb x.fValue).size≤9223372036854775807)=true from decide_eq_true (by omega),show decide ((ofBytes (FN x.fId)).size+1+1+(Fb x.fValue).size+(ofBytes (FN x.fNext)).size≤9223372036854775807)=true from decide_eq_true (by omega)]
  rfl
theorem LAF {r:SRec} (g:r.fNum≤9223372036854775807):Tj r=some (NY r):=by
 simp only [Tj,Dv,Iy,KAF,Gq g,Option.bind_some,U8]
 simp only [V8,NY]
 cases k1:r.fKind == 1
 ·simp only [cond_false]
  cases k2:r.fKind == 2
  ·simp only [cond_false]
   cases k3:r.fKind == 3
   ·simp only [cond_false]
    cases k4:r.fKind == 4
    ·rfl
    ·have k:r.fKind=4:=by simpa using k4
     rw [k]
     simp only [beq_self_eq_true,Bh (n:=4) (by omega) (by omega),Option.bind_some,Bool.true_and,cond_true]
     cases h:NM r.fNum 1 1000
     ·cases TY r.fText <;> cases UY r.fThing <;> rfl
     ·cases TY r.fText <;> cases UY r.fThing <;> (try rfl)
      simp only [Bool.not_true,cond_false,cond_true,Bool.and_self,decide_eq_true (Dq (by omega) h 4)]
   ·have k:r.fKind=3:=by simpa using k3
    rw [k]
    simp only [beq_self_eq_true,Bh (n:=3) (by omega) (by omega),Option.bind_some,Bool.true_and,cond_true,Bool.and_true]
    cases h:(GZ r.fThing).2
    ·cases TY r.fText <;> cases r.fNum == 0 <;> rfl
    ·cases TY r.fText <;> cases r.fNum == 0 <;> (try rfl)
     simp only [Bool.not_true,cond_false,cond_true,Bool.and_self,decide_eq_true (X8 h 3)]
  ·have k:r.fKind=2:=by simpa using k2
   rw [k]
   simp only [beq_self_eq_true,Bh (n:=2) (by omega) (by omega),Option.bind_some,Bool.true_and,cond_true]
   cases h:NM r.fNum 0 3
   ·cases TY r.fText <;> cases UY r.fThing <;> rfl
   ·cases TY r.fText <;> cases UY r.fThing <;> (try rfl)
    simp only [Bool.not_true,cond_false,cond_true,Bool.and_self,decide_eq_true (Dq (by omega) h 2)]
 ·have k:r.fKind=1:=by simpa using k1
  rw [k]
  simp only [beq_self_eq_true,Bh (n:=1) (by omega) (by omega),Option.bind_some,Bool.true_and,cond_true]
  cases h:(r.fText.size:Int) == 32 <;> cases r.fNum == 0 <;> cases UY r.fThing <;> (try rfl)
  have h':r.fText.size=32:=by have:=beq_iff_eq.1 h;omega
  have e:(ofBytes [1]).size+r.fText.size≤9223372036854775807:=by rw [ofBytes_size];simp only [List.length_singleton];omega
  simp only [Bool.not_true,cond_false,cond_true,Bool.and_self,decide_eq_true e]
def Hq (b:SBook):Bool:=(b.fWord.size:Int) == 32 && ((b.fChain.size:Int) == 32 && (NM b.fTries 0 3 && (decide ((b.fThings.length:Int)≤8) && (NM b.fLast 0 1000 && NM b.fCount 0 10000))))
theorem MAF {b:SBook} (hb:b.fThings.length≤140737488351232):∀ m i,i≤b.fThings.length→b.fThings.length - i<m→Hg m (.c0 b.fThings b.fThings.length i b)=some (rise b.fLast (IZ b.fThings i) (b.fThings.drop i) && Hq b):=fun m i h1 h2=>
 loopN (A:=Unit) (n:=b.fThings.length) (Lp:=Hg) (st:=fun i _=>.c0 b.fThings b.fThings.length i b) (Inv:=fun _ _=>True) (out:=fun i _=>some (rise b.fLast (IZ b.fThings i) (b.fThings.drop i) && Hq b))
  (fun m _ _=>by
   simp only [Hg,Ro,Iy,Option.bind_some,Hq]
   rw [show decide ((b.fThings.length:Int)<(b.fThings.length:Int))=false from decide_eq_false (by omega),List.drop_of_length_le (Nat.le_refl _)]
   cases (b.fWord.size:Int) == 32 <;> cases (b.fChain.size:Int) == 32 <;> cases NM b.fTries 0 3 <;> cases decide ((b.fThings.length:Int)≤8) <;> cases NM b.fLast 0 1000 <;> rfl)
  (fun m i _ hi _=>by
   have hw:w64 ((i:Int)+1)=((i+1:Nat):Int):=by rw [w64_id (by omega) (by omega)];rfl
   simp only [Y8 hi]
   simp only [Hg,Ro,Int.toNat_natCast,getD_at hi,P9,Option.bind_some,hw]
   rw [show decide ((i:Int)<(b.fThings.length:Int))=true from decide_eq_true (by omega),show decide ((0:Int)≤(i:Int))=true from decide_eq_true (by omega)]
   simp only [Bool.and_self,cond_true]
   cases h1:LY b.fThings[i]
   ·exact .inl rfl
   ·cases h2:decide (b.fThings[i].fId > b.fLast)
    ·by_cases h0:i=0
     ·subst h0
      refine .inr ⟨(),rfl,trivial,?_⟩
      rw [show decide (IZ b.fThings 0≥b.fThings[0].fId)=false from decide_eq_false (by have:=(Bc h1).2.2.1;simp only [IZ];omega)]
      rfl
     ·obtain ⟨j,rfl⟩:∃ j,i=j+1:=⟨i - 1,by omega⟩
      have hj:w64 (((j+1:Nat):Int) - 1)=(j:Int):=by rw [w64_id (by omega) (by omega)];omega
      have hjl:j<b.fThings.length:=by omega
      rw [Zx hjl]
      simp only [hj,Int.toNat_natCast,getD_at hjl,Bool.not_true,Bool.not_false,cond_false,Bool.true_and]
      rw [show decide (((j+1:Nat):Int) > 0)=true from decide_eq_true (by omega),show decide ((0:Int)≤(j:Int))=true from decide_eq_true (by omega),show decide ((j:Int)<(b.fThings.length:Int))=true from decide_eq_true (by omega)]
      simp only [Bool.and_self,cond_true]
      cases h3:decide (b.fThings[j].fId≥b.fThings[j+1].fId)
      ·exact .inr ⟨(),rfl,trivial,rfl⟩
      ·exact .inl rfl
    ·exact .inl rfl) m i () h1 h2 trivial
theorem Jy {b:SBook} (hb:b.fThings.length≤140737488351232):Ya b=some (QY b):=by
 have h0:=MAF hb gas 0 (Nat.zero_le _) (gas_lt (by omega))
 simp only [Ya,Fv]
 refine h0.trans (congrArg some ?_)
 simp only [QY,Hq,List.drop_zero,IZ]
 cases rise b.fLast 0 b.fThings <;> simp
theorem NAF {b:SBook} (h:b.fThings.length≤2932031007317):Wj b=some b:=by
 rw [Wj,Kv,TB (by simp;omega)]
theorem Ky {b:SBook} {t:Int} (h:b.fThings.length≤140737488351232):Mc b t=some (match VY b.fThings t 0 with | some j=>(j:Int) | none=> -1):=by
 have key:∀ m i,i≤b.fThings.length→b.fThings.length - i<m→Ig m (.c0 t b.fThings b.fThings.length i)=some (match VY (b.fThings.drop i) t i with | some j=>(j:Int) | none=> -1):=fun m i h1 h2=>
  loopN (A:=Unit) (n:=b.fThings.length) (Lp:=Ig) (st:=fun i _=>.c0 t b.fThings b.fThings.length i) (Inv:=fun _ _=>True) (out:=fun i _=>some (match VY (b.fThings.drop i) t i with | some j=>(j:Int) | none=> -1))
   (fun m _ _=>by simp [Ig,Uo,VY])
   (fun m i _ hi _=>by
    have hw:w64 ((i:Int)+1)=((i+1:Nat):Int):=by rw [w64_id (by omega) (by omega)];rfl
    simp only [Ig,Uo,Int.toNat_natCast,getD_at hi,hw,drop_at hi,VY]
    cases hq:b.fThings[i].fId == t
    ·exact .inr ⟨(),by simp [hi],trivial,by simp⟩
    ·exact .inl (by simp [hi])) m i () h1 h2 trivial
 have h0:=key gas 0 (Nat.zero_le _) (gas_lt (by omega))
 exact h0
theorem OAF (x y:SThing):Zj x y=some (grown x y):=by
 rw [Zj,Qv,grown,H9,show decide (y.fNext≥x.fNext)=decide (x.fNext≤y.fNext) from rfl]
 cases (y.fKind == x.fKind) <;> cases (bs y.fValue == bs x.fValue) <;> cases y.fSigns <;> cases x.fSigns <;> cases y.fWraps <;> cases x.fWraps <;> cases decide (x.fNext≤y.fNext) <;> cases y.fHidden <;> cases x.fHidden <;> cases y.fFixed <;> cases x.fFixed <;> rfl
theorem PAF {b:SBook} {x:SThing} (hb:QY b=true) (hx:x.fId≤1000):Ak b x=some (match Cc b x with
 | some p=>(true,⟨b.fWord,b.fTries,p.1,p.2,b.fChain,b.fCount⟩)
 | none=>(false,b)):=by
 obtain ⟨b1,b2,b3,b4,b5,b6,b7⟩:=ZY.1 hb
 rw [Ak,Tv,Ky (by omega),Option.bind_some,Cc]
 rcases Gy (xs:=b.fThings) (id:=x.fId) with ⟨o,j,t1,t2,t3,t4,t5⟩ | ⟨t1,t2⟩
 ·have hg:∀ z,b.fThings.getD j z=o:=fun z=>by rw [List.getD,t4];rfl
  have hs:=(Ey b7 t2).1
  rw [Nat.sub_zero] at hs
  rw [t1,t2]
  simp only [Int.toNat_natCast,hg,OAF,Option.bind_some,hs]
  rw [TB (by simp),TB (by simp;omega)]
  cases grown o x
  ·rfl
  ·rw [TT (by rfl),TB (by simp;omega)];rfl
 ·rw [t1,t2]
  simp only
  have hw:w64 (b.fLast+1)=b.fLast+1:=w64_id (by omega) (by omega)
  rw [TT (by rfl),hw]
  cases h1:(x.fId != b.fLast+1)
  ·by_cases h2:(b.fThings.length:Int)≥8
   ·rw [decide_eq_true h2];rfl
   ·rw [decide_eq_false h2,cond_false,cond_false,TB (by simp;omega)];rfl
  ·rfl
theorem QAF {n:Nat} (h:n≤1000000000):Ik (n:Int)=some (ofBytes (List.replicate n 0)):=by
 simp only [Ik,Yv,Int.toNat_natCast]
 rw [TB (by simp;omega)]
theorem Q9 {x:Int} (h:R32 x):Yb x=some (ofBytes (four x)):=by
 obtain ⟨h1,h2⟩:=h
 have e1:Int.fdiv x (2 ^ (Min.min (24:Int).toNat (IntKind.bits IntKind.u32)))=x / 16777216:=Int.fdiv_eq_ediv_of_nonneg _ (by decide)
 have e2:Int.fdiv x (2 ^ (Min.min (16:Int).toNat (IntKind.bits IntKind.u32)))=x / 65536:=Int.fdiv_eq_ediv_of_nonneg _ (by decide)
 have e3:Int.fdiv x (2 ^ (Min.min (8:Int).toNat (IntKind.bits IntKind.u32)))=x / 256:=Int.fdiv_eq_ediv_of_nonneg _ (by decide)
 simp only [Yb,Zv,e1,e2,e3,w8_mod,four]
 rw [show x / 16777216 % 256=x / 16777216 by omega]
theorem RAF {n:Nat} (h:n<1099511627776):Nk (n:Int)=some (ofBytes (Na (n:Int))):=by
 have e1:Int.fdiv (n:Int) (2 ^ (Min.min (32:Int).toNat (IntKind.bits IntKind.i64)))=(n:Int) / 4294967296:=Int.fdiv_eq_ediv_of_nonneg _ (by decide)
 simp only [Nk,Ew,e1,Q9 (AZ _),Option.bind_some]
 rw [TB (by rw [ofBytes_size,ofBytes_size];simp [four])]
 congr 1
 apply Qc
 rw [Pg,OZ (Xp (AZ _)),OZ (Xp (AZ _)),OZ (fun x hx=>by
  simp only [Na,List.mem_cons,List.not_mem_nil,or_false] at hx
  omega)]
 simp only [four,Na,Me,List.cons_append,List.nil_append,List.cons.injEq,and_true]
 omega
theorem SAF {n:Nat} (h:n≤100000000000):Qk (n:Int)=some (ofBytes (KY n)):=by
 have e1:(w64 (119 - ((n:Int).tmod 64))).tmod 64=(((119 - n % 64) % 64:Nat):Int):=by
  have a:(n:Int).tmod 64=(n:Int) % 64:=Int.tmod_eq_emod_of_nonneg (by omega)
  rw [a,w64_id (by omega) (by omega),Int.tmod_eq_emod_of_nonneg (by omega)]
  omega
 have e2:w64 (8*(n:Int))=((8*n:Nat):Int):=by rw [w64_id (by omega) (by omega)];omega
 have h0:(⟨#[128]⟩:ByteArray).size=1:=rfl
 simp only [Qk,Hw,e1,e2,QAF (n:=(119 - n % 64) % 64) (by omega),RAF (n:=8*n) (by omega),Option.bind_some]
 rw [TB (by rw [ofBytes_size];simp [h0];omega),TB (by rw [ByteArray.size_append,ofBytes_size,ofBytes_size];simp [h0,Na];omega)]
 congr 1
 apply Qc
 have hb:EZ (List.replicate ((119 - n % 64) % 64) (0:Int)):=fun x hx=>by
  have:=List.eq_of_mem_replicate hx;omega
 have hb2:EZ (Na ((8*n:Nat):Int)):=fun x hx=>by
  simp only [Na,List.mem_cons,List.not_mem_nil,or_false] at hx
  omega
 rw [Pg,Pg,OZ hb,OZ hb2,OZ (Ux n),KY]
 have e3:bs (⟨#[128]⟩:ByteArray)=[128]:=rfl
 rw [e3]
 simp
theorem TAF {x:Int} (h:R32 x) (n:Nat) (hn:0<n) (hn2:n<32) (k:Int) (hk:wu64 (((BitVec.toNat ((BitVec.ofInt (IntKind.bits IntKind.u64) (wu64 k)) &&& (BitVec.ofInt (IntKind.bits IntKind.u64) (31:Int)))):Nat):Int)=((32 - n:Nat):Int))
  (hk2:wu64 (32 - ((32 - n:Nat):Int))=(n:Int)):Rk x k=some (rt (2 ^ n) (2 ^ (32 - n)) x):=by
 have e1:Min.min ((32 - n:Nat):Int).toNat (IntKind.bits IntKind.u32)=32 - n:=by
  show Min.min ((32 - n:Nat):Int).toNat 32=_
  omega
 have e2:Min.min (n:Int).toNat (IntKind.bits IntKind.u32)=n:=by
  show Min.min (n:Int).toNat 32=_
  omega
 have e3:Int.fdiv x (2 ^ n)=x / 2 ^ n:=Int.fdiv_eq_ediv_of_nonneg _ (Int.le_of_lt (Int.pow_pos (by omega)))
 simp only [Rk,Jw,hk,hk2,e1,e2,e3]
 rw [show decide ((0:Int)≤(n:Int))=true from decide_eq_true (by omega)]
 simp only [cond_true,F7]
 rw [ZAC h n hn hn2]
theorem Ib {x:Int} (h:R32 x) (n:Nat) (hn:0<n) (hn2:n<32) (hk:wu64 (((BitVec.toNat ((BitVec.ofInt (IntKind.bits IntKind.u64) (wu64 (w64 (0 - (n:Int))))) &&& (BitVec.ofInt (IntKind.bits IntKind.u64) (31:Int)))):Nat):Int)=((32 - n:Nat):Int))
  (hk2:wu64 (32 - ((32 - n:Nat):Int))=(n:Int)):RY x (n:Int)=some (rt (2 ^ n) (2 ^ (32 - n)) x):=by
 simp only [RY,Kw,TAF h n hn hn2 _ hk hk2,Option.bind_some]
theorem UAF {x:Int} (h:R32 x):RY x 2=some (rt 4 1073741824 x):=Ib h 2 (by decide) (by decide) (by decide) (by decide)
theorem VAF {x:Int} (h:R32 x):RY x 13=some (rt 8192 524288 x):=Ib h 13 (by decide) (by decide) (by decide) (by decide)
theorem WAF {x:Int} (h:R32 x):RY x 22=some (rt 4194304 1024 x):=Ib h 22 (by decide) (by decide) (by decide) (by decide)
theorem XAF {x:Int} (h:R32 x):RY x 6=some (rt 64 67108864 x):=Ib h 6 (by decide) (by decide) (by decide) (by decide)
theorem YAF {x:Int} (h:R32 x):RY x 11=some (rt 2048 2097152 x):=Ib h 11 (by decide) (by decide) (by decide) (by decide)
theorem ZAF {x:Int} (h:R32 x):RY x 25=some (rt 33554432 128 x):=Ib h 25 (by decide) (by decide) (by decide) (by decide)
theorem AAG {x:Int} (h:R32 x):RY x 7=some (rt 128 33554432 x):=Ib h 7 (by decide) (by decide) (by decide) (by decide)
theorem BAG {x:Int} (h:R32 x):RY x 18=some (rt 262144 16384 x):=Ib h 18 (by decide) (by decide) (by decide) (by decide)
theorem CAG {x:Int} (h:R32 x):RY x 17=some (rt 131072 32768 x):=Ib h 17 (by decide) (by decide) (by decide) (by decide)
theorem EAG {x:Int} (h:R32 x):RY x 19=some (rt 524288 8192 x):=Ib h 19 (by decide) (by decide) (by decide) (by decide)
theorem FAG {a b:Int} (ha:0≤a∧a<16777216) (hb:0≤b∧b≤255):Ol (w32 (a*256)) (w32 b)=a*256+b:=by
 obtain ⟨x,rfl⟩:∃ x:Nat,a=(x:Int):=⟨a.toNat,by omega⟩
 obtain ⟨y,rfl⟩:∃ y:Nat,b=(y:Int):=⟨b.toNat,by omega⟩
 rw [Ja (by omega) (by omega),Ja (by omega) (by omega)]
 have:=G7 (a:=x) (b:=y) (s:=8) (by omega) (by omega) (by omega)
 have e:((x*2 ^ 8:Nat):Int)=(x:Int)*256:=by omega
 rw [Int.natCast_add,e] at this
 exact this
def RZ (l:List Int) (i:Nat):Nat→Int
 | 0=>0
 | k+1=>RZ l i k*256+l.getD (4*i+k) 0
theorem GAG (l:List Int) (i:Nat):RZ l i 4=wordAt l i:=by
 simp only [RZ,wordAt,be4,Nat.add_zero]
 omega
theorem HAG {l:List Int} (h:EZ l) (i:Nat):∀ k,k<4→0≤RZ l i k∧RZ l i k<16777216
 | 0,_=>by simp [RZ]
 | 1,_=>by have:=FZ h (4*i+0);simp only [RZ];omega
 | 2,_=>by have:=FZ h (4*i+0);have:=FZ h (4*i+1);simp only [RZ];omega
 | 3,_=>by have:=FZ h (4*i+0);have:=FZ h (4*i+1);have:=FZ h (4*i+2);simp only [RZ];omega
theorem IAG {b:ByteArray} (hb:b.size=64) (v:List Int) (i:Nat) (hi:i<16):∀ (j k m:Nat),k+j=4→
  NZ (m+j+1) (.c1 b (i:Int) (i:Int) (k:Int) v (CV (bs b) i++RZ (bs b) i k::List.replicate (63 - i) 0))=NZ m (.c0 b ((i+1:Nat):Int) v (CV (bs b) (i+1)++List.replicate (63 - i) 0)):=by
 have hby:=Ug b
 intro j
 induction j with
 | zero=>
  intro k m h
  obtain rfl:k=4:=by omega
  have e:w64 ((i:Int)+1)=((i+1:Nat):Int):=by rw [w64_id (by omega) (by omega)];rfl
  rw [NZ]
  simp only [Nc,e]
  rw [TT (by simp),GAG,O7]
  simp
 | succ j ih=>
  intro k m h
  have hk:k<4:=by omega
  have hlen:(CV (bs b) i++RZ (bs b) i k::List.replicate (63 - i) 0).length=64:=by
   simp only [List.length_append,List.length_cons,List.length_replicate,Zb];omega
  have e:w64 ((k:Int)+1)=((k+1:Nat):Int):=by rw [w64_id (by omega) (by omega)];rfl
  have e4:w64 (4*(i:Int))=((4*i:Nat):Int):=by rw [w64_id (by omega) (by omega)];omega
  have e5:w64 (((4*i:Nat):Int)+(k:Int))=((4*i+k:Nat):Int):=by rw [w64_id (by omega) (by omega)];omega
  have e8:(2:Int) ^ (Min.min (8:Int).toNat (IntKind.bits IntKind.u32))=256:=by decide
  have hg:(CV (bs b) i++RZ (bs b) i k::List.replicate (63 - i) 0).getD i 0=RZ (bs b) i k:=by
   rw [Y6 (by rw [Zb];omega),Zb,Nat.sub_self];rfl
  rw [show m+(j+1)+1=(m+j+1)+1 by omega,NZ]
  simp only [Nc,e,e4,e5,e8,Int.toNat_natCast,hlen,hg,F7]
  rw [TB (by simp;omega),TB (by rfl),TB (by simp;omega),TB (by simp;omega),TB (by rfl),TB (by simp;omega)]
  rw [Qg (by omega),FAG (HAG hby i k hk) (FZ hby _),Qp (Zb _ i)]
  exact ih (k+1) m (by omega)
theorem JAG {b:ByteArray} (hb:b.size=64) (v:List Int):∀ (j i m:Nat),i+j=16→NZ (m+6*j+1) (.c0 b (i:Int) v (CV (bs b) i++List.replicate (64 - i) 0))=NZ m (.c2 16 v (CV (bs b) 16++List.replicate 48 0)):=by
 intro j
 induction j with
 | zero=>
  intro i m h
  obtain rfl:i=16:=by omega
  rw [NZ]
  simp only [Nc]
  rw [TT (by simp)]
 | succ j ih=>
  intro i m h
  rw [show m+6*(j+1)+1=(m+6*j+1)+4+1+1 by omega,NZ]
  simp only [Nc]
  rw [TB (by simp;omega)]
  have h1:=IAG hb v i (by omega) 4 0 (m+6*j+1) (by omega)
  rw [show 64 - i=(63 - i)+1 by omega,List.replicate_succ]
  have h2:=ih (i+1) m (by omega)
  rw [show 64 - (i+1)=63 - i by omega] at h2
  exact h1.trans h2
theorem KAG {w v:List Int} (hw:∀ x ∈ w,R32 x) (hwl:w.length=16) (hv:v.length=64):∀ (j i m:Nat),i+j=48→NZ (m+j+1) (.c2 ((16+i:Nat):Int) v (sched w i++List.replicate (48 - i) 0))=some (sched w 48):=by
 intro j
 induction j with
 | zero=>
  intro i m h
  obtain rfl:i=48:=by omega
  have hl:=Ql hwl 48
  rw [NZ]
  simp only [Nc,Nat.sub_self,List.replicate_zero,List.append_nil,hl,hv]
  rfl
 | succ j ih=>
  intro i m h
  have hl:=Ql hwl i
  have hr:=Wp hw i
  have hlen:(sched w i++List.replicate (48 - i) 0).length=64:=by
   simp only [List.length_append,List.length_replicate,hl];omega
  have e2:w64 (((16+i:Nat):Int) - 2)=((16+i - 2:Nat):Int):=by rw [w64_id (by omega) (by omega)];omega
  have e7:w64 (((16+i:Nat):Int) - 7)=((16+i - 7:Nat):Int):=by rw [w64_id (by omega) (by omega)];omega
  have e15:w64 (((16+i:Nat):Int) - 15)=((16+i - 15:Nat):Int):=by rw [w64_id (by omega) (by omega)];omega
  have e16:w64 (((16+i:Nat):Int) - 16)=((16+i - 16:Nat):Int):=by rw [w64_id (by omega) (by omega)];omega
  have e1:w64 (((16+i:Nat):Int)+1)=((16+(i+1):Nat):Int):=by rw [w64_id (by omega) (by omega)];omega
  have g2:(sched w i++List.replicate (48 - i) 0).getD (16+i - 2) 0=(sched w i).getD (16+i - 2) 0:=Np (by omega) 0
  have g7:(sched w i++List.replicate (48 - i) 0).getD (16+i - 7) 0=(sched w i).getD (16+i - 7) 0:=Np (by omega) 0
  have g15:(sched w i++List.replicate (48 - i) 0).getD (16+i - 15) 0=(sched w i).getD (16+i - 15) 0:=Np (by omega) 0
  have g16:(sched w i++List.replicate (48 - i) 0).getD (16+i - 16) 0=(sched w i).getD (16+i - 16) 0:=Np (by omega) 0
  have f10:∀ x:Int,Int.fdiv x (2 ^ (Min.min (10:Int).toNat (IntKind.bits IntKind.u32)))=x / 1024:=fun x=>Int.fdiv_eq_ediv_of_nonneg _ (by decide)
  have f3:∀ x:Int,Int.fdiv x (2 ^ (Min.min (3:Int).toNat (IntKind.bits IntKind.u32)))=x / 8:=fun x=>Int.fdiv_eq_ediv_of_nonneg _ (by decide)
  have r15:=Rl hr (16+i - 15)
  have r2:=Rl hr (16+i - 2)
  rw [show m+(j+1)+1=(m+j+1)+1 by omega,NZ]
  simp only [Nc,e1,e2,e7,e15,e16,Int.toNat_natCast,hlen,g2,g7,g15,g16,AAG r15,BAG r15,CAG r2,EAG r2,Option.bind_some,f10,f3,Oe]
  rw [TB (by simp;omega),TB (by rfl),TB (by simp;omega),TB (by rfl),TB (by simp;omega),TB (by rfl),TB (by simp;omega),TB (by rfl),TB (by simp;omega),TB (by rfl),TB (by simp;omega)]
  rw [show 48 - i=(48 - (i+1))+1 by omega,List.replicate_succ,Qp (by omega)]
  have h2:=ih (i+1) m (by omega)
  rw [sched,List.append_assoc] at h2
  exact h2
theorem LAG {b:ByteArray} (hb:b.size=64):Ee b=some (sched (CV (bs b) 16) 48):=by
 obtain ⟨m,hm⟩:∃ m,gas=(m+48+1)+6*16+1:=⟨gas - 146,by have:=gas_lt (n:=146) (by omega);omega⟩
 rw [Ee,Nw,hm]
 have h0:=JAG hb (List.replicate 64 0) 16 0 (m+48+1) (by omega)
 have h2:=KAG (w:=CV (bs b) 16) (v:=List.replicate 64 0) (Qx (Ug b) 16) (Zb _ 16) (List.length_replicate ..) 48 0 m (by omega)
 rw [show CV (bs b) 0++List.replicate (64 - 0) 0=List.replicate 64 (0:Int) from rfl,show ((0:Nat):Int)=0 from rfl] at h0
 rw [show ((16+0:Nat):Int)=16 from rfl,show sched (CV (bs b) 16) 0=CV (bs b) 16 from rfl,show 48 - 0=48 from rfl] at h2
 rw [h0,h2]
theorem MAG (s r v:List Int) (hs:s.length=8) (hv:v.length=8) (f:Nat→Int) (hf:∀ i,i<8→f i=w32 (r.getD i 0+s.getD i 0)) (hr:r.length=8):∀ (j i m:Nat),i+j=8→Ia (m+j+1) (.c1 (i:Int) s v ((List.range i).map f++r.drop i))=some ((List.range 8).map f):=by
 intro j
 induction j with
 | zero=>
  intro i m h
  obtain rfl:i=8:=by omega
  rw [Ia]
  simp only [Og]
  rw [TT (by simp),List.drop_of_length_le (by omega),List.append_nil,TB (by simp),TB (by simp [hv]),TB (by simp)]
 | succ j ih=>
  intro i m h
  have e:w64 ((i:Int)+1)=((i+1:Nat):Int):=by rw [w64_id (by omega) (by omega)];rfl
  have hl:((List.range i).map f++r.drop i).length=8:=by simp [hr];omega
  have hm:((List.range i).map f).length=i:=by simp
  have hg:((List.range i).map f++r.drop i).getD i 0=r.getD i 0:=by
   rw [Y6 (by omega),hm,Nat.sub_self]
   simp [List.getD]
  rw [show m+(j+1)+1=(m+j+1)+1 by omega,Ia]
  simp only [Og,e,Int.toNat_natCast,hl,hs,hg]
  rw [TB (by simp;omega),TB (by rfl),TB (by simp;omega),TB (by rfl),TB (by simp;omega),TB (by rfl),TB (by simp;omega)]
  rw [drop_at (by omega:i<r.length),Qp hm,←hf i (by omega)]
  have h2:=ih (i+1) m (by omega)
  rw [List.range_succ,List.map_append,List.append_assoc] at h2
  exact h2
theorem NAG (s v W:List Int) (hW:∀ x ∈ W,R32 x) (hWl:W.length=64) (r:Reg) (hr:r.ok) (i m:Nat) (hi:i<64) :
  Ia (m+1) (.c0 r.a r.b r.c r.d r.e r.f r.g r.h (i:Int) s v W)=Ia m (.c0 (La r (keysL.getD i 0) (W.getD i 0)).a (La r (keysL.getD i 0) (W.getD i 0)).b (La r (keysL.getD i 0) (W.getD i 0)).c (La r (keysL.getD i 0) (W.getD i 0)).d (La r (keysL.getD i 0) (W.getD i 0)).e (La r (keysL.getD i 0) (W.getD i 0)).f (La r (keysL.getD i 0) (W.getD i 0)).g (La r (keysL.getD i 0) (W.getD i 0)).h ((i+1:Nat):Int) s v W):=by
 obtain ⟨h1,h2,h3,h4,h5,h6,h7,h8⟩:=hr
 have e:w64 ((i:Int)+1)=((i+1:Nat):Int):=by rw [w64_id (by omega) (by omega)];rfl
 rw [Ia]
 simp only [Og,e,Int.toNat_natCast,hWl,XAF h5,YAF h5,ZAF h5,UAF h1,VAF h1,WAF h1,Option.bind_some,Oe,D7,XAC h5]
 rw [TB (by simp;omega),TB (by simp;omega),TB (by rw [Nat.blt_eq];omega),TB (by rfl),TB (by simp;omega)]
 rfl
theorem OAG (s v W:List Int) (hW:∀ x ∈ W,R32 x) (hWl:W.length=64) (r:Reg) (hr:r.ok):∀ (j i m:Nat),i+j=64→
  Ia (m+j+1) (.c0 (SY keysL W r i).a (SY keysL W r i).b (SY keysL W r i).c (SY keysL W r i).d (SY keysL W r i).e (SY keysL W r i).f (SY keysL W r i).g (SY keysL W r i).h (i:Int) s v W)=Ia m (.c1 0 s v (SY keysL W r 64).l):=by
 intro j
 induction j with
 | zero=>
  intro i m h
  obtain rfl:i=64:=by omega
  rw [Ia]
  simp only [Og]
  rw [TT (by simp)]
  rfl
 | succ j ih=>
  intro i m h
  rw [show m+(j+1)+1=(m+j+1)+1 by omega,NAG s v W hW hWl _ (N7 keysL W hr i) i _ (by omega)]
  exact ih (i+1) m (by omega)
theorem PAG {s:Reg} (hs:s.ok) {b:ByteArray} (hb:b.size=64):Fe s.l b=some (comp s (bs b)).l:=by
 obtain ⟨m,hm⟩:∃ m,gas=(m+8+1)+64+1:=⟨gas - 74,by have:=gas_lt (n:=74) (by omega);omega⟩
 have hr:=Wp (Qx (Ug b) 16) 48
 have hl:=Ql (Zb (bs b) 16) 48
 have hsl:s.l.length=8:=rfl
 have z0:(0:Int).toNat=0:=rfl
 have z1:(1:Int).toNat=1:=rfl
 have z2:(2:Int).toNat=2:=rfl
 have z3:(3:Int).toNat=3:=rfl
 have z4:(4:Int).toNat=4:=rfl
 have z5:(5:Int).toNat=5:=rfl
 have z6:(6:Int).toNat=6:=rfl
 have z7:(7:Int).toNat=7:=rfl
 rw [Fe,Qw,LAG hb,Option.bind_some,hm]
 simp only [hl,hsl,List.length_replicate,z0,z1,z2,z3,z4,z5,z6,z7]
 rw [TB (by rfl),TB (by rfl),TB (by rfl),TB (by rfl),TB (by rfl),TB (by rfl),TB (by rfl),TB (by rfl),TB (by rfl),TB (by rfl),TB (by rfl),TB (by rfl),TB (by rfl),TB (by rfl),TB (by rfl),TB (by rfl),TB (by rfl)]
 have h0:=OAG s.l [0,0,0,0,0,0,0,0] _ hr hl s hs 64 0 (m+8+1) (by omega)
 rw [show ((0:Nat):Int)=0 from rfl] at h0
 have hf:∀ i,i<8→(fun i=>w32 ((SY keysL (sched (CV (bs b) 16) 48) s 64).l.getD i 0+s.l.getD i 0)) i=w32 ((SY keysL (sched (CV (bs b) 16) 48) s 64).l.getD i 0+s.l.getD i 0):=fun _ _=>rfl
 have h1:=MAG s.l (SY keysL (sched (CV (bs b) 16) 48) s 64).l [0,0,0,0,0,0,0,0] rfl rfl _ hf rfl 8 0 m (by omega)
 rw [show ((0:Nat):Int)=0 from rfl,List.range_zero,List.map_nil,List.nil_append,List.drop_zero] at h1
 have e:(List.range 8).map (fun i=>w32 ((SY keysL (sched (CV (bs b) 16) 48) s 64).l.getD i 0+s.l.getD i 0))=(comp s (bs b)).l:=by
  apply List.ext_getElem
  ·rw [Reg.Sl,List.length_map,List.length_range]
  ·intro i h1 h2
   have hi:i<8:=by simpa using h1
   rw [List.getElem_map,List.getElem_range,←getD_at h2 0]
   rw [comp,Z7 _ _ i hi,Int.add_comm]
 rw [e] at h1
 exact h0.trans h1
theorem QAG {s:Reg} (hs:s.ok) {t:ByteArray} (ht:t.size≤1000000000000):Zk s.l t=some ((comps (t.size / 64) s (bs t)).l,t.extract (64*(t.size / 64)) t.size):=by
 have key:∀ (j:Nat) (s:Reg) (t:ByteArray) (m:Nat),s.ok→t.size / 64=j→t.size≤1000000000000→Yk (m+j+1) (.c0 t s.l [0,0,0,0,0,0,0,0])=some ((comps j s (bs t)).l,t.extract (64*j) t.size):=by
  intro j
  induction j with
  | zero=>
   intro s t m hs hj ht
   rw [Yk]
   simp only [Ap,Reg.Sl]
   rw [TT (by simp;omega),TB (by rfl),TB (by rfl),TB (by rfl)]
   congr 2
   apply Qc
   rw [Je,List.take_of_length_le (by rw [bs_len];omega)]
   rfl
  | succ j ih=>
   intro s t m hs hj ht
   have h64:(64:Int).toNat=64:=rfl
   have e1:bs (t.extract 0 64)=(bs t).take 64:=by rw [Je];rfl
   have e2:bs (t.extract 64 t.size)=(bs t).drop 64:=by rw [Je,List.take_of_length_le (by rw [bs_len];omega)]
   rw [show m+(j+1)+1=(m+j+1)+1 by omega,Yk]
   simp only [Ap,h64,Reg.Sl]
   rw [TB (by simp;omega),TB (by rfl),TB (by simp;omega)]
   rw [PAG hs (b:=t.extract 0 64) (by simp;omega),Option.bind_some]
   rw [Reg.Sl]
   rw [TB (by rfl)]
   rw [TB (by simp;omega)]
   rw [ih (comp s (bs (t.extract 0 64))) (t.extract 64 t.size) m (P7 _ _) (by simp;omega) (by simp;omega),e1,e2]
   have e3:(t.extract 64 t.size).extract (64*j) (t.extract 64 t.size).size=t.extract (64*(j+1)) t.size:=by
    apply Qc
    rw [Je,e2,Je,List.take_of_length_le (by simp [bs_len]),List.take_of_length_le (by rw [bs_len];omega),List.drop_drop]
    congr 1
    omega
   rw [e3,comps]
 obtain ⟨m,hm⟩:∃ m,gas=m+t.size / 64+1:=⟨gas - (t.size / 64+1),by have:=gas_lt (n:=t.size / 64+1) (by omega);omega⟩
 rw [Zk,Uw,hm]
 exact key _ s t m hs rfl ht
theorem RAG {r:Reg} (hr:r.ok):Gl r.l=some (ofBytes (SN r.l)):=by
 have hl:r.l.length=8:=rfl
 have hrl:=Reg.Ve hr
 have hby:∀ i,EZ (SN (r.l.take i)):=fun i=>Rx (fun x hx=>hrl x (List.mem_of_mem_take hx))
 have key:=loopN (A:=Unit) (n:=8) (Lp:=Dl) (st:=fun i _=>.c0 (ofBytes (SN (r.l.take i))) r.l (i:Int)) (Inv:=fun _ _=>True) (out:=fun _ _=>some (ofBytes (SN r.l)))
  (fun m _ _=>by
   rw [Dl]
   simp only [Dp]
   rw [TT (by simp)]
   rfl)
  (fun m i _ hi _=>.inr ⟨(),by
   have e:w64 ((i:Int)+1)=((i+1:Nat):Int):=by rw [w64_id (by omega) (by omega)];rfl
   have hg:r.l.getD i 0=r.l[i]'(by omega):=getD_at (by omega) 0
   have hx:R32 (r.l.getD i 0):=Rl hrl i
   rw [Dl]
   simp only [Dp,e,Int.toNat_natCast,Q9 hx,Option.bind_some,hl]
   rw [TB (by simp;omega),TB (by rfl),TB (by simp;omega),TB (by rw [ofBytes_size,ofBytes_size,Vg];simp [four];omega)]
   congr 2
   apply Qc
   rw [Pg,OZ (hby i),OZ (hby (i+1)),OZ (Xp hx),take_at (by omega),U7,hg]
   simp [SN],trivial,rfl⟩)
 rw [Gl,Xw,hl,TB (by rfl)]
 exact key gas 0 () (Nat.zero_le _) (gas_lt (by omega)) trivial
theorem SAG:Vo=some PZ.l:=rfl
theorem UAG {s:ByteArray} (hs:s.size≤1000000000):Hl s=some (BZ s):=by
 have h1:=Yp s.size
 have hsz:(s++ofBytes (KY s.size)).size=s.size+(KY s.size).length:=by rw [ByteArray.size_append,ofBytes_size]
 rw [Hl,Zw,SAG,Option.bind_some,SAF (n:=s.size) (by omega),Option.bind_some,TB (by rw [ofBytes_size];simp;omega),QAG Tc (by omega),Option.bind_some]
 simp only [Reg.Sl]
 rw [TB (by rfl),TB (by rfl),RAG (Ue Tc _ _),Option.bind_some,hsz,Pg,OZ (Ux _),BZ,Xe,bs_len]
theorem VAG {b:SBook} {r:SRec} (hb:b.fThings.length≤140737488351232) (hr:r.fNum≤9223372036854775807):He b r=some (IK b r):=by
 rw [He,Dx,LAF hr,Option.bind_some,Jy hb,Option.bind_some,IK]
 cases h1:QY b
 ·rfl
 cases h2:(NY r).2
 ·rfl
 by_cases h3:b.fCount≥10000
 ·rw [decide_eq_true h3];rfl
 obtain ⟨b1,b2,b3,b4,b5,b6,b7⟩:=ZY.1 h1
 have hz:=D9 r
 have hw:w64 (b.fCount+1)=b.fCount+1:=w64_id (by omega) (by omega)
 have hdig:=UAG (s:=b.fChain++(NY r).1) (by rw [ByteArray.size_append];omega)
 have hsz:decide (b.fChain.size+(NY r).1.size≤9223372036854775807)=true:=by rw [decide_eq_true_eq];omega
 simp only [decide_eq_false h3,Bool.not_true,Bool.or_self,cond_false,NAF (show b.fThings.length≤2932031007317 by omega),hdig,hsz,hw,Option.bind_some,cond_true]
 rcases Fq h2 with ⟨hk,hc⟩ | ⟨hk,hc⟩ | ⟨hk,hc⟩ | ⟨hk,hc⟩
 ·rw [hk];rfl
 ·rw [hk];rfl
 ·rw [hk]
  simp only [show ((3:Int) == 1)=false from rfl,show ((3:Int) == 2)=false from rfl,show ((3:Int) == 3)=true from rfl,cond_true,cond_false]
  rw [PAF h1 (Bc hc).2.2.2.1,Option.bind_some]
  cases Cc b r.fThing with
  | none=>rfl
  | some p=>simp only [Bool.not_true,cond_false,hw]
 ·rw [hk]
  simp only [show ((4:Int) == 1)=false from rfl,show ((4:Int) == 2)=false from rfl,show ((4:Int) == 3)=false from rfl,show ((4:Int) == 4)=true from rfl,cond_true,cond_false]
  rw [Ky hb,Option.bind_some]
  rcases Gy (xs:=b.fThings) (id:=r.fNum) with ⟨o,j,t1,t2,t3,t4,t5⟩ | ⟨t1,t2⟩
  ·have hs:=(Ey (x:=⟨r.fNum,0,false,false,false,false,⟨#[]⟩,0⟩) b7 t2).2
   rw [Nat.sub_zero] at hs
   simp only at hs
   rw [t1,t2]
   simp only [Int.toNat_natCast]
   have e:w64 ((j:Int)+1)=((j+1:Nat):Int):=by rw [w64_id (by omega) (by omega)];rfl
   simp only [e,Int.toNat_natCast,List.drop_zero,List.take_length,hs]
   rw [TT (by simp),TB (by simp;omega),TB (by rw [List.length_take,decide_eq_true_eq];omega),TB (by simp;omega),TB (by rw [List.length_take,List.length_drop,decide_eq_true_eq];omega)]
  ·rw [t1,t2];rfl
def Wl (x y:SThing):Bool:=(x.fId == y.fId) && ((x.fKind == y.fKind) && ((x.fHidden == y.fHidden) && ((x.fFixed == y.fFixed) && ((x.fSigns == y.fSigns) && ((x.fWraps == y.fWraps) && (((ByteArray.toList x.fValue) == (ByteArray.toList y.fValue)) && ((x.fNext == y.fNext) && true)))))))
theorem WAG (x y:SThing):((x.fId == y.fId) && ((x.fKind == y.fKind) && ((x.fHidden == y.fHidden) && ((x.fFixed == y.fFixed) && ((x.fSigns == y.fSigns) && ((x.fWraps == y.fWraps) && (((ByteArray.toList x.fValue) == (ByteArray.toList y.fValue)) && ((x.fNext == y.fNext) && true))))))))=Wl x y:=rfl
theorem XAG {x y:SThing}:Wl x y=true↔x=y:=by
 simp only [Wl,Bool.and_eq_true,beq_iff_eq]
 constructor
 ·rintro ⟨h1,h2,h3,h4,h5,h6,h7,h8,_⟩
  have h7':x.fValue=y.fValue:=by
   have:=toList_inj (s:=x.fValue) (t:=y.fValue)
   rw [h7] at this
   simpa using this
  cases x;cases y;simp_all
 ·rintro rfl;simp
def YZ:List SThing→List SThing→Bool
 | [],[]=>true
 | x::a,y::b=>Wl x y && YZ a b
 | _,_=>false
theorem Ny:∀ {a b:List SThing},YZ a b=true↔a=b
 | [],[]=>by simp [YZ]
 | x::a,y::b=>by simp [YZ,XAG,Ny]
 | [],_::_=>by simp [YZ]
 | _::_,[]=>by simp [YZ]
theorem YAG {a b:List SThing} (h:a.length≠b.length):YZ a b=false:=by
 cases h2:YZ a b
 ·rfl
 ·rw [Ny] at h2;subst h2;exact absurd rfl h
def Iq (a b:SBook):Bool:=(a.fWord.toList == b.fWord.toList) && ((a.fTries == b.fTries) && (YZ a.fThings b.fThings && ((a.fLast == b.fLast) && ((a.fChain.toList == b.fChain.toList) && (a.fCount == b.fCount)))))
theorem AAH {a b:SBook}:Iq a b=true↔a=b:=by
 simp only [Iq,Bool.and_eq_true,toList_inj,decide_eq_true_eq,beq_iff_eq,Ny]
 constructor
 ·rintro ⟨h1,h2,h3,h4,h5,h6⟩
  cases a;cases b;simp_all
 ·rintro rfl;simp
theorem BAH {a b:SBook} (h0:a.fThings.length≤140737488351232):Ie a b=some (Iq a b):=by
 rw [Ie,Gx,Iq]
 by_cases hl:a.fThings.length=b.fThings.length
 ·have key:∀ (j i m:Nat),i+j=a.fThings.length→Jl (m+j+1) (.c0 (i:Int) a b)=some (YZ (a.fThings.drop i) (b.fThings.drop i)):=by
   intro j
   induction j with
   | zero=>
    intro i m h
    obtain rfl:i=a.fThings.length:=by omega
    rw [Jl]
    simp only [Gp]
    rw [TT (by simp),List.drop_length,hl,List.drop_length];rfl
   | succ j ih=>
    intro i m h
    have hi:i<a.fThings.length:=by omega
    have hi2:i<b.fThings.length:=by omega
    have e:w64 ((i:Int)+1)=((i+1:Nat):Int):=by rw [w64_id (by omega) (by omega)];rfl
    rw [show m+(j+1)+1=(m+j+1)+1 by omega,Jl]
    simp only [Gp,e,Int.toNat_natCast,getD_at hi,getD_at hi2,WAG,ih (i+1) m (by omega)]
    rw [TB (by simp;omega),TB (by simp;omega),TB (by simp;omega),drop_at hi,drop_at hi2,YZ]
    cases Wl a.fThings[i] b.fThings[i] <;> rfl
  obtain ⟨m,hm⟩:∃ m,gas=m+a.fThings.length+1:=⟨gas - (a.fThings.length+1),by have:=gas_lt (n:=a.fThings.length+1) (by omega);omega⟩
  have hz:=key a.fThings.length 0 m (by omega)
  rw [List.drop_zero,List.drop_zero,show ((0:Nat):Int)=0 from rfl] at hz
  have h1:((a.fThings.length:Int) != (b.fThings.length:Int))=false:=by rw [bne_eq_false_iff_eq];omega
  rw [h1,hm,hz]
  simp only [bne]
  cases a.fWord.toList == b.fWord.toList <;> cases a.fTries == b.fTries <;> cases YZ a.fThings b.fThings <;> cases a.fLast == b.fLast <;> cases a.fChain.toList == b.fChain.toList <;> cases a.fCount == b.fCount <;> rfl
 ·have h1:((a.fThings.length:Int) != (b.fThings.length:Int))=true:=by rw [bne_iff_ne];omega
  rw [h1,YAG hl]
  simp only [bne]
  cases a.fWord.toList == b.fWord.toList <;> cases a.fTries == b.fTries <;> cases a.fLast == b.fLast <;> cases a.fChain.toList == b.fChain.toList <;> cases a.fCount == b.fCount <;> rfl
theorem CAH {b:SBook} {t:Int} (h:b.fThings.length≤140737488351232):Oc b t=some (match RV b.fThings t with | some x=>(x,true) | none=>(Bf,false)):=by
 have hp:=F9 t b.fThings 0
 simp only [Oc,Ox,Ky h,Option.bind_some]
 cases hq:VY b.fThings t 0 with
 | none=>rw [hq] at hp;simp only at hp ⊢;rw [hp];rfl
 | some j=>
  rw [hq] at hp
  simp only [Nat.sub_zero,Nat.zero_add] at hp ⊢
  obtain ⟨_,h1,h2⟩:=hp
  rw [h2,List.getElem?_eq_getElem h1]
  simp only [Int.toNat_natCast,getD_at h1]
  rw [show (decide ((j:Int)<0))=false from decide_eq_false (by omega),show (decide ((0:Int)≤(j:Int)))=true from decide_eq_true (by omega),show (decide ((j:Int)<(b.fThings.length:Int)))=true from decide_eq_true (by omega)]
  rfl
theorem DAH (b:SBook) (r:SRec):(IK b r).1.fThings.length≤8:=by
 cases h:(IK b r).2
 ·have:(IK b r).1=Df:=by
   rw [IK] at h ⊢
   cases hc:(!(QY b) || (!(NY r).2 || decide (b.fCount≥10000)))
   ·rw [hc] at h
    simp only [cond_false] at h ⊢
    cases h1:r.fKind == 1
    ·rw [h1] at h
     simp only [cond_false] at h ⊢
     cases h2:r.fKind == 2
     ·rw [h2] at h
      simp only [cond_false] at h ⊢
      cases h3:r.fKind == 3
      ·rw [h3] at h
       simp only [cond_false] at h ⊢
       cases ht:RV b.fThings r.fNum with
       | none=>rfl
       | some x=>rw [ht] at h;cases h
      ·rw [h3] at h
       simp only [cond_true] at h ⊢
       cases ht:Cc b r.fThing with
       | none=>rfl
       | some x=>rw [ht] at h;cases h
     ·rw [h2] at h;cases h
    ·rw [h1] at h;cases h
   ·rfl
  rw [this];exact Nat.zero_le _
 ·exact L9 h
theorem XAH {b:SBook} {l:List SRec} (h:b.fThings.length≤2932031007317):(JZ b l).1.fThings.length≤2932031007317:=by
 induction l generalizing b with
 | nil=>exact h
 | cons r rs ih=>
  rw [JZ]
  cases h3:(IK b r).2
  ·exact Nat.zero_le _
  ·have:=L9 h3
   exact ih (by omega)
theorem Oy {last:Int} {x:SThing}:∀ {xs:List SThing} {p:Int},rise last p xs=true→x ∈ xs→RV xs x.fId=some x:=by
 intro xs
 induction xs with
 | nil=>intro p _ hx;cases hx
 | cons y ys ih=>
  intro p h hx
  obtain ⟨h1,h2,h3,h4⟩:=QZ.1 h
  rw [RV,List.find?_cons]
  rcases List.mem_cons.1 hx with rfl | hx
  ·simp
  ·have:=Zg h4 x hx
   rw [show (y.fId == x.fId)=false by rw [beq_eq_false_iff_ne];omega]
   exact ih h4 hx
theorem EAH {b:SBook} {r:SRec} (h:(IK b r).2=false):(IK b r).1=Df:=by
 rw [IK] at h ⊢
 cases hc:(!(QY b) || (!(NY r).2 || decide (b.fCount≥10000)))
 ·rw [hc] at h
  simp only [cond_false] at h ⊢
  cases h1:r.fKind == 1
  ·rw [h1] at h
   simp only [cond_false] at h ⊢
   cases h2:r.fKind == 2
   ·rw [h2] at h
    simp only [cond_false] at h ⊢
    cases h3:r.fKind == 3
    ·rw [h3] at h
     simp only [cond_false] at h ⊢
     cases ht:RV b.fThings r.fNum with
     | none=>rfl
     | some x=>rw [ht] at h;cases h
    ·rw [h3] at h
     simp only [cond_true] at h ⊢
     cases ht:Cc b r.fThing with
     | none=>rfl
     | some x=>rw [ht] at h;cases h
   ·rw [h2] at h;cases h
  ·rw [h1] at h;cases h
 ·rfl
theorem S9 {b:SBook} {r:SRec} (h:(IK b r).2=true):((IK b r).1.fThings=b.fThings∧(IK b r).1.fLast=b.fLast)∨(∃ o,RV b.fThings r.fThing.fId=some o∧grown o r.fThing=true∧(IK b r).1.fThings=putAt b.fThings r.fThing∧(IK b r).1.fLast=b.fLast)∨((IK b r).1.fThings=b.fThings++[r.fThing]∧(IK b r).1.fLast=b.fLast+1)∨(r.fKind=4∧(IK b r).1.fThings=without b.fThings r.fNum∧(IK b r).1.fLast=b.fLast):=by
 have h2:=(Ef h).2.1
 rw [IK] at h ⊢
 cases hc:(!(QY b) || (!(NY r).2 || decide (b.fCount≥10000)))
 ·rw [hc] at h
  simp only [cond_false] at h ⊢
  rcases Fq h2 with ⟨hk,hz⟩ | ⟨hk,hz⟩ | ⟨hk,hz⟩ | ⟨hk,hz⟩
  ·rw [hk];exact .inl ⟨rfl,rfl⟩
  ·rw [hk];exact .inl ⟨rfl,rfl⟩
  ·rw [hk] at h ⊢
   simp only [show ((3:Int) == 1)=false from rfl,show ((3:Int) == 2)=false from rfl,show ((3:Int) == 3)=true from rfl,cond_true,cond_false] at h ⊢
   rw [Cc] at h ⊢
   cases ht:RV b.fThings r.fThing.fId with
   | some o=>
    rw [ht] at h
    simp only at h ⊢
    cases hg:grown o r.fThing
    ·rw [hg] at h;cases h
    ·exact .inr (.inl ⟨o,rfl,hg,rfl,rfl⟩)
   | none=>
    rw [ht] at h
    simp only at h ⊢
    cases hg:(r.fThing.fId != b.fLast+1 || decide ((b.fThings.length:Int)≥8))
    ·rw [Bool.or_eq_false_iff,bne_eq_false_iff_eq] at hg
     exact .inr (.inr (.inl ⟨rfl,hg.1⟩))
    ·rw [hg] at h;cases h
  ·rw [hk] at h ⊢
   simp only [show ((4:Int) == 1)=false from rfl,show ((4:Int) == 2)=false from rfl,show ((4:Int) == 3)=false from rfl,cond_false] at h ⊢
   cases ht:RV b.fThings r.fNum with
   | none=>rw [ht] at h;cases h
   | some x=>exact .inr (.inr (.inr ⟨trivial,rfl,rfl⟩))
 ·rw [hc] at h;cases h
def keeps (x y:SThing):Prop:=y.fKind=x.fKind∧y.fValue=x.fValue∧(x.fHidden=true→y.fHidden=true)∧(x.fFixed=true→y.fFixed=true)∧x.fNext≤y.fNext
theorem FAH (x:SThing):keeps x x:=⟨rfl,rfl,id,id,Int.le_refl _⟩
theorem GAH {x y:SThing} (h:grown x y=true):keeps x y:=by
 simp only [grown,Bool.and_eq_true,beq_iff_eq,decide_eq_true_eq] at h
 obtain ⟨h1,h2,_,_,h5,h6,h7⟩:=h
 refine ⟨h1,Qc h2,fun e=>?_,fun e=>?_,h5⟩
 ·rw [e] at h6;simpa using h6
 ·rw [e] at h7;simpa using h7
theorem HAH {b:SBook} {r:SRec} (h:(IK b r).2=true) {x:SThing} (hx:x ∈ b.fThings):(RV (IK b r).1.fThings x.fId=none∧r.fKind=4∧r.fNum=x.fId)∨∃ y,RV (IK b r).1.fThings x.fId=some y∧keeps x y:=by
 obtain ⟨h1,h2,h3,h4,_⟩:=Ef h
 have hr:=(ZY.1 h1).2.2.2.2.2.2
 have hn:=(ZY.1 h4).2.2.2.2.2.2
 have hself:=Oy hr hx
 have stay:x ∈ (IK b r).1.fThings→∃ y,RV (IK b r).1.fThings x.fId=some y∧keeps x y:=fun hm=>⟨x,Oy hn hm,FAH x⟩
 rcases S9 h with ⟨e,_⟩ | ⟨o,ho,hg,e,_⟩ | ⟨e,_⟩ | ⟨hk,e,_⟩
 ·exact .inr (stay (by rw [e];exact hx))
 ·refine .inr ?_
  by_cases hi:x.fId=r.fThing.fId
  ·rw [hi] at hself
   rw [hself] at ho
   injection ho with ho
   subst ho
   refine ⟨r.fThing,?_,GAH hg⟩
   rw [hi]
   exact Oy hn (by rw [e,putAt];exact List.mem_append_right _ (List.mem_cons_self ..))
  ·refine stay ?_
   rw [e,putAt,List.mem_append,List.mem_cons,XZ,Yc,List.mem_filter,List.mem_filter,decide_eq_true_eq,decide_eq_true_eq]
   by_cases hl:x.fId<r.fThing.fId
   ·exact .inl ⟨hx,hl⟩
   ·exact .inr (.inr ⟨hx,by omega⟩)
 ·exact .inr (stay (by rw [e];exact List.mem_append_left _ hx))
 ·by_cases hi:x.fId=r.fNum
  ·refine .inl ⟨?_,hk,hi.symm⟩
   rw [e,RV,List.find?_eq_none]
   intro t ht
   rw [without,List.mem_filter,bne_iff_ne] at ht
   rw [beq_iff_eq,hi];exact ht.2
  ·refine .inr (stay ?_)
   rw [e,without,List.mem_filter,bne_iff_ne]
   exact ⟨hx,hi⟩
theorem IAH {b:SBook} {r:SRec} (h:(IK b r).2=true):b.fLast≤(IK b r).1.fLast:=by
 rcases S9 h with ⟨_,e⟩ | ⟨_,_,_,_,e⟩ | ⟨_,e⟩ | ⟨_,_,e⟩ <;> rw [e] <;> omega
theorem law_FnEnters (x0:Unit):laws_FnEnters x0=some true:=by
 rw [laws_FnEnters,Px,QAC,Option.bind_some]
 cases decide ((codeL.length:Int) > 1048576)
 ·rw [cond_false]
  obtain ⟨⟨b,r⟩,h1,g1,g2⟩:=IAF
  have g1:b.fThings.length≤9:=g1
  have g2:r.fNum≤9223372036854775807:=g2
  have z:=DAH b r
  have key:(IK b r).2=true→∀ (j i m:Nat),i+j=b.fThings.length→Nl (m+j+1) (.c0 (i:Int) b.fWord b.fTries b.fLast b.fChain b.fCount r (IK b r).1.fWord (IK b r).1.fTries (IK b r).1.fLast (IK b r).1.fChain (IK b r).1.fCount b.fThings (IK b r).1.fThings)=some true:=by
   intro hok j
   induction j with
   | zero=>
    intro i m hi
    obtain ⟨e1,e2,e3,e4,e5,e6⟩:=Ef hok
    have e7:=IAH hok
    obtain ⟨b1,b2,b3,b4,b5,b6,b7⟩:=ZY.1 e1
    rw [Nl]
    simp only [Jp]
    rw [TT (by rw [decide_eq_false_iff_not];omega),show Ya ⟨(IK b r).1.fWord,(IK b r).1.fTries,(IK b r).1.fThings,(IK b r).1.fLast,(IK b r).1.fChain,(IK b r).1.fCount⟩=some (QY (IK b r).1) from Jy (b:=(IK b r).1) (by omega),Option.bind_some,e4,cond_true,w64_id (n:=b.fCount+1) (by omega) (by omega),e5,beq_self_eq_true,cond_true,TB (by rw [decide_eq_true_eq];omega),e6,Zp];rfl
   | succ j ih=>
    intro i m hi
    have hlt:i<b.fThings.length:=by omega
    have hw:w64 ((i:Int)+1)=((i+1:Nat):Int):=by rw [w64_id (by omega) (by omega)];rfl
    rw [show m+(j+1)+1=(m+j+1)+1 from rfl,Nl]
    simp only [Jp,hw,Int.toNat_natCast,getD_at hlt,ih (i+1) m (by omega)]
    rw [TB (by rw [decide_eq_true_eq];omega),TB (by simp;omega),show Oc ⟨(IK b r).1.fWord,(IK b r).1.fTries,(IK b r).1.fThings,(IK b r).1.fLast,(IK b r).1.fChain,(IK b r).1.fCount⟩ b.fThings[i].fId=_ from CAH (b:=(IK b r).1) (by omega),Option.bind_some]
    rcases HAH hok (List.getElem_mem hlt) with ⟨k1,k2,k3⟩ | ⟨y,k1,k2,k3,k4,k5,k6⟩
    ·rw [k1,k2,k3];simp
    ·rw [k1]
     dsimp only
     rw [k2,k3,show decide (y.fNext<b.fThings[i].fNext)=false from decide_eq_false (by omega)]
     generalize b.fThings[i]=x at *
     cases h3:x.fHidden
     ·cases h4:x.fFixed
      ·simp
      ·rw [k5 h4];simp
     ·cases h4:x.fFixed
      ·rw [k4 h3];simp
      ·rw [k4 h3,k5 h4];simp
  simp only [h1,Option.bind_some,VAG (b:=b) (r:=r) (by omega) g2,J9 (b:=b) (r:=r) (by omega),BAH (a:=(IK b r).1) (b:=(IK b r).1) (by omega),AAH.2 rfl,Jy (b:=b) (by omega),Af (b:=b) (by omega),beq_self_eq_true,Bool.not_true,cond_false]
  cases hok:(IK b r).2
  ·rw [EAH hok];rfl
  ·obtain ⟨m,hm⟩:∃ m,gas=m+b.fThings.length+1:=⟨gas - (b.fThings.length+1),by have:=gas_lt (n:=b.fThings.length+1) (by omega);omega⟩
   rw [hm]
   exact key hok b.fThings.length 0 m (by omega)
 ·rfl
end Go.Proofs.YtjfkbidckphneaaDoor.G
