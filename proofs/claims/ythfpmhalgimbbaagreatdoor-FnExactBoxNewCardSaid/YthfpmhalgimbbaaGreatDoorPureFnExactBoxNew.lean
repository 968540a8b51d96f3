/- The plain law of FnExactBoxNew: whatever the arguments, it answers true. Conditions: what is read is in reach. Part 1 of 1. -/
import Derived.Test.YthfpmhalgimbbaaGreatDoorFFnExactBoxNew
import Derived.Test.YthfpmhalgimbbaaGreatDoorOpens
import Derived.Test.YthfpmhalgimbbaaGreatDoorPBase
namespace Go.Proofs.YthfpmhalgimbbaaGreatDoor.G
open Go Go.Ev
set_option linter.unusedVariables false
set_option linter.unusedSimpArgs false
theorem Rh {n:Int}:w32 n=n % 4294967296:=by
 simp only [w32,IntKind.wrap,IntKind.signed,IntKind.bits]
 simp
theorem OZ {n:Int} (h1:0≤n) (h2:n<4294967296):w32 n=n:=by rw [Rh];omega
def R32 (n:Int):Prop:=0≤n∧n<4294967296
theorem MZ (n:Int):R32 (w32 n):=by unfold R32;rw [Rh];omega
theorem PAb {n:Int} (h:0≤n∧n≤255):R32 n:=by unfold R32;omega
def xr (x y:Int):Int:=w32 (((BitVec.toNat ((BitVec.ofInt (IntKind.bits IntKind.u32) x) ^^^ (BitVec.ofInt (IntKind.bits IntKind.u32) y))):Nat):Int)
def an (x y:Int):Int:=w32 (((BitVec.toNat ((BitVec.ofInt (IntKind.bits IntKind.u32) x) &&& (BitVec.ofInt (IntKind.bits IntKind.u32) y))):Nat):Int)
def Tv (x y:Int):Int:=w32 (((BitVec.toNat ((BitVec.ofInt (IntKind.bits IntKind.u32) x) ||| (BitVec.ofInt (IntKind.bits IntKind.u32) y))):Nat):Int)
theorem Xb (x y:Int):w32 (((BitVec.toNat ((BitVec.ofInt (IntKind.bits IntKind.u32) x) ^^^ (BitVec.ofInt (IntKind.bits IntKind.u32) y))):Nat):Int)=xr x y:=rfl
theorem BAF (x y:Int):w32 (((BitVec.toNat ((BitVec.ofInt (IntKind.bits IntKind.u32) x) &&& (BitVec.ofInt (IntKind.bits IntKind.u32) y))):Nat):Int)=an x y:=rfl
theorem HAK (x y:Int):w32 (((BitVec.toNat ((BitVec.ofInt (IntKind.bits IntKind.u32) x) ||| (BitVec.ofInt (IntKind.bits IntKind.u32) y))):Nat):Int)=Tv x y:=rfl
theorem Wj (x y:Int):R32 (xr x y):=MZ _
theorem QAb (x y:Int):R32 (an x y):=MZ _
theorem IAK {a b:Nat} {s:Nat} (hb:b<2 ^ s) (ha:a*2 ^ s<4294967296) (hs:b<4294967296):Tv ((a*2 ^ s:Nat):Int) (b:Int)=((a*2 ^ s+b:Nat):Int):=by
 have e:a*2 ^ s ||| b=a*2 ^ s+b:=by
  have:=Nat.shiftLeft_add_eq_or_of_lt hb a
  rw [Nat.shiftLeft_eq] at this
  exact this.symm
 unfold Tv
 have h3:a*2 ^ s ||| b<2 ^ 32:=Nat.or_lt_two_pow (by omega) (by omega)
 rw [BitVec.toNat_or]
 show w32 (((BitVec.ofInt 32 _).toNat ||| (BitVec.ofInt 32 _).toNat:Nat):Int)=_
 rw [BitVec.ofInt_natCast,BitVec.ofInt_natCast,BitVec.toNat_ofNat,BitVec.toNat_ofNat,Nat.mod_eq_of_lt (by omega),Nat.mod_eq_of_lt (by omega),e]
 rw [e] at h3
 exact OZ (by omega) (by omega)
theorem AAU {e:Int} (h:R32 e):xr (ite ((IntKind.signed IntKind.u32)=true) (-(1:Int)) (IntKind.max IntKind.u32)) e=w32 (4294967295 - e):=by
 obtain ⟨h1,h2⟩:=h
 obtain ⟨n,rfl⟩:∃ n:Nat,e=(n:Int):=⟨e.toNat,by omega⟩
 have hn:n<4294967296:=by omega
 have e1:(ite ((IntKind.signed IntKind.u32)=true) (-(1:Int)) (IntKind.max IntKind.u32))=4294967295:=by decide
 rw [e1]
 unfold xr
 show w32 (((BitVec.ofInt 32 4294967295 ^^^ BitVec.ofInt 32 (n:Int)).toNat:Nat):Int)=_
 have e2:BitVec.ofInt 32 4294967295=BitVec.allOnes 32:=by decide
 rw [e2,BitVec.ofInt_natCast,BitVec.allOnes_xor,BitVec.toNat_not,BitVec.toNat_ofNat]
 rw [Rh,Rh]
 omega
def rt (low high x:Int):Int:=x / low+x % low*high
theorem BAU {low high x:Int} (h:R32 x) (hl:0<low) (hh:0<high) (hlh:low*high=4294967296):R32 (rt low high x):=by
 unfold R32 rt at *
 have h1:0≤x / low:=Int.ediv_nonneg h.1 (by omega)
 have h2:0≤x % low:=Int.emod_nonneg _ (by omega)
 have h3:x % low<low:=Int.emod_lt_of_pos _ hl
 have h4:x / low<high:=Int.ediv_lt_of_lt_mul hl (by rw [Int.mul_comm,hlh];exact h.2)
 have h5:0≤x % low*high:=Int.mul_nonneg h2 (by omega)
 have h6:x % low*high≤(low - 1)*high:=Int.mul_le_mul_of_nonneg_right (by omega) (by omega)
 have h7:(low - 1)*high=low*high - high:=by rw [Int.sub_mul,Int.one_mul]
 omega
theorem CAU {x:Int} (h:R32 x) (n:Nat) (hn:0<n) (hn2:n<32):Tv (w32 (x*2 ^ (32 - n))) (x / 2 ^ n)=rt (2 ^ n) (2 ^ (32 - n)) x:=by
 obtain ⟨h1,h2⟩:=h
 obtain ⟨y,rfl⟩:∃ y:Nat,x=(y:Int):=⟨x.toNat,by omega⟩
 have hy:y<4294967296:=by omega
 have e0:(4294967296:Nat)=2 ^ n*2 ^ (32 - n):=by rw [←Nat.pow_add,show n+(32 - n)=32 by omega]
 have e1:w32 ((y:Int)*2 ^ (32 - n))=((y % 2 ^ n*2 ^ (32 - n):Nat):Int):=by
  rw [Rh]
  have h5:((y:Int)*2 ^ (32 - n))=((y*2 ^ (32 - n):Nat):Int):=by push_cast;rfl
  have h6:y*2 ^ (32 - n) % 4294967296=y % 2 ^ n*2 ^ (32 - n):=by rw [e0,Nat.mul_mod_mul_right]
  rw [h5,←h6]
  omega
 have e2:((y:Int) / 2 ^ n)=((y / 2 ^ n:Nat):Int):=by push_cast;rfl
 have hp:0<2 ^ n:=Nat.two_pow_pos n
 have hp2:0<2 ^ (32 - n):=Nat.two_pow_pos _
 have hm:y % 2 ^ n<2 ^ n:=Nat.mod_lt _ hp
 have hd:y / 2 ^ n<2 ^ (32 - n):=Nat.div_lt_of_lt_mul (by rw [←e0];exact hy)
 rw [e1,e2,IAK hd (by rw [e0];exact Nat.mul_lt_mul_of_pos_right hm hp2) (Nat.lt_of_le_of_lt (Nat.div_le_self _ _) hy)]
 unfold rt
 push_cast
 omega
def bs (s:ByteArray):List Int:=s.data.toList.map fun b=>(b.toNat:Int)
theorem bs_len (s:ByteArray):(bs s).length=s.size:=by unfold bs;rw [List.length_map];rfl
theorem DAU {s:ByteArray} {n:Int} (h:n ∈ bs s):0≤n∧n≤255:=by
 unfold bs at h;rw [List.mem_map] at h;obtain ⟨b,_,rfl⟩:=h
 have:=b.toNat_lt;omega
theorem LY (a b:ByteArray):bs (a++b)=bs a++bs b:=by simp [bs]
theorem JAK (s:ByteArray):ofBytes (bs s)=s:=by
 cases s;simp [ofBytes,bs,Function.comp_def]
theorem YZ {s t:ByteArray} (h:bs s=bs t):s=t:=by rw [←JAK s,h,JAK]
theorem SN {l:List Int} (h:∀ n,n ∈ l→0≤n∧n≤255):bs (ofBytes l)=l:=by
 simp only [bs,ofBytes,List.map_map]
 conv=>rhs;rw [←List.map_id l]
 apply List.map_congr_left
 intro n hn
 obtain ⟨h1,h2⟩:=h n hn
 simp only [Function.comp,UInt8.toNat_ofNat',id]
 omega
theorem EAU {s:ByteArray} {i:Nat} (h:i<s.size):bt s (i:Int)=(bs s)[i]'(by rw [bs_len];exact h):=by
 simp only [bt,Int.toNat_natCast,h,dite_true,bs,List.getElem_map]
 rfl
theorem RAb (s:ByteArray) (i:Int):0≤bt s i∧bt s i≤255:=by
 unfold bt;split
 ·have:=(s[i.toNat]).toNat_lt;omega
 ·omega
theorem Uc (s:ByteArray) (i j:Nat):bs (s.extract i j)=((bs s).take j).drop i:=by
 simp only [bs,ByteArray.data_extract,Array.toList_extract,List.extract_eq_take_drop,List.map_take,List.map_drop]
 rw [List.drop_take]
theorem TB {α:Type} {c:Bool} {a b:α} (h:c=true):(bif c then a else b)=a:=by rw [h];rfl
theorem IK {α:Type} {c:Bool} {a b:α} (h:c=false):(bif c then a else b)=b:=by rw [h];rfl
theorem Yb {s:ByteArray} {i:Nat} (h:i<s.size):bt s (i:Int)=(bs s).getD i 0:=by rw [EAU h,getD_at]
theorem SAb {s:ByteArray} {i:Int} {j:Nat} (e:i=(j:Int)) (h:j<s.size):bt s i=(bs s).getD j 0:=by rw [e,Yb h]
theorem Wv {α:Type} {a b:List α} {i:Nat} (h:i<a.length) (d:α):(a++b).getD i d=a.getD i d:=by simp [List.getD,List.getElem?_append_left h]
theorem Xj {α:Type} {a b:List α} {i:Nat} (h:a.length≤i) (d:α):(a++b).getD i d=b.getD (i - a.length) d:=by simp [List.getD,List.getElem?_append_right h]
theorem Zb {α:Type} {a b:List α} {x y:α} {i:Nat} (h:a.length=i):(a++x::b).set i y=a++y::b:=by
 rw [List.set_append_right _ _ (by omega),h,Nat.sub_self];rfl
theorem TAb {a b:Nat} (h:a=b):Nat.beq a b=true:=by subst h;exact Nat.beq_refl _
theorem UAb {P:Int→Prop} (n:Int) (h:0≤n) (k:∀ m:Nat,n=(m:Int)→P (m:Int)):P n:=by
 have:=k n.toNat (by omega)
 rwa [show ((n.toNat:Nat):Int)=n by omega] at this
theorem VAb:bs (⟨#[]⟩:ByteArray)=[]:=rfl
def DY (l:List Int):Prop:=∀ n,n ∈ l→0≤n∧n≤255
theorem CZ {l:List Int} (h:DY l) (i:Nat):0≤l.getD i 0∧l.getD i 0≤255:=by
 by_cases hi:i<l.length
 ·rw [getD_at hi];exact h _ (List.getElem_mem hi)
 ·have:l.getD i 0=0:=by simp [List.getD,List.getElem?_eq_none (Nat.le_of_not_lt hi)]
  omega
theorem Xe (s:ByteArray):DY (bs s):=fun _ h=>DAU h
theorem Xv (s:ByteArray):bytesOf s=bs s:=rfl
theorem Eb {α:Type} {l:List α} {i:Nat} (h:i<l.length) (y d:α):(l.set i y).getD i d=y:=by simp [List.getD,h]
def sg0 (x:Int):Int:=xr (xr (rt 128 33554432 x) (rt 262144 16384 x)) (x / 8)
def sg1 (x:Int):Int:=xr (xr (rt 131072 32768 x) (rt 524288 8192 x)) (x / 1024)
def ep1 (x:Int):Int:=xr (xr (rt 64 67108864 x) (rt 2048 2097152 x)) (rt 33554432 128 x)
def ep0 (x:Int):Int:=xr (xr (rt 4 1073741824 x) (rt 8192 524288 x)) (rt 4194304 1024 x)
def FAU (w:List Int) (t:Nat):Int:=w32 (w32 (w32 (sg1 (w.getD (t - 2) 0)+w.getD (t - 7) 0)+sg0 (w.getD (t - 15) 0))+w.getD (t - 16) 0)
def sched (w:List Int):Nat→List Int
 | 0=>w
 | n+1=>sched w n++[FAU (sched w n) (16+n)]
theorem Yv {w:List Int} (h:w.length=16) (n:Nat):(sched w n).length=16+n:=by
 induction n with
 | zero=>exact h
 | succ n ih=>simp [sched,ih];omega
theorem Y1 {w:List Int} (h:∀ x ∈ w,R32 x) (n:Nat):∀ x ∈ sched w n,R32 x:=by
 induction n with
 | zero=>exact h
 | succ n ih=>
  intro x hx
  rw [sched,List.mem_append,List.mem_singleton] at hx
  rcases hx with hx | rfl
  ·exact ih x hx
  ·exact MZ _
theorem Zv {l:List Int} (h:∀ x ∈ l,R32 x) (i:Nat):R32 (l.getD i 0):=by
 by_cases hi:i<l.length
 ·rw [getD_at hi];exact h _ (List.getElem_mem hi)
 ·have:l.getD i 0=0:=by simp [List.getD,List.getElem?_eq_none (Nat.le_of_not_lt hi)]
  rw [this];unfold R32;omega
structure Reg where
 a:Int
 b:Int
 c:Int
 d:Int
 e:Int
 f:Int
 g:Int
 h:Int
def Reg.ok (r:Reg):Prop:=R32 r.a∧R32 r.b∧R32 r.c∧R32 r.d∧R32 r.e∧R32 r.f∧R32 r.g∧R32 r.h
def Reg.l (r:Reg):List Int:=[r.a,r.b,r.c,r.d,r.e,r.f,r.g,r.h]
theorem Reg.Aw (r:Reg):r.l.length=8:=rfl
def t1 (r:Reg) (k w:Int):Int:=w32 (w32 (w32 (w32 (r.h+ep1 r.e)+xr (an r.e r.f) (an (w32 (4294967295 - r.e)) r.g))+k)+w)
def t2 (r:Reg):Int:=w32 (ep0 r.a+xr (xr (an r.a r.b) (an r.a r.c)) (an r.b r.c))
def Ac (r:Reg) (k w:Int):Reg:=⟨w32 (t1 r k w+t2 r),r.a,r.b,r.c,w32 (r.d+t1 r k w),r.e,r.f,r.g⟩
theorem GAU {r:Reg} (h:r.ok) (k w:Int):(Ac r k w).ok:=⟨MZ _,h.1,h.2.1,h.2.2.1,MZ _,h.2.2.2.2.1,h.2.2.2.2.2.1,h.2.2.2.2.2.2.1⟩
def SY (K W:List Int) (r:Reg):Nat→Reg
 | 0=>r
 | n+1=>Ac (SY K W r n) (K.getD n 0) (W.getD n 0)
theorem NAK (K W:List Int) {r:Reg} (h:r.ok) (n:Nat):(SY K W r n).ok:=by
 induction n with
 | zero=>exact h
 | succ n ih=>exact GAU ih _ _
def Uh (s r:Reg):Reg:=⟨w32 (s.a+r.a),w32 (s.b+r.b),w32 (s.c+r.c),w32 (s.d+r.d),w32 (s.e+r.e),w32 (s.f+r.f),w32 (s.g+r.g),w32 (s.h+r.h)⟩
theorem HAU (s r:Reg):(Uh s r).ok:=⟨MZ _,MZ _,MZ _,MZ _,MZ _,MZ _,MZ _,MZ _⟩
def keysL:List Int:=[1116352408,1899447441,3049323471,3921009573,961987163,1508970993,2453635748,2870763221,3624381080,310598401,607225278,1426881987,1925078388,2162078206,2614888103,3248222580,3835390401,4022224774,264347078,604807628,770255983,1249150122,1555081692,1996064986,2554220882,2821834349,2952996808,3210313671,3336571891,3584528711,113926993,338241895,666307205,773529912,1294757372,1396182291,1695183700,1986661051,2177026350,2456956037,2730485921,2820302411,3259730800,3345764771,3516065817,3600352804,4094571909,275423344,430227734,506948616,659060556,883997877,958139571,1322822218,1537002063,1747873779,1955562222,2024104815,2227730452,2361852424,2428436474,2756734187,3204031479,3329325298]
def be4 (a b c d:Int):Int:=a*16777216+b*65536+c*256+d
def wordAt (l:List Int) (i:Nat):Int:=be4 (l.getD (4*i) 0) (l.getD (4*i+1) 0) (l.getD (4*i+2) 0) (l.getD (4*i+3) 0)
def YX (l:List Int) (n:Nat):List Int:=(List.range n).map (wordAt l)
theorem Ye (l:List Int) (n:Nat):(YX l n).length=n:=by simp [YX]
theorem OAK (l:List Int) (n:Nat):YX l (n+1)=YX l n++[wordAt l n]:=by simp [YX,List.range_succ]
theorem IAU {a b c d:Int} (ha:0≤a∧a≤255) (hb:0≤b∧b≤255) (hc:0≤c∧c≤255) (hd:0≤d∧d≤255):R32 (be4 a b c d):=by unfold R32 be4;omega
theorem JAU {l:List Int} (h:DY l) (i:Nat):R32 (wordAt l i):=IAU (CZ h _) (CZ h _) (CZ h _) (CZ h _)
theorem CAF {l:List Int} (h:DY l) (n:Nat):∀ x ∈ YX l n,R32 x:=by
 intro x hx
 simp only [YX,List.mem_map] at hx
 obtain ⟨i,_,rfl⟩:=hx
 exact JAU h i
def comp (s:Reg) (b:List Int):Reg:=Uh s (SY keysL (sched (YX b 16) 48) s 64)
theorem PAK (s:Reg) (b:List Int):(comp s b).ok:=HAU _ _
def comps:Nat→Reg→List Int→Reg
 | 0,s,_=>s
 | n+1,s,b=>comps n (comp s (b.take 64)) (b.drop 64)
theorem Vh {s:Reg} (h:s.ok):∀ (n:Nat) (b:List Int),(comps n s b).ok:=by
 intro n
 induction n generalizing s with
 | zero=>intro b;exact h
 | succ n ih=>intro b;exact ih (PAK _ _) _
theorem QAK (n m:Nat):∀ (s:Reg) (b:List Int),comps (n+m) s b=comps m (comps n s b) (b.drop (64*n)):=by
 induction n with
 | zero=>intro s b;simp [comps]
 | succ n ih=>
  intro s b
  rw [Nat.add_right_comm,comps,comps,ih,List.drop_drop]
  congr 2
  omega
theorem KAU (n:Nat):∀ (s:Reg) (b c:List Int),64*n≤b.length→comps n s (b++c)=comps n s b:=by
 induction n with
 | zero=>intro s b c _;rfl
 | succ n ih=>
  intro s b c h
  rw [comps,comps,List.take_append_of_le_length (by omega),List.drop_append_of_le_length (by omega),ih _ _ _ (by simp;omega)]
def four (x:Int):List Int:=[x / 16777216,x / 65536 % 256,x / 256 % 256,x % 256]
theorem Yj {x:Int} (h:R32 x):DY (four x):=by
 intro n hn
 unfold R32 at h
 simp only [four,List.mem_cons,List.not_mem_nil,or_false] at hn
 rcases hn with rfl | rfl | rfl | rfl <;> omega
def CV (ws:List Int):List Int:=ws.flatMap four
theorem Zj (ws:List Int):(CV ws).length=4*ws.length:=by
 induction ws with
 | nil=>rfl
 | cons w ws ih=>
  rw [show CV (w::ws)=four w++CV ws from rfl,List.length_append,ih]
  simp only [four,List.length_cons,List.length_nil];omega
theorem DAF {ws:List Int} (h:∀ x ∈ ws,R32 x):DY (CV ws):=by
 intro n hn
 simp only [CV,List.mem_flatMap] at hn
 obtain ⟨x,hx,hn⟩:=hn
 exact Yj (h x hx) n hn
theorem RAK (a b:List Int):CV (a++b)=CV a++CV b:=by simp [CV]
theorem LAU {x:Int} (h:R32 x):be4 (x / 16777216) (x / 65536 % 256) (x / 256 % 256) (x % 256)=x:=by unfold R32 at h;unfold be4;omega
theorem SAK:∀ {ws:List Int} (_:∀ x ∈ ws,R32 x) {i:Nat} (hi:i<ws.length),wordAt (CV ws) i=ws[i]
 | w::ws,h,0,_=>by
  have:=LAU (h w (List.mem_cons_self ..))
  simpa [wordAt,CV,four] using this
 | w::ws,h,i+1,hi=>by
  have ih:=SAK (ws:=ws) (fun x hx=>h x (List.mem_cons_of_mem _ hx)) (i:=i) (by simpa using hi)
  rw [List.getElem_cons_succ,←ih]
  have e:∀ j,(CV (w::ws)).getD (j+4) 0=(CV ws).getD j 0:=fun j=>by simp [CV,four,List.getD]
  unfold wordAt
  rw [show 4*(i+1)=4*i+4 by omega,show 4*i+4+1=(4*i+1)+4 by omega,show 4*i+4+2=(4*i+2)+4 by omega,show 4*i+4+3=(4*i+3)+4 by omega,e,e,e,e]
theorem MAU {ws:List Int} (h:∀ x ∈ ws,R32 x):YX (CV ws) ws.length=ws:=by
 apply List.ext_getElem
 ·rw [Ye]
 ·intro i h1 h2
  simp only [YX,List.getElem_map,List.getElem_range]
  exact SAK h h2
theorem Reg.Wh {r:Reg} (h:r.ok):∀ x ∈ r.l,R32 x:=by
 intro x hx
 simp only [Reg.l,List.mem_cons,List.not_mem_nil,or_false] at hx
 obtain ⟨h1,h2,h3,h4,h5,h6,h7,h8⟩:=h
 rcases hx with rfl | rfl | rfl | rfl | rfl | rfl | rfl | rfl <;> assumption
def Va:Reg:=⟨1779033703,3144134277,1013904242,2773480762,1359893119,2600822924,528734635,1541459225⟩
theorem Uf:Va.ok:=by unfold Reg.ok R32 Va;decide
def Bc (n:Int):List Int:=[0,0,0,n / 4294967296 % 256,n / 16777216 % 256,n / 65536 % 256,n / 256 % 256,n % 256]
def AY (n:Nat):List Int:=128::(List.replicate ((119 - n % 64) % 64) 0++Bc (8*(n:Int)))
theorem U2 (n:Nat):(AY n).length=9+(119 - n % 64) % 64:=by simp [AY,Bc];omega
theorem NAU (n:Nat):(n+(AY n).length) % 64=0:=by rw [U2];omega
theorem EAF (n:Nat):DY (AY n):=by
 intro x hx
 simp only [AY,Bc,List.mem_cons,List.mem_append,List.mem_replicate,List.not_mem_nil,or_false] at hx
 omega
def Aa (b:List Int):List Int:=CV (comps ((b.length+(AY b.length).length) / 64) Va (b++AY b.length)).l
def EY (s:ByteArray):ByteArray:=ofBytes (Aa (bs s))
theorem FAF (b:List Int):(Aa b).length=32:=by rw [Aa,Zj];rfl
theorem TAK (b:List Int):DY (Aa b):=DAF (Reg.Wh (Vh Uf _ _))
theorem Xc (s:ByteArray):(EY s).size=32:=by rw [EY,ofBytes_size,FAF]
theorem Y2 (s:ByteArray):bs (EY s)=Aa (bs s):=SN (TAK _)
theorem OAU {x:Int} (h:R32 x):[w8 (w32 (x.tdiv 16777216)),w8 ((w32 (x.tdiv 65536)).tmod 256),w8 ((w32 (x.tdiv 256)).tmod 256),w8 (x.tmod 256)]=four x:=by
 obtain ⟨h1,h2⟩:=h
 rw [Int.tdiv_eq_ediv_of_nonneg h1,Int.tdiv_eq_ediv_of_nonneg h1,Int.tdiv_eq_ediv_of_nonneg h1,Int.tmod_eq_emod_of_nonneg h1]
 rw [OZ (n:=x / 16777216) (by omega) (by omega),OZ (n:=x / 65536) (by omega) (by omega),OZ (n:=x / 256) (by omega) (by omega)]
 rw [Int.tmod_eq_emod_of_nonneg (by omega),Int.tmod_eq_emod_of_nonneg (by omega)]
 simp only [four,w8_mod,List.cons.injEq,and_true]
 omega
theorem GAF {ws:List Int} (h:∀ x ∈ ws,R32 x) (hl:ws.length≤1000000000000):Za ws=some (ofBytes (CV ws)):=by
 have key:=loopN (A:=Unit) (n:=ws.length) (Lp:=Wl) (st:=fun i _=>.c0 ws (i:Int) (CV (ws.take i))) (Inv:=fun _ _=>True) (out:=fun _ _=>some (ofBytes (CV ws)))
  (fun m _ _=>by
   simp only [Wl,Jw]
   rw [IK (by simp),List.take_length])
  (fun m i _ hi _=>.inr ⟨(),by
   have e:w64 ((i:Int)+1)=((i+1:Nat):Int):=by rw [w64_id (by omega) (by omega)];rfl
   simp only [Wl,Jw,e,Int.toNat_natCast]
   rw [TB (by simp;omega),TB (by simp;omega),TB (by rw [Zj,List.length_take];simp;omega)]
   rw [getD_at hi,OAU (h _ (List.getElem_mem hi)),take_at hi,RAK]
   simp [CV],trivial,rfl⟩)
 exact key gas 0 () (Nat.zero_le _) (gas_lt (by omega)) trivial
def Ze:SHasher:=⟨ofBytes (CV Va.l),⟨#[]⟩,0⟩
theorem PAU:Yl=some Ze:=by
 have h:=GAF (ws:=Va.l) (Reg.Wh Uf) (by decide)
 have e:Iw=some Va.l:=rfl
 simp only [Yl,F6,e,h,Option.bind_some]
 rfl
def NM (x a b:Int):Bool:=decide (a≤x) && decide (x≤b)
theorem ZX {x a b:Int}:NM x a b=true↔a≤x∧x≤b:=by simp [NM]
theorem Yc (x a b:Int):CY x a b=some (NM x a b):=by
 show (bif decide (a≤x) then some (decide (x≤b)) else some false)=some (NM x a b)
 unfold NM;cases decide (a≤x) <;> rfl
theorem UAK {h:SHasher} (h1:h.fState.size=32) (h2:h.fRest.size<64) (h3:0≤h.fCount∧h.fCount≤1000000000) (h4:h.fCount % 64=(h.fRest.size:Int)):La h=some true:=by
 have e:NM h.fCount 0 1000000000=true:=by rw [ZX];omega
 simp only [La,G6,Yc,Option.bind_some,e]
 rw [TB (by simp;omega),TB (by simp;omega),cond_true,Int.tmod_eq_emod_of_nonneg h3.1,h4]
 simp
theorem QAU {s:ByteArray} {i:Nat} (h:4*i+4≤s.size) (hs:s.size≤9000000000000000000):Fg s ((4*i:Nat):Int)=some (wordAt (bs s) i):=by
 have hb:=Xe s
 have e1:w64 (((4*i:Nat):Int)+1)=((4*i+1:Nat):Int):=by rw [w64_id (by omega) (by omega)];rfl
 have e2:w64 (((4*i:Nat):Int)+2)=((4*i+2:Nat):Int):=by rw [w64_id (by omega) (by omega)];rfl
 have e3:w64 (((4*i:Nat):Int)+3)=((4*i+3:Nat):Int):=by rw [w64_id (by omega) (by omega)];rfl
 simp only [Fg,H6,e1,e2,e3]
 rw [TB (by simp;omega),TB (by simp;omega),TB (by simp;omega),TB (by simp;omega)]
 rw [Yb (by omega),Yb (by omega),Yb (by omega),Yb (by omega)]
 have b0:=CZ hb (4*i)
 have b1:=CZ hb (4*i+1)
 have b2:=CZ hb (4*i+2)
 have b3:=CZ hb (4*i+3)
 unfold wordAt be4
 simp only [Rh]
 congr 1
 omega
theorem VAK {s:ByteArray} (hs:s.size≤1000000000000):NZ s=some (YX (bs s) (s.size / 4)):=by
 have key:=loopN (A:=Unit) (n:=s.size / 4) (Lp:=Am) (st:=fun i _=>.c0 s ((4*i:Nat):Int) (YX (bs s) i)) (Inv:=fun _ _=>True) (out:=fun _ _=>some (YX (bs s) (s.size / 4)))
  (fun m _ _=>by
   simp only [Am,Qw]
   rw [w64_id (by omega) (by omega),IK (by simp;omega)])
  (fun m i _ hi _=>.inr ⟨(),by
   have e:w64 (((4*i:Nat):Int)+4)=((4*(i+1):Nat):Int):=by rw [w64_id (by omega) (by omega)];omega
   simp only [Am,Qw,e,QAU (s:=s) (i:=i) (by omega) (by omega),Option.bind_some,Ye,OAK]
   rw [TB (by simp;omega),TB (by simp;omega)],trivial,rfl⟩)
 exact key gas 0 () (Nat.zero_le _) (gas_lt (by omega)) trivial
theorem Ad {x low high:Int} (h:R32 x) (hl:0<low) (hh:0<high) (hlh:low*high=4294967296):Cm x low high=some (rt low high x):=by
 have hr:=BAU h hl hh hlh
 obtain ⟨h1,h2⟩:=h
 have e0:(!(low == 0))=true:=by simp;omega
 have d1:0≤x / low:=Int.ediv_nonneg h1 (by omega)
 have d2:0≤x % low*high:=Int.mul_nonneg (Int.emod_nonneg _ (by omega)) (by omega)
 unfold R32 rt at hr
 simp only [Cm,O6,e0,cond_true,Int.tdiv_eq_ediv_of_nonneg h1,Int.tmod_eq_emod_of_nonneg h1]
 rw [OZ d1 (by omega),OZ d2 (by omega),OZ (by omega) (by omega)]
 rfl
theorem RAU {x:Int} (h:R32 x):Na x 131072 524288 1024 true=some (sg1 x):=by
 have e1:w32 (w32 ((2147483648:Int).tdiv 131072)*2)=32768:=by decide
 have e2:w32 (w32 ((2147483648:Int).tdiv 524288)*2)=8192:=by decide
 have e3:w32 (x.tdiv 1024)=x / 1024:=by
  obtain ⟨h1,h2⟩:=h
  rw [Int.tdiv_eq_ediv_of_nonneg h1,OZ (by omega) (by omega)]
 simp only [Na,Ti,e1,e2,e3,Ad h (low:=131072) (high:=32768) (by omega) (by omega) (by omega),Ad h (low:=524288) (high:=8192) (by omega) (by omega) (by omega),Option.bind_some,Xb]
 rfl
theorem SAU {x:Int} (h:R32 x):Na x 128 262144 8 true=some (sg0 x):=by
 have e1:w32 (w32 ((2147483648:Int).tdiv 128)*2)=33554432:=by decide
 have e2:w32 (w32 ((2147483648:Int).tdiv 262144)*2)=16384:=by decide
 have e3:w32 (x.tdiv 8)=x / 8:=by
  obtain ⟨h1,h2⟩:=h
  rw [Int.tdiv_eq_ediv_of_nonneg h1,OZ (by omega) (by omega)]
 simp only [Na,Ti,e1,e2,e3,Ad h (low:=128) (high:=33554432) (by omega) (by omega) (by omega),Ad h (low:=262144) (high:=16384) (by omega) (by omega) (by omega),Option.bind_some,Xb]
 rfl
theorem TAU {x:Int} (h:R32 x):Na x 64 2048 33554432 false=some (ep1 x):=by
 have e1:w32 (w32 ((2147483648:Int).tdiv 64)*2)=67108864:=by decide
 have e2:w32 (w32 ((2147483648:Int).tdiv 2048)*2)=2097152:=by decide
 have e3:w32 (w32 ((2147483648:Int).tdiv 33554432)*2)=128:=by decide
 simp only [Na,Ti,e1,e2,e3,Ad h (low:=64) (high:=67108864) (by omega) (by omega) (by omega),Ad h (low:=2048) (high:=2097152) (by omega) (by omega) (by omega),Ad h (low:=33554432) (high:=128) (by omega) (by omega) (by omega),Option.bind_some,Xb]
 rfl
theorem UAU {x:Int} (h:R32 x):Na x 4 8192 4194304 false=some (ep0 x):=by
 have e1:w32 (w32 ((2147483648:Int).tdiv 4)*2)=1073741824:=by decide
 have e2:w32 (w32 ((2147483648:Int).tdiv 8192)*2)=524288:=by decide
 have e3:w32 (w32 ((2147483648:Int).tdiv 4194304)*2)=1024:=by decide
 simp only [Na,Ti,e1,e2,e3,Ad h (low:=4) (high:=1073741824) (by omega) (by omega) (by omega),Ad h (low:=8192) (high:=524288) (by omega) (by omega) (by omega),Ad h (low:=4194304) (high:=1024) (by omega) (by omega) (by omega),Option.bind_some,Xb]
 rfl
theorem WAK (s r:Reg):∀ i,i<8→(Uh s r).l.getD i 0=w32 (s.l.getD i 0+r.l.getD i 0)
 | 0,_=>rfl | 1,_=>rfl | 2,_=>rfl | 3,_=>rfl | 4,_=>rfl | 5,_=>rfl | 6,_=>rfl | 7,_=>rfl
 | n+8,h=>by omega
theorem WAb (n:Nat) (h:n<9223372036854775807):∃ m,gas=m+n:=⟨gas - n,by have:=gas_lt h;omega⟩
theorem VAU (s r:Reg):∀ (j i m:Nat),i+j=8→ZY (m+j+1) (.c3 s.l (i:Int) r.l ((Uh s r).l.take i))=some (Uh s r).l:=by
 intro j
 induction j with
 | zero=>
  intro i m h
  obtain rfl:i=8:=by omega
  simp only [ZY,Nc]
  rfl
 | succ j ih=>
  intro i m h
  have e:w64 ((i:Int)+1)=((i+1:Nat):Int):=by rw [w64_id (by omega) (by omega)];rfl
  have hl:∀ q:Reg,q.l.length=8:=fun _=>rfl
  rw [show m+(j+1)+1=(m+j+1)+1 by omega]
  simp only [ZY,Nc,e,Int.toNat_natCast]
  rw [TB (by simp;omega),TB (by simp [hl];omega),TB (by simp [hl];omega),TB (by simp [hl];omega)]
  have h3:=ih (i+1) m (by omega)
  rw [take_at (by rw [hl];omega),←getD_at (by rw [hl];omega) 0,WAK _ _ _ (by omega)] at h3
  exact h3
def shL:Nat→List Int→List Int
 | 0,v=>v
 | i+1,v=>shL i (v.set (i+1) (v.getD i 0))
theorem WAU (t o W:List Int) (k T1 T2:Int) (hk:0≤k∧k<64):∀ (i m:Nat) (v:List Int),i<8→v.length=8→ZY (m+i+1) (.c2 t o k T1 T2 (i:Int) W v)=ZY m (.c1 t o (k+1) W (((shL i v).set 4 (w32 ((shL i v).getD 4 0+T1))).set 0 (w32 (T1+T2)))):=by
 intro i
 induction i with
 | zero=>
  intro m v _ hl
  have e:w64 (k+1)=k+1:=w64_id (by omega) (by omega)
  simp only [ZY,Nc,e]
  rw [IK (by simp),TB (by simp [hl]),TB (by simp [hl]),TB (by simp [hl])]
  rfl
 | succ i ih=>
  intro m v hi hl
  have e:w64 (((i+1:Nat):Int) - 1)=(i:Int):=by rw [w64_id (by omega) (by omega)];omega
  rw [show m+(i+1)+1=(m+i+1)+1 by omega]
  rw [ZY]
  simp only [Nc,e,Int.toNat_natCast]
  rw [TB (by simp;try omega),TB (by simp [hl];try omega),TB (by simp [hl];try omega),ih m _ (by omega) (by simp [hl])]
  rfl
theorem XAU (t W:List Int) (r:Reg) (hr:r.ok) (hW:∀ x ∈ W,R32 x) (hWl:W.length=64) (i m:Nat) (hi:i<64) :
  ZY (m+9) (.c1 t keysL (i:Int) W r.l)=ZY m (.c1 t keysL ((i:Int)+1) W (Ac r (keysL.getD i 0) (W.getD i 0)).l):=by
 obtain ⟨h1,h2,h3,h4,h5,h6,h7,h8⟩:=hr
 have hk:keysL.length=64:=rfl
 have g (q:Reg):q.l.getD 0 0=q.a∧q.l.getD 1 0=q.b∧q.l.getD 2 0=q.c∧q.l.getD 4 0=q.e∧q.l.getD 5 0=q.f∧q.l.getD 6 0=q.g∧q.l.getD 7 0=q.h:=⟨rfl,rfl,rfl,rfl,rfl,rfl,rfl⟩
 obtain ⟨g0,g1,g2,g4,g5,g6,g7⟩:=g r
 have hl:r.l.length=8:=rfl
 have z4:(4:Int).toNat=4:=rfl
 have z5:(5:Int).toNat=5:=rfl
 have z6:(6:Int).toNat=6:=rfl
 have z7:(7:Int).toNat=7:=rfl
 have z0:(0:Int).toNat=0:=rfl
 have z1:(1:Int).toNat=1:=rfl
 have z2:(2:Int).toNat=2:=rfl
 rw [show m+9=(m+7+1)+1 by omega,ZY]
 simp only [Nc,z0,z1,z2,z4,z5,z6,z7,g0,g1,g2,g4,g5,g6,g7,hl,hk,hWl,TAU h5,UAU h1,Option.bind_some,Xb,BAF,Int.toNat_natCast]
 rw [TB (by simp;omega),TB (by simp),TB (by simp),TB (by simp),TB (by simp),TB (by simp;omega),TB (by simp;omega),TB (by simp),TB (by simp),TB (by simp),TB (by simp),TB (by simp),TB (by simp),TB (by simp)]
 exact WAU t keysL W (i:Int) (t1 r (keysL.getD i 0) (W.getD i 0)) (t2 r) (by omega) 7 m r.l (by omega) rfl
theorem YAU (s:Reg) (hs:s.ok) (W:List Int) (hW:∀ x ∈ W,R32 x) (hWl:W.length=64):∀ (j i m:Nat),i+j=64→ZY (m+9*j+10) (.c1 s.l keysL (i:Int) W (SY keysL W s i).l)=some (Uh s (SY keysL W s 64)).l:=by
 intro j
 induction j with
 | zero=>
  intro i m h
  obtain rfl:i=64:=by omega
  rw [show m+9*0+10=(m+8+1)+1 by omega,ZY]
  simp only [Nc]
  rw [IK (by simp)]
  exact VAU s _ 8 0 m (by omega)
 | succ j ih=>
  intro i m h
  rw [show m+9*(j+1)+10=(m+9*j+10)+9 by omega,XAU s.l W _ (NAK keysL W hs i) hW hWl i _ (by omega)]
  exact ih (i+1) m (by omega)
theorem ZAU (s:Reg) (hs:s.ok) (w:List Int) (hw:∀ x ∈ w,R32 x) (hwl:w.length=16):∀ (j i m:Nat),i+j=48→ZY (m+9*64+10+1+j) (.c0 s.l keysL ((16+i:Nat):Int) (sched w i))=some (Uh s (SY keysL (sched w 48) s 64)).l:=by
 intro j
 induction j with
 | zero=>
  intro i m h
  obtain rfl:i=48:=by omega
  rw [show m+9*64+10+1+0=(m+9*64+10)+1 by omega,ZY]
  simp only [Nc]
  rw [IK (by simp),TB (by simp [Reg.l])]
  exact YAU s hs _ (Y1 hw 48) (Yv hwl 48) 64 0 m (by omega)
 | succ j ih=>
  intro i m h
  have hl:=Yv hwl i
  have hr:=Y1 hw i
  have e2:w64 (((16+i:Nat):Int) - 2)=((16+i - 2:Nat):Int):=by rw [w64_id (by omega) (by omega)];omega
  have e7:w64 (((16+i:Nat):Int) - 7)=((16+i - 7:Nat):Int):=by rw [w64_id (by omega) (by omega)];omega
  have e15:w64 (((16+i:Nat):Int) - 15)=((16+i - 15:Nat):Int):=by rw [w64_id (by omega) (by omega)];omega
  have e16:w64 (((16+i:Nat):Int) - 16)=((16+i - 16:Nat):Int):=by rw [w64_id (by omega) (by omega)];omega
  have e1:w64 (((16+i:Nat):Int)+1)=((16+(i+1):Nat):Int):=by rw [w64_id (by omega) (by omega)];omega
  rw [show m+9*64+10+1+(j+1)=(m+9*64+10+1+j)+1 by omega,ZY]
  simp only [Nc,e1,e2,e7,e15,e16,Int.toNat_natCast,hl,RAU (Zv hr _),SAU (Zv hr _),Option.bind_some]
  rw [TB (by simp;omega),TB (by simp;omega),TB (by simp;omega),TB (by simp;omega),TB (by simp;omega),TB (by simp;omega)]
  exact ih (i+1) m (by omega)
theorem XAK {s:Reg} (hs:s.ok) {b:ByteArray} (hb:b.size=64):Jb s.l keysL b=some (comp s (bs b)).l:=by
 have hr:=CAF (Xe b) 16
 obtain ⟨m,hm⟩:∃ m,gas=m+9*64+10+1+48:=⟨gas - 635,by have:=gas_lt (n:=635) (by omega);omega⟩
 have h:=ZAU s hs _ hr (Ye _ 16) 48 0 m (by omega)
 have e0:((16+0:Nat):Int)=16:=rfl
 rw [e0,show sched (YX (bs b) 16) 0=YX (bs b) 16 from rfl] at h
 rw [Jb,P6,VAK (s:=b) (by omega),Option.bind_some,hb,hm]
 exact h
theorem YAK:Mc=some keysL:=rfl
theorem AAV (b:List Int) (i:Nat):(b.take (64*i+64)).drop (64*i)=(b.drop (64*i)).take 64:=by
 rw [List.drop_take];congr 1;omega
theorem ZAK (i:Nat) (s:Reg) (b:List Int):comps (i+1) s b=comp (comps i s b) ((b.drop (64*i)).take 64):=by
 rw [QAK i 1];rfl
theorem AAL {r:Reg} (h:r.ok):NZ (ofBytes (CV r.l))=some r.l:=by
 have hs:(ofBytes (CV r.l)).size=32:=by rw [ofBytes_size,Zj];rfl
 rw [VAK (by omega),hs,SN (DAF (Reg.Wh h))]
 exact congrArg some (MAU (Reg.Wh h))
theorem BAV {s:ByteArray} (hs:s.size≤1000000000):Lm Ze s=some ⟨ofBytes (CV (comps (s.size / 64) Va (bs s)).l),s.extract (64*(s.size / 64)) s.size,(s.size:Int)⟩:=by
 have e0:La Ze=some true:=UAK (by rw [Ze,ofBytes_size,Zj];rfl) (by decide) (by decide) (by decide)
 have e1:((⟨#[]⟩:ByteArray)++s)=s:=YZ (by rw [LY];rfl)
 have key:=loopN (A:=Unit) (n:=s.size / 64) (Lp:=Jm) (st:=fun i _=>.c0 s s ((64*i:Nat):Int) Ze (⟨(⟨#[]⟩:ByteArray),(⟨#[]⟩:ByteArray),(0:Int)⟩:SHasher) (comps i Va (bs s)).l keysL) (Inv:=fun _ _=>True)
  (out:=fun _ _=>some ⟨ofBytes (CV (comps (s.size / 64) Va (bs s)).l),s.extract (64*(s.size / 64)) s.size,(s.size:Int)⟩)
  (fun m _ _=>by
   have hw:w64 (Ze.fCount+(s.size:Int))=(s.size:Int):=by
    show w64 ((0:Int)+(s.size:Int))=_
    rw [Int.zero_add,w64_id (by omega) (by omega)]
   rw [Jm]
   simp only [Xw,hw,Int.toNat_natCast]
   rw [w64_id (by omega) (by omega),IK (by simp;omega),GAF (Reg.Wh (Vh Uf _ _)) (by simp [Reg.l]),Option.bind_some,TB (by simp;omega)])
  (fun m i _ hi _=>.inr ⟨(),by
   have e:w64 (((64*i:Nat):Int)+64)=((64*(i+1):Nat):Int):=by rw [w64_id (by omega) (by omega)];omega
   rw [Jm]
   simp only [Xw,e,Int.toNat_natCast]
   rw [TB (by simp;omega),TB (by simp;omega),XAK (Vh Uf _ _) (by simp;omega),Option.bind_some,Uc,show 64*(i+1)=64*i+64 by omega,AAV,←ZAK],trivial,rfl⟩)
 rw [Lm,V6,e0,Option.bind_some,IK (by rfl)]
 have hw:w64 (Ze.fCount+(s.size:Int))=(s.size:Int):=by
  show w64 ((0:Int)+(s.size:Int))=_
  rw [Int.zero_add,w64_id (by omega) (by omega)]
 rw [hw,IK (by simp;omega),show Ze.fState=ofBytes (CV Va.l) from rfl,AAL Uf,Option.bind_some,YAK,Option.bind_some,show Ze.fRest=⟨#[]⟩ from rfl,e1]
 rw [TB (by (have:(⟨#[]⟩:ByteArray).size=0:=rfl);simp only [this,decide_eq_true_eq];omega)]
 exact key gas 0 () (Nat.zero_le _) (gas_lt (by omega)) trivial
def Xh (b:Int):Nat→List Int
 | 0=>[]
 | i+1=>(b / 256 ^ i % 256)::Xh b i
def Bd:Nat→Nat
 | 0=>0
 | i+1=>Bd i+(i+2)
theorem CAV (x:Int) (j:Nat):x / 256 / 256 ^ j=x / 256 ^ (j+1):=by
 rw [Int.ediv_ediv_of_nonneg (by omega)]
 congr 1
 rw [Int.pow_succ,Int.mul_comm]
theorem DAV (h:SHasher) (b:Int):∀ (j k i m:Nat) (x:Int) (t:List Int),k+j=i→i≤7→0≤x→x≤9223372036854775807→t.length≤1000→
  AZ (m+j+1) (.c2 b (i:Int) x (k:Int) h t)=AZ m (.c1 b ((i:Int) - 1) h (t++[x / 256 ^ j % 256])):=by
 intro j
 induction j with
 | zero=>
  intro k i m x t hk hi hx hx2 ht
  have e:w64 ((i:Int) - 1)=(i:Int) - 1:=w64_id (by omega) (by omega)
  have e2:w8 (x.tmod 256)=x % 256:=by rw [Int.tmod_eq_emod_of_nonneg hx,w8_id (by omega) (by omega)]
  rw [AZ]
  simp only [Oc,e,e2]
  rw [IK (by simp;omega),TB (by simp;omega),Int.pow_zero,Int.ediv_one]
 | succ j ih=>
  intro k i m x t hk hi hx hx2 ht
  have e:w64 ((k:Int)+1)=((k+1:Nat):Int):=by rw [w64_id (by omega) (by omega)];rfl
  have e2:w64 (x.tdiv 256)=x / 256:=by rw [Int.tdiv_eq_ediv_of_nonneg hx,w64_id (by omega) (by omega)]
  rw [show m+(j+1)+1=(m+j+1)+1 by omega,AZ]
  simp only [Oc,e,e2]
  rw [TB (by simp;omega),ih (k+1) i m (x / 256) t (by omega) hi (by omega) (by omega) ht,CAV]
theorem EAV (h:SHasher) (b:Int) (hb:0≤b) (hb2:b≤9223372036854775807):∀ (i m:Nat) (t:List Int),i≤8→t.length+i≤900→AZ (m+Bd i) (.c1 b ((i:Int) - 1) h t)=AZ m (.c1 b (-1) h (t++Xh b i)):=by
 intro i
 induction i with
 | zero=>intro m t _ _;simp [Bd,Xh]
 | succ i ih=>
  intro m t hi ht
  rw [Bd,show m+(Bd i+(i+2))=(m+Bd i)+i+1+1 by omega,AZ,show ((i+1:Nat):Int) - 1=(i:Int) by omega]
  simp only [Oc]
  rw [TB (by simp),show (0:Int)=((0:Nat):Int) from rfl,DAV h b i 0 i _ b t (by omega) (by omega) hb hb2 (by omega),ih m _ (by omega) (by simp;omega)]
  simp [Xh]
theorem FAV {b:Int} (h:0≤b) (h2:b<1099511627776):Xh b 8=Bc b:=by
 simp only [Xh,Bc,List.cons.injEq,and_true]
 omega
theorem GAV (r:Reg) (hr:r.ok) (t:List Int) (ht:DY t) (n:Nat) (hn:t.length=64*n) (hn2:n≤100):∀ (j i m:Nat),i+j=n→AZ (m+j+1) (.c3 ((64*i:Nat):Int) t (comps i r t).l keysL)=some (ofBytes (CV (comps n r t).l)):=by
 intro j
 induction j with
 | zero=>
  intro i m h
  obtain rfl:i=n:=by omega
  rw [AZ]
  simp only [Oc]
  rw [IK (by simp;omega),GAF (Reg.Wh (Vh hr _ _)) (by simp [Reg.l]),Option.bind_some]
 | succ j ih=>
  intro i m h
  have e:w64 (((64*i:Nat):Int)+64)=((64*(i+1):Nat):Int):=by rw [w64_id (by omega) (by omega)];omega
  have hl:((t.drop (64*i)).take (64*(i+1) - 64*i)).length=64:=by rw [List.length_take,List.length_drop];omega
  have hby:DY ((t.drop (64*i)).take (64*(i+1) - 64*i)):=fun x hx=>ht x (List.mem_of_mem_drop (List.mem_of_mem_take hx))
  rw [show m+(j+1)+1=(m+j+1)+1 by omega,AZ]
  simp only [Oc,e,Int.toNat_natCast]
  rw [TB (by simp;omega),TB (by simp;omega),XAK (Vh hr _ _) (by rw [ofBytes_size,hl]),Option.bind_some,SN hby,show 64*(i+1) - 64*i=64 by omega,←ZAK]
  exact ih (i+1) m (by omega)
theorem HAV (h:SHasher) (r:List Int) (hr:r.length<64):∀ (j i m:Nat),i+j=(119 - r.length) % 64→AZ (m+j+1) (.c0 h (r++128::List.replicate i 0))=AZ m (.c1 (w64 (8*h.fCount)) 7 h (r++128::List.replicate ((119 - r.length) % 64) 0)):=by
 intro j
 induction j with
 | zero=>
  intro i m hi
  rw [AZ]
  simp only [Oc]
  rw [IK (by rw [Int.tmod_eq_emod_of_nonneg (by omega)];simp;omega),show i=(119 - r.length) % 64 by omega]
 | succ j ih=>
  intro i m hi
  rw [show m+(j+1)+1=(m+j+1)+1 by omega,AZ]
  simp only [Oc]
  rw [TB (by rw [Int.tmod_eq_emod_of_nonneg (by omega)];simp;omega),TB (by simp;omega)]
  have e:(r++128::List.replicate i (0:Int))++[0]=r++128::List.replicate (i+1) 0:=by
   rw [List.replicate_succ'];simp
  rw [e]
  exact ih (i+1) m (by omega)
theorem IAV {r:Reg} (hr:r.ok) {s:ByteArray} {n:Nat} (hs:s.size=n % 64) (hn:n≤1000000000):Pm ⟨ofBytes (CV r.l),s,(n:Int)⟩=some (ofBytes (CV (comps ((s.size+(AY n).length) / 64) r (bs s++AY n)).l)):=by
 have e0:La ⟨ofBytes (CV r.l),s,(n:Int)⟩=some true:=UAK (by rw [ofBytes_size,Zj];rfl) (by simp only;omega) (by simp only;omega) (by simp only;omega)
 have hl:=bs_len s
 obtain ⟨m,hm⟩:∃ m,gas=((m+((s.size+(AY n).length) / 64)+1+1+Bd 8)+((119 - (bs s).length) % 64)+1):=⟨gas - (((s.size+(AY n).length) / 64)+1+1+Bd 8+((119 - (bs s).length) % 64)+1),by
  have:=gas_lt (n:=1000) (by omega)
  have h2:=U2 n
  have h3:Bd 8=44:=rfl
  omega⟩
 have hw:w64 (8*(n:Int))=8*(n:Int):=w64_id (by omega) (by omega)
 have hrep:(bs s++128::List.replicate ((119 - (bs s).length) % 64) 0)++Xh (8*(n:Int)) 8=bs s++AY n:=by
  rw [FAV (by omega) (by omega),AY,hl,hs,show (119 - n % 64) % 64=(119 - n % 64) % 64 from rfl]
  simp
 rw [Pm,Y6,e0,Option.bind_some,IK (by rfl),TB (by simp;omega),Xv,TB (by rw [hl];simp;omega),hm]
 have h0:=HAV ⟨ofBytes (CV r.l),s,(n:Int)⟩ (bs s) (by omega) ((119 - (bs s).length) % 64) 0 (m+((s.size+(AY n).length) / 64)+1+1+Bd 8) (by omega)
 rw [List.replicate_zero] at h0
 rw [h0,show (7:Int)=((8:Nat):Int) - 1 from rfl]
 simp only [hw]
 rw [EAV _ _ (by omega) (by omega) 8 _ _ (by omega) (by simp;omega),hrep,AZ]
 simp only [Oc]
 rw [IK (by simp),AAL hr,Option.bind_some,YAK,Option.bind_some]
 have hb:DY (bs s++AY n):=fun x hx=>by
  rcases List.mem_append.1 hx with hx | hx
  ·exact Xe s x hx
  ·exact EAF n x hx
 have hlen:(bs s++AY n).length=64*((s.size+(AY n).length) / 64):=by
  have:=NAU n
  rw [List.length_append,hl]
  omega
 exact GAV r hr _ hb _ hlen (by have:=U2 n;omega) ((s.size+(AY n).length) / 64) 0 m (by omega)
theorem JAV (b:List Int):comps ((b.length+(AY b.length).length) / 64) Va (b++AY b.length)=comps ((b.length % 64+(AY b.length).length) / 64) (comps (b.length / 64) Va b) (b.drop (64*(b.length / 64))++AY b.length):=by
 rw [show (b.length+(AY b.length).length) / 64=b.length / 64+(b.length % 64+(AY b.length).length) / 64 by omega,QAK,KAU _ _ _ _ (by omega),List.drop_append_of_le_length (by omega)]
theorem Ak {s:ByteArray} (hs:s.size≤1000000000):BZ s=some (EY s):=by
 have h1:(s.extract (64*(s.size / 64)) s.size).size=s.size % 64:=by simp;omega
 have h:=IAV (Vh Uf (s.size / 64) (bs s)) (s:=s.extract (64*(s.size / 64)) s.size) h1 hs
 rw [Uc,h1,List.take_of_length_le (by rw [bs_len];omega)] at h
 rw [BZ,D7,PAU,Option.bind_some,BAV hs,Option.bind_some,h,Option.bind_some,EY,Aa,JAV,bs_len]
theorem KAV {n:Nat} {x:Int} (h:n≤1000000000):Vm (n:Int) x=some (ofBytes (List.replicate n x)):=by
 have key:∀ (j i m:Nat),i+j=n→Um (m+j+1) (.c0 (n:Int) x (i:Int) (List.replicate i x++List.replicate (n - i) 0))=some (ofBytes (List.replicate n x)):=by
  intro j
  induction j with
  | zero=>
   intro i m hi
   obtain rfl:i=n:=by omega
   rw [Um]
   simp only [Yw]
   rw [IK (by simp),Nat.sub_self,List.replicate_zero,List.append_nil]
  | succ j ih=>
   intro i m hi
   have e:w64 ((i:Int)+1)=((i+1:Nat):Int):=by rw [w64_id (by omega) (by omega)];rfl
   rw [show m+(j+1)+1=(m+j+1)+1 by omega,Um]
   simp only [Yw,e,Int.toNat_natCast]
   rw [TB (by simp;omega),TB (by simp;omega),show n - i=(n - (i+1))+1 by omega,List.replicate_succ,Zb (by simp)]
   have h2:=ih (i+1) m (by omega)
   rw [List.replicate_succ' (n:=i),List.append_assoc] at h2
   exact h2
 obtain ⟨m,hm⟩:∃ m,gas=m+n+1:=⟨gas - (n+1),by have:=gas_lt (n:=n+1) (by omega);omega⟩
 have h0:=key n 0 m (by omega)
 rw [List.replicate_zero,List.nil_append,Nat.sub_zero] at h0
 rw [Vm,G7,TB (by simp;omega),hm]
 exact h0
def Ba:SBook:=⟨EY ⟨#[]⟩,0,[],0,ofBytes (List.replicate 32 0),0⟩
theorem LAV:Xm=some Ba:=by
 rw [Xm,I7,Ak (by decide),Option.bind_some,show (32:Int)=((32:Nat):Int) from rfl,KAV (by omega),Option.bind_some];rfl
def FN (n:Int):List Int:=if n > 127 then (128+n % 128)::FN (n / 128) else [w8 n]
termination_by n.toNat
decreasing_by omega
theorem MAV:∀ (k:Nat) (n:Int),n<128 ^ k→(FN n).length≤max k 1:=by
 intro k
 induction k with
 | zero=>intro n h;rw [FN,if_neg (by omega)];simp
 | succ k ih=>
  intro n h
  rw [FN]
  split
  ·rename_i hn
   have h2:n / 128<128 ^ k:=by
    rw [Int.pow_succ] at h
    exact Int.ediv_lt_of_lt_mul (by omega) h
   have:=ih _ h2
   simp only [List.length_cons]
   by_cases hk:k=0
   ·subst hk;simp at h2;try omega
   ·omega
  ·simp;try omega
theorem UY {n:Int} (h:n≤9223372036854775807):(FN n).length≤10:=by
 have:=MAV 10 n (by (have:(128:Int) ^ 10=1180591620717411303424:=by decide);omega)
 omega
theorem XAb (n:Int):1≤(FN n).length:=by rw [FN];split <;> simp
theorem BAL {n:Int} (h:n > 127) (h2:n≤9223372036854775807):w64 (n.tdiv 128)=n / 128∧w8 (w64 (n.tmod 128+128))=128+n % 128∧w8 (w64 (128+n.tmod 128))=128+n % 128:=by
 have e1:n.tdiv 128=n / 128:=Int.tdiv_eq_ediv_of_nonneg (by omega)
 have e2:n.tmod 128=n % 128:=Int.tmod_eq_emod_of_nonneg (by omega)
 refine ⟨by rw [e1,w64_id (by omega) (by omega)],?_,?_⟩
 ·rw [e2,w64_id (by omega) (by omega),w8_id (by omega) (by omega)];omega
 ·rw [e2,w64_id (by omega) (by omega),w8_id (by omega) (by omega)]
theorem Vf {n:Int} (h:n≤9223372036854775807):LZ n=some (ofBytes (FN n)):=by
 have key:∀ (n:Int) (m:Nat) (out:List Int),n≤9223372036854775807→(FN n).length≤m→out.length+(FN n).length≤1000→Zm m (.c0 n out)=some (ofBytes (out++FN n)):=by
  intro n
  induction n using FN.induct with
  | case1 n hn ih=>
   intro m out h1 h2 h3
   rw [FN,if_pos hn] at h2 h3 ⊢
   simp only [List.length_cons] at h2 h3
   obtain ⟨m,rfl⟩:∃ k,m=k+1:=⟨m - 1,by omega⟩
   obtain ⟨e1,e2,_⟩:=BAL hn h1
   simp only [Zm,Zw,e1,e2]
   rw [show decide (n > 127)=true from decide_eq_true hn,show decide ((out.length+1)*1≤140737488355328)=true from decide_eq_true (by omega)]
   simp only [cond_true]
   rw [ih m _ (by omega) (by omega) (by simp;omega)]
   simp
  | case2 n hn=>
   intro m out h1 h2 h3
   rw [FN,if_neg hn] at h2 h3 ⊢
   simp at h2 h3
   obtain ⟨m,rfl⟩:∃ k,m=k+1:=⟨m - 1,by omega⟩
   simp only [Zm,Zw]
   rw [show decide (n > 127)=false from decide_eq_false hn,show decide ((out.length+1)*1≤140737488355328)=true from decide_eq_true (by omega)]
   rfl
 have hl:=UY h
 exact key n gas [] h (Nat.le_of_lt (gas_lt (by omega))) (by simp;omega)
def IY (x:SThing):Bool:=NM x.fId 1 1000 && NM x.fKind 1 3 && NM x.fNext 0 16 && ((x.fKind == 2) || ((x.fNext == 0) && !x.fSigns)) && ((x.fKind == 1) || !x.fWraps) && (bif x.fKind == 3 then decide ((x.fValue.size:Int)≤100) else (x.fValue.size:Int) == 32)
theorem CAL (x:SThing):Zd x=some (IY x):=by
 simp only [Zd,J7,Yc,Option.bind_some,IY,bne]
 cases NM x.fId 1 1000 <;> cases NM x.fKind 1 3 <;> cases NM x.fNext 0 16 <;> cases (x.fKind == 2) <;> cases (x.fKind == 1) <;> cases (x.fKind == 3) <;> cases (x.fNext == 0) <;> cases x.fSigns <;> cases x.fWraps <;> rfl
theorem Yh {x:SThing} (h:IY x=true):1≤x.fKind∧x.fKind≤3∧1≤x.fId∧x.fId≤1000∧0≤x.fNext∧x.fNext≤16∧x.fValue.size≤100:=by
 unfold IY at h
 simp only [Bool.and_eq_true] at h
 obtain ⟨⟨⟨⟨⟨h1,h2⟩,h3⟩,_⟩,_⟩,h4⟩:=h
 rw [ZX] at h1 h2 h3
 refine ⟨h2.1,h2.2,h1.1,h1.2,h3.1,h3.2,?_⟩
 cases hk:x.fKind == 3
 ·rw [hk] at h4;simp at h4;omega
 ·rw [hk] at h4;simp at h4;omega
theorem NAV (b:Bool) (n:Int):Dx b n=some (bif b then n else 0):=by cases b <;> rfl
theorem IAF {n:Int} (h:0≤n) (h2:n≤255):Ae n=some (ofBytes [n]):=by
 have e:n.tmod 256=n:=by rw [Int.tmod_eq_emod_of_nonneg h];omega
 simp only [Ae,P7,e]
 rw [show decide (n<0)=false from decide_eq_false (by omega),w8_id h h2]
 rfl
def Ed (s:ByteArray):ByteArray:=ofBytes (FN (s.size:Int))++s
theorem OAV {s:ByteArray} (h:s.size≤140737488351232):(Ed s).size≤s.size+10:=by
 unfold Ed;rw [ba_append_size,ofBytes_size];have:=UY (n:=(s.size:Int)) (by omega);omega
theorem PAV {s:ByteArray} (h:s.size≤140737488351232):Gn s=some (Ed s):=by
 simp only [Gn,V7,Vf (n:=(s.size:Int)) (by omega),Option.bind_some]
 have:=UY (n:=(s.size:Int)) (by omega)
 rw [show decide ((ofBytes (FN (s.size:Int))).size+s.size≤9223372036854775807)=true from decide_eq_true (by rw [ofBytes_size];omega)]
 rfl
def Zh (x:SThing):Int:=(bif x.fHidden then 1 else 0)+(bif x.fFixed then 2 else 0)+(bif x.fSigns then 4 else 0)+(bif x.fWraps then 8 else 0)
theorem DAL (x:SThing):0≤Zh x∧Zh x≤15:=by
 unfold Zh;cases x.fHidden <;> cases x.fFixed <;> cases x.fSigns <;> cases x.fWraps <;> decide
theorem QAV (m:Nat) (a b c d:Bool):LAB (m+5) (.c0 0 4 0 [a,b,c,d])=some ((bif a then 1 else 0)+(bif b then 2 else 0)+(bif c then 4 else 0)+(bif d then 8 else 0)):=by
 cases a <;> cases b <;> cases c <;> cases d <;> kernel_rfl
theorem RAV (x:SThing):Ar x=some (Zh x):=by
 obtain ⟨m,this⟩:∃ m,gas=m+5:=⟨gas - 5,rfl⟩
 unfold Ar KAB
 rw [this]
 exact QAV _ _ _ _ _
def J3 (x:SThing):ByteArray:=ofBytes (FN x.fId)++ofBytes [x.fKind]++ofBytes [Zh x]++Ed x.fValue++ofBytes (FN x.fNext)
def PZ (x:SThing):ByteArray×Bool:=bif IY x then (J3 x,true) else (⟨#[]⟩,false)
theorem JAF {x:SThing} (h:IY x=true):(ofBytes (FN x.fId)).size≤10∧(Ed x.fValue).size≤110∧(ofBytes (FN x.fNext)).size≤10:=by
 obtain ⟨_,_,_,h1,_,h2,h3⟩:=Yh h
 rw [ofBytes_size,ofBytes_size]
 have:=UY (n:=x.fId) (by omega)
 have:=UY (n:=x.fNext) (by omega)
 have:=OAV (s:=x.fValue) (by omega)
 omega
theorem EAL {x:SThing} (h:IY x=true):(J3 x).size≤200:=by
 obtain ⟨h1,h2,h3⟩:=JAF h
 unfold J3
 simp only [ba_append_size]
 have e1:∀ n:Int,(ofBytes [n]).size=1:=fun n=>ofBytes_size _
 rw [e1,e1];omega
theorem SAV (x:SThing):Pn x=some (PZ x):=by
 simp only [Pn,Y7,CAL,Option.bind_some,PZ]
 cases h:IY x
 ·rfl
 ·obtain ⟨k1,k2,k3,k4,k5,k6,k7⟩:=Yh h
  obtain ⟨z1,z2,z3⟩:=JAF h
  have hf:=DAL x
  have e1:∀ n:Int,(ofBytes [n]).size=1:=fun n=>ofBytes_size _
  have ef:w64 (w64 (w64 ((bif x.fHidden then (1:Int) else 0)+(bif x.fFixed then 2 else 0))+(bif x.fSigns then 4 else 0))+(bif x.fWraps then 8 else 0))=Zh x:=by
   unfold Zh;cases x.fHidden <;> cases x.fFixed <;> cases x.fSigns <;> cases x.fWraps <;> rfl
  simp only [NAV,Option.bind_some,ef,Vf (n:=x.fId) (by omega),IAF (n:=x.fKind) (by omega) (by omega),IAF hf.1 (by omega),PAV (s:=x.fValue) (by omega),Vf (n:=x.fNext) (by omega),ba_append_size,e1]
  simp only [Bool.not_true,cond_false,cond_true]
  rw [show decide ((ofBytes (FN x.fId)).size+1≤9223372036854775807)=true from decide_eq_true (by omega),show decide ((ofBytes (FN x.fId)).size+1+1≤9223372036854775807)=true from decide_eq_true (by omega),
   show decide ((ofBytes (FN x.fId)).size+1+1+(Ed x.fValue).size≤9223372036854775807)=true from decide_eq_true (by omega),show decide ((ofBytes (FN x.fId)).size+1+1+(Ed x.fValue).size+(ofBytes (FN x.fNext)).size≤9223372036854775807)=true from decide_eq_true (by omega)]
  rfl
def RY (x:SThing):Bool:=(x.fId == 0) && ((x.fKind == 0) && ((x.fHidden == false) && ((x.fFixed == false) && ((x.fSigns == false) && ((x.fWraps == false) && (((ByteArray.toList x.fValue) == (ByteArray.toList (⟨#[]⟩:ByteArray))) && ((x.fNext == 0) && true)))))))
theorem FAL (x:SThing):((x.fId == 0) && ((x.fKind == 0) && ((x.fHidden == false) && ((x.fFixed == false) && ((x.fSigns == false) && ((x.fWraps == false) && (((ByteArray.toList x.fValue) == (ByteArray.toList (⟨#[]⟩:ByteArray))) && ((x.fNext == 0) && true))))))))=RY x:=rfl
def TY (s:ByteArray):Bool:=(ByteArray.toList s) == (ByteArray.toList (⟨#[]⟩:ByteArray))
theorem GAL (s:ByteArray):((ByteArray.toList s) == (ByteArray.toList (⟨#[]⟩:ByteArray)))=TY s:=rfl
def noT:ByteArray×Bool:=((⟨#[]⟩:ByteArray),false)
def TT (r:SRec):ByteArray×Bool:=
 bif r.fKind == 1 then (bif (r.fText.size:Int) == 32 && r.fNum == 0 && RY r.fThing then (ofBytes [1]++r.fText,true) else noT)
 else bif r.fKind == 2 then (bif TY r.fText && RY r.fThing && NM r.fNum 0 3 then (ofBytes [2]++ofBytes (FN r.fNum),true) else noT)
 else bif r.fKind == 3 then (bif (PZ r.fThing).2 && TY r.fText && r.fNum == 0 then (ofBytes [3]++(PZ r.fThing).1,true) else noT)
 else bif r.fKind == 4 then (bif TY r.fText && RY r.fThing && NM r.fNum 1 1000 then (ofBytes [4]++ofBytes (FN r.fNum),true) else noT)
 else noT
theorem O3 {n a b:Int} (hb:b≤1000) (h:NM n a b=true) (k:Int):(ofBytes [k]).size+(ofBytes (FN n)).size≤9223372036854775807:=by
 rw [ZX] at h
 have:=UY (n:=n) (by omega)
 rw [ofBytes_size,ofBytes_size];simp only [List.length_singleton];omega
theorem HAL {x:SThing} (h:(PZ x).2=true) (k:Int):(ofBytes [k]).size+(PZ x).1.size≤9223372036854775807:=by
 unfold PZ at h ⊢
 cases ho:IY x
 ·rw [ho] at h;cases h
 ·have:=EAL ho
  rw [ofBytes_size];simp only [List.length_singleton,cond_true];omega
theorem IAL (r:SRec):Ce r=some (TT r):=by
 have h1:(⟨#[1]⟩:ByteArray)=ofBytes [1]:=rfl
 have h2:(⟨#[2]⟩:ByteArray)=ofBytes [2]:=rfl
 have h3:(⟨#[3]⟩:ByteArray)=ofBytes [3]:=rfl
 have h4:(⟨#[4]⟩:ByteArray)=ofBytes [4]:=rfl
 simp only [Ce,Z7,Yc,SAV,Option.bind_some,FAL,h1,h2,h3,h4]
 simp only [GAL,TT]
 cases r.fKind == 1
 ·simp only [cond_false]
  cases r.fKind == 2
  ·simp only [cond_false]
   cases r.fKind == 3
   ·simp only [cond_false]
    cases r.fKind == 4
    ·rfl
    ·cases TY r.fText <;> cases RY r.fThing <;> (try rfl)
     cases h:NM r.fNum 1 1000
     ·rfl
     ·have h':=h
      rw [ZX] at h'
      simp only [cond_true,Vf (n:=r.fNum) (by omega),Option.bind_some,Bool.and_self,decide_eq_true (O3 (by omega) h 4)]
   ·cases h:(PZ r.fThing).2
    ·rfl
    ·cases TY r.fText <;> cases r.fNum == 0 <;> (try rfl)
     simp only [cond_true,Bool.and_self,decide_eq_true (HAL h 3)]
  ·cases TY r.fText <;> cases RY r.fThing <;> (try rfl)
   cases h:NM r.fNum 0 3
   ·rfl
   ·have h':=h
    rw [ZX] at h'
    simp only [cond_true,Vf (n:=r.fNum) (by omega),Option.bind_some,Bool.and_self,decide_eq_true (O3 (by omega) h 2)]
 ·cases h:(r.fText.size:Int) == 32 <;> cases r.fNum == 0 <;> cases RY r.fThing <;> (try rfl)
  have h':r.fText.size=32:=by have:=beq_iff_eq.1 h;omega
  have e:(ofBytes [1]).size+r.fText.size≤9223372036854775807:=by rw [ofBytes_size];simp only [List.length_singleton];omega
  simp only [cond_true,Bool.and_self,decide_eq_true e]
def rise (last:Int):Int→List SThing→Bool
 | _,[]=>true
 | p,x::xs=>IY x && (!decide (x.fId > last) && (!decide (p≥x.fId) && rise last x.fId xs))
def Ea (l:List SThing):Nat→Int
 | 0=>0
 | i+1=>((l[i]?).map (·.fId)).getD 0
theorem KAF {l:List SThing} {i:Nat} (hi:i<l.length):Ea l (i+1)=l[i].fId:=by simp [Ea,hi]
theorem JAL {l:List SThing} {last:Int} {i:Nat} (hi:i<l.length):rise last (Ea l i) (l.drop i)=(IY l[i] && (!decide (l[i].fId > last) && (!decide (Ea l i≥l[i].fId) && rise last (Ea l (i+1)) (l.drop (i+1))))):=by
 rw [drop_at hi,rise,KAF hi]
def Fa (b:SBook):Bool:=(b.fWord.size:Int) == 32 && ((b.fChain.size:Int) == 32 && (NM b.fTries 0 3 && (decide ((b.fThings.length:Int)≤8) && (NM b.fLast 0 1000 && (NM b.fCount 0 10000 && rise b.fLast 0 b.fThings)))))
theorem TAV {b:SBook} (hb:b.fThings.length≤140737488351232):∀ m i,i≤b.fThings.length→b.fThings.length - i<m→Ig m (.c0 i b)=some (rise b.fLast (Ea b.fThings i) (b.fThings.drop i)):=fun m i h1 h2=>
 loopN (A:=Unit) (n:=b.fThings.length) (Lp:=Ig) (st:=fun i _=>.c0 i b) (Inv:=fun _ _=>True) (out:=fun i _=>some (rise b.fLast (Ea b.fThings i) (b.fThings.drop i)))
  (fun m _ _=>by
   simp only [Ig,Ox]
   rw [show decide ((b.fThings.length:Int)<(b.fThings.length:Int))=false from decide_eq_false (by omega),List.drop_of_length_le (Nat.le_refl _)]
   rfl)
  (fun m i _ hi _=>by
   have hw:w64 ((i:Int)+1)=((i+1:Nat):Int):=by rw [w64_id (by omega) (by omega)];rfl
   simp only [JAL hi]
   simp only [Ig,Ox,Int.toNat_natCast,getD_at hi,CAL,Option.bind_some,hw]
   rw [show decide ((i:Int)<(b.fThings.length:Int))=true from decide_eq_true (by omega),show decide ((0:Int)≤(i:Int))=true from decide_eq_true (by omega)]
   simp only [Bool.and_self,cond_true]
   cases h1:IY b.fThings[i]
   ·exact .inl rfl
   ·cases h2:decide (b.fThings[i].fId > b.fLast)
    ·by_cases h0:i=0
     ·subst h0
      refine .inr ⟨(),rfl,trivial,?_⟩
      rw [show decide (Ea b.fThings 0≥b.fThings[0].fId)=false from decide_eq_false (by have:=(Yh h1).2.2.1;simp only [Ea];omega)]
      rfl
     ·obtain ⟨j,rfl⟩:∃ j,i=j+1:=⟨i - 1,by omega⟩
      have hj:w64 (((j+1:Nat):Int) - 1)=(j:Int):=by rw [w64_id (by omega) (by omega)];omega
      have hjl:j<b.fThings.length:=by omega
      rw [KAF hjl]
      simp only [hj,Int.toNat_natCast,getD_at hjl,Bool.not_true,Bool.not_false,cond_false,Bool.true_and]
      rw [show decide (((j+1:Nat):Int) > 0)=true from decide_eq_true (by omega),show decide ((0:Int)≤(j:Int))=true from decide_eq_true (by omega),show decide ((j:Int)<(b.fThings.length:Int))=true from decide_eq_true (by omega)]
      simp only [Bool.and_self,cond_true]
      cases h3:decide (b.fThings[j].fId≥b.fThings[j+1].fId)
      ·exact .inr ⟨(),rfl,trivial,rfl⟩
      ·exact .inl rfl
    ·exact .inl rfl) m i () h1 h2 trivial
theorem Dk {b:SBook} (hb:b.fThings.length≤140737488351232):Jg b=some (Fa b):=by
 have h0:Ig gas (.c0 0 b)=some (rise b.fLast 0 b.fThings):=TAV hb gas 0 (Nat.zero_le _) (gas_lt (by omega))
 simp only [Jg,D8,Yc,Option.bind_some,Fa,bne,h0]
 rw [show decide ((b.fThings.length:Int)≤8) = !decide ((b.fThings.length:Int) > 8) by rw [←decide_not];simp]
 cases (b.fWord.size:Int) == 32 <;> cases (b.fChain.size:Int) == 32 <;> cases NM b.fTries 0 3 <;> cases decide ((b.fThings.length:Int) > 8) <;> cases NM b.fLast 0 1000 <;> cases NM b.fCount 0 10000 <;> rfl
theorem UAV {b:SBook} (h:b.fThings.length≤2932031007317):Og b=some b:=by
 rw [Og,E8,TB (by simp;omega)];rfl
def VY (xs:List SThing) (t:Int):Option SThing:=xs.find? fun x=>x.fId == t
def Ik:SThing:=⟨0,0,false,false,false,false,⟨#[]⟩,0⟩
theorem KAL {b:SBook} {t:Int} (h:b.fThings.length≤140737488351232):Yi b t=some (match VY b.fThings t with | some x=>(x,true) | none=>(Ik,false)):=by
 have key:∀ m i,i≤b.fThings.length→b.fThings.length - i<m→Xi m (.c0 t i b Ik)=some (match VY (b.fThings.drop i) t with | some x=>(x,true) | none=>(Ik,false)):=fun m i h1 h2=>
  loopN (A:=Unit) (n:=b.fThings.length) (Lp:=Xi) (st:=fun i _=>.c0 t i b Ik) (Inv:=fun _ _=>True) (out:=fun i _=>some (match VY (b.fThings.drop i) t with | some x=>(x,true) | none=>(Ik,false)))
   (fun m _ _=>by simp [Xi,Rx,VY,Ik])
   (fun m i _ hi _=>by
    have hw:w64 ((i:Int)+1)=((i+1:Nat):Int):=by rw [w64_id (by omega) (by omega)];rfl
    simp only [Xi,Rx,Int.toNat_natCast,getD_at hi,hw,drop_at hi,VY,List.find?_cons]
    cases hq:b.fThings[i].fId == t
    ·exact .inr ⟨(),by simp [hi],trivial,by simp⟩
    ·exact .inl (by simp [hi])) m i () h1 h2 trivial
 have h0:=key gas 0 (Nat.zero_le _) (gas_lt (by omega))
 exact h0
theorem LAF {r:SRec} (h:(TT r).2=true):(r.fKind=1∧r.fText.size=32)∨(r.fKind=2∧0≤r.fNum∧r.fNum≤3)∨(r.fKind=3∧IY r.fThing=true)∨(r.fKind=4∧1≤r.fNum∧r.fNum≤1000):=by
 rw [TT] at h
 by_cases h1:r.fKind=1
 ·rw [show (r.fKind == 1)=true by rw [beq_iff_eq];exact h1,cond_true] at h
  cases hc:((r.fText.size:Int) == 32 && r.fNum == 0 && RY r.fThing)
  ·rw [hc] at h;cases h
  ·rw [Bool.and_eq_true,Bool.and_eq_true,beq_iff_eq] at hc
   exact .inl ⟨h1,by omega⟩
 rw [show (r.fKind == 1)=false by rw [beq_eq_false_iff_ne];exact h1,cond_false] at h
 by_cases h2:r.fKind=2
 ·rw [show (r.fKind == 2)=true by rw [beq_iff_eq];exact h2,cond_true] at h
  cases hc:(TY r.fText && RY r.fThing && NM r.fNum 0 3)
  ·rw [hc] at h;cases h
  ·rw [Bool.and_eq_true,ZX] at hc
   exact .inr (.inl ⟨h2,hc.2⟩)
 rw [show (r.fKind == 2)=false by rw [beq_eq_false_iff_ne];exact h2,cond_false] at h
 by_cases h3:r.fKind=3
 ·rw [show (r.fKind == 3)=true by rw [beq_iff_eq];exact h3,cond_true] at h
  cases hc:((PZ r.fThing).2 && TY r.fText && r.fNum == 0)
  ·rw [hc] at h;cases h
  ·rw [Bool.and_eq_true,Bool.and_eq_true] at hc
   refine .inr (.inr (.inl ⟨h3,?_⟩))
   have h4:=hc.1.1
   rw [PZ] at h4
   cases ho:IY r.fThing
   ·rw [ho] at h4;cases h4
   ·rfl
 rw [show (r.fKind == 3)=false by rw [beq_eq_false_iff_ne];exact h3,cond_false] at h
 by_cases h4:r.fKind=4
 ·rw [show (r.fKind == 4)=true by rw [beq_iff_eq];exact h4,cond_true] at h
  cases hc:(TY r.fText && RY r.fThing && NM r.fNum 1 1000)
  ·rw [hc] at h;cases h
  ·rw [Bool.and_eq_true,ZX] at hc
   exact .inr (.inr (.inr ⟨h4,hc.2⟩))
 rw [show (r.fKind == 4)=false by rw [beq_eq_false_iff_ne];exact h4] at h
 cases h
theorem U3 (r:SRec):(TT r).1.size≤300:=by
 rw [TT]
 have one:∀ n:Int,(ofBytes [n]).size=1:=fun n=>by rw [ofBytes_size];rfl
 cases hk1:(r.fKind == 1)
 ·rw [cond_false]
  cases hk2:(r.fKind == 2)
  ·rw [cond_false]
   cases hk3:(r.fKind == 3)
   ·rw [cond_false]
    cases hk4:(r.fKind == 4)
    ·exact Nat.zero_le _
    ·rw [cond_true]
     cases hc:(TY r.fText && RY r.fThing && NM r.fNum 1 1000)
     ·exact Nat.zero_le _
     ·rw [Bool.and_eq_true,ZX] at hc
      have:=UY (n:=r.fNum) (by omega)
      rw [cond_true,ByteArray.size_append,one,ofBytes_size];omega
   ·rw [cond_true]
    cases hc:((PZ r.fThing).2 && TY r.fText && r.fNum == 0)
    ·exact Nat.zero_le _
    ·rw [cond_true,ByteArray.size_append,one,PZ]
     cases ho:IY r.fThing
     ·exact Nat.le_of_ble_eq_true rfl
     ·have:=EAL ho
      show 1+(J3 r.fThing).size≤300;omega
  ·rw [cond_true]
   cases hc:(TY r.fText && RY r.fThing && NM r.fNum 0 3)
   ·exact Nat.zero_le _
   ·rw [Bool.and_eq_true,ZX] at hc
    have:=UY (n:=r.fNum) (by omega)
    rw [cond_true,ByteArray.size_append,one,ofBytes_size];omega
 ·rw [cond_true]
  cases hc:((r.fText.size:Int) == 32 && r.fNum == 0 && RY r.fThing)
  ·exact Nat.zero_le _
  ·rw [Bool.and_eq_true,Bool.and_eq_true,beq_iff_eq] at hc
   rw [cond_true,ByteArray.size_append,one];omega
def DZ:List SThing→Int→Nat→Option Nat
 | [],_,_=>none
 | x::xs,t,i=>if x.fId == t then some i else DZ xs t (i+1)
theorem VAV (t:Int):∀ (xs:List SThing) (i:Nat),match DZ xs t i with | some j=>i≤j∧j<i+xs.length∧VY xs t=xs[j - i]? | none=>VY xs t=none:=by
 intro xs
 induction xs with
 | nil=>intro i;rfl
 | cons x xs ih=>
  intro i
  simp only [DZ,VY,List.find?_cons]
  cases hq:x.fId == t
  ·have:=ih (i+1)
   simp only [Bool.false_eq_true,if_false]
   split at this
   ·rename_i j hj
    obtain ⟨h1,h2,h3⟩:=this
    refine ⟨by omega,by simp;omega,?_⟩
    rw [show j - i=(j - (i+1))+1 by omega,List.getElem?_cons_succ]
    exact h3
   ·exact this
  ·simp
theorem LAL {b:SBook} {t:Int} (h:b.fThings.length≤140737488351232):Rj b t=some (match DZ b.fThings t 0 with | some j=>(j:Int) | none=> -1):=by
 have key:∀ m i,i≤b.fThings.length→b.fThings.length - i<m→Qj m (.c0 t b.fThings b.fThings.length i)=some (match DZ (b.fThings.drop i) t i with | some j=>(j:Int) | none=> -1):=fun m i h1 h2=>
  loopN (A:=Unit) (n:=b.fThings.length) (Lp:=Qj) (st:=fun i _=>.c0 t b.fThings b.fThings.length i) (Inv:=fun _ _=>True) (out:=fun i _=>some (match DZ (b.fThings.drop i) t i with | some j=>(j:Int) | none=> -1))
   (fun m _ _=>by simp [Qj,Oz,DZ])
   (fun m i _ hi _=>by
    have hw:w64 ((i:Int)+1)=((i+1:Nat):Int):=by rw [w64_id (by omega) (by omega)];rfl
    simp only [Qj,Oz,Int.toNat_natCast,getD_at hi,hw,drop_at hi,DZ]
    cases hq:b.fThings[i].fId == t
    ·exact .inr ⟨(),by simp [hi],trivial,by simp⟩
    ·exact .inl (by simp [hi])) m i () h1 h2 trivial
 have h0:=key gas 0 (Nat.zero_le _) (gas_lt (by omega))
 exact h0
theorem Jd {b:SBook}:Fa b=true↔b.fWord.size=32∧b.fChain.size=32∧(0≤b.fTries∧b.fTries≤3)∧b.fThings.length≤8∧(0≤b.fLast∧b.fLast≤1000)∧(0≤b.fCount∧b.fCount≤10000)∧rise b.fLast 0 b.fThings=true:=by
 simp only [Fa,Bool.and_eq_true,beq_iff_eq,ZX,decide_eq_true_eq]
 exact ⟨fun ⟨h1,h2,h3,h4,h5,h6,h7⟩=>⟨by omega,by omega,h3,by omega,h5,h6,h7⟩,fun ⟨h1,h2,h3,h4,h5,h6,h7⟩=>⟨by omega,by omega,h3,by omega,h5,h6,h7⟩⟩
theorem Fb {last p:Int} {x:SThing} {xs:List SThing}:rise last p (x::xs)=true↔IY x=true∧x.fId≤last∧p<x.fId∧rise last x.fId xs=true:=by
 simp only [rise,Bool.and_eq_true,Bool.not_eq_true',decide_eq_false_iff_not]
 exact ⟨fun ⟨h1,h2,h3,h4⟩=>⟨h1,by omega,by omega,h4⟩,fun ⟨h1,h2,h3,h4⟩=>⟨h1,by omega,by omega,h4⟩⟩
theorem V3 {last:Int}:∀ {xs:List SThing} {p:Int},rise last p xs=true→∀ x ∈ xs,p<x.fId∧x.fId≤last∧IY x=true
 | [],_,_,x,hx=>by cases hx
 | y::ys,p,h,x,hx=>by
  obtain ⟨h1,h2,h3,h4⟩:=Fb.1 h
  rcases List.mem_cons.1 hx with rfl | hx
  ·exact ⟨h3,h2,h1⟩
  ·have:=V3 h4 x hx
   exact ⟨by omega,this.2.1,this.2.2⟩
theorem MAF {last last2:Int} (hl:last≤last2):∀ {xs:List SThing} {p p2:Int},p2≤p→rise last p xs=true→rise last2 p2 xs=true
 | [],_,_,_,_=>rfl
 | y::ys,p,p2,hp,h=>by
  obtain ⟨h1,h2,h3,h4⟩:=Fb.1 h
  exact Fb.2 ⟨h1,by omega,by omega,MAF hl (Int.le_refl _) h4⟩
def Cc (x:SThing) (ts:List SThing):List SThing:=ts.filter fun t=>decide (t.fId<x.fId)
def Ai (x:SThing) (ts:List SThing):List SThing:=ts.filter fun t=>decide (t.fId > x.fId)
def putAt (ts:List SThing) (x:SThing):List SThing:=Cc x ts++x::Ai x ts
def without (ts:List SThing) (id:Int):List SThing:=ts.filter fun t=>t.fId != id
theorem WAV {last:Int} {x:SThing}:∀ {xs:List SThing} {p:Int},x.fId≤p→rise last p xs=true→Cc x xs=[]∧Ai x xs=xs∧without xs x.fId=xs:=by
 intro xs p hp h
 have ha:=V3 h
 refine ⟨List.filter_eq_nil_iff.2 fun t ht=>?_,List.filter_eq_self.2 fun t ht=>?_,List.filter_eq_self.2 fun t ht=>?_⟩
 ·have:=ha t ht;rw [decide_eq_true_eq];omega
 ·have:=ha t ht;rw [decide_eq_true_eq];omega
 ·have:=ha t ht;rw [bne_iff_ne];omega
theorem MAL {id:Int}:∀ {xs:List SThing} {i j:Nat},DZ xs id i=some j→i≤j∧∃ x ∈ xs,x.fId=id:=by
 intro xs
 induction xs with
 | nil=>intro i j h;cases h
 | cons y ys ih=>
  intro i j h
  rw [DZ] at h
  split at h
  ·rename_i hy;cases h;exact ⟨Nat.le_refl _,y,List.mem_cons_self ..,beq_iff_eq.1 hy⟩
  ·obtain ⟨h1,x,h2,h3⟩:=ih h;exact ⟨by omega,x,List.mem_cons_of_mem _ h2,h3⟩
theorem NAF {last:Int} {x:SThing}:∀ {xs:List SThing} {p:Int} {i j:Nat},rise last p xs=true→DZ xs x.fId i=some j→xs.set (j - i) x=putAt xs x∧(xs.take (j - i)++xs.drop (j - i+1))=without xs x.fId:=by
 intro xs
 induction xs with
 | nil=>intro p i j _ h;cases h
 | cons y ys ih=>
  intro p i j hr h
  obtain ⟨h1,h2,h3,h4⟩:=Fb.1 hr
  rw [DZ] at h
  split at h
  ·rename_i hy
   have hy:=beq_iff_eq.1 hy
   cases h
   obtain ⟨f1,f2,f3⟩:=WAV (x:=x) (by omega) h4
   rw [Nat.sub_self]
   simp only [putAt,Cc,Ai,without,List.filter_cons] at f1 f2 f3 ⊢
   rw [decide_eq_false (by omega),decide_eq_false (by omega),show (y.fId != x.fId)=false by rw [bne_eq_false_iff_eq];exact hy]
   simp [f1,f2,f3]
  ·rename_i hy
   obtain ⟨h5,z,h6,h7⟩:=MAL h
   have h8:=V3 h4 z h6
   obtain ⟨i1,i2⟩:=ih h4 h
   have e:j - i=(j - (i+1))+1:=by omega
   rw [e,List.set_cons_succ,i1,List.take_succ_cons,List.drop_succ_cons,List.cons_append,i2]
   simp only [putAt,Cc,Ai,without,List.filter_cons]
   rw [decide_eq_true (by omega),decide_eq_false (by omega),show (y.fId != x.fId)=true by rw [bne_iff_ne];omega]
   simp
theorem XAV {last:Int} {x:SThing} {xs:List SThing} {p:Int} (h:rise last p xs=true) (hx:last<x.fId):putAt xs x=xs++[x]∧VY xs x.fId=none:=by
 have ha:=V3 h
 constructor
 ·rw [putAt,Cc,Ai,List.filter_eq_self.2 fun t ht=>by have:=ha t ht;rw [decide_eq_true_eq];omega,List.filter_eq_nil_iff.2 fun t ht=>by have:=ha t ht;rw [decide_eq_true_eq];omega]
 ·rw [VY,List.find?_eq_none]
  intro t ht
  have:=ha t ht
  rw [beq_iff_eq];omega
theorem YAV {last:Int} {x:SThing} (hx:IY x=true) (hl:last<x.fId):∀ {xs:List SThing} {p:Int},p<x.fId→rise last p xs=true→rise x.fId p (xs++[x])=true:=by
 intro xs
 induction xs with
 | nil=>intro p hp _;exact Fb.2 ⟨hx,Int.le_refl _,hp,rfl⟩
 | cons y ys ih=>
  intro p hp h
  obtain ⟨h1,h2,h3,h4⟩:=Fb.1 h
  exact Fb.2 ⟨h1,by omega,h3,ih (by omega) h4⟩
theorem ZAV {last:Int} {x:SThing} (hx:IY x=true):∀ {xs:List SThing} {p:Int} {i j:Nat},rise last p xs=true→DZ xs x.fId i=some j→rise last p (xs.set (j - i) x)=true:=by
 intro xs
 induction xs with
 | nil=>intro p i j _ h;cases h
 | cons y ys ih=>
  intro p i j hr h
  obtain ⟨h1,h2,h3,h4⟩:=Fb.1 hr
  rw [DZ] at h
  split at h
  ·rename_i hy
   have hy:=beq_iff_eq.1 hy
   cases h
   rw [Nat.sub_self,List.set_cons_zero]
   exact Fb.2 ⟨hx,by omega,by omega,MAF (Int.le_refl _) (by omega) h4⟩
  ·have h5:=(MAL h).1
   have e:j - i=(j - (i+1))+1:=by omega
   rw [e,List.set_cons_succ]
   exact Fb.2 ⟨h1,h2,h3,ih h4 h⟩
theorem AAW {last:Int} (id:Int):∀ {xs:List SThing} {p:Int},rise last p xs=true→rise last p (without xs id)=true:=by
 intro xs
 induction xs with
 | nil=>intro p _;rfl
 | cons y ys ih=>
  intro p h
  obtain ⟨h1,h2,h3,h4⟩:=Fb.1 h
  rw [without,List.filter_cons]
  split
  ·exact Fb.2 ⟨h1,h2,h3,ih h4⟩
  ·exact MAF (Int.le_refl _) (by omega) (ih h4)
def grown (x y:SThing):Bool:=y.fKind == x.fKind && ((bs y.fValue == bs x.fValue) && (y.fSigns == x.fSigns && (y.fWraps == x.fWraps && (decide (x.fNext≤y.fNext) && ((y.fHidden || !x.fHidden) && (y.fFixed || !x.fFixed))))))
def OAF:SBook:=⟨⟨#[]⟩,0,[],0,⟨#[]⟩,0⟩
def Jk (b:SBook) (x:SThing):Option (List SThing×Int):=match VY b.fThings x.fId with
 | some old=>bif grown old x then some (putAt b.fThings x,b.fLast) else none
 | none=>bif x.fId != b.fLast+1 || decide ((b.fThings.length:Int)≥8) then none else some (b.fThings++[x],x.fId)
def WY (b:SBook) (r:SRec):SBook×Bool:=
 bif !(Fa b) || (!(TT r).2 || decide (b.fCount≥10000)) then (OAF,false)
 else bif r.fKind == 1 then (⟨r.fText,0,b.fThings,b.fLast,EY (b.fChain++(TT r).1),b.fCount+1⟩,true)
 else bif r.fKind == 2 then (⟨b.fWord,r.fNum,b.fThings,b.fLast,EY (b.fChain++(TT r).1),b.fCount+1⟩,true)
 else bif r.fKind == 3 then (match Jk b r.fThing with
  | some p=>(⟨b.fWord,b.fTries,p.1,p.2,EY (b.fChain++(TT r).1),b.fCount+1⟩,true)
  | none=>(OAF,false))
 else (match VY b.fThings r.fNum with
  | some _=>(⟨b.fWord,b.fTries,without b.fThings r.fNum,b.fLast,EY (b.fChain++(TT r).1),b.fCount+1⟩,true)
  | none=>(OAF,false))
theorem PAF {xs:List SThing} {id:Int}:(∃ x j,VY xs id=some x∧DZ xs id 0=some j∧j<xs.length∧xs[j]?=some x∧x.fId=id)∨(VY xs id=none∧DZ xs id 0=none):=by
 have h:=VAV id xs 0
 cases hp:DZ xs id 0 with
 | none=>rw [hp] at h;exact .inr ⟨h,rfl⟩
 | some j=>
  rw [hp] at h
  obtain ⟨_,h2,h3⟩:=h
  rw [Nat.sub_zero] at h3
  rw [Nat.zero_add] at h2
  refine .inl ⟨xs[j],j,?_,rfl,h2,List.getElem?_eq_getElem h2,?_⟩
  ·rw [h3,List.getElem?_eq_getElem h2]
  ·have h4:VY xs id=some xs[j]:=by rw [h3,List.getElem?_eq_getElem h2]
   have:=List.find?_some h4
   exact beq_iff_eq.1 this
theorem BAW {b:SBook} {r:SRec} (h:(WY b r).2=true):Fa b=true∧(TT r).2=true∧b.fCount<10000∧Fa (WY b r).1=true∧(WY b r).1.fCount=b.fCount+1∧(WY b r).1.fChain=EY (b.fChain++(TT r).1):=by
 rw [WY] at h ⊢
 cases h1:Fa b
 ·rw [h1] at h;cases h
 cases h2:(TT r).2
 ·rw [h1,h2] at h;cases h
 by_cases h3:b.fCount≥10000
 ·rw [h1,h2,decide_eq_true h3] at h;cases h
 rw [h1,h2,decide_eq_false h3] at h
 rw [decide_eq_false h3]
 simp only [Bool.not_true,Bool.or_false,cond_false] at h ⊢
 obtain ⟨b1,b2,b3,b4,b5,b6,b7⟩:=Jd.1 h1
 refine ⟨trivial,trivial,by omega,?_⟩
 have hd:∀ s,(EY s).size=32:=Xc
 rcases LAF h2 with ⟨hk,hz⟩ | ⟨hk,hz⟩ | ⟨hk,hz⟩ | ⟨hk,hz⟩
 ·rw [hk]
  exact ⟨Jd.2 ⟨hz,hd _,(by decide:(0:Int)≤0∧(0:Int)≤3),b4,b5,by show 0≤b.fCount+1∧b.fCount+1≤10000;omega,b7⟩,rfl,rfl⟩
 ·rw [hk]
  exact ⟨Jd.2 ⟨b1,hd _,hz,b4,b5,by show 0≤b.fCount+1∧b.fCount+1≤10000;omega,b7⟩,rfl,rfl⟩
 ·rw [hk] at h ⊢
  simp only [show ((3:Int) == 1)=false from rfl,show ((3:Int) == 2)=false from rfl,show ((3:Int) == 3)=true from rfl,cond_true,cond_false] at h ⊢
  rw [Jk] at h ⊢
  rcases PAF (xs:=b.fThings) (id:=r.fThing.fId) with ⟨x,j,t1,t2,t3,t4,t5⟩ | ⟨t1,t2⟩
  ·rw [t1] at h ⊢
   simp only at h ⊢
   cases hg:grown x r.fThing
   ·rw [hg] at h;cases h
   ·have e:=(NAF b7 t2).1
    rw [Nat.sub_zero] at e
    have hrs:=ZAV hz b7 t2
    rw [Nat.sub_zero,e] at hrs
    exact ⟨Jd.2 ⟨b1,hd _,b3,by show (putAt b.fThings r.fThing).length≤8;rw [←e,List.length_set];exact b4,b5,by show 0≤b.fCount+1∧b.fCount+1≤10000;omega,hrs⟩,rfl,rfl⟩
  ·rw [t1] at h ⊢
   simp only at h ⊢
   cases hg:(r.fThing.fId != b.fLast+1 || decide ((b.fThings.length:Int)≥8))
   ·rw [Bool.or_eq_false_iff,bne_eq_false_iff_eq,decide_eq_false_iff_not] at hg
    have hid:r.fThing.fId≤1000:=by
     have:=hz
     simp only [IY,Bool.and_eq_true,ZX] at this
     omega
    exact ⟨Jd.2 ⟨b1,hd _,b3,by show (b.fThings++[r.fThing]).length≤8;rw [List.length_append,List.length_singleton];omega,by show 0≤r.fThing.fId∧r.fThing.fId≤1000;omega,by show 0≤b.fCount+1∧b.fCount+1≤10000;omega,YAV hz (by omega) (by omega) b7⟩,rfl,rfl⟩
   ·rw [hg] at h;cases h
 ·rw [hk] at h ⊢
  simp only [show ((4:Int) == 1)=false from rfl,show ((4:Int) == 2)=false from rfl,show ((4:Int) == 3)=false from rfl,cond_false] at h ⊢
  cases ht:VY b.fThings r.fNum with
  | none=>rw [ht] at h;cases h
  | some x=>exact ⟨Jd.2 ⟨b1,hd _,b3,by show (without b.fThings r.fNum).length≤8;exact Nat.le_trans (List.length_filter_le ..) b4,b5,by show 0≤b.fCount+1∧b.fCount+1≤10000;omega,AAW _ b7⟩,rfl,rfl⟩
theorem NAL (a b:ByteArray):(a.toList == b.toList)=(bs a == bs b):=by
 rw [toList_inj,Bool.eq_iff_iff,decide_eq_true_eq,beq_iff_eq]
 exact ⟨fun h=>by rw [h],YZ⟩
theorem CAW (x y:SThing):Pg x y=some (grown x y):=by
 rw [Pg,F8,grown,NAL,show (bs x.fValue == bs y.fValue)=(bs y.fValue == bs x.fValue) by rw [Bool.eq_iff_iff,beq_iff_eq,beq_iff_eq];exact ⟨Eq.symm,Eq.symm⟩,
  show (x.fKind == y.fKind)=(y.fKind == x.fKind) by rw [Bool.eq_iff_iff,beq_iff_eq,beq_iff_eq];exact ⟨Eq.symm,Eq.symm⟩]
 cases (y.fKind == x.fKind) <;> cases (bs y.fValue == bs x.fValue) <;> cases y.fSigns <;> cases x.fSigns <;> cases y.fWraps <;> cases x.fWraps <;> cases decide (x.fNext≤y.fNext) <;> cases y.fHidden <;> cases x.fHidden <;> cases y.fFixed <;> cases x.fFixed <;> rfl
theorem QAF {f:SThing→Bool} {l:List SThing} {i:Nat} (h:i<l.length):(l.take (i+1)).filter f=(l.take i).filter f++(bif f l[i] then [l[i]] else []):=by
 rw [take_at h,List.filter_append]
 congr 1
theorem OAL {l:List SThing} {x:SThing} (hl:l.length≤1000000000):Qg l x=some (putAt l x):=by
 have k1:∀ (j i m:Nat),i+j=l.length→Ee (m+j) (.c1 l (i:Int) x (Cc x l++[x]++(l.take i).filter (fun t=>decide (t.fId > x.fId))))=Ee m (.c1 l (l.length:Int) x (Cc x l++[x]++Ai x l)):=by
  intro j
  induction j with
  | zero=>(intro i m h;obtain rfl:i=l.length:=by omega);rw [List.take_length];rfl
  | succ j ih=>
   intro i m h
   have hi:i<l.length:=by omega
   have e:w64 ((i:Int)+1)=((i+1:Nat):Int):=by rw [w64_id (by omega) (by omega)];rfl
   have h2:=ih (i+1) m (by omega)
   rw [QAF hi] at h2
   have hf1:(Cc x l).length≤l.length:=List.length_filter_le ..
   have hf2:((l.take i).filter (fun t=>decide (t.fId > x.fId))).length≤i:=Nat.le_trans (List.length_filter_le ..) (by simp;omega)
   rw [show m+(j+1)=(m+j)+1 by omega,Ee]
   simp only [Zi,e,Int.toNat_natCast,getD_at hi]
   rw [TB (by simp;omega),TB (by simp;omega)]
   by_cases h3:l[i].fId > x.fId
   ·rw [decide_eq_true h3] at h2 ⊢
    rw [cond_true,TB (by simp;omega),TB (by simp only [List.length_append,List.length_singleton,decide_eq_true_eq];omega),←h2]
    simp
   ·rw [decide_eq_false h3] at h2 ⊢
    rw [cond_false,←h2]
    simp
 have k0:∀ (j i m:Nat),i+j=l.length→Ee (m+1+l.length+1+j) (.c0 l (i:Int) x ((l.take i).filter (fun t=>decide (t.fId<x.fId))))=some (putAt l x):=by
  intro j
  induction j with
  | zero=>
   intro i m h
   obtain rfl:i=l.length:=by omega
   have hf1:(Cc x l).length≤l.length:=List.length_filter_le ..
   rw [List.take_length,show l.filter (fun t=>decide (t.fId<x.fId))=Cc x l from rfl,Nat.add_zero,Ee]
   simp only [Zi]
   rw [IK (by simp),TB (by simp;omega)]
   have h2:=k1 l.length 0 (m+1) (by omega)
   rw [List.take_zero,List.filter_nil,List.append_nil,show ((0:Nat):Int)=0 from rfl] at h2
   rw [h2,Ee]
   simp only [Zi]
   rw [IK (by simp),putAt,List.append_assoc];rfl
  | succ j ih=>
   intro i m h
   have hi:i<l.length:=by omega
   have e:w64 ((i:Int)+1)=((i+1:Nat):Int):=by rw [w64_id (by omega) (by omega)];rfl
   have h2:=ih (i+1) m (by omega)
   rw [QAF hi] at h2
   have hf2:((l.take i).filter (fun t=>decide (t.fId<x.fId))).length≤i:=Nat.le_trans (List.length_filter_le ..) (by simp;omega)
   rw [show m+1+l.length+1+(j+1)=(m+1+l.length+1+j)+1 by omega,Ee]
   simp only [Zi,e,Int.toNat_natCast,getD_at hi]
   rw [TB (by simp;omega),TB (by simp;omega)]
   by_cases h3:l[i].fId<x.fId
   ·rw [decide_eq_true h3] at h2 ⊢
    rw [cond_true,TB (by simp;omega),TB (by simp only [decide_eq_true_eq];omega),←h2]
    simp
   ·rw [decide_eq_false h3] at h2 ⊢
    rw [cond_false,←h2]
    simp
 obtain ⟨m,hm⟩:∃ m,gas=m+1+l.length+1+l.length:=⟨gas - (2*l.length+2),by have:=gas_lt (n:=2*l.length+2) (by omega);omega⟩
 rw [Qg,G8,hm]
 have h:=k0 l.length 0 m (by omega)
 rw [List.take_zero,List.filter_nil] at h
 exact h
theorem DAW {b:SBook} {r:SRec} (hb:b.fThings.length≤140737488351232):Yn b r=some (WY b r):=by
 have hok:=@BAW b r
 rw [Yn,I8,IAL,Option.bind_some,Dk hb,Option.bind_some]
 rw [WY] at hok ⊢
 cases h1:Fa b
 ·rfl
 cases h2:(TT r).2
 ·rfl
 obtain ⟨b1,b2,b3,b4,b5,b6,b7⟩:=Jd.1 h1
 by_cases h3:b.fCount≥10000
 ·have h3':(b.fCount == 10000)=true:=by rw [beq_iff_eq];omega
  simp only [decide_eq_true h3,h3',Bool.not_true,Bool.or_true,Bool.false_or,cond_false,cond_true]
  rfl
 have hz:=U3 r
 have hw:w64 (b.fCount+1)=b.fCount+1:=w64_id (by omega) (by omega)
 have hdig:=Ak (s:=b.fChain++(TT r).1) (by rw [ByteArray.size_append];omega)
 have hsz:decide (b.fChain.size+(TT r).1.size≤9223372036854775807)=true:=by rw [decide_eq_true_eq];omega
 have h3':(b.fCount == 10000)=false:=by rw [beq_eq_false_iff_ne];omega
 rw [h1,h2,decide_eq_false h3] at hok
 simp only [Bool.not_true,Bool.or_self,cond_false] at hok
 simp only [decide_eq_false h3,h3',Bool.not_true,Bool.or_self,cond_false,UAV (show b.fThings.length≤2932031007317 by omega),hdig,hsz,hw,Option.bind_some,cond_true]
 rcases LAF h2 with ⟨hk,hc⟩ | ⟨hk,hc⟩ | ⟨hk,hc⟩ | ⟨hk,hc⟩
 ·rw [hk] at hok ⊢
  simp only [show ((1:Int) == 1)=true from rfl,cond_true] at hok ⊢
  have h5:=(hok trivial).2.2.2.1
  rw [Dk (by simp only;omega),Option.bind_some,h5];rfl
 ·rw [hk] at hok ⊢
  simp only [show ((2:Int) == 1)=false from rfl,show ((2:Int) == 2)=true from rfl,cond_true,cond_false] at hok ⊢
  have h5:=(hok trivial).2.2.2.1
  rw [Dk (by simp only;omega),Option.bind_some,h5];rfl
 ·rw [hk] at hok ⊢
  simp only [show ((3:Int) == 1)=false from rfl,show ((3:Int) == 2)=false from rfl,show ((3:Int) == 3)=true from rfl,cond_true,cond_false] at hok ⊢
  have hid:=(Yh hc)
  have hpl:(putAt b.fThings r.fThing).length≤1000:=by
   have f1:(Cc r.fThing b.fThings).length≤b.fThings.length:=List.length_filter_le ..
   have f2:(Ai r.fThing b.fThings).length≤b.fThings.length:=List.length_filter_le ..
   rw [putAt,List.length_append,List.length_cons];omega
  rw [KAL hb,Option.bind_some]
  rw [Jk] at hok ⊢
  cases ht:VY b.fThings r.fThing.fId with
  | some o=>
   rw [ht] at hok
   simp only [cond_true,CAW,Option.bind_some,Bool.not_true,cond_false,OAL (show b.fThings.length≤1000000000 by omega)] at hok ⊢
   cases hg:grown o r.fThing
   ·rfl
   ·rw [hg] at hok
    simp only [cond_true] at hok
    have h5:=(hok trivial).2.2.2.1
    simp only [Bool.not_true,cond_false,cond_true]
    rw [Dk (by simp only;omega),Option.bind_some,h5];rfl
  | none=>
   rw [ht] at hok
   have hw2:w64 (b.fLast+1)=b.fLast+1:=w64_id (by omega) (by omega)
   simp only [cond_false,Bool.not_false,cond_true,hw2,OAL (show b.fThings.length≤1000000000 by omega),Option.bind_some] at hok ⊢
   cases hg:(r.fThing.fId != b.fLast+1)
   ·rw [hg] at hok
    rw [bne_eq_false_iff_eq] at hg
    have hpn:=(XAV b7 (show b.fLast<r.fThing.fId by omega)).1
    by_cases h8:(b.fThings.length:Int)≥8
    ·rw [decide_eq_true h8,cond_false,TB (by rw [beq_iff_eq];omega)];rfl
    ·rw [decide_eq_false h8] at hok ⊢
     simp only [Bool.or_false,cond_false] at hok
     have h5:=(hok trivial).2.2.2.1
     rw [hpn] at hpl ⊢
     rw [cond_false,IK (by rw [beq_eq_false_iff_ne];omega),Dk (by simp only;omega),Option.bind_some,h5];rfl
   ·rfl
 ·rw [hk] at hok ⊢
  simp only [show ((4:Int) == 1)=false from rfl,show ((4:Int) == 2)=false from rfl,show ((4:Int) == 3)=false from rfl,show ((4:Int) == 4)=true from rfl,cond_true,cond_false] at hok ⊢
  rw [KAL hb,Option.bind_some]
  cases ht:VY b.fThings r.fNum with
  | none=>rfl
  | some o=>
   rw [ht] at hok
   simp only [Bool.not_true,cond_false] at hok ⊢
   have h5:=(hok trivial).2.2.2.1
   have key:∀ (j i m:Nat),i+j=b.fThings.length→Xn (m+j+1) (.c0 (TT r).1 (i:Int) b r ⟨#[]⟩ 0 0 ⟨#[]⟩ 0 b.fWord b.fTries b.fLast b.fChain b.fCount ((b.fThings.take i).filter (fun t=>t.fId != r.fNum)) [] b.fThings)=some (⟨b.fWord,b.fTries,without b.fThings r.fNum,b.fLast,EY (b.fChain++(TT r).1),b.fCount+1⟩,true):=by
    intro j
    induction j with
    | zero=>
     intro i m hi
     obtain rfl:i=b.fThings.length:=by omega
     have hf1:(without b.fThings r.fNum).length≤b.fThings.length:=List.length_filter_le ..
     rw [List.take_length,show b.fThings.filter (fun t=>t.fId != r.fNum)=without b.fThings r.fNum from rfl,Xn]
     simp only [Wx,hdig,hsz,hw,Option.bind_some,cond_true]
     rw [IK (by simp),Dk (by simp only;omega),Option.bind_some,h5];rfl
    | succ j ih=>
     intro i m hi
     have hil:i<b.fThings.length:=by omega
     have e:w64 ((i:Int)+1)=((i+1:Nat):Int):=by rw [w64_id (by omega) (by omega)];rfl
     have h6:=ih (i+1) m (by omega)
     rw [QAF hil] at h6
     have hf2:((b.fThings.take i).filter (fun t=>t.fId != r.fNum)).length≤i:=Nat.le_trans (List.length_filter_le ..) (by simp;omega)
     rw [show m+(j+1)+1=(m+j+1)+1 by omega,Xn]
     simp only [Wx,e,Int.toNat_natCast,getD_at hil]
     rw [TB (by simp;omega),TB (by simp;omega)]
     cases h7:(b.fThings[i].fId != r.fNum)
     ·rw [h7] at h6
      rw [cond_false,←h6];simp
     ·rw [h7] at h6
      rw [cond_true,TB (by simp;omega),TB (by simp only [decide_eq_true_eq];omega),←h6];simp
   obtain ⟨m,hm⟩:∃ m,gas=m+b.fThings.length+1:=⟨gas - (b.fThings.length+1),by have:=gas_lt (n:=b.fThings.length+1) (by omega);omega⟩
   have h0:=key b.fThings.length 0 m (by omega)
   rw [List.take_zero,List.filter_nil] at h0
   rw [hm]
   exact h0
def xb (x y:Int):Int:=w8 (((BitVec.toNat ((BitVec.ofInt (IntKind.bits IntKind.u8) x) ^^^ (BitVec.ofInt (IntKind.bits IntKind.u8) y))):Nat):Int)
theorem X3 (x y:Int):w8 (((BitVec.toNat ((BitVec.ofInt (IntKind.bits IntKind.u8) x) ^^^ (BitVec.ofInt (IntKind.bits IntKind.u8) y))):Nat):Int)=xb x y:=rfl
theorem PAL (x y:Int):0≤xb x y∧xb x y≤255:=by unfold xb;rw [w8_mod];omega
theorem YAb {x:Int} (h:0≤x∧x≤255) (y:Int):xb (xb x y) y=x:=by
 have e:∀ (a b:BitVec 8),BitVec.ofInt 8 (((a ^^^ b).toNat:Nat):Int) ^^^ b=a:=by
  intro a b
  rw [BitVec.ofInt_natCast,BitVec.ofNat_toNat,BitVec.setWidth_eq,BitVec.xor_assoc,BitVec.xor_self,BitVec.xor_zero]
 have h8:∀ (a b:BitVec 8),w8 (((a ^^^ b).toNat:Nat):Int)=(((a ^^^ b).toNat:Nat):Int):=fun a b=>by
  have:=(a ^^^ b).isLt;rw [w8_id (by omega) (by omega)]
 unfold xb
 show w8 (((BitVec.ofInt 8 (w8 (((BitVec.ofInt 8 x ^^^ BitVec.ofInt 8 y).toNat:Nat):Int)) ^^^ BitVec.ofInt 8 y).toNat:Nat):Int)=x
 rw [h8 (BitVec.ofInt 8 x),e,BitVec.toNat_ofInt,w8_mod]
 omega
def EZ (x:Int) (l:List Int):List Int:=l.map fun b=>xb b x
theorem Y3 (x:Int) (l:List Int):(EZ x l).length=l.length:=by simp [EZ]
theorem I4 (x:Int) (l:List Int):DY (EZ x l):=fun n hn=>by
 simp only [EZ,List.mem_map] at hn
 obtain ⟨b,_,rfl⟩:=hn
 exact PAL _ _
def JY (k:List Int):List Int:=k++List.replicate (64 - k.length) 0
def Dc (k:List Int):List Int:=if 64<k.length then JY (Aa k) else JY k
theorem EAW (k:List Int):(Dc k).length=64:=by
 unfold Dc JY
 split
 ·rw [List.length_append,List.length_replicate,FAF]
 ·rw [List.length_append,List.length_replicate];omega
def Ic (k s:List Int):List Int:=Aa (EZ 92 (Dc k)++Aa (EZ 54 (Dc k)++s))
def Ld (k s:ByteArray):ByteArray:=ofBytes (Ic (bs k) (bs s))
theorem Nk (k s:List Int):(Ic k s).length=32:=FAF _
theorem Dw (k s:List Int):DY (Ic k s):=TAK _
theorem QAL (k s:ByteArray):bs (Ld k s)=Ic (bs k) (bs s):=SN (Dw _ _)
theorem RAL (k s:ByteArray):(Ld k s).size=32:=by rw [Ld,ofBytes_size,Nk]
theorem FAW {α:Type} (f:α→α) {l:List α} {i:Nat} (h:i<l.length):((l.take i).map f++l.drop i).set i (f l[i])=(l.take (i+1)).map f++l.drop (i+1):=by
 rw [drop_at h,Zb (by simp;omega),take_at h,List.map_append,List.append_assoc]
 rfl
theorem GAW {f:Int→Int} {l:List Int} {i:Nat} (h:i<l.length):((l.take i).map f++l.drop i).getD i 0=l[i]:=by
 rw [Xj (by simp;omega)]
 simp [List.getD,Nat.min_eq_left (Nat.le_of_lt h),h]
theorem SAL (k:List Int) {i:Nat}:(JY k).getD i 0=k.getD i 0:=by
 by_cases h:i<k.length
 ·rw [JY,Wv h]
 ·rw [JY,Xj (by omega)]
  simp only [List.getD]
  rw [List.getElem?_eq_none (by omega:k.length≤i)]
  by_cases h2:i - k.length<64 - k.length
  ·rw [List.getElem?_replicate,if_pos h2];rfl
  ·rw [List.getElem?_replicate,if_neg h2]
theorem TAL (f:Int→Int) {l:List Int} (hl:l.length=64) {i:Nat} (h:i<64) (y:Int) (hy:y=f (l.getD i 0)):((l.take i).map f++List.replicate (64 - i) 0).set i y=(l.take (i+1)).map f++List.replicate (64 - (i+1)) 0:=by
 rw [show 64 - i=(64 - (i+1))+1 by omega,List.replicate_succ,Zb (by simp;omega),take_at (by omega),hy,getD_at (by omega),List.map_append,List.append_assoc]
 rfl
theorem UAL {k:ByteArray} (hk:k.size≤64) (x:Int):Aj gas (.c0 k x (0:Int) (List.replicate (64:Int).toNat (0:Int)))=some (ofBytes (EZ x (JY (bs k)))):=by
 have hl:(JY (bs k)).length=64:=by rw [JY,List.length_append,List.length_replicate,bs_len];omega
 have key:=loopN (A:=Unit) (n:=64) (Lp:=Aj) (st:=fun i _=>.c0 k x (i:Int) (((JY (bs k)).take i).map (fun b=>xb b x)++List.replicate (64 - i) 0)) (Inv:=fun _ _=>True) (out:=fun _ _=>some (ofBytes (EZ x (JY (bs k)))))
  (fun m _ _=>by
   rw [Aj]
   simp only [Xx]
   rw [IK (by simp),List.take_of_length_le (by omega),Nat.sub_self,List.replicate_zero,List.append_nil];rfl)
  (fun m i _ hi _=>.inr ⟨(),by
   have e:w64 ((i:Int)+1)=((i+1:Nat):Int):=by rw [w64_id (by omega) (by omega)];rfl
   have hlen:(((JY (bs k)).take i).map (fun b=>xb b x)++List.replicate (64 - i) 0).length=64:=by simp [hl];omega
   have hm:(((JY (bs k)).take i).map (fun b=>xb b x)).length=i:=by simp [hl];omega
   rw [Aj]
   simp only [Xx,e,Int.toNat_natCast,List.length_set,hlen,X3]
   rw [TB (by simp;omega)]
   by_cases h:i<k.size
   ·rw [TB (by simp;omega),TB (by simp;omega),TB (by simp;omega),TB (by simp;omega),TB (by simp;omega),Yb h]
    rw [List.set_set,Eb (by omega)]
    rw [TAL (fun b=>xb b x) hl hi _ (by rw [SAL])]
   ·rw [IK (by simp;omega),TB (by simp;omega),TB (by simp;omega)]
    rw [Xj (by omega),hm,Nat.sub_self]
    rw [TAL (fun b=>xb b x) hl hi _ (by
     rw [SAL,show (bs k).getD i 0=0 by simp [List.getD,List.getElem?_eq_none (show (bs k).length≤i by rw [bs_len];omega)]]
     rw [show 64 - i=(63 - i)+1 by omega,List.replicate_succ];rfl)],trivial,rfl⟩)
 exact key gas 0 () (Nat.zero_le _) (gas_lt (by omega)) trivial
theorem VAL {k:ByteArray} (hk:k.size≤1000000000) (x:Int):Bo k x=some (ofBytes (EZ x (Dc (bs k)))):=by
 rw [Bo,L8]
 by_cases h:64<k.size
 ·rw [TB (by simp;omega),Ak hk,Option.bind_some,UAL (by rw [Xc];omega),Dc,if_pos (by rw [bs_len];omega),Y2]
 ·rw [IK (by simp;omega),UAL (by omega),Dc,if_neg (by rw [bs_len];omega)]
theorem WAL {k s:ByteArray} (hk:k.size≤900000000) (hs:s.size≤900000000):Fe k s=some (Ld k s):=by
 have x1:=Y3 92 (Dc (bs k))
 have x2:=Y3 54 (Dc (bs k))
 have x3:=EAW (bs k)
 rw [Fe,N8,VAL (by omega),Option.bind_some,VAL (by omega),Option.bind_some,TB (by rw [ofBytes_size,decide_eq_true_eq];omega)]
 rw [Ak (by rw [ByteArray.size_append,ofBytes_size];omega),Option.bind_some,TB (by rw [ofBytes_size,Xc,decide_eq_true_eq];omega),Ak (by rw [ByteArray.size_append,ofBytes_size,Xc];omega),Option.bind_some]
 rw [EY,LY,Y2,LY,SN (I4 _ _),SN (I4 _ _),Ld,Ic]
def Md (k v:List Int):Nat→List Int
 | 0=>[]
 | i+1=>Md k v i++Ic k (109::(v++[(i:Int)]))
theorem Af (k v:List Int) (i:Nat):(Md k v i).length=32*i:=by
 induction i with
 | zero=>rfl
 | succ i ih=>rw [Md,List.length_append,ih,Nk];omega
theorem J4 (k v:List Int) (i:Nat):DY (Md k v i):=by
 induction i with
 | zero=>intro n hn;cases hn
 | succ i ih=>
  intro n hn
  rcases List.mem_append.1 hn with hn | hn
  ·exact ih n hn
  ·exact Dw _ _ n hn
def Ib (k v:List Int) (n:Nat):List Int:=(Md k v ((n+31) / 32)).take n
theorem RAF (k v:List Int) (n:Nat):(Ib k v n).length=n:=by rw [Ib,List.length_take,Af];omega
theorem SAF (k v:List Int) (n:Nat):DY (Ib k v n):=fun x hx=>J4 _ _ _ x (List.mem_of_mem_take hx)
def maskOk (num:Int) (n:Int):Bool:=NM num 0 1000000000 && NM n 0 8000
def Qk (k:ByteArray) (num:Int) (n:Int):ByteArray×Bool:=bif maskOk num n then (ofBytes (Ib (bs k) (FN num) n.toNat),true) else (⟨#[]⟩,false)
theorem Ci:∀ {n:Int},0≤n→DY (FN n):=by
 intro n
 induction n using FN.induct with
 | case1 n hn ih=>
  intro h x hx
  rw [FN,if_pos hn] at hx
  rcases List.mem_cons.1 hx with rfl | hx
  ·omega
  ·exact ih (by omega) x hx
 | case2 n hn=>
  intro h x hx
  rw [FN,if_neg hn] at hx
  rw [List.mem_singleton] at hx
  subst hx
  rw [w8_mod];omega
theorem XAL (k:ByteArray) {num:Int} (hn:0≤num) (hn2:num≤1000000000) (i:Nat) (hi:i≤255) :
  Ld k (((⟨#[109]⟩:ByteArray)++ofBytes (FN num))++ofBytes [(i:Int)])=ofBytes (Ic (bs k) (109::(FN num++[(i:Int)]))):=by
 have e:bs (⟨#[109]⟩:ByteArray)=[109]:=rfl
 rw [Ld,LY,LY,SN (Ci hn),e,SN (fun x hx=>by rw [List.mem_singleton] at hx;omega)]
 rfl
def QZ (a b:List Int):List Int:=List.zipWith xb a b
theorem TAF {a b:List Int} (h:a.length≤b.length):(QZ a b).length=a.length:=by rw [QZ,List.length_zipWith];omega
theorem Rk (a b:List Int):DY (QZ a b):=by
 intro n hn
 rw [QZ,List.mem_iff_getElem] at hn
 obtain ⟨i,hi,rfl⟩:=hn
 rw [List.getElem_zipWith]
 exact PAL _ _
theorem UAF {α:Type} (f:α→α→α):∀ (a b:List α),List.zipWith f a (b.take a.length)=List.zipWith f a b
 | [],_=>rfl
 | _::_,[]=>rfl
 | x::a,y::b=>by rw [List.length_cons,List.take_succ_cons,List.zipWith_cons_cons,List.zipWith_cons_cons,UAF f a b]
theorem YAL {a b:List Int} {i:Nat} (h:i<a.length) (h2:i<b.length):(List.zipWith xb (a.take i) (b.take i)++a.drop i).set i (xb a[i] (b.getD i 0))=List.zipWith xb (a.take (i+1)) (b.take (i+1))++a.drop (i+1):=by
 rw [drop_at h,Zb (by simp;omega),take_at h,take_at h2,getD_at h2,List.zipWith_append (by simp;omega),List.append_assoc]
 rfl
theorem ZAL {a b:List Int} {i:Nat} (h:i<a.length) (h2:i<b.length):(List.zipWith xb (a.take i) (b.take i)++a.drop i).getD i 0=a[i]:=by
 rw [Xj (by simp;omega)]
 simp [List.getD,Nat.min_eq_left (Nat.le_of_lt h),Nat.min_eq_left (Nat.le_of_lt h2),h]
def Bf (k:List Int) (num:Int) (s:List Int):List Int:=(Ic k (116::(FN num++s))).take 16
theorem VAF (k:List Int) (num:Int) (s:List Int):(Bf k num s).length=16:=by rw [Bf,List.length_take,Nk];rfl
theorem Uk (k:List Int) (num:Int) (s:List Int):DY (Bf k num s):=fun x hx=>Dw _ _ x (List.mem_of_mem_take hx)
def Ew (k:List Int) (num:Int) (s:List Int):List Int:=QZ s (Ib k (FN num) s.length)++Bf k num (QZ s (Ib k (FN num) s.length))
def Jc (k:ByteArray) (num:Int) (s:ByteArray):ByteArray×Bool:=bif maskOk num s.size then (ofBytes (Ew (bs k) num (bs s)),true) else (⟨#[]⟩,false)
def ZAb (k:ByteArray) (num:Int) (t:ByteArray):ByteArray×Bool:=
 bif decide ((t.size:Int)<16) || !(maskOk num ((t.size:Int) - 16)) then (⟨#[]⟩,false)
 else bif Bf (bs k) num ((bs t).take (t.size - 16)) == (bs t).drop (t.size - 16) then (ofBytes (QZ ((bs t).take (t.size - 16)) (Ib (bs k) (FN num) (t.size - 16))),true)
 else (⟨#[]⟩,false)
theorem WAF {num n:Int}:maskOk num n=true↔(0≤num∧num≤1000000000)∧0≤n∧n≤8000:=by rw [maskOk,Bool.and_eq_true,ZX,ZX]
theorem HAW {k:ByteArray} {num n:Int} (hk:k.size≤900000000):Jo k num n=some (Qk k num n):=by
 rw [Jo,Q8,Yc,Option.bind_some,Qk,maskOk]
 cases h:NM num 0 1000000000
 ·rfl
 ·rw [ZX] at h
  rw [IK (by rfl),Yc,Option.bind_some]
  cases h2:NM n 0 8000
  ·rfl
  ·rw [ZX] at h2
   rw [IK (by rfl),Bool.and_self,cond_true]
   have hv:=UY (n:=num) (by omega)
   have hvb:=Ci h.1
   have key:=loopN (A:=Unit) (n:=(n.toNat+31) / 32) (Lp:=Io) (st:=fun i _=>.c0 k num n (i:Int) (Md (bs k) (FN num) i)) (Inv:=fun _ _=>True) (out:=fun _ _=>some (ofBytes (Ib (bs k) (FN num) n.toNat),true))
    (fun m _ _=>by
     rw [Io]
     simp only [Yx]
     rw [IK (by rw [Af,decide_eq_false_iff_not];omega),TB (by rw [Af];simp;omega)]
     rfl)
    (fun m i _ hi _=>.inr ⟨(),by
     have e:w64 ((i:Int)+1)=((i+1:Nat):Int):=by rw [w64_id (by omega) (by omega)];rfl
     have h9:(⟨#[109]⟩:ByteArray).size=1:=rfl
     rw [Io]
     simp only [Yx,e]
     rw [TB (by rw [Af,decide_eq_true_eq];omega),Vf (by omega),Option.bind_some,TB (by rw [ofBytes_size,h9,decide_eq_true_eq];omega),IAF (by omega) (by omega),Option.bind_some,TB (by rw [ByteArray.size_append,ofBytes_size,ofBytes_size,h9,decide_eq_true_eq,List.length_singleton];omega)]
     rw [WAL hk (by rw [ByteArray.size_append,ByteArray.size_append,ofBytes_size,ofBytes_size,h9,List.length_singleton];omega),Option.bind_some,XAL k h.1 h.2 i (by omega),Xv,SN (Dw _ _),TB (by rw [ofBytes_size,Nk];rfl),TB (by rw [Af,Nk,decide_eq_true_eq];omega)]
     rfl,trivial,rfl⟩)
   exact key gas 0 () (Nat.zero_le _) (gas_lt (by omega)) trivial
theorem IAW {a b:ByteArray} (ha:a.size≤140737488351232) (h:a.size≤b.size):Po a b=some (ofBytes (QZ (bs a) (bs b))):=by
 have hl:=bs_len a
 have hl2:=bs_len b
 have key:=loopN (A:=Unit) (n:=(bs a).length) (Lp:=Oo) (st:=fun i _=>.c0 b (i:Int) (List.zipWith xb ((bs a).take i) ((bs b).take i)++(bs a).drop i)) (Inv:=fun _ _=>True) (out:=fun _ _=>some (ofBytes (QZ (bs a) (bs b))))
  (fun m _ _=>by
   rw [Oo]
   simp only [Zx]
   rw [IK (by simp;omega),List.take_length,List.drop_length,List.append_nil,QZ,UAF])
  (fun m i _ hi _=>.inr ⟨(),by
   have e:w64 ((i:Int)+1)=((i+1:Nat):Int):=by rw [w64_id (by omega) (by omega)];rfl
   have hlen:(List.zipWith xb ((bs a).take i) ((bs b).take i)++(bs a).drop i).length=(bs a).length:=by simp;omega
   rw [Oo]
   simp only [Zx,e,Int.toNat_natCast,hlen,X3,ZAL hi (show i<(bs b).length by omega)]
   rw [TB (by simp;omega),TB (by simp;omega),TB (by simp;omega),TB (by simp;omega),Yb (by omega),YAL hi (by omega)],trivial,rfl⟩)
 rw [Po,V8,TB (by simp;omega),Xv]
 exact key gas 0 () (Nat.zero_le _) (gas_lt (by omega)) trivial
theorem JAW {k s:ByteArray} {num:Int} (hk:k.size≤900000000) (hn:0≤num∧num≤1000000000) (hs:s.size≤800000000):Qo k num s=some (ofBytes (Bf (bs k) num (bs s))):=by
 have hv:=UY (n:=num) (by omega)
 have h9:(⟨#[116]⟩:ByteArray).size=1:=rfl
 have e:bs (⟨#[116]⟩:ByteArray)=[116]:=rfl
 have h16:(16:Int).toNat=16:=rfl
 rw [Qo,Y8,Vf (by omega),Option.bind_some,TB (by rw [ofBytes_size,h9,decide_eq_true_eq];omega),TB (by rw [ByteArray.size_append,ofBytes_size,h9,decide_eq_true_eq];omega)]
 rw [WAL hk (by rw [ByteArray.size_append,ByteArray.size_append,ofBytes_size,h9];omega),Option.bind_some,TB (by rw [RAL];decide)]
 refine congrArg some (YZ ?_)
 rw [Uc,QAL,h16,SN (Uk _ _ _),LY,LY,e,SN (Ci hn.1),Bf,List.drop_zero,List.append_assoc]
 rfl
theorem KAW {k s:ByteArray} {num:Int} (hk:k.size≤900000000) (hs:s.size≤800000000):Ro k num s=some (Jc k num s):=by
 rw [Ro,C9,HAW hk,Option.bind_some,Qk,Jc]
 cases h:maskOk num s.size
 ·rfl
 ·have h':=WAF.1 h
  have hm:=RAF (bs k) (FN num) ((s.size:Int).toNat)
  have hl:=bs_len s
  rw [cond_true,cond_true,IK (by rfl),IAW (by omega) (by rw [ofBytes_size,hm];omega),Option.bind_some,SN (SAF _ _ _)]
  have hx:(QZ (bs s) (Ib (bs k) (FN num) (s.size:Int).toNat)).length=s.size:=by rw [TAF (by omega),hl]
  rw [JAW hk h'.1 (by rw [ofBytes_size,hx];omega),Option.bind_some,SN (Rk _ _),TB (by rw [ofBytes_size,ofBytes_size,hx,VAF,decide_eq_true_eq];omega)]
  refine congrArg (fun x=>some (x,true)) (YZ ?_)
  rw [LY,SN (Rk _ _),SN (Uk _ _ _),SN (fun x hx=>by
   rcases List.mem_append.1 hx with hx | hx
   ·exact Rk _ _ x hx
   ·exact Uk _ _ _ x hx),Ew,hl]
  rfl
def Di (s:Int):Int:=if s % 2=1 then xr (s / 2) 3558460437 else s / 2
def Ei:Nat→Int→Int
 | 0,s=>s
 | n+1,s=>Ei n (Di s)
def Vk (s:Int) (l:List Int):Int:=l.foldl (fun s b=>Ei 8 (xr s b)) s
theorem MAW {s:Int} (h:R32 s):R32 (Di s):=by
 unfold Di;split
 ·exact Wj _ _
 ·unfold R32 at *;omega
theorem AAM:∀ (n:Nat) {s:Int},R32 s→R32 (Ei n s)
 | 0,_,h=>h
 | n+1,_,h=>AAM n (MAW h)
theorem BAM:∀ (l:List Int) {s:Int},R32 s→R32 (Vk s l)
 | [],_,h=>h
 | b::l,s,_=>BAM l (AAM 8 (Wj s b))
def Lc (l:List Int):Int:=Vk 4294967295 l
theorem O4 (l:List Int):R32 (Lc l):=BAM l (by unfold R32;omega)
theorem NAW (t:ByteArray) (i:Nat) (hi:i<t.size) (ht:t.size≤140737488351232):∀ (j k m:Nat) (s:Int),k+j=8→R32 s→He (m+j+1) (.c1 s t (i:Int) (k:Int))=He m (.c0 (Ei j s) t ((i+1:Nat):Int)):=by
 intro j
 induction j with
 | zero=>
  intro k m s hk hs
  have e:w64 ((i:Int)+1)=((i+1:Nat):Int):=by rw [w64_id (by omega) (by omega)];rfl
  rw [He]
  simp only [Bj,e]
  rw [IK (by simp;omega)]
  rfl
 | succ j ih=>
  intro k m s hk hs
  have e:w64 ((k:Int)+1)=((k+1:Nat):Int):=by rw [w64_id (by omega) (by omega)];rfl
  have h2:w32 (s.tdiv 2)=s / 2:=by
   obtain ⟨h1,h2⟩:=hs
   rw [Int.tdiv_eq_ediv_of_nonneg h1,OZ (by omega) (by omega)]
  have h3:s.tmod 2=s % 2:=Int.tmod_eq_emod_of_nonneg hs.1
  rw [show m+(j+1)+1=(m+j+1)+1 by omega,He]
  simp only [Bj,e,h2,h3,Xb]
  rw [TB (by simp;omega),Ei]
  by_cases h:s % 2=1
  ·rw [TB (by simp [h]),ih (k+1) m _ (by omega) (Wj _ _),Di,if_pos h]
  ·rw [IK (by simp [h]),ih (k+1) m _ (by omega) (by unfold R32 at *;omega),Di,if_neg h]
theorem OAW {t:ByteArray} {s:Int} (ht:t.size≤140737488351232):Vo s t=some (Vk s (bs t)):=by
 have hl:=bs_len t
 have key:∀ (j i m:Nat) (s:Int),i+j=t.size→He (m+10*j+1) (.c0 s t (i:Int))=some (Vk s ((bs t).drop i)):=by
  intro j
  induction j with
  | zero=>
   intro i m s h
   rw [He]
   simp only [Bj]
   rw [IK (by simp;omega),List.drop_of_length_le (by omega)];rfl
  | succ j ih=>
   intro i m s h
   have hb:=CZ (Xe t) i
   rw [show m+10*(j+1)+1=(m+10*j+1)+8+1+1 by omega,He]
   simp only [Bj,Xb]
   rw [TB (by simp;omega),TB (by simp;omega),Yb (by omega),OZ (by omega) (by omega)]
   have h1:=NAW t i (by omega) ht 8 0 (m+10*j+1) (xr s ((bs t).getD i 0)) (by omega) (Wj _ _)
   rw [show ((0:Nat):Int)=0 from rfl] at h1
   rw [h1,ih (i+1) m _ (by omega),drop_at (by omega:i<(bs t).length),getD_at (by omega)]
   rfl
 obtain ⟨m,hm⟩:∃ m,gas=m+10*t.size+1:=⟨gas - (10*t.size+1),by have:=gas_lt (n:=10*t.size+1) (by omega);omega⟩
 rw [Vo,F9,hm]
 have:=key t.size 0 m s (by omega)
 rw [List.drop_zero] at this
 exact this
theorem PAW {t:ByteArray} (ht:t.size≤140737488351232):Xo t=some (Lc (bs t)):=by
 rw [Xo,H9,OAW ht];rfl
theorem QAW {x:Int} (h:R32 x):Yo x=some (ofBytes (four x)):=by
 obtain ⟨h1,h2⟩:=h
 have e1:Int.fdiv x (2 ^ (Min.min (24:Int).toNat (IntKind.bits IntKind.u32)))=x / 16777216:=Int.fdiv_eq_ediv_of_nonneg _ (by decide)
 have e2:Int.fdiv x (2 ^ (Min.min (16:Int).toNat (IntKind.bits IntKind.u32)))=x / 65536:=Int.fdiv_eq_ediv_of_nonneg _ (by decide)
 have e3:Int.fdiv x (2 ^ (Min.min (8:Int).toNat (IntKind.bits IntKind.u32)))=x / 256:=Int.fdiv_eq_ediv_of_nonneg _ (by decide)
 simp only [Yo,J9,e1,e2,e3,w8_mod,four]
 rw [show x / 16777216 % 256=x / 16777216 by omega]
def Gi (l:List Int):List Int:=FN (l.length:Int)++(four (Lc l)++l)
def frameT (t:ByteArray):ByteArray×Bool:=bif NM (t.size:Int) 1 9000 then (ofBytes (Gi (bs t)),true) else (⟨#[]⟩,false)
theorem RAW {l:List Int} (h:DY l):DY (Gi l):=by
 intro x hx
 rcases List.mem_append.1 hx with hx | hx
 ·exact Ci (by omega) x hx
 ·rcases List.mem_append.1 hx with hx | hx
  ·exact Yj (O4 l) x hx
  ·exact h x hx
theorem CAM (t:ByteArray):(ofBytes (FN (t.size:Int))++ofBytes (four (Lc (bs t))))++t=ofBytes (Gi (bs t)):=by
 apply YZ
 rw [LY,LY,SN (Ci (by omega)),SN (Yj (O4 _)),SN (RAW (Xe t)),Gi,bs_len,List.append_assoc]
theorem AAc {t:ByteArray} (h:t.size≤140737488351232):(frameT t).1.size≤t.size+14:=by
 rw [frameT]
 cases NM (t.size:Int) 1 9000
 ·exact Nat.zero_le _
 ·rw [cond_true,ofBytes_size,Gi,List.length_append,List.length_append,bs_len]
  have:(four (Lc (bs t))).length=4:=rfl
  have:=UY (n:=(t.size:Int)) (by omega)
  omega
theorem SAW {t:ByteArray} (h:t.size≤140737488351232):Zo t=some (frameT t):=by
 rw [Zo,N9,Yc,Option.bind_some,frameT]
 cases h1:NM (t.size:Int) 1 9000
 ·rfl
 ·rw [ZX] at h1
  have:=UY (n:=(t.size:Int)) (by omega)
  rw [IK (by rfl),Vf (by omega),Option.bind_some,PAW h,Option.bind_some,QAW (O4 _),Option.bind_some,TB (by rw [ofBytes_size,ofBytes_size,decide_eq_true_eq];have:(four (Lc (bs t))).length=4:=rfl;omega)]
  rw [TB (by rw [ByteArray.size_append,ofBytes_size,ofBytes_size,decide_eq_true_eq];have:(four (Lc (bs t))).length=4:=rfl;omega),CAM,cond_true]
def WX:ByteArray:=⟨#[98,111,111,107]⟩
def NY (k:ByteArray) (count:Int) (r:SRec):List SAct×Bool:=
 bif (TT r).2 && NM count 0 10000 then ([⟨1,WX,(frameT (Jc k (count+1) (TT r).1).1).1,⟨#[]⟩⟩,⟨2,WX,⟨#[]⟩,⟨#[]⟩⟩],true) else ([],false)
theorem DAM {k s:ByteArray} {num:Int} (h:0≤num∧num≤1000000000) (hs:s.size≤8000):(Jc k num s).2=true∧(Jc k num s).1=ofBytes (Ew (bs k) num (bs s))∧(Jc k num s).1.size=s.size+16:=by
 have hm:maskOk num s.size=true:=WAF.2 ⟨h,by omega,by omega⟩
 rw [Jc,hm]
 refine ⟨rfl,rfl,?_⟩
 rw [cond_true,ofBytes_size,Ew,List.length_append,TAF (by rw [RAF];omega),VAF,bs_len]
theorem TAW {t:ByteArray} (h:1≤t.size∧t.size≤9000):(frameT t).2=true∧(frameT t).1=ofBytes (Gi (bs t)):=by
 have hm:NM (t.size:Int) 1 9000=true:=ZX.2 (by omega)
 rw [frameT,hm];exact ⟨rfl,rfl⟩
theorem UAW {k:ByteArray} {count:Int} {r:SRec} (hk:k.size≤900000000):Ap k count r=some (NY k count r):=by
 have hz:=U3 r
 rw [Ap,P9,IAL,Option.bind_some,NY]
 cases h1:(TT r).2
 ·rfl
 rw [IK (by rfl),Yc,Option.bind_some,Bool.true_and]
 cases h2:NM count 0 10000
 ·rfl
 rw [ZX] at h2
 obtain ⟨l1,l2,l3⟩:=DAM (k:=k) (s:=(TT r).1) (num:=count+1) (by omega) (by omega)
 rw [IK (by rfl),w64_id (by omega) (by omega),KAW hk (by omega),Option.bind_some,SAW (by omega)]
 rfl
theorem EAM (s:ByteArray):Ie s=some (NM (s.size:Int) 1 8):=by
 rw [Ie,Q9,Yc];rfl
def FZ (f:SFile):Bool:=NM (f.fName.size:Int) 1 8 && (!decide ((f.fText.size:Int) > 20000) && NM f.fKept 0 (f.fText.size:Int))
def Ia:ByteArray→List SFile→Bool
 | _,[]=>true
 | p,f::fs=>FZ f && (Op.bytesLess p.toList f.fName.toList && Ia f.fName fs)
def Df (l:List SFile):Nat→ByteArray
 | 0=>⟨#[]⟩
 | i+1=>((l[i]?).map (·.fName)).getD ⟨#[]⟩
theorem XAF {l:List SFile} {i:Nat} (hi:i<l.length):Df l (i+1)=l[i].fName:=by simp [Df,hi]
theorem FAM {l:List SFile} {i:Nat} (hi:i<l.length):Ia (Df l i) (l.drop i)=(FZ l[i] && (Op.bytesLess (Df l i).toList l[i].fName.toList && Ia (Df l (i+1)) (l.drop (i+1)))):=by
 rw [drop_at hi,Ia,XAF hi]
def GY (d:SDisk):Bool:=decide ((d.fFiles.length:Int)≤30) && Ia ⟨#[]⟩ d.fFiles
theorem YAF {s:ByteArray} (h:1≤s.size):Op.bytesLess (⟨#[]⟩:ByteArray).toList s.toList=true:=by
 rw [ByteArray.toList_eq,ByteArray.toList_eq]
 obtain ⟨⟨l⟩⟩:=s
 cases l with
 | nil=>exact absurd h (Nat.not_succ_le_zero 0)
 | cons x l=>rfl
def KY:List SFile→ByteArray→Nat→Option Nat
 | [],_,_=>none
 | f::fs,n,i=>if f.fName.toList == n.toList then some i else KY fs n (i+1)
theorem U4 {n:ByteArray}:∀ {fs:List SFile} {i j:Nat},KY fs n i=some j→i≤j∧j<i+fs.length:=by
 intro fs
 induction fs with
 | nil=>intro i j h;cases h
 | cons f fs ih=>
  intro i j h
  rw [KY] at h
  rw [List.length_cons]
  split at h
  ·cases h;omega
  ·have:=ih h;omega
def Xa (d:SDisk) (n:ByteArray):Int:=match KY d.fFiles n 0 with | some j=>(j:Int) | none=> -1
def Qd:SFile:=⟨⟨#[]⟩,⟨#[]⟩,0⟩
def BAc (d:SDisk) (n:ByteArray):ByteArray×Bool:=match KY d.fFiles n 0 with | some j=>((d.fFiles.getD j Qd).fText,true) | none=>(⟨#[]⟩,false)
theorem VAW (d:SDisk):Gp d=some (GY d):=by
 rw [Gp,V9,GY]
 by_cases h0:(d.fFiles.length:Int)≤30
 ·rw [IK (by simp;omega),decide_eq_true h0,Bool.true_and]
  have key:∀ (j i m:Nat),i+j=d.fFiles.length→Fp (m+j+1) (.c0 (i:Int) d)=some (Ia (Df d.fFiles i) (d.fFiles.drop i)):=by
   intro j
   induction j with
   | zero=>
    intro i m h
    obtain rfl:i=d.fFiles.length:=by omega
    rw [Fp]
    simp only [Dy]
    rw [IK (by simp),List.drop_length];rfl
   | succ j ih=>
    intro i m h
    have hi:i<d.fFiles.length:=by omega
    have e:w64 ((i:Int)+1)=((i+1:Nat):Int):=by rw [w64_id (by omega) (by omega)];rfl
    have h2:=ih (i+1) m (by omega)
    rw [show m+(j+1)+1=(m+j+1)+1 by omega,Fp]
    simp only [Dy,e,Int.toNat_natCast,getD_at hi,EAM,Yc,Option.bind_some]
    rw [TB (by simp;omega),TB (by simp;omega),FAM hi,FZ,h2]
    cases hn:NM (d.fFiles[i].fName.size:Int) 1 8
    ·rfl
    cases decide ((d.fFiles[i].fText.size:Int) > 20000)
    ·cases NM d.fFiles[i].fKept 0 (d.fFiles[i].fText.size:Int)
     ·rfl
     ·by_cases hz:i=0
      ·subst hz
       rw [ZX] at hn
       rw [show Df d.fFiles 0=⟨#[]⟩ from rfl,YAF (by omega)];rfl
      ·obtain ⟨i',rfl⟩:∃ q,i=q+1:=⟨i - 1,by omega⟩
       have e2:w64 (((i'+1:Nat):Int) - 1)=(i':Int):=by rw [w64_id (by omega) (by omega)];omega
       rw [e2,Int.toNat_natCast,getD_at (show i'<d.fFiles.length by omega),XAF (i:=i') (by omega),IK (by rfl),IK (by rfl),IK (by rfl),TB (by simp;try omega),TB (by simp;try omega)]
       cases Op.bytesLess d.fFiles[i'].fName.toList d.fFiles[i'+1].fName.toList <;> rfl
    ·rfl
  obtain ⟨m,hm⟩:∃ m,gas=m+d.fFiles.length+1:=⟨gas - (d.fFiles.length+1),by have:=gas_lt (n:=d.fFiles.length+1) (by omega);omega⟩
  rw [hm]
  exact key d.fFiles.length 0 m (by omega)
 ·rw [TB (by simp;omega),decide_eq_false h0];rfl
theorem WAW {d:SDisk} {n:ByteArray} (h0:d.fFiles.length≤140737488351232):Np d n=some (Xa d n):=by
 have key:∀ (j i m:Nat),i+j=d.fFiles.length→Jp (m+j+1) (.c0 n (i:Int) d)=some (match KY (d.fFiles.drop i) n i with | some j=>(j:Int) | none=> -1):=by
  intro j
  induction j with
  | zero=>
   intro i m h
   obtain rfl:i=d.fFiles.length:=by omega
   rw [Jp]
   simp only [Ey]
   rw [IK (by simp),List.drop_length];rfl
  | succ j ih=>
   intro i m h
   have hi:i<d.fFiles.length:=by omega
   have e:w64 ((i:Int)+1)=((i+1:Nat):Int):=by rw [w64_id (by omega) (by omega)];rfl
   rw [show m+(j+1)+1=(m+j+1)+1 by omega,Jp]
   simp only [Ey,e,Int.toNat_natCast,getD_at hi,ih (i+1) m (by omega)]
   rw [TB (by simp;omega),TB (by simp;omega),drop_at hi,KY]
   cases d.fFiles[i].fName.toList == n.toList <;> rfl
 obtain ⟨m,hm⟩:∃ m,gas=m+d.fFiles.length+1:=⟨gas - (d.fFiles.length+1),by have:=gas_lt (n:=d.fFiles.length+1) (by omega);omega⟩
 rw [Np,X9,hm,Xa]
 exact key d.fFiles.length 0 m (by omega)
theorem ZAF:∀ l:List UInt8,Op.bytesLess l l=false:=by
 intro l
 induction l with
 | nil=>rfl
 | cons x l ih=>simp [Op.bytesLess,ih]
theorem AAG:∀ {a b c:List UInt8},Op.bytesLess a b=true→Op.bytesLess b c=true→Op.bytesLess a c=true:=by
 intro a
 induction a with
 | nil=>
  intro b c h1 h2
  cases c with
  | nil=>cases b <;> simp [Op.bytesLess] at h2
  | cons=>rfl
 | cons x a ih=>
  intro b c h1 h2
  cases b with
  | nil=>simp [Op.bytesLess] at h1
  | cons y b=>
   cases c with
   | nil=>simp [Op.bytesLess] at h2
   | cons z c=>
    simp only [Op.bytesLess,Bool.or_eq_true,Bool.and_eq_true,decide_eq_true_eq,beq_iff_eq] at h1 h2 ⊢
    rcases h1 with h1 | ⟨rfl,h1⟩ <;> rcases h2 with h2 | ⟨rfl,h2⟩
    ·exact .inl (UInt8.lt_trans h1 h2)
    ·exact .inl h1
    ·exact .inl h2
    ·exact .inr ⟨rfl,ih h1 h2⟩
theorem XAW:∀ {a b:List UInt8},Op.bytesLess a b=false→a≠b→Op.bytesLess b a=true:=by
 intro a
 induction a with
 | nil=>
  intro b h1 h2
  cases b with
  | nil=>exact absurd rfl h2
  | cons=>simp [Op.bytesLess] at h1
 | cons x a ih=>
  intro b h1 h2
  cases b with
  | nil=>rfl
  | cons y b=>
   simp only [Op.bytesLess,Bool.or_eq_false_iff,decide_eq_false_iff_not,Bool.and_eq_false_iff,beq_eq_false_iff_ne] at h1
   simp only [Op.bytesLess,Bool.or_eq_true,Bool.and_eq_true,decide_eq_true_eq,beq_iff_eq]
   obtain ⟨h3,h4⟩:=h1
   by_cases he:x=y
   ·subst he
    refine .inr ⟨rfl,ih (h4.resolve_left (fun h=>h rfl)) (fun h=>h2 (by rw [h]))⟩
   ·refine .inl (UInt8.lt_of_le_of_ne (UInt8.not_lt.1 h3) (Ne.symm he))
theorem BAG {a b:List UInt8} (h:Op.bytesLess a b=true):Op.bytesLess b a=false:=by
 cases h2:Op.bytesLess b a
 ·rfl
 ·have:=AAG h h2
  rw [ZAF] at this;cases this
theorem CAG {a b:List UInt8} (h:Op.bytesLess a b=true):a≠b:=by
 rintro rfl;rw [ZAF] at h;cases h
def RV (l:List SFile) (n:ByteArray):List SFile:=l.filter fun f=> !(f.fName.toList == n.toList)
def Ja (l:List SFile) (n:ByteArray):List SFile:=l.filter fun f=>Op.bytesLess f.fName.toList n.toList
def GZ (l:List SFile) (n:ByteArray):List SFile:=l.filter fun f=> !(Op.bytesLess f.fName.toList n.toList || (f.fName.toList == n.toList))
def FY (l:List SFile) (f:SFile):List SFile:=Ja l f.fName++[f]++GZ l f.fName
def Xf:List SFile→ByteArray→List SFile
 | [],_=>[]
 | g::gs,n=>bif g.fName.toList == n.toList then gs else g::Xf gs n
def Ef:List SFile→SFile→List SFile
 | [],f=>[f]
 | g::gs,f=>bif Op.bytesLess g.fName.toList f.fName.toList then g::Ef gs f else f::g::gs
def Sorted (l:List SFile):Prop:=l.Pairwise fun a b=>Op.bytesLess a.fName.toList b.fName.toList=true
theorem YAW:∀ {l:List SFile} {p:ByteArray},Ia p l=true→Sorted l∧∀ f ∈ l,Op.bytesLess p.toList f.fName.toList=true:=by
 intro l
 induction l with
 | nil=>intro p _;exact ⟨List.Pairwise.nil,fun f hf=>by cases hf⟩
 | cons g gs ih=>
  intro p h
  rw [Ia,Bool.and_eq_true,Bool.and_eq_true] at h
  obtain ⟨h1,h2⟩:=ih h.2.2
  refine ⟨List.Pairwise.cons h2 h1,fun f hf=>?_⟩
  rcases List.mem_cons.1 hf with rfl | hf
  ·exact h.2.1
  ·exact AAG h.2.1 (h2 f hf)
theorem ZAW {d:SDisk} (h:GY d=true):Sorted d.fFiles:=by
 rw [GY,Bool.and_eq_true] at h
 exact (YAW h.2).1
theorem EAG {l:List SFile} {n:ByteArray} (h:∀ f ∈ l,Op.bytesLess n.toList f.fName.toList=true):RV l n=l∧Ja l n=[]∧GZ l n=l:=by
 refine ⟨List.filter_eq_self.2 fun f hf=>?_,List.filter_eq_nil_iff.2 fun f hf=>?_,List.filter_eq_self.2 fun f hf=>?_⟩
 ·rw [show (f.fName.toList == n.toList)=false from beq_eq_false_iff_ne.2 (Ne.symm (CAG (h f hf)))];rfl
 ·rw [BAG (h f hf)];exact Bool.false_ne_true
 ·rw [BAG (h f hf),show (f.fName.toList == n.toList)=false from beq_eq_false_iff_ne.2 (Ne.symm (CAG (h f hf)))];rfl
theorem AAX:∀ {l:List SFile} {n:ByteArray},Sorted l→Xf l n=RV l n:=by
 intro l
 induction l with
 | nil=>intro n _;rfl
 | cons g gs ih=>
  intro n h
  obtain ⟨h1,h2⟩:=List.pairwise_cons.1 h
  rw [Xf,RV,List.filter_cons]
  cases he:g.fName.toList == n.toList
  ·rw [cond_false,Bool.not_false,if_pos rfl,ih h2,RV]
  ·rw [cond_true,Bool.not_true,if_neg Bool.false_ne_true]
   rw [beq_iff_eq] at he
   exact (EAG (n:=n) (fun f hf=>by have:=h1 f hf;rwa [he] at this)).1.symm
theorem BAX:∀ {l:List SFile} {n:ByteArray} {i:Nat},match KY l n i with | some j=>l.take (j - i)++l.drop (j - i+1)=Xf l n | none=>Xf l n=l:=by
 intro l
 induction l with
 | nil=>intro n i;rfl
 | cons g gs ih=>
  intro n i
  rw [KY,Xf]
  cases he:g.fName.toList == n.toList
  ·rw [if_neg Bool.false_ne_true,cond_false]
   have:=ih (n:=n) (i:=i+1)
   cases hp:KY gs n (i+1) with
   | none=>rw [hp] at this;show g::Xf gs n=g::gs;rw [this]
   | some j=>
    rw [hp] at this
    have hj:=(U4 hp).1
    show (g::gs).take (j - i)++(g::gs).drop (j - i+1)=g::Xf gs n
    rw [←this,show j - i=(j - (i+1))+1 by omega,List.take_succ_cons,List.drop_succ_cons];rfl
  ·rw [if_pos rfl,cond_true]
   show (g::gs).take (i - i)++(g::gs).drop (i - i+1)=gs
   rw [Nat.sub_self];rfl
theorem CAX {f:SFile}:∀ {l:List SFile},Sorted l→Ef (RV l f.fName) f=FY l f:=by
 intro l
 induction l with
 | nil=>intro _;rfl
 | cons g gs ih=>
  intro h
  obtain ⟨h1,h2⟩:=List.pairwise_cons.1 h
  cases hl:Op.bytesLess g.fName.toList f.fName.toList
  ·have hins:Ef gs f=f::gs∨True:=.inr trivial
   by_cases he:g.fName.toList=f.fName.toList
   ·have ho:=EAG (l:=gs) (n:=f.fName) (fun x hx=>by have:=h1 x hx;rwa [he] at this)
    have hb:(g.fName.toList == f.fName.toList)=true:=beq_iff_eq.2 he
    have e1:RV (g::gs) f.fName=gs:=by rw [RV,List.filter_cons,hb];exact ho.1
    have e2:Ja (g::gs) f.fName=[]:=by rw [Ja,List.filter_cons,hl];exact ho.2.1
    have e3:GZ (g::gs) f.fName=gs:=by rw [GZ,List.filter_cons,hl,hb];exact ho.2.2
    rw [e1,FY,e2,e3]
    cases gs with
    | nil=>rfl
    | cons x xs=>
     have hx:=h1 x (List.mem_cons_self ..)
     rw [he] at hx
     rw [Ef,BAG hx];rfl
   ·have hg:=XAW hl he
    have ho:=EAG (l:=g::gs) (n:=f.fName) (fun x hx=>by
     rcases List.mem_cons.1 hx with rfl | hx
     ·exact hg
     ·exact AAG hg (h1 x hx))
    rw [ho.1,FY,ho.2.1,ho.2.2,Ef,hl];rfl
  ·have hb:(g.fName.toList == f.fName.toList)=false:=beq_eq_false_iff_ne.2 (CAG hl)
   have e1:RV (g::gs) f.fName=g::RV gs f.fName:=by rw [RV,List.filter_cons,hb];rfl
   have e2:Ja (g::gs) f.fName=g::Ja gs f.fName:=by rw [Ja,List.filter_cons,hl];rfl
   have e3:GZ (g::gs) f.fName=GZ gs f.fName:=by rw [GZ,List.filter_cons,hl];rfl
   rw [e1,Ef,hl,cond_true,ih h2,FY,FY,e2,e3];rfl
theorem V4 {α:Type} {l:List α} {p:α→Bool} {i:Nat} (hi:i<l.length):(l.drop i).filter p=(bif p l[i] then [l[i]] else [])++(l.drop (i+1)).filter p:=by
 rw [drop_at hi,List.filter_cons]
 cases p l[i] <;> rfl
theorem GAM (n:ByteArray):∀ l:List SFile,(Ja l n).length+(GZ l n).length≤l.length:=by
 intro l
 induction l with
 | nil=>exact Nat.le_refl _
 | cons g gs ih=>
  rw [Ja,GZ] at ih ⊢
  rw [List.filter_cons,List.filter_cons,List.length_cons]
  cases Op.bytesLess g.fName.toList n.toList <;> cases g.fName.toList == n.toList <;> simp only [Bool.or_self,Bool.or_true,Bool.or_false,Bool.true_or,Bool.false_or,Bool.not_true,Bool.not_false,if_true,if_false,List.length_cons,Bool.false_eq_true,ite_true,ite_false] <;> omega
theorem HAM {d:SDisk} {f:SFile} (h:d.fFiles.length*40≤140737488351232):Vp d f=some ⟨FY d.fFiles f⟩:=by
 have k1:∀ (j i m:Nat) (out:List SFile),i+j=d.fFiles.length→out.length+(GZ (d.fFiles.drop i) f.fName).length≤d.fFiles.length+1→Je (m+j+1) (.c1 (i:Int) d f [] out)=some ⟨out++GZ (d.fFiles.drop i) f.fName⟩:=by
  intro j
  induction j with
  | zero=>
   intro i m out hi ho
   rw [Je];simp only [Cj]
   rw [IK (by simp;omega),List.drop_of_length_le (by omega)]
   simp [GZ]
  | succ j ih=>
   intro i m out hi ho
   have hil:i<d.fFiles.length:=by omega
   have hw:w64 ((i:Int)+1)=((i+1:Nat):Int):=by rw [w64_id (by omega) (by omega)];rfl
   rw [GZ,V4 hil,List.length_append] at ho
   rw [show m+(j+1)+1=(m+j+1)+1 from rfl,Je]
   simp only [Cj,show decide ((i:Int)<(d.fFiles.length:Int))=true from decide_eq_true (by omega),show decide ((0:Int)≤(i:Int))=true from decide_eq_true (by omega),Bool.and_self,cond_true,Int.toNat_natCast,hw,getD_at hil]
   rw [GZ,V4 hil]
   cases hp : !(Op.bytesLess d.fFiles[i].fName.toList f.fName.toList || (d.fFiles[i].fName.toList == f.fName.toList))
   ·rw [hp] at ho
    rw [cond_false,cond_false,ih (i+1) m _ (by omega) (by simpa [GZ] using ho)];rfl
   ·rw [hp,cond_true] at ho
    have ho':out.length+(1+(GZ (d.fFiles.drop (i+1)) f.fName).length)≤d.fFiles.length+1:=ho
    rw [cond_true,TB (decide_eq_true (by omega)),ih (i+1) m _ (by omega) (by rw [List.length_append];simp;omega),cond_true,List.append_assoc];rfl
 have k0:∀ (j i m:Nat) (out:List SFile),i+j=d.fFiles.length→out.length≤i→Je (m+d.fFiles.length+1+j+1) (.c0 (i:Int) d f [] out)=Je (m+d.fFiles.length+1) (.c1 0 d f [] (out++Ja (d.fFiles.drop i) f.fName++[f])):=by
  intro j
  induction j with
  | zero=>
   intro i m out hi ho
   rw [Je];simp only [Cj]
   rw [IK (by simp;omega),TB (decide_eq_true (by omega)),List.drop_of_length_le (by omega)]
   simp [Ja]
  | succ j ih=>
   intro i m out hi ho
   have hil:i<d.fFiles.length:=by omega
   have hw:w64 ((i:Int)+1)=((i+1:Nat):Int):=by rw [w64_id (by omega) (by omega)];rfl
   rw [show m+d.fFiles.length+1+(j+1)+1=(m+d.fFiles.length+1+j+1)+1 from rfl,Je]
   simp only [Cj,show decide ((i:Int)<(d.fFiles.length:Int))=true from decide_eq_true (by omega),show decide ((0:Int)≤(i:Int))=true from decide_eq_true (by omega),Bool.and_self,cond_true,Int.toNat_natCast,hw,getD_at hil]
   rw [Ja,V4 hil]
   cases Op.bytesLess d.fFiles[i].fName.toList f.fName.toList
   ·rw [cond_false,cond_false,ih (i+1) m _ (by omega) (by omega)];rfl
   ·rw [cond_true,TB (decide_eq_true (by omega)),ih (i+1) m _ (by omega) (by rw [List.length_append];simp;omega),cond_true]
    simp [Ja]
 obtain ⟨m,hm⟩:∃ m,gas=m+d.fFiles.length+1+d.fFiles.length+1:=⟨gas - (d.fFiles.length+1+d.fFiles.length+1),by have:=gas_lt (n:=2*d.fFiles.length+2) (by omega);omega⟩
 have hlh:=GAM f.fName d.fFiles
 rw [Vp,Z9,hm]
 refine (k0 d.fFiles.length 0 m [] (Nat.zero_add _) (Nat.le_refl _)).trans ((k1 d.fFiles.length 0 m _ (Nat.zero_add _) (by rw [List.length_append,List.nil_append,List.drop_zero];simp;omega)).trans ?_)
 simp [FY]
theorem DAX {d:SDisk} {n:ByteArray} (h:d.fFiles.length*40≤140737488351232):Yp d n=some ⟨RV d.fFiles n⟩:=by
 have key:∀ (j i m:Nat) (out:List SFile),i+j=d.fFiles.length→out.length≤i→Xp (m+j+1) (.c0 n (i:Int) d [] out)=some ⟨out++RV (d.fFiles.drop i) n⟩:=by
  intro j
  induction j with
  | zero=>
   intro i m out hi ho
   rw [Xp];simp only [Gy]
   rw [IK (by simp;omega),List.drop_of_length_le (by omega)]
   simp [RV]
  | succ j ih=>
   intro i m out hi ho
   have hil:i<d.fFiles.length:=by omega
   have hw:w64 ((i:Int)+1)=((i+1:Nat):Int):=by rw [w64_id (by omega) (by omega)];rfl
   have d1:decide ((i:Int)<(d.fFiles.length:Int))=true:=decide_eq_true (by omega)
   have d0:decide ((0:Int)≤(i:Int))=true:=decide_eq_true (by omega)
   have d2:decide ((out.length+1)*40≤140737488355328)=true:=decide_eq_true (by omega)
   rw [show m+(j+1)+1=(m+j+1)+1 from rfl,Xp]
   simp only [Gy,d0,d1,d2,Bool.and_self,cond_true,Int.toNat_natCast,hw,getD_at hil]
   rw [ih (i+1) m _ (by omega) (by rw [List.length_append];simp;omega),ih (i+1) m _ (by omega) (by omega),RV,RV,V4 hil]
   cases d.fFiles[i].fName.toList == n.toList <;> simp
 obtain ⟨m,hm⟩:∃ m,gas=m+d.fFiles.length+1:=⟨gas - (d.fFiles.length+1),by have:=gas_lt (n:=d.fFiles.length+1) (by omega);omega⟩
 rw [Yp,BAA,hm]
 exact key d.fFiles.length 0 m [] (Nat.zero_add _) (Nat.le_refl _)
def doneD (l:List SFile):SDisk×Bool:=bif GY ⟨l⟩ then (⟨l⟩,true) else (⟨[]⟩,false)
def Yf (d:SDisk) (a:SAct) (f:SFile):SDisk×Bool:=
 bif a.fKind == 1 then doneD (FY d.fFiles ⟨f.fName,f.fText++a.fText,f.fKept⟩)
 else bif a.fKind == 2 then doneD (FY d.fFiles ⟨f.fName,f.fText,(f.fText.size:Int)⟩)
 else bif a.fKind == 3 then (bif decide (f.fKept<(f.fText.size:Int)) || (a.fTo.toList == a.fName.toList) then (⟨[]⟩,false) else doneD (FY (RV d.fFiles a.fName) ⟨a.fTo,f.fText,f.fKept⟩))
 else bif a.fKind == 4 then doneD (RV d.fFiles a.fName) else (⟨[]⟩,false)
def XY (d:SDisk) (a:SAct):SDisk×Bool:=
 bif GY d && ((a.fKind == 3 || a.fTo.toList == (⟨#[]⟩:ByteArray).toList) && (a.fKind == 1 || a.fText.toList == (⟨#[]⟩:ByteArray).toList)) then
  match KY d.fFiles a.fName 0 with
  | some j=>Yf d a (d.fFiles.getD j Qd)
  | none=>bif a.fKind == 1 then doneD (FY d.fFiles ⟨a.fName,(⟨#[]⟩:ByteArray)++a.fText,0⟩) else (⟨[]⟩,false)
 else (⟨[]⟩,false)
theorem EAX:∀ {l:List SFile} {p:ByteArray},Ia p l=true→∀ f ∈ l,FZ f=true:=by
 intro l
 induction l with
 | nil=>intro p _ f hf;cases hf
 | cons g gs ih=>
  intro p h f hf
  rw [Ia,Bool.and_eq_true,Bool.and_eq_true] at h
  rcases List.mem_cons.1 hf with rfl | hf
  ·exact h.1
  ·exact ih h.2.2 f hf
theorem Ii {d:SDisk} (h:GY d=true):d.fFiles.length≤30∧∀ f ∈ d.fFiles,FZ f=true:=by
 rw [GY,Bool.and_eq_true,decide_eq_true_eq] at h
 exact ⟨by omega,EAX h.2⟩
theorem X4 {f:SFile}:FZ f=true↔(1≤(f.fName.size:Int)∧(f.fName.size:Int)≤8)∧(f.fText.size:Int)≤20000∧0≤f.fKept∧f.fKept≤(f.fText.size:Int):=by
 rw [FZ,Bool.and_eq_true,Bool.and_eq_true,ZX,ZX]
 simp
theorem IAM {l:List SFile} {f:SFile} (hf:f ∈ l) (h:FZ f=false):doneD l=(⟨[]⟩,false):=by
 rw [doneD]
 cases hd:GY ⟨l⟩
 ·rfl
 ·rw [(Ii hd).2 f hf] at h;cases h
theorem JAM (l:List SFile) (f:SFile):f ∈ FY l f:=by rw [FY];simp
theorem KAM {f:SFile} (h:NM (f.fName.size:Int) 1 8=false):FZ f=false:=by rw [FZ,h];rfl
theorem LAM (l:List SFile) (n:ByteArray):(RV l n).length≤l.length:=List.length_filter_le _ _
theorem FAX {l:List SFile} {n:ByteArray} (h:Sorted l):Sorted (RV l n):=List.Pairwise.filter _ h
theorem GAX {n:ByteArray}:∀ {fs:List SFile} {i j:Nat},KY fs n i=some j→(fs.getD (j - i) Qd).fName.toList=n.toList:=by
 intro fs
 induction fs with
 | nil=>intro i j h;cases h
 | cons f fs ih=>
  intro i j h
  rw [KY] at h
  split at h
  ·rename_i he
   cases h
   rw [Nat.sub_self];exact beq_iff_eq.1 he
  ·have h1:=ih h
   have h2:=(U4 h).1
   rw [show j - i=(j - (i+1))+1 by omega,List.getD_cons_succ];exact h1
theorem FAG {d:SDisk} {n:ByteArray} {j:Nat} (h:GY d=true) (hp:KY d.fFiles n 0=some j):j<d.fFiles.length∧FZ (d.fFiles.getD j Qd)=true∧NM (n.size:Int) 1 8=true∧(d.fFiles.getD j Qd).fName=n:=by
 have h1:=(U4 hp).2
 have h2:=GAX hp
 rw [Nat.sub_zero] at h2
 have h3:j<d.fFiles.length:=by omega
 have h4:FZ (d.fFiles.getD j Qd)=true:=by rw [getD_at h3];exact (Ii h).2 _ (List.getElem_mem _)
 have h5:(d.fFiles.getD j Qd).fName=n:=by
  have:=toList_inj (s:=(d.fFiles.getD j Qd).fName) (t:=n)
  rw [h2,beq_self_eq_true] at this
  exact of_decide_eq_true this.symm
 refine ⟨h3,h4,?_,h5⟩
 rw [FZ,Bool.and_eq_true,h5] at h4
 exact h4.1
theorem HAX {d:SDisk} {a:SAct} (hd:d.fFiles.length*40≤140737488351232) (ha:a.fText.size≤140737488351232):Ug d a=some (XY d a):=by
 have ho:=LAM d.fFiles a.fName
 rw [Ug,CAA,XY]
 simp only [VAW,EAM,WAW (d:=d) (n:=a.fName) (by omega),DAX (d:=d) (n:=a.fName) hd,fun f=>HAM (d:=d) (f:=f) hd,fun f=>HAM (d:=⟨RV d.fFiles a.fName⟩) (f:=f) (show (RV d.fFiles a.fName).length*40≤_ by omega),Option.bind_some,bne]
 cases hdk:GY d
 ·rfl
 obtain ⟨hl,hok⟩:=Ii hdk
 have fin:∀ l:List SFile,(bif !GY ⟨l⟩ then some ((⟨[]⟩:SDisk),false) else some (⟨l⟩,true))=some (doneD l):=fun l=>by rw [doneD];cases GY ⟨l⟩ <;> rfl
 simp only [fin,Bool.true_and]
 cases hn:NM (a.fName.size:Int) 1 8
 ·rw [Bool.not_true,cond_false,Bool.not_false,cond_true]
  cases hp:KY d.fFiles a.fName 0 with
  | some j=>rw [(FAG hdk hp).2.2.1] at hn;cases hn
  | none=>
   simp only [IAM (JAM d.fFiles _) (KAM (f:=⟨a.fName,(⟨#[]⟩:ByteArray)++a.fText,0⟩) hn)]
   cases a.fKind == 1 <;> simp
 have ht:∀ f,FZ f=true→f.fText.size+a.fText.size≤9223372036854775807:=fun f hf=>by have:=(X4.1 hf).2.1;omega
 have hto:NM (a.fTo.size:Int) 1 8=false→∀ f:SFile,doneD (FY (RV d.fFiles a.fName) ⟨a.fTo,f.fText,f.fKept⟩)=(⟨[]⟩,false):=fun h f=>IAM (JAM _ _) (KAM h)
 have key:∀ f:SFile,(bif !NM (a.fTo.size:Int) 1 8 then some ((⟨[]⟩:SDisk),false) else some (doneD (FY (RV d.fFiles a.fName) ⟨a.fTo,f.fText,f.fKept⟩)))=some (doneD (FY (RV d.fFiles a.fName) ⟨a.fTo,f.fText,f.fKept⟩)):=fun f=>by
  cases h:NM (a.fTo.size:Int) 1 8
  ·rw [hto h];rfl
  ·rfl
 simp only [Bool.not_true,cond_false]
 cases hp:KY d.fFiles a.fName 0 with
 | some j=>
  obtain ⟨hj,hfo,_,_⟩:=FAG hdk hp
  simp only [show Xa d a.fName=(j:Int) by rw [Xa,hp],Int.toNat_natCast,show decide ((j:Int)≥0)=true from decide_eq_true (by omega),show decide ((j:Int)<0)=false from decide_eq_false (by omega),show decide ((j:Int)<(d.fFiles.length:Int))=true from decide_eq_true (by omega),Bool.and_self,cond_true,cond_false]
  generalize hf:d.fFiles.getD j Qd=f at hfo
  have hf':d.fFiles.getD j (⟨⟨#[]⟩,⟨#[]⟩,0⟩:SFile)=f:=hf
  simp only [hf',decide_eq_true (ht f hfo),cond_true,key f,Yf]
  cases a.fKind == 1 <;> cases a.fKind == 2 <;> cases a.fKind == 3 <;> cases a.fKind == 4 <;> cases a.fTo.toList == (⟨#[]⟩:ByteArray).toList <;> cases a.fText.toList == (⟨#[]⟩:ByteArray).toList <;> cases decide (f.fKept<(f.fText.size:Int)) <;> cases a.fTo.toList == a.fName.toList <;> rfl
 | none=>
  have hs:decide ((⟨#[]⟩:ByteArray).size+a.fText.size≤9223372036854775807)=true:=decide_eq_true (by show 0+a.fText.size≤_;omega)
  simp only [show Xa d a.fName = -1 by rw [Xa,hp],show decide ((-1:Int)≥0)=false from rfl,show decide ((-1:Int)<0)=true from rfl,hs,cond_true,cond_false]
  cases a.fKind == 1 <;> cases a.fKind == 2 <;> cases a.fKind == 3 <;> cases a.fKind == 4 <;> cases a.fTo.toList == (⟨#[]⟩:ByteArray).toList <;> cases a.fText.toList == (⟨#[]⟩:ByteArray).toList <;> rfl
def QY:SDisk→List SAct→Int→SDisk×Int
 | d,[],i=>(d,i)
 | d,a::r,i=>bif (XY d a).2 then QY (XY d a).1 r (i+1) else (d,i)
theorem Gw {l:List SFile} (h:(doneD l).2=true):GY (doneD l).1=true:=by
 rw [doneD] at h ⊢
 cases hd:GY ⟨l⟩
 ·rw [hd] at h;cases h
 ·rw [cond_true];exact hd
theorem IAX {d:SDisk} {a:SAct} {f:SFile} (h:(Yf d a f).2=true):GY (Yf d a f).1=true:=by
 rw [Yf] at h ⊢
 revert h
 cases a.fKind == 1
 ·cases a.fKind == 2
  ·cases a.fKind == 3
   ·cases a.fKind == 4
    ·intro h;cases h
    ·intro h;exact Gw h
   ·cases decide (f.fKept<(f.fText.size:Int)) || (a.fTo.toList == a.fName.toList)
    ·intro h;exact Gw h
    ·intro h;cases h
  ·intro h;exact Gw h
 ·intro h;exact Gw h
theorem GAG {d:SDisk} {a:SAct} (h:(XY d a).2=true):GY (XY d a).1=true:=by
 rw [XY] at h ⊢
 revert h
 cases GY d && ((a.fKind == 3 || a.fTo.toList == (⟨#[]⟩:ByteArray).toList) && (a.fKind == 1 || a.fText.toList == (⟨#[]⟩:ByteArray).toList))
 ·intro h;cases h
 ·cases KY d.fFiles a.fName 0 with
  | some j=>intro h;exact IAX h
  | none=>
   cases a.fKind == 1
   ·intro h;cases h
   ·intro h;exact Gw h
theorem JAX:∀ (l:List SAct) (d:SDisk) (i:Int) (B:Nat),30≤B→d.fFiles.length≤B→(QY d l i).1.fFiles.length≤B:=by
 intro l
 induction l with
 | nil=>intro d i B _ h;exact h
 | cons a r ih=>
  intro d i B hB h
  rw [QY]
  cases ha:(XY d a).2
  ·exact h
  ·exact ih _ _ B hB (Nat.le_trans (Ii (GAG ha)).1 hB)
theorem KAX {d:SDisk} {l:List SAct} (hd:d.fFiles.length*40≤140737488351232) (hl:l.length≤140737488351232) (ha:∀ a ∈ l,a.fText.size≤140737488351232):Bq d l=some (QY d l 0):=by
 have key:∀ (j i m:Nat) (out:List SFile),i+j=l.length→out.length*40≤140737488351232→Aq (m+j+1) (.c0 l (i:Int) [] out)=some (QY ⟨out⟩ (l.drop i) (i:Int)):=by
  intro j
  induction j with
  | zero=>
   intro i m out hi ho
   rw [Aq];simp only [Iy]
   rw [IK (by simp;omega),List.drop_of_length_le (by omega),QY,show (l.length:Int)=(i:Int) by omega]
  | succ j ih=>
   intro i m out hi ho
   have hil:i<l.length:=by omega
   have hw:w64 ((i:Int)+1)=((i+1:Nat):Int):=by rw [w64_id (by omega) (by omega)];rfl
   rw [show m+(j+1)+1=(m+j+1)+1 from rfl,Aq]
   simp only [Iy,show decide ((i:Int)<(l.length:Int))=true from decide_eq_true (by omega),show decide ((0:Int)≤(i:Int))=true from decide_eq_true (by omega),Bool.and_self,cond_true,Int.toNat_natCast,hw,getD_at hil,HAX (d:=⟨out⟩) (a:=l[i]) ho (ha _ (List.getElem_mem hil)),Option.bind_some]
   rw [drop_at hil,QY]
   cases hr:(XY ⟨out⟩ l[i]).2
   ·rfl
   ·have h30:=(Ii (GAG hr)).1
    rw [Bool.not_true,cond_false,cond_true,ih (i+1) m _ (by omega) (by omega)];rfl
 obtain ⟨m,hm⟩:∃ m,gas=m+l.length+1:=⟨gas - (l.length+1),by have:=gas_lt (n:=l.length+1) (by omega);omega⟩
 rw [Bq,EAA,TB (decide_eq_true (by omega)),hm]
 exact key l.length 0 m _ (Nat.zero_add _) hd
theorem MAM (t:ByteArray):(frameT t).1.size≤9100:=by
 rw [frameT]
 cases h:NM (t.size:Int) 1 9000
 ·exact Nat.zero_le _
 ·rw [ZX] at h
  have:=UY (n:=(t.size:Int)) (by omega)
  rw [cond_true,ofBytes_size,Gi,List.length_append,List.length_append,bs_len]
  have h4:(four (Lc (bs t))).length=4:=rfl
  omega
def LAX:SBox:=⟨⟨#[]⟩,false,⟨[]⟩,⟨⟨#[]⟩,0,[],0,⟨#[]⟩,0⟩,[],[],0⟩
theorem NAM (k:ByteArray) (c:Int) (r:SRec):(NY k c r).1.length≤2∧∀ a ∈ (NY k c r).1,a.fText.size≤140737488351232:=by
 rw [NY]
 cases (TT r).2 && NM c 0 10000
 ·exact ⟨Nat.zero_le _,fun a h=>by cases h⟩
 ·refine ⟨Nat.le_refl _,fun a h=>?_⟩
  rw [cond_true] at h
  rcases List.mem_cons.1 h with rfl | h
  ·exact Nat.le_trans (MAM _) (by decide)
  ·rw [List.mem_singleton.1 h];exact Nat.zero_le _
theorem MAX {k:ByteArray} {d:SDisk} {c:Int} {r:SRec} (hk:k.size≤900000000) (hd:d.fFiles.length*40≤140737488351232):Dq k d c r=some (QY d (NY k c r).1 0).1:=by
 obtain ⟨h1,h2⟩:=NAM k c r
 rw [Dq,GAA,UAW hk,Option.bind_some,KAX hd (by omega) h2];rfl
theorem HAG {n:Nat} (h:n≤1000000000):Qc (n:Int)=some (ofBytes (List.replicate n 0)):=by
 simp only [Qc,JAA,Int.toNat_natCast]
 rw [TB (by simp;omega)]
theorem IAG {x:Int} (h:R32 x):Nb x=some (ofBytes (four x)):=by
 obtain ⟨h1,h2⟩:=h
 have e1:Int.fdiv x (2 ^ (Min.min (24:Int).toNat (IntKind.bits IntKind.u32)))=x / 16777216:=Int.fdiv_eq_ediv_of_nonneg _ (by decide)
 have e2:Int.fdiv x (2 ^ (Min.min (16:Int).toNat (IntKind.bits IntKind.u32)))=x / 65536:=Int.fdiv_eq_ediv_of_nonneg _ (by decide)
 have e3:Int.fdiv x (2 ^ (Min.min (8:Int).toNat (IntKind.bits IntKind.u32)))=x / 256:=Int.fdiv_eq_ediv_of_nonneg _ (by decide)
 simp only [Nb,MAA,e1,e2,e3,w8_mod,four]
 rw [show x / 16777216 % 256=x / 16777216 by omega]
theorem NAX {n:Nat} (h:n<1099511627776):Gq (n:Int)=some (ofBytes (Bc (n:Int))):=by
 have e1:Int.fdiv (n:Int) (2 ^ (Min.min (32:Int).toNat (IntKind.bits IntKind.i64)))=(n:Int) / 4294967296:=Int.fdiv_eq_ediv_of_nonneg _ (by decide)
 simp only [Gq,PAA,e1,IAG (MZ _),Option.bind_some]
 rw [TB (by rw [ofBytes_size,ofBytes_size];simp [four])]
 congr 1
 apply YZ
 rw [LY,SN (Yj (MZ _)),SN (Yj (MZ _)),SN (fun x hx=>by
  simp only [Bc,List.mem_cons,List.not_mem_nil,or_false] at hx
  omega)]
 simp only [four,Bc,Rh,List.cons_append,List.nil_append,List.cons.injEq,and_true]
 omega
theorem OAX {n:Nat} (h:n≤100000000000):Hq (n:Int)=some (ofBytes (AY n)):=by
 have e1:(w64 (119 - ((n:Int).tmod 64))).tmod 64=(((119 - n % 64) % 64:Nat):Int):=by
  have a:(n:Int).tmod 64=(n:Int) % 64:=Int.tmod_eq_emod_of_nonneg (by omega)
  rw [a,w64_id (by omega) (by omega),Int.tmod_eq_emod_of_nonneg (by omega)]
  omega
 have e2:w64 (8*(n:Int))=((8*n:Nat):Int):=by rw [w64_id (by omega) (by omega)];omega
 have h0:(⟨#[128]⟩:ByteArray).size=1:=rfl
 simp only [Hq,RAA,e1,e2,HAG (n:=(119 - n % 64) % 64) (by omega),NAX (n:=8*n) (by omega),Option.bind_some]
 rw [TB (by rw [ofBytes_size];simp [h0];omega),TB (by rw [ByteArray.size_append,ofBytes_size,ofBytes_size];simp [h0,Bc];omega)]
 congr 1
 apply YZ
 have hb:DY (List.replicate ((119 - n % 64) % 64) (0:Int)):=fun x hx=>by
  have:=List.eq_of_mem_replicate hx;omega
 have hb2:DY (Bc ((8*n:Nat):Int)):=fun x hx=>by
  simp only [Bc,List.mem_cons,List.not_mem_nil,or_false] at hx
  omega
 rw [LY,LY,SN hb,SN hb2,SN (EAF n),AY]
 have e3:bs (⟨#[128]⟩:ByteArray)=[128]:=rfl
 rw [e3]
 simp
theorem PAX {x:Int} (h:R32 x) (n:Nat) (hn:0<n) (hn2:n<32) (k:Int) (hk:wu64 (((BitVec.toNat ((BitVec.ofInt (IntKind.bits IntKind.u64) (wu64 k)) &&& (BitVec.ofInt (IntKind.bits IntKind.u64) (31:Int)))):Nat):Int)=((32 - n:Nat):Int))
  (hk2:wu64 (32 - ((32 - n:Nat):Int))=(n:Int)):Iq x k=some (rt (2 ^ n) (2 ^ (32 - n)) x):=by
 have e1:Min.min ((32 - n:Nat):Int).toNat (IntKind.bits IntKind.u32)=32 - n:=by
  show Min.min ((32 - n:Nat):Int).toNat 32=_
  omega
 have e2:Min.min (n:Int).toNat (IntKind.bits IntKind.u32)=n:=by
  show Min.min (n:Int).toNat 32=_
  omega
 have e3:Int.fdiv x (2 ^ n)=x / 2 ^ n:=Int.fdiv_eq_ediv_of_nonneg _ (Int.le_of_lt (Int.pow_pos (by omega)))
 simp only [Iq,TAA,hk,hk2,e1,e2,e3]
 rw [show decide ((0:Int)≤(n:Int))=true from decide_eq_true (by omega)]
 simp only [cond_true,HAK]
 rw [CAU h n hn hn2]
theorem Td {x:Int} (h:R32 x) (n:Nat) (hn:0<n) (hn2:n<32) (hk:wu64 (((BitVec.toNat ((BitVec.ofInt (IntKind.bits IntKind.u64) (wu64 (w64 (0 - (n:Int))))) &&& (BitVec.ofInt (IntKind.bits IntKind.u64) (31:Int)))):Nat):Int)=((32 - n:Nat):Int))
  (hk2:wu64 (32 - ((32 - n:Nat):Int))=(n:Int)):OY x (n:Int)=some (rt (2 ^ n) (2 ^ (32 - n)) x):=by
 simp only [OY,UAA,PAX h n hn hn2 _ hk hk2,Option.bind_some]
theorem QAX {x:Int} (h:R32 x):OY x 2=some (rt 4 1073741824 x):=Td h 2 (by decide) (by decide) (by decide) (by decide)
theorem RAX {x:Int} (h:R32 x):OY x 13=some (rt 8192 524288 x):=Td h 13 (by decide) (by decide) (by decide) (by decide)
theorem SAX {x:Int} (h:R32 x):OY x 22=some (rt 4194304 1024 x):=Td h 22 (by decide) (by decide) (by decide) (by decide)
theorem TAX {x:Int} (h:R32 x):OY x 6=some (rt 64 67108864 x):=Td h 6 (by decide) (by decide) (by decide) (by decide)
theorem UAX {x:Int} (h:R32 x):OY x 11=some (rt 2048 2097152 x):=Td h 11 (by decide) (by decide) (by decide) (by decide)
theorem VAX {x:Int} (h:R32 x):OY x 25=some (rt 33554432 128 x):=Td h 25 (by decide) (by decide) (by decide) (by decide)
theorem WAX {x:Int} (h:R32 x):OY x 7=some (rt 128 33554432 x):=Td h 7 (by decide) (by decide) (by decide) (by decide)
theorem XAX {x:Int} (h:R32 x):OY x 18=some (rt 262144 16384 x):=Td h 18 (by decide) (by decide) (by decide) (by decide)
theorem YAX {x:Int} (h:R32 x):OY x 17=some (rt 131072 32768 x):=Td h 17 (by decide) (by decide) (by decide) (by decide)
theorem ZAX {x:Int} (h:R32 x):OY x 19=some (rt 524288 8192 x):=Td h 19 (by decide) (by decide) (by decide) (by decide)
theorem AAY {a b:Int} (ha:0≤a∧a<16777216) (hb:0≤b∧b≤255):Tv (w32 (a*256)) (w32 b)=a*256+b:=by
 obtain ⟨x,rfl⟩:∃ x:Nat,a=(x:Int):=⟨a.toNat,by omega⟩
 obtain ⟨y,rfl⟩:∃ y:Nat,b=(y:Int):=⟨b.toNat,by omega⟩
 rw [OZ (by omega) (by omega),OZ (by omega) (by omega)]
 have:=IAK (a:=x) (b:=y) (s:=8) (by omega) (by omega) (by omega)
 have e:((x*2 ^ 8:Nat):Int)=(x:Int)*256:=by omega
 rw [Int.natCast_add,e] at this
 exact this
def Ya (l:List Int) (i:Nat):Nat→Int
 | 0=>0
 | k+1=>Ya l i k*256+l.getD (4*i+k) 0
theorem BAY (l:List Int) (i:Nat):Ya l i 4=wordAt l i:=by
 simp only [Ya,wordAt,be4,Nat.add_zero]
 omega
theorem CAY {l:List Int} (h:DY l) (i:Nat):∀ k,k<4→0≤Ya l i k∧Ya l i k<16777216
 | 0,_=>by simp [Ya]
 | 1,_=>by have:=CZ h (4*i+0);simp only [Ya];omega
 | 2,_=>by have:=CZ h (4*i+0);have:=CZ h (4*i+1);simp only [Ya];omega
 | 3,_=>by have:=CZ h (4*i+0);have:=CZ h (4*i+1);have:=CZ h (4*i+2);simp only [Ya];omega
theorem EAY {b:ByteArray} (hb:b.size=64) (v:List Int) (i:Nat) (hi:i<16):∀ (j k m:Nat),k+j=4→
  Oa (m+j+1) (.c1 b (i:Int) (i:Int) (k:Int) v (YX (bs b) i++Ya (bs b) i k::List.replicate (63 - i) 0))=Oa m (.c0 b ((i+1:Nat):Int) v (YX (bs b) (i+1)++List.replicate (63 - i) 0)):=by
 have hby:=Xe b
 intro j
 induction j with
 | zero=>
  intro k m h
  obtain rfl:k=4:=by omega
  have e:w64 ((i:Int)+1)=((i+1:Nat):Int):=by rw [w64_id (by omega) (by omega)];rfl
  rw [Oa]
  simp only [Hf,e]
  rw [IK (by simp),BAY,OAK]
  simp
 | succ j ih=>
  intro k m h
  have hk:k<4:=by omega
  have hlen:(YX (bs b) i++Ya (bs b) i k::List.replicate (63 - i) 0).length=64:=by
   simp only [List.length_append,List.length_cons,List.length_replicate,Ye];omega
  have e:w64 ((k:Int)+1)=((k+1:Nat):Int):=by rw [w64_id (by omega) (by omega)];rfl
  have e4:w64 (4*(i:Int))=((4*i:Nat):Int):=by rw [w64_id (by omega) (by omega)];omega
  have e5:w64 (((4*i:Nat):Int)+(k:Int))=((4*i+k:Nat):Int):=by rw [w64_id (by omega) (by omega)];omega
  have e8:(2:Int) ^ (Min.min (8:Int).toNat (IntKind.bits IntKind.u32))=256:=by decide
  have hg:(YX (bs b) i++Ya (bs b) i k::List.replicate (63 - i) 0).getD i 0=Ya (bs b) i k:=by
   rw [Xj (by rw [Ye];omega),Ye,Nat.sub_self];rfl
  rw [show m+(j+1)+1=(m+j+1)+1 by omega,Oa]
  simp only [Hf,e,e4,e5,e8,Int.toNat_natCast,hlen,hg,HAK]
  rw [TB (by simp;omega),TB (by rfl),TB (by simp;omega),TB (by simp;omega),TB (by rfl),TB (by simp;omega)]
  rw [Yb (by omega),AAY (CAY hby i k hk) (CZ hby _),Zb (Ye _ i)]
  exact ih (k+1) m (by omega)
theorem FAY {b:ByteArray} (hb:b.size=64) (v:List Int):∀ (j i m:Nat),i+j=16→Oa (m+6*j+1) (.c0 b (i:Int) v (YX (bs b) i++List.replicate (64 - i) 0))=Oa m (.c2 16 v (YX (bs b) 16++List.replicate 48 0)):=by
 intro j
 induction j with
 | zero=>
  intro i m h
  obtain rfl:i=16:=by omega
  rw [Oa]
  simp only [Hf]
  rw [IK (by simp)]
 | succ j ih=>
  intro i m h
  rw [show m+6*(j+1)+1=(m+6*j+1)+4+1+1 by omega,Oa]
  simp only [Hf]
  rw [TB (by simp;omega)]
  have h1:=EAY hb v i (by omega) 4 0 (m+6*j+1) (by omega)
  rw [show 64 - i=(63 - i)+1 by omega,List.replicate_succ]
  have h2:=ih (i+1) m (by omega)
  rw [show 64 - (i+1)=63 - i by omega] at h2
  exact h1.trans h2
theorem GAY {w v:List Int} (hw:∀ x ∈ w,R32 x) (hwl:w.length=16) (hv:v.length=64):∀ (j i m:Nat),i+j=48→Oa (m+j+1) (.c2 ((16+i:Nat):Int) v (sched w i++List.replicate (48 - i) 0))=some (sched w 48):=by
 intro j
 induction j with
 | zero=>
  intro i m h
  obtain rfl:i=48:=by omega
  have hl:=Yv hwl 48
  rw [Oa]
  simp only [Hf,Nat.sub_self,List.replicate_zero,List.append_nil,hl,hv]
  rfl
 | succ j ih=>
  intro i m h
  have hl:=Yv hwl i
  have hr:=Y1 hw i
  have hlen:(sched w i++List.replicate (48 - i) 0).length=64:=by
   simp only [List.length_append,List.length_replicate,hl];omega
  have e2:w64 (((16+i:Nat):Int) - 2)=((16+i - 2:Nat):Int):=by rw [w64_id (by omega) (by omega)];omega
  have e7:w64 (((16+i:Nat):Int) - 7)=((16+i - 7:Nat):Int):=by rw [w64_id (by omega) (by omega)];omega
  have e15:w64 (((16+i:Nat):Int) - 15)=((16+i - 15:Nat):Int):=by rw [w64_id (by omega) (by omega)];omega
  have e16:w64 (((16+i:Nat):Int) - 16)=((16+i - 16:Nat):Int):=by rw [w64_id (by omega) (by omega)];omega
  have e1:w64 (((16+i:Nat):Int)+1)=((16+(i+1):Nat):Int):=by rw [w64_id (by omega) (by omega)];omega
  have g2:(sched w i++List.replicate (48 - i) 0).getD (16+i - 2) 0=(sched w i).getD (16+i - 2) 0:=Wv (by omega) 0
  have g7:(sched w i++List.replicate (48 - i) 0).getD (16+i - 7) 0=(sched w i).getD (16+i - 7) 0:=Wv (by omega) 0
  have g15:(sched w i++List.replicate (48 - i) 0).getD (16+i - 15) 0=(sched w i).getD (16+i - 15) 0:=Wv (by omega) 0
  have g16:(sched w i++List.replicate (48 - i) 0).getD (16+i - 16) 0=(sched w i).getD (16+i - 16) 0:=Wv (by omega) 0
  have f10:∀ x:Int,Int.fdiv x (2 ^ (Min.min (10:Int).toNat (IntKind.bits IntKind.u32)))=x / 1024:=fun x=>Int.fdiv_eq_ediv_of_nonneg _ (by decide)
  have f3:∀ x:Int,Int.fdiv x (2 ^ (Min.min (3:Int).toNat (IntKind.bits IntKind.u32)))=x / 8:=fun x=>Int.fdiv_eq_ediv_of_nonneg _ (by decide)
  have r15:=Zv hr (16+i - 15)
  have r2:=Zv hr (16+i - 2)
  rw [show m+(j+1)+1=(m+j+1)+1 by omega,Oa]
  simp only [Hf,e1,e2,e7,e15,e16,Int.toNat_natCast,hlen,g2,g7,g15,g16,WAX r15,XAX r15,YAX r2,ZAX r2,Option.bind_some,f10,f3,Xb]
  rw [TB (by simp;omega),TB (by rfl),TB (by simp;omega),TB (by rfl),TB (by simp;omega),TB (by rfl),TB (by simp;omega),TB (by rfl),TB (by simp;omega),TB (by rfl),TB (by simp;omega)]
  rw [show 48 - i=(48 - (i+1))+1 by omega,List.replicate_succ,Zb (by omega)]
  have h2:=ih (i+1) m (by omega)
  rw [sched,List.append_assoc] at h2
  exact h2
theorem HAY {b:ByteArray} (hb:b.size=64):Vg b=some (sched (YX (bs b) 16) 48):=by
 obtain ⟨m,hm⟩:∃ m,gas=(m+48+1)+6*16+1:=⟨gas - 146,by have:=gas_lt (n:=146) (by omega);omega⟩
 rw [Vg,VAA,hm]
 have h0:=FAY hb (List.replicate 64 0) 16 0 (m+48+1) (by omega)
 have h2:=GAY (w:=YX (bs b) 16) (v:=List.replicate 64 0) (CAF (Xe b) 16) (Ye _ 16) (List.length_replicate ..) 48 0 m (by omega)
 rw [show YX (bs b) 0++List.replicate (64 - 0) 0=List.replicate 64 (0:Int) from rfl,show ((0:Nat):Int)=0 from rfl] at h0
 rw [show ((16+0:Nat):Int)=16 from rfl,show sched (YX (bs b) 16) 0=YX (bs b) 16 from rfl,show 48 - 0=48 from rfl] at h2
 rw [h0,h2]
theorem IAY (s r v:List Int) (hs:s.length=8) (hv:v.length=8) (f:Nat→Int) (hf:∀ i,i<8→f i=w32 (r.getD i 0+s.getD i 0)) (hr:r.length=8):∀ (j i m:Nat),i+j=8→Ob (m+j+1) (.c1 (i:Int) s v ((List.range i).map f++r.drop i))=some ((List.range 8).map f):=by
 intro j
 induction j with
 | zero=>
  intro i m h
  obtain rfl:i=8:=by omega
  rw [Ob]
  simp only [Gj]
  rw [IK (by simp),List.drop_of_length_le (by omega),List.append_nil,TB (by simp),TB (by simp [hv]),TB (by simp)]
 | succ j ih=>
  intro i m h
  have e:w64 ((i:Int)+1)=((i+1:Nat):Int):=by rw [w64_id (by omega) (by omega)];rfl
  have hl:((List.range i).map f++r.drop i).length=8:=by simp [hr];omega
  have hm:((List.range i).map f).length=i:=by simp
  have hg:((List.range i).map f++r.drop i).getD i 0=r.getD i 0:=by
   rw [Xj (by omega),hm,Nat.sub_self]
   simp [List.getD]
  rw [show m+(j+1)+1=(m+j+1)+1 by omega,Ob]
  simp only [Gj,e,Int.toNat_natCast,hl,hs,hg]
  rw [TB (by simp;omega),TB (by rfl),TB (by simp;omega),TB (by rfl),TB (by simp;omega),TB (by rfl),TB (by simp;omega)]
  rw [drop_at (by omega:i<r.length),Zb hm,←hf i (by omega)]
  have h2:=ih (i+1) m (by omega)
  rw [List.range_succ,List.map_append,List.append_assoc] at h2
  exact h2
theorem JAY (s v W:List Int) (hW:∀ x ∈ W,R32 x) (hWl:W.length=64) (r:Reg) (hr:r.ok) (i m:Nat) (hi:i<64) :
  Ob (m+1) (.c0 r.a r.b r.c r.d r.e r.f r.g r.h (i:Int) s v W)=Ob m (.c0 (Ac r (keysL.getD i 0) (W.getD i 0)).a (Ac r (keysL.getD i 0) (W.getD i 0)).b (Ac r (keysL.getD i 0) (W.getD i 0)).c (Ac r (keysL.getD i 0) (W.getD i 0)).d (Ac r (keysL.getD i 0) (W.getD i 0)).e (Ac r (keysL.getD i 0) (W.getD i 0)).f (Ac r (keysL.getD i 0) (W.getD i 0)).g (Ac r (keysL.getD i 0) (W.getD i 0)).h ((i+1:Nat):Int) s v W):=by
 obtain ⟨h1,h2,h3,h4,h5,h6,h7,h8⟩:=hr
 have e:w64 ((i:Int)+1)=((i+1:Nat):Int):=by rw [w64_id (by omega) (by omega)];rfl
 rw [Ob]
 simp only [Gj,e,Int.toNat_natCast,hWl,TAX h5,UAX h5,VAX h5,QAX h1,RAX h1,SAX h1,Option.bind_some,Xb,BAF,AAU h5]
 rw [TB (by simp;omega),TB (by simp;omega),TB (by rw [Nat.blt_eq];omega),TB (by rfl),TB (by simp;omega)]
 rfl
theorem KAY (s v W:List Int) (hW:∀ x ∈ W,R32 x) (hWl:W.length=64) (r:Reg) (hr:r.ok):∀ (j i m:Nat),i+j=64→
  Ob (m+j+1) (.c0 (SY keysL W r i).a (SY keysL W r i).b (SY keysL W r i).c (SY keysL W r i).d (SY keysL W r i).e (SY keysL W r i).f (SY keysL W r i).g (SY keysL W r i).h (i:Int) s v W)=Ob m (.c1 0 s v (SY keysL W r 64).l):=by
 intro j
 induction j with
 | zero=>
  intro i m h
  obtain rfl:i=64:=by omega
  rw [Ob]
  simp only [Gj]
  rw [IK (by simp)]
  rfl
 | succ j ih=>
  intro i m h
  rw [show m+(j+1)+1=(m+j+1)+1 by omega,JAY s v W hW hWl _ (NAK keysL W hr i) i _ (by omega)]
  exact ih (i+1) m (by omega)
theorem NAY {s:Reg} (hs:s.ok) {b:ByteArray} (hb:b.size=64):Xg s.l b=some (comp s (bs b)).l:=by
 obtain ⟨m,hm⟩:∃ m,gas=(m+8+1)+64+1:=⟨gas - 74,by have:=gas_lt (n:=74) (by omega);omega⟩
 have hr:=Y1 (CAF (Xe b) 16) 48
 have hl:=Yv (Ye (bs b) 16) 48
 have hsl:s.l.length=8:=rfl
 have z0:(0:Int).toNat=0:=rfl
 have z1:(1:Int).toNat=1:=rfl
 have z2:(2:Int).toNat=2:=rfl
 have z3:(3:Int).toNat=3:=rfl
 have z4:(4:Int).toNat=4:=rfl
 have z5:(5:Int).toNat=5:=rfl
 have z6:(6:Int).toNat=6:=rfl
 have z7:(7:Int).toNat=7:=rfl
 rw [Xg,WAA,HAY hb,Option.bind_some,hm]
 simp only [hl,hsl,List.length_replicate,z0,z1,z2,z3,z4,z5,z6,z7]
 rw [TB (by rfl),TB (by rfl),TB (by rfl),TB (by rfl),TB (by rfl),TB (by rfl),TB (by rfl),TB (by rfl),TB (by rfl),TB (by rfl),TB (by rfl),TB (by rfl),TB (by rfl),TB (by rfl),TB (by rfl),TB (by rfl),TB (by rfl)]
 have h0:=KAY s.l [0,0,0,0,0,0,0,0] _ hr hl s hs 64 0 (m+8+1) (by omega)
 rw [show ((0:Nat):Int)=0 from rfl] at h0
 have hf:∀ i,i<8→(fun i=>w32 ((SY keysL (sched (YX (bs b) 16) 48) s 64).l.getD i 0+s.l.getD i 0)) i=w32 ((SY keysL (sched (YX (bs b) 16) 48) s 64).l.getD i 0+s.l.getD i 0):=fun _ _=>rfl
 have h1:=IAY s.l (SY keysL (sched (YX (bs b) 16) 48) s 64).l [0,0,0,0,0,0,0,0] rfl rfl _ hf rfl 8 0 m (by omega)
 rw [show ((0:Nat):Int)=0 from rfl,List.range_zero,List.map_nil,List.nil_append,List.drop_zero] at h1
 have e:(List.range 8).map (fun i=>w32 ((SY keysL (sched (YX (bs b) 16) 48) s 64).l.getD i 0+s.l.getD i 0))=(comp s (bs b)).l:=by
  apply List.ext_getElem
  ·rw [Reg.Aw,List.length_map,List.length_range]
  ·intro i h1 h2
   have hi:i<8:=by simpa using h1
   rw [List.getElem_map,List.getElem_range,←getD_at h2 0]
   rw [comp,WAK _ _ i hi,Int.add_comm]
 rw [e] at h1
 exact h0.trans h1
theorem OAY {s:Reg} (hs:s.ok) {t:ByteArray} (ht:t.size≤1000000000000):Pq s.l t=some ((comps (t.size / 64) s (bs t)).l,t.extract (64*(t.size / 64)) t.size):=by
 have key:∀ (j:Nat) (s:Reg) (t:ByteArray) (m:Nat),s.ok→t.size / 64=j→t.size≤1000000000000→Oq (m+j+1) (.c0 t s.l [0,0,0,0,0,0,0,0])=some ((comps j s (bs t)).l,t.extract (64*j) t.size):=by
  intro j
  induction j with
  | zero=>
   intro s t m hs hj ht
   rw [Oq]
   simp only [Qy,Reg.Aw]
   rw [IK (by simp;omega),TB (by rfl),TB (by rfl),TB (by rfl)]
   congr 2
   apply YZ
   rw [Uc,List.take_of_length_le (by rw [bs_len];omega)]
   rfl
  | succ j ih=>
   intro s t m hs hj ht
   have h64:(64:Int).toNat=64:=rfl
   have e1:bs (t.extract 0 64)=(bs t).take 64:=by rw [Uc];rfl
   have e2:bs (t.extract 64 t.size)=(bs t).drop 64:=by rw [Uc,List.take_of_length_le (by rw [bs_len];omega)]
   rw [show m+(j+1)+1=(m+j+1)+1 by omega,Oq]
   simp only [Qy,h64,Reg.Aw]
   rw [TB (by simp;omega),TB (by rfl),TB (by simp;omega)]
   rw [NAY hs (b:=t.extract 0 64) (by simp;omega),Option.bind_some]
   rw [Reg.Aw]
   rw [TB (by rfl)]
   rw [TB (by simp;omega)]
   rw [ih (comp s (bs (t.extract 0 64))) (t.extract 64 t.size) m (PAK _ _) (by simp;omega) (by simp;omega),e1,e2]
   have e3:(t.extract 64 t.size).extract (64*j) (t.extract 64 t.size).size=t.extract (64*(j+1)) t.size:=by
    apply YZ
    rw [Uc,e2,Uc,List.take_of_length_le (by simp [bs_len]),List.take_of_length_le (by rw [bs_len];omega),List.drop_drop]
    congr 1
    omega
   rw [e3,comps]
 obtain ⟨m,hm⟩:∃ m,gas=m+t.size / 64+1:=⟨gas - (t.size / 64+1),by have:=gas_lt (n:=t.size / 64+1) (by omega);omega⟩
 rw [Pq,YAA,hm]
 exact key _ s t m hs rfl ht
theorem QAY {r:Reg} (hr:r.ok):Tq r.l=some (ofBytes (CV r.l)):=by
 have hl:r.l.length=8:=rfl
 have hrl:=Reg.Wh hr
 have hby:∀ i,DY (CV (r.l.take i)):=fun i=>DAF (fun x hx=>hrl x (List.mem_of_mem_take hx))
 have key:=loopN (A:=Unit) (n:=8) (Lp:=Rq) (st:=fun i _=>.c0 (ofBytes (CV (r.l.take i))) r.l (i:Int)) (Inv:=fun _ _=>True) (out:=fun _ _=>some (ofBytes (CV r.l)))
  (fun m _ _=>by
   rw [Rq]
   simp only [Ry]
   rw [IK (by simp)]
   rfl)
  (fun m i _ hi _=>.inr ⟨(),by
   have e:w64 ((i:Int)+1)=((i+1:Nat):Int):=by rw [w64_id (by omega) (by omega)];rfl
   have hg:r.l.getD i 0=r.l[i]'(by omega):=getD_at (by omega) 0
   have hx:R32 (r.l.getD i 0):=Zv hrl i
   rw [Rq]
   simp only [Ry,e,Int.toNat_natCast,IAG hx,Option.bind_some,hl]
   rw [TB (by simp;omega),TB (by rfl),TB (by simp;omega),TB (by rw [ofBytes_size,ofBytes_size,Zj];simp [four];omega)]
   congr 2
   apply YZ
   rw [LY,SN (hby i),SN (hby (i+1)),SN (Yj hx),take_at (by omega),RAK,hg]
   simp [CV],trivial,rfl⟩)
 rw [Tq,AAB,hl,TB (by rfl)]
 exact key gas 0 () (Nat.zero_le _) (gas_lt (by omega)) trivial
theorem RAY:Jy=some Va.l:=rfl
theorem Xk {s:ByteArray} (hs:s.size≤1000000000):Qa s=some (EY s):=by
 have h1:=U2 s.size
 have hsz:(s++ofBytes (AY s.size)).size=s.size+(AY s.size).length:=by rw [ByteArray.size_append,ofBytes_size]
 rw [Qa,BAB,RAY,Option.bind_some,OAX (n:=s.size) (by omega),Option.bind_some,TB (by rw [ofBytes_size];simp;omega),OAY Uf (by omega),Option.bind_some]
 simp only [Reg.Aw]
 rw [TB (by rfl),TB (by rfl),QAY (Vh Uf _ _),Option.bind_some,hsz,LY,SN (EAF _),EY,Aa,bs_len]
theorem OAM:Fa Ba=true:=Jd.2 ⟨Xc _,by rw [Ba,ofBytes_size];rfl,(by decide:(0:Int)≤0∧(0:Int)≤3),(by decide:0≤8),(by decide:(0:Int)≤0∧(0:Int)≤1000),(by decide:(0:Int)≤0∧(0:Int)≤10000),rfl⟩
def IZ (w:ByteArray):SRec:=⟨1,EY w,0,⟨0,0,false,false,false,false,⟨#[]⟩,0⟩⟩
noncomputable def Ud (k w:ByteArray):SBox×Bool:=
 bif !((k.size:Int) == 32) || decide ((w.size:Int) > 20) then (LAX,false)
 else (⟨k,true,(QY ⟨[]⟩ (NY k 0 (IZ w)).1 0).1,(WY Ba (IZ w)).1,[],[],0⟩,true)
theorem JAG (w:ByteArray):TT (IZ w)=(ofBytes [1]++EY w,true):=by
 rw [TT]
 simp only [IZ,show ((1:Int) == 1)=true from rfl,cond_true]
 rw [show (((EY w).size:Int) == 32)=true by rw [Xc];rfl,show RY (⟨0,0,false,false,false,false,⟨#[]⟩,0⟩:SThing)=true by simp [RY]];rfl
theorem TAY (w:ByteArray):(WY Ba (IZ w)).2=true:=by
 rw [WY,OAM,JAG,show decide (Ba.fCount≥10000)=false from rfl];rfl
theorem UAY {F:ByteArray} (h:F.size≤20000):(QY ⟨[]⟩ [⟨1,WX,F,⟨#[]⟩⟩,⟨2,WX,⟨#[]⟩,⟨#[]⟩⟩] 0).2=2:=by
 have hz:((⟨#[]⟩:ByteArray)++F).size=F.size:=by rw [ba_append_size];exact Nat.zero_add _
 generalize hG:(⟨#[]⟩:ByteArray)++F=G at hz
 have ok:∀ k:Int,0≤k→k≤(G.size:Int)→GY ⟨[⟨WX,G,k⟩]⟩=true:=fun k h1 h2=>by
  have h3:FZ ⟨WX,G,k⟩=true:=X4.2 ⟨by show (1:Int)≤4∧(4:Int)≤8;omega,by show (G.size:Int)≤20000;omega,h1,h2⟩
  rw [GY,Ia,Ia,h3,YAF (s:=WX) (by decide)];rfl
 have a1:XY ⟨[]⟩ ⟨1,WX,F,⟨#[]⟩⟩=(⟨[⟨WX,G,0⟩]⟩,true):=by
  have:XY ⟨[]⟩ ⟨1,WX,F,⟨#[]⟩⟩=doneD [⟨WX,(⟨#[]⟩:ByteArray)++F,0⟩]:=by
   rw [XY];simp only [toList_self];rfl
  rw [this,hG,doneD,ok 0 (Int.le_refl 0) (by omega)];rfl
 have a2:XY ⟨[⟨WX,G,0⟩]⟩ ⟨2,WX,⟨#[]⟩,⟨#[]⟩⟩=(⟨[⟨WX,G,(G.size:Int)⟩]⟩,true):=by
  have h2:KY [⟨WX,G,0⟩] WX 0=some 0:=by rw [KY,if_pos (toList_self _)]
  have hp:FY [⟨WX,G,0⟩] ⟨WX,G,(G.size:Int)⟩=[⟨WX,G,(G.size:Int)⟩]:=by
   rw [FY,Ja,GZ]
   simp only [List.filter_cons,ZAF,Bool.false_or,beq_self_eq_true,Bool.not_true,Bool.false_eq_true,if_false,List.filter_nil,List.nil_append,List.append_nil]
  have h0:XY ⟨[⟨WX,G,0⟩]⟩ ⟨2,WX,⟨#[]⟩,⟨#[]⟩⟩=Yf ⟨[⟨WX,G,0⟩]⟩ ⟨2,WX,⟨#[]⟩,⟨#[]⟩⟩ ⟨WX,G,0⟩:=by
   rw [XY,ok 0 (Int.le_refl 0) (by omega)]
   simp only [h2,toList_self];rfl
  rw [h0]
  have:Yf ⟨[⟨WX,G,0⟩]⟩ ⟨2,WX,⟨#[]⟩,⟨#[]⟩⟩ ⟨WX,G,0⟩=doneD (FY [⟨WX,G,0⟩] ⟨WX,G,(G.size:Int)⟩):=rfl
  rw [this,hp,doneD,ok _ (by omega) (Int.le_refl _)];rfl
 rw [QY,a1]
 show (QY ⟨[⟨WX,G,0⟩]⟩ [⟨2,WX,⟨#[]⟩,⟨#[]⟩⟩] 1).2=2
 rw [QY,a2];rfl
theorem VAY (k w:ByteArray):Ql k w=some (Ud k w):=by
 rw [Ql,HAA,Ud,bne]
 cases hz:(k.size:Int) == 32
 ·rfl
 rw [beq_iff_eq] at hz
 by_cases hw:(w.size:Int) > 20
 ·rw [decide_eq_true hw];rfl
 rw [decide_eq_false hw,Ak (s:=w) (by omega),LAV]
 simp only [Option.bind_some,DAW (b:=Ba) (Nat.zero_le _),MAX (k:=k) (d:=⟨[]⟩) (by omega) (Nat.zero_le _)]
 rfl
theorem XAY:Vq=some Ba:=by
 rw [Vq,DAB,Xk (by decide),Option.bind_some,show (32:Int)=((32:Nat):Int) from rfl,HAG (by omega),Option.bind_some];rfl
theorem Ji {n:Int} (h:n≤9223372036854775807):WZ n=some (ofBytes (FN n)):=by
 have key:∀ (n:Int) (m:Nat) (out:List Int),n≤9223372036854775807→(FN n).length≤m→out.length+(FN n).length≤1000→Xq m (.c0 n out)=some (ofBytes (out++FN n)):=by
  intro n
  induction n using FN.induct with
  | case1 n hn ih=>
   intro m out h1 h2 h3
   rw [FN,if_pos hn] at h2 h3 ⊢
   simp only [List.length_cons] at h2 h3
   obtain ⟨m,rfl⟩:∃ k,m=k+1:=⟨m - 1,by omega⟩
   obtain ⟨e1,_,e2⟩:=BAL hn h1
   simp only [Xq,Wy,e1,e2]
   rw [show decide (n > 127)=true from decide_eq_true hn,show decide ((out.length+1)*1≤140737488355328)=true from decide_eq_true (by omega)]
   simp only [cond_true]
   rw [ih m _ (by omega) (by omega) (by simp;omega)]
   simp
  | case2 n hn=>
   intro m out h1 h2 h3
   rw [FN,if_neg hn] at h2 h3 ⊢
   simp at h2 h3
   obtain ⟨m,rfl⟩:∃ k,m=k+1:=⟨m - 1,by omega⟩
   simp only [Xq,Wy]
   rw [show decide (n > 127)=false from decide_eq_false hn,show decide ((out.length+1)*1≤140737488355328)=true from decide_eq_true (by omega)]
   rfl
 have hl:=UY h
 exact key n gas [] h (Nat.le_of_lt (gas_lt (by omega))) (by simp;omega)
theorem Zf (x a b:Int):HY x a b=some (NM x a b):=by
 show (bif decide (a≤x) then some (decide (x≤b)) else some false)=some (NM x a b)
 unfold NM;cases decide (a≤x) <;> rfl
theorem PAM (x:SThing):Me x=some (IY x):=by
 simp only [Me,EAB,Zf,Option.bind_some,IY,bne]
 by_cases k1:x.fKind=1
 ·rw [k1]
  cases NM x.fId 1 1000 <;> cases NM x.fNext 0 16 <;> cases (x.fNext == 0) <;> cases x.fSigns <;> cases x.fWraps <;> simp [NM]
 ·by_cases k2:x.fKind=2
  ·rw [k2]
   cases NM x.fId 1 1000 <;> cases NM x.fNext 0 16 <;> cases (x.fNext == 0) <;> cases x.fSigns <;> cases x.fWraps <;> simp [NM]
  ·by_cases k3:x.fKind=3
   ·rw [k3]
    cases NM x.fId 1 1000 <;> cases NM x.fNext 0 16 <;> cases (x.fNext == 0) <;> cases x.fSigns <;> cases x.fWraps <;> simp [NM]
   ·have hr:NM x.fKind 1 3=false:=by
     cases h:NM x.fKind 1 3
     ·rfl
     ·rw [ZX] at h;omega
    have e1:(x.fKind == 1)=false:=by simpa using k1
    have e2:(x.fKind == 2)=false:=by simpa using k2
    have e3:(x.fKind == 3)=false:=by simpa using k3
    rw [hr,e1,e2,e3]
    cases NM x.fId 1 1000 <;> cases NM x.fNext 0 16 <;> cases (x.fNext == 0) <;> cases x.fSigns <;> cases x.fWraps <;> rfl
theorem Oi {n:Int} (h:0≤n) (h2:n≤255):Ub n=some (ofBytes [n]):=by
 simp only [Ub,GAB,w8_id h h2]
theorem YAY {s:ByteArray} (h:s.size≤140737488351232):Hr s=some (Ed s):=by
 simp only [Hr,NAB,Ji (n:=(s.size:Int)) (by omega),Option.bind_some]
 have:=UY (n:=(s.size:Int)) (by omega)
 rw [show decide ((ofBytes (FN (s.size:Int))).size+s.size≤9223372036854775807)=true from decide_eq_true (by rw [ofBytes_size];omega)]
 rfl
theorem ZAY (x:SThing):Ir x=some (PZ x):=by
 simp only [Ir,PAB,PAM,Option.bind_some,PZ]
 cases h:IY x
 ·rfl
 ·obtain ⟨k1,k2,k3,k4,k5,k6,k7⟩:=Yh h
  obtain ⟨z1,z2,z3⟩:=JAF h
  have hf:=DAL x
  have e1:∀ n:Int,(ofBytes [n]).size=1:=fun n=>ofBytes_size _
  simp only [RAV,Option.bind_some,Ji (n:=x.fId) (by omega),Oi (n:=x.fKind) (by omega) (by omega),Oi hf.1 (by omega),YAY (s:=x.fValue) (by omega),Ji (n:=x.fNext) (by omega),ba_append_size,e1]
  simp only [Bool.not_true,cond_false,cond_true]
  rw [show decide ((ofBytes (FN x.fId)).size+1≤9223372036854775807)=true from decide_eq_true (by omega),show decide ((ofBytes (FN x.fId)).size+1+1≤9223372036854775807)=true from decide_eq_true (by omega),
   show decide ((ofBytes (FN x.fId)).size+1+1+(Ed x.fValue).size≤9223372036854775807)=true from decide_eq_true (by omega),show decide ((ofBytes (FN x.fId)).size+1+1+(Ed x.fValue).size+(ofBytes (FN x.fNext)).size≤9223372036854775807)=true from decide_eq_true (by omega)]
  rfl
theorem QAM {r:SRec} (g:r.fNum≤9223372036854775807):Yg r=some (TT r):=by
 simp only [Yg,QAB,Zf,ZAY,Ji g,Option.bind_some,FAL]
 simp only [GAL,TT]
 cases k1:r.fKind == 1
 ·simp only [cond_false]
  cases k2:r.fKind == 2
  ·simp only [cond_false]
   cases k3:r.fKind == 3
   ·simp only [cond_false]
    cases k4:r.fKind == 4
    ·rfl
    ·have k:r.fKind=4:=by simpa using k4
     rw [k]
     simp only [beq_self_eq_true,Oi (n:=4) (by omega) (by omega),Option.bind_some,Bool.true_and,cond_true]
     cases h:NM r.fNum 1 1000
     ·cases TY r.fText <;> cases RY r.fThing <;> rfl
     ·cases TY r.fText <;> cases RY r.fThing <;> (try rfl)
      simp only [Bool.not_true,cond_false,cond_true,Bool.and_self,decide_eq_true (O3 (by omega) h 4)]
   ·have k:r.fKind=3:=by simpa using k3
    rw [k]
    simp only [beq_self_eq_true,Oi (n:=3) (by omega) (by omega),Option.bind_some,Bool.true_and,cond_true,Bool.and_true]
    cases h:(PZ r.fThing).2
    ·cases TY r.fText <;> cases r.fNum == 0 <;> rfl
    ·cases TY r.fText <;> cases r.fNum == 0 <;> (try rfl)
     simp only [Bool.not_true,cond_false,cond_true,Bool.and_self,decide_eq_true (HAL h 3)]
  ·have k:r.fKind=2:=by simpa using k2
   rw [k]
   simp only [beq_self_eq_true,Oi (n:=2) (by omega) (by omega),Option.bind_some,Bool.true_and,cond_true]
   cases h:NM r.fNum 0 3
   ·cases TY r.fText <;> cases RY r.fThing <;> rfl
   ·cases TY r.fText <;> cases RY r.fThing <;> (try rfl)
    simp only [Bool.not_true,cond_false,cond_true,Bool.and_self,decide_eq_true (O3 (by omega) h 2)]
 ·have k:r.fKind=1:=by simpa using k1
  rw [k]
  simp only [beq_self_eq_true,Oi (n:=1) (by omega) (by omega),Option.bind_some,Bool.true_and,cond_true]
  cases h:(r.fText.size:Int) == 32 <;> cases r.fNum == 0 <;> cases RY r.fThing <;> (try rfl)
  have h':r.fText.size=32:=by have:=beq_iff_eq.1 h;omega
  have e:(ofBytes [1]).size+r.fText.size≤9223372036854775807:=by rw [ofBytes_size];simp only [List.length_singleton];omega
  simp only [Bool.not_true,cond_false,cond_true,Bool.and_self,decide_eq_true e]
theorem AAZ {n:Int}:Zg n=some (bif NM n 0 1000000000 then (ofBytes (FN n),true) else (⟨#[]⟩,false)):=by
 simp only [Zg,RAB,Zf,Option.bind_some]
 cases h:NM n 0 1000000000
 ·rfl
 ·rw [ZX] at h
  rw [Bool.not_true,cond_false,Ji (by omega),Option.bind_some,cond_true]
theorem RAM {s:ByteArray} {x:Int} (hs:s.size≤140737488351232):Ah s x=some (ofBytes (EZ x (bs s))):=by
 have hl:=bs_len s
 have key:=loopN (A:=Unit) (n:=(bs s).length) (Lp:=Kr) (st:=fun i _=>.c0 x ((bs s).length:Int) (i:Int) (((bs s).take i).map (fun b=>xb b x)++(bs s).drop i)) (Inv:=fun _ _=>True) (out:=fun _ _=>some (ofBytes (EZ x (bs s))))
  (fun m _ _=>by
   rw [Kr]
   simp only [Az]
   rw [IK (by simp),List.take_length,List.drop_length,List.append_nil];rfl)
  (fun m i _ hi _=>.inr ⟨(),by
   have e:w64 ((i:Int)+1)=((i+1:Nat):Int):=by rw [w64_id (by omega) (by omega)];rfl
   have hlen:(((bs s).take i).map (fun b=>xb b x)++(bs s).drop i).length=(bs s).length:=by simp;omega
   rw [Kr]
   simp only [Az,e,Int.toNat_natCast,hlen,X3,GAW hi]
   rw [TB (by simp;omega),TB (by simp;omega),TB (by simp;omega),FAW (fun b=>xb b x) hi],trivial,rfl⟩)
 rw [Ah,TAB,TB (by simp;omega),Xv]
 exact key gas 0 () (Nat.zero_le _) (gas_lt (by omega)) trivial
theorem CAc {l:List Int} (h:DY l):DY (JY l):=fun x hx=>by
 simp only [JY,List.mem_append,List.mem_replicate] at hx
 rcases hx with hx | hx
 ·exact h x hx
 ·omega
theorem BAZ {k:ByteArray} (h:k.size≤64):bs (k++ofBytes (List.replicate (64 - k.size) 0))=JY (bs k):=by
 rw [LY,SN (fun x hx=>by have:=List.eq_of_mem_replicate hx;omega),JY,bs_len]
theorem CAZ {K:ByteArray} (h:K.size=64) {s:ByteArray}:EY (ofBytes (EZ 92 (bs K))++EY (ofBytes (EZ 54 (bs K))++s))=ofBytes (Aa (EZ 92 (bs K)++Aa (EZ 54 (bs K)++bs s))):=by
 rw [EY,LY,Y2,LY,SN (I4 _ _),SN (I4 _ _)]
theorem SAM {k s:ByteArray} (hk:k.size≤900000000) (hs:s.size≤900000000):Oe k s=some (Ld k s):=by
 have fin:∀ {K:ByteArray} {m:Int},K.size≤64→m=((64 - K.size:Nat):Int)→∀ (f:Option ByteArray),f=some (ofBytes (Aa (EZ 92 (JY (bs K))++Aa (EZ 54 (JY (bs K))++bs s))))→
   ((Qc m).bind fun r1=>bif decide (K.size+r1.size≤9223372036854775807) then (Ah (K++r1) 92).bind fun r2=>(Ah (K++r1) 54).bind fun r3=>bif decide (r3.size+s.size≤9223372036854775807) then (Qa (r3++s)).bind fun r4=>bif decide (r2.size+r4.size≤9223372036854775807) then (Qa (r2++r4)).bind fun r5=>some r5 else none else none else none)=f:=by
  intro K m hK hm f hf
  have h64:(K++ofBytes (List.replicate (64 - K.size) 0)).size=64:=by rw [ByteArray.size_append,ofBytes_size,List.length_replicate];omega
  subst hm
  have x1:=Y3 92 (JY (bs K))
  have x2:=Y3 54 (JY (bs K))
  have x3:(JY (bs K)).length=64:=by rw [JY,List.length_append,List.length_replicate,bs_len];omega
  have hb:=BAZ hK
  have hf2:=CAZ h64 (s:=s)
  rw [hb] at hf2
  rw [HAG (by omega),Option.bind_some,TB (by rw [ofBytes_size,List.length_replicate,decide_eq_true_eq];omega),RAM (by omega),Option.bind_some,RAM (by omega),Option.bind_some,hb]
  rw [TB (by rw [ofBytes_size,decide_eq_true_eq];omega),Xk (by rw [ByteArray.size_append,ofBytes_size];omega),Option.bind_some,TB (by rw [ofBytes_size,Xc,decide_eq_true_eq];omega)]
  rw [Xk (by rw [ByteArray.size_append,ofBytes_size,Xc];omega),Option.bind_some,hf,hf2]
 rw [Oe,UAB]
 by_cases h:64<k.size
 ·rw [TB (by simp;omega),Xk (by omega),Option.bind_some]
  apply fin (by rw [Xc];omega) (by rw [Xc];decide)
  rw [Ld,Ic,Dc,if_pos (by rw [bs_len];omega),Y2]
 ·rw [IK (by simp;omega)]
  apply fin (by omega) (by rw [w64_id (by omega) (by omega)];omega)
  rw [Ld,Ic,Dc,if_neg (by rw [bs_len];omega)]
theorem DAZ {k:ByteArray} {num n:Int} (hk:k.size≤900000000):Sr k num n=some (Qk k num n):=by
 rw [Sr,XAB,AAZ,Option.bind_some,Qk,maskOk]
 cases h:NM num 0 1000000000
 ·rfl
 ·rw [ZX] at h
  rw [cond_true,IK (by rfl),Zf,Option.bind_some]
  cases h2:NM n 0 8000
  ·rfl
  ·rw [ZX] at h2
   rw [IK (by rfl),Bool.and_self,cond_true]
   have hv:=UY (n:=num) (by omega)
   have hvb:=Ci h.1
   have key:=loopN (A:=Unit) (n:=(n.toNat+31) / 32) (Lp:=Qr) (st:=fun i _=>.c0 k n (ofBytes (FN num)) (ofBytes (Md (bs k) (FN num) i)) (i:Int)) (Inv:=fun _ _=>True) (out:=fun _ _=>some (ofBytes (Ib (bs k) (FN num) n.toNat),true))
    (fun m _ _=>by
     rw [Qr]
     simp only [Bz]
     rw [IK (by rw [ofBytes_size,Af,decide_eq_false_iff_not];omega),TB (by rw [ofBytes_size,Af];simp;omega)]
     refine congrArg (fun x=>some (x,true)) (YZ ?_)
     rw [Uc,SN (J4 _ _ _),SN (SAF _ _ _),Ib,List.drop_zero])
    (fun m i _ hi _=>.inr ⟨(),by
     have e:w64 ((i:Int)+1)=((i+1:Nat):Int):=by rw [w64_id (by omega) (by omega)];rfl
     have h9:(⟨#[109]⟩:ByteArray).size=1:=rfl
     rw [Qr]
     simp only [Bz,e]
     rw [TB (by rw [ofBytes_size,Af,decide_eq_true_eq];omega),TB (by rw [ofBytes_size,h9,decide_eq_true_eq];omega),Oi (by omega) (by omega),Option.bind_some,TB (by rw [ByteArray.size_append,ofBytes_size,ofBytes_size,h9,decide_eq_true_eq,List.length_singleton];omega)]
     rw [SAM hk (by rw [ByteArray.size_append,ByteArray.size_append,ofBytes_size,ofBytes_size,h9,List.length_singleton];omega),Option.bind_some,XAL k h.1 h.2 i (by omega),TB (by rw [ofBytes_size,ofBytes_size,Af,Nk,decide_eq_true_eq];omega)]
     rw [show ofBytes (Md (bs k) (FN num) i)++ofBytes (Ic (bs k) (109::(FN num++[(i:Int)])))=ofBytes (Md (bs k) (FN num) (i+1)) from YZ (by
      rw [LY,SN (J4 _ _ _),SN (J4 _ _ _),SN (Dw _ _),Md])],trivial,rfl⟩)
   exact key gas 0 () (Nat.zero_le _) (gas_lt (by omega)) trivial
theorem EAZ {a b:ByteArray} (ha:a.size≤140737488351232) (h:a.size≤b.size):Xr a b=some (ofBytes (QZ (bs a) (bs b))):=by
 have hl:=bs_len a
 have hl2:=bs_len b
 have key:=loopN (A:=Unit) (n:=(bs a).length) (Lp:=Vr) (st:=fun i _=>.c0 b ((bs a).length:Int) (i:Int) (List.zipWith xb ((bs a).take i) ((bs b).take i)++(bs a).drop i)) (Inv:=fun _ _=>True) (out:=fun _ _=>some (ofBytes (QZ (bs a) (bs b))))
  (fun m _ _=>by
   rw [Vr]
   simp only [Dz]
   rw [IK (by simp),List.take_length,List.drop_length,List.append_nil,QZ,UAF])
  (fun m i _ hi _=>.inr ⟨(),by
   have e:w64 ((i:Int)+1)=((i+1:Nat):Int):=by rw [w64_id (by omega) (by omega)];rfl
   have hlen:(List.zipWith xb ((bs a).take i) ((bs b).take i)++(bs a).drop i).length=(bs a).length:=by simp;omega
   rw [Vr]
   simp only [Dz,e,Int.toNat_natCast,hlen,X3,ZAL hi (show i<(bs b).length by omega)]
   rw [TB (by simp;omega),TB (by simp;omega),TB (by simp;omega),TB (by simp;omega),Yb (by omega),YAL hi (by omega)],trivial,rfl⟩)
 rw [Xr,ZAB,TB (by simp;omega),Xv]
 exact key gas 0 () (Nat.zero_le _) (gas_lt (by omega)) trivial
theorem FAZ {k s:ByteArray} {num:Int} (hk:k.size≤900000000) (hn:0≤num∧num≤1000000000) (hs:s.size≤800000000):Yr k num s=some (ofBytes (Bf (bs k) num (bs s))):=by
 have hv:=UY (n:=num) (by omega)
 have h9:(⟨#[116]⟩:ByteArray).size=1:=rfl
 have e:bs (⟨#[116]⟩:ByteArray)=[116]:=rfl
 have h16:(16:Int).toNat=16:=rfl
 rw [Yr,BAC,Ji (by omega),Option.bind_some,TB (by rw [ofBytes_size,h9,decide_eq_true_eq];omega),TB (by rw [ByteArray.size_append,ofBytes_size,h9,decide_eq_true_eq];omega)]
 rw [SAM hk (by rw [ByteArray.size_append,ByteArray.size_append,ofBytes_size,h9];omega),Option.bind_some,TB (by rw [RAL];decide)]
 refine congrArg some (YZ ?_)
 rw [Uc,QAL,h16,SN (Uk _ _ _),LY,LY,e,SN (Ci hn.1),Bf,List.drop_zero,List.append_assoc]
 rfl
theorem GAZ {k s:ByteArray} {num:Int} (hk:k.size≤900000000) (hs:s.size≤800000000):Zr k num s=some (Jc k num s):=by
 rw [Zr,DAC,DAZ hk,Option.bind_some,Qk,Jc]
 cases h:maskOk num s.size
 ·rfl
 ·have h':=WAF.1 h
  have hm:=RAF (bs k) (FN num) ((s.size:Int).toNat)
  have hl:=bs_len s
  rw [cond_true,cond_true,IK (by rfl),EAZ (by omega) (by rw [ofBytes_size,hm];omega),Option.bind_some,SN (SAF _ _ _)]
  have hx:(QZ (bs s) (Ib (bs k) (FN num) (s.size:Int).toNat)).length=s.size:=by rw [TAF (by omega),hl]
  rw [FAZ hk h'.1 (by rw [ofBytes_size,hx];omega),Option.bind_some,SN (Rk _ _),TB (by rw [ofBytes_size,ofBytes_size,hx,VAF,decide_eq_true_eq];omega)]
  refine congrArg (fun x=>some (x,true)) (YZ ?_)
  rw [LY,SN (Rk _ _),SN (Uk _ _ _),SN (fun x hx=>by
   rcases List.mem_append.1 hx with hx | hx
   ·exact Rk _ _ x hx
   ·exact Uk _ _ _ x hx),Ew,hl]
  rfl
theorem HAZ {s:Int} (h:R32 s):an s 1=s % 2:=by
 obtain ⟨h1,h2⟩:=h
 obtain ⟨n,rfl⟩:∃ n:Nat,s=(n:Int):=⟨s.toNat,by omega⟩
 unfold an
 show w32 (((BitVec.ofInt 32 (n:Int) &&& BitVec.ofInt 32 1).toNat:Nat):Int)=_
 rw [BitVec.ofInt_natCast,show BitVec.ofInt 32 1=BitVec.ofNat 32 1 from rfl,BitVec.toNat_and,BitVec.toNat_ofNat,BitVec.toNat_ofNat,Nat.mod_eq_of_lt (by omega:n<2 ^ 32),show 1 % 2 ^ 32=1 from rfl,Nat.and_one_is_mod,OZ (by omega) (by omega)]
 omega
theorem IAZ (t:ByteArray) (i:Nat) (hi:i<t.size) (ht:t.size≤140737488351232):∀ (j k m:Nat) (s:Int),k+j=8→R32 s→Qe (m+j+1) (.c1 s t (i:Int) (k:Int))=Qe m (.c0 (Ei j s) t ((i+1:Nat):Int)):=by
 intro j
 induction j with
 | zero=>
  intro k m s hk hs
  have e:w64 ((i:Int)+1)=((i+1:Nat):Int):=by rw [w64_id (by omega) (by omega)];rfl
  rw [Qe]
  simp only [Oj,e]
  rw [IK (by simp;omega)]
  rfl
 | succ j ih=>
  intro k m s hk hs
  have e:w64 ((k:Int)+1)=((k+1:Nat):Int):=by rw [w64_id (by omega) (by omega)];rfl
  have h2:Int.fdiv s (2 ^ (Min.min (1:Int).toNat (IntKind.bits IntKind.u32)))=s / 2:=Int.fdiv_eq_ediv_of_nonneg _ (by decide)
  rw [show m+(j+1)+1=(m+j+1)+1 by omega,Qe]
  simp only [Oj,e,h2,BAF,HAZ hs,Xb]
  rw [TB (by simp;omega),Ei]
  by_cases h:s % 2=1
  ·rw [TB (by simp [h]),ih (k+1) m _ (by omega) (Wj _ _),Di,if_pos h]
  ·rw [IK (by simp [h]),ih (k+1) m _ (by omega) (by unfold R32 at *;omega),Di,if_neg h]
theorem JAZ {t:ByteArray} {s:Int} (ht:t.size≤140737488351232):Gs s t=some (Vk s (bs t)):=by
 have hl:=bs_len t
 have key:∀ (j i m:Nat) (s:Int),i+j=t.size→Qe (m+10*j+1) (.c0 s t (i:Int))=some (Vk s ((bs t).drop i)):=by
  intro j
  induction j with
  | zero=>
   intro i m s h
   rw [Qe]
   simp only [Oj]
   rw [IK (by simp;omega),List.drop_of_length_le (by omega)];rfl
  | succ j ih=>
   intro i m s h
   have hb:=CZ (Xe t) i
   rw [show m+10*(j+1)+1=(m+10*j+1)+8+1+1 by omega,Qe]
   simp only [Oj,Xb]
   rw [TB (by simp;omega),TB (by simp;omega),Yb (by omega),OZ (by omega) (by omega)]
   have h1:=IAZ t i (by omega) ht 8 0 (m+10*j+1) (xr s ((bs t).getD i 0)) (by omega) (Wj _ _)
   rw [show ((0:Nat):Int)=0 from rfl] at h1
   rw [h1,ih (i+1) m _ (by omega),drop_at (by omega:i<(bs t).length),getD_at (by omega)]
   rfl
 obtain ⟨m,hm⟩:∃ m,gas=m+10*t.size+1:=⟨gas - (10*t.size+1),by have:=gas_lt (n:=10*t.size+1) (by omega);omega⟩
 rw [Gs,FAC,hm]
 have:=key t.size 0 m s (by omega)
 rw [List.drop_zero] at this
 exact this
theorem KAZ {t:ByteArray} (ht:t.size≤140737488351232):Js t=some (Lc (bs t)):=by
 rw [Js,HAC,JAZ ht];rfl
theorem LAZ {t:ByteArray} (h:t.size≤140737488351232):Ls t=some (frameT t):=by
 rw [Ls,JAC,Zf,Option.bind_some,frameT]
 cases h1:NM (t.size:Int) 1 9000
 ·rfl
 ·rw [ZX] at h1
  have:=UY (n:=(t.size:Int)) (by omega)
  rw [IK (by rfl),Ji (by omega),Option.bind_some,KAZ h,Option.bind_some,IAG (O4 _),Option.bind_some,TB (by rw [ofBytes_size,ofBytes_size,decide_eq_true_eq];have:(four (Lc (bs t))).length=4:=rfl;omega)]
  rw [TB (by rw [ByteArray.size_append,ofBytes_size,ofBytes_size,decide_eq_true_eq];have:(four (Lc (bs t))).length=4:=rfl;omega),CAM,cond_true]
theorem MAZ {k:ByteArray} {count:Int} {r:SRec} (hk:k.size≤900000000) (hr:r.fNum≤9223372036854775807):Ns k count r=some (NY k count r):=by
 have hz:=U3 r
 rw [Ns,LAC,QAM hr,Option.bind_some,NY]
 cases h1:(TT r).2
 ·rfl
 rw [IK (by rfl),Zf,Option.bind_some,Bool.true_and]
 cases h2:NM count 0 10000
 ·rfl
 rw [ZX] at h2
 obtain ⟨l1,l2,l3⟩:=DAM (k:=k) (s:=(TT r).1) (num:=count+1) (by omega) (by omega)
 obtain ⟨f1,f2⟩:=TAW (t:=(Jc k (count+1) (TT r).1).1) (by omega)
 rw [IK (by rfl),w64_id (by omega) (by omega),GAZ hk (by omega),Option.bind_some,LAZ (by omega),Option.bind_some,l1,f1]
 rfl
theorem TAM {d:SDisk} (h:d.fFiles.length*40≤140737488355328):Ue d=some d:=by
 rw [Ue,NAC,TB (by rw [decide_eq_true_eq];exact h)]
theorem UAM {d:SDisk} {n:ByteArray} (h0:d.fFiles.length≤140737488351232):Bh d n=some (Xa d n):=by
 have key:∀ (j i m:Nat),i+j=d.fFiles.length→Vs (m+j+1) (.c0 n d.fFiles (d.fFiles.length:Int) (i:Int))=some (match KY (d.fFiles.drop i) n i with | some j=>(j:Int) | none=> -1):=by
  intro j
  induction j with
  | zero=>
   intro i m h
   obtain rfl:i=d.fFiles.length:=by omega
   rw [Vs]
   simp only [Fz]
   rw [IK (by simp),List.drop_length];rfl
  | succ j ih=>
   intro i m h
   have hi:i<d.fFiles.length:=by omega
   have e:w64 ((i:Int)+1)=((i+1:Nat):Int):=by rw [w64_id (by omega) (by omega)];rfl
   rw [show m+(j+1)+1=(m+j+1)+1 by omega,Vs]
   simp only [Fz,e,Int.toNat_natCast,getD_at hi,ih (i+1) m (by omega)]
   rw [TB (by simp;omega),TB (by simp;omega),drop_at hi,KY]
   cases d.fFiles[i].fName.toList == n.toList <;> rfl
 obtain ⟨m,hm⟩:∃ m,gas=m+d.fFiles.length+1:=⟨gas - (d.fFiles.length+1),by have:=gas_lt (n:=d.fFiles.length+1) (by omega);omega⟩
 rw [Bh,PAC,hm,Xa]
 exact key d.fFiles.length 0 m (by omega)
theorem Y4 {d:SDisk} (h0:d.fFiles.length≤140737488351232):Et d=some (GY d):=by
 rw [Et,RAC,GY]
 have key:∀ (j i m:Nat),i+j=d.fFiles.length→Dt (m+j+1) (.c0 d.fFiles (d.fFiles.length:Int) (i:Int) d)=some (decide ((d.fFiles.length:Int)≤30) && Ia (Df d.fFiles i) (d.fFiles.drop i)):=by
  intro j
  induction j with
  | zero=>
   intro i m h
   obtain rfl:i=d.fFiles.length:=by omega
   rw [Dt]
   simp only [Gz]
   rw [IK (by simp),List.drop_length,Ia,Bool.and_true]
  | succ j ih=>
   intro i m h
   have hi:i<d.fFiles.length:=by omega
   have e:w64 ((i:Int)+1)=((i+1:Nat):Int):=by rw [w64_id (by omega) (by omega)];rfl
   have h2:=ih (i+1) m (by omega)
   have fls:∀ b:Bool,(b && false)=false:=fun b=>by cases b <;> rfl
   rw [show m+(j+1)+1=(m+j+1)+1 by omega,Dt]
   simp only [Gz,e,Int.toNat_natCast,getD_at hi,Zf,Option.bind_some]
   rw [TB (by simp;omega),TB (by simp;omega),FAM hi,FZ,h2]
   cases hn:NM (d.fFiles[i].fName.size:Int) 1 8
   ·rw [Bool.false_and,Bool.false_and,fls];rfl
   cases decide ((d.fFiles[i].fText.size:Int) > 20000)
   ·cases NM d.fFiles[i].fKept 0 (d.fFiles[i].fText.size:Int)
    ·simp only [Bool.and_false,Bool.false_and];rfl
    ·by_cases hz:i=0
     ·subst hz
      rw [ZX] at hn
      rw [show Df d.fFiles 0=⟨#[]⟩ from rfl,YAF (by omega)];rfl
     ·obtain ⟨i',rfl⟩:∃ q,i=q+1:=⟨i - 1,by omega⟩
      have e2:w64 (((i'+1:Nat):Int) - 1)=(i':Int):=by rw [w64_id (by omega) (by omega)];omega
      rw [e2,Int.toNat_natCast,getD_at (show i'<d.fFiles.length by omega),XAF (i:=i') (by omega),IK (by rfl),IK (by rfl),IK (by rfl),TB (by simp;try omega),TB (by simp;try omega)]
      cases Op.bytesLess d.fFiles[i'].fName.toList d.fFiles[i'+1].fName.toList
      ·simp only [Bool.and_false,Bool.false_and];rfl
      ·rfl
   ·simp only [Bool.and_false,Bool.false_and,Bool.not_true];rfl
 obtain ⟨m,hm⟩:∃ m,gas=m+d.fFiles.length+1:=⟨gas - (d.fFiles.length+1),by have:=gas_lt (n:=d.fFiles.length+1) (by omega);omega⟩
 rw [hm]
 exact key d.fFiles.length 0 m (by omega)
theorem VAM {d:SDisk} {n:ByteArray} (h:d.fFiles.length*40≤140737488351232) (hs:Sorted d.fFiles):Ve d n=some ⟨RV d.fFiles n⟩:=by
 have hp:=BAX (l:=d.fFiles) (n:=n) (i:=0)
 rw [Ve,SAC,UAM (by omega),Option.bind_some,←AAX hs,Xa]
 cases he:KY d.fFiles n 0 with
 | none=>
  rw [he] at hp
  rw [hp];rfl
 | some j=>
  rw [he] at hp
  have hj:=(U4 he).2
  have hw:w64 ((j:Int)+1)=((j+1:Nat):Int):=by rw [w64_id (by omega) (by omega)];rfl
  have hd:(d.fFiles.drop (j+1)).take (d.fFiles.length - (j+1))=d.fFiles.drop (j+1):=List.take_of_length_le (by rw [List.length_drop];omega)
  simp only [hw,Int.toNat_natCast,Nat.sub_zero,List.drop_zero,hd]
  rw [TB (by simp),TB (by simp;omega),TB (by simp [List.length_take];omega),TB (by simp;omega),TB (by simp [List.length_take,List.length_drop];omega)]
  simp only [Nat.sub_zero] at hp
  rw [hp]
theorem WAM {d:SDisk} {f:SFile} (h:d.fFiles.length*40≤140737488351232) (hs:Sorted d.fFiles):Kt d f=some ⟨FY d.fFiles f⟩:=by
 rw [Kt,WAC,VAM h hs,Option.bind_some,←CAX hs]
 have hol:(RV d.fFiles f.fName).length≤d.fFiles.length:=List.length_filter_le _ _
 generalize hL:RV d.fFiles f.fName=l at hol ⊢
 have key:∀ (j i m:Nat),i+j=l.length→Jt (m+j+1) (.c0 (i:Int) f l)=some ⟨l.take i++Ef (l.drop i) f⟩:=by
  intro j
  induction j with
  | zero=>
   intro i m hi
   have hd:(l.drop i).take (l.length - i)=l.drop i:=List.take_of_length_le (by rw [List.length_drop];omega)
   rw [Jt];simp only [Hz,Int.toNat_natCast,Nat.sub_zero,List.drop_zero,hd]
   rw [IK (by simp;omega),TB (by simp;omega),TB (by simp [List.length_take];omega),TB (by simp [List.length_take];omega),TB (by simp;omega),TB (by simp [List.length_take,List.length_drop];omega)]
   rw [show l.drop i=[] from List.drop_of_length_le (by omega)]
   simp [Ef]
  | succ j ih=>
   intro i m hi
   have hil:i<l.length:=by omega
   have hw:w64 ((i:Int)+1)=((i+1:Nat):Int):=by rw [w64_id (by omega) (by omega)];rfl
   have hd:(l.drop i).take (l.length - i)=l.drop i:=List.take_of_length_le (by rw [List.length_drop];omega)
   rw [show m+(j+1)+1=(m+j+1)+1 from rfl,Jt]
   simp only [Hz,Int.toNat_natCast,Nat.sub_zero,List.drop_zero,hd,hw,getD_at hil,ih (i+1) m (by omega)]
   rw [TB (by simp;omega),TB (by simp;omega),drop_at hil,Ef]
   cases Op.bytesLess l[i].fName.toList f.fName.toList
   ·rw [cond_false,cond_false,←drop_at hil,TB (by simp;omega),TB (by simp [List.length_take];omega),TB (by simp [List.length_take];omega),TB (by simp;omega),TB (by simp [List.length_take,List.length_drop];omega)]
    simp
   ·rw [cond_true,cond_true,show l.take (i+1)=l.take i++[l[i]] by rw [List.take_add_one,List.getElem?_eq_getElem hil];rfl,List.append_assoc];rfl
 obtain ⟨m,hm⟩:∃ m,gas=m+l.length+1:=⟨gas - (l.length+1),by have:=gas_lt (n:=l.length+1) (by omega);omega⟩
 rw [hm]
 have:=key l.length 0 m (Nat.zero_add _)
 simpa using this
theorem NAZ {d:SDisk} {a:SAct} (hd:d.fFiles.length*40≤140737488351232) (ha:a.fText.size≤140737488351232):Dh d a=some (XY d a):=by
 have ho:=LAM d.fFiles a.fName
 rw [Dh,XAC,XY]
 simp only [Y4 (d:=d) (by omega),UAM (d:=d) (n:=a.fName) (by omega),TAM (d:=d) (by omega),Option.bind_some,bne]
 cases hdk:GY d
 ·rfl
 obtain ⟨hl,hok⟩:=Ii hdk
 have hs:=ZAW hdk
 have hpl:∀ (l:List SFile) (f:SFile),l.length≤30→(FY l f).length≤31:=fun l f h=>by
  have:=GAM f.fName l
  rw [FY,List.length_append,List.length_append];simp only [List.length_cons,List.length_nil];omega
 simp only [VAM (d:=d) (n:=a.fName) hd hs,fun f=>WAM (d:=d) (f:=f) hd hs,fun f=>WAM (d:=⟨RV d.fFiles a.fName⟩) (f:=f) (show (RV d.fFiles a.fName).length*40≤_ by omega) (FAX hs),Option.bind_some,
  fun f=>Y4 (d:=⟨FY d.fFiles f⟩) (show (FY d.fFiles f).length≤_ by have:=hpl d.fFiles f hl;omega),fun f=>Y4 (d:=⟨FY (RV d.fFiles a.fName) f⟩) (show (FY (RV d.fFiles a.fName) f).length≤_ by have:=hpl (RV d.fFiles a.fName) f (by omega);omega),Y4 (d:=⟨RV d.fFiles a.fName⟩) (show (RV d.fFiles a.fName).length≤_ by omega)]
 have fin:∀ l:List SFile,(bif !GY ⟨l⟩ then some ((⟨[]⟩:SDisk),false) else some (⟨l⟩,true))=some (doneD l):=fun l=>by rw [doneD];cases GY ⟨l⟩ <;> rfl
 have ht:∀ f,FZ f=true→f.fText.size+a.fText.size≤9223372036854775807:=fun f hf=>by have:=(X4.1 hf).2.1;omega
 simp only [fin,Bool.true_and,Bool.not_true,cond_false]
 cases hp:KY d.fFiles a.fName 0 with
 | some j=>
  obtain ⟨hj,hfo,_,_⟩:=FAG hdk hp
  simp only [show Xa d a.fName=(j:Int) by rw [Xa,hp],Int.toNat_natCast,show decide ((j:Int)≥0)=true from decide_eq_true (by omega),show decide ((j:Int)<0)=false from decide_eq_false (by omega),show decide ((j:Int)<(d.fFiles.length:Int))=true from decide_eq_true (by omega),Bool.and_self,cond_true,cond_false]
  generalize hf:d.fFiles.getD j Qd=f at hfo
  have hf':d.fFiles.getD j (⟨⟨#[]⟩,⟨#[]⟩,0⟩:SFile)=f:=hf
  have hk:(f.fKept == (f.fText.size:Int)) = !decide (f.fKept<(f.fText.size:Int)):=by
   have:=(X4.1 hfo).2.2
   by_cases h:f.fKept=(f.fText.size:Int)
   ·rw [beq_iff_eq.2 h,decide_eq_false (by omega)];rfl
   ·rw [beq_eq_false_iff_ne.2 h,decide_eq_true (by omega)];rfl
  simp only [hf',decide_eq_true (ht f hfo),cond_true,Yf,hk]
  cases a.fKind == 1 <;> cases a.fKind == 2 <;> cases a.fKind == 3 <;> cases a.fKind == 4 <;> cases a.fTo.toList == (⟨#[]⟩:ByteArray).toList <;> cases a.fText.toList == (⟨#[]⟩:ByteArray).toList <;> cases decide (f.fKept<(f.fText.size:Int)) <;> cases a.fTo.toList == a.fName.toList <;> rfl
 | none=>
  have hs:decide ((⟨#[]⟩:ByteArray).size+a.fText.size≤9223372036854775807)=true:=decide_eq_true (by show 0+a.fText.size≤_;omega)
  simp only [show Xa d a.fName = -1 by rw [Xa,hp],show decide ((-1:Int)≥0)=false from rfl,show decide ((-1:Int)<0)=true from rfl,hs,cond_true,cond_false]
  cases a.fKind == 1 <;> cases a.fKind == 2 <;> cases a.fKind == 3 <;> cases a.fKind == 4 <;> cases a.fTo.toList == (⟨#[]⟩:ByteArray).toList <;> cases a.fText.toList == (⟨#[]⟩:ByteArray).toList <;> rfl
theorem OAZ {d:SDisk} {l:List SAct} (hd:d.fFiles.length*40≤140737488351232) (hl:l.length≤140737488351232) (ha:∀ a ∈ l,a.fText.size≤140737488351232):Tt d l=some (QY d l 0):=by
 have key:∀ (j i m:Nat) (out:List SFile),i+j=l.length→out.length*40≤140737488351232→Rt (m+j+1) (.c0 l l (l.length:Int) (i:Int) [] out)=some (QY ⟨out⟩ (l.drop i) (i:Int)):=by
  intro j
  induction j with
  | zero=>
   intro i m out hi ho
   rw [Rt];simp only [Jz]
   rw [IK (by simp;omega),List.drop_of_length_le (by omega),QY,show (l.length:Int)=(i:Int) by omega]
  | succ j ih=>
   intro i m out hi ho
   have hil:i<l.length:=by omega
   have hw:w64 ((i:Int)+1)=((i+1:Nat):Int):=by rw [w64_id (by omega) (by omega)];rfl
   rw [show m+(j+1)+1=(m+j+1)+1 from rfl,Rt]
   simp only [Jz,show decide ((i:Int)<(l.length:Int))=true from decide_eq_true (by omega),show decide ((0:Int)≤(i:Int))=true from decide_eq_true (by omega),Bool.and_self,cond_true,Int.toNat_natCast,hw,getD_at hil,NAZ (d:=⟨out⟩) (a:=l[i]) ho (ha _ (List.getElem_mem hil)),Option.bind_some]
   rw [drop_at hil,QY]
   cases hr:(XY ⟨out⟩ l[i]).2
   ·rfl
   ·have h30:=(Ii (GAG hr)).1
    rw [Bool.not_true,cond_false,cond_true,ih (i+1) m _ (by omega) (by omega)];rfl
 obtain ⟨m,hm⟩:∃ m,gas=m+l.length+1:=⟨gas - (l.length+1),by have:=gas_lt (n:=l.length+1) (by omega);omega⟩
 rw [Tt,ZAC,TAM (by omega),Option.bind_some,hm]
 exact key l.length 0 m _ (Nat.zero_add _) hd
def Z4 (b:SBook):Bool:=(b.fWord.size:Int) == 32 && ((b.fChain.size:Int) == 32 && (NM b.fTries 0 3 && (decide ((b.fThings.length:Int)≤8) && (NM b.fLast 0 1000 && NM b.fCount 0 10000))))
theorem PAZ {b:SBook} (hb:b.fThings.length≤140737488351232):∀ m i,i≤b.fThings.length→b.fThings.length - i<m→Pj m (.c0 b.fThings b.fThings.length i b)=some (rise b.fLast (Ea b.fThings i) (b.fThings.drop i) && Z4 b):=fun m i h1 h2=>
 loopN (A:=Unit) (n:=b.fThings.length) (Lp:=Pj) (st:=fun i _=>.c0 b.fThings b.fThings.length i b) (Inv:=fun _ _=>True) (out:=fun i _=>some (rise b.fLast (Ea b.fThings i) (b.fThings.drop i) && Z4 b))
  (fun m _ _=>by
   simp only [Pj,Kz,Zf,Option.bind_some,Z4]
   rw [show decide ((b.fThings.length:Int)<(b.fThings.length:Int))=false from decide_eq_false (by omega),List.drop_of_length_le (Nat.le_refl _)]
   cases (b.fWord.size:Int) == 32 <;> cases (b.fChain.size:Int) == 32 <;> cases NM b.fTries 0 3 <;> cases decide ((b.fThings.length:Int)≤8) <;> cases NM b.fLast 0 1000 <;> rfl)
  (fun m i _ hi _=>by
   have hw:w64 ((i:Int)+1)=((i+1:Nat):Int):=by rw [w64_id (by omega) (by omega)];rfl
   simp only [JAL hi]
   simp only [Pj,Kz,Int.toNat_natCast,getD_at hi,PAM,Option.bind_some,hw]
   rw [show decide ((i:Int)<(b.fThings.length:Int))=true from decide_eq_true (by omega),show decide ((0:Int)≤(i:Int))=true from decide_eq_true (by omega)]
   simp only [Bool.and_self,cond_true]
   cases h1:IY b.fThings[i]
   ·exact .inl rfl
   ·cases h2:decide (b.fThings[i].fId > b.fLast)
    ·by_cases h0:i=0
     ·subst h0
      refine .inr ⟨(),rfl,trivial,?_⟩
      rw [show decide (Ea b.fThings 0≥b.fThings[0].fId)=false from decide_eq_false (by have:=(Yh h1).2.2.1;simp only [Ea];omega)]
      rfl
     ·obtain ⟨j,rfl⟩:∃ j,i=j+1:=⟨i - 1,by omega⟩
      have hj:w64 (((j+1:Nat):Int) - 1)=(j:Int):=by rw [w64_id (by omega) (by omega)];omega
      have hjl:j<b.fThings.length:=by omega
      rw [KAF hjl]
      simp only [hj,Int.toNat_natCast,getD_at hjl,Bool.not_true,Bool.not_false,cond_false,Bool.true_and]
      rw [show decide (((j+1:Nat):Int) > 0)=true from decide_eq_true (by omega),show decide ((0:Int)≤(j:Int))=true from decide_eq_true (by omega),show decide ((j:Int)<(b.fThings.length:Int))=true from decide_eq_true (by omega)]
      simp only [Bool.and_self,cond_true]
      cases h3:decide (b.fThings[j].fId≥b.fThings[j+1].fId)
      ·exact .inr ⟨(),rfl,trivial,rfl⟩
      ·exact .inl rfl
    ·exact .inl rfl) m i () h1 h2 trivial
theorem QAZ {b:SBook} (hb:b.fThings.length≤140737488351232):Vt b=some (Fa b):=by
 have h0:=PAZ hb gas 0 (Nat.zero_le _) (gas_lt (by omega))
 simp only [Vt,CAD]
 refine h0.trans (congrArg some ?_)
 simp only [Fa,Z4,List.drop_zero,Ea]
 cases rise b.fLast 0 b.fThings <;> simp
theorem RAZ {b:SBook} (h:b.fThings.length≤2932031007317):Xt b=some b:=by
 rw [Xt,EAD,TB (by simp;omega)]
theorem SAZ (x y:SThing):Zt x y=some (grown x y):=by
 rw [Zt,GAD,grown,NAL,show decide (y.fNext≥x.fNext)=decide (x.fNext≤y.fNext) from rfl]
 cases (y.fKind == x.fKind) <;> cases (bs y.fValue == bs x.fValue) <;> cases y.fSigns <;> cases x.fSigns <;> cases y.fWraps <;> cases x.fWraps <;> cases decide (x.fNext≤y.fNext) <;> cases y.fHidden <;> cases x.fHidden <;> cases y.fFixed <;> cases x.fFixed <;> rfl
theorem TAZ {b:SBook} {x:SThing} (hb:Fa b=true) (hx:x.fId≤1000):Au b x=some (match Jk b x with
 | some p=>(true,⟨b.fWord,b.fTries,p.1,p.2,b.fChain,b.fCount⟩)
 | none=>(false,b)):=by
 obtain ⟨b1,b2,b3,b4,b5,b6,b7⟩:=Jd.1 hb
 rw [Au,JAD,LAL (by omega),Option.bind_some,Jk]
 rcases PAF (xs:=b.fThings) (id:=x.fId) with ⟨o,j,t1,t2,t3,t4,t5⟩ | ⟨t1,t2⟩
 ·have hg:∀ z,b.fThings.getD j z=o:=fun z=>by rw [List.getD,t4];rfl
  have hs:=(NAF b7 t2).1
  rw [Nat.sub_zero] at hs
  rw [t1,t2]
  simp only [Int.toNat_natCast,hg,SAZ,Option.bind_some,hs]
  rw [TB (by simp),TB (by simp;omega)]
  cases grown o x
  ·rfl
  ·rw [IK (by rfl),TB (by simp;omega)];rfl
 ·rw [t1,t2]
  simp only
  have hw:w64 (b.fLast+1)=b.fLast+1:=w64_id (by omega) (by omega)
  rw [IK (by rfl),hw]
  cases h1:(x.fId != b.fLast+1)
  ·by_cases h2:(b.fThings.length:Int)≥8
   ·rw [decide_eq_true h2];rfl
   ·rw [decide_eq_false h2,cond_false,cond_false,TB (by simp;omega)];rfl
  ·rfl
theorem UAZ {b:SBook} {r:SRec} (hb:b.fThings.length≤140737488351232) (hr:r.fNum≤9223372036854775807):Du b r=some (WY b r):=by
 rw [Du,LAD,QAM hr,Option.bind_some,QAZ hb,Option.bind_some,WY]
 cases h1:Fa b
 ·rfl
 cases h2:(TT r).2
 ·rfl
 by_cases h3:b.fCount≥10000
 ·rw [decide_eq_true h3];rfl
 obtain ⟨b1,b2,b3,b4,b5,b6,b7⟩:=Jd.1 h1
 have hz:=U3 r
 have hw:w64 (b.fCount+1)=b.fCount+1:=w64_id (by omega) (by omega)
 have hdig:=Xk (s:=b.fChain++(TT r).1) (by rw [ByteArray.size_append];omega)
 have hsz:decide (b.fChain.size+(TT r).1.size≤9223372036854775807)=true:=by rw [decide_eq_true_eq];omega
 simp only [decide_eq_false h3,Bool.not_true,Bool.or_self,cond_false,RAZ (show b.fThings.length≤2932031007317 by omega),hdig,hsz,hw,Option.bind_some,cond_true]
 rcases LAF h2 with ⟨hk,hc⟩ | ⟨hk,hc⟩ | ⟨hk,hc⟩ | ⟨hk,hc⟩
 ·rw [hk];rfl
 ·rw [hk];rfl
 ·rw [hk]
  simp only [show ((3:Int) == 1)=false from rfl,show ((3:Int) == 2)=false from rfl,show ((3:Int) == 3)=true from rfl,cond_true,cond_false]
  rw [TAZ h1 (Yh hc).2.2.2.1,Option.bind_some]
  cases Jk b r.fThing with
  | none=>rfl
  | some p=>simp only [Bool.not_true,cond_false,hw]
 ·rw [hk]
  simp only [show ((4:Int) == 1)=false from rfl,show ((4:Int) == 2)=false from rfl,show ((4:Int) == 3)=false from rfl,show ((4:Int) == 4)=true from rfl,cond_true,cond_false]
  rw [LAL hb,Option.bind_some]
  rcases PAF (xs:=b.fThings) (id:=r.fNum) with ⟨o,j,t1,t2,t3,t4,t5⟩ | ⟨t1,t2⟩
  ·have hs:=(NAF (x:=⟨r.fNum,0,false,false,false,false,⟨#[]⟩,0⟩) b7 t2).2
   rw [Nat.sub_zero] at hs
   simp only at hs
   rw [t1,t2]
   simp only [Int.toNat_natCast]
   have e:w64 ((j:Int)+1)=((j+1:Nat):Int):=by rw [w64_id (by omega) (by omega)];rfl
   simp only [e,Int.toNat_natCast,List.drop_zero,List.take_length,hs]
   rw [IK (by simp),TB (by simp;omega),TB (by rw [List.length_take,decide_eq_true_eq];omega),TB (by simp;omega),TB (by rw [List.length_take,List.length_drop,decide_eq_true_eq];omega)]
  ·rw [t1,t2];rfl
noncomputable def KAG (b:SBox) (r:SRec):Bool×SBox:=
 bif !(NY b.fKey b.fBook.fCount r).2 || (!(WY b.fBook r).2 || decide ((QY b.fDisk (NY b.fKey b.fBook.fCount r).1 0).2<((NY b.fKey b.fBook.fCount r).1.length:Int))) then (false,b)
 else (true,⟨b.fKey,b.fUp,(QY b.fDisk (NY b.fKey b.fBook.fCount r).1 0).1,(WY b.fBook r).1,b.fSessions,b.fLives,b.fOpened⟩)
theorem VAZ {b:SBox} {r:SRec} (hk:b.fKey.size≤900000000) (hd:b.fDisk.fFiles.length*40≤140737488351232) (hb:b.fBook.fThings.length≤140737488351232) (hr:r.fNum≤9223372036854775807):Eu b r=some (KAG b r):=by
 obtain ⟨h1,h2⟩:=NAM b.fKey b.fBook.fCount r
 rw [Eu,NAD,MAZ hk hr,Option.bind_some,OAZ hd (by omega) h2,Option.bind_some,UAZ hb hr,Option.bind_some,KAG]
 cases (NY b.fKey b.fBook.fCount r).2
 ·rfl
 cases (WY b.fBook r).2
 ·rfl
 cases decide ((QY b.fDisk (NY b.fKey b.fBook.fCount r).1 0).2<((NY b.fKey b.fBook.fCount r).1.length:Int)) <;> rfl
theorem WAZ (k w:ByteArray):Rl k w=some (Ud k w):=by
 rw [Rl,OAD,Ud,bne]
 cases hz:(k.size:Int) == 32
 ·rfl
 rw [beq_iff_eq] at hz
 by_cases hw:(w.size:Int) > 20
 ·rw [decide_eq_true hw];rfl
 rw [decide_eq_false hw,Xk (s:=w) (by omega),XAY]
 simp only [Option.bind_some,VAZ (b:=⟨k,true,⟨[]⟩,Ba,[],[],0⟩) (r:=⟨1,EY w,0,⟨0,0,false,false,false,false,⟨#[]⟩,0⟩⟩) (show k.size≤900000000 by omega) (Nat.zero_le _) (Nat.zero_le _) (show (0:Int)≤9223372036854775807 by decide)]
 have hb:NY k 0 (IZ w)=([⟨1,WX,(frameT (Jc k 1 (TT (IZ w)).1).1).1,⟨#[]⟩⟩,⟨2,WX,⟨#[]⟩,⟨#[]⟩⟩],true):=by
  rw [NY,show (TT (IZ w)).2=true by rw [JAG]];rfl
 have h2:(QY ⟨[]⟩ (NY k 0 (IZ w)).1 0).2=2:=by rw [hb];exact UAY (Nat.le_trans (MAM _) (by decide))
 rw [KAG]
 have e1:=TAY w
 have e2:(NY k 0 (IZ w)).2=true:=by rw [hb]
 have e3:(NY k 0 (IZ w)).1.length=2:=by rw [hb];rfl
 simp only [show (⟨1,EY w,0,⟨0,0,false,false,false,false,⟨#[]⟩,0⟩⟩:SRec)=IZ w from rfl,show Ba.fCount=0 from rfl,e1,e2,e3,h2]
 rfl
theorem XAZ (a:SFile)  : Eh a a=some true:=by
 simp [Eh,PAD]
theorem YAZ {a:(List SFile)} (h:a.length≤140737488351232):Hu a a=some true:=by
 have h0:a.length≤140737488351232:=h
 have key:∀ m i,i≤a.length→a.length - i<m→Sj m (.c0 a a i)=some true:=fun m i h1 h2=>
  loopN (A:=Unit) (n:=a.length) (Lp:=Sj) (st:=fun i _=>.c0 a a i) (Inv:=fun _ _=>True) (out:=fun _ _=>some true)
   (fun m _ _=>by simp [Sj,Qz])
   (fun m i _ hi _=>.inr ⟨(),by
    have hw:w64 ((i:Int)+1)=((i+1:Nat):Int):=by rw [w64_id (by omega) (by omega)];rfl
    simp only [Sj,Qz,Int.toNat_natCast,hw,XAZ _,getD_at hi,Option.bind_some]
    simp [hi],trivial,rfl⟩) m i () h1 h2 trivial
 have h0:=key gas 0 (Nat.zero_le _) (gas_lt (by omega))
 unfold Hu RAD
 simp only [bne_self_eq_false,cond_false]
 exact h0
theorem ZAZ {a:SDisk} (h:a.fFiles.length≤140737488351232):Iu a a=some true:=by
 simp [Iu,TAD,YAZ h]
theorem AAa (a:SThing)  : Fh a a=some true:=by
 simp [Fh,UAD]
theorem BAa {a:(List SThing)} (h:a.length≤140737488351232):Ku a a=some true:=by
 have h0:a.length≤140737488351232:=h
 have key:∀ m i,i≤a.length→a.length - i<m→Tj m (.c0 a a i)=some true:=fun m i h1 h2=>
  loopN (A:=Unit) (n:=a.length) (Lp:=Tj) (st:=fun i _=>.c0 a a i) (Inv:=fun _ _=>True) (out:=fun _ _=>some true)
   (fun m _ _=>by simp [Tj,Sz])
   (fun m i _ hi _=>.inr ⟨(),by
    have hw:w64 ((i:Int)+1)=((i+1:Nat):Int):=by rw [w64_id (by omega) (by omega)];rfl
    simp only [Tj,Sz,Int.toNat_natCast,hw,AAa _,getD_at hi,Option.bind_some]
    simp [hi],trivial,rfl⟩) m i () h1 h2 trivial
 have h0:=key gas 0 (Nat.zero_le _) (gas_lt (by omega))
 unfold Ku WAD
 simp only [bne_self_eq_false,cond_false]
 exact h0
theorem CAa {a:SBook} (h:a.fThings.length≤140737488351232):Lu a a=some true:=by
 simp [Lu,YAD,BAa h]
theorem DAa (a:SSession)  : Gh a a=some true:=by
 simp [Gh,ZAD]
theorem EAa {a:(List SSession)} (h:a.length≤140737488351232):Ou a a=some true:=by
 have h0:a.length≤140737488351232:=h
 have key:∀ m i,i≤a.length→a.length - i<m→Uj m (.c0 a a i)=some true:=fun m i h1 h2=>
  loopN (A:=Unit) (n:=a.length) (Lp:=Uj) (st:=fun i _=>.c0 a a i) (Inv:=fun _ _=>True) (out:=fun _ _=>some true)
   (fun m _ _=>by simp [Uj,Uz])
   (fun m i _ hi _=>.inr ⟨(),by
    have hw:w64 ((i:Int)+1)=((i+1:Nat):Int):=by rw [w64_id (by omega) (by omega)];rfl
    simp only [Uj,Uz,Int.toNat_natCast,hw,DAa _,getD_at hi,Option.bind_some]
    simp [hi],trivial,rfl⟩) m i () h1 h2 trivial
 have h0:=key gas 0 (Nat.zero_le _) (gas_lt (by omega))
 unfold Ou BAE
 simp only [bne_self_eq_false,cond_false]
 exact h0
theorem FAa (a:SLive)  : Ih a a=some true:=by
 simp [Ih,CAE]
theorem GAa {a:(List SLive)} (h:a.length≤140737488351232):Ru a a=some true:=by
 have h0:a.length≤140737488351232:=h
 have key:∀ m i,i≤a.length→a.length - i<m→Vj m (.c0 a a i)=some true:=fun m i h1 h2=>
  loopN (A:=Unit) (n:=a.length) (Lp:=Vj) (st:=fun i _=>.c0 a a i) (Inv:=fun _ _=>True) (out:=fun _ _=>some true)
   (fun m _ _=>by simp [Vj,Xz])
   (fun m i _ hi _=>.inr ⟨(),by
    have hw:w64 ((i:Int)+1)=((i+1:Nat):Int):=by rw [w64_id (by omega) (by omega)];rfl
    simp only [Vj,Xz,Int.toNat_natCast,hw,FAa _,getD_at hi,Option.bind_some]
    simp [hi],trivial,rfl⟩) m i () h1 h2 trivial
 have h0:=key gas 0 (Nat.zero_le _) (gas_lt (by omega))
 unfold Ru EAE
 simp only [bne_self_eq_false,cond_false]
 exact h0
theorem HAa {a:SBox} (h:(a.fDisk.fFiles.length≤140737488351232)∧(a.fBook.fThings.length≤140737488351232)∧(a.fSessions.length≤140737488351232)∧(a.fLives.length≤140737488351232)):Sl a a=some true:=by
 simp [Sl,FAE,ZAZ (h.1),CAa (h.2.1),EAa (h.2.2.1),GAa (h.2.2.2)]
theorem IAa:∀ (j:Nat) (k:Int) (m:Nat) (out:ByteArray),0≤k→k≤9223372036854775807→k<10 ^ j→out.size+j≤1000→∃ s,Vu (m+j+1) (.c0 k out)=some s:=by
 intro j
 induction j with
 | zero=>
  intro k m out hk _ hk2 ho
  have:k=0:=by rw [Int.pow_zero] at hk2;omega
  subst this
  rw [Vu]
  simp only [Yz]
  have h9:(⟨#[109]⟩:ByteArray).size=1:=rfl
  rw [IK (by simp),TB (by rw [h9,decide_eq_true_eq];omega)]
  exact ⟨_,rfl⟩
 | succ j ih=>
  intro k m out hk h64 hk2 ho
  rw [show m+(j+1)+1=(m+j+1)+1 by omega,Vu]
  simp only [Yz]
  by_cases h:0<k
  ·have e1:w64 (k.tdiv 10)=k / 10:=by rw [Int.tdiv_eq_ediv_of_nonneg hk,w64_id (by omega) (by omega)]
   have h3:k / 10<10 ^ j:=Int.ediv_lt_of_lt_mul (by omega) (by rw [←Int.pow_succ];exact hk2)
   rw [TB (by simp;omega),TB (by rw [ofBytes_size,decide_eq_true_eq,List.length_singleton];omega),e1]
   exact ih _ m _ (by omega) (by omega) h3 (by rw [ByteArray.size_append,ofBytes_size,List.length_singleton];omega)
  ·have:k=0:=by omega
   subst this
   have h9:(⟨#[109]⟩:ByteArray).size=1:=rfl
   rw [IK (by simp),TB (by rw [h9,decide_eq_true_eq];omega)]
   exact ⟨_,rfl⟩
noncomputable def markT (k:Int):ByteArray:=(PY k).getD ⟨#[]⟩
theorem Yk {k:Int} (h:k≤1000000000000000000):PY k=some (markT k):=by
 have:∃ s,PY k=some s:=by
  rw [PY,GAE]
  by_cases hk:k≤0
  ·rw [TB (by simp;omega)];exact ⟨_,rfl⟩
  ·rw [IK (by simp;omega)]
   obtain ⟨m,hm⟩:∃ m,gas=m+19+1:=⟨gas - 20,by have:=gas_lt (n:=20) (by omega);omega⟩
   rw [hm]
   exact IAa 19 k m _ (by omega) (by omega) (by (have:(10:Int) ^ 19=10000000000000000000:=by decide);omega) (by show 0+19≤1000;omega)
 obtain ⟨s,hs⟩:=this
 rw [markT,hs];rfl
noncomputable def Zk (k:Int):SFile:=⟨markT (k),markT (k+1),k+1+1⟩
noncomputable def JZ (k:Int):Nat→List SFile
 | 0=>[]
 | n+1=>Zk k::JZ (k+1+1+1) n
theorem JAa (n:Nat):∀ k,(JZ k n).length=n:=by
 induction n with
 | zero=>intro k;rfl
 | succ n ih=>intro k;rw [JZ,List.length_cons,ih]
theorem KAa {a:List SFile} {k:Int} {i m:Nat} (hi:i<a.length) (hk:0<k) (hk2:k≤100000000000000000) (hl:a.length≤100000000000000000) :
  Jh (m+1) (.c0 k (i:Int) a)=Jh m (.c0 (k+1+1+1) ((i+1:Nat):Int) (a.set i (Zk k))):=by
 have hwi:w64 ((i:Int)+1)=((i+1:Nat):Int):=by rw [w64_id (by omega) (by omega)];rfl
 have hlt:decide ((i:Int)<(a.length:Int))=true:=decide_eq_true (by omega)
 have hle:decide ((0:Int)≤(i:Int))=true:=decide_eq_true (by omega)
 have hw1:w64 (k+1)=k+1:=w64_id (by omega) (by omega)
 have hw2:w64 (k+1+1)=k+1+1:=w64_id (by omega) (by omega)
 have hw3:w64 (k+1+1+1)=k+1+1+1:=w64_id (by omega) (by omega)
 have hm0:=Yk (k:=k) (by omega)
 have hm1:=Yk (k:=k+1) (by omega)
 rw [Jh]
 simp only [O0,Int.toNat_natCast,List.length_set,Eb hi,List.set_set,hwi,hw1,hw2,hw3,hm0,hm1,Option.bind_some,hlt,hle,Bool.and_self,cond_true]
 rfl
theorem LAa {a:List SFile} {k:Int} (hk:0<k) (hb:k+3*a.length≤100000000000000000):Xu a k=some (k+3*a.length,JZ k a.length):=by
 have key:∀ (j i m:Nat) (k:Int) (b d:List SFile),i+j=a.length→d.length=i→b.length=j→0<k→k+3*j≤100000000000000000→Jh (m+1*j+1) (.c0 k (i:Int) (d++b))=some (k+3*j,d++JZ k j):=by
  intro j
  induction j with
  | zero=>
   intro i m k b d h1 h2 h3 h4 h5
   have hb0:b=[]:=List.length_eq_zero_iff.1 h3
   subst hb0
   rw [Jh]
   simp only [O0,List.append_nil,h2,JZ]
   rw [IK (by simp)]
   simp
  | succ j ih=>
   intro i m k b d h1 h2 h3 h4 h5
   obtain ⟨x,b,rfl⟩:∃ x c,b=x::c:=by cases b with
    | nil=>cases h3
    | cons x c=>exact ⟨x,c,rfl⟩
   rw [List.length_cons] at h3
   have hlen:(d++x::b).length=a.length:=by rw [List.length_append,List.length_cons];omega
   rw [show m+1*(j+1)+1=(m+1*j+1)+1 by omega,KAa (by omega) h4 (by omega) (by omega),Zb h2]
   have h6:=ih (i+1) m (k+1+1+1) b (d++[Zk k]) (by omega) (by rw [List.length_append,List.length_singleton];omega) (by omega) (by omega) (by omega)
   rw [List.append_assoc,List.append_assoc,List.singleton_append,List.singleton_append] at h6
   rw [h6,JZ]
   congr 2
   omega
 obtain ⟨m,hm⟩:∃ m,gas=m+1*a.length+1:=⟨gas - (1*a.length+1),by have:=gas_lt (n:=1*a.length+1) (by omega);omega⟩
 rw [Xu,IAE,hm]
 exact key a.length 0 m k a [] (by omega) rfl rfl hk hb
theorem MAa {a:SDisk} {k:Int} (hk:0<k) (hb:k+3*a.fFiles.length≤100000000000000000):Yu a k=some (k+3*a.fFiles.length,JZ k a.fFiles.length):=by
 rw [Yu,KAE,LAa hk hb];rfl
noncomputable def Bl (k:Int):SThing:=⟨k,k+1,((k+1+1).tmod 3 == 0),((k+1+1+1).tmod 3 == 0),((k+1+1+1+1).tmod 3 == 0),((k+1+1+1+1+1).tmod 3 == 0),markT (k+1+1+1+1+1+1),k+1+1+1+1+1+1+1⟩
noncomputable def KZ (k:Int):Nat→List SThing
 | 0=>[]
 | n+1=>Bl k::KZ (k+1+1+1+1+1+1+1+1) n
theorem NAa (n:Nat):∀ k,(KZ k n).length=n:=by
 induction n with
 | zero=>intro k;rfl
 | succ n ih=>intro k;rw [KZ,List.length_cons,ih]
theorem OAa {a:List SThing} {k:Int} {i m:Nat} (hi:i<a.length) (hk:0<k) (hk2:k≤100000000000000000) (hl:a.length≤100000000000000000) :
  XZ (m+8) (.c0 k (i:Int) a)=XZ m (.c0 (k+1+1+1+1+1+1+1+1) ((i+1:Nat):Int) (a.set i (Bl k))):=by
 have hwi:w64 ((i:Int)+1)=((i+1:Nat):Int):=by rw [w64_id (by omega) (by omega)];rfl
 have hlt:decide ((i:Int)<(a.length:Int))=true:=decide_eq_true (by omega)
 have hle:decide ((0:Int)≤(i:Int))=true:=decide_eq_true (by omega)
 have hw1:w64 (k+1)=k+1:=w64_id (by omega) (by omega)
 have hw2:w64 (k+1+1)=k+1+1:=w64_id (by omega) (by omega)
 have hw3:w64 (k+1+1+1)=k+1+1+1:=w64_id (by omega) (by omega)
 have hw4:w64 (k+1+1+1+1)=k+1+1+1+1:=w64_id (by omega) (by omega)
 have hw5:w64 (k+1+1+1+1+1)=k+1+1+1+1+1:=w64_id (by omega) (by omega)
 have hw6:w64 (k+1+1+1+1+1+1)=k+1+1+1+1+1+1:=w64_id (by omega) (by omega)
 have hw7:w64 (k+1+1+1+1+1+1+1)=k+1+1+1+1+1+1+1:=w64_id (by omega) (by omega)
 have hw8:w64 (k+1+1+1+1+1+1+1+1)=k+1+1+1+1+1+1+1+1:=w64_id (by omega) (by omega)
 have hm6:=Yk (k:=k+1+1+1+1+1+1) (by omega)
 rw [show m+8=m+1+1+1+1+1+1+1+1 from rfl]
 rw [XZ]
 simp only [Vb,Int.toNat_natCast,List.length_set,Eb hi,List.set_set,hwi,hw1,hw2,hw3,hw4,hw5,hw6,hw7,hw8,hm6,Option.bind_some,hlt,hle,Bool.and_self,cond_true]
 rw [XZ]
 simp only [Vb,Int.toNat_natCast,List.length_set,Eb hi,List.set_set,hwi,hw1,hw2,hw3,hw4,hw5,hw6,hw7,hw8,hm6,Option.bind_some,hlt,hle,Bool.and_self,cond_true]
 rw [XZ]
 simp only [Vb,Int.toNat_natCast,List.length_set,Eb hi,List.set_set,hwi,hw1,hw2,hw3,hw4,hw5,hw6,hw7,hw8,hm6,Option.bind_some,hlt,hle,Bool.and_self,cond_true]
 rw [XZ]
 simp only [Vb,Int.toNat_natCast,List.length_set,Eb hi,List.set_set,hwi,hw1,hw2,hw3,hw4,hw5,hw6,hw7,hw8,hm6,Option.bind_some,hlt,hle,Bool.and_self,cond_true]
 rw [XZ]
 simp only [Vb,Int.toNat_natCast,List.length_set,Eb hi,List.set_set,hwi,hw1,hw2,hw3,hw4,hw5,hw6,hw7,hw8,hm6,Option.bind_some,hlt,hle,Bool.and_self,cond_true]
 rw [XZ]
 simp only [Vb,Int.toNat_natCast,List.length_set,Eb hi,List.set_set,hwi,hw1,hw2,hw3,hw4,hw5,hw6,hw7,hw8,hm6,Option.bind_some,hlt,hle,Bool.and_self,cond_true]
 rw [XZ]
 simp only [Vb,Int.toNat_natCast,List.length_set,Eb hi,List.set_set,hwi,hw1,hw2,hw3,hw4,hw5,hw6,hw7,hw8,hm6,Option.bind_some,hlt,hle,Bool.and_self,cond_true]
 rw [XZ]
 simp only [Vb,Int.toNat_natCast,List.length_set,Eb hi,List.set_set,hwi,hw1,hw2,hw3,hw4,hw5,hw6,hw7,hw8,hm6,Option.bind_some,hlt,hle,Bool.and_self,cond_true]
 rfl
theorem PAa {a:List SThing} {k:Int} (hk:0<k) (hb:k+8*a.length≤100000000000000000):Bv a k=some (k+8*a.length,KZ k a.length):=by
 have key:∀ (j i m:Nat) (k:Int) (b d:List SThing),i+j=a.length→d.length=i→b.length=j→0<k→k+8*j≤100000000000000000→XZ (m+8*j+1) (.c0 k (i:Int) (d++b))=some (k+8*j,d++KZ k j):=by
  intro j
  induction j with
  | zero=>
   intro i m k b d h1 h2 h3 h4 h5
   have hb0:b=[]:=List.length_eq_zero_iff.1 h3
   subst hb0
   rw [XZ]
   simp only [Vb,List.append_nil,h2,KZ]
   rw [IK (by simp)]
   simp
  | succ j ih=>
   intro i m k b d h1 h2 h3 h4 h5
   obtain ⟨x,b,rfl⟩:∃ x c,b=x::c:=by cases b with
    | nil=>cases h3
    | cons x c=>exact ⟨x,c,rfl⟩
   rw [List.length_cons] at h3
   have hlen:(d++x::b).length=a.length:=by rw [List.length_append,List.length_cons];omega
   rw [show m+8*(j+1)+1=(m+8*j+1)+8 by omega,OAa (by omega) h4 (by omega) (by omega),Zb h2]
   have h6:=ih (i+1) m (k+1+1+1+1+1+1+1+1) b (d++[Bl k]) (by omega) (by rw [List.length_append,List.length_singleton];omega) (by omega) (by omega) (by omega)
   rw [List.append_assoc,List.append_assoc,List.singleton_append,List.singleton_append] at h6
   rw [h6,KZ]
   congr 2
   omega
 obtain ⟨m,hm⟩:∃ m,gas=m+8*a.length+1:=⟨gas - (8*a.length+1),by have:=gas_lt (n:=8*a.length+1) (by omega);omega⟩
 rw [Bv,MAE,hm]
 exact key a.length 0 m k a [] (by omega) rfl rfl hk hb
theorem QAa {a:SBook} {k:Int} (hk:0<k) (hb:k+8*a.fThings.length≤100000000000000000):Dv a k=some (k+8*a.fThings.length,KZ k a.fThings.length):=by
 rw [Dv,OAE,PAa hk hb];rfl
noncomputable def Dl (k:Int):SSession:=⟨k,((k+1).tmod 3 == 0)⟩
noncomputable def RZ (k:Int):Nat→List SSession
 | 0=>[]
 | n+1=>Dl k::RZ (k+1+1) n
theorem RAa (n:Nat):∀ k,(RZ k n).length=n:=by
 induction n with
 | zero=>intro k;rfl
 | succ n ih=>intro k;rw [RZ,List.length_cons,ih]
theorem SAa {a:List SSession} {k:Int} {i m:Nat} (hi:i<a.length) (hk:0<k) (hk2:k≤100000000000000000) (hl:a.length≤100000000000000000) :
  Lh (m+1) (.c0 k (i:Int) a)=Lh m (.c0 (k+1+1) ((i+1:Nat):Int) (a.set i (Dl k))):=by
 have hwi:w64 ((i:Int)+1)=((i+1:Nat):Int):=by rw [w64_id (by omega) (by omega)];rfl
 have hlt:decide ((i:Int)<(a.length:Int))=true:=decide_eq_true (by omega)
 have hle:decide ((0:Int)≤(i:Int))=true:=decide_eq_true (by omega)
 have hw1:w64 (k+1)=k+1:=w64_id (by omega) (by omega)
 have hw2:w64 (k+1+1)=k+1+1:=w64_id (by omega) (by omega)
 rw [Lh]
 simp only [U0,Int.toNat_natCast,List.length_set,Eb hi,List.set_set,hwi,hw1,hw2,Option.bind_some,hlt,hle,Bool.and_self,cond_true]
 rfl
theorem TAa {a:List SSession} {k:Int} (hk:0<k) (hb:k+2*a.length≤100000000000000000):Gv a k=some (k+2*a.length,RZ k a.length):=by
 have key:∀ (j i m:Nat) (k:Int) (b d:List SSession),i+j=a.length→d.length=i→b.length=j→0<k→k+2*j≤100000000000000000→Lh (m+1*j+1) (.c0 k (i:Int) (d++b))=some (k+2*j,d++RZ k j):=by
  intro j
  induction j with
  | zero=>
   intro i m k b d h1 h2 h3 h4 h5
   have hb0:b=[]:=List.length_eq_zero_iff.1 h3
   subst hb0
   rw [Lh]
   simp only [U0,List.append_nil,h2,RZ]
   rw [IK (by simp)]
   simp
  | succ j ih=>
   intro i m k b d h1 h2 h3 h4 h5
   obtain ⟨x,b,rfl⟩:∃ x c,b=x::c:=by cases b with
    | nil=>cases h3
    | cons x c=>exact ⟨x,c,rfl⟩
   rw [List.length_cons] at h3
   have hlen:(d++x::b).length=a.length:=by rw [List.length_append,List.length_cons];omega
   rw [show m+1*(j+1)+1=(m+1*j+1)+1 by omega,SAa (by omega) h4 (by omega) (by omega),Zb h2]
   have h6:=ih (i+1) m (k+1+1) b (d++[Dl k]) (by omega) (by rw [List.length_append,List.length_singleton];omega) (by omega) (by omega) (by omega)
   rw [List.append_assoc,List.append_assoc,List.singleton_append,List.singleton_append] at h6
   rw [h6,RZ]
   congr 2
   omega
 obtain ⟨m,hm⟩:∃ m,gas=m+1*a.length+1:=⟨gas - (1*a.length+1),by have:=gas_lt (n:=1*a.length+1) (by omega);omega⟩
 rw [Gv,QAE,hm]
 exact key a.length 0 m k a [] (by omega) rfl rfl hk hb
noncomputable def Gl (k:Int):SLive:=⟨k,k+1⟩
noncomputable def UZ (k:Int):Nat→List SLive
 | 0=>[]
 | n+1=>Gl k::UZ (k+1+1) n
theorem UAa (n:Nat):∀ k,(UZ k n).length=n:=by
 induction n with
 | zero=>intro k;rfl
 | succ n ih=>intro k;rw [UZ,List.length_cons,ih]
theorem VAa {a:List SLive} {k:Int} {i m:Nat} (hi:i<a.length) (hk:0<k) (hk2:k≤100000000000000000) (hl:a.length≤100000000000000000) :
  Nh (m+1) (.c0 k (i:Int) a)=Nh m (.c0 (k+1+1) ((i+1:Nat):Int) (a.set i (Gl k))):=by
 have hwi:w64 ((i:Int)+1)=((i+1:Nat):Int):=by rw [w64_id (by omega) (by omega)];rfl
 have hlt:decide ((i:Int)<(a.length:Int))=true:=decide_eq_true (by omega)
 have hle:decide ((0:Int)≤(i:Int))=true:=decide_eq_true (by omega)
 have hw1:w64 (k+1)=k+1:=w64_id (by omega) (by omega)
 have hw2:w64 (k+1+1)=k+1+1:=w64_id (by omega) (by omega)
 rw [Nh]
 simp only [X0,Int.toNat_natCast,List.length_set,Eb hi,List.set_set,hwi,hw1,hw2,Option.bind_some,hlt,hle,Bool.and_self,cond_true]
 rfl
theorem WAa {a:List SLive} {k:Int} (hk:0<k) (hb:k+2*a.length≤100000000000000000):Kv a k=some (k+2*a.length,UZ k a.length):=by
 have key:∀ (j i m:Nat) (k:Int) (b d:List SLive),i+j=a.length→d.length=i→b.length=j→0<k→k+2*j≤100000000000000000→Nh (m+1*j+1) (.c0 k (i:Int) (d++b))=some (k+2*j,d++UZ k j):=by
  intro j
  induction j with
  | zero=>
   intro i m k b d h1 h2 h3 h4 h5
   have hb0:b=[]:=List.length_eq_zero_iff.1 h3
   subst hb0
   rw [Nh]
   simp only [X0,List.append_nil,h2,UZ]
   rw [IK (by simp)]
   simp
  | succ j ih=>
   intro i m k b d h1 h2 h3 h4 h5
   obtain ⟨x,b,rfl⟩:∃ x c,b=x::c:=by cases b with
    | nil=>cases h3
    | cons x c=>exact ⟨x,c,rfl⟩
   rw [List.length_cons] at h3
   have hlen:(d++x::b).length=a.length:=by rw [List.length_append,List.length_cons];omega
   rw [show m+1*(j+1)+1=(m+1*j+1)+1 by omega,VAa (by omega) h4 (by omega) (by omega),Zb h2]
   have h6:=ih (i+1) m (k+1+1) b (d++[Gl k]) (by omega) (by rw [List.length_append,List.length_singleton];omega) (by omega) (by omega) (by omega)
   rw [List.append_assoc,List.append_assoc,List.singleton_append,List.singleton_append] at h6
   rw [h6,UZ]
   congr 2
   omega
 obtain ⟨m,hm⟩:∃ m,gas=m+1*a.length+1:=⟨gas - (1*a.length+1),by have:=gas_lt (n:=1*a.length+1) (by omega);omega⟩
 rw [Kv,SAE,hm]
 exact key a.length 0 m k a [] (by omega) rfl rfl hk hb
theorem XAa {a:SBox} (h1:a.fDisk.fFiles.length≤1000000000000000) (h2:a.fBook.fThings.length≤1000000000000000) (h3:a.fSessions.length≤1000000000000000) (h4:a.fLives.length≤1000000000000000) :
  Ul a 1=some ((1:Int)+3*a.fDisk.fFiles.length+8*a.fBook.fThings.length+2*a.fSessions.length+2*a.fLives.length,JZ 1 a.fDisk.fFiles.length,KZ (1+3*a.fDisk.fFiles.length) a.fBook.fThings.length,
   RZ (1+3*a.fDisk.fFiles.length+8*a.fBook.fThings.length) a.fSessions.length,UZ (1+3*a.fDisk.fFiles.length+8*a.fBook.fThings.length+2*a.fSessions.length) a.fLives.length):=by
 rw [Ul,TAE,MAa (by omega) (by omega),Option.bind_some,QAa (by omega) (by simp only;omega),Option.bind_some,TAa (by omega) (by omega),Option.bind_some,WAa (by omega) (by omega),Option.bind_some]
theorem YAa {a:List SFile} {k:Int} {i m:Nat} (hi:i<a.length) (hg:∀ z,a.getD i z=Zk k) (hk:0<k) (hk2:k≤100000000000000000) (hl:a.length≤100000000000000000) :
  Oh (m+1) (.c0 a k (i:Int))=Oh m (.c0 a (k+1+1+1) ((i+1:Nat):Int)):=by
 have hwi:w64 ((i:Int)+1)=((i+1:Nat):Int):=by rw [w64_id (by omega) (by omega)];rfl
 have hlt:decide ((i:Int)<(a.length:Int))=true:=decide_eq_true (by omega)
 have hle:decide ((0:Int)≤(i:Int))=true:=decide_eq_true (by omega)
 have hw1:w64 (k+1)=k+1:=w64_id (by omega) (by omega)
 have hw2:w64 (k+1+1)=k+1+1:=w64_id (by omega) (by omega)
 have hw3:w64 (k+1+1+1)=k+1+1+1:=w64_id (by omega) (by omega)
 have hm0:=Yk (k:=k) (by omega)
 have hm1:=Yk (k:=k+1) (by omega)
 rw [Oh]
 simp only [Y0,Int.toNat_natCast,hwi,hw1,hw2,hw3,hm0,hm1,Option.bind_some,hlt,hle,Bool.and_self,cond_true,hg,Zk,bne_self_eq_false,cond_false,toList_self,beq_self_eq_true,Bool.not_true]
theorem ZAa:∀ (n:Nat) (k:Int) (i:Nat),i<n→∀ z,(JZ k n).getD i z=Zk (k+3*i):=by
 intro n
 induction n with
 | zero=>intro k i h;omega
 | succ n ih=>
  intro k i h z
  cases i with
  | zero=>rw [JZ,show k+3*((0:Nat):Int)=k by omega];rfl
  | succ i=>
   have h2:=ih (k+1+1+1) i (by omega) z
   rw [show k+1+1+1+3*(i:Int)=k+3*((i+1:Nat):Int) by omega] at h2
   rw [←h2,JZ];rfl
theorem AAb {n:Nat} {k:Int} (hk:0<k) (hb:k+3*n≤100000000000000000):Ov (JZ k n) k=some (k+3*n):=by
 have hl:=JAa n k
 have key:∀ (j i m:Nat),i+j=n→Oh (m+j+1) (.c0 (JZ k n) (k+3*i) (i:Int))=some (k+3*n):=by
  intro j
  induction j with
  | zero=>
   intro i m h1
   obtain rfl:i=n:=by omega
   rw [Oh]
   simp only [Y0,hl]
   rw [IK (by simp)]
  | succ j ih=>
   intro i m h1
   rw [show m+(j+1)+1=(m+j+1)+1 by omega,YAa (by omega) (ZAa n k i (by omega)) (by omega) (by omega) (by omega)]
   have h2:=ih (i+1) m (by omega)
   rw [show k+3*((i+1:Nat):Int)=k+3*(i:Int)+1+1+1 by omega] at h2
   exact h2
 obtain ⟨m,hm⟩:∃ m,gas=m+n+1:=⟨gas - (n+1),by have:=gas_lt (n:=n+1) (by omega);omega⟩
 have h0:=key n 0 m (by omega)
 rw [show k+3*((0:Nat):Int)=k by omega] at h0
 rw [Ov,VAE,hm]
 exact h0
theorem BAb {a:SDisk} {n:Nat} {k:Int} (h:a.fFiles=JZ k n) (hk:0<k) (hb:k+3*n≤100000000000000000):Ll a k=some (k+3*n):=by
 rw [Ll,WAE,h,AAb hk hb,Option.bind_some,IK (by simp;omega)]
theorem CAb {a:List SThing} {k:Int} {i m:Nat} (hi:i<a.length) (hg:∀ z,a.getD i z=Bl k) (hk:0<k) (hk2:k≤100000000000000000) (hl:a.length≤100000000000000000) :
  Ph (m+1) (.c0 a k (i:Int))=Ph m (.c0 a (k+1+1+1+1+1+1+1+1) ((i+1:Nat):Int)):=by
 have hwi:w64 ((i:Int)+1)=((i+1:Nat):Int):=by rw [w64_id (by omega) (by omega)];rfl
 have hlt:decide ((i:Int)<(a.length:Int))=true:=decide_eq_true (by omega)
 have hle:decide ((0:Int)≤(i:Int))=true:=decide_eq_true (by omega)
 have hw1:w64 (k+1)=k+1:=w64_id (by omega) (by omega)
 have hw2:w64 (k+1+1)=k+1+1:=w64_id (by omega) (by omega)
 have hw3:w64 (k+1+1+1)=k+1+1+1:=w64_id (by omega) (by omega)
 have hw4:w64 (k+1+1+1+1)=k+1+1+1+1:=w64_id (by omega) (by omega)
 have hw5:w64 (k+1+1+1+1+1)=k+1+1+1+1+1:=w64_id (by omega) (by omega)
 have hw6:w64 (k+1+1+1+1+1+1)=k+1+1+1+1+1+1:=w64_id (by omega) (by omega)
 have hw7:w64 (k+1+1+1+1+1+1+1)=k+1+1+1+1+1+1+1:=w64_id (by omega) (by omega)
 have hw8:w64 (k+1+1+1+1+1+1+1+1)=k+1+1+1+1+1+1+1+1:=w64_id (by omega) (by omega)
 have hm6:=Yk (k:=k+1+1+1+1+1+1) (by omega)
 rw [Ph]
 simp only [O1,Int.toNat_natCast,hwi,hw1,hw2,hw3,hw4,hw5,hw6,hw7,hw8,hm6,Option.bind_some,hlt,hle,Bool.and_self,cond_true,hg,Bl,bne_self_eq_false,cond_false,toList_self,beq_self_eq_true,Bool.not_true]
theorem DAb:∀ (n:Nat) (k:Int) (i:Nat),i<n→∀ z,(KZ k n).getD i z=Bl (k+8*i):=by
 intro n
 induction n with
 | zero=>intro k i h;omega
 | succ n ih=>
  intro k i h z
  cases i with
  | zero=>rw [KZ,show k+8*((0:Nat):Int)=k by omega];rfl
  | succ i=>
   have h2:=ih (k+1+1+1+1+1+1+1+1) i (by omega) z
   rw [show k+1+1+1+1+1+1+1+1+8*(i:Int)=k+8*((i+1:Nat):Int) by omega] at h2
   rw [←h2,KZ];rfl
theorem EAb {n:Nat} {k:Int} (hk:0<k) (hb:k+8*n≤100000000000000000):Qv (KZ k n) k=some (k+8*n):=by
 have hl:=NAa n k
 have key:∀ (j i m:Nat),i+j=n→Ph (m+j+1) (.c0 (KZ k n) (k+8*i) (i:Int))=some (k+8*n):=by
  intro j
  induction j with
  | zero=>
   intro i m h1
   obtain rfl:i=n:=by omega
   rw [Ph]
   simp only [O1,hl]
   rw [IK (by simp)]
  | succ j ih=>
   intro i m h1
   rw [show m+(j+1)+1=(m+j+1)+1 by omega,CAb (by omega) (DAb n k i (by omega)) (by omega) (by omega) (by omega)]
   have h2:=ih (i+1) m (by omega)
   rw [show k+8*((i+1:Nat):Int)=k+8*(i:Int)+1+1+1+1+1+1+1+1 by omega] at h2
   exact h2
 obtain ⟨m,hm⟩:∃ m,gas=m+n+1:=⟨gas - (n+1),by have:=gas_lt (n:=n+1) (by omega);omega⟩
 have h0:=key n 0 m (by omega)
 rw [show k+8*((0:Nat):Int)=k by omega] at h0
 rw [Qv,YAE,hm]
 exact h0
theorem FAb {a:SBook} {n:Nat} {k:Int} (h:a.fThings=KZ k n) (hk:0<k) (hb:k+8*n≤100000000000000000):Nl a k=some (k+8*n):=by
 rw [Nl,ZAE,h,EAb hk hb,Option.bind_some,IK (by simp;omega)]
theorem GAb {a:List SSession} {k:Int} {i m:Nat} (hi:i<a.length) (hg:∀ z,a.getD i z=Dl k) (hk:0<k) (hk2:k≤100000000000000000) (hl:a.length≤100000000000000000) :
  Qh (m+1) (.c0 a k (i:Int))=Qh m (.c0 a (k+1+1) ((i+1:Nat):Int)):=by
 have hwi:w64 ((i:Int)+1)=((i+1:Nat):Int):=by rw [w64_id (by omega) (by omega)];rfl
 have hlt:decide ((i:Int)<(a.length:Int))=true:=decide_eq_true (by omega)
 have hle:decide ((0:Int)≤(i:Int))=true:=decide_eq_true (by omega)
 have hw1:w64 (k+1)=k+1:=w64_id (by omega) (by omega)
 have hw2:w64 (k+1+1)=k+1+1:=w64_id (by omega) (by omega)
 rw [Qh]
 simp only [U1,Int.toNat_natCast,hwi,hw1,hw2,Option.bind_some,hlt,hle,Bool.and_self,cond_true,hg,Dl,bne_self_eq_false,cond_false,toList_self,beq_self_eq_true,Bool.not_true]
theorem HAb:∀ (n:Nat) (k:Int) (i:Nat),i<n→∀ z,(RZ k n).getD i z=Dl (k+2*i):=by
 intro n
 induction n with
 | zero=>intro k i h;omega
 | succ n ih=>
  intro k i h z
  cases i with
  | zero=>rw [RZ,show k+2*((0:Nat):Int)=k by omega];rfl
  | succ i=>
   have h2:=ih (k+1+1) i (by omega) z
   rw [show k+1+1+2*(i:Int)=k+2*((i+1:Nat):Int) by omega] at h2
   rw [←h2,RZ];rfl
theorem IAb {n:Nat} {k:Int} (hk:0<k) (hb:k+2*n≤100000000000000000):Ol (RZ k n) k=some (k+2*n):=by
 have hl:=RAa n k
 have key:∀ (j i m:Nat),i+j=n→Qh (m+j+1) (.c0 (RZ k n) (k+2*i) (i:Int))=some (k+2*n):=by
  intro j
  induction j with
  | zero=>
   intro i m h1
   obtain rfl:i=n:=by omega
   rw [Qh]
   simp only [U1,hl]
   rw [IK (by simp)]
  | succ j ih=>
   intro i m h1
   rw [show m+(j+1)+1=(m+j+1)+1 by omega,GAb (by omega) (HAb n k i (by omega)) (by omega) (by omega) (by omega)]
   have h2:=ih (i+1) m (by omega)
   rw [show k+2*((i+1:Nat):Int)=k+2*(i:Int)+1+1 by omega] at h2
   exact h2
 obtain ⟨m,hm⟩:∃ m,gas=m+n+1:=⟨gas - (n+1),by have:=gas_lt (n:=n+1) (by omega);omega⟩
 have h0:=key n 0 m (by omega)
 rw [show k+2*((0:Nat):Int)=k by omega] at h0
 rw [Ol,AAF,hm]
 exact h0
theorem JAb {a:List SLive} {k:Int} {i m:Nat} (hi:i<a.length) (hg:∀ z,a.getD i z=Gl k) (hk:0<k) (hk2:k≤100000000000000000) (hl:a.length≤100000000000000000) :
  Ag (m+1) (.c0 a k (i:Int))=Ag m (.c0 a (k+1+1) ((i+1:Nat):Int)):=by
 have hwi:w64 ((i:Int)+1)=((i+1:Nat):Int):=by rw [w64_id (by omega) (by omega)];rfl
 have hlt:decide ((i:Int)<(a.length:Int))=true:=decide_eq_true (by omega)
 have hle:decide ((0:Int)≤(i:Int))=true:=decide_eq_true (by omega)
 have hw1:w64 (k+1)=k+1:=w64_id (by omega) (by omega)
 have hw2:w64 (k+1+1)=k+1+1:=w64_id (by omega) (by omega)
 rw [Ag]
 simp only [Hw,Int.toNat_natCast,hwi,hw1,hw2,Option.bind_some,hlt,hle,Bool.and_self,cond_true,hg,Gl,bne_self_eq_false,cond_false,toList_self,beq_self_eq_true,Bool.not_true]
theorem KAb:∀ (n:Nat) (k:Int) (i:Nat),i<n→∀ z,(UZ k n).getD i z=Gl (k+2*i):=by
 intro n
 induction n with
 | zero=>intro k i h;omega
 | succ n ih=>
  intro k i h z
  cases i with
  | zero=>rw [UZ,show k+2*((0:Nat):Int)=k by omega];rfl
  | succ i=>
   have h2:=ih (k+1+1) i (by omega) z
   rw [show k+1+1+2*(i:Int)=k+2*((i+1:Nat):Int) by omega] at h2
   rw [←h2,UZ];rfl
theorem LAb {n:Nat} {k:Int} (hk:0<k) (hb:k+2*n≤100000000000000000):Il (UZ k n) k=some (k+2*n):=by
 have hl:=UAa n k
 have key:∀ (j i m:Nat),i+j=n→Ag (m+j+1) (.c0 (UZ k n) (k+2*i) (i:Int))=some (k+2*n):=by
  intro j
  induction j with
  | zero=>
   intro i m h1
   obtain rfl:i=n:=by omega
   rw [Ag]
   simp only [Hw,hl]
   rw [IK (by simp)]
  | succ j ih=>
   intro i m h1
   rw [show m+(j+1)+1=(m+j+1)+1 by omega,JAb (by omega) (KAb n k i (by omega)) (by omega) (by omega) (by omega)]
   have h2:=ih (i+1) m (by omega)
   rw [show k+2*((i+1:Nat):Int)=k+2*(i:Int)+1+1 by omega] at h2
   exact h2
 obtain ⟨m,hm⟩:∃ m,gas=m+n+1:=⟨gas - (n+1),by have:=gas_lt (n:=n+1) (by omega);omega⟩
 have h0:=key n 0 m (by omega)
 rw [show k+2*((0:Nat):Int)=k by omega] at h0
 rw [Il,E5,hm]
 exact h0
theorem MAb {a:SBox} {f t s l:Nat} (h1:f≤1000000000000000) (h2:t≤1000000000000000) (h3:s≤1000000000000000) (h4:l≤1000000000000000) (e1:a.fDisk.fFiles=JZ 1 f) (e2:a.fBook.fThings=KZ (1+3*f) t)
  (e3:a.fSessions=RZ (1+3*f+8*t) s) (e4:a.fLives=UZ (1+3*f+8*t+2*s) l):Jl a 1=some ((1:Int)+3*f+8*t+2*s+2*l):=by
 rw [Jl,G5,BAb e1 (by omega) (by omega),Option.bind_some,IK (by simp;omega),FAb e2 (by omega) (by omega),Option.bind_some,IK (by simp;omega),e3,IAb (by omega) (by omega),Option.bind_some,IK (by simp;omega),e4,LAb (by omega) (by omega),Option.bind_some,IK (by simp;omega)]
theorem NAb (k w:ByteArray):(Ud k w).1.fDisk.fFiles.length≤30∧(Ud k w).1.fBook.fThings.length≤1∧(Ud k w).1.fSessions.length=0∧(Ud k w).1.fLives.length=0:=by
 have h:=JAX (NY k 0 (IZ w)).1 ⟨[]⟩ 0 30 (Nat.le_refl _) (Nat.zero_le _)
 have l1:(WY Ba (IZ w)).1.fThings.length≤1:=by
  have h0:WY Ba (IZ w)=(⟨EY w,0,[],0,EY (Ba.fChain++(TT (IZ w)).1),0+1⟩,true):=by
   rw [WY,OAM,show (TT (IZ w)).2=true by rw [JAG],show decide (Ba.fCount≥10000)=false from rfl];rfl
  rw [h0];exact Nat.zero_le _
 rw [Ud]
 cases !((k.size:Int) == 32) || decide ((w.size:Int) > 20)
 ·exact ⟨h,l1,rfl,rfl⟩
 ·exact ⟨Nat.zero_le _,Nat.zero_le _,rfl,rfl⟩
theorem law_FnExactBoxNew (x0 x1:ByteArray) (g0:GStr x0) (g1:GStr x1):laws_FnExactBoxNew x0 x1=some true:=by
 rw [laws_FnExactBoxNew,P5]
 obtain ⟨q1,q2,q3,q4⟩:=NAb x0 x1
 have hS:=VAY x0 x1
 have hI:=WAZ x0 x1
 generalize Ud x0 x1=R at q1 q2 q3 q4 hS hI
 obtain ⟨b,ok⟩:=R
 simp only at q1 q2 q3 q4
 have e2:=HAa (a:=b) ⟨by omega,by omega,by omega,by omega⟩
 have m1:=XAa (a:=b) (by omega) (by omega) (by omega) (by omega)
 have hh:=MAb (f:=b.fDisk.fFiles.length) (t:=b.fBook.fThings.length) (s:=b.fSessions.length) (l:=b.fLives.length) (a:=⟨b.fKey,b.fUp,⟨JZ 1 b.fDisk.fFiles.length⟩,⟨b.fBook.fWord,b.fBook.fTries,KZ (1+3*b.fDisk.fFiles.length) b.fBook.fThings.length,b.fBook.fLast,b.fBook.fChain,b.fBook.fCount⟩,
  RZ (1+3*b.fDisk.fFiles.length+8*b.fBook.fThings.length) b.fSessions.length,UZ (1+3*b.fDisk.fFiles.length+8*b.fBook.fThings.length+2*b.fSessions.length) b.fLives.length,b.fOpened⟩)
  (by omega) (by omega) (by omega) (by omega) rfl rfl rfl rfl
 have d1:decide ((1:Int)+3*(b.fDisk.fFiles.length:Int)+8*(b.fBook.fThings.length:Int)+2*(b.fSessions.length:Int)+2*(b.fLives.length:Int)<0)=false:=by rw [decide_eq_false_iff_not];omega
 simp only [hS,hI,Option.bind_some,e2,m1,hh,d1,beq_self_eq_true,Bool.not_true,cond_false,bne_self_eq_false]
 cases decide ((x0.size:Int) > 1048576) <;> cases decide ((x1.size:Int) > 1048576) <;> rfl
end Go.Proofs.YthfpmhalgimbbaaGreatDoor.G
