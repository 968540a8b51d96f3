/- The plain law of FnPlans: whatever the arguments, it answers true. Conditions: what is read is in reach. Part 1 of 3. -/
import Derived.Test.YtpjfloaghpgpdaaGreatDoorFFnPlans
import Derived.Test.YtpjfloaghpgpdaaGreatDoorOpens
import Derived.Test.YtpjfloaghpgpdaaGreatDoorPBase
namespace Go.Proofs.YtpjfloaghpgpdaaGreatDoor.G
open Go Go.Ev
set_option linter.unusedVariables false
set_option linter.unusedSimpArgs false
set_option linter.unusedSectionVars false
variable [PC]
theorem NBW (u:Unit):IAc u=some (decide ((codeL.length:Int) > 1048576)):=rfl
def bs (s:ByteArray):List Int:=s.data.toList.map fun b=>(b.toNat:Int)
theorem bs_len (s:ByteArray):(bs s).length=s.size:=by simp [bs]
theorem WA0 {s:ByteArray} {n:Int} (h:n ∈ bs s):0≤n∧n≤255:=by
 unfold bs at h;rw [List.mem_map] at h;obtain ⟨b,_,rfl⟩:=h
 have:=b.toNat_lt;omega
theorem Ue (a b:ByteArray):bs (a++b)=bs a++bs b:=by simp [bs]
theorem EAZ (s:ByteArray):ofBytes (bs s)=s:=by
 simp [ofBytes,bs,Function.comp_def]
theorem Yi {s t:ByteArray} (h:bs s=bs t):s=t:=by grind [EAZ]
theorem YZ {l:List Int} (h:∀ n,n ∈ l→0≤n∧n≤255):bs (ofBytes l)=l:=by
 simp only [bs,ofBytes,List.map_map]
 conv=>rhs;rw [←List.map_id l]
 grind [List.map_congr_left,UInt8.toNat_ofNat']
theorem SAM {s:ByteArray} {i:Nat} (h:i<s.size):bt s (i:Int)=(bs s)[i]'(by simp_all [bs_len]):=by
 simp only [bt,Int.toNat_natCast,h,dite_true,bs,List.getElem_map]
 rfl
theorem Ux (s:ByteArray) (i:Int):0≤bt s i∧bt s i≤255:=by
 unfold bt;split
 ·have:=(s[i.toNat]).toNat_lt;omega
 ·omega
theorem Dn (s:ByteArray) (i j:Nat):bs (s.extract i j)=((bs s).take j).drop i:=by
 simp [bs,List.drop_take]
theorem TB {α:Type} {c:Bool} {a b:α} (h:c=true):(bif c then a else b)=a:=by simp_all
theorem PY {α:Type} {c:Bool} {a b:α} (h:c=false):(bif c then a else b)=b:=by simp_all
theorem Xz {s:ByteArray} {i:Nat} (h:i<s.size):bt s (i:Int)=(bs s).getD i 0:=by grind [SAM]
theorem FAj {α:Type} {a b:List α} {i:Nat} (h:i<a.length) (d:α):(a++b).getD i d=a.getD i d:=by simp_all [List.getElem?_append_left]
theorem IAF {α:Type} {a b:List α} {x y:α} {i:Nat} (h:a.length=i):(a++x::b).set i y=a++y::b:=by
 simp_all
theorem OBW:bs (⟨#[]⟩:ByteArray)=[]:=rfl
def He (l:List Int):Prop:=∀ n,n ∈ l→0≤n∧n≤255
theorem En {l:List Int} (h:He l) (i:Nat):0≤l.getD i 0∧l.getD i 0≤255:=by
 by_cases hi:i<l.length
 ·rw [getD_at hi];exact h _ (List.getElem_mem hi)
 simp_all
theorem Uh (s:ByteArray):He (bs s):=fun _ h=>WA0 h
theorem TAM (s:ByteArray):bytesOf s=bs s:=rfl
def Ok {α:Type} (x:Option α) (Q:α→Prop):Prop:=∃ a,x=some a∧Q a
theorem Ok.bind {α β:Type} {x:Option α} {f:α→Option β} {Q:α→Prop} {R:β→Prop} (h:Ok x Q) (k:∀ a,Q a→Ok (f a) R):Ok (x.bind f) R:=by
 obtain ⟨a,rfl,h⟩:=h;simp_all
theorem Ok.cond {α:Type} {c:Bool} {a b:Option α} {R:α→Prop} (h1:c=true→Ok a R) (h2:c=false→Ok b R):Ok (bif c then a else b) R:=by
 grind
theorem Ok.chk {α:Type} {c:Bool} {a:Option α} {R:α→Prop} (hc:c=true) (h1:Ok a R):Ok (bif c then a else none) R:=by simp_all
theorem Ok.ret {α:Type} {a:α} {R:α→Prop} (h:R a):Ok (some a) R:=⟨a,rfl,h⟩
theorem Ok.eq {α:Type} {x:Option α} {a:α} (h:x=some a):Ok x (fun b=>b=a):=⟨a,h,rfl⟩
def Df (c:SL01Cur):Prop:=0≤c.fI
theorem GAj (n:Int):0≤w64 ((BitVec.toNat (BitVec.ofInt (IntKind.bits IntKind.i64) n &&& BitVec.ofInt (IntKind.bits IntKind.i64) 255):Nat):Int)∧w64 ((BitVec.toNat (BitVec.ofInt (IntKind.bits IntKind.i64) n &&& BitVec.ofInt (IntKind.bits IntKind.i64) 255):Nat):Int)≤255:=by
 grind [BitVec.ofInt,IntKind.bits,Nat.and_le_right,w64_id]
theorem PBW:Ok (KAc ()) Df:=by
 have hl:codeL.length≤140737488351232:=PC.hl
 have key:∀ (j i m:Nat) (h:Int),i+j=codeL.length→Ok (VAH (m+j+1) (.c0 h (i:Int))) Df:=by
  intro j
  induction j with
  | zero=>
   intro i m h hi
   rw [VAH];simp only [JAc,mk]
   rw [PY (by simp_all)]
   exact Ok.ret (Int.le_refl 0)
  | succ j ih=>
   intro i m h hi
   have hw:w64 ((i:Int)+1)=((i+1:Nat):Int):=by grind [w64_id]
   rw [aj m j,VAH]
   simp only [JAc,mk,hw]
   refine Ok.cond (fun _=>Ok.cond (fun _=>?_) fun _=>Ok.ret (Int.le_refl 0)) fun _=>Ok.ret (Int.le_refl 0)
   refine Ok.chk (by simp_all) (Ok.chk (by simp_all) (ih (i+1) m _ (by omega)))
 obtain ⟨m,hm⟩:=gm (n:=codeL.length) (by omega)
 rw [KAc,TAn,mk,hm]
 exact key codeL.length 0 m _ (Nat.zero_add _)
theorem UAM {c:SL01Cur} (hc:Df c):Ok (WAH c) fun r=>0≤r.1∧r.1≤255∧Df r.2:=by
 have hl:codeL.length≤140737488351232:=PC.hl
 have hc:0≤c.fI:=hc
 rw [WAH,UAn,mk]
 refine Ok.cond (fun h=>?_) fun h=>Ok.ret ⟨(GAj _).1,(GAj _).2,hc⟩
 rw [decide_eq_true_eq] at h
 refine Ok.chk (by simp_all) (Ok.chk (Nat.ble_eq_true_of_le (by omega)) (Ok.ret ⟨(GAj _).1,(GAj _).2,?_⟩))
 show 0≤w64 (c.fI+1)
 grind [w64_id]
theorem tmod_lt {a n:Int} (ha:0≤a) (hn:0<n):0≤a.tmod n∧a.tmod n<n:=⟨Int.tmod_nonneg _ ha,Int.tmod_lt_of_pos _ hn⟩
theorem Xp {c:SL01Cur} {n:Int} (hc:Df c):Ok (Zq c n) fun r=>(0≤r.1∧(0<n→r.1<n)∧(n≤0→r.1=0))∧Df r.2:=by
 rw [Zq,VAn,mk]
 refine Ok.cond (fun h=>?_) fun h=>?_
 ·rw [decide_eq_true_eq] at h
  exact Ok.ret ⟨⟨Int.le_refl 0,fun h2=>h2,fun _=>rfl⟩,hc⟩
 ·rw [decide_eq_false_iff_not] at h
  have hn:(!(n == 0))=true:=by grind
  refine Ok.cond (fun _=>?_) fun _=>?_
  ·refine Ok.bind (UAM hc) fun a ha=>Ok.chk hn (Ok.ret ?_)
   have:=tmod_lt ha.1 (show 0<n by omega)
   exact ⟨⟨this.1,fun _=>this.2,fun h2=>by omega⟩,ha.2.2⟩
  ·refine Ok.bind (UAM hc) fun a ha=>Ok.bind (UAM ha.2.2) fun b hb=>Ok.bind (UAM hb.2.2) fun d hd=>Ok.bind (UAM hd.2.2) fun e he=>Ok.chk hn (Ok.ret ?_)
   obtain ⟨a1,a2,_⟩:=ha
   obtain ⟨b1,b2,_⟩:=hb
   obtain ⟨d1,d2,_⟩:=hd
   obtain ⟨e1,e2,e3⟩:=he
   have hw:w64 (w64 (w64 (w64 (a.1*16777216)+w64 (b.1*65536))+w64 (d.1*256))+e.1)=a.1*16777216+b.1*65536+d.1*256+e.1:=by
    grind [w64_id]
   have:=tmod_lt (show 0≤a.1*16777216+b.1*65536+d.1*256+e.1 by omega) (show 0<n by omega)
   simp only [hw]
   exact ⟨⟨this.1,fun _=>this.2,fun h2=>by omega⟩,e3⟩
theorem YA9 {n:Nat} {x:Int} (h:n≤1000000000):PAD (n:Int) x=some (ofBytes (List.replicate n x)):=by
 have key:∀ (j i m:Nat),i+j=n→XAH (m+j+1) (.c0 (n:Int) x (i:Int) (List.replicate i x++List.replicate (n - i) 0))=some (ofBytes (List.replicate n x)):=by
  intro j
  induction j with
  | zero=>
   intro i m hi
   obtain rfl:i=n:=by omega
   simp [XAH,LAc,mk]
  | succ j ih=>
   intro i m hi
   have e:w64 ((i:Int)+1)=((i+1:Nat):Int):=by grind [w64_id]
   rw [show m+(j+1)+1=(m+j+1)+1 by omega,XAH]
   simp only [LAc,mk,e,Int.toNat_natCast]
   rw [TB (by grind),TB (by simp;omega),show n - i=(n - (i+1))+1 by omega,List.replicate_succ,IAF (by simp)]
   have h2:=ih (i+1) m (by omega)
   simp_all [List.replicate_succ']
 obtain ⟨m,hm⟩:=gm (n:=n) (by omega)
 have h0:=key n 0 m (by omega)
 rw [List.replicate_zero,List.nil_append,Nat.sub_zero] at h0
 rw [PAD,WAn,mk,TB (by simp;omega),hm]
 exact h0
theorem QBW {n x:Int} (h0:0≤n) (h1:n≤1000000000):Ok (PAD n x) fun r=>(r.size:Int)=n:=by
 have h:=YA9 (n:=n.toNat) (x:=x) (by omega)
 rw [show ((n.toNat:Nat):Int)=n by omega] at h
 exact ⟨_,h,by grind [ofBytes_size]⟩
theorem FAZ {n:Int}:w32 n=n % 4294967296:=by
 rfl
theorem Ot {n:Int} (h1:0≤n) (h2:n<4294967296):w32 n=n:=by grind [FAZ]
def R32 (n:Int):Prop:=0≤n∧n<4294967296
theorem Yp (n:Int):R32 (w32 n):=by grind [R32,FAZ]
def xr (x y:Int):Int:=w32 (((BitVec.toNat ((BitVec.ofInt (IntKind.bits IntKind.u32) x) ^^^ (BitVec.ofInt (IntKind.bits IntKind.u32) y))):Nat):Int)
def an (x y:Int):Int:=w32 (((BitVec.toNat ((BitVec.ofInt (IntKind.bits IntKind.u32) x) &&& (BitVec.ofInt (IntKind.bits IntKind.u32) y))):Nat):Int)
def ort (x y:Int):Int:=w32 (((BitVec.toNat ((BitVec.ofInt (IntKind.bits IntKind.u32) x) ||| (BitVec.ofInt (IntKind.bits IntKind.u32) y))):Nat):Int)
theorem Vx (x y:Int):w32 (((BitVec.toNat ((BitVec.ofInt (IntKind.bits IntKind.u32) x) ^^^ (BitVec.ofInt (IntKind.bits IntKind.u32) y))):Nat):Int)=xr x y:=rfl
theorem XA0 (x y:Int):w32 (((BitVec.toNat ((BitVec.ofInt (IntKind.bits IntKind.u32) x) &&& (BitVec.ofInt (IntKind.bits IntKind.u32) y))):Nat):Int)=an x y:=rfl
theorem ZA9 (x y:Int):w32 (((BitVec.toNat ((BitVec.ofInt (IntKind.bits IntKind.u32) x) ||| (BitVec.ofInt (IntKind.bits IntKind.u32) y))):Nat):Int)=ort x y:=rfl
theorem VAM (x y:Int):R32 (xr x y):=Yp _
theorem ABA {a b:Nat} {s:Nat} (hb:b<2 ^ s) (ha:a*2 ^ s<4294967296) (hs:b<4294967296):ort ((a*2 ^ s:Nat):Int) (b:Int)=((a*2 ^ s+b:Nat):Int):=by
 have e:a*2 ^ s ||| b=a*2 ^ s+b:=by
  have:=Nat.shiftLeft_add_eq_or_of_lt hb a
  simp_all [Nat.shiftLeft_eq]
 unfold ort
 have h3:a*2 ^ s ||| b<2 ^ 32:=Nat.or_lt_two_pow (by omega) (by omega)
 rw [BitVec.toNat_or]
 show w32 (((BitVec.ofInt 32 _).toNat ||| (BitVec.ofInt 32 _).toNat:Nat):Int)=_
 rw [BitVec.ofInt_natCast,BitVec.ofInt_natCast,BitVec.toNat_ofNat,BitVec.toNat_ofNat,Nat.mod_eq_of_lt (by omega),Nat.mod_eq_of_lt (by omega),e]
 grind [Ot]
theorem RBW {e:Int} (h:R32 e):xr (ite ((IntKind.signed IntKind.u32)=true) (-(1:Int)) (IntKind.max IntKind.u32)) e=w32 (4294967295 - e):=by
 obtain ⟨h1,h2⟩:=h
 obtain ⟨n,rfl⟩:∃ n:Nat,e=(n:Int):=⟨e.toNat,by omega⟩
 have hn:n<4294967296:=by omega
 have e1:(ite ((IntKind.signed IntKind.u32)=true) (-(1:Int)) (IntKind.max IntKind.u32))=4294967295:=by decide
 rw [e1]
 unfold xr
 show w32 (((BitVec.ofInt 32 4294967295 ^^^ BitVec.ofInt 32 (n:Int)).toNat:Nat):Int)=_
 have e2:BitVec.ofInt 32 4294967295=BitVec.allOnes 32:=by decide
 rw [e2,BitVec.ofInt_natCast,BitVec.allOnes_xor,BitVec.toNat_not,BitVec.toNat_ofNat]
 grind
def rt (low high x:Int):Int:=x / low+x % low*high
theorem SBW {low high x:Int} (h:R32 x) (hl:0<low) (hh:0<high) (hlh:low*high=4294967296):R32 (rt low high x):=by
 unfold R32 rt at *
 have h1:0≤x / low:=Int.ediv_nonneg h.1 (by omega)
 have h2:0≤x % low:=Int.emod_nonneg _ (by omega)
 have h3:x % low<low:=Int.emod_lt_of_pos _ hl
 have h4:x / low<high:=Int.ediv_lt_of_lt_mul hl (by simp_all [Int.mul_comm])
 have h5:0≤x % low*high:=Int.mul_nonneg h2 (by omega)
 have h6:x % low*high≤(low - 1)*high:=Int.mul_le_mul_of_nonneg_right (by omega) (by omega)
 grind
theorem TBW {x:Int} (h:R32 x) (n:Nat) (hn:0<n) (hn2:n<32):ort (w32 (x*2 ^ (32 - n))) (x / 2 ^ n)=rt (2 ^ n) (2 ^ (32 - n)) x:=by
 obtain ⟨h1,h2⟩:=h
 obtain ⟨y,rfl⟩:∃ y:Nat,x=(y:Int):=⟨x.toNat,by omega⟩
 have hy:y<4294967296:=by omega
 have e0:(4294967296:Nat)=2 ^ n*2 ^ (32 - n):=by rw [←Nat.pow_add,show n+(32 - n)=32 by omega]
 have e1:w32 ((y:Int)*2 ^ (32 - n))=((y % 2 ^ n*2 ^ (32 - n):Nat):Int):=by
  rw [FAZ]
  have h5:((y:Int)*2 ^ (32 - n))=((y*2 ^ (32 - n):Nat):Int):=by rfl
  have h6:y*2 ^ (32 - n) % 4294967296=y % 2 ^ n*2 ^ (32 - n):=by rw [e0,Nat.mul_mod_mul_right]
  omega
 have e2:((y:Int) / 2 ^ n)=((y / 2 ^ n:Nat):Int):=by rfl
 have hp:0<2 ^ n:=Nat.two_pow_pos n
 have hp2:0<2 ^ (32 - n):=Nat.two_pow_pos _
 have hm:y % 2 ^ n<2 ^ n:=Nat.mod_lt _ hp
 have hd:y / 2 ^ n<2 ^ (32 - n):=Nat.div_lt_of_lt_mul (by omega)
 rw [e1,e2,ABA hd (by simp_all) (Nat.lt_of_le_of_lt (Nat.div_le_self _ _) hy)]
 grind [rt]
def sg0 (x:Int):Int:=xr (xr (rt 128 33554432 x) (rt 262144 16384 x)) (x / 8)
def sg1 (x:Int):Int:=xr (xr (rt 131072 32768 x) (rt 524288 8192 x)) (x / 1024)
def ep1 (x:Int):Int:=xr (xr (rt 64 67108864 x) (rt 2048 2097152 x)) (rt 33554432 128 x)
def ep0 (x:Int):Int:=xr (xr (rt 4 1073741824 x) (rt 8192 524288 x)) (rt 4194304 1024 x)
def UBW (w:List Int) (t:Nat):Int:=w32 (w32 (w32 (sg1 (w.getD (t - 2) 0)+w.getD (t - 7) 0)+sg0 (w.getD (t - 15) 0))+w.getD (t - 16) 0)
def sched (w:List Int):Nat→List Int
 | 0=>w
 | n+1=>sched w n++[UBW (sched w n) (16+n)]
theorem HAZ {w:List Int} (h:w.length=16) (n:Nat):(sched w n).length=16+n:=by
 induction n<;>grind [sched]
theorem HAj {w:List Int} (h:∀ x ∈ w,R32 x) (n:Nat):∀ x ∈ sched w n,R32 x:=by
 induction n with
 | zero=>exact h
 | succ n ih=>
  intro x hx
  rw [sched,List.mem_append,List.mem_singleton] at hx
  rcases hx with hx | rfl
  ·simp_all
  ·exact Yp _
theorem IAZ {l:List Int} (h:∀ x ∈ l,R32 x) (i:Nat):R32 (l.getD i 0):=by
 grind [R32]
structure Reg where
 a:Int
 b:Int
 c:Int
 d:Int
 e:Int
 f:Int
 g:Int
 h:Int
def Reg.ok (r:Reg):Prop:=R32 r.a∧R32 r.b∧R32 r.c∧R32 r.d∧R32 r.e∧R32 r.f∧R32 r.g∧R32 r.h
def Reg.l (r:Reg):List Int:=[r.a,r.b,r.c,r.d,r.e,r.f,r.g,r.h]
theorem Reg.JAZ (r:Reg):r.l.length=8:=rfl
def t1 (r:Reg) (k w:Int):Int:=w32 (w32 (w32 (w32 (r.h+ep1 r.e)+xr (an r.e r.f) (an (w32 (4294967295 - r.e)) r.g))+k)+w)
def t2 (r:Reg):Int:=w32 (ep0 r.a+xr (xr (an r.a r.b) (an r.a r.c)) (an r.b r.c))
def Wx (r:Reg) (k w:Int):Reg:=⟨w32 (t1 r k w+t2 r),r.a,r.b,r.c,w32 (r.d+t1 r k w),r.e,r.f,r.g⟩
theorem VBW {r:Reg} (h:r.ok) (k w:Int):(Wx r k w).ok:=⟨Yp _,h.1,h.2.1,h.2.2.1,Yp _,h.2.2.2.2.1,h.2.2.2.2.2.1,h.2.2.2.2.2.2.1⟩
def Gl (K W:List Int) (r:Reg):Nat→Reg
 | 0=>r
 | n+1=>Wx (Gl K W r n) (K.getD n 0) (W.getD n 0)
theorem EBA (K W:List Int) {r:Reg} (h:r.ok) (n:Nat):(Gl K W r n).ok:=by
 induction n with
 | zero=>exact h
 | succ n ih=>exact VBW ih _ _
def KAZ (s r:Reg):Reg:=⟨w32 (s.a+r.a),w32 (s.b+r.b),w32 (s.c+r.c),w32 (s.d+r.d),w32 (s.e+r.e),w32 (s.f+r.f),w32 (s.g+r.g),w32 (s.h+r.h)⟩
theorem WBW (s r:Reg):(KAZ s r).ok:=⟨Yp _,Yp _,Yp _,Yp _,Yp _,Yp _,Yp _,Yp _⟩
def keysL:List Int:=[1116352408,1899447441,3049323471,3921009573,961987163,1508970993,2453635748,2870763221,3624381080,310598401,607225278,1426881987,1925078388,2162078206,2614888103,3248222580,3835390401,4022224774,264347078,604807628,770255983,1249150122,1555081692,1996064986,2554220882,2821834349,2952996808,3210313671,3336571891,3584528711,113926993,338241895,666307205,773529912,1294757372,1396182291,1695183700,1986661051,2177026350,2456956037,2730485921,2820302411,3259730800,3345764771,3516065817,3600352804,4094571909,275423344,430227734,506948616,659060556,883997877,958139571,1322822218,1537002063,1747873779,1955562222,2024104815,2227730452,2361852424,2428436474,2756734187,3204031479,3329325298]
def be4 (a b c d:Int):Int:=a*16777216+b*65536+c*256+d
def wordAt (l:List Int) (i:Nat):Int:=be4 (l.getD (4*i) 0) (l.getD (4*i+1) 0) (l.getD (4*i+2) 0) (l.getD (4*i+3) 0)
def Gg (l:List Int) (n:Nat):List Int:=(List.range n).map (wordAt l)
theorem JAF (l:List Int) (n:Nat):(Gg l n).length=n:=by simp [Gg]
theorem FBA (l:List Int) (n:Nat):Gg l (n+1)=Gg l n++[wordAt l n]:=by simp [Gg,List.range_succ]
theorem XBW {a b c d:Int} (ha:0≤a∧a≤255) (hb:0≤b∧b≤255) (hc:0≤c∧c≤255) (hd:0≤d∧d≤255):R32 (be4 a b c d):=by grind [R32,be4]
theorem YBW {l:List Int} (h:He l) (i:Nat):R32 (wordAt l i):=XBW (En h _) (En h _) (En h _) (En h _)
theorem YA0 {l:List Int} (h:He l) (n:Nat):∀ x ∈ Gg l n,R32 x:=by
 grind [Gg,YBW]
def comp (s:Reg) (b:List Int):Reg:=KAZ s (Gl keysL (sched (Gg b 16) 48) s 64)
theorem GBA (s:Reg) (b:List Int):(comp s b).ok:=WBW _ _
def comps:Nat→Reg→List Int→Reg
 | 0,s,_=>s
 | n+1,s,b=>comps n (comp s (b.take 64)) (b.drop 64)
theorem KAF {s:Reg} (h:s.ok):∀ (n:Nat) (b:List Int),(comps n s b).ok:=by
 intro n
 induction n generalizing s with
 | zero=>intro b;exact h
 | succ n ih=>intro b;exact ih (GBA _ _) _
theorem HBA (n m:Nat):∀ (s:Reg) (b:List Int),comps (n+m) s b=comps m (comps n s b) (b.drop (64*n)):=by
 induction n<;>grind [comps,List.drop_drop]
theorem ZBW (n:Nat):∀ (s:Reg) (b c:List Int),64*n≤b.length→comps n s (b++c)=comps n s b:=by
 induction n<;>grind [comps]
def four (x:Int):List Int:=[x / 16777216,x / 65536 % 256,x / 256 % 256,x % 256]
theorem X7 {x:Int} (h:R32 x):He (four x):=by
 intro n hn
 grind [R32,four]
def Yd (ws:List Int):List Int:=ws.flatMap four
theorem IBA (ws:List Int):(Yd ws).length=4*ws.length:=by
 induction ws<;>grind [Yd,four]
theorem ZA0 {ws:List Int} (h:∀ x ∈ ws,R32 x):He (Yd ws):=by
 intro n hn
 simp only [Yd,List.mem_flatMap] at hn
 obtain ⟨x,hx,hn⟩:=hn
 exact X7 (h x hx) n hn
theorem ABX (a b:List Int):Yd (a++b)=Yd a++Yd b:=by simp [Yd]
theorem BBX {x:Int} (h:R32 x):be4 (x / 16777216) (x / 65536 % 256) (x / 256 % 256) (x % 256)=x:=by grind [be4]
theorem JBA:∀ {ws:List Int} (_:∀ x ∈ ws,R32 x) {i:Nat} (hi:i<ws.length),wordAt (Yd ws) i=ws[i]
 | w::ws,h,0,_=>by
  simp_all [BBX,wordAt,Yd,four]
 | w::ws,h,i+1,hi=>by
  have ih:=JBA (ws:=ws) (fun x hx=>h x (List.mem_cons_of_mem _ hx)) (i:=i) (by simpa using hi)
  rw [List.getElem_cons_succ,←ih]
  have e:∀ j,(Yd (w::ws)).getD (j+4) 0=(Yd ws).getD j 0:=fun j=>by simp [Yd,four,List.getD]
  unfold wordAt
  rw [show 4*(i+1)=4*i+4 by omega,show 4*i+4+1=(4*i+1)+4 by omega,show 4*i+4+2=(4*i+2)+4 by omega,show 4*i+4+3=(4*i+3)+4 by omega,e,e,e,e]
theorem CBX {ws:List Int} (h:∀ x ∈ ws,R32 x):Gg (Yd ws) ws.length=ws:=by
 grind [List.ext_getElem,JAF,Gg,JBA]
theorem Reg.l_r {r:Reg} (h:r.ok):∀ x ∈ r.l,R32 x:=by
 intro x hx
 simp only [Reg.l,List.mem_cons,List.not_mem_nil,or_false] at hx
 obtain ⟨h1,h2,h3,h4,h5,h6,h7,h8⟩:=h
 grind
def Xx:Reg:=⟨1779033703,3144134277,1013904242,2773480762,1359893119,2600822924,528734635,1541459225⟩
theorem LAF:Xx.ok:=by simp [Reg.ok,R32,Xx]
def Yx (n:Int):List Int:=[0,0,0,n / 4294967296 % 256,n / 16777216 % 256,n / 65536 % 256,n / 256 % 256,n % 256]
def Hg (n:Nat):List Int:=128::(List.replicate ((119 - n % 64) % 64) 0++Yx (8*(n:Int)))
theorem IAj (n:Nat):(Hg n).length=9+(119 - n % 64) % 64:=by simp [Hg,Yx];omega
theorem DBX (n:Nat):(n+(Hg n).length) % 64=0:=by grind [IAj]
theorem AA1 (n:Nat):He (Hg n):=by
 intro x hx
 simp only [Hg,Yx,List.mem_cons,List.mem_append,List.mem_replicate,List.not_mem_nil,or_false] at hx
 omega
def Rt (b:List Int):List Int:=Yd (comps ((b.length+(Hg b.length).length) / 64) Xx (b++Hg b.length)).l
def Ob (s:ByteArray):ByteArray:=ofBytes (Rt (bs s))
theorem KBA (b:List Int):(Rt b).length=32:=by rfl
theorem LBA (b:List Int):He (Rt b):=ZA0 (Reg.l_r (KAF LAF _ _))
theorem Ig (s:ByteArray):(Ob s).size=32:=by rfl
theorem JAj (s:ByteArray):bs (Ob s)=Rt (bs s):=YZ (LBA _)
theorem EBX {x:Int} (h:R32 x):[w8 (w32 (x.tdiv 16777216)),w8 ((w32 (x.tdiv 65536)).tmod 256),w8 ((w32 (x.tdiv 256)).tmod 256),w8 (x.tmod 256)]=four x:=by
 obtain ⟨h1,h2⟩:=h
 grind [Ot,four,w8_mod,List.cons.injEq]
theorem MBA {ws:List Int} (h:∀ x ∈ ws,R32 x) (hl:ws.length≤1000000000000):QAD ws=some (ofBytes (Yd ws)):=by
 have key:=loopN (A:=Unit) (n:=ws.length) (Lp:=YAH) (st:=fun i _=>.c0 ws (i:Int) (Yd (ws.take i))) (Inv:=fun _ _=>True) (out:=fun _ _=>some (ofBytes (Yd ws)))
  (fun m _ _=>by
   simp [YAH,MAc,mk])
  (fun m i _ hi _=>.inr ⟨(),by
   have e:w64 ((i:Int)+1)=((i+1:Nat):Int):=by grind [w64_id]
   simp only [YAH,MAc,mk,e,Int.toNat_natCast]
   rw [TB (by simp_all),TB (by simp_all),TB (by grind [IBA])]
   grind [EBX,take_at,Yd],trivial,rfl⟩)
 exact key gas 0 () (Nat.zero_le _) (gas_lt (by omega)) trivial
def SAB:SHasher:=⟨ofBytes (Yd Xx.l),⟨#[]⟩,0⟩
theorem FBX:YAn=some SAB:=by
 rfl
def KZ (x a b:Int):Bool:=decide (a≤x) && decide (x≤b)
theorem Aa {x a b:Int}:KZ x a b=true↔a≤x∧x≤b:=by simp [KZ]
theorem Rf (x a b:Int):Td x a b=some (KZ x a b):=by
 show (bif decide (a≤x) then some (decide (x≤b)) else some false)=some (KZ x a b)
 grind [KZ]
theorem NBA {h:SHasher} (h1:h.fState.size=32) (h2:h.fRest.size<64) (h3:0≤h.fCount∧h.fCount≤1000000000) (h4:h.fCount % 64=(h.fRest.size:Int)):Y5 h=some true:=by
 have e:KZ h.fCount 0 1000000000=true:=by grind [Aa]
 simp only [Y5,ZAn,mk,Rf,Option.bind_some,e]
 grind
theorem GBX {s:ByteArray} {i:Nat} (h:4*i+4≤s.size) (hs:s.size≤9000000000000000000):PAP s ((4*i:Nat):Int)=some (wordAt (bs s) i):=by
 have hb:=Uh s
 have e1:w64 (((4*i:Nat):Int)+1)=((4*i+1:Nat):Int):=by grind [w64_id]
 have e2:w64 (((4*i:Nat):Int)+2)=((4*i+2:Nat):Int):=by grind [w64_id]
 have e3:w64 (((4*i:Nat):Int)+3)=((4*i+3:Nat):Int):=by grind [w64_id]
 simp only [PAP,AAo,mk,e1,e2,e3]
 rw [TB (by grind),TB (by grind),TB (by grind),TB (by grind)]
 rw [Xz (by omega),Xz (by omega),Xz (by omega),Xz (by omega)]
 have b0:=En hb (4*i)
 have b1:=En hb (4*i+1)
 have b2:=En hb (4*i+2)
 have b3:=En hb (4*i+3)
 unfold wordAt be4
 grind [FAZ]
theorem OBA {s:ByteArray} (hs:s.size≤1000000000000):Z5 s=some (Gg (bs s) (s.size / 4)):=by
 have key:=loopN (A:=Unit) (n:=s.size / 4) (Lp:=ZAH) (st:=fun i _=>.c0 s ((4*i:Nat):Int) (Gg (bs s) i)) (Inv:=fun _ _=>True) (out:=fun _ _=>some (Gg (bs s) (s.size / 4)))
  (fun m _ _=>by
   simp only [ZAH,NAc,mk]
   rw [w64_id (by omega) (by omega),PY (by simp;omega)])
  (fun m i _ hi _=>.inr ⟨(),by
   have e:w64 (((4*i:Nat):Int)+4)=((4*(i+1):Nat):Int):=by rw [w64_id (by omega) (by omega)];omega
   simp only [ZAH,NAc,mk,e,GBX (s:=s) (i:=i) (by omega) (by omega),Option.bind_some,JAF,FBA]
   rw [TB (by simp;omega),TB (by simp;omega)],trivial,rfl⟩)
 exact key gas 0 () (Nat.zero_le _) (gas_lt (by omega)) trivial
theorem Yz {x low high:Int} (h:R32 x) (hl:0<low) (hh:0<high) (hlh:low*high=4294967296):OAc x low high=some (rt low high x):=by
 have hr:=SBW h hl hh hlh
 obtain ⟨h1,h2⟩:=h
 have e0:(!(low == 0))=true:=by grind
 have d1:0≤x / low:=Int.ediv_nonneg h1 (by omega)
 have d2:0≤x % low*high:=Int.mul_nonneg (Int.emod_nonneg _ (by omega)) (by omega)
 unfold R32 rt at hr
 simp only [OAc,CAo,mk,e0,cond_true,Int.tdiv_eq_ediv_of_nonneg h1,Int.tmod_eq_emod_of_nonneg h1]
 rw [Ot d1 (by omega),Ot d2 (by omega),Ot (by omega) (by omega)]
 rfl
theorem HBX {x:Int} (h:R32 x):Yw x 131072 524288 1024 true=some (sg1 x):=by
 have e1:w32 (w32 ((2147483648:Int).tdiv 131072)*2)=32768:=by decide
 have e2:w32 (w32 ((2147483648:Int).tdiv 524288)*2)=8192:=by decide
 have e3:w32 (x.tdiv 1024)=x / 1024:=by
  obtain ⟨h1,h2⟩:=h
  grind [Ot]
 simp only [Yw,BAI,mk,e1,e2,e3,Yz h (low:=131072) (high:=32768) (by omega) (by omega) (by omega),Yz h (low:=524288) (high:=8192) (by omega) (by omega) (by omega),Option.bind_some,Vx]
 rfl
theorem IBX {x:Int} (h:R32 x):Yw x 128 262144 8 true=some (sg0 x):=by
 have e1:w32 (w32 ((2147483648:Int).tdiv 128)*2)=33554432:=by decide
 have e2:w32 (w32 ((2147483648:Int).tdiv 262144)*2)=16384:=by decide
 have e3:w32 (x.tdiv 8)=x / 8:=by
  obtain ⟨h1,h2⟩:=h
  grind [Ot]
 simp only [Yw,BAI,mk,e1,e2,e3,Yz h (low:=128) (high:=33554432) (by omega) (by omega) (by omega),Yz h (low:=262144) (high:=16384) (by omega) (by omega) (by omega),Option.bind_some,Vx]
 rfl
theorem JBX {x:Int} (h:R32 x):Yw x 64 2048 33554432 false=some (ep1 x):=by
 have e1:w32 (w32 ((2147483648:Int).tdiv 64)*2)=67108864:=by decide
 have e2:w32 (w32 ((2147483648:Int).tdiv 2048)*2)=2097152:=by decide
 have e3:w32 (w32 ((2147483648:Int).tdiv 33554432)*2)=128:=by decide
 simp only [Yw,BAI,mk,e1,e2,e3,Yz h (low:=64) (high:=67108864) (by omega) (by omega) (by omega),Yz h (low:=2048) (high:=2097152) (by omega) (by omega) (by omega),Yz h (low:=33554432) (high:=128) (by omega) (by omega) (by omega),Option.bind_some,Vx]
 rfl
theorem KBX {x:Int} (h:R32 x):Yw x 4 8192 4194304 false=some (ep0 x):=by
 have e1:w32 (w32 ((2147483648:Int).tdiv 4)*2)=1073741824:=by decide
 have e2:w32 (w32 ((2147483648:Int).tdiv 8192)*2)=524288:=by decide
 have e3:w32 (w32 ((2147483648:Int).tdiv 4194304)*2)=1024:=by decide
 simp only [Yw,BAI,mk,e1,e2,e3,Yz h (low:=4) (high:=1073741824) (by omega) (by omega) (by omega),Yz h (low:=8192) (high:=524288) (by omega) (by omega) (by omega),Yz h (low:=4194304) (high:=1024) (by omega) (by omega) (by omega),Option.bind_some,Vx]
 rfl
theorem LBX (s r:Reg):∀ i,i<8→(KAZ s r).l.getD i 0=w32 (s.l.getD i 0+r.l.getD i 0)
 | 0,_=>rfl | 1,_=>rfl | 2,_=>rfl | 3,_=>rfl | 4,_=>rfl | 5,_=>rfl | 6,_=>rfl | 7,_=>rfl
 | n+8,h=>by omega
def shL:Nat→List Int→List Int
 | 0,v=>v
 | i+1,v=>shL i (v.set (i+1) (v.getD i 0))
theorem MBX (t o W:List Int) (k T1 T2:Int) (hk:0≤k∧k<64):∀ (i m:Nat) (v:List Int),i<8→v.length=8→Ar (m+i+1) (.c2 t o k T1 T2 (i:Int) W v)=Ar m (.c1 t o (k+1) W (((shL i v).set 4 (w32 ((shL i v).getD 4 0+T1))).set 0 (w32 (T1+T2)))):=by
 intro i
 induction i with
 | zero=>
  intro m v _ hl
  have e:w64 (k+1)=k+1:=w64_id (by omega) (by omega)
  simp only [Ar,RAD,mk,e]
  rw [PY (by simp),TB (by simp [hl]),TB (by simp [hl]),TB (by simp [hl])]
  rfl
 | succ i ih=>
  intro m v hi hl
  have e:w64 (((i+1:Nat):Int) - 1)=(i:Int):=by grind [w64_id]
  rw [show m+(i+1)+1=(m+i+1)+1 by omega]
  rw [Ar]
  simp only [RAD,mk,e,Int.toNat_natCast]
  rw [TB (by simp),TB (by grind),TB (by grind),ih m _ (by omega) (by simp [hl])]
  rfl
theorem NBX (t W:List Int) (r:Reg) (hr:r.ok) (hW:∀ x ∈ W,R32 x) (hWl:W.length=64) (i m:Nat) (hi:i<64) :
  Ar (m+9) (.c1 t keysL (i:Int) W r.l)=Ar m (.c1 t keysL ((i:Int)+1) W (Wx r (keysL.getD i 0) (W.getD i 0)).l):=by
 obtain ⟨h1,h2,h3,h4,h5,h6,h7,h8⟩:=hr
 have hk:keysL.length=64:=rfl
 have g (q:Reg):q.l.getD 0 0=q.a∧q.l.getD 1 0=q.b∧q.l.getD 2 0=q.c∧q.l.getD 4 0=q.e∧q.l.getD 5 0=q.f∧q.l.getD 6 0=q.g∧q.l.getD 7 0=q.h:=⟨rfl,rfl,rfl,rfl,rfl,rfl,rfl⟩
 obtain ⟨g0,g1,g2,g4,g5,g6,g7⟩:=g r
 have hl:r.l.length=8:=rfl
 have z4:(4:Int).toNat=4:=rfl
 have z5:(5:Int).toNat=5:=rfl
 have z6:(6:Int).toNat=6:=rfl
 have z7:(7:Int).toNat=7:=rfl
 have z0:(0:Int).toNat=0:=rfl
 have z1:(1:Int).toNat=1:=rfl
 have z2:(2:Int).toNat=2:=rfl
 rw [show m+9=(m+7+1)+1 by omega,Ar]
 simp only [RAD,mk,z0,z1,z2,z4,z5,z6,z7,g0,g1,g2,g4,g5,g6,g7,hl,hk,hWl,JBX h5,KBX h1,Option.bind_some,Vx,XA0,Int.toNat_natCast]
 rw [TB (by grind),TB (by simp),TB (by simp),TB (by simp),TB (by simp),TB (by grind),TB (by grind),TB (by simp),TB (by simp),TB (by simp),TB (by simp),TB (by simp),TB (by simp),TB (by simp)]
 exact MBX t keysL W (i:Int) (t1 r (keysL.getD i 0) (W.getD i 0)) (t2 r) (by omega) 7 m r.l (by omega) rfl
theorem OBX (s:Reg) (hs:s.ok) (W:List Int) (hW:∀ x ∈ W,R32 x) (hWl:W.length=64):∀ (j i m:Nat),i+j=64→Ar (m+9*j+10) (.c1 s.l keysL (i:Int) W (Gl keysL W s i).l)=some (KAZ s (Gl keysL W s 64)).l:=by
 intro j
 induction j with
 | zero=>
  intro i m h
  obtain rfl:i=64:=by omega
  rfl
 | succ j ih=>
  intro i m h
  rw [show m+9*(j+1)+10=(m+9*j+10)+9 by omega,NBX s.l W _ (EBA keysL W hs i) hW hWl i _ (by omega)]
  exact ih (i+1) m (by omega)
theorem PBX (s:Reg) (hs:s.ok) (w:List Int) (hw:∀ x ∈ w,R32 x) (hwl:w.length=16):∀ (j i m:Nat),i+j=48→Ar (m+9*64+10+1+j) (.c0 s.l keysL ((16+i:Nat):Int) (sched w i))=some (KAZ s (Gl keysL (sched w 48) s 64)).l:=by
 intro j
 induction j with
 | zero=>
  intro i m h
  obtain rfl:i=48:=by omega
  rw [show m+9*64+10+1+0=(m+9*64+10)+1 by omega,Ar]
  simp only [RAD,mk]
  rw [PY (by simp),TB (by rfl)]
  exact OBX s hs _ (HAj hw 48) (HAZ hwl 48) 64 0 m (by omega)
 | succ j ih=>
  intro i m h
  have hl:=HAZ hwl i
  have hr:=HAj hw i
  have e2:w64 (((16+i:Nat):Int) - 2)=((16+i - 2:Nat):Int):=by grind [w64_id]
  have e7:w64 (((16+i:Nat):Int) - 7)=((16+i - 7:Nat):Int):=by grind [w64_id]
  have e15:w64 (((16+i:Nat):Int) - 15)=((16+i - 15:Nat):Int):=by grind [w64_id]
  have e16:w64 (((16+i:Nat):Int) - 16)=((16+i - 16:Nat):Int):=by grind [w64_id]
  have e1:w64 (((16+i:Nat):Int)+1)=((16+(i+1):Nat):Int):=by grind [w64_id]
  rw [show m+9*64+10+1+(j+1)=(m+9*64+10+1+j)+1 by omega,Ar]
  simp only [RAD,mk,e1,e2,e7,e15,e16,Int.toNat_natCast,hl,HBX (IAZ hr _),IBX (IAZ hr _),Option.bind_some]
  rw [TB (by grind),TB (by grind),TB (by grind),TB (by grind),TB (by grind),TB (by grind)]
  exact ih (i+1) m (by omega)
theorem PBA {s:Reg} (hs:s.ok) {b:ByteArray} (hb:b.size=64):SAD s.l keysL b=some (comp s (bs b)).l:=by
 have hr:=YA0 (Uh b) 16
 obtain ⟨m,hm⟩:∃ m,gas=m+9*64+10+1+48:=⟨gas - 635,by rfl⟩
 have h:=PBX s hs _ hr (JAF _ 16) 48 0 m (by omega)
 have e0:((16+0:Nat):Int)=16:=rfl
 rw [e0,show sched (Gg (bs b) 16) 0=Gg (bs b) 16 from rfl] at h
 rw [SAD,DAo,OBA (s:=b) (by omega),Option.bind_some,hb,hm]
 exact h
theorem QBA:AAI=some keysL:=rfl
theorem QBX (b:List Int) (i:Nat):(b.take (64*i+64)).drop (64*i)=(b.drop (64*i)).take 64:=by
 simp [List.drop_take]
theorem RBA (i:Nat) (s:Reg) (b:List Int):comps (i+1) s b=comp (comps i s b) ((b.drop (64*i)).take 64):=by
 rw [HBA i 1];rfl
theorem SBA {r:Reg} (h:r.ok):Z5 (ofBytes (Yd r.l))=some r.l:=by
 have hs:(ofBytes (Yd r.l)).size=32:=by rfl
 rw [OBA (by omega),hs,YZ (ZA0 (Reg.l_r h))]
 exact congrArg some (CBX (Reg.l_r h))
theorem RBX {s:ByteArray} (hs:s.size≤1000000000):QAc SAB s=some ⟨ofBytes (Yd (comps (s.size / 64) Xx (bs s)).l),s.extract (64*(s.size / 64)) s.size,(s.size:Int)⟩:=by
 have e0:Y5 SAB=some true:=NBA (by rfl) (by decide) (by decide) (by decide)
 have e1:((⟨#[]⟩:ByteArray)++s)=s:=Yi (by rfl)
 have key:=loopN (A:=Unit) (n:=s.size / 64) (Lp:=CAI) (st:=fun i _=>.c0 s s ((64*i:Nat):Int) SAB (⟨(⟨#[]⟩:ByteArray),(⟨#[]⟩:ByteArray),(0:Int)⟩:SHasher) (comps i Xx (bs s)).l keysL) (Inv:=fun _ _=>True)
  (out:=fun _ _=>some ⟨ofBytes (Yd (comps (s.size / 64) Xx (bs s)).l),s.extract (64*(s.size / 64)) s.size,(s.size:Int)⟩)
  (fun m _ _=>by
   have hw:w64 (SAB.fCount+(s.size:Int))=(s.size:Int):=by
    show w64 ((0:Int)+(s.size:Int))=_
    grind [w64_id]
   rw [CAI]
   simp only [PAc,mk,hw,Int.toNat_natCast]
   rw [w64_id (by omega) (by omega),PY (by grind),MBA (Reg.l_r (KAF LAF _ _)) (by simp [Reg.l]),Option.bind_some,TB (by simp;omega)])
  (fun m i _ hi _=>.inr ⟨(),by
   have e:w64 (((64*i:Nat):Int)+64)=((64*(i+1):Nat):Int):=by grind [w64_id]
   rw [CAI]
   simp only [PAc,mk,e,Int.toNat_natCast]
   rw [TB (by grind),TB (by simp;omega),PBA (KAF LAF _ _) (by simp;omega),Option.bind_some,Dn,show 64*(i+1)=64*i+64 by omega,QBX,←RBA],trivial,rfl⟩)
 rw [QAc,EAo,mk,e0,Option.bind_some,PY (by rfl)]
 have hw:w64 (SAB.fCount+(s.size:Int))=(s.size:Int):=by
  show w64 ((0:Int)+(s.size:Int))=_
  grind [w64_id]
 rw [hw,PY (by grind),show SAB.fState=ofBytes (Yd Xx.l) from rfl,SBA LAF,Option.bind_some,QBA,Option.bind_some,show SAB.fRest=⟨#[]⟩ from rfl,e1]
 rw [TB (by grind)]
 exact key gas 0 () (Nat.zero_le _) (gas_lt (by omega)) trivial
def MAF (b:Int):Nat→List Int
 | 0=>[]
 | i+1=>(b / 256 ^ i % 256)::MAF b i
def Zz:Nat→Nat
 | 0=>0
 | i+1=>Zz i+(i+2)
theorem SBX (x:Int) (j:Nat):x / 256 / 256 ^ j=x / 256 ^ (j+1):=by
 simp [Int.ediv_ediv_of_nonneg,Int.pow_succ,Int.mul_comm]
theorem TBX (h:SHasher) (b:Int):∀ (j k i m:Nat) (x:Int) (t:List Int),k+j=i→i≤7→0≤x→x≤9223372036854775807→t.length≤1000→
  Zl (m+j+1) (.c2 b (i:Int) x (k:Int) h t)=Zl m (.c1 b ((i:Int) - 1) h (t++[x / 256 ^ j % 256])):=by
 intro j
 induction j with
 | zero=>
  grind [w64_id,w8_id,Zl,Xy]
 | succ j ih=>
  intro k i m x t hk hi hx hx2 ht
  have e:w64 ((k:Int)+1)=((k+1:Nat):Int):=by grind [w64_id]
  have e2:w64 (x.tdiv 256)=x / 256:=by grind [w64_id]
  rw [show m+(j+1)+1=(m+j+1)+1 by omega,Zl]
  simp only [Xy,mk,e,e2]
  rw [TB (by grind),ih (k+1) i m (x / 256) t (by omega) hi (by omega) (by omega) ht,SBX]
theorem UBX (h:SHasher) (b:Int) (hb:0≤b) (hb2:b≤9223372036854775807):∀ (i m:Nat) (t:List Int),i≤8→t.length+i≤900→Zl (m+Zz i) (.c1 b ((i:Int) - 1) h t)=Zl m (.c1 b (-1) h (t++MAF b i)):=by
 intro i
 induction i with
 | zero=>simp [Zz,MAF]
 | succ i ih=>
  intro m t hi ht
  rw [Zz,show m+(Zz i+(i+2))=(m+Zz i)+i+1+1 by omega,Zl,show ((i+1:Nat):Int) - 1=(i:Int) by omega]
  simp only [Xy,mk]
  rw [TB (by simp),show (0:Int)=((0:Nat):Int) from rfl,TBX h b i 0 i _ b t (by omega) (by omega) hb hb2 (by omega),ih m _ (by omega) (by grind)]
  simp [MAF]
theorem VBX {b:Int} (h:0≤b) (h2:b<1099511627776):MAF b 8=Yx b:=by
 simp only [MAF,Yx,List.cons.injEq,and_true]
 omega
theorem WBX (r:Reg) (hr:r.ok) (t:List Int) (ht:He t) (n:Nat) (hn:t.length=64*n) (hn2:n≤100):∀ (j i m:Nat),i+j=n→Zl (m+j+1) (.c3 ((64*i:Nat):Int) t (comps i r t).l keysL)=some (ofBytes (Yd (comps n r t).l)):=by
 intro j
 induction j with
 | zero=>
  intro i m h
  obtain rfl:i=n:=by omega
  rw [Zl]
  simp only [Xy,mk]
  rw [PY (by simp_all),MBA (Reg.l_r (KAF hr _ _)) (by simp [Reg.l]),Option.bind_some]
 | succ j ih=>
  intro i m h
  have e:w64 (((64*i:Nat):Int)+64)=((64*(i+1):Nat):Int):=by grind [w64_id]
  have hl:((t.drop (64*i)).take (64*(i+1) - 64*i)).length=64:=by grind
  have hby:He ((t.drop (64*i)).take (64*(i+1) - 64*i)):=fun x hx=>ht x (List.mem_of_mem_drop (List.mem_of_mem_take hx))
  rw [show m+(j+1)+1=(m+j+1)+1 by omega,Zl]
  simp only [Xy,mk,e,Int.toNat_natCast]
  rw [TB (by grind),TB (by simp;omega),PBA (KAF hr _ _) (by rw [ofBytes_size,hl]),Option.bind_some,YZ hby,show 64*(i+1) - 64*i=64 by omega,←RBA]
  exact ih (i+1) m (by omega)
theorem XBX (h:SHasher) (r:List Int) (hr:r.length<64):∀ (j i m:Nat),i+j=(119 - r.length) % 64→Zl (m+j+1) (.c0 h (r++128::List.replicate i 0))=Zl m (.c1 (w64 (8*h.fCount)) 7 h (r++128::List.replicate ((119 - r.length) % 64) 0)):=by
 intro j
 induction j with
 | zero=>
  grind [Zl,Xy]
 | succ j ih=>
  intro i m hi
  rw [show m+(j+1)+1=(m+j+1)+1 by omega,Zl]
  simp only [Xy,mk]
  rw [TB (by grind),TB (by grind)]
  have e:(r++128::List.replicate i (0:Int))++[0]=r++128::List.replicate (i+1) 0:=by
   simp [List.replicate_succ']
  grind
theorem YBX {r:Reg} (hr:r.ok) {s:ByteArray} {n:Nat} (hs:s.size=n % 64) (hn:n≤1000000000):RAc ⟨ofBytes (Yd r.l),s,(n:Int)⟩=some (ofBytes (Yd (comps ((s.size+(Hg n).length) / 64) r (bs s++Hg n)).l)):=by
 have e0:Y5 ⟨ofBytes (Yd r.l),s,(n:Int)⟩=some true:=NBA (by rfl) (by grind) (by grind) (by simp_all)
 have hl:=bs_len s
 obtain ⟨m,hm⟩:∃ m,gas=((m+((s.size+(Hg n).length) / 64)+1+1+Zz 8)+((119 - (bs s).length) % 64)+1):=⟨gas - (((s.size+(Hg n).length) / 64)+1+1+Zz 8+((119 - (bs s).length) % 64)+1),by
  have:=gas_lt (n:=1000) (by omega)
  grind [IAj,Zz]⟩
 have hw:w64 (8*(n:Int))=8*(n:Int):=w64_id (by omega) (by omega)
 have hrep:(bs s++128::List.replicate ((119 - (bs s).length) % 64) 0)++MAF (8*(n:Int)) 8=bs s++Hg n:=by
  grind [VBX,Hg]
 rw [RAc,FAo,mk,e0,Option.bind_some,PY (by rfl),TB (by grind),TAM,TB (by grind),hm]
 have h0:=XBX ⟨ofBytes (Yd r.l),s,(n:Int)⟩ (bs s) (by omega) ((119 - (bs s).length) % 64) 0 (m+((s.size+(Hg n).length) / 64)+1+1+Zz 8) (by omega)
 rw [List.replicate_zero] at h0
 rw [h0,show (7:Int)=((8:Nat):Int) - 1 from rfl]
 simp only [hw]
 rw [UBX _ _ (by omega) (by omega) 8 _ _ (by omega) (by grind),hrep,Zl]
 simp only [Xy,mk]
 rw [PY (by simp),SBA hr,Option.bind_some,QBA,Option.bind_some]
 have hb:He (bs s++Hg n):=fun x hx=>by
  rcases List.mem_append.1 hx with hx | hx
  ·exact Uh s x hx
  ·exact AA1 n x hx
 have hlen:(bs s++Hg n).length=64*((s.size+(Hg n).length) / 64):=by
  grind [DBX]
 exact WBX r hr _ hb _ hlen (by grind [IAj]) ((s.size+(Hg n).length) / 64) 0 m (by omega)
theorem ZBX (b:List Int):comps ((b.length+(Hg b.length).length) / 64) Xx (b++Hg b.length)=comps ((b.length % 64+(Hg b.length).length) / 64) (comps (b.length / 64) Xx b) (b.drop (64*(b.length / 64))++Hg b.length):=by
 rw [show (b.length+(Hg b.length).length) / 64=b.length / 64+(b.length % 64+(Hg b.length).length) / 64 by omega,HBA,ZBW _ _ _ _ (by omega),List.drop_append_of_le_length (by omega)]
theorem Hl {s:ByteArray} (hs:s.size≤1000000000):Rh s=some (Ob s):=by
 have h1:(s.extract (64*(s.size / 64)) s.size).size=s.size % 64:=by simp;omega
 have h:=YBX (KAF LAF (s.size / 64) (bs s)) (s:=s.extract (64*(s.size / 64)) s.size) h1 hs
 rw [Dn,h1,List.take_of_length_le (by simp [bs_len])] at h
 rw [Rh,GAo,mk,FBX,Option.bind_some,RBX hs,Option.bind_some,h,Option.bind_some,Ob,Rt,ZBX,bs_len]
def Qc:SBook:=⟨Ob ⟨#[]⟩,0,[],0,ofBytes (List.replicate 32 0),0⟩
theorem LAZ:D6=some Qc:=by
 rw [D6,HAo,mk,Hl (by decide),Option.bind_some,show (32:Int)=((32:Nat):Int) from rfl,YA9 (by omega),Option.bind_some];rfl
def SN (n:Int):List Int:=if n > 127 then (128+n % 128)::SN (n / 128) else [w8 n]
termination_by n.toNat
decreasing_by omega
theorem TBA:∀ (k:Nat) (n:Int),n<128 ^ k→(SN n).length≤max k 1:=by
 intro k
 induction k<;>grind [SN]
theorem Zi {n:Int} (h:n≤9223372036854775807):(SN n).length≤10:=by
 have:=TBA 10 n (by omega)
 omega
theorem Qv (n:Int):1≤(SN n).length:=by grind [SN]
theorem UBA {n:Int} (h:n > 127) (h2:n≤9223372036854775807):w64 (n.tdiv 128)=n / 128∧w8 (w64 (n.tmod 128+128))=128+n % 128∧w8 (w64 (128+n.tmod 128))=128+n % 128:=by
 grind [w64_id,w8_id]
theorem O0 {n:Int} (h:n≤9223372036854775807):Jt n=some (ofBytes (SN n)):=by
 have key:∀ (n:Int) (m:Nat) (out:List Int),n≤9223372036854775807→(SN n).length≤m→out.length+(SN n).length≤1000→DAI m (.c0 n out)=some (ofBytes (out++SN n)):=by
  intro n
  induction n using SN.induct with
  | case1 n hn ih=>
   intro m out h1 h2 h3
   rw [SN,if_pos hn] at h2 h3 ⊢
   simp only [List.length_cons] at h2 h3
   obtain ⟨m,rfl⟩:∃ k,m=k+1:=⟨m - 1,by omega⟩
   grind [UBA,DAI,SAc]
  | case2 n hn=>
   intro m out h1 h2 h3
   rw [SN,if_neg hn] at h2 h3 ⊢
   simp at h2 h3
   obtain ⟨m,rfl⟩:∃ k,m=k+1:=⟨m - 1,by omega⟩
   grind [DAI,SAc]
 have hl:=Zi h
 exact key n gas [] h (Nat.le_of_lt (gas_lt (by omega))) (by grind)
def Za (x:SThing):Bool:=KZ x.fId 1 1000 && KZ x.fKind 1 3 && KZ x.fNext 0 16 && ((x.fKind == 2) || ((x.fNext == 0) && !x.fSigns)) && ((x.fKind == 1) || !x.fWraps) && (bif x.fKind == 3 then decide ((x.fValue.size:Int)≤100) else (x.fValue.size:Int) == 32)
theorem MAZ (x:SThing):F6 x=some (Za x):=by
 simp only [F6,IAo,mk,Rf,Option.bind_some,Za,bne]
 grind
theorem Uo {x:SThing} (h:Za x=true):1≤x.fKind∧x.fKind≤3∧1≤x.fId∧x.fId≤1000∧0≤x.fNext∧x.fNext≤16∧x.fValue.size≤100:=by
 grind [Za,Aa]
theorem ABY (b:Bool) (n:Int):JAo b n=some (bif b then n else 0):=by cases b <;> rfl
theorem Zp {n:Int} (h:0≤n) (h2:n≤255):Ij n=some (ofBytes [n]):=by
 have e:n.tmod 256=n:=by grind
 simp only [Ij,KAo,mk,e]
 grind [w8_id]
def Zx (s:ByteArray):ByteArray:=ofBytes (SN (s.size:Int))++s
theorem BBY {s:ByteArray} (h:s.size≤140737488351232):(Zx s).size≤s.size+10:=by
 grind [Zx,ofBytes_size,Zi]
theorem CBY {s:ByteArray} (h:s.size≤140737488351232):TAc s=some (Zx s):=by
 simp only [TAc,LAo,mk,O0 (n:=(s.size:Int)) (by omega),Option.bind_some]
 have:=Zi (n:=(s.size:Int)) (by omega)
 rw [show decide ((ofBytes (SN (s.size:Int))).size+s.size≤9223372036854775807)=true from decide_eq_true (by grind [ofBytes_size])]
 rfl
def Zj (x:SThing):Int:=(bif x.fHidden then 1 else 0)+(bif x.fFixed then 2 else 0)+(bif x.fSigns then 4 else 0)+(bif x.fWraps then 8 else 0)
theorem NAZ (x:SThing):0≤Zj x∧Zj x≤15:=by
 grind [Zj]
theorem DBY (m:Nat) (a b c d:Bool):QAg (m+5) (.c0 0 4 0 [a,b,c,d])=some ((bif a then 1 else 0)+(bif b then 2 else 0)+(bif c then 4 else 0)+(bif d then 8 else 0)):=by
 cases a <;> cases b <;> cases c <;> cases d <;> kernel_rfl
theorem EBY (x:SThing):RAg x=some (Zj x):=by
 obtain ⟨m,this⟩:∃ m,gas=m+5:=⟨gas - 5,rfl⟩
 unfold RAg CAw mk
 rw [this]
 exact DBY _ _ _ _ _
def TAB (x:SThing):ByteArray:=ofBytes (SN x.fId)++ofBytes [x.fKind]++ofBytes [Zj x]++Zx x.fValue++ofBytes (SN x.fNext)
def Gf (x:SThing):ByteArray×Bool:=bif Za x then (TAB x,true) else (⟨#[]⟩,false)
theorem CA1 {x:SThing} (h:Za x=true):(ofBytes (SN x.fId)).size≤10∧(Zx x.fValue).size≤110∧(ofBytes (SN x.fNext)).size≤10:=by
 obtain ⟨_,_,_,h1,_,h2,h3⟩:=Uo h
 grind [ofBytes_size,Zi,BBY]
theorem VBA {x:SThing} (h:Za x=true):(TAB x).size≤200:=by
 grind [CA1,TAB,ofBytes_size]
theorem OAZ (x:SThing):LAA x=some (Gf x):=by
 simp only [LAA,MAo,mk,MAZ,Option.bind_some,Gf]
 cases h:Za x
 ·rfl
 ·obtain ⟨k1,k2,k3,k4,k5,k6,k7⟩:=Uo h
  obtain ⟨z1,z2,z3⟩:=CA1 h
  have hf:=NAZ x
  have e1:∀ n:Int,(ofBytes [n]).size=1:=fun n=>ofBytes_size _
  have ef:w64 (w64 (w64 ((bif x.fHidden then (1:Int) else 0)+(bif x.fFixed then 2 else 0))+(bif x.fSigns then 4 else 0))+(bif x.fWraps then 8 else 0))=Zj x:=by
   unfold Zj;cases x.fHidden <;> cases x.fFixed <;> cases x.fSigns <;> cases x.fWraps <;> rfl
  simp only [ABY,Option.bind_some,ef,O0 (n:=x.fId) (by omega),Zp (n:=x.fKind) (by omega) (by omega),Zp hf.1 (by omega),CBY (s:=x.fValue) (by omega),O0 (n:=x.fNext) (by omega),ba_append_size,e1]
  simp only [Bool.not_true,cond_false,cond_true]
  rw [show decide ((ofBytes (SN x.fId)).size+1≤9223372036854775807)=true from decide_eq_true (by omega),show decide ((ofBytes (SN x.fId)).size+1+1≤9223372036854775807)=true from decide_eq_true (by omega),
   show decide ((ofBytes (SN x.fId)).size+1+1+(Zx x.fValue).size≤9223372036854775807)=true from decide_eq_true (by omega),show decide ((ofBytes (SN x.fId)).size+1+1+(Zx x.fValue).size+(ofBytes (SN x.fNext)).size≤9223372036854775807)=true from decide_eq_true (by omega)]
  rfl
def Vg (x:SThing):Bool:=(x.fId == 0) && ((x.fKind == 0) && ((x.fHidden == false) && ((x.fFixed == false) && ((x.fSigns == false) && ((x.fWraps == false) && (((ByteArray.toList x.fValue) == (ByteArray.toList (⟨#[]⟩:ByteArray))) && ((x.fNext == 0) && true)))))))
theorem WBA (x:SThing):((x.fId == 0) && ((x.fKind == 0) && ((x.fHidden == false) && ((x.fFixed == false) && ((x.fSigns == false) && ((x.fWraps == false) && (((ByteArray.toList x.fValue) == (ByteArray.toList (⟨#[]⟩:ByteArray))) && ((x.fNext == 0) && true))))))))=Vg x:=rfl
def Xg (s:ByteArray):Bool:=(ByteArray.toList s) == (ByteArray.toList (⟨#[]⟩:ByteArray))
theorem DA1 (s:ByteArray):((ByteArray.toList s) == (ByteArray.toList (⟨#[]⟩:ByteArray)))=Xg s:=rfl
def noT:ByteArray×Bool:=((⟨#[]⟩:ByteArray),false)
def WZ (r:SRec):ByteArray×Bool:=
 bif r.fKind == 1 then (bif (r.fText.size:Int) == 32 && r.fNum == 0 && Vg r.fThing then (ofBytes [1]++r.fText,true) else noT)
 else bif r.fKind == 2 then (bif Xg r.fText && Vg r.fThing && KZ r.fNum 0 3 then (ofBytes [2]++ofBytes (SN r.fNum),true) else noT)
 else bif r.fKind == 3 then (bif (Gf r.fThing).2 && Xg r.fText && r.fNum == 0 then (ofBytes [3]++(Gf r.fThing).1,true) else noT)
 else bif r.fKind == 4 then (bif Xg r.fText && Vg r.fThing && KZ r.fNum 1 1000 then (ofBytes [4]++ofBytes (SN r.fNum),true) else noT)
 else noT
theorem KAj {n a b:Int} (hb:b≤1000) (h:KZ n a b=true) (k:Int):(ofBytes [k]).size+(ofBytes (SN n)).size≤9223372036854775807:=by
 grind [Aa,Zi,ofBytes_size]
theorem XBA {x:SThing} (h:(Gf x).2=true) (k:Int):(ofBytes [k]).size+(Gf x).1.size≤9223372036854775807:=by
 grind [Gf,VBA,ofBytes_size]
theorem NAF (r:SRec):TAD r=some (WZ r):=by
 have h1:(⟨#[1]⟩:ByteArray)=ofBytes [1]:=rfl
 have h2:(⟨#[2]⟩:ByteArray)=ofBytes [2]:=rfl
 have h3:(⟨#[3]⟩:ByteArray)=ofBytes [3]:=rfl
 have h4:(⟨#[4]⟩:ByteArray)=ofBytes [4]:=rfl
 simp only [TAD,NAo,mk,Rf,OAZ,Option.bind_some,WBA,h1,h2,h3,h4]
 simp only [DA1,WZ]
 cases r.fKind == 1
 ·simp only [cond_false]
  cases r.fKind == 2
  ·simp only [cond_false]
   cases r.fKind == 3
   ·simp only [cond_false]
    cases r.fKind == 4
    ·rfl
    ·cases Xg r.fText <;> cases Vg r.fThing <;> (try rfl)
     cases h:KZ r.fNum 1 1000
     ·rfl
     ·have h':=h
      rw [Aa] at h'
      simp only [cond_true,O0 (n:=r.fNum) (by omega),Option.bind_some,Bool.and_self,decide_eq_true (KAj (by omega) h 4)]
   ·cases h:(Gf r.fThing).2
    ·rfl
    ·cases Xg r.fText <;> cases r.fNum == 0 <;> (try rfl)
     simp_all [XBA]
  ·cases Xg r.fText <;> cases Vg r.fThing <;> (try rfl)
   cases h:KZ r.fNum 0 3
   ·rfl
   ·have h':=h
    rw [Aa] at h'
    simp only [cond_true,O0 (n:=r.fNum) (by omega),Option.bind_some,Bool.and_self,decide_eq_true (KAj (by omega) h 2)]
 ·cases h:(r.fText.size:Int) == 32 <;> cases r.fNum == 0 <;> cases Vg r.fThing <;> (try rfl)
  grind [ofBytes_size]
def rise (last:Int):Int→List SThing→Bool
 | _,[]=>true
 | p,x::xs=>Za x && (!decide (x.fId > last) && (!decide (p≥x.fId) && rise last x.fId xs))
def Sr (l:List SThing):Nat→Int
 | 0=>0
 | i+1=>((l[i]?).map (·.fId)).getD 0
theorem EA1 {l:List SThing} {i:Nat} (hi:i<l.length):Sr l (i+1)=l[i].fId:=by simp [Sr,hi]
theorem YBA {l:List SThing} {last:Int} {i:Nat} (hi:i<l.length):rise last (Sr l i) (l.drop i)=(Za l[i] && (!decide (l[i].fId > last) && (!decide (Sr l i≥l[i].fId) && rise last (Sr l (i+1)) (l.drop (i+1))))):=by
 grind [drop_at,rise,EA1]
def Jg (b:SBook):Bool:=(b.fWord.size:Int) == 32 && ((b.fChain.size:Int) == 32 && (KZ b.fTries 0 3 && (decide ((b.fThings.length:Int)≤8) && (KZ b.fLast 0 1000 && (KZ b.fCount 0 10000 && rise b.fLast 0 b.fThings)))))
theorem FBY {b:SBook} (hb:b.fThings.length≤140737488351232):∀ m i,i≤b.fThings.length→b.fThings.length - i<m→MAA m (.c0 i b)=some (rise b.fLast (Sr b.fThings i) (b.fThings.drop i)):=fun m i h1 h2=>
 loopN (A:=Unit) (n:=b.fThings.length) (Lp:=MAA) (st:=fun i _=>.c0 i b) (Inv:=fun _ _=>True) (out:=fun i _=>some (rise b.fLast (Sr b.fThings i) (b.fThings.drop i)))
  (fun m _ _=>by
   simp only [MAA,VAc,mk]
   rw [show decide ((b.fThings.length:Int)<(b.fThings.length:Int))=false from decide_eq_false (by omega),List.drop_of_length_le (Nat.le_refl _)]
   rfl)
  (fun m i _ hi _=>by
   have hw:w64 ((i:Int)+1)=((i+1:Nat):Int):=by grind [w64_id]
   simp only [YBA hi]
   simp only [MAA,VAc,mk,Int.toNat_natCast,getD_at hi,MAZ,Option.bind_some,hw]
   rw [show decide ((i:Int)<(b.fThings.length:Int))=true from decide_eq_true (by omega),show decide ((0:Int)≤(i:Int))=true from decide_eq_true (by omega)]
   simp only [Bool.and_self,cond_true]
   cases h1:Za b.fThings[i]
   ·simp
   ·cases h2:decide (b.fThings[i].fId > b.fLast)
    ·by_cases h0:i=0
     ·subst h0
      refine .inr ⟨(),rfl,trivial,?_⟩
      rw [show decide (Sr b.fThings 0≥b.fThings[0].fId)=false from decide_eq_false (by have:=(Uo h1).2.2.1;grind [Sr])]
      rfl
     ·obtain ⟨j,rfl⟩:∃ j,i=j+1:=⟨i - 1,by omega⟩
      have hj:w64 (((j+1:Nat):Int) - 1)=(j:Int):=by grind [w64_id]
      have hjl:j<b.fThings.length:=by omega
      rw [EA1 hjl]
      simp only [hj,Int.toNat_natCast,getD_at hjl,Bool.not_true,Bool.not_false,cond_false,Bool.true_and]
      rw [show decide (((j+1:Nat):Int) > 0)=true from decide_eq_true (by omega),show decide ((0:Int)≤(j:Int))=true from decide_eq_true (by omega),show decide ((j:Int)<(b.fThings.length:Int))=true from decide_eq_true (by omega)]
      simp only [Bool.and_self,cond_true]
      cases h3:decide (b.fThings[j].fId≥b.fThings[j+1].fId)
      all_goals simp
    simp) m i () h1 h2 trivial
theorem OAF {b:SBook} (hb:b.fThings.length≤140737488351232):UAD b=some (Jg b):=by
 have h0:MAA gas (.c0 0 b)=some (rise b.fLast 0 b.fThings):=FBY hb gas 0 (Nat.zero_le _) (gas_lt (by omega))
 simp only [UAD,PAo,mk,Rf,Option.bind_some,Jg,bne,h0]
 grind
theorem FA1 {b:SBook} (h:b.fThings.length≤2932031007317):NAA b=some b:=by
 rw [NAA,QAo,mk,TB (by grind)];try rfl
def Ic (xs:List SThing) (t:Int):Option SThing:=xs.find? fun x=>x.fId == t
def UAB:SThing:=⟨0,0,false,false,false,false,⟨#[]⟩,0⟩
theorem XAM {b:SBook} {t:Int} (h:b.fThings.length≤140737488351232):Yy b t=some (match Ic b.fThings t with | some x=>(x,true) | none=>(UAB,false)):=by
 have key:∀ m i,i≤b.fThings.length→b.fThings.length - i<m→VAD m (.c0 t i b UAB)=some (match Ic (b.fThings.drop i) t with | some x=>(x,true) | none=>(UAB,false)):=fun m i h1 h2=>
  loopN (A:=Unit) (n:=b.fThings.length) (Lp:=VAD) (st:=fun i _=>.c0 t i b UAB) (Inv:=fun _ _=>True) (out:=fun i _=>some (match Ic (b.fThings.drop i) t with | some x=>(x,true) | none=>(UAB,false)))
   (fun m _ _=>by simp [VAD,WAc,mk,Ic,UAB])
   (fun m i _ hi _=>by
    have hw:w64 ((i:Int)+1)=((i+1:Nat):Int):=by grind [w64_id]
    simp only [VAD,WAc,mk,Int.toNat_natCast,getD_at hi,hw,drop_at hi,Ic,List.find?_cons]
    cases hq:b.fThings[i].fId == t
    all_goals simp_all) m i () h1 h2 trivial
 have h0:=key gas 0 (Nat.zero_le _) (gas_lt (by omega))
 exact h0
theorem PAZ {r:SRec} (h:(WZ r).2=true):(r.fKind=1∧r.fText.size=32)∨(r.fKind=2∧0≤r.fNum∧r.fNum≤3)∨(r.fKind=3∧Za r.fThing=true)∨(r.fKind=4∧1≤r.fNum∧r.fNum≤1000):=by
 rw [WZ] at h
 by_cases h1:r.fKind=1
 ·rw [show (r.fKind == 1)=true by simp_all,cond_true] at h
  cases hc:((r.fText.size:Int) == 32 && r.fNum == 0 && Vg r.fThing)
  ·rw [hc] at h;cases h
  grind
 rw [show (r.fKind == 1)=false by simp_all,cond_false] at h
 by_cases h2:r.fKind=2
 ·rw [show (r.fKind == 2)=true by simp_all,cond_true] at h
  cases hc:(Xg r.fText && Vg r.fThing && KZ r.fNum 0 3)
  ·rw [hc] at h;cases h
  simp_all [Aa]
 rw [show (r.fKind == 2)=false by simp_all,cond_false] at h
 by_cases h3:r.fKind=3
 ·rw [show (r.fKind == 3)=true by simp_all,cond_true] at h
  cases hc:((Gf r.fThing).2 && Xg r.fText && r.fNum == 0)
  ·rw [hc] at h;cases h
  grind [Gf]
 rw [show (r.fKind == 3)=false by simp_all,cond_false] at h
 by_cases h4:r.fKind=4
 ·rw [show (r.fKind == 4)=true by simp_all,cond_true] at h
  cases hc:(Xg r.fText && Vg r.fThing && KZ r.fNum 1 1000)
  ·rw [hc] at h;cases h
  simp_all [Aa]
 rw [show (r.fKind == 4)=false by simp_all] at h
 cases h
theorem VAB (r:SRec):(WZ r).1.size≤300:=by
 rw [WZ]
 have one:∀ n:Int,(ofBytes [n]).size=1:=fun n=>by rfl
 cases hk1:(r.fKind == 1)
 ·rw [cond_false]
  cases hk2:(r.fKind == 2)
  ·rw [cond_false]
   cases hk3:(r.fKind == 3)
   ·rw [cond_false]
    cases hk4:(r.fKind == 4)
    ·exact Nat.zero_le _
    ·rw [cond_true]
     cases hc:(Xg r.fText && Vg r.fThing && KZ r.fNum 1 1000)
     ·exact Nat.zero_le _
     grind [Aa,Zi,ofBytes_size]
   ·rw [cond_true]
    cases hc:((Gf r.fThing).2 && Xg r.fText && r.fNum == 0)
    ·exact Nat.zero_le _
    grind [Gf,VBA]
  ·rw [cond_true]
   cases hc:(Xg r.fText && Vg r.fThing && KZ r.fNum 0 3)
   ·exact Nat.zero_le _
   grind [Aa,Zi,ofBytes_size]
 ·rw [cond_true]
  cases hc:((r.fText.size:Int) == 32 && r.fNum == 0 && Vg r.fThing)
  ·exact Nat.zero_le _
  grind
def Gn:List SThing→Int→Nat→Option Nat
 | [],_,_=>none
 | x::xs,t,i=>if x.fId == t then some i else Gn xs t (i+1)
theorem ZBA (t:Int):∀ (xs:List SThing) (i:Nat),match Gn xs t i with | some j=>i≤j∧j<i+xs.length∧Ic xs t=xs[j - i]? | none=>Ic xs t=none:=by
 intro xs
 induction xs<;>grind [Gn,Ic]
theorem Vh {b:SBook}:Jg b=true↔b.fWord.size=32∧b.fChain.size=32∧(0≤b.fTries∧b.fTries≤3)∧b.fThings.length≤8∧(0≤b.fLast∧b.fLast≤1000)∧(0≤b.fCount∧b.fCount≤10000)∧rise b.fLast 0 b.fThings=true:=by
 grind [Jg,Aa]
theorem Tt {last p:Int} {x:SThing} {xs:List SThing}:rise last p (x::xs)=true↔Za x=true∧x.fId≤last∧p<x.fId∧rise last x.fId xs=true:=by
 simp [rise]
theorem Y7 {last:Int}:∀ {xs:List SThing} {p:Int},rise last p xs=true→∀ x ∈ xs,p<x.fId∧x.fId≤last∧Za x=true
 | [],_,_,x,hx=>by cases hx
 | y::ys,p,h,x,hx=>by
  obtain ⟨h1,h2,h3,h4⟩:=Tt.1 h
  rcases List.mem_cons.1 hx with rfl | hx
  ·simp_all
  ·have:=Y7 h4 x hx
   grind
theorem ABB {last last2:Int} (hl:last≤last2):∀ {xs:List SThing} {p p2:Int},p2≤p→rise last p xs=true→rise last2 p2 xs=true
 | [],_,_,_,_=>rfl
 | y::ys,p,p2,hp,h=>by
  obtain ⟨h1,h2,h3,h4⟩:=Tt.1 h
  exact Tt.2 ⟨h1,by omega,by omega,ABB hl (Int.le_refl _) h4⟩
def Sv (x:SThing) (ts:List SThing):List SThing:=ts.filter fun t=>decide (t.fId<x.fId)
def gtF (x:SThing) (ts:List SThing):List SThing:=ts.filter fun t=>decide (t.fId > x.fId)
def putAt (ts:List SThing) (x:SThing):List SThing:=Sv x ts++x::gtF x ts
def without (ts:List SThing) (id:Int):List SThing:=ts.filter fun t=>t.fId != id
theorem GBY {last:Int} {x:SThing}:∀ {xs:List SThing} {p:Int},x.fId≤p→rise last p xs=true→Sv x xs=[]∧gtF x xs=xs∧without xs x.fId=xs:=by
 intro xs p hp h
 have ha:=Y7 h
 refine ⟨List.filter_eq_nil_iff.2 fun t ht=>?_,List.filter_eq_self.2 fun t ht=>?_,List.filter_eq_self.2 fun t ht=>?_⟩
 all_goals grind
theorem BBB {id:Int}:∀ {xs:List SThing} {i j:Nat},Gn xs id i=some j→i≤j∧∃ x ∈ xs,x.fId=id:=by
 intro xs
 induction xs<;>grind [Gn]
theorem GA1 {last:Int} {x:SThing}:∀ {xs:List SThing} {p:Int} {i j:Nat},rise last p xs=true→Gn xs x.fId i=some j→xs.set (j - i) x=putAt xs x∧(xs.take (j - i)++xs.drop (j - i+1))=without xs x.fId:=by
 intro xs
 induction xs with
 | nil=>intro p i j _ h;cases h
 | cons y ys ih=>
  intro p i j hr h
  obtain ⟨h1,h2,h3,h4⟩:=Tt.1 hr
  rw [Gn] at h
  split at h
  ·rename_i hy
   have hy:=beq_iff_eq.1 hy
   cases h
   obtain ⟨f1,f2,f3⟩:=GBY (x:=x) (by omega) h4
   grind [putAt,Sv,gtF,without]
  ·rename_i hy
   obtain ⟨h5,z,h6,h7⟩:=BBB h
   have h8:=Y7 h4 z h6
   grind [putAt,Sv,gtF,without]
theorem CBB {last:Int} {x:SThing} {xs:List SThing} {p:Int} (h:rise last p xs=true) (hx:last<x.fId):putAt xs x=xs++[x]∧Ic xs x.fId=none:=by
 have ha:=Y7 h
 grind [putAt,Sv,gtF,List.filter_eq_self,List.filter_eq_nil_iff,Ic]
theorem HBY {last:Int} {x:SThing} (hx:Za x=true) (hl:last<x.fId):∀ {xs:List SThing} {p:Int},p<x.fId→rise last p xs=true→rise x.fId p (xs++[x])=true:=by
 intro xs
 induction xs with
 | nil=>intro p hp _;exact Tt.2 ⟨hx,Int.le_refl _,hp,rfl⟩
 | cons y ys ih=>
  grind [Tt]
theorem IBY {last:Int} {x:SThing} (hx:Za x=true):∀ {xs:List SThing} {p:Int} {i j:Nat},rise last p xs=true→Gn xs x.fId i=some j→rise last p (xs.set (j - i) x)=true:=by
 intro xs
 induction xs with
 | nil=>simp_all
 | cons y ys ih=>
  intro p i j hr h
  obtain ⟨h1,h2,h3,h4⟩:=Tt.1 hr
  rw [Gn] at h
  split at h
  ·simp_all [Tt]
  ·have h5:=(BBB h).1
   have e:j - i=(j - (i+1))+1:=by omega
   simp_all [Tt]
theorem JBY {last:Int} (id:Int):∀ {xs:List SThing} {p:Int},rise last p xs=true→rise last p (without xs id)=true:=by
 intro xs
 induction xs with
 | nil=>intro p _;rfl
 | cons y ys ih=>
  intro p h
  obtain ⟨h1,h2,h3,h4⟩:=Tt.1 h
  rw [without,List.filter_cons]
  split
  ·exact Tt.2 ⟨h1,h2,h3,ih h4⟩
  ·exact ABB (Int.le_refl _) (by omega) (ih h4)
def grown (x y:SThing):Bool:=y.fKind == x.fKind && ((bs y.fValue == bs x.fValue) && (y.fSigns == x.fSigns && (y.fWraps == x.fWraps && (decide (x.fNext≤y.fNext) && ((y.fHidden || !x.fHidden) && (y.fFixed || !x.fFixed))))))
def YAM:SBook:=⟨⟨#[]⟩,0,[],0,⟨#[]⟩,0⟩
def Z7 (b:SBook) (x:SThing):Option (List SThing×Int):=match Ic b.fThings x.fId with
 | some old=>bif grown old x then some (putAt b.fThings x,b.fLast) else none
 | none=>bif x.fId != b.fLast+1 || decide ((b.fThings.length:Int)≥8) then none else some (b.fThings++[x],x.fId)
def Xa (b:SBook) (r:SRec):SBook×Bool:=
 bif !(Jg b) || (!(WZ r).2 || decide (b.fCount≥10000)) then (YAM,false)
 else bif r.fKind == 1 then (⟨r.fText,0,b.fThings,b.fLast,Ob (b.fChain++(WZ r).1),b.fCount+1⟩,true)
 else bif r.fKind == 2 then (⟨b.fWord,r.fNum,b.fThings,b.fLast,Ob (b.fChain++(WZ r).1),b.fCount+1⟩,true)
 else bif r.fKind == 3 then (match Z7 b r.fThing with
  | some p=>(⟨b.fWord,b.fTries,p.1,p.2,Ob (b.fChain++(WZ r).1),b.fCount+1⟩,true)
  | none=>(YAM,false))
 else (match Ic b.fThings r.fNum with
  | some _=>(⟨b.fWord,b.fTries,without b.fThings r.fNum,b.fLast,Ob (b.fChain++(WZ r).1),b.fCount+1⟩,true)
  | none=>(YAM,false))
theorem IA1 {xs:List SThing} {id:Int}:(∃ x j,Ic xs id=some x∧Gn xs id 0=some j∧j<xs.length∧xs[j]?=some x∧x.fId=id)∨(Ic xs id=none∧Gn xs id 0=none):=by
 grind [ZBA,Ic]
theorem A8 {b:SBook} {r:SRec} (h:(Xa b r).2=true):Jg b=true∧(WZ r).2=true∧b.fCount<10000∧Jg (Xa b r).1=true∧(Xa b r).1.fCount=b.fCount+1∧(Xa b r).1.fChain=Ob (b.fChain++(WZ r).1):=by
 rw [Xa] at h ⊢
 cases h1:Jg b
 ·simp_all
 cases h2:(WZ r).2
 ·simp_all
 by_cases h3:b.fCount≥10000
 ·simp_all
 rw [h1,h2,decide_eq_false h3] at h
 rw [decide_eq_false h3]
 simp only [Bool.not_true,Bool.or_false,cond_false] at h ⊢
 obtain ⟨b1,b2,b3,b4,b5,b6,b7⟩:=Vh.1 h1
 refine ⟨trivial,trivial,by omega,?_⟩
 have hd:∀ s,(Ob s).size=32:=Ig
 rcases PAZ h2 with ⟨hk,hz⟩ | ⟨hk,hz⟩ | ⟨hk,hz⟩ | ⟨hk,hz⟩
 ·grind [Vh]
 ·grind [Vh]
 ·rw [hk] at h ⊢
  simp only [show ((3:Int) == 1)=false from rfl,show ((3:Int) == 2)=false from rfl,show ((3:Int) == 3)=true from rfl,cond_true,cond_false] at h ⊢
  rw [Z7] at h ⊢
  rcases IA1 (xs:=b.fThings) (id:=r.fThing.fId) with ⟨x,j,t1,t2,t3,t4,t5⟩ | ⟨t1,t2⟩
  ·rw [t1] at h ⊢
   simp only at h ⊢
   cases hg:grown x r.fThing
   ·simp_all
   ·have e:=(GA1 b7 t2).1
    rw [Nat.sub_zero] at e
    have hrs:=IBY hz b7 t2
    grind [Vh]
  ·rw [t1] at h ⊢
   simp only at h ⊢
   cases hg:(r.fThing.fId != b.fLast+1 || decide ((b.fThings.length:Int)≥8))
   ·rw [Bool.or_eq_false_iff,bne_eq_false_iff_eq,decide_eq_false_iff_not] at hg
    have hid:r.fThing.fId≤1000:=by
     simp_all [Za,Aa]
    exact ⟨Vh.2 ⟨b1,hd _,b3,by grind,by grind,by grind,HBY hz (by omega) (by omega) b7⟩,rfl,rfl⟩
   simp_all
 grind [Vh,without,JBY]
theorem D8 (a b:ByteArray):(a.toList == b.toList)=(bs a == bs b):=by
 grind [toList_inj,Yi]
theorem KBY (x y:SThing):AAQ x y=some (grown x y):=by
 rw [AAQ,SAo,mk,grown,D8,show (bs x.fValue == bs y.fValue)=(bs y.fValue == bs x.fValue) by grind,
  show (x.fKind == y.fKind)=(y.fKind == x.fKind) by grind]
 grind
theorem JA1 {f:SThing→Bool} {l:List SThing} {i:Nat} (h:i<l.length):(l.take (i+1)).filter f=(l.take i).filter f++(bif f l[i] then [l[i]] else []):=by
 grind [take_at]
theorem DBB {l:List SThing} {x:SThing} (hl:l.length≤1000000000):CAQ l x=some (putAt l x):=by
 have k1:∀ (j i m:Nat),i+j=l.length→Zy (m+j) (.c1 l (i:Int) x (Sv x l++[x]++(l.take i).filter (fun t=>decide (t.fId > x.fId))))=Zy m (.c1 l (l.length:Int) x (Sv x l++[x]++gtF x l)):=by
  intro j
  induction j with
  | zero=>(intro i m h;obtain rfl:i=l.length:=by omega);rw [List.take_length];rfl
  | succ j ih=>
   intro i m h
   have hi:i<l.length:=by omega
   have e:w64 ((i:Int)+1)=((i+1:Nat):Int):=by grind [w64_id]
   have h2:=ih (i+1) m (by omega)
   rw [JA1 hi] at h2
   have hf1:(Sv x l).length≤l.length:=List.length_filter_le ..
   have hf2:((l.take i).filter (fun t=>decide (t.fId > x.fId))).length≤i:=Nat.le_trans (List.length_filter_le ..) (by grind)
   rw [show m+(j+1)=(m+j)+1 by omega,Zy]
   simp only [EAI,mk,e,Int.toNat_natCast,getD_at hi]
   grind
 have k0:∀ (j i m:Nat),i+j=l.length→Zy (m+1+l.length+1+j) (.c0 l (i:Int) x ((l.take i).filter (fun t=>decide (t.fId<x.fId))))=some (putAt l x):=by
  intro j
  induction j with
  | zero=>
   intro i m h
   obtain rfl:i=l.length:=by omega
   have hf1:(Sv x l).length≤l.length:=List.length_filter_le ..
   rw [List.take_length,show l.filter (fun t=>decide (t.fId<x.fId))=Sv x l from rfl,Nat.add_zero,Zy]
   simp only [EAI,mk]
   rw [PY (by simp),TB (by grind)]
   have h2:=k1 l.length 0 (m+1) (by omega)
   grind [Zy,EAI,putAt]
  | succ j ih=>
   intro i m h
   have hi:i<l.length:=by omega
   have e:w64 ((i:Int)+1)=((i+1:Nat):Int):=by grind [w64_id]
   have h2:=ih (i+1) m (by omega)
   rw [JA1 hi] at h2
   grind [Zy,EAI,Int.toNat_natCast]
 obtain ⟨m,hm⟩:∃ m,gas=m+1+l.length+1+l.length:=⟨gas - (2*l.length+2),by have:=gas_lt (n:=2*l.length+2) (by omega);omega⟩
 rw [CAQ,TAo,hm]
 have h:=k0 l.length 0 m (by omega)
 assumption
theorem KA1 {b:SBook} {r:SRec} (hb:b.fThings.length≤140737488351232):Az b r=some (Xa b r):=by
 have hok:(Xa b r).2=true→_:=A8 (b:=b) (r:=r)
 rw [Az,UAo,mk,NAF,Option.bind_some,OAF hb,Option.bind_some]
 rw [Xa] at hok ⊢
 cases h1:Jg b
 ·rfl
 cases h2:(WZ r).2
 ·rfl
 obtain ⟨b1,b2,b3,b4,b5,b6,b7⟩:=Vh.1 h1
 by_cases h3:b.fCount≥10000
 ·have h3':(b.fCount == 10000)=true:=by grind
  simp only [decide_eq_true h3,h3',Bool.not_true,Bool.or_true,Bool.false_or,cond_false,cond_true]
  rfl
 have hz:=VAB r
 have hw:w64 (b.fCount+1)=b.fCount+1:=w64_id (by omega) (by omega)
 have hdig:=Hl (s:=b.fChain++(WZ r).1) (by grind)
 have hsz:decide (b.fChain.size+(WZ r).1.size≤9223372036854775807)=true:=by grind
 have h3':(b.fCount == 10000)=false:=by grind
 rw [h1,h2,decide_eq_false h3] at hok
 simp only [Bool.not_true,Bool.or_self,cond_false] at hok
 simp only [decide_eq_false h3,h3',Bool.not_true,Bool.or_self,cond_false,FA1 (show b.fThings.length≤2932031007317 by omega),hdig,hsz,hw,Option.bind_some,cond_true]
 rcases PAZ h2 with ⟨hk,hc⟩ | ⟨hk,hc⟩ | ⟨hk,hc⟩ | ⟨hk,hc⟩
 ·grind [OAF]
 ·grind [OAF]
 ·rw [hk] at hok ⊢
  simp only [show ((3:Int) == 1)=false from rfl,show ((3:Int) == 2)=false from rfl,show ((3:Int) == 3)=true from rfl,cond_true,cond_false] at hok ⊢
  have hid:=(Uo hc)
  have hpl:(putAt b.fThings r.fThing).length≤1000:=by
   grind [Sv,gtF,putAt]
  rw [XAM hb,Option.bind_some]
  rw [Z7] at hok ⊢
  cases ht:Ic b.fThings r.fThing.fId with
  | some o=>
   rw [ht] at hok
   simp only [cond_true,KBY,Option.bind_some,Bool.not_true,cond_false,DBB (show b.fThings.length≤1000000000 by omega)] at hok ⊢
   cases hg:grown o r.fThing
   ·rfl
   grind [OAF]
  | none=>
   rw [ht] at hok
   have hw2:w64 (b.fLast+1)=b.fLast+1:=w64_id (by omega) (by omega)
   simp only [cond_false,Bool.not_false,cond_true,hw2,DBB (show b.fThings.length≤1000000000 by omega),Option.bind_some] at hok ⊢
   cases hg:(r.fThing.fId != b.fLast+1)
   ·rw [hg] at hok
    rw [bne_eq_false_iff_eq] at hg
    have hpn:=(CBB b7 (show b.fLast<r.fThing.fId by omega)).1
    by_cases h8:(b.fThings.length:Int)≥8
    ·rw [decide_eq_true h8,cond_false,TB (by grind)];rfl
    grind [OAF]
   ·rfl
 ·rw [hk] at hok ⊢
  simp only [show ((4:Int) == 1)=false from rfl,show ((4:Int) == 2)=false from rfl,show ((4:Int) == 3)=false from rfl,show ((4:Int) == 4)=true from rfl,cond_true,cond_false] at hok ⊢
  rw [XAM hb,Option.bind_some]
  cases ht:Ic b.fThings r.fNum with
  | none=>rfl
  | some o=>
   rw [ht] at hok
   simp only [Bool.not_true,cond_false] at hok ⊢
   have h5:=(hok trivial).2.2.2.1
   have key:∀ (j i m:Nat),i+j=b.fThings.length→FAI (m+j+1) (.c0 (WZ r).1 (i:Int) b r ⟨#[]⟩ 0 0 ⟨#[]⟩ 0 b.fWord b.fTries b.fLast b.fChain b.fCount ((b.fThings.take i).filter (fun t=>t.fId != r.fNum)) [] b.fThings)=some (⟨b.fWord,b.fTries,without b.fThings r.fNum,b.fLast,Ob (b.fChain++(WZ r).1),b.fCount+1⟩,true):=by
    intro j
    induction j with
    | zero=>
     grind [without,List.take_length,FAI,XAc,OAF]
    | succ j ih=>
     intro i m hi
     have hil:i<b.fThings.length:=by omega
     have e:w64 ((i:Int)+1)=((i+1:Nat):Int):=by grind [w64_id]
     have h6:=ih (i+1) m (by omega)
     rw [JA1 hil] at h6
     have hf2:((b.fThings.take i).filter (fun t=>t.fId != r.fNum)).length≤i:=Nat.le_trans (List.length_filter_le ..) (by grind)
     rw [show m+(j+1)+1=(m+j+1)+1 by omega,FAI]
     grind [XAc]
   obtain ⟨m,hm⟩:=gm (n:=b.fThings.length) (by omega)
   have h0:=key b.fThings.length 0 m (by omega)
   simp_all
def xb (x y:Int):Int:=w8 (((BitVec.toNat ((BitVec.ofInt (IntKind.bits IntKind.u8) x) ^^^ (BitVec.ofInt (IntKind.bits IntKind.u8) y))):Nat):Int)
theorem LA1 (x y:Int):w8 (((BitVec.toNat ((BitVec.ofInt (IntKind.bits IntKind.u8) x) ^^^ (BitVec.ofInt (IntKind.bits IntKind.u8) y))):Nat):Int)=xb x y:=rfl
theorem EBB (x y:Int):0≤xb x y∧xb x y≤255:=by grind [xb,w8_mod]
theorem LBY {x:Int} (h:0≤x∧x≤255) (y:Int):xb (xb x y) y=x:=by
 have e:∀ (a b:BitVec 8),BitVec.ofInt 8 (((a ^^^ b).toNat:Nat):Int) ^^^ b=a:=by
  simp [BitVec.xor_assoc]
 have h8:∀ (a b:BitVec 8),w8 (((a ^^^ b).toNat:Nat):Int)=(((a ^^^ b).toNat:Nat):Int):=fun a b=>by
  grind [w8_id]
 unfold xb
 show w8 (((BitVec.ofInt 8 (w8 (((BitVec.ofInt 8 x ^^^ BitVec.ofInt 8 y).toNat:Nat):Int)) ^^^ BitVec.ofInt 8 y).toNat:Nat):Int)=x
 rw [h8 (BitVec.ofInt 8 x),e,BitVec.toNat_ofInt,w8_mod]
 omega
def Pn (x:Int) (l:List Int):List Int:=l.map fun b=>xb b x
theorem LAj (x:Int) (l:List Int):(Pn x l).length=l.length:=by simp [Pn]
theorem MAj (x:Int) (l:List Int):He (Pn x l):=fun n hn=>by
 simp only [Pn,List.mem_map] at hn
 obtain ⟨b,_,rfl⟩:=hn
 exact EBB _ _
def Ak (k:List Int):List Int:=k++List.replicate (64 - k.length) 0
def E8 (k:List Int):List Int:=if 64<k.length then Ak (Rt k) else Ak k
theorem MBY (k:List Int):(E8 k).length=64:=by
 grind [E8,Ak,KBA]
def F8 (k s:List Int):List Int:=Rt (Pn 92 (E8 k)++Rt (Pn 54 (E8 k)++s))
def mac (k s:ByteArray):ByteArray:=ofBytes (F8 (bs k) (bs s))
theorem FBB (k s:List Int):(F8 k s).length=32:=KBA _
theorem NAj (k s:List Int):He (F8 k s):=LBA _
theorem GBB (k s:ByteArray):bs (mac k s)=F8 (bs k) (bs s):=YZ (NAj _ _)
theorem NBY {α:Type} (f:α→α) {l:List α} {i:Nat} (h:i<l.length):((l.take i).map f++l.drop i).set i (f l[i])=(l.take (i+1)).map f++l.drop (i+1):=by
 grind [drop_at,IAF]
theorem OBY (k:List Int) {i:Nat}:(Ak k).getD i 0=k.getD i 0:=by
 grind [Ak]
theorem PBY (f:Int→Int) {l:List Int} (hl:l.length=64) {i:Nat} (h:i<64) (y:Int) (hy:y=f (l.getD i 0)):((l.take i).map f++List.replicate (64 - i) 0).set i y=(l.take (i+1)).map f++List.replicate (64 - (i+1)) 0:=by
 rw [show 64 - i=(64 - (i+1))+1 by omega,List.replicate_succ,IAF (by grind),take_at (by omega),hy,getD_at (by omega),List.map_append,List.append_assoc]
 rfl
theorem QBY {k:ByteArray} (hk:k.size≤64) (x:Int):WAD gas (.c0 k x (0:Int) (List.replicate (64:Int).toNat (0:Int)))=some (ofBytes (Pn x (Ak (bs k)))):=by
 have hl:(Ak (bs k)).length=64:=by simp_all [Ak,bs_len]
 have key:=loopN (A:=Unit) (n:=64) (Lp:=WAD) (st:=fun i _=>.c0 k x (i:Int) (((Ak (bs k)).take i).map (fun b=>xb b x)++List.replicate (64 - i) 0)) (Inv:=fun _ _=>True) (out:=fun _ _=>some (ofBytes (Pn x (Ak (bs k)))))
  (fun m _ _=>by
   rw [WAD]
   simp only [YAc,mk]
   rw [PY (by simp),List.take_of_length_le (by omega),Nat.sub_self,List.replicate_zero,List.append_nil];rfl)
  (fun m i _ hi _=>.inr ⟨(),by
   have e:w64 ((i:Int)+1)=((i+1:Nat):Int):=by grind [w64_id]
   have hlen:(((Ak (bs k)).take i).map (fun b=>xb b x)++List.replicate (64 - i) 0).length=64:=by grind
   have hm:(((Ak (bs k)).take i).map (fun b=>xb b x)).length=i:=by grind
   rw [WAD]
   simp only [YAc,mk,e,Int.toNat_natCast,List.length_set,hlen,LA1]
   grind [Xz,List.set_set,PBY,OBY,bs_len],trivial,rfl⟩)
 exact key gas 0 () (Nat.zero_le _) (gas_lt (by omega)) trivial
theorem HBB {k:ByteArray} (hk:k.size≤1000000000) (x:Int):ZAc k x=some (ofBytes (Pn x (E8 (bs k)))):=by
 rw [ZAc,WAo,mk]
 grind [Hl,QBY,Ig,E8,bs_len,JAj]
theorem IBB {k s:ByteArray} (hk:k.size≤900000000) (hs:s.size≤900000000):GAI k s=some (mac k s):=by
 have x1:=LAj 92 (E8 (bs k))
 have x2:=LAj 54 (E8 (bs k))
 have x3:=MBY (bs k)
 rw [GAI,XAo,mk,HBB (by omega),Option.bind_some,HBB (by omega),Option.bind_some,TB (by grind [ofBytes_size])]
 rw [Hl (by grind [ofBytes_size]),Option.bind_some,TB (by simp_all [ofBytes_size,Ig]),Hl (by simp_all [ofBytes_size,Ig]),Option.bind_some]
 rw [Ob,Ue,JAj,Ue,YZ (MAj _ _),YZ (MAj _ _),mac,F8]
def XAB (k v:List Int):Nat→List Int
 | 0=>[]
 | i+1=>XAB k v i++F8 k (109::(v++[(i:Int)]))
theorem YAB (k v:List Int) (i:Nat):(XAB k v i).length=32*i:=by
 induction i<;>grind [XAB,FBB]
theorem JBB (k v:List Int) (i:Nat):He (XAB k v i):=by
 induction i with
 | zero=>intro n hn;cases hn
 | succ i ih=>
  intro n hn
  rcases List.mem_append.1 hn with hn | hn
  ·exact ih n hn
  ·exact NAj _ _ n hn
def Ur (k v:List Int) (n:Nat):List Int:=(XAB k v ((n+31) / 32)).take n
theorem Dy (k v:List Int) (n:Nat):(Ur k v n).length=n:=by grind [Ur,YAB]
theorem QAZ (k v:List Int) (n:Nat):He (Ur k v n):=fun x hx=>JBB _ _ _ x (List.mem_of_mem_take hx)
def maskOk (num:Int) (n:Int):Bool:=KZ num 0 1000000000 && KZ n 0 8000
def ZAB (k:ByteArray) (num:Int) (n:Int):ByteArray×Bool:=bif maskOk num n then (ofBytes (Ur (bs k) (SN num) n.toNat),true) else (⟨#[]⟩,false)
theorem U0:∀ {n:Int},0≤n→He (SN n):=by
 intro n
 induction n using SN.induct with
 | case1 n hn ih=>
  intro h x hx
  rw [SN,if_pos hn] at hx
  rcases List.mem_cons.1 hx with rfl | hx
  ·omega
  ·exact ih (by omega) x hx
 | case2 n hn=>
  intro h x hx
  grind [SN,w8_mod]
theorem KBB (k:ByteArray) {num:Int} (hn:0≤num) (hn2:num≤1000000000) (i:Nat) (hi:i≤255) :
  mac k (((⟨#[109]⟩:ByteArray)++ofBytes (SN num))++ofBytes [(i:Int)])=ofBytes (F8 (bs k) (109::(SN num++[(i:Int)]))):=by
 have e:bs (⟨#[109]⟩:ByteArray)=[109]:=rfl
 rw [mac,Ue,Ue,YZ (U0 hn),e,YZ (fun x hx=>by grind)]
 rfl
def Jj (a b:List Int):List Int:=List.zipWith xb a b
theorem QAF {a b:List Int} (h:a.length≤b.length):(Jj a b).length=a.length:=by simp_all [Jj]
theorem G8 (a b:List Int):He (Jj a b):=by
 intro n hn
 rw [Jj,List.mem_iff_getElem] at hn
 obtain ⟨i,hi,rfl⟩:=hn
 simp [EBB]
theorem MA1 {α:Type} (f:α→α→α):∀ (a b:List α),List.zipWith f a (b.take a.length)=List.zipWith f a b
 | [],_=>rfl
 | _::_,[]=>rfl
 | x::a,y::b=>by simp [MA1]
theorem LBB {a b:List Int} {i:Nat} (h:i<a.length) (h2:i<b.length):(List.zipWith xb (a.take i) (b.take i)++a.drop i).set i (xb a[i] (b.getD i 0))=List.zipWith xb (a.take (i+1)) (b.take (i+1))++a.drop (i+1):=by
 rw [drop_at h,IAF (by grind),take_at h,take_at h2,getD_at h2,List.zipWith_append (by grind),List.append_assoc]
 rfl
def Vr (k:List Int) (num:Int) (s:List Int):List Int:=(F8 k (116::(SN num++s))).take 16
theorem ZAM (k:List Int) (num:Int) (s:List Int):(Vr k num s).length=16:=by rfl
theorem X0 (k:List Int) (num:Int) (s:List Int):He (Vr k num s):=fun x hx=>NAj _ _ x (List.mem_of_mem_take hx)
def Qn (k:List Int) (num:Int) (s:List Int):List Int:=Jj s (Ur k (SN num) s.length)++Vr k num (Jj s (Ur k (SN num) s.length))
def Wh (k:ByteArray) (num:Int) (s:ByteArray):ByteArray×Bool:=bif maskOk num s.size then (ofBytes (Qn (bs k) num (bs s)),true) else (⟨#[]⟩,false)
def Jb (k:ByteArray) (num:Int) (t:ByteArray):ByteArray×Bool:=
 bif decide ((t.size:Int)<16) || !(maskOk num ((t.size:Int) - 16)) then (⟨#[]⟩,false)
 else bif Vr (bs k) num ((bs t).take (t.size - 16)) == (bs t).drop (t.size - 16) then (ofBytes (Jj ((bs t).take (t.size - 16)) (Ur (bs k) (SN num) (t.size - 16))),true)
 else (⟨#[]⟩,false)
theorem AAN {num n:Int}:maskOk num n=true↔(0≤num∧num≤1000000000)∧0≤n∧n≤8000:=by simp [maskOk,Aa]
theorem MBB {k:ByteArray} {num n:Int} (hk:k.size≤900000000):GAQ k num n=some (ZAB k num n):=by
 rw [GAQ,YAo,mk,Rf,Option.bind_some,ZAB,maskOk]
 cases h:KZ num 0 1000000000
 ·rfl
 ·rw [Aa] at h
  rw [PY (by rfl),Rf,Option.bind_some]
  cases h2:KZ n 0 8000
  ·rfl
  ·rw [Aa] at h2
   rw [PY (by rfl),Bool.and_self,cond_true]
   have hv:=Zi (n:=num) (by omega)
   have hvb:=U0 h.1
   have key:=loopN (A:=Unit) (n:=(n.toNat+31) / 32) (Lp:=HAI) (st:=fun i _=>.c0 k num n (i:Int) (XAB (bs k) (SN num) i)) (Inv:=fun _ _=>True) (out:=fun _ _=>some (ofBytes (Ur (bs k) (SN num) n.toNat),true))
    (fun m _ _=>by
     rw [HAI]
     simp only [AAd,mk]
     rw [PY (by grind [YAB]),TB (by grind [YAB])]
     rfl)
    (fun m i _ hi _=>.inr ⟨(),by
     have e:w64 ((i:Int)+1)=((i+1:Nat):Int):=by grind [w64_id]
     have h9:(⟨#[109]⟩:ByteArray).size=1:=rfl
     rw [HAI]
     simp only [AAd,mk,e]
     rw [TB (by grind [YAB]),O0 (by omega),Option.bind_some,TB (by grind [ofBytes_size]),Zp (by omega) (by omega),Option.bind_some,TB (by grind [ofBytes_size])]
     rw [IBB hk (by grind [ofBytes_size]),Option.bind_some,KBB k h.1 h.2 i (by omega),TAM,YZ (NAj _ _),TB (by rfl),TB (by grind [YAB,FBB])]
     rfl,trivial,rfl⟩)
   exact key gas 0 () (Nat.zero_le _) (gas_lt (by omega)) trivial
theorem NBB {a b:ByteArray} (ha:a.size≤140737488351232) (h:a.size≤b.size):IAQ a b=some (ofBytes (Jj (bs a) (bs b))):=by
 have hl:=bs_len a
 have hl2:=bs_len b
 have key:=loopN (A:=Unit) (n:=(bs a).length) (Lp:=IAI) (st:=fun i _=>.c0 b (i:Int) (List.zipWith xb ((bs a).take i) ((bs b).take i)++(bs a).drop i)) (Inv:=fun _ _=>True) (out:=fun _ _=>some (ofBytes (Jj (bs a) (bs b))))
  (fun m _ _=>by
   grind [IAI,BAd,Jj,MA1])
  (fun m i _ hi _=>.inr ⟨(),by
   have e:w64 ((i:Int)+1)=((i+1:Nat):Int):=by grind [w64_id]
   have hlen:(List.zipWith xb ((bs a).take i) ((bs b).take i)++(bs a).drop i).length=(bs a).length:=by grind
   grind [IAI,BAd,Int.toNat_natCast,LA1,Xz,LBB],trivial,rfl⟩)
 rw [IAQ,ZAo,mk,TB (by grind),TAM]
 exact key gas 0 () (Nat.zero_le _) (gas_lt (by omega)) trivial
theorem OBB {k s:ByteArray} {num:Int} (hk:k.size≤900000000) (hn:0≤num∧num≤1000000000) (hs:s.size≤800000000):JAQ k num s=some (ofBytes (Vr (bs k) num (bs s))):=by
 have hv:=Zi (n:=num) (by omega)
 have h9:(⟨#[116]⟩:ByteArray).size=1:=rfl
 have e:bs (⟨#[116]⟩:ByteArray)=[116]:=rfl
 have h16:(16:Int).toNat=16:=rfl
 rw [JAQ,AAp,mk,O0 (by omega),Option.bind_some,TB (by grind [ofBytes_size]),TB (by grind [ofBytes_size])]
 rw [IBB hk (by grind [ofBytes_size]),Option.bind_some,TB (by rfl)]
 refine congrArg some (Yi ?_)
 rw [Dn,GBB,h16,YZ (X0 _ _ _),Ue,Ue,e,YZ (U0 hn.1),Vr,List.drop_zero,List.append_assoc]
 rfl
theorem PBB {k s:ByteArray} {num:Int} (hk:k.size≤900000000) (hs:s.size≤800000000):JAI k num s=some (Wh k num s):=by
 rw [JAI,BAp,mk,MBB hk,Option.bind_some,ZAB,Wh]
 cases h:maskOk num s.size
 ·rfl
 ·have h':=AAN.1 h
  have hm:=Dy (bs k) (SN num) ((s.size:Int).toNat)
  have hl:=bs_len s
  rw [cond_true,cond_true,PY (by rfl),NBB (by omega) (by simp_all [ofBytes_size]),Option.bind_some,YZ (QAZ _ _ _)]
  have hx:(Jj (bs s) (Ur (bs k) (SN num) (s.size:Int).toNat)).length=s.size:=by simp_all [QAF]
  rw [OBB hk h'.1 (by simp_all [ofBytes_size]),Option.bind_some,YZ (G8 _ _),TB (by grind [ofBytes_size,ZAM])]
  refine congrArg (fun x=>some (x,true)) (Yi ?_)
  rw [Ue,YZ (G8 _ _),YZ (X0 _ _ _),YZ (fun x hx=>by
   rcases List.mem_append.1 hx with hx | hx
   ·exact G8 _ _ x hx
   ·exact X0 _ _ _ x hx),Qn,hl]
  rfl
def RAF (s:Int):Int:=if s % 2=1 then xr (s / 2) 3558460437 else s / 2
def SAF:Nat→Int→Int
 | 0,s=>s
 | n+1,s=>SAF n (RAF s)
def BAN (s:Int) (l:List Int):Int:=l.foldl (fun s b=>SAF 8 (xr s b)) s
theorem RBY {s:Int} (h:R32 s):R32 (RAF s):=by
 grind [RAF,VAM,R32]
theorem QBB:∀ (n:Nat) {s:Int},R32 s→R32 (SAF n s)
 | 0,_,h=>h
 | n+1,_,h=>QBB n (RBY h)
theorem RBB:∀ (l:List Int) {s:Int},R32 s→R32 (BAN s l)
 | [],_,h=>h
 | b::l,s,_=>RBB l (QBB 8 (VAM s b))
def Y0 (l:List Int):Int:=BAN 4294967295 l
theorem AAC (l:List Int):R32 (Y0 l):=RBB l (by unfold R32;omega)
theorem SBY (t:ByteArray) (i:Nat) (hi:i<t.size) (ht:t.size≤140737488351232):∀ (j k m:Nat) (s:Int),k+j=8→R32 s→Bz (m+j+1) (.c1 s t (i:Int) (k:Int))=Bz m (.c0 (SAF j s) t ((i+1:Nat):Int)):=by
 intro j
 induction j with
 | zero=>
  intro k m s hk hs
  have e:w64 ((i:Int)+1)=((i+1:Nat):Int):=by grind [w64_id]
  rw [Bz]
  simp only [KAI,mk,e]
  rw [PY (by simp_all)]
  rfl
 | succ j ih=>
  intro k m s hk hs
  have e:w64 ((k:Int)+1)=((k+1:Nat):Int):=by grind [w64_id]
  have h2:w32 (s.tdiv 2)=s / 2:=by
   obtain ⟨h1,h2⟩:=hs
   grind [Ot]
  have h3:s.tmod 2=s % 2:=Int.tmod_eq_emod_of_nonneg hs.1
  rw [show m+(j+1)+1=(m+j+1)+1 by omega,Bz]
  simp only [KAI,mk,e,h2,h3,Vx]
  rw [TB (by grind),SAF]
  by_cases h:s % 2=1
  ·rw [TB (by simp [h]),ih (k+1) m _ (by omega) (VAM _ _),RAF,if_pos h]
  ·rw [PY (by simp [h]),ih (k+1) m _ (by omega) (by grind [R32]),RAF,if_neg h]
theorem TBY {t:ByteArray} {s:Int} (ht:t.size≤140737488351232):CAd s t=some (BAN s (bs t)):=by
 have hl:=bs_len t
 have key:∀ (j i m:Nat) (s:Int),i+j=t.size→Bz (m+10*j+1) (.c0 s t (i:Int))=some (BAN s ((bs t).drop i)):=by
  intro j
  induction j with
  | zero=>
   intro i m s h
   rw [Bz]
   simp only [KAI,mk]
   rw [PY (by simp_all),List.drop_of_length_le (by omega)];rfl
  | succ j ih=>
   intro i m s h
   have hb:=En (Uh t) i
   rw [show m+10*(j+1)+1=(m+10*j+1)+8+1+1 by omega,Bz]
   simp only [KAI,mk,Vx]
   rw [TB (by grind),TB (by grind),Xz (by omega),Ot (by omega) (by omega)]
   have h1:=SBY t i (by omega) ht 8 0 (m+10*j+1) (xr s ((bs t).getD i 0)) (by omega) (VAM _ _)
   rw [show ((0:Nat):Int)=0 from rfl] at h1
   rw [h1,ih (i+1) m _ (by omega),drop_at (by omega:i<(bs t).length),getD_at (by omega)]
   rfl
 obtain ⟨m,hm⟩:∃ m,gas=m+10*t.size+1:=⟨gas - (10*t.size+1),by have:=gas_lt (n:=10*t.size+1) (by omega);omega⟩
 rw [CAd,CAp,hm]
 have:=key t.size 0 m s (by omega)
 assumption
theorem UBY {t:ByteArray} (ht:t.size≤140737488351232):DAd t=some (Y0 (bs t)):=by
 rw [DAd,DAp,TBY ht];rfl
theorem VBY {x:Int} (h:R32 x):EAd x=some (ofBytes (four x)):=by
 obtain ⟨h1,h2⟩:=h
 have e1:Int.fdiv x (2 ^ (Min.min (24:Int).toNat (IntKind.bits IntKind.u32)))=x / 16777216:=Int.fdiv_eq_ediv_of_nonneg _ (by decide)
 have e2:Int.fdiv x (2 ^ (Min.min (16:Int).toNat (IntKind.bits IntKind.u32)))=x / 65536:=Int.fdiv_eq_ediv_of_nonneg _ (by decide)
 have e3:Int.fdiv x (2 ^ (Min.min (8:Int).toNat (IntKind.bits IntKind.u32)))=x / 256:=Int.fdiv_eq_ediv_of_nonneg _ (by decide)
 simp only [EAd,EAp,mk,e1,e2,e3,w8_mod,four]
 grind
def Ie (l:List Int):List Int:=SN (l.length:Int)++(four (Y0 l)++l)
def frameT (t:ByteArray):ByteArray×Bool:=bif KZ (t.size:Int) 1 9000 then (ofBytes (Ie (bs t)),true) else (⟨#[]⟩,false)
theorem RAZ {l:List Int} (h:He l):He (Ie l):=by
 intro x hx
 rcases List.mem_append.1 hx with hx | hx
 ·exact U0 (by omega) x hx
 ·rcases List.mem_append.1 hx with hx | hx
  ·exact X7 (AAC l) x hx
  ·exact h x hx
theorem SBB (t:ByteArray):(ofBytes (SN (t.size:Int))++ofBytes (four (Y0 (bs t))))++t=ofBytes (Ie (bs t)):=by
 apply Yi
 rw [Ue,Ue,YZ (U0 (by omega)),YZ (X7 (AAC _)),YZ (RAZ (Uh t)),Ie,bs_len,List.append_assoc]
theorem TBB {t:ByteArray} (h:t.size≤140737488351232):(frameT t).1.size≤t.size+14:=by
 rw [frameT]
 cases KZ (t.size:Int) 1 9000
 ·exact Nat.zero_le _
 grind [ofBytes_size,Ie,bs_len,four,Zi]
theorem NA1 {t:ByteArray} (h:t.size≤140737488351232):OAA t=some (frameT t):=by
 rw [OAA,FAp,mk,Rf,Option.bind_some,frameT]
 cases h1:KZ (t.size:Int) 1 9000
 ·rfl
 ·rw [Aa] at h1
  have:=Zi (n:=(t.size:Int)) (by omega)
  rw [PY (by rfl),O0 (by omega),Option.bind_some,UBY h,Option.bind_some,VBY (AAC _),Option.bind_some,TB (by grind [ofBytes_size,four])]
  rw [TB (by grind [ofBytes_size,four]),SBB,cond_true]
def UBB:ByteArray:=⟨#[98,111,111,107]⟩
def Aq (k:ByteArray) (count:Int) (r:SRec):List SAct×Bool:=
 bif (WZ r).2 && KZ count 0 10000 then ([⟨1,UBB,(frameT (Wh k (count+1) (WZ r).1).1).1,⟨#[]⟩⟩,⟨2,UBB,⟨#[]⟩,⟨#[]⟩⟩],true) else ([],false)
theorem OAj {k s:ByteArray} {num:Int} (h:0≤num∧num≤1000000000) (hs:s.size≤8000):(Wh k num s).2=true∧(Wh k num s).1=ofBytes (Qn (bs k) num (bs s))∧(Wh k num s).1.size=s.size+16:=by
 grind [AAN,Wh,ofBytes_size,Qn,QAF,Dy,ZAM,bs_len]
theorem VBB {t:ByteArray} (h:1≤t.size∧t.size≤9000):(frameT t).2=true∧(frameT t).1=ofBytes (Ie (bs t)):=by
 grind [Aa,frameT]
theorem WBB {k:ByteArray} {count:Int} {r:SRec} (hk:k.size≤900000000):LAI k count r=some (Aq k count r):=by
 have hz:=VAB r
 rw [LAI,HAp,mk,NAF,Option.bind_some,Aq]
 cases h1:(WZ r).2
 ·rfl
 rw [PY (by rfl),Rf,Option.bind_some,Bool.true_and]
 cases h2:KZ count 0 10000
 ·rfl
 rw [Aa] at h2
 obtain ⟨l1,l2,l3⟩:=OAj (k:=k) (s:=(WZ r).1) (num:=count+1) (by omega) (by omega)
 rw [PY (by rfl),w64_id (by omega) (by omega),PBB hk (by omega),Option.bind_some,NA1 (by omega)]
 rfl
theorem XBB (s:ByteArray):MAI s=some (KZ (s.size:Int) 1 8):=by
 simp [MAI,IAp,mk,Rf]
def Bq (f:SFile):Bool:=KZ (f.fName.size:Int) 1 8 && (!decide ((f.fText.size:Int) > 20000) && KZ f.fKept 0 (f.fText.size:Int))
def Dq:ByteArray→List SFile→Bool
 | _,[]=>true
 | p,f::fs=>Bq f && (Op.bytesLess p.toList f.fName.toList && Dq f.fName fs)
def H8 (l:List SFile):Nat→ByteArray
 | 0=>⟨#[]⟩
 | i+1=>((l[i]?).map (·.fName)).getD ⟨#[]⟩
theorem OA1 {l:List SFile} {i:Nat} (hi:i<l.length):H8 l (i+1)=l[i].fName:=by simp [H8,hi]
theorem YBB {l:List SFile} {i:Nat} (hi:i<l.length):Dq (H8 l i) (l.drop i)=(Bq l[i] && (Op.bytesLess (H8 l i).toList l[i].fName.toList && Dq (H8 l (i+1)) (l.drop (i+1)))):=by
 grind [drop_at,Dq,OA1]
def Tf (d:SDisk):Bool:=decide ((d.fFiles.length:Int)≤30) && Dq ⟨#[]⟩ d.fFiles
theorem PAj {s:ByteArray} (h:1≤s.size):Op.bytesLess (⟨#[]⟩:ByteArray).toList s.toList=true:=by
 rw [ByteArray.toList_eq,ByteArray.toList_eq]
 obtain ⟨⟨l⟩⟩:=s
 cases l with
 | nil=>exact absurd h (Nat.not_succ_le_zero 0)
 | cons x l=>rfl
def Uf:List SFile→ByteArray→Nat→Option Nat
 | [],_,_=>none
 | f::fs,n,i=>if f.fName.toList == n.toList then some i else Uf fs n (i+1)
theorem SAZ {n:ByteArray}:∀ {fs:List SFile} {i j:Nat},Uf fs n i=some j→i≤j∧j<i+fs.length:=by
 intro fs
 induction fs<;>grind [Uf]
def Ut (d:SDisk) (n:ByteArray):Int:=match Uf d.fFiles n 0 with | some j=>(j:Int) | none=> -1
def TAZ:SFile:=⟨⟨#[]⟩,⟨#[]⟩,0⟩
def Yg (d:SDisk) (n:ByteArray):ByteArray×Bool:=match Uf d.fFiles n 0 with | some j=>((d.fFiles.getD j TAZ).fText,true) | none=>(⟨#[]⟩,false)
theorem QAj (d:SDisk):H6 d=some (Tf d):=by
 rw [H6,JAp,mk,Tf]
 by_cases h0:(d.fFiles.length:Int)≤30
 ·rw [PY (by simp_all),decide_eq_true h0,Bool.true_and]
  have key:∀ (j i m:Nat),i+j=d.fFiles.length→NAI (m+j+1) (.c0 (i:Int) d)=some (Dq (H8 d.fFiles i) (d.fFiles.drop i)):=by
   intro j
   induction j with
   | zero=>
    intro i m h
    obtain rfl:i=d.fFiles.length:=by omega
    rw [NAI]
    simp only [FAd,mk]
    rw [PY (by simp),List.drop_length];rfl
   | succ j ih=>
    intro i m h
    have hi:i<d.fFiles.length:=by omega
    have e:w64 ((i:Int)+1)=((i+1:Nat):Int):=by grind [w64_id]
    have h2:=ih (i+1) m (by omega)
    rw [show m+(j+1)+1=(m+j+1)+1 by omega,NAI]
    simp only [FAd,mk,e,Int.toNat_natCast,getD_at hi,XBB,Rf,Option.bind_some]
    rw [TB (by simp_all),TB (by simp_all),YBB hi,Bq,h2]
    cases hn:KZ (d.fFiles[i].fName.size:Int) 1 8
    ·rfl
    cases decide ((d.fFiles[i].fText.size:Int) > 20000)
    ·cases KZ d.fFiles[i].fKept 0 (d.fFiles[i].fText.size:Int)
     ·rfl
     ·by_cases hz:i=0
      ·grind [Aa,H8,PAj]
      ·obtain ⟨i',rfl⟩:∃ q,i=q+1:=⟨i - 1,by omega⟩
       grind [w64_id,OA1]
    ·rfl
  obtain ⟨m,hm⟩:=gm (n:=d.fFiles.length) (by omega)
  rw [hm]
  exact key d.fFiles.length 0 m (by omega)
 simp_all [decide_eq_false]
theorem PA1 {d:SDisk} {n:ByteArray} (h0:d.fFiles.length≤140737488351232):PAI d n=some (Ut d n):=by
 have key:∀ (j i m:Nat),i+j=d.fFiles.length→OAI (m+j+1) (.c0 n (i:Int) d)=some (match Uf (d.fFiles.drop i) n i with | some j=>(j:Int) | none=> -1):=by
  intro j
  induction j with
  | zero=>
   intro i m h
   obtain rfl:i=d.fFiles.length:=by omega
   rw [OAI]
   simp only [HAd,mk]
   rw [PY (by simp),List.drop_length];rfl
  | succ j ih=>
   intro i m h
   have hi:i<d.fFiles.length:=by omega
   have e:w64 ((i:Int)+1)=((i+1:Nat):Int):=by grind [w64_id]
   grind [OAI,HAd,Int.toNat_natCast,drop_at,Uf]
 obtain ⟨m,hm⟩:=gm (n:=d.fFiles.length) (by omega)
 rw [PAI,KAp,hm,Ut]
 exact key d.fFiles.length 0 m (by omega)
theorem ZBB:∀ l:List UInt8,Op.bytesLess l l=false:=by
 intro l
 induction l<;>simp_all [Op.bytesLess]
def Vo (l:List SFile) (n:ByteArray):List SFile:=l.filter fun f=> !(f.fName.toList == n.toList)
def O1 (l:List SFile) (n:ByteArray):List SFile:=l.filter fun f=>Op.bytesLess f.fName.toList n.toList
def Vt (l:List SFile) (n:ByteArray):List SFile:=l.filter fun f=> !(Op.bytesLess f.fName.toList n.toList || (f.fName.toList == n.toList))
def Lj (l:List SFile) (f:SFile):List SFile:=O1 l f.fName++[f]++Vt l f.fName
theorem RAj {α:Type} {l:List α} {p:α→Bool} {i:Nat} (hi:i<l.length):(l.drop i).filter p=(bif p l[i] then [l[i]] else [])++(l.drop (i+1)).filter p:=by
 grind [drop_at]
theorem WBY (n:ByteArray):∀ l:List SFile,(O1 l n).length+(Vt l n).length≤l.length:=by
 intro l
 induction l<;>grind [O1,Vt]
theorem BBC {d:SDisk} {f:SFile} (h:d.fFiles.length*40≤140737488351232):IAd d f=some ⟨Lj d.fFiles f⟩:=by
 have k1:∀ (j i m:Nat) (out:List SFile),i+j=d.fFiles.length→out.length+(Vt (d.fFiles.drop i) f.fName).length≤d.fFiles.length+1→Dz (m+j+1) (.c1 (i:Int) d f [] out)=some ⟨out++Vt (d.fFiles.drop i) f.fName⟩:=by
  intro j
  induction j with
  | zero=>
   simp_all [Dz,QAI,mk,Vt]
  | succ j ih=>
   intro i m out hi ho
   have hil:i<d.fFiles.length:=by omega
   have hw:w64 ((i:Int)+1)=((i+1:Nat):Int):=by grind [w64_id]
   rw [Vt,RAj hil,List.length_append] at ho
   rw [aj m j,Dz]
   simp only [QAI,mk,show decide ((i:Int)<(d.fFiles.length:Int))=true from decide_eq_true (by omega),show decide ((0:Int)≤(i:Int))=true from decide_eq_true (by omega),Bool.and_self,cond_true,Int.toNat_natCast,hw,getD_at hil]
   rw [Vt,RAj hil]
   cases hp : !(Op.bytesLess d.fFiles[i].fName.toList f.fName.toList || (d.fFiles[i].fName.toList == f.fName.toList))
   ·rw [hp] at ho
    rw [cond_false,cond_false,ih (i+1) m _ (by omega) (by simp_all [Vt])];rfl
   ·rw [hp,cond_true] at ho
    have ho':out.length+(1+(Vt (d.fFiles.drop (i+1)) f.fName).length)≤d.fFiles.length+1:=ho
    rw [cond_true,TB (decide_eq_true (by omega)),ih (i+1) m _ (by omega) (by grind),cond_true,List.append_assoc];rfl
 have k0:∀ (j i m:Nat) (out:List SFile),i+j=d.fFiles.length→out.length≤i→Dz (m+d.fFiles.length+1+j+1) (.c0 (i:Int) d f [] out)=Dz (m+d.fFiles.length+1) (.c1 0 d f [] (out++O1 (d.fFiles.drop i) f.fName++[f])):=by
  intro j
  induction j with
  | zero=>
   intro i m out hi ho
   rw [Dz];grind [QAI,O1]
  | succ j ih=>
   intro i m out hi ho
   have hil:i<d.fFiles.length:=by omega
   have hw:w64 ((i:Int)+1)=((i+1:Nat):Int):=by grind [w64_id]
   rw [show m+d.fFiles.length+1+(j+1)+1=(m+d.fFiles.length+1+j+1)+1 from rfl,Dz]
   simp only [QAI,mk,show decide ((i:Int)<(d.fFiles.length:Int))=true from decide_eq_true (by omega),show decide ((0:Int)≤(i:Int))=true from decide_eq_true (by omega),Bool.and_self,cond_true,Int.toNat_natCast,hw,getD_at hil]
   rw [O1,RAj hil]
   cases Op.bytesLess d.fFiles[i].fName.toList f.fName.toList
   ·rw [cond_false,cond_false,ih (i+1) m _ (by omega) (by omega)];rfl
   ·rw [cond_true,TB (decide_eq_true (by omega)),ih (i+1) m _ (by omega) (by simp_all),cond_true]
    simp [O1]
 obtain ⟨m,hm⟩:∃ m,gas=m+d.fFiles.length+1+d.fFiles.length+1:=⟨gas - (d.fFiles.length+1+d.fFiles.length+1),by have:=gas_lt (n:=2*d.fFiles.length+2) (by omega);omega⟩
 have hlh:=WBY f.fName d.fFiles
 rw [IAd,MAp,hm]
 refine (k0 d.fFiles.length 0 m [] (Nat.zero_add _) (Nat.le_refl _)).trans ((k1 d.fFiles.length 0 m _ (Nat.zero_add _) (by grind)).trans ?_)
 rfl
theorem XBY {d:SDisk} {n:ByteArray} (h:d.fFiles.length*40≤140737488351232):KAd d n=some ⟨Vo d.fFiles n⟩:=by
 have key:∀ (j i m:Nat) (out:List SFile),i+j=d.fFiles.length→out.length≤i→RAI (m+j+1) (.c0 n (i:Int) d [] out)=some ⟨out++Vo (d.fFiles.drop i) n⟩:=by
  intro j
  induction j with
  | zero=>
   simp_all [RAI,JAd,mk,Vo]
  | succ j ih=>
   intro i m out hi ho
   have hil:i<d.fFiles.length:=by omega
   have hw:w64 ((i:Int)+1)=((i+1:Nat):Int):=by grind [w64_id]
   have d1:decide ((i:Int)<(d.fFiles.length:Int))=true:=decide_eq_true (by omega)
   have d0:decide ((0:Int)≤(i:Int))=true:=decide_eq_true (by omega)
   have d2:decide ((out.length+1)*40≤140737488355328)=true:=decide_eq_true (by omega)
   rw [aj m j,RAI]
   simp only [JAd,mk,d0,d1,d2,Bool.and_self,cond_true,Int.toNat_natCast,hw,getD_at hil]
   rw [ih (i+1) m _ (by omega) (by simp_all),ih (i+1) m _ (by omega) (by omega),Vo,Vo,RAj hil]
   grind
 obtain ⟨m,hm⟩:=gm (n:=d.fFiles.length) (by omega)
 rw [KAd,NAp,hm]
 exact key d.fFiles.length 0 m [] (Nat.zero_add _) (Nat.le_refl _)
def doneD (l:List SFile):SDisk×Bool:=bif Tf ⟨l⟩ then (⟨l⟩,true) else (⟨[]⟩,false)
def UAZ (d:SDisk) (a:SAct) (f:SFile):SDisk×Bool:=
 bif a.fKind == 1 then doneD (Lj d.fFiles ⟨f.fName,f.fText++a.fText,f.fKept⟩)
 else bif a.fKind == 2 then doneD (Lj d.fFiles ⟨f.fName,f.fText,(f.fText.size:Int)⟩)
 else bif a.fKind == 3 then (bif decide (f.fKept<(f.fText.size:Int)) || (a.fTo.toList == a.fName.toList) then (⟨[]⟩,false) else doneD (Lj (Vo d.fFiles a.fName) ⟨a.fTo,f.fText,f.fKept⟩))
 else bif a.fKind == 4 then doneD (Vo d.fFiles a.fName) else (⟨[]⟩,false)
def Nj (d:SDisk) (a:SAct):SDisk×Bool:=
 bif Tf d && ((a.fKind == 3 || a.fTo.toList == (⟨#[]⟩:ByteArray).toList) && (a.fKind == 1 || a.fText.toList == (⟨#[]⟩:ByteArray).toList)) then
  match Uf d.fFiles a.fName 0 with
  | some j=>UAZ d a (d.fFiles.getD j TAZ)
  | none=>bif a.fKind == 1 then doneD (Lj d.fFiles ⟨a.fName,(⟨#[]⟩:ByteArray)++a.fText,0⟩) else (⟨[]⟩,false)
 else (⟨[]⟩,false)
theorem YBY:∀ {l:List SFile} {p:ByteArray},Dq p l=true→∀ f ∈ l,Bq f=true:=by
 intro l
 induction l<;>grind [Dq]
theorem SAj {d:SDisk} (h:Tf d=true):d.fFiles.length≤30∧∀ f ∈ d.fFiles,Bq f=true:=by
 grind [Tf,YBY]
theorem CBC {f:SFile}:Bq f=true↔(1≤(f.fName.size:Int)∧(f.fName.size:Int)≤8)∧(f.fText.size:Int)≤20000∧0≤f.fKept∧f.fKept≤(f.fText.size:Int):=by
 simp [Bq,Aa]
theorem DBC {l:List SFile} {f:SFile} (hf:f ∈ l) (h:Bq f=false):doneD l=(⟨[]⟩,false):=by
 rw [doneD]
 cases hd:Tf ⟨l⟩
 ·rfl
 ·rw [(SAj hd).2 f hf] at h;cases h
theorem EBC (l:List SFile) (f:SFile):f ∈ Lj l f:=by rw [Lj];simp
theorem FBC {f:SFile} (h:KZ (f.fName.size:Int) 1 8=false):Bq f=false:=by rw [Bq,h];rfl
theorem ZBY (l:List SFile) (n:ByteArray):(Vo l n).length≤l.length:=List.length_filter_le _ _
theorem ABZ {n:ByteArray}:∀ {fs:List SFile} {i j:Nat},Uf fs n i=some j→(fs.getD (j - i) TAZ).fName.toList=n.toList:=by
 intro fs
 induction fs with
 | nil=>intro i j h;cases h
 | cons f fs ih=>
  intro i j h
  rw [Uf] at h
  split at h
  ·simp_all
  ·have h1:=ih h
   have h2:=(SAZ h).1
   grind
theorem GBC {d:SDisk} {n:ByteArray} {j:Nat} (h:Tf d=true) (hp:Uf d.fFiles n 0=some j):j<d.fFiles.length∧Bq (d.fFiles.getD j TAZ)=true∧KZ (n.size:Int) 1 8=true∧(d.fFiles.getD j TAZ).fName=n:=by
 have h1:=(SAZ hp).2
 have h2:=ABZ hp
 grind [Bq,SAj,toList_inj]
theorem BBZ {d:SDisk} {a:SAct} (hd:d.fFiles.length*40≤140737488351232) (ha:a.fText.size≤140737488351232):PAQ d a=some (Nj d a):=by
 have ho:=ZBY d.fFiles a.fName
 rw [PAQ,OAp,mk,Nj]
 simp only [QAj,XBB,PA1 (d:=d) (n:=a.fName) (by omega),XBY (d:=d) (n:=a.fName) hd,fun f=>BBC (d:=d) (f:=f) hd,fun f=>BBC (d:=⟨Vo d.fFiles a.fName⟩) (f:=f) (show (Vo d.fFiles a.fName).length*40≤_ by omega),Option.bind_some,bne]
 cases hdk:Tf d
 ·rfl
 obtain ⟨hl,hok⟩:=SAj hdk
 have fin:∀ l:List SFile,(bif !Tf ⟨l⟩ then some ((⟨[]⟩:SDisk),false) else some (⟨l⟩,true))=some (doneD l):=fun l=>by grind [doneD]
 simp only [fin,Bool.true_and]
 cases hn:KZ (a.fName.size:Int) 1 8
 ·grind [GBC,DBC,EBC,FBC]
 have ht:∀ f,Bq f=true→f.fText.size+a.fText.size≤9223372036854775807:=fun f hf=>by grind [CBC]
 have hto:KZ (a.fTo.size:Int) 1 8=false→∀ f:SFile,doneD (Lj (Vo d.fFiles a.fName) ⟨a.fTo,f.fText,f.fKept⟩)=(⟨[]⟩,false):=fun h f=>DBC (EBC _ _) (FBC h)
 have key:∀ f:SFile,(bif !KZ (a.fTo.size:Int) 1 8 then some ((⟨[]⟩:SDisk),false) else some (doneD (Lj (Vo d.fFiles a.fName) ⟨a.fTo,f.fText,f.fKept⟩)))=some (doneD (Lj (Vo d.fFiles a.fName) ⟨a.fTo,f.fText,f.fKept⟩)):=fun f=>by
  grind
 simp only [Bool.not_true,cond_false]
 cases hp:Uf d.fFiles a.fName 0 with
 | some j=>
  obtain ⟨hj,hfo,_,_⟩:=GBC hdk hp
  simp only [show Ut d a.fName=(j:Int) by rw [Ut,hp],Int.toNat_natCast,show decide ((j:Int)≥0)=true from decide_eq_true (by omega),show decide ((j:Int)<0)=false from decide_eq_false (by omega),show decide ((j:Int)<(d.fFiles.length:Int))=true from decide_eq_true (by omega),Bool.and_self,cond_true,cond_false]
  grind [UAZ]
 | none=>
  have hs:decide ((⟨#[]⟩:ByteArray).size+a.fText.size≤9223372036854775807)=true:=decide_eq_true (by show 0+a.fText.size≤_;omega)
  grind [Ut]
def Oi:SDisk→List SAct→Int→SDisk×Int
 | d,[],i=>(d,i)
 | d,a::r,i=>bif (Nj d a).2 then Oi (Nj d a).1 r (i+1) else (d,i)
theorem HBC {l:List SFile} (h:(doneD l).2=true):Tf (doneD l).1=true:=by
 grind [doneD]
theorem CBZ {d:SDisk} {a:SAct} {f:SFile} (h:(UAZ d a f).2=true):Tf (UAZ d a f).1=true:=by
 grind [UAZ,HBC]
theorem DBZ {d:SDisk} {a:SAct} (h:(Nj d a).2=true):Tf (Nj d a).1=true:=by
 grind [Nj,CBZ,HBC]
theorem QA1 {d:SDisk} {l:List SAct} (hd:d.fFiles.length*40≤140737488351232) (hl:l.length≤140737488351232) (ha:∀ a ∈ l,a.fText.size≤140737488351232):TAI d l=some (Oi d l 0):=by
 have key:∀ (j i m:Nat) (out:List SFile),i+j=l.length→out.length*40≤140737488351232→SAI (m+j+1) (.c0 l (i:Int) [] out)=some (Oi ⟨out⟩ (l.drop i) (i:Int)):=by
  intro j
  induction j with
  | zero=>
   simp_all [SAI,LAd,mk,Oi]
  | succ j ih=>
   intro i m out hi ho
   have hil:i<l.length:=by omega
   have hw:w64 ((i:Int)+1)=((i+1:Nat):Int):=by grind [w64_id]
   rw [aj m j,SAI]
   simp only [LAd,mk,show decide ((i:Int)<(l.length:Int))=true from decide_eq_true (by omega),show decide ((0:Int)≤(i:Int))=true from decide_eq_true (by omega),Bool.and_self,cond_true,Int.toNat_natCast,hw,getD_at hil,BBZ (d:=⟨out⟩) (a:=l[i]) ho (ha _ (List.getElem_mem hil)),Option.bind_some]
   rw [drop_at hil,Oi]
   cases hr:(Nj ⟨out⟩ l[i]).2
   ·rfl
   ·have h30:=(SAj (DBZ hr)).1
    rw [Bool.not_true,cond_false,cond_true,ih (i+1) m _ (by omega) (by omega)];rfl
 obtain ⟨m,hm⟩:=gm (n:=l.length) (by omega)
 rw [TAI,PAp,mk,TB (decide_eq_true (by omega)),hm]
 exact key l.length 0 m _ (Nat.zero_add _) hd
theorem EBZ (t:ByteArray):(frameT t).1.size≤9100:=by
 rw [frameT]
 cases h:KZ (t.size:Int) 1 9000
 ·exact Nat.zero_le _
 grind [Aa,Zi,ofBytes_size,Ie,bs_len,four]
def RA1:SBox:=⟨⟨#[]⟩,false,⟨[]⟩,⟨⟨#[]⟩,0,[],0,⟨#[]⟩,0⟩,[],[],0⟩
theorem FBZ (k:ByteArray) (c:Int) (r:SRec):(Aq k c r).1.length≤2∧∀ a ∈ (Aq k c r).1,a.fText.size≤140737488351232:=by
 rw [Aq]
 cases (WZ r).2 && KZ c 0 10000
 ·simp
 ·refine ⟨Nat.le_refl _,fun a h=>?_⟩
  rw [cond_true] at h
  rcases List.mem_cons.1 h with rfl | h
  ·grind [EBZ]
  ·rw [List.mem_singleton.1 h];exact Nat.zero_le _
theorem IBC {k:ByteArray} {d:SDisk} {c:Int} {r:SRec} (hk:k.size≤900000000) (hd:d.fFiles.length*40≤140737488351232):XAD k d c r=some (Oi d (Aq k c r).1 0).1:=by
 obtain ⟨h1,h2⟩:=FBZ k c r
 rw [XAD,RAp,WBB hk,Option.bind_some,QA1 hd (by omega) h2];rfl
theorem TAj {n:Nat} (h:n≤1000000000):DAB (n:Int)=some (ofBytes (List.replicate n 0)):=by
 simp only [DAB,YAu,mk,Int.toNat_natCast]
 grind
theorem UAj {x:Int} (h:R32 x):G7 x=some (ofBytes (four x)):=by
 obtain ⟨h1,h2⟩:=h
 have e1:Int.fdiv x (2 ^ (Min.min (24:Int).toNat (IntKind.bits IntKind.u32)))=x / 16777216:=Int.fdiv_eq_ediv_of_nonneg _ (by decide)
 have e2:Int.fdiv x (2 ^ (Min.min (16:Int).toNat (IntKind.bits IntKind.u32)))=x / 65536:=Int.fdiv_eq_ediv_of_nonneg _ (by decide)
 have e3:Int.fdiv x (2 ^ (Min.min (8:Int).toNat (IntKind.bits IntKind.u32)))=x / 256:=Int.fdiv_eq_ediv_of_nonneg _ (by decide)
 simp only [G7,ZAu,mk,e1,e2,e3,w8_mod,four]
 grind
theorem GBZ {n:Nat} (h:n<1099511627776):XAf (n:Int)=some (ofBytes (Yx (n:Int))):=by
 have e1:Int.fdiv (n:Int) (2 ^ (Min.min (32:Int).toNat (IntKind.bits IntKind.i64)))=(n:Int) / 4294967296:=Int.fdiv_eq_ediv_of_nonneg _ (by decide)
 simp only [XAf,AAv,mk,e1,UAj (Yp _),Option.bind_some]
 rw [TB (by rfl)]
 congr 1
 apply Yi
 rw [Ue,YZ (X7 (Yp _)),YZ (X7 (Yp _)),YZ (fun x hx=>by
  simp only [Yx,List.mem_cons,List.not_mem_nil,or_false] at hx
  omega)]
 simp only [four,Yx,FAZ,List.cons_append,List.nil_append,List.cons.injEq,and_true]
 omega
theorem HBZ {n:Nat} (h:n≤100000000000):YAf (n:Int)=some (ofBytes (Hg n)):=by
 have e1:(w64 (119 - ((n:Int).tmod 64))).tmod 64=(((119 - n % 64) % 64:Nat):Int):=by
  grind [w64_id]
 have e2:w64 (8*(n:Int))=((8*n:Nat):Int):=by grind [w64_id]
 have h0:(⟨#[128]⟩:ByteArray).size=1:=rfl
 simp only [YAf,BAv,mk,e1,e2,TAj (n:=(119 - n % 64) % 64) (by omega),GBZ (n:=8*n) (by omega),Option.bind_some]
 rw [TB (by grind [ofBytes_size]),TB (by rw [ByteArray.size_append,ofBytes_size,ofBytes_size];simp [h0,Yx];omega)]
 congr 1
 apply Yi
 have hb:He (List.replicate ((119 - n % 64) % 64) (0:Int)):=fun x hx=>by
  grind
 have hb2:He (Yx ((8*n:Nat):Int)):=fun x hx=>by
  simp only [Yx,List.mem_cons,List.not_mem_nil,or_false] at hx
  omega
 rw [Ue,Ue,YZ hb,YZ hb2,YZ (AA1 n),Hg]
 rfl
theorem IBZ {x:Int} (h:R32 x) (n:Nat) (hn:0<n) (hn2:n<32) (k:Int) (hk:wu64 (((BitVec.toNat ((BitVec.ofInt (IntKind.bits IntKind.u64) (wu64 k)) &&& (BitVec.ofInt (IntKind.bits IntKind.u64) (31:Int)))):Nat):Int)=((32 - n:Nat):Int))
  (hk2:wu64 (32 - ((32 - n:Nat):Int))=(n:Int)):ZAf x k=some (rt (2 ^ n) (2 ^ (32 - n)) x):=by
 have e1:Min.min ((32 - n:Nat):Int).toNat (IntKind.bits IntKind.u32)=32 - n:=by
  show Min.min ((32 - n:Nat):Int).toNat 32=_
  omega
 have e2:Min.min (n:Int).toNat (IntKind.bits IntKind.u32)=n:=by
  show Min.min (n:Int).toNat 32=_
  omega
 have e3:Int.fdiv x (2 ^ n)=x / 2 ^ n:=Int.fdiv_eq_ediv_of_nonneg _ (Int.le_of_lt (Int.pow_pos (by omega)))
 simp only [ZAf,CAv,mk,hk,hk2,e1,e2,e3]
 grind [ZA9,TBW]
theorem U1 {x:Int} (h:R32 x) (n:Nat) (hn:0<n) (hn2:n<32) (hk:wu64 (((BitVec.toNat ((BitVec.ofInt (IntKind.bits IntKind.u64) (wu64 (w64 (0 - (n:Int))))) &&& (BitVec.ofInt (IntKind.bits IntKind.u64) (31:Int)))):Nat):Int)=((32 - n:Nat):Int))
  (hk2:wu64 (32 - ((32 - n:Nat):Int))=(n:Int)):Zm x (n:Int)=some (rt (2 ^ n) (2 ^ (32 - n)) x):=by
 simp only [Zm,DAv,mk,IBZ h n hn hn2 _ hk hk2,Option.bind_some]
theorem JBZ {x:Int} (h:R32 x):Zm x 2=some (rt 4 1073741824 x):=U1 h 2 (by decide) (by decide) (by decide) (by decide)
theorem KBZ {x:Int} (h:R32 x):Zm x 13=some (rt 8192 524288 x):=U1 h 13 (by decide) (by decide) (by decide) (by decide)
theorem LBZ {x:Int} (h:R32 x):Zm x 22=some (rt 4194304 1024 x):=U1 h 22 (by decide) (by decide) (by decide) (by decide)
theorem MBZ {x:Int} (h:R32 x):Zm x 6=some (rt 64 67108864 x):=U1 h 6 (by decide) (by decide) (by decide) (by decide)
theorem NBZ {x:Int} (h:R32 x):Zm x 11=some (rt 2048 2097152 x):=U1 h 11 (by decide) (by decide) (by decide) (by decide)
theorem OBZ {x:Int} (h:R32 x):Zm x 25=some (rt 33554432 128 x):=U1 h 25 (by decide) (by decide) (by decide) (by decide)
theorem PBZ {x:Int} (h:R32 x):Zm x 7=some (rt 128 33554432 x):=U1 h 7 (by decide) (by decide) (by decide) (by decide)
theorem QBZ {x:Int} (h:R32 x):Zm x 18=some (rt 262144 16384 x):=U1 h 18 (by decide) (by decide) (by decide) (by decide)
theorem RBZ {x:Int} (h:R32 x):Zm x 17=some (rt 131072 32768 x):=U1 h 17 (by decide) (by decide) (by decide) (by decide)
theorem SBZ {x:Int} (h:R32 x):Zm x 19=some (rt 524288 8192 x):=U1 h 19 (by decide) (by decide) (by decide) (by decide)
theorem TBZ {a b:Int} (ha:0≤a∧a<16777216) (hb:0≤b∧b≤255):ort (w32 (a*256)) (w32 b)=a*256+b:=by
 obtain ⟨x,rfl⟩:∃ x:Nat,a=(x:Int):=⟨a.toNat,by omega⟩
 obtain ⟨y,rfl⟩:∃ y:Nat,b=(y:Int):=⟨b.toNat,by omega⟩
 rw [Ot (by omega) (by omega),Ot (by omega) (by omega)]
 have:=ABA (a:=x) (b:=y) (s:=8) (by omega) (by omega) (by omega)
 assumption
def Xt (l:List Int) (i:Nat):Nat→Int
 | 0=>0
 | k+1=>Xt l i k*256+l.getD (4*i+k) 0
theorem UBZ (l:List Int) (i:Nat):Xt l i 4=wordAt l i:=by
 grind [Xt,wordAt,be4]
theorem VBZ {l:List Int} (h:He l) (i:Nat):∀ k,k<4→0≤Xt l i k∧Xt l i k<16777216
 | 0,_=>by simp [Xt]
 | 1,_=>by have:=En h (4*i+0);grind [Xt]
 | 2,_=>by have:=En h (4*i+0);have:=En h (4*i+1);grind [Xt]
 | 3,_=>by have:=En h (4*i+0);have:=En h (4*i+1);have:=En h (4*i+2);grind [Xt]
theorem WBZ {b:ByteArray} (hb:b.size=64) (v:List Int) (i:Nat) (hi:i<16):∀ (j k m:Nat),k+j=4→
  Lr (m+j+1) (.c1 b (i:Int) (i:Int) (k:Int) v (Gg (bs b) i++Xt (bs b) i k::List.replicate (63 - i) 0))=Lr m (.c0 b ((i+1:Nat):Int) v (Gg (bs b) (i+1)++List.replicate (63 - i) 0)):=by
 have hby:=Uh b
 intro j
 induction j with
 | zero=>
  grind [w64_id,Lr,EAB,UBZ,FBA]
 | succ j ih=>
  intro k m h
  have hk:k<4:=by omega
  have hlen:(Gg (bs b) i++Xt (bs b) i k::List.replicate (63 - i) 0).length=64:=by
   grind [JAF]
  have e:w64 ((k:Int)+1)=((k+1:Nat):Int):=by grind [w64_id]
  have e4:w64 (4*(i:Int))=((4*i:Nat):Int):=by grind [w64_id]
  have e5:w64 (((4*i:Nat):Int)+(k:Int))=((4*i+k:Nat):Int):=by grind [w64_id]
  have e8:(2:Int) ^ (Min.min (8:Int).toNat (IntKind.bits IntKind.u32))=256:=by decide
  have hg:(Gg (bs b) i++Xt (bs b) i k::List.replicate (63 - i) 0).getD i 0=Xt (bs b) i k:=by
   grind
  rw [show m+(j+1)+1=(m+j+1)+1 by omega,Lr]
  simp only [EAB,mk,e,e4,e5,e8,Int.toNat_natCast,hlen,hg,ZA9]
  rw [TB (by grind),TB (by rfl),TB (by grind),TB (by simp;omega),TB (by rfl),TB (by grind)]
  rw [Xz (by omega),TBZ (VBZ hby i k hk) (En hby _),IAF (JAF _ i)]
  exact ih (k+1) m (by omega)
theorem XBZ {b:ByteArray} (hb:b.size=64) (v:List Int):∀ (j i m:Nat),i+j=16→Lr (m+6*j+1) (.c0 b (i:Int) v (Gg (bs b) i++List.replicate (64 - i) 0))=Lr m (.c2 16 v (Gg (bs b) 16++List.replicate 48 0)):=by
 intro j
 induction j with
 | zero=>
  grind [Lr,EAB]
 | succ j ih=>
  intro i m h
  rw [show m+6*(j+1)+1=(m+6*j+1)+4+1+1 by omega,Lr]
  simp only [EAB,mk]
  rw [TB (by grind)]
  have h1:=WBZ hb v i (by omega) 4 0 (m+6*j+1) (by omega)
  rw [show 64 - i=(63 - i)+1 by omega,List.replicate_succ]
  have h2:=ih (i+1) m (by omega)
  rw [show 64 - (i+1)=63 - i by omega] at h2
  exact h1.trans h2
theorem YBZ {w v:List Int} (hw:∀ x ∈ w,R32 x) (hwl:w.length=16) (hv:v.length=64):∀ (j i m:Nat),i+j=48→Lr (m+j+1) (.c2 ((16+i:Nat):Int) v (sched w i++List.replicate (48 - i) 0))=some (sched w 48):=by
 intro j
 induction j with
 | zero=>
  intro i m h
  obtain rfl:i=48:=by omega
  simp_all [HAZ,Lr,EAB,mk]
 | succ j ih=>
  intro i m h
  have hl:=HAZ hwl i
  have hr:=HAj hw i
  have hlen:(sched w i++List.replicate (48 - i) 0).length=64:=by
   grind
  have e2:w64 (((16+i:Nat):Int) - 2)=((16+i - 2:Nat):Int):=by grind [w64_id]
  have e7:w64 (((16+i:Nat):Int) - 7)=((16+i - 7:Nat):Int):=by grind [w64_id]
  have e15:w64 (((16+i:Nat):Int) - 15)=((16+i - 15:Nat):Int):=by grind [w64_id]
  have e16:w64 (((16+i:Nat):Int) - 16)=((16+i - 16:Nat):Int):=by grind [w64_id]
  have e1:w64 (((16+i:Nat):Int)+1)=((16+(i+1):Nat):Int):=by grind [w64_id]
  have g2:(sched w i++List.replicate (48 - i) 0).getD (16+i - 2) 0=(sched w i).getD (16+i - 2) 0:=FAj (by omega) 0
  have g7:(sched w i++List.replicate (48 - i) 0).getD (16+i - 7) 0=(sched w i).getD (16+i - 7) 0:=FAj (by omega) 0
  have g15:(sched w i++List.replicate (48 - i) 0).getD (16+i - 15) 0=(sched w i).getD (16+i - 15) 0:=FAj (by omega) 0
  have g16:(sched w i++List.replicate (48 - i) 0).getD (16+i - 16) 0=(sched w i).getD (16+i - 16) 0:=FAj (by omega) 0
  have f10:∀ x:Int,Int.fdiv x (2 ^ (Min.min (10:Int).toNat (IntKind.bits IntKind.u32)))=x / 1024:=fun x=>Int.fdiv_eq_ediv_of_nonneg _ (by decide)
  have f3:∀ x:Int,Int.fdiv x (2 ^ (Min.min (3:Int).toNat (IntKind.bits IntKind.u32)))=x / 8:=fun x=>Int.fdiv_eq_ediv_of_nonneg _ (by decide)
  have r15:=IAZ hr (16+i - 15)
  have r2:=IAZ hr (16+i - 2)
  rw [show m+(j+1)+1=(m+j+1)+1 by omega,Lr]
  simp only [EAB,mk,e1,e2,e7,e15,e16,Int.toNat_natCast,hlen,g2,g7,g15,g16,PBZ r15,QBZ r15,RBZ r2,SBZ r2,Option.bind_some,f10,f3,Vx]
  rw [TB (by grind),TB (by rfl),TB (by grind),TB (by rfl),TB (by grind),TB (by rfl),TB (by grind),TB (by rfl),TB (by grind),TB (by rfl),TB (by grind)]
  rw [show 48 - i=(48 - (i+1))+1 by omega,List.replicate_succ,IAF (by omega)]
  have h2:=ih (i+1) m (by omega)
  rw [sched,List.append_assoc] at h2
  exact h2
theorem ZBZ {b:ByteArray} (hb:b.size=64):RAU b=some (sched (Gg (bs b) 16) 48):=by
 obtain ⟨m,hm⟩:∃ m,gas=(m+48+1)+6*16+1:=⟨gas - 146,by rfl⟩
 rw [RAU,EAv,mk,hm]
 have h0:=XBZ hb (List.replicate 64 0) 16 0 (m+48+1) (by omega)
 have h2:=YBZ (w:=Gg (bs b) 16) (v:=List.replicate 64 0) (YA0 (Uh b) 16) (JAF _ 16) (List.length_replicate ..) 48 0 m (by omega)
 rw [show Gg (bs b) 0++List.replicate (64 - 0) 0=List.replicate 64 (0:Int) from rfl,show ((0:Nat):Int)=0 from rfl] at h0
 grind [sched]
theorem ABa (s r v:List Int) (hs:s.length=8) (hv:v.length=8) (f:Nat→Int) (hf:∀ i,i<8→f i=w32 (r.getD i 0+s.getD i 0)) (hr:r.length=8):∀ (j i m:Nat),i+j=8→Px (m+j+1) (.c1 (i:Int) s v ((List.range i).map f++r.drop i))=some ((List.range 8).map f):=by
 intro j
 induction j with
 | zero=>
  intro i m h
  obtain rfl:i=8:=by omega
  simp_all [Px,TAU,mk]
 | succ j ih=>
  intro i m h
  have e:w64 ((i:Int)+1)=((i+1:Nat):Int):=by grind [w64_id]
  have hl:((List.range i).map f++r.drop i).length=8:=by grind
  have hm:((List.range i).map f).length=i:=by simp
  have hg:((List.range i).map f++r.drop i).getD i 0=r.getD i 0:=by
   grind
  rw [show m+(j+1)+1=(m+j+1)+1 by omega,Px]
  simp only [TAU,mk,e,Int.toNat_natCast,hl,hs,hg]
  rw [TB (by grind),TB (by rfl),TB (by grind),TB (by rfl),TB (by grind),TB (by rfl),TB (by grind)]
  rw [drop_at (by omega:i<r.length),IAF hm,←hf i (by omega)]
  have h2:=ih (i+1) m (by omega)
  simp_all [List.range_succ]
theorem BBa (s v W:List Int) (hW:∀ x ∈ W,R32 x) (hWl:W.length=64) (r:Reg) (hr:r.ok) (i m:Nat) (hi:i<64) :
  Px (m+1) (.c0 r.a r.b r.c r.d r.e r.f r.g r.h (i:Int) s v W)=Px m (.c0 (Wx r (keysL.getD i 0) (W.getD i 0)).a (Wx r (keysL.getD i 0) (W.getD i 0)).b (Wx r (keysL.getD i 0) (W.getD i 0)).c (Wx r (keysL.getD i 0) (W.getD i 0)).d (Wx r (keysL.getD i 0) (W.getD i 0)).e (Wx r (keysL.getD i 0) (W.getD i 0)).f (Wx r (keysL.getD i 0) (W.getD i 0)).g (Wx r (keysL.getD i 0) (W.getD i 0)).h ((i+1:Nat):Int) s v W):=by
 obtain ⟨h1,h2,h3,h4,h5,h6,h7,h8⟩:=hr
 have e:w64 ((i:Int)+1)=((i+1:Nat):Int):=by grind [w64_id]
 rw [Px]
 simp only [TAU,mk,e,Int.toNat_natCast,hWl,MBZ h5,NBZ h5,OBZ h5,JBZ h1,KBZ h1,LBZ h1,Option.bind_some,Vx,XA0,RBW h5]
 rw [TB (by grind),TB (by grind),TB (by simp_all),TB (by rfl),TB (by grind)]
 rfl
theorem CBa (s v W:List Int) (hW:∀ x ∈ W,R32 x) (hWl:W.length=64) (r:Reg) (hr:r.ok):∀ (j i m:Nat),i+j=64→
  Px (m+j+1) (.c0 (Gl keysL W r i).a (Gl keysL W r i).b (Gl keysL W r i).c (Gl keysL W r i).d (Gl keysL W r i).e (Gl keysL W r i).f (Gl keysL W r i).g (Gl keysL W r i).h (i:Int) s v W)=Px m (.c1 0 s v (Gl keysL W r 64).l):=by
 intro j
 induction j with
 | zero=>
  intro i m h
  obtain rfl:i=64:=by omega
  rfl
 | succ j ih=>
  intro i m h
  rw [show m+(j+1)+1=(m+j+1)+1 by omega,BBa s v W hW hWl _ (EBA keysL W hr i) i _ (by omega)]
  exact ih (i+1) m (by omega)
theorem DBa {s:Reg} (hs:s.ok) {b:ByteArray} (hb:b.size=64):UAU s.l b=some (comp s (bs b)).l:=by
 obtain ⟨m,hm⟩:∃ m,gas=(m+8+1)+64+1:=⟨gas - 74,by rfl⟩
 have hr:=HAj (YA0 (Uh b) 16) 48
 have hl:=HAZ (JAF (bs b) 16) 48
 have hsl:s.l.length=8:=rfl
 have z0:(0:Int).toNat=0:=rfl
 have z1:(1:Int).toNat=1:=rfl
 have z2:(2:Int).toNat=2:=rfl
 have z3:(3:Int).toNat=3:=rfl
 have z4:(4:Int).toNat=4:=rfl
 have z5:(5:Int).toNat=5:=rfl
 have z6:(6:Int).toNat=6:=rfl
 have z7:(7:Int).toNat=7:=rfl
 rw [UAU,FAv,mk,ZBZ hb,Option.bind_some,hm]
 simp only [hl,hsl,List.length_replicate,z0,z1,z2,z3,z4,z5,z6,z7]
 rw [TB (by rfl),TB (by rfl),TB (by rfl),TB (by rfl),TB (by rfl),TB (by rfl),TB (by rfl),TB (by rfl),TB (by rfl),TB (by rfl),TB (by rfl),TB (by rfl),TB (by rfl),TB (by rfl),TB (by rfl),TB (by rfl),TB (by rfl)]
 have h0:=CBa s.l [0,0,0,0,0,0,0,0] _ hr hl s hs 64 0 (m+8+1) (by omega)
 rw [show ((0:Nat):Int)=0 from rfl] at h0
 have hf:∀ i,i<8→(fun i=>w32 ((Gl keysL (sched (Gg (bs b) 16) 48) s 64).l.getD i 0+s.l.getD i 0)) i=w32 ((Gl keysL (sched (Gg (bs b) 16) 48) s 64).l.getD i 0+s.l.getD i 0):=fun _ _=>rfl
 have h1:=ABa s.l (Gl keysL (sched (Gg (bs b) 16) 48) s 64).l [0,0,0,0,0,0,0,0] rfl rfl _ hf rfl 8 0 m (by omega)
 rw [show ((0:Nat):Int)=0 from rfl,List.range_zero,List.map_nil,List.nil_append,List.drop_zero] at h1
 have e:(List.range 8).map (fun i=>w32 ((Gl keysL (sched (Gg (bs b) 16) 48) s 64).l.getD i 0+s.l.getD i 0))=(comp s (bs b)).l:=by
  apply List.ext_getElem
  ·rw [Reg.JAZ,List.length_map,List.length_range]
  ·intro i h1 h2
   have hi:i<8:=by assumption
   rw [List.getElem_map,List.getElem_range,←getD_at h2 0]
   grind [comp,LBX]
 rw [e] at h1
 exact h0.trans h1
theorem EBa {s:Reg} (hs:s.ok) {t:ByteArray} (ht:t.size≤1000000000000):BAg s.l t=some ((comps (t.size / 64) s (bs t)).l,t.extract (64*(t.size / 64)) t.size):=by
 have key:∀ (j:Nat) (s:Reg) (t:ByteArray) (m:Nat),s.ok→t.size / 64=j→t.size≤1000000000000→UAK (m+j+1) (.c0 t s.l [0,0,0,0,0,0,0,0])=some ((comps j s (bs t)).l,t.extract (64*j) t.size):=by
  intro j
  induction j with
  | zero=>
   intro s t m hs hj ht
   rw [UAK]
   simp only [AAg,mk,Reg.JAZ]
   rw [PY (by grind),TB (by rfl),TB (by rfl),TB (by rfl)]
   congr 2
   simp
  | succ j ih=>
   intro s t m hs hj ht
   have h64:(64:Int).toNat=64:=rfl
   have e1:bs (t.extract 0 64)=(bs t).take 64:=by simp [Dn]
   have e2:bs (t.extract 64 t.size)=(bs t).drop 64:=by simp [Dn,List.take_of_length_le,bs_len]
   rw [show m+(j+1)+1=(m+j+1)+1 by omega,UAK]
   simp only [AAg,mk,h64,Reg.JAZ]
   rw [TB (by grind),TB (by rfl),TB (by grind)]
   rw [DBa hs (b:=t.extract 0 64) (by simp;omega),Option.bind_some]
   rw [Reg.JAZ]
   rw [TB (by rfl)]
   grind [GBA,Yi,Dn,bs_len,List.drop_drop,comps]
 obtain ⟨m,hm⟩:∃ m,gas=m+t.size / 64+1:=⟨gas - (t.size / 64+1),by have:=gas_lt (n:=t.size / 64+1) (by omega);omega⟩
 rw [BAg,GAv,hm]
 grind
theorem FBa {r:Reg} (hr:r.ok):CAg r.l=some (ofBytes (Yd r.l)):=by
 have hl:r.l.length=8:=rfl
 have hrl:=Reg.l_r hr
 have hby:∀ i,He (Yd (r.l.take i)):=fun i=>ZA0 (fun x hx=>hrl x (List.mem_of_mem_take hx))
 have key:=loopN (A:=Unit) (n:=8) (Lp:=XAU) (st:=fun i _=>.c0 (ofBytes (Yd (r.l.take i))) r.l (i:Int)) (Inv:=fun _ _=>True) (out:=fun _ _=>some (ofBytes (Yd r.l)))
  (fun m _ _=>by
   rfl)
  (fun m i _ hi _=>.inr ⟨(),by
   have e:w64 ((i:Int)+1)=((i+1:Nat):Int):=by grind [w64_id]
   have hg:r.l.getD i 0=r.l[i]'(by omega):=getD_at (by omega) 0
   have hx:R32 (r.l.getD i 0):=IAZ hrl i
   rw [XAU]
   simp only [IAv,mk,e,Int.toNat_natCast,UAj hx,Option.bind_some,hl]
   rw [TB (by grind),TB (by rfl),TB (by grind),TB (by grind [ofBytes_size,IBA,four])]
   congr 2
   apply Yi
   rw [Ue,YZ (hby i),YZ (hby (i+1)),YZ (X7 hx),take_at (by omega),ABX,hg]
   rfl,trivial,rfl⟩)
 rw [CAg,HAv,mk,hl,TB (by rfl)]
 exact key gas 0 () (Nat.zero_le _) (gas_lt (by omega)) trivial
theorem GBa:XAu=some Xx.l:=rfl
theorem Xr {s:ByteArray} (hs:s.size≤1000000000):Yj s=some (Ob s):=by
 have h1:=IAj s.size
 have hsz:(s++ofBytes (Hg s.size)).size=s.size+(Hg s.size).length:=by simp [ofBytes_size]
 rw [Yj,JAv,mk,GBa,Option.bind_some,HBZ (n:=s.size) (by omega),Option.bind_some,TB (by grind),EBa LAF (by omega),Option.bind_some]
 simp only [Reg.JAZ]
 rw [TB (by rfl),TB (by rfl),FBa (KAF LAF _ _),Option.bind_some,hsz,Ue,YZ (AA1 _),Ob,Rt,bs_len]
theorem SA1:Jg Qc=true:=Vh.2 ⟨Ig _,by rfl,(by decide:(0:Int)≤0∧(0:Int)≤3),(by decide:0≤8),(by decide:(0:Int)≤0∧(0:Int)≤1000),(by decide:(0:Int)≤0∧(0:Int)≤10000),rfl⟩
def Xh (w:ByteArray):SRec:=⟨1,Ob w,0,⟨0,0,false,false,false,false,⟨#[]⟩,0⟩⟩
noncomputable def Yr (k w:ByteArray):SBox×Bool:=
 bif !((k.size:Int) == 32) || decide ((w.size:Int) > 20) then (RA1,false)
 else (⟨k,true,(Oi ⟨[]⟩ (Aq k 0 (Xh w)).1 0).1,(Xa Qc (Xh w)).1,[],[],0⟩,true)
theorem VAj (w:ByteArray):WZ (Xh w)=(ofBytes [1]++Ob w,true):=by
 grind [WZ,Xh,Ig,Vg]
theorem HBa (w:ByteArray):(Xa Qc (Xh w)).2=true:=by
 rw [Xa,SA1,VAj,show decide (Qc.fCount≥10000)=false from rfl];rfl
theorem IBa (k w:ByteArray):MAd k w=some (Yr k w):=by
 rw [MAd,SAp,mk,Yr,bne]
 cases hz:(k.size:Int) == 32
 ·rfl
 rw [beq_iff_eq] at hz
 by_cases hw:(w.size:Int) > 20
 ·rw [decide_eq_true hw];rfl
 rw [decide_eq_false hw,Hl (s:=w) (by omega),LAZ]
 simp only [Option.bind_some,KA1 (b:=Qc) (Nat.zero_le _),IBC (k:=k) (d:=⟨[]⟩) (by omega) (Nat.zero_le _)]
 rfl
theorem Am {c:SL01Cur} {n:Int} (hc:Df c):Ok (Ez c n) fun r=>Df r.2:=by
 rw [Ez,UAp,mk]
 exact Ok.bind (Xp hc) fun a ha=>Ok.ret ha.2
theorem JBC {c:SL01Cur} {l:List Int} (hc:Df c) (hl:0<l.length):Ok (RAQ c l) fun r=>r.1 ∈ l∧Df r.2:=by
 rw [RAQ,WAp,mk]
 refine Ok.bind (Xp hc) fun a ha=>?_
 simp_all [Ok.ret]
theorem WAj {c:SL01Cur} {l:List ByteArray} (hc:Df c) (hl:0<l.length):Ok (UAI c l) fun r=>r.1 ∈ l∧Df r.2:=by
 rw [UAI,XAp,mk]
 refine Ok.bind (Xp hc) fun a ha=>?_
 simp_all [Ok.ret]
theorem JBa {c:SL01Cur} {n:Int} (hc:Df c) (h0:0≤n):Ok (OAd c n) fun r=>(r.1.size:Int)=min n 5000∧Df r.2:=by
 have key:∀ (j i m:Nat) (N:Nat) (a b:Int) (out:List Int),i+j=N→N≤5000→out.length=i→0≤a→Ok (ZAD (m+j+1) (.c0 (N:Int) (i:Int) a b out)) fun r=>r.1.size=N∧Df r.2:=by
  intro j
  induction j with
  | zero=>
   intro i m N a b out hi hN ho ha
   rw [ZAD];simp only [NAd,mk]
   rw [PY (by simp_all)]
   exact Ok.ret ⟨by grind [ofBytes_size],ha⟩
  | succ j ih=>
   intro i m N a b out hi hN ho ha
   have hw:w64 ((i:Int)+1)=((i+1:Nat):Int):=by grind [w64_id]
   rw [aj m j,ZAD]
   simp only [NAd,mk,hw]
   rw [TB (by grind)]
   exact Ok.bind (UAM (c:=⟨(),a,b⟩) ha) fun r hr=>Ok.chk (by grind) (ih (i+1) m N _ _ _ (by omega) hN (by simp [ho]) hr.2.2)
 rw [OAd,YAp]
 have run:∀ N:Nat,N≤5000→Ok (ZAD gas (.c0 (N:Int) 0 c.fI c.fH [])) fun r=>r.1.size=N∧Df r.2:=fun N hN=>by
  obtain ⟨m,hm⟩:=gm (n:=N) (by omega)
  rw [hm]
  exact key N 0 m N _ _ [] (Nat.zero_add _) hN rfl hc
 refine Ok.cond (fun h=>?_) fun h=>?_
 ·grind
 ·rw [decide_eq_false_iff_not] at h
  have:=run n.toNat (by omega)
  grind
theorem KBC {s:ByteArray} (h:s ∈ [(⟨#[97]⟩:ByteArray),⟨#[98]⟩,⟨#[99]⟩]):s.size=1:=by
 simp only [List.mem_cons,List.not_mem_nil,or_false] at h
 rcases h with rfl | rfl | rfl <;> rfl
theorem KBa {c:SL01Cur} (hc:Df c):Ok (TAQ c) fun r=>Za r.1=true∧Df r.2:=by
 rw [TAQ,ZAp,mk]
 refine Ok.bind (Xp hc) fun a ha=>Ok.bind (Xp ha.2) fun b hb=>Ok.bind (Am hb.2) fun d hd=>Ok.bind (Am hd) fun e he=>?_
 have a1:=ha.1.2.1 (by omega)
 have b1:=hb.1.2.1 (by omega)
 have hi:w64 (1+a.1)=1+a.1:=w64_id (by omega) (by omega)
 have hk:w64 (1+b.1)=1+b.1:=w64_id (by omega) (by omega)
 rw [hi,hk]
 have base:KZ (1+a.1) 1 1000=true∧KZ (1+b.1) 1 3=true:=⟨Aa.2 (by omega),Aa.2 (by omega)⟩
 have hd32:∀ s:ByteArray,((Ob s).size:Int) == 32:=fun s=>by rfl
 refine Ok.cond (fun h3=>?_) fun h3=>Ok.cond (fun h2=>?_) fun h2=>?_
 ·refine Ok.bind (Xp he) fun f hf=>Ok.bind (JBa hf.2 hf.1.1) fun g hg=>Ok.ret ⟨?_,hg.2⟩
  have f1:=hf.1.2.1 (by omega)
  rw [beq_iff_eq] at h3
  rw [Za,base.1,base.2,h3,decide_eq_true (by omega:(g.1.size:Int)≤100)];rfl
 ·refine Ok.bind (Xp he) fun f hf=>Ok.bind (Am hf.2) fun g hg=>Ok.bind (WAj hg (by decide)) fun t ht=>Ok.bind (Ok.eq (Hl (by simp_all [KBC]))) fun v hv=>Ok.ret ⟨?_,ht.2⟩
  grind [Za,Aa]
 ·refine Ok.bind (Am he) fun g hg=>Ok.bind (WAj hg (by decide)) fun t ht=>Ok.bind (Ok.eq (Hl (by simp_all [KBC]))) fun v hv=>Ok.ret ⟨?_,ht.2⟩
  grind [Aa,Za]
def Vb (b:SBook):List SRec→SBook×Bool
 | []=>(b,true)
 | r::rs=>bif (Xa b r).2 then Vb (Xa b r).1 rs else (YAM,false)
theorem TA1 {b:SBook} {r:SRec} (h:(Xa b r).2=true):(Xa b r).1.fThings.length≤8:=(Vh.1 (A8 h).2.2.2.1).2.2.2.1
theorem LBa {rs:List SRec}:∀ {b:SBook},Jg b=true→(Vb b rs).2=true→Jg (Vb b rs).1=true:=by
 induction rs<;>grind [Vb,Xa,A8]
theorem UA1 {l k:List SRec}:∀ {b:SBook},Vb b (l++k)=bif (Vb b l).2 then Vb (Vb b l).1 k else (YAM,false):=by
 induction l<;>grind [Vb]
theorem LBC {b:SBook} {l:List SRec} (w:Nat) (h:(Vb b l).2=true):(Vb b (l.take w)).2=true:=by
 grind [UA1,List.take_append_drop]
theorem MBa {l:List SRec}:∀ {b:SBook},(Vb b l).2=true→(Vb b l).1.fCount=b.fCount+(l.length:Int):=by
 induction l<;>grind [Vb,Xa]
def pw (k:Nat):Int:=128 ^ k
theorem I8:pw 0=1:=rfl
theorem VA1 (k:Nat):pw (k+1)=pw k*128:=Int.pow_succ ..
theorem NBa {k:Nat} (h:k<5):pw k=1∨pw k=128∨pw k=16384∨pw k=2097152∨pw k=268435456:=by
 rcases (by omega:k=0∨k=1∨k=2∨k=3∨k=4) with rfl | rfl | rfl | rfl | rfl
 ·exact .inl rfl
 ·exact .inr (.inl rfl)
 ·exact .inr (.inr (.inl rfl))
 ·exact .inr (.inr (.inr (.inl rfl)))
 ·exact .inr (.inr (.inr (.inr rfl)))
def Y1:Int×Int×Bool:=(0,0,false)
def RV (text:ByteArray) (a:Nat) (r:Int×Int×Bool):Prop:=r=Y1∨∃ v:Int,∃ q:Nat,r=(v,((q:Nat):Int),true)∧0≤v∧v≤1000000000∧a<q∧q≤text.size
def At (text:ByteArray) (p:Nat) (l:List Int):Prop:=∃ rest,(bs text).drop p=l++rest
theorem At.left {text:ByteArray} {p:Nat} {l m:List Int} (h:At text p (l++m)):At text p l:=by
 obtain ⟨r,hr⟩:=h;exact ⟨m++r,by simp_all⟩
theorem At.right {text:ByteArray} {p:Nat} {l m:List Int} (h:At text p (l++m)):At text (p+l.length) m:=by
 obtain ⟨r,hr⟩:=h;exact ⟨r,by grind [List.drop_drop,List.drop_left]⟩
theorem At.size {text:ByteArray} {p:Nat} {l:List Int} (h:At text p l):l=[]∨p+l.length≤text.size:=by
 obtain ⟨r,hr⟩:=h
 have:=congrArg List.length hr
 rw [List.length_drop,bs_len,List.length_append] at this
 cases l<;>grind
theorem At.head {text:ByteArray} {p:Nat} {x:Int} {l:List Int} (h:At text p (x::l)):p<text.size∧bt text (p:Int)=x:=by
 have hs:p+(x::l).length≤text.size:=by rcases h.size with h | h;all_goals simp_all
 simp only [List.length_cons] at hs
 have hp:p<text.size:=by omega
 refine ⟨hp,?_⟩
 rw [SAM hp]
 obtain ⟨r,hr⟩:=h
 simp_all [bs,List.drop_eq_getElem_cons]
theorem At.extract {text:ByteArray} {p:Nat} {l:List Int} (h:At text p l) (hl:∀ n,n ∈ l→0≤n∧n≤255):text.extract p (p+l.length)=ofBytes l:=by
 apply Yi
 rw [Dn,YZ hl]
 obtain ⟨r,hr⟩:=h
 simp_all [List.drop_take]
theorem Ey:∀ (n:Int),0≤n→∀ x,x ∈ SN n→0≤x∧x≤255:=by
 intro n
 induction n using SN.induct<;>grind [SN,w8_id]
theorem TAF {n:Int} (h:0≤n) (h2:n≤127):SN n=[n]:=by
 grind [SN,w8_id]
theorem MBC {n:Int} (h:n≤1000000000):(SN n).length≤5:=by
 have:=TBA 5 n (by omega)
 omega
theorem XAj {text:ByteArray} {a k m:Nat} {n s:Int} (hs:text.size≤140737488351232) (ha:a≤text.size) (hi:text.size≤a+k∨5≤k):Zw (m+1) (.c0 text a n s ((a+k:Nat):Int))=some Y1:=by
 simp only [Zw,WAd,mk]
 by_cases h:a+k<text.size
 ·rw [show decide (((a+k:Nat):Int)<(text.size:Int))=true from decide_eq_true (by omega),w64_id (n:=(a:Int)+5) (by omega) (by omega),show decide (((a+k:Nat):Int)<(a:Int)+5)=false from decide_eq_false (by omega)]
  rfl
 ·rw [show decide (((a+k:Nat):Int)<(text.size:Int))=false from decide_eq_false (by omega)]
  rfl
theorem BAC {k:Nat} {n b:Int} (hk:k<5) (h0:0≤n) (h1:n<pw k) (hb:0≤b∧b≤255) :
  (b<128→b.tmod 128=b∧w64 (b*pw k)=b*pw k∧w64 (n+b*pw k)=n+b*pw k∧0≤n+b*pw k∧n+b*pw k<pw (k+1))∧
  (¬ b<128→b.tmod 128=b - 128∧w64 ((b - 128)*pw k)=(b - 128)*pw k∧w64 (n+(b - 128)*pw k)=n+(b - 128)*pw k∧0≤n+(b - 128)*pw k∧n+(b - 128)*pw k<pw (k+1))∧w64 (pw k*128)=pw (k+1):=by
 rw [VA1]
 have e:b.tmod 128=b % 128:=Int.tmod_eq_emod_of_nonneg hb.1
 refine ⟨fun h=>?_,fun h=>?_,?_⟩
 all_goals grind [NBa,w64_id]
theorem YAj {text:ByteArray} {a k m:Nat} {n b:Int} (hs:text.size≤140737488351232) (hk:k<5) (hi:a+k<text.size) (h0:0≤n) (h1:n<pw k) (hb:bt text ((a+k:Nat):Int)=b) :
  Zw (m+1) (.c0 text a n (pw k) ((a+k:Nat):Int))=if b<128 then (if n+b*pw k > 1000000000 then some Y1 else if ofBytes (SN (n+b*pw k))=text.extract a (a+k+1) then some (n+b*pw k,((a+k+1:Nat):Int),true) else some Y1) else Zw m (.c0 text a (n+(b - 128)*pw k) (pw (k+1)) ((a+k+1:Nat):Int)):=by
 have hb':=Ux text ((a+k:Nat):Int)
 rw [hb] at hb'
 obtain ⟨n1,n2,n3⟩:=BAC hk h0 h1 hb'
 have hw:w64 (((a+k:Nat):Int)+1)=((a+k+1:Nat):Int):=by grind [w64_id]
 simp only [Zw,WAd,mk,hb,w64_id (n:=b) (by omega) (by omega),n3,hw,Int.toNat_natCast]
 rw [show decide (((a+k:Nat):Int)<(text.size:Int))=true from decide_eq_true (by omega),w64_id (n:=(a:Int)+5) (by omega) (by omega),show decide (((a+k:Nat):Int)<(a:Int)+5)=true from decide_eq_true (by omega),
  show decide ((0:Int)≤((a+k:Nat):Int))=true from decide_eq_true (by omega)]
 simp only [Bool.and_self,cond_true]
 by_cases h:b<128
 ·obtain ⟨e1,e2,e3,e4,_⟩:=n1 h
  rw [if_pos h,e1,e2,e3,show decide (b<128)=true from decide_eq_true h]
  by_cases h2:n+b*pw k > 1000000000
  ·rw [if_pos h2,show decide (n+b*pw k > 1000000000)=true from decide_eq_true h2];rfl
  ·rw [if_neg h2,show decide (n+b*pw k > 1000000000)=false from decide_eq_false h2,O0 (by omega)]
   simp only [cond_true,cond_false,Option.bind_some]
   rw [show decide ((0:Int)≤(a:Int))=true from decide_eq_true (by omega),show decide ((a:Int)≤((a+k+1:Nat):Int))=true from decide_eq_true (by omega),show decide (((a+k+1:Nat):Int)≤(text.size:Int))=true from decide_eq_true (by omega),toList_inj]
   by_cases h3:ofBytes (SN (n+b*pw k))=text.extract a (a+k+1)
   ·simp_all
   ·rw [if_neg h3,decide_eq_false h3];rfl
 grind
theorem OBa {text:ByteArray} {a:Nat} (hs:text.size≤140737488351232) (ha:a≤text.size):∀ j k m n,k+j=5→j<m→0≤n→n<pw k→∃ r,Zw m (.c0 text a n (pw k) ((a+k:Nat):Int))=some r∧RV text a r:=by
 intro j
 induction j with
 | zero=>
  intro k m n hk hm _ _
  obtain ⟨m,rfl⟩:∃ q,m=q+1:=⟨m - 1,by omega⟩
  exact ⟨_,XAj hs ha (.inr (by omega)),.inl rfl⟩
 | succ j ih=>
  intro k m n hk hm h0 h1
  obtain ⟨m,rfl⟩:∃ q,m=q+1:=⟨m - 1,by omega⟩
  by_cases hi:a+k<text.size
  ·have hb:=Ux text ((a+k:Nat):Int)
   generalize hbe:bt text ((a+k:Nat):Int)=b at hb
   obtain ⟨n1,n2,_⟩:=BAC (b:=b) (by omega:k<5) h0 h1 hb
   rw [YAj hs (by omega) hi h0 h1 hbe]
   split
   ·rename_i h
    split
    ·exact ⟨_,rfl,.inl rfl⟩
    ·split
     ·exact ⟨_,rfl,.inr ⟨_,_,rfl,(n1 h).2.2.2.1,by omega,by omega,by omega⟩⟩
     ·exact ⟨_,rfl,.inl rfl⟩
   ·rename_i h
    obtain ⟨_,_,_,e4,e5⟩:=n2 h
    exact ih (k+1) m _ (by omega) (by omega) e4 e5
  ·exact ⟨_,XAj hs ha (.inl (by omega)),.inl rfl⟩
theorem PBa {text:ByteArray} {a:Nat} {V:Int} (hs:text.size≤140737488351232) (hV0:0≤V) (hV:V≤1000000000) (hA:At text a (SN V)):∀ U k m n,SN U=(SN V).drop k→0≤U→n+pw k*U=V→0≤n→n<pw k→5<m+k→Zw m (.c0 text a n (pw k) ((a+k:Nat):Int))=some (V,((a+(SN V).length:Nat):Int),true):=by
 have h5:=MBC hV
 intro U
 induction U using SN.induct with
 | case1 U hU ih=>
  intro k m n e1 u0 e2 h0 h1 hm
  have hl:=congrArg List.length e1
  rw [List.length_drop] at hl
  have hp:=Qv U
  have hk:k<5:=by omega
  obtain ⟨m,rfl⟩:∃ q,m=q+1:=⟨m - 1,by omega⟩
  have hA':At text (a+k) (SN U):=by
   have:At text a ((SN V).take k++(SN V).drop k):=by simp_all
   have:=this.right
   grind
  have e3:=e1
  rw [SN,if_pos hU] at hA' e3
  obtain ⟨hi,hb⟩:=hA'.head
  obtain ⟨n1,n2,_⟩:=BAC (b:=128+U % 128) hk h0 h1 (by omega)
  obtain ⟨_,_,_,e4,e5⟩:=n2 (by omega)
  rw [YAj hs hk hi h0 h1 hb,if_neg (by omega)]
  refine ih (k+1) m _ ?_ (by omega) ?_ e4 e5 (by omega)
  ·rw [←List.drop_drop,←e3];rfl
  grind [VA1]
 | case2 U hU=>
  intro k m n e1 u0 e2 h0 h1 hm
  have hl:=congrArg List.length e1
  rw [List.length_drop] at hl
  have hp:=Qv U
  have hk:k<5:=by omega
  obtain ⟨m,rfl⟩:∃ q,m=q+1:=⟨m - 1,by omega⟩
  have hA':At text (a+k) (SN U):=by
   have:At text a ((SN V).take k++(SN V).drop k):=by simp_all
   have:=this.right
   grind
  rw [TAF u0 (by omega)] at hA' hl
  simp only [List.length_singleton] at hl
  obtain ⟨hi,hb⟩:=hA'.head
  have e3:n+U*pw k=V:=by simp_all [Int.mul_comm]
  have e4:a+k+1=a+(SN V).length:=by omega
  rw [YAj hs hk hi h0 h1 hb,if_pos (by omega),e3,if_neg (by omega),e4,if_pos (hA.extract (Ey V hV0)).symm]
theorem QBa {text:ByteArray} {a:Nat} (hs:text.size≤140737488351232) (ha:a≤text.size):∃ r,Kv text a=some r∧RV text a r:=by
 simp only [Kv,GAR,mk,Rf,Option.bind_some]
 rw [show KZ (a:Int) 0 (text.size:Int)=true from Aa.2 ⟨by omega,by omega⟩]
 exact OBa hs ha 5 0 gas 0 rfl (gas_lt (by omega)) (by omega) (by simp [I8])
theorem NBC {text:ByteArray} {a:Nat} {V:Int} (hs:text.size≤140737488351232) (hV0:0≤V) (hV:V≤1000000000) (hA:At text a (SN V)):Kv text a=some (V,((a+(SN V).length:Nat):Int),true):=by
 have ha:a+(SN V).length≤text.size:=by
  rcases hA.size with h | h
  all_goals grind [Qv]
 simp only [Kv,GAR,mk,Rf,Option.bind_some]
 rw [show KZ (a:Int) 0 (text.size:Int)=true from Aa.2 ⟨by omega,by omega⟩]
 exact PBa hs hV0 hV hA V 0 gas 0 (by simp) hV0 (by simp [I8]) (by omega) (by simp [I8]) (by simp [gas_lt])
theorem Yh (x a b:Int):Fe x a b=some (KZ x a b):=by
 show (bif decide (a≤x) then some (decide (x≤b)) else some false)=some (KZ x a b)
 grind [KZ]
theorem RBa {k:Nat} (h:k<5):(2:Int) ^ (Min.min (w64 (7*(k:Int))).toNat (IntKind.bits IntKind.i64))=pw k∧w64 (7*(k:Int))=7*(k:Int):=by
 refine ⟨?_,w64_id (by omega) (by omega)⟩
 rcases (by omega:k=0∨k=1∨k=2∨k=3∨k=4) with rfl | rfl | rfl | rfl | rfl <;> kernel_rfl
theorem ZAj {text:ByteArray} {a k m:Nat} {n:Int} (hs:text.size≤140737488351232) (ha:a≤text.size) (hk:k≤5) (hi:text.size≤a+k∨5≤k):Qx (m+1) (.c0 text a n k)=some Y1:=by
 simp only [Qx,HAg,mk]
 by_cases h:k<5
 ·rw [show decide ((k:Int)<5)=true from decide_eq_true (by omega),w64_id (n:=(a:Int)+k) (by omega) (by omega),show decide ((a:Int)+k<(text.size:Int))=false from decide_eq_false (by omega)]
  rfl
 ·rw [show decide ((k:Int)<5)=false from decide_eq_false (by omega)]
  rfl
theorem AAk {text:ByteArray} {a k m:Nat} {n b:Int} (hs:text.size≤140737488351232) (hk:k<5) (hi:a+k<text.size) (h0:0≤n) (h1:n<pw k) (hb:bt text ((a+k:Nat):Int)=b) :
  Qx (m+1) (.c0 text a n k)=if b<128 then (if b=0∧0<k∨n+b*pw k > 1000000000 then some Y1 else some (n+b*pw k,((a+k+1:Nat):Int),true)) else Qx m (.c0 text a (n+(b - 128)*pw k) ((k+1:Nat):Int)):=by
 have hb':=Ux text ((a+k:Nat):Int)
 rw [hb] at hb'
 obtain ⟨n1,n2,n3⟩:=BAC hk h0 h1 hb'
 obtain ⟨p1,p2⟩:=RBa hk
 rw [p2] at p1
 have ha:w64 ((a:Int)+(k:Int))=((a+k:Nat):Int):=by grind [w64_id]
 have hw:w64 (((a+k:Nat):Int)+1)=((a+k+1:Nat):Int):=by grind [w64_id]
 have hw2:w64 ((k:Int)+1)=((k+1:Nat):Int):=by grind [w64_id]
 simp only [Qx,HAg,mk,ha,hb,w64_id (n:=b) (by omega) (by omega),p2,p1,hw,hw2]
 rw [show decide (((a+k:Nat):Int)<(text.size:Int))=true from decide_eq_true (by omega),show decide ((k:Int)<5)=true from decide_eq_true (by omega),show decide ((0:Int)≤7*(k:Int))=true from decide_eq_true (by omega),
  show decide ((0:Int)≤((a+k:Nat):Int))=true from decide_eq_true (by omega)]
 simp only [Bool.and_self,cond_true]
 by_cases h:b<128
 ·obtain ⟨e1,e2,e3,e4,_⟩:=n1 h
  rw [if_pos h,e1,e2,e3,show decide (b<128)=true from decide_eq_true h]
  simp only [cond_true]
  by_cases hz:b=0
  ·rw [show (b == 0)=true from beq_iff_eq.2 hz]
   by_cases hk0:0<k
   ·rw [if_pos (.inl ⟨hz,hk0⟩),show decide ((k:Int) > 0)=true from decide_eq_true (by omega)];rfl
   grind
  ·rw [show (b == 0)=false from beq_eq_false_iff_ne.2 hz]
   by_cases h2:n+b*pw k > 1000000000
   ·rw [if_pos (.inr h2),show decide (n+b*pw k > 1000000000)=true from decide_eq_true h2];rfl
   grind
 grind
theorem SBa {text:ByteArray} {a:Nat} (hs:text.size≤140737488351232) (ha:a≤text.size):∀ j k m n,k+j=5→j<m→0≤n→n<pw k→∃ r,Qx m (.c0 text a n k)=some r∧RV text a r:=by
 intro j
 induction j with
 | zero=>
  intro k m n hk hm _ _
  obtain ⟨m,rfl⟩:∃ q,m=q+1:=⟨m - 1,by omega⟩
  exact ⟨_,ZAj hs ha (by omega) (.inr (by omega)),.inl rfl⟩
 | succ j ih=>
  intro k m n hk hm h0 h1
  obtain ⟨m,rfl⟩:∃ q,m=q+1:=⟨m - 1,by omega⟩
  by_cases hi:a+k<text.size
  ·have hb:=Ux text ((a+k:Nat):Int)
   generalize hbe:bt text ((a+k:Nat):Int)=b at hb
   obtain ⟨n1,n2,_⟩:=BAC (b:=b) (by omega:k<5) h0 h1 hb
   rw [AAk hs (by omega) hi h0 h1 hbe]
   split
   ·rename_i h
    split
    ·exact ⟨_,rfl,.inl rfl⟩
    ·exact ⟨_,rfl,.inr ⟨_,_,rfl,(n1 h).2.2.2.1,by omega,by omega,by omega⟩⟩
   ·rename_i h
    obtain ⟨_,_,_,e4,e5⟩:=n2 h
    exact ih (k+1) m _ (by omega) (by omega) e4 e5
  ·exact ⟨_,ZAj hs ha (by omega) (.inl (by omega)),.inl rfl⟩
theorem TBa {text:ByteArray} {a:Nat} {V:Int} (hs:text.size≤140737488351232) (hV:V≤1000000000) (hA:At text a (SN V)):∀ U k m n,SN U=(SN V).drop k→0≤U→(0<k→0<U)→n+pw k*U=V→0≤n→n<pw k→5<m+k→Qx m (.c0 text a n k)=some (V,((a+(SN V).length:Nat):Int),true):=by
 have h5:=MBC hV
 intro U
 induction U using SN.induct with
 | case1 U hU ih=>
  intro k m n e1 u0 uz e2 h0 h1 hm
  have hl:=congrArg List.length e1
  rw [List.length_drop] at hl
  have hp:=Qv U
  have hk:k<5:=by omega
  obtain ⟨m,rfl⟩:∃ q,m=q+1:=⟨m - 1,by omega⟩
  have hA':At text (a+k) (SN U):=by
   have:At text a ((SN V).take k++(SN V).drop k):=by simp_all
   have:=this.right
   grind
  have e3:=e1
  rw [SN,if_pos hU] at hA' e3
  obtain ⟨hi,hb⟩:=hA'.head
  obtain ⟨n1,n2,_⟩:=BAC (b:=128+U % 128) hk h0 h1 (by omega)
  obtain ⟨_,_,_,e4,e5⟩:=n2 (by omega)
  rw [AAk hs hk hi h0 h1 hb,if_neg (by omega)]
  refine ih (k+1) m _ ?_ (by omega) (fun _=>by omega) ?_ e4 e5 (by omega)
  ·rw [←List.drop_drop,←e3];rfl
  grind [VA1]
 | case2 U hU=>
  intro k m n e1 u0 uz e2 h0 h1 hm
  have hl:=congrArg List.length e1
  rw [List.length_drop] at hl
  have hp:=Qv U
  have hk:k<5:=by omega
  obtain ⟨m,rfl⟩:∃ q,m=q+1:=⟨m - 1,by omega⟩
  have hA':At text (a+k) (SN U):=by
   have:At text a ((SN V).take k++(SN V).drop k):=by simp_all
   have:=this.right
   grind
  rw [TAF u0 (by omega)] at hA' hl
  simp only [List.length_singleton] at hl
  obtain ⟨hi,hb⟩:=hA'.head
  grind [AAk]
theorem WA1 {text:ByteArray} {a:Nat} (hs:text.size≤140737488351232) (ha:a≤text.size):∃ r,Ro text a=some r∧RV text a r:=by
 simp only [Ro,DAV,mk,Yh,Option.bind_some]
 rw [show KZ (a:Int) 0 (text.size:Int)=true from Aa.2 ⟨by omega,by omega⟩]
 exact SBa hs ha 5 0 gas 0 rfl (gas_lt (by omega)) (by omega) (by simp [I8])
theorem VAZ {text:ByteArray} {a:Nat} {V:Int} (hs:text.size≤140737488351232) (hV0:0≤V) (hV:V≤1000000000) (hA:At text a (SN V)):Ro text a=some (V,((a+(SN V).length:Nat):Int),true):=by
 have ha:a+(SN V).length≤text.size:=by
  rcases hA.size with h | h
  all_goals grind [Qv]
 simp only [Ro,DAV,mk,Yh,Option.bind_some]
 rw [show KZ (a:Int) 0 (text.size:Int)=true from Aa.2 ⟨by omega,by omega⟩]
 exact TBa hs hV hA V 0 gas 0 (by simp) hV0 (fun h=>absurd h (Nat.lt_irrefl 0)) (by simp [I8]) (by omega) (by simp [I8]) (by simp [gas_lt])
def RVx (text:ByteArray) (a:Nat) (r:Int×Int×Bool):Prop:=r=Y1∨∃ v:Int,r=(v,((a+(SN v).length:Nat):Int),true)∧0≤v∧v≤1000000000∧At text a (SN v)
theorem UBa {text:ByteArray} {a:Nat} (hs:text.size≤140737488351232) (ha:a≤text.size):∀ j k m n,k+j=5→j<m→0≤n→n<pw k→∃ r,Zw m (.c0 text a n (pw k) ((a+k:Nat):Int))=some r∧RVx text a r:=by
 intro j
 induction j with
 | zero=>
  intro k m n hk hm _ _
  obtain ⟨m,rfl⟩:∃ q,m=q+1:=⟨m - 1,by omega⟩
  exact ⟨_,XAj hs ha (.inr (by omega)),.inl rfl⟩
 | succ j ih=>
  intro k m n hk hm h0 h1
  obtain ⟨m,rfl⟩:∃ q,m=q+1:=⟨m - 1,by omega⟩
  by_cases hi:a+k<text.size
  ·have hb:=Ux text ((a+k:Nat):Int)
   generalize hbe:bt text ((a+k:Nat):Int)=b at hb
   obtain ⟨n1,n2,_⟩:=BAC (b:=b) (by omega:k<5) h0 h1 hb
   rw [YAj hs (by omega) hi h0 h1 hbe]
   split
   ·rename_i h
    have hv0:=(n1 h).2.2.2.1
    split
    ·exact ⟨_,rfl,.inl rfl⟩
    ·split
     ·rename_i h2
      have h3:=congrArg bs h2
      rw [YZ (Ey _ hv0),Dn] at h3
      have hl:=congrArg List.length h3
      rw [List.length_drop,List.length_take,bs_len,Nat.min_eq_left (by omega)] at hl
      refine ⟨_,rfl,.inr ⟨_,by rw [show a+k+1=a+(SN (n+b*pw k)).length by omega],hv0,by omega,(bs text).drop (a+k+1),?_⟩⟩
      grind [List.drop_take,List.drop_drop,Nat.add_sub_cancel_left,List.take_append_drop]
     ·exact ⟨_,rfl,.inl rfl⟩
   ·rename_i h
    obtain ⟨_,_,_,e4,e5⟩:=n2 h
    exact ih (k+1) m _ (by omega) (by omega) e4 e5
  ·exact ⟨_,XAj hs ha (.inl (by omega)),.inl rfl⟩
theorem OBC {text:ByteArray} {p:Nat} (hp:p<text.size) {l:List Int} (h:At text (p+1) l):At text p (bt text (p:Int)::l):=by
 obtain ⟨r,hr⟩:=h
 refine ⟨r,?_⟩
 simp_all [drop_at,bs_len,SAM]
theorem VBa {text:ByteArray} {a:Nat} (hs:text.size≤140737488351232) (ha:a≤text.size):∀ j k m n,k+j=5→j<m→0≤n→n<pw k→∃ r,Qx m (.c0 text a n k)=some r∧(r=Y1∨∃ U:Int,r=(n+pw k*U,((a+k+(SN U).length:Nat):Int),true)∧0≤U∧(0<k→0<U)∧n+pw k*U≤1000000000∧At text (a+k) (SN U)):=by
 intro j
 induction j with
 | zero=>
  intro k m n hk hm _ _
  obtain ⟨m,rfl⟩:∃ q,m=q+1:=⟨m - 1,by omega⟩
  grind [ZAj]
 | succ j ih=>
  intro k m n hk hm h0 h1
  obtain ⟨m,rfl⟩:∃ q,m=q+1:=⟨m - 1,by omega⟩
  by_cases hi:a+k<text.size
  ·have hb:=Ux text ((a+k:Nat):Int)
   generalize hbe:bt text ((a+k:Nat):Int)=b at hb
   obtain ⟨n1,n2,_⟩:=BAC (b:=b) (by omega:k<5) h0 h1 hb
   rw [AAk hs (by omega) hi h0 h1 hbe]
   split
   ·rename_i h
    split
    ·simp
    ·rename_i h2
     have e1:=TAF hb.1 (by omega:b≤127)
     refine ⟨_,rfl,.inr ⟨b,by simp_all [Int.mul_comm],hb.1,fun hk0=>by omega,by simp_all [Int.mul_comm],?_⟩⟩
     rw [e1,←hbe]
     exact OBC hi ⟨_,rfl⟩
   ·rename_i h
    obtain ⟨_,_,_,e4,e5⟩:=n2 h
    obtain ⟨r,hr,hR⟩:=ih (k+1) m _ (by omega) (by omega) e4 e5
    refine ⟨r,hr,?_⟩
    rcases hR with hR | ⟨U,hR,hU,hU0,hUb,hA⟩
    ·simp_all
    ·have hU1:=hU0 (by omega)
     have e6:SN (b - 128+128*U)=b::SN U:=by
      rw [SN,if_pos (by omega),show (b - 128+128*U) / 128=U by omega,show 128+(b - 128+128*U) % 128=b by omega]
     have e7:n+(b - 128)*pw k+pw (k+1)*U=n+pw k*(b - 128+128*U):=by
      grind [pw]
     refine .inr ⟨b - 128+128*U,?_,by omega,fun _=>by omega,by omega,?_⟩
     ·rw [hR,e6,e7,List.length_cons,show a+(k+1)+(SN U).length=a+k+((SN U).length+1) by omega]
     ·rw [e6,←hbe]
      exact OBC hi hA
  grind [ZAj]
theorem WBa {text:ByteArray} {a:Nat} (hs:text.size≤140737488351232) (ha:a≤text.size):∃ r,Kv text a=some r∧RVx text a r:=by
 simp only [Kv,GAR,mk,Rf,Option.bind_some]
 rw [show KZ (a:Int) 0 (text.size:Int)=true from Aa.2 ⟨by omega,by omega⟩]
 exact UBa hs ha 5 0 gas 0 rfl (gas_lt (by omega)) (by omega) (by simp [I8])
theorem XBa {text:ByteArray} {a:Nat} (hs:text.size≤140737488351232) (ha:a≤text.size):∃ r,Ro text a=some r∧RVx text a r:=by
 simp only [Ro,DAV,mk,Yh,Option.bind_some]
 rw [show KZ (a:Int) 0 (text.size:Int)=true from Aa.2 ⟨by omega,by omega⟩]
 obtain ⟨r,hr,hR⟩:=VBa hs ha 5 0 gas 0 rfl (gas_lt (by omega)) (by omega) (by simp [I8])
 refine ⟨r,hr,?_⟩
 rcases hR with hR | ⟨U,hR,hU,_,hUb,hA⟩
 ·exact .inl hR
 ·rw [I8,Int.zero_add,Int.one_mul] at hR hUb
  exact .inr ⟨U,hR,hU,hUb,hA⟩
theorem XA1 {n:Int} (h:0≤n):(n≤127∧SN n=[n])∨(127<n∧SN n=(128+n % 128)::SN (n / 128)):=by
 grind [TAF,SN]
theorem YBa:∀ (n:Nat) (v w:Int) (r s:List Int),v.toNat≤n→0≤v→0≤w→SN v++r=SN w++s→v=w:=by
 intro n
 induction n with
 | zero=>
  intro v w r s hn hv hw h
  have hv0:v=0:=by omega
  grind [TAF,XA1]
 | succ n ih=>
  intro v w r s hn hv hw h
  rcases XA1 hv with ⟨g1,g2⟩ | ⟨g1,g2⟩ <;> rcases XA1 hw with ⟨h1,h2⟩ | ⟨h1,h2⟩ <;> rw [g2,h2] at h <;> injection h with h3 h4
  ·omega
  ·omega
  ·have:=ih (v / 128) (w / 128) r s (by omega) (by omega) (by omega) h4
   omega
theorem ZBa {text:ByteArray} {a:Nat} {v w:Int} (hv:0≤v) (hw:0≤w) (h:At text a (SN v)) (k:At text a (SN w)):v=w:=by
 obtain ⟨r,hr⟩:=h
 obtain ⟨s,hs⟩:=k
 exact YBa v.toNat v w r s (Nat.le_refl _) hv hw (hr.symm.trans hs)
noncomputable def Ve (text:ByteArray) (a:Nat):Int×Int×Bool:=@dite _ (∃ v:Int,0≤v∧v≤1000000000∧At text a (SN v)) (Classical.propDecidable _) (fun h=>(h.choose,((a+(SN h.choose).length:Nat):Int),true)) (fun _=>Y1)
theorem PBC {text:ByteArray} {a:Nat} {o:Option (Int×Int×Bool)} (h1:∃ r,o=some r∧RVx text a r) (h2:∀ V:Int,0≤V→V≤1000000000→At text a (SN V)→o=some (V,((a+(SN V).length:Nat):Int),true)):o=some (Ve text a):=by
 unfold Ve
 split
 ·grind
 ·rename_i h
  obtain ⟨r,hr,rfl | ⟨v,_,k1,k2,k3⟩⟩:=h1
  all_goals simp_all
theorem QBC {text:ByteArray} {a:Nat} (hs:text.size≤140737488351232) (ha:a≤text.size):Kv text a=some (Ve text a):=PBC (WBa hs ha) (fun V h0 h1 hA=>NBC hs h0 h1 hA)
theorem RBC {text:ByteArray} {a:Nat} (hs:text.size≤140737488351232) (ha:a≤text.size):Ro text a=some (Ve text a):=PBC (XBa hs ha) (fun V h0 h1 hA=>VAZ hs h0 h1 hA)
theorem XAZ {text:ByteArray} {a:Nat} (hs:text.size≤140737488351232) (ha:a≤text.size):RVx text a (Ve text a):=by
 unfold Ve
 split
 ·rename_i h
  obtain ⟨k1,k2,k3⟩:=h.choose_spec
  exact .inr ⟨_,rfl,k1,k2,k3⟩
 ·exact .inl rfl
theorem YA1 {text:ByteArray} {a:Nat} {V:Int} (hs:text.size≤140737488351232) (hV0:0≤V) (hV:V≤1000000000) (hA:At text a (SN V)):Ve text a=(V,((a+(SN V).length:Nat):Int),true):=by
 unfold Ve
 split
 all_goals grind [ZBa]
noncomputable def Xo (file:ByteArray) (a:Nat):Option (ByteArray×Nat):=
 bif (Ve file a).2.2 && (KZ (Ve file a).1 1 9000 && (decide ((Ve file a).1≤(file.size:Int) - (Ve file a).2.1 - 4) &&
  (bs (file.extract (Ve file a).2.1.toNat ((Ve file a).2.1+4).toNat) == four (Y0 (bs (file.extract ((Ve file a).2.1+4).toNat ((Ve file a).2.1+4+(Ve file a).1).toNat))))))
 then some (file.extract ((Ve file a).2.1+4).toNat ((Ve file a).2.1+4+(Ve file a).1).toNat,((Ve file a).2.1+4+(Ve file a).1).toNat) else none
noncomputable def Aj:Nat→ByteArray→Nat→List ByteArray×Nat
 | 0,_,a=>([],a)
 | j+1,file,a=>match Xo file a with
  | none=>([],a)
  | some p=>(p.1::(Aj j file p.2).1,(Aj j file p.2).2)
noncomputable def Zr (file:ByteArray):List ByteArray×Int:=bif decide ((file.size:Int) > 20000) then ([],0) else ((Aj (file.size+1) file 0).1,((Aj (file.size+1) file 0).2:Int))
theorem DAN {file:ByteArray} {a:Nat} (hs:file.size≤140737488351232) (ha:a≤file.size):(Xo file a=none)∨∃ (v:Int) (q:Nat),Ve file a=(v,(q:Int),true)∧a<q∧q=a+(SN v).length∧1≤v∧v≤9000∧q+4+v.toNat≤file.size∧At file a (SN v)∧
  bs (file.extract q (q+4))=four (Y0 (bs (file.extract (q+4) (q+4+v.toNat))))∧Xo file a=some (file.extract (q+4) (q+4+v.toNat),q+4+v.toNat):=by
 rw [Xo]
 rcases XAZ hs ha with h | ⟨v,h,h0,h1,hA⟩
 ·left;rw [h];rfl
 ·rw [h]
  have hp:=Qv v
  have hsz:=hA.size.resolve_left (by grind)
  generalize hq:a+(SN v).length=q at hsz
  simp only [Bool.true_and]
  cases h2:KZ v 1 9000
  all_goals grind [Aa]
def Ua:List ByteArray→List Int
 | []=>[]
 | t::ts=>Ie (bs t)++Ua ts
def whole:List ByteArray→Nat→Nat
 | [],_=>0
 | t::ts,K=>if (Ie (bs t)).length≤K then whole ts (K - (Ie (bs t)).length)+1 else 0
theorem BAk (l:List Int):(Ie l).length=(SN (l.length:Int)).length+4+l.length:=by
 grind [four,Ie]
theorem SBC (ts us:List ByteArray):Ua (ts++us)=Ua ts++Ua us:=by
 induction ts<;>simp_all [Ua]
theorem ZA1 (ts:List ByteArray):∀ K,whole ts K≤K∧whole ts K≤ts.length∧(Ua (ts.take (whole ts K))).length≤K:=by
 induction ts<;>grind [whole,BAk,Ua]
theorem TBC (ts:List ByteArray):∀ K,(Ua ts).length≤K→whole ts K=ts.length:=by
 induction ts<;>grind [Ua,whole]
theorem ABb {file l:ByteArray} {a:Nat} (hs:file.size≤140737488351232) (h1:1≤l.size) (h2:l.size≤9000) (hA:At file a (Ie (bs l))):Xo file a=some (l,a+(Ie (bs l)).length):=by
 have hA':At file a (SN (l.size:Int)++(four (Y0 (bs l))++bs l)):=by simp_all [Ie,bs_len]
 have e1:=YA1 hs (by omega) (by omega) hA'.left
 have hB:=hA'.right
 have hC:=hB.right
 have h4:(four (Y0 (bs l))).length=4:=rfl
 have hx4:=hB.left.extract (X7 (AAC (bs l)))
 have hxl:=hC.extract (Uh l)
 rw [h4] at hx4 hxl hC
 rw [bs_len,EAZ] at hxl
 have hz:a+(SN (l.size:Int)).length+4+l.size≤file.size:=by
  rcases hC.size with h | h
  all_goals grind [bs_len]
 have hlen:=BAk (bs l)
 rw [bs_len] at hlen
 rw [Xo,e1,hlen]
 generalize (SN (l.size:Int)).length=n at hx4 hxl hz
 dsimp only
 have t0:((a+n:Nat):Int).toNat=a+n:=Int.toNat_natCast _
 have t1:(((a+n:Nat):Int)+4).toNat=a+n+4:=by omega
 have t2:(((a+n:Nat):Int)+4+(l.size:Int)).toNat=a+n+4+l.size:=by omega
 rw [t0,t1,t2,hx4,hxl,YZ (X7 (AAC (bs l))),beq_self_eq_true,Aa.2 (show 1≤(l.size:Int)∧(l.size:Int)≤9000 by omega),show decide ((l.size:Int)≤(file.size:Int) - ((a+n:Nat):Int) - 4)=true from decide_eq_true (by omega)]
 grind
theorem BBb {file l:ByteArray} {a:Nat} {rest:List Int} (hs:file.size≤140737488000000) (ha:a≤file.size) (h2:l.size≤9000) (hr:0<rest.length) (hrb:He rest) (hA:(bs file).drop a++rest=Ie (bs l)):Xo file a=none:=by
 rcases DAN (file:=file) (a:=a) (by omega) ha with h | ⟨v,q,_,hq,hq2,hv1,hv2,h3,hAv,_,_⟩
 ·exact h
 ·exfalso
  have hl:=BAk (bs l)
  rw [bs_len] at hl
  have hv10:=Zi (n:=(l.size:Int)) (by omega)
  have hlen:=congrArg List.length hA
  rw [List.length_append,List.length_drop,bs_len] at hlen
  have hb:bs (file++ofBytes rest)=bs file++rest:=by rw [Ue,YZ hrb]
  have hd:(bs (file++ofBytes rest)).drop a=Ie (bs l):=by simp_all [List.drop_append_of_le_length,bs_len]
  have hz:(file++ofBytes rest).size=file.size+rest.length:=by simp [ofBytes_size]
  have e1:=YA1 (text:=file++ofBytes rest) (a:=a) (V:=(l.size:Int)) (by omega) (by omega) (by omega) ⟨four (Y0 (bs l))++bs l,by grind [Ie,bs_len]⟩
  obtain ⟨x,hx⟩:=hAv
  have e2:=YA1 (text:=file++ofBytes rest) (a:=a) (V:=v) (by omega) (by omega) (by omega) ⟨x++rest,by simp_all⟩
  grind
theorem CBb {file:ByteArray} (hs:file.size≤140737488000000):∀ (ts:List ByteArray) (K m a:Nat),(∀ t ∈ ts,1≤t.size∧t.size≤9000)→a≤file.size→(bs file).drop a=(Ua ts).take K→whole ts K<m→Aj m file a=(ts.take (whole ts K),a+(Ua (ts.take (whole ts K))).length):=by
 intro ts
 induction ts with
 | nil=>
  intro K m a _ ha hd hm
  obtain ⟨m,rfl⟩:∃ n,m=n+1:=⟨m - 1,by omega⟩
  grind [bs_len,Ua,Aj,DAN]
 | cons t ts ih=>
  intro K m a ht ha hd hm
  obtain ⟨m,rfl⟩:∃ n,m=n+1:=⟨m - 1,by omega⟩
  have ht0:=ht t (List.mem_cons_self ..)
  rw [whole] at hm ⊢
  rw [Ua,List.take_append] at hd
  split at hm
  ·rename_i h
   rw [if_pos h]
   rw [List.take_of_length_le h] at hd
   have hA:At file a (Ie (bs t)):=⟨_,hd⟩
   have hz:a+(Ie (bs t)).length≤file.size:=by
    rcases hA.size with h | h
    all_goals grind
   rw [Aj,ABb (by omega) ht0.1 ht0.2 hA]
   have hd2:(bs file).drop (a+(Ie (bs t)).length)=(Ua ts).take (K - (Ie (bs t)).length):=by
    grind [List.drop_drop,List.drop_left]
   dsimp only
   rw [ih _ m _ (fun x hx=>ht x (List.mem_cons_of_mem _ hx)) hz hd2 (by omega),List.take_succ_cons,Ua,List.length_append]
   grind
  ·rename_i h
   rw [if_neg h]
   rw [show K - (Ie (bs t)).length=0 by omega,List.take_zero,List.append_nil] at hd
   rw [Aj,BBb (file:=file) (l:=t) (rest:=(Ie (bs t)).drop K) hs ha ht0.2 (by grind) (fun n hn=>RAZ (Uh t) n (List.mem_of_mem_drop hn)) (by simp_all)]
   rfl
theorem CAk:∀ {a m:List Int},He a→a.length≤m.length→Jj (Jj a m) m=a
 | [],_,_,_=>by rfl
 | _::_,[],_,h=>by simp at h
 | x::a,y::m,hb,h=>by
  have h1:=CAk (a:=a) (m:=m) (fun n hn=>hb n (List.mem_cons_of_mem _ hn)) (by simpa using h)
  simp only [Jj] at h1 ⊢
  rw [List.zipWith_cons_cons,List.zipWith_cons_cons,h1,LBY (hb x (List.mem_cons_self ..))]
theorem DBb {k t:ByteArray} {num:Int} (h:(Jb k num t).2=true):16≤t.size∧maskOk num ((t.size:Int) - 16)=true∧Vr (bs k) num ((bs t).take (t.size - 16))=(bs t).drop (t.size - 16)∧bs (Jb k num t).1=Jj ((bs t).take (t.size - 16)) (Ur (bs k) (SN num) (t.size - 16))∧bs t=(bs t).take (t.size - 16)++Vr (bs k) num ((bs t).take (t.size - 16)):=by
 rw [Jb] at h ⊢
 cases h1:decide ((t.size:Int)<16) || !(maskOk num ((t.size:Int) - 16))
 ·rw [h1,cond_false] at h
  rw [Bool.or_eq_false_iff,decide_eq_false_iff_not,Bool.not_eq_false'] at h1
  cases h2:(Vr (bs k) num ((bs t).take (t.size - 16)) == (bs t).drop (t.size - 16))
  ·simp_all
  ·rw [cond_false,cond_true,YZ (G8 _ _)]
   grind [List.take_append_drop]
 simp_all
theorem YAZ (k t:ByteArray) (num:Int):(Jb k num t).1.size≤t.size:=by
 have hl:=bs_len t
 rw [Jb]
 cases decide ((t.size:Int)<16) || !(maskOk num ((t.size:Int) - 16))
 ·rw [cond_false]
  cases (Vr (bs k) num ((bs t).take (t.size - 16)) == (bs t).drop (t.size - 16))
  ·exact Nat.zero_le _
  grind [ofBytes_size,Jj]
 ·exact Nat.zero_le _
theorem EBb {k:ByteArray} {num:Int} {s:List Int} (hs:He s) (hm:maskOk num s.length=true):Jb k num (ofBytes (Qn (bs k) num s))=(ofBytes s,true):=by
 have hx:(Jj s (Ur (bs k) (SN num) s.length)).length=s.length:=QAF (by simp [Dy])
 have hb:He (Qn (bs k) num s):=fun x hx=>by
  rcases List.mem_append.1 hx with hx | hx
  ·exact G8 _ _ x hx
  ·exact X0 _ _ _ x hx
 have hsz:(ofBytes (Qn (bs k) num s)).size=s.length+16:=by simp_all [ofBytes_size,Qn,ZAM]
 rw [Jb,YZ hb,hsz,Nat.add_sub_cancel,show ((s.length+16:Nat):Int) - 16=(s.length:Int) by omega,hm]
 grind [Qn,CAk,Dy]
theorem FBb {k t:ByteArray} {num:Int} (h:(Jb k num t).2=true):Qn (bs k) num (bs (Jb k num t).1)=bs t:=by
 obtain ⟨h1,h2,h3,h4,h5⟩:=DBb h
 have hl:((bs t).take (t.size - 16)).length=t.size - 16:=by grind [bs_len]
 have hx:(bs (Jb k num t).1).length=t.size - 16:=by grind [QAF,Dy]
 rw [Qn,hx,h4,CAk (fun n hn=>Uh t n (List.mem_of_mem_take hn)) (by grind [Dy]),←h5]
theorem GBb {k:ByteArray} {num:Int} {a b:List Int} (ha:He a) (hb:He b) (h:Qn (bs k) num a=Qn (bs k) num b):a=b:=by
 grind [QAF,Dy,Qn,List.length_append,ZAM,List.append_inj,CAk]
def CAC (text:ByteArray) (c:SL19Cur):Prop:=∃ p:Nat,∃ b:Bool,c=⟨text,(p:Int),b⟩∧p≤text.size
theorem DAk {text:ByteArray} {c:SL19Cur} (hs:text.size≤140737488351232) (h:CAC text c):∃ v c',QAA c=some (v,c')∧CAC text c'∧0≤v∧v≤1000000000:=by
 obtain ⟨p,b,rfl,hp⟩:=h
 obtain ⟨r,hr,hR⟩:=QBa hs hp
 simp only [QAA,YAd,hr,Option.bind_some]
 cases b
 ·rcases hR with rfl | ⟨v,q,rfl,h0,h1,_,h3⟩
  ·exact ⟨_,_,rfl,⟨p,true,rfl,hp⟩,by omega,by omega⟩
  ·exact ⟨_,_,rfl,⟨q,false,rfl,h3⟩,h0,h1⟩
 ·exact ⟨_,_,rfl,⟨p,true,rfl,hp⟩,by omega,by omega⟩
theorem ZAZ {text:ByteArray} {a:Nat} {V:Int} (hs:text.size≤140737488351232) (hV0:0≤V) (hV:V≤1000000000) (hA:At text a (SN V)):QAA ⟨text,(a:Int),false⟩=some (V,⟨text,((a+(SN V).length:Nat):Int),false⟩):=by
 simp only [QAA,YAd,NBC hs hV0 hV hA,Option.bind_some]
 rfl
theorem AA2 {text:ByteArray} {c:SL19Cur} {n:Int} (hs:text.size≤140737488351232) (h:CAC text c) (h0:0≤n) (h1:n≤1000000000):∃ s c',Fz c n=some (s,c')∧CAC text c'∧s.size≤1000000000∧(c'.fBad=false→(s.size:Int)=n∧c.fAt+n≤(text.size:Int)):=by
 obtain ⟨p,b,rfl,hp⟩:=h
 simp only [Fz,ZAd,mk]
 have e1:w64 ((text.size:Int) - (p:Int))=(text.size:Int) - p:=w64_id (by omega) (by omega)
 have e2:w64 ((p:Int)+n)=p+n:=w64_id (by omega) (by omega)
 have e3:w64 ((p:Int)+n - n)=p:=by grind [w64_id]
 rw [e1,e2,e3]
 cases b
 ·by_cases hn:n > (text.size:Int) - p
  ·rw [show decide (n > (text.size:Int) - p)=true from decide_eq_true hn]
   exact ⟨_,_,rfl,⟨p,true,rfl,hp⟩,by show 0≤_;omega,fun h=>by cases h⟩
  ·rw [show decide (n > (text.size:Int) - p)=false from decide_eq_false hn,show decide ((0:Int)≤(p:Int))=true from decide_eq_true (by omega),show decide ((p:Int)≤p+n)=true from decide_eq_true (by omega),show decide ((p:Int)+n≤(text.size:Int))=true from decide_eq_true (by omega)]
   have hz:(text.extract (p:Int).toNat ((p:Int)+n).toNat).size=n.toNat:=by grind [ByteArray.size_extract]
   refine ⟨_,_,rfl,⟨((p:Int)+n).toNat,false,?_,by omega⟩,by omega,fun _=>⟨by omega,by omega⟩⟩
   grind
 ·exact ⟨_,_,rfl,⟨p,true,rfl,hp⟩,by show 0≤_;omega,fun h=>by cases h⟩
theorem BA2 {text:ByteArray} {p:Nat} {s:ByteArray} (hs:text.size≤140737488351232) (hA:At text p (bs s)) (hp:p≤text.size):Fz ⟨text,(p:Int),false⟩ (s.size:Int)=some (s,⟨text,((p+s.size:Nat):Int),false⟩):=by
 have hz:p+s.size≤text.size:=by
  rcases hA.size with h | h
  all_goals grind [bs_len]
 have e1:w64 ((text.size:Int) - (p:Int))=(text.size:Int) - p:=w64_id (by omega) (by omega)
 have e2:w64 ((p:Int)+(s.size:Int))=((p+s.size:Nat):Int):=by grind [w64_id]
 have e3:w64 (((p+s.size:Nat):Int) - (s.size:Int))=p:=by grind [w64_id]
 simp only [Fz,ZAd,mk,e1,e2,e3,Int.toNat_natCast]
 have hx:=hA.extract (fun n hn=>WA0 hn)
 grind [bs_len,EAZ]
theorem CA2 {text:ByteArray} {c:SL19Cur} (hs:text.size≤140737488351232) (h:CAC text c):∃ v c',Dx c=some (v,c')∧CAC text c'∧0≤v∧v≤255∧(c'.fBad=true→v=0)∧(c'.fBad=false→c.fAt+1≤(text.size:Int)):=by
 obtain ⟨s,c',e,hc,_,hn⟩:=AA2 (n:=1) hs h (by omega) (by omega)
 simp only [Dx,AAe,mk,e,Option.bind_some]
 cases hb:c'.fBad
 ·obtain ⟨h1,h2⟩:=hn hb
  rw [show decide ((0:Int)≤(0:Int))=true from rfl,show decide ((0:Int)<(s.size:Int))=true from decide_eq_true (by omega)]
  have:=Ux s 0
  grind [w64_id]
 grind
theorem EAN {text:ByteArray} {p:Nat} {b:Int} (hs:text.size≤140737488351232) (hA:At text p [b]):Dx ⟨text,(p:Int),false⟩=some (b,⟨text,((p+1:Nat):Int),false⟩):=by
 obtain ⟨h1,h2⟩:=hA.head
 have hb:=Ux text p
 rw [h2] at hb
 have hB:bs (ofBytes [b])=[b]:=YZ (by simp_all)
 have e:=BA2 (s:=ofBytes [b]) hs (by simp_all) (Nat.le_of_lt h1)
 have h0:bt (ofBytes [b]) 0=b:=by
  grind [SAM,ofBytes_size]
 simp only [Dx,AAe,mk]
 rw [show Fz ⟨text,(p:Int),false⟩ 1=_ from e]
 simp only [Option.bind_some,h0,w64_id (n:=b) (by omega) (by omega)]
 rfl
theorem HBb {text:ByteArray} {c:SL19Cur} (hs:text.size≤140737488351232) (h:CAC text c):∃ s c',BAJ c=some (s,c')∧CAC text c'∧s.size≤1000000000:=by
 obtain ⟨v,c1,e1,h1,h2,h3⟩:=DAk hs h
 obtain ⟨s,c2,e2,h4,h5,_⟩:=AA2 hs h1 h2 h3
 simp only [BAJ,BAe,e1,e2,Option.bind_some]
 grind
theorem IBb {text:ByteArray} {p:Nat} {s:ByteArray} (hs:text.size≤140737488351232) (hz:s.size≤1000000000) (hA:At text p (SN (s.size:Int)++bs s)):BAJ ⟨text,(p:Int),false⟩=some (s,⟨text,((p+(SN (s.size:Int)).length+s.size:Nat):Int),false⟩):=by
 have hp:p+(SN (s.size:Int)).length≤text.size:=by
  rcases hA.left.size with h | h
  all_goals grind [Qv]
 simp only [BAJ,BAe,ZAZ hs (by omega) (by omega) hA.left,BA2 hs hA.right hp,Option.bind_some]
theorem JBb (x:SThing):(((Zj x).tmod 2 == 1)=x.fHidden)∧(((w64 ((Zj x).tdiv 2)).tmod 2 == 1)=x.fFixed)∧(((w64 ((Zj x).tdiv 4)).tmod 2 == 1)=x.fSigns)∧(((w64 ((Zj x).tdiv 8)).tmod 2 == 1)=x.fWraps):=by
 unfold Zj
 cases x.fHidden <;> cases x.fFixed <;> cases x.fSigns <;> cases x.fWraps <;> decide
theorem UBC {x:SThing} (h:Za x=true):bs (TAB x)=SN x.fId++([x.fKind]++([Zj x]++((SN (x.fValue.size:Int)++bs x.fValue)++SN x.fNext))):=by
 obtain ⟨k1,k2,k3,k4,k5,k6,k7⟩:=Uo h
 have hf:=NAZ x
 unfold TAB Zx
 simp only [Ue,YZ (Ey x.fId (by omega)),YZ (Ey x.fNext (by omega)),YZ (Ey (x.fValue.size:Int) (by omega)),YZ (l:=[x.fKind]) (by grind),YZ (l:=[Zj x]) (by grind),List.append_assoc]
def EAk (text:ByteArray) (r:SThing×Bool):Prop:=(r.2=true∧Gf r.1=(text,true))∨r=(⟨(0:Int),(0:Int),false,false,false,false,(⟨#[]⟩:ByteArray),(0:Int)⟩,false)
theorem VBC {text:ByteArray} (hs:text.size≤140737488351232):∃ r,L6 text=some r∧EAk text r:=by
 obtain ⟨v0,c0,e0,h0,_⟩:=DAk hs (c:=⟨text,(0:Int),false⟩) ⟨0,false,rfl,by omega⟩
 obtain ⟨v1,c1,e1,h1,_⟩:=CA2 hs h0
 obtain ⟨v2,c2,e2,h2,_⟩:=CA2 hs h1
 obtain ⟨v3,c3,e3,h3,_⟩:=HBb hs h2
 obtain ⟨v4,c4,e4,h4,_⟩:=DAk hs h3
 simp only [L6,CAe,mk,e0,e1,e2,e3,e4,OAZ,Option.bind_some]
 cases c4.fBad
 ·cases h5:(Gf (⟨v0,v1,v2.tmod 2 == 1,(w64 (v2.tdiv 2)).tmod 2 == 1,(w64 (v2.tdiv 4)).tmod 2 == 1,(w64 (v2.tdiv 8)).tmod 2 == 1,v3,v4⟩:SThing)).2
  ·exact ⟨_,rfl,.inr rfl⟩
  ·rw [toList_inj]
   by_cases h6:(Gf (⟨v0,v1,v2.tmod 2 == 1,(w64 (v2.tdiv 2)).tmod 2 == 1,(w64 (v2.tdiv 4)).tmod 2 == 1,(w64 (v2.tdiv 8)).tmod 2 == 1,v3,v4⟩:SThing)).1=text
   ·rw [decide_eq_true h6];exact ⟨_,rfl,.inl ⟨rfl,Prod.ext h6 h5⟩⟩
   ·rw [decide_eq_false h6];exact ⟨_,rfl,.inr rfl⟩
 ·exact ⟨_,rfl,.inr rfl⟩
theorem DA2 {text:ByteArray} {x:SThing} (h:Gf x=(text,true)):Za x=true∧text=TAB x:=by
 grind [Gf]
theorem WBC {text:ByteArray} {x:SThing} (hs:text.size≤140737488351232) (h:Gf x=(text,true)):L6 text=some (x,true):=by
 obtain ⟨ho,rfl⟩:=DA2 h
 obtain ⟨k1,k2,k3,k4,k5,k6,k7⟩:=Uo ho
 have hf:=NAZ x
 have hA:At (TAB x) 0 _:=⟨[],by rw [List.drop_zero,UBC ho,List.append_nil]⟩
 have a1:=hA.right
 have a2:=a1.right
 have a3:=a2.right
 have a4:=a3.right
 have e0:=ZAZ hs (by omega) (by omega) hA.left
 have e1:=EAN hs a1.left
 have e2:=EAN hs a2.left
 have e3:=IBb hs (by omega) a3.left
 have e4:=ZAZ hs (by omega) (by omega) a4
 simp only [List.length_append,bs_len,List.length_singleton,Nat.zero_add,←Nat.add_assoc] at e0 e1 e2 e3 e4
 obtain ⟨b1,b2,b3,b4⟩:=JBb x
 simp only [L6,CAe,mk]
 rw [show ((0:Int))=((0:Nat):Int) from rfl,e0]
 simp_all [OAZ]
def Es:SRec:=⟨(0:Int),(⟨#[]⟩:ByteArray),(0:Int),(⟨(0:Int),(0:Int),false,false,false,false,(⟨#[]⟩:ByteArray),(0:Int)⟩:SThing)⟩
def FAN (text:ByteArray) (r:SRec×Bool):Prop:=(r.2=true∧WZ r.1=(text,true))∨r=(Es,false)
theorem GAN {text:ByteArray} (x:SRec) (bad:Bool):∃ r,(bif bad then some (Es,false) else bif !(WZ x).2 then some (Es,false) else bif !((ByteArray.toList (WZ x).1) == (ByteArray.toList text)) then some (Es,false) else some (x,true))=some r∧FAN text r:=by
 cases bad
 ·cases h5:(WZ x).2
  ·exact ⟨_,rfl,.inr rfl⟩
  ·rw [toList_inj]
   by_cases h6:(WZ x).1=text
   ·rw [decide_eq_true h6];exact ⟨_,rfl,.inl ⟨rfl,Prod.ext h6 h5⟩⟩
   ·rw [decide_eq_false h6];exact ⟨_,rfl,.inr rfl⟩
 ·exact ⟨_,rfl,.inr rfl⟩
theorem KBb {text:ByteArray} (hs:text.size≤140737488351232):∃ r,Ox text=some r∧FAN text r:=by
 obtain ⟨v0,c0,e0,h0,_,_,hz,hn⟩:=CA2 hs (c:=⟨text,(0:Int),false⟩) ⟨0,false,rfl,by omega⟩
 obtain ⟨v1,c1,e1,h1,_⟩:=AA2 (n:=32) hs h0 (by omega) (by omega)
 obtain ⟨v3,c3,e3,h3,_⟩:=DAk hs h0
 simp only [Ox,NAE,mk,e0,e1,e3,NAF,Option.bind_some]
 cases v0 == 1
 ·simp only [cond_false]
  cases v0 == 2
  ·simp only [cond_false]
   cases v0 == 4
   ·simp only [cond_false]
    cases h:v0 == 3
    ·exact GAN _ _
    ·have hv:v0=3:=beq_iff_eq.1 h
     have hsz:(0:Int)+1≤(text.size:Int):=by
      simp_all
     obtain ⟨r,e5,_⟩:=VBC (text:=text.extract (1:Int).toNat text.size) (by grind [ByteArray.size_extract])
     rw [show decide ((1:Int)≤(text.size:Int))=true from decide_eq_true (by omega),e5]
     exact GAN _ _
   ·exact GAN _ _
  ·exact GAN _ _
 ·exact GAN _ _
theorem XBC {text:ByteArray} {x:SRec} (h:WZ x=(text,true)) :
  (∃ s:ByteArray,x=⟨1,s,0,Es.fThing⟩∧s.size=32∧text=ofBytes [1]++s)∨(∃ n:Int,x=⟨2,Es.fText,n,Es.fThing⟩∧0≤n∧n≤3∧text=ofBytes [2]++ofBytes (SN n))∨
  (∃ t:SThing,∃ s:ByteArray,x=⟨3,Es.fText,0,t⟩∧Gf t=(s,true)∧text=ofBytes [3]++s)∨(∃ n:Int,x=⟨4,Es.fText,n,Es.fThing⟩∧1≤n∧n≤1000∧text=ofBytes [4]++ofBytes (SN n)):=by
 have hE:∀ s:ByteArray,Xg s=true→s=⟨#[]⟩:=fun s h=>by grind [Xg,toList_inj]
 have hZ:∀ t:SThing,Vg t=true→t=Es.fThing:=fun t h=>by
  unfold Vg at h
  simp only [DA1] at h
  obtain ⟨t1,t2,t3,t4,t5,t6,t7,t8⟩:=t
  simp only [Bool.and_eq_true,beq_iff_eq] at h
  obtain ⟨rfl,rfl,rfl,rfl,rfl,rfl,h7,rfl,_⟩:=h
  rw [hE _ h7];rfl
 obtain ⟨k,s,n,t⟩:=x
 unfold WZ at h
 simp only at h
 cases k1:k == 1 <;> rw [k1] at h
 ·cases k2:k == 2 <;> rw [k2] at h
  ·cases k3:k == 3 <;> rw [k3] at h
   ·cases k4:k == 4 <;> rw [k4] at h
    ·exact Bool.noConfusion (congrArg Prod.snd h)
    ·simp only [cond_false,cond_true] at h
     cases hc:Xg s && Vg t && KZ n 1 1000 <;> rw [hc] at h
     ·exact Bool.noConfusion (congrArg Prod.snd h)
     ·simp only [Bool.and_eq_true,Aa] at hc
      refine .inr (.inr (.inr ⟨n,?_,hc.2.1,hc.2.2,(congrArg Prod.fst h).symm⟩))
      rw [beq_iff_eq.1 k4,hE _ hc.1.1,hZ _ hc.1.2];rfl
   ·simp only [cond_false,cond_true] at h
    cases hc:(Gf t).2 && Xg s && n == 0 <;> rw [hc] at h
    ·exact Bool.noConfusion (congrArg Prod.snd h)
    ·simp only [Bool.and_eq_true,beq_iff_eq] at hc
     refine .inr (.inr (.inl ⟨t,(Gf t).1,?_,Prod.ext rfl hc.1.1,(congrArg Prod.fst h).symm⟩))
     rw [beq_iff_eq.1 k3,hE _ hc.1.2,hc.2];rfl
  ·simp only [cond_false,cond_true] at h
   cases hc:Xg s && Vg t && KZ n 0 3 <;> rw [hc] at h
   ·exact Bool.noConfusion (congrArg Prod.snd h)
   ·simp only [Bool.and_eq_true,Aa] at hc
    refine .inr (.inl ⟨n,?_,hc.2.1,hc.2.2,(congrArg Prod.fst h).symm⟩)
    rw [beq_iff_eq.1 k2,hE _ hc.1.1,hZ _ hc.1.2];rfl
 ·simp only [cond_false,cond_true] at h
  cases hc:(s.size:Int) == 32 && n == 0 && Vg t <;> rw [hc] at h
  ·exact Bool.noConfusion (congrArg Prod.snd h)
  grind
theorem UAF {k:Int} {s:ByteArray} (h0:0≤k) (h1:k≤255):At (ofBytes [k]++s) 0 ([k]++bs s):=⟨[],by simp_all [Ue,YZ]⟩
theorem EA2 {k:Int} {s:ByteArray}:(ofBytes [k]++s).extract (1:Int).toNat (ofBytes [k]++s).size=s:=by
 apply Yi
 rw [Dn,←bs_len,List.take_length,Ue]
 rfl
theorem LBb {text:ByteArray} {x:SRec} (hs:text.size≤140737488351232) (h:WZ x=(text,true)):Ox text=some (x,true):=by
 rcases XBC h with ⟨s,rfl,hz,rfl⟩ | ⟨n,rfl,h0,h1,rfl⟩ | ⟨t,s,rfl,ht,rfl⟩ | ⟨n,rfl,h0,h1,rfl⟩
 ·have hA:=UAF (k:=1) (s:=s) (by omega) (by omega)
  have e0:=EAN hs hA.left
  have e1:=BA2 hs hA.right (by simp_all)
  simp only [List.length_singleton,Nat.zero_add,hz] at e0 e1
  simp only [Ox,NAE,mk]
  rw [show Dx ⟨ofBytes [1]++s,(0:Int),false⟩=_ from e0]
  simp only [Option.bind_some]
  rw [show Fz ⟨ofBytes [1]++s,((1:Nat):Int),false⟩ 32=_ from e1]
  have h':WZ ⟨1,s,0,⟨(0:Int),(0:Int),false,false,false,false,(⟨#[]⟩:ByteArray),(0:Int)⟩⟩=_:=h
  simp only [Option.bind_some,NAF,h',toList_self]
  rfl
 ·have hA:=UAF (k:=2) (s:=ofBytes (SN n)) (by omega) (by omega)
  rw [YZ (Ey n h0)] at hA
  have e0:=EAN hs hA.left
  have e1:=ZAZ hs (by omega) (by omega) hA.right
  simp only [List.length_singleton,Nat.zero_add] at e0 e1
  simp only [Ox,NAE,mk]
  rw [show Dx ⟨ofBytes [2]++ofBytes (SN n),(0:Int),false⟩=_ from e0]
  have h':WZ ⟨2,⟨#[]⟩,n,⟨(0:Int),(0:Int),false,false,false,false,(⟨#[]⟩:ByteArray),(0:Int)⟩⟩=_:=h
  simp only [Option.bind_some,e1,NAF,h',toList_self]
  rfl
 ·have hA:=UAF (k:=3) (s:=s) (by omega) (by omega)
  have e0:=EAN hs hA.left
  have hsz:s.size≤140737488351232:=by grind
  have e1:=WBC hsz ht
  simp only [List.length_singleton,Nat.zero_add] at e0
  simp only [Ox,NAE,mk]
  rw [show Dx ⟨ofBytes [3]++s,(0:Int),false⟩=_ from e0]
  have h':WZ ⟨3,⟨#[]⟩,0,t⟩=_:=h
  have hd:decide ((1:Int)≤((ofBytes [3]++s).size:Int))=true:=decide_eq_true (by grind [ofBytes_size])
  simp only [Option.bind_some,EA2,e1,NAF,h',toList_self,hd]
  rfl
 ·have hA:=UAF (k:=4) (s:=ofBytes (SN n)) (by omega) (by omega)
  rw [YZ (Ey n (by omega))] at hA
  have e0:=EAN hs hA.left
  have e1:=ZAZ hs (by omega) (by omega) hA.right
  simp only [List.length_singleton,Nat.zero_add] at e0 e1
  simp only [Ox,NAE,mk]
  rw [show Dx ⟨ofBytes [4]++ofBytes (SN n),(0:Int),false⟩=_ from e0]
  have h':WZ ⟨4,⟨#[]⟩,n,⟨(0:Int),(0:Int),false,false,false,false,(⟨#[]⟩:ByteArray),(0:Int)⟩⟩=_:=h
  simp only [Option.bind_some,e1,NAF,h',toList_self]
  rfl
def FAk (text:ByteArray) (c:SFields):Prop:=∃ p:Nat,∃ b:Bool,c=⟨text,(p:Int),b⟩∧p≤text.size
theorem GAk {text:ByteArray} {c:SFields} (hs:text.size≤140737488351232) (h:FAk text c):∃ v c',HAL c=some (v,c')∧FAk text c':=by
 obtain ⟨p,b,rfl,hp⟩:=h
 obtain ⟨r,hr,hR⟩:=WA1 hs hp
 simp only [HAL,OAg,hr,Option.bind_some]
 rcases hR with rfl | ⟨v,q,rfl,h0,h1,_,h3⟩
 ·exact ⟨_,_,rfl,⟨p,true,rfl,hp⟩⟩
 ·exact ⟨_,_,rfl,⟨q,b,rfl,h3⟩⟩
theorem HAk {text:ByteArray} {a:Nat} {V:Int} (hs:text.size≤140737488351232) (hV0:0≤V) (hV:V≤1000000000) (hA:At text a (SN V)):HAL ⟨text,(a:Int),false⟩=some (V,⟨text,((a+(SN V).length:Nat):Int),false⟩):=by
 simp only [HAL,OAg,VAZ hs hV0 hV hA,Option.bind_some]
 rfl
theorem MBb {text:ByteArray} {a:Nat} (hs:text.size≤140737488351232) (ha:a≤text.size):∃ s q ok,I7 text a=some (s,q,ok)∧(ok=true→∃ p:Nat,q=(p:Int)∧p≤text.size):=by
 obtain ⟨r,hr,hR⟩:=WA1 hs ha
 simp only [I7,QAV,mk,hr,Option.bind_some]
 rcases hR with rfl | ⟨v,q,rfl,h0,h1,h2,h3⟩
 ·exact ⟨_,_,_,rfl,fun h=>by cases h⟩
 ·rw [w64_id (n:=(text.size:Int) - (q:Int)) (by omega) (by omega),w64_id (n:=(q:Int)+v) (by omega) (by omega)]
  simp only [Bool.not_true,cond_false]
  cases decide (v > 20000)
  ·by_cases hv:v > (text.size:Int) - (q:Int)
   ·rw [decide_eq_true hv];simp
   ·rw [decide_eq_false hv,show decide ((0:Int)≤(q:Int))=true from decide_eq_true (by omega),show decide ((q:Int)≤q+v)=true from decide_eq_true (by omega),show decide ((q:Int)+v≤(text.size:Int))=true from decide_eq_true (by omega)]
    exact ⟨_,_,_,rfl,fun _=>⟨((q:Int)+v).toNat,by omega,by omega⟩⟩
  simp
theorem NBb {text:ByteArray} {p:Nat} {s:ByteArray} (hs:text.size≤140737488351232) (hz:s.size≤20000) (hA:At text p (SN (s.size:Int)++bs s)):I7 text p=some (s,((p+(SN (s.size:Int)).length+s.size:Nat):Int),true):=by
 have hp:p+(SN (s.size:Int)).length≤text.size:=by
  rcases hA.left.size with h | h
  all_goals grind [Qv]
 have hA2:=hA.right
 have hx:=hA2.extract (fun n hn=>WA0 hn)
 rw [bs_len,EAZ] at hx
 simp only [I7,QAV,mk,VAZ hs (by omega) (by omega) hA.left,Option.bind_some]
 generalize p+(SN (s.size:Int)).length=q at *
 have hz:q+s.size≤text.size:=by
  rcases hA2.size with h | h
  all_goals grind [bs_len]
 grind [w64_id]
theorem OBb {text:ByteArray} {c:SFields} (hs:text.size≤140737488351232) (h:FAk text c):∃ v c',IAL c=some (v,c')∧FAk text c':=by
 obtain ⟨p,b,rfl,hp⟩:=h
 obtain ⟨s,q,ok,hr,hR⟩:=MBb hs hp
 simp only [IAL,PAg,mk,hr,Option.bind_some]
 cases ok
 ·exact ⟨_,_,rfl,⟨p,true,rfl,hp⟩⟩
 ·obtain ⟨q,rfl,h3⟩:=hR rfl
  exact ⟨_,_,rfl,⟨q,b,rfl,h3⟩⟩
theorem PBb {text:ByteArray} {p:Nat} {s:ByteArray} (hs:text.size≤140737488351232) (hz:s.size≤20000) (hA:At text p (SN (s.size:Int)++bs s)):IAL ⟨text,(p:Int),false⟩=some (s,⟨text,((p+(SN (s.size:Int)).length+s.size:Nat):Int),false⟩):=by
 simp only [IAL,PAg,mk,NBb hs hz hA,Option.bind_some]
 rfl
theorem AAa (x:SThing):J7 x=some (Za x):=by
 simp only [J7,BAw,mk,Yh,Option.bind_some,Za,bne]
 grind [Aa]
theorem DAC {n:Int} (h:n≤9223372036854775807):H7 n=some (ofBytes (SN n)):=by
 have key:∀ (n:Int) (m:Nat) (out:List Int),n≤9223372036854775807→(SN n).length≤m→out.length+(SN n).length≤1000→AAL m (.c0 n out)=some (ofBytes (out++SN n)):=by
  intro n
  induction n using SN.induct with
  | case1 n hn ih=>
   intro m out h1 h2 h3
   rw [SN,if_pos hn] at h2 h3 ⊢
   simp only [List.length_cons] at h2 h3
   obtain ⟨m,rfl⟩:∃ k,m=k+1:=⟨m - 1,by omega⟩
   grind [UBA,AAL,KAg]
  | case2 n hn=>
   intro m out h1 h2 h3
   rw [SN,if_neg hn] at h2 h3 ⊢
   simp at h2 h3
   obtain ⟨m,rfl⟩:∃ k,m=k+1:=⟨m - 1,by omega⟩
   grind [AAL,KAg]
 have hl:=Zi h
 exact key n gas [] h (Nat.le_of_lt (gas_lt (by omega))) (by grind)
theorem Il {n:Int} (h:0≤n) (h2:n≤255):Xi n=some (ofBytes [n]):=by
 simp_all [Xi,UAv,mk,w8_id]
theorem QBb {s:ByteArray} (h:s.size≤140737488351232):SAg s=some (Zx s):=by
 simp only [SAg,DAw,mk,DAC (n:=(s.size:Int)) (by omega),Option.bind_some]
 have:=Zi (n:=(s.size:Int)) (by omega)
 rw [show decide ((ofBytes (SN (s.size:Int))).size+s.size≤9223372036854775807)=true from decide_eq_true (by grind [ofBytes_size])]
 rfl
theorem IAk (x:SThing):JAL x=some (Gf x):=by
 simp only [JAL,EAw,mk,AAa,Option.bind_some,Gf]
 cases h:Za x
 ·rfl
 ·obtain ⟨k1,k2,k3,k4,k5,k6,k7⟩:=Uo h
  obtain ⟨z1,z2,z3⟩:=CA1 h
  have hf:=NAZ x
  have e1:∀ n:Int,(ofBytes [n]).size=1:=fun n=>ofBytes_size _
  simp only [EBY,Option.bind_some,DAC (n:=x.fId) (by omega),Il (n:=x.fKind) (by omega) (by omega),Il hf.1 (by omega),QBb (s:=x.fValue) (by omega),DAC (n:=x.fNext) (by omega),ba_append_size,e1]
  simp only [Bool.not_true,cond_false,cond_true]
  rw [show decide ((ofBytes (SN x.fId)).size+1≤9223372036854775807)=true from decide_eq_true (by omega),show decide ((ofBytes (SN x.fId)).size+1+1≤9223372036854775807)=true from decide_eq_true (by omega),
   show decide ((ofBytes (SN x.fId)).size+1+1+(Zx x.fValue).size≤9223372036854775807)=true from decide_eq_true (by omega),show decide ((ofBytes (SN x.fId)).size+1+1+(Zx x.fValue).size+(ofBytes (SN x.fNext)).size≤9223372036854775807)=true from decide_eq_true (by omega)]
  rfl
theorem RBb (x:SThing):((w64 (((BitVec.toNat ((BitVec.ofInt (IntKind.bits IntKind.i64) (Zj x)) &&& (BitVec.ofInt (IntKind.bits IntKind.i64) (1:Int)))):Nat):Int) != 0)=x.fHidden)∧((w64 (((BitVec.toNat ((BitVec.ofInt (IntKind.bits IntKind.i64) (Zj x)) &&& (BitVec.ofInt (IntKind.bits IntKind.i64) (2:Int)))):Nat):Int) != 0)=x.fFixed)∧((w64 (((BitVec.toNat ((BitVec.ofInt (IntKind.bits IntKind.i64) (Zj x)) &&& (BitVec.ofInt (IntKind.bits IntKind.i64) (4:Int)))):Nat):Int) != 0)=x.fSigns)∧((w64 (((BitVec.toNat ((BitVec.ofInt (IntKind.bits IntKind.i64) (Zj x)) &&& (BitVec.ofInt (IntKind.bits IntKind.i64) (8:Int)))):Nat):Int) != 0)=x.fWraps):=by
 unfold Zj
 cases x.fHidden <;> cases x.fFixed <;> cases x.fSigns <;> cases x.fWraps <;> refine ⟨?_,?_,?_,?_⟩ <;> kernel_rfl
theorem YBC {text:ByteArray} (hs:text.size≤140737488351232):∃ r,Tz text=some r∧EAk text r:=by
 obtain ⟨v0,c0,e0,h0⟩:=GAk hs (c:=⟨text,(0:Int),false⟩) ⟨0,false,rfl,by omega⟩
 obtain ⟨v1,c1,e1,h1⟩:=GAk hs h0
 obtain ⟨v2,c2,e2,h2⟩:=GAk hs h1
 obtain ⟨v3,c3,e3,h3⟩:=OBb hs h2
 obtain ⟨v4,c4,e4,h4⟩:=GAk hs h3
 simp only [Tz,TAg,mk,e0,e1,e2,e3,e4,IAk,Option.bind_some]
 generalize (w64 (((BitVec.toNat ((BitVec.ofInt (IntKind.bits IntKind.i64) v2) &&& (BitVec.ofInt (IntKind.bits IntKind.i64) (1:Int)))):Nat):Int) != 0)=b1
 generalize (w64 (((BitVec.toNat ((BitVec.ofInt (IntKind.bits IntKind.i64) v2) &&& (BitVec.ofInt (IntKind.bits IntKind.i64) (2:Int)))):Nat):Int) != 0)=b2
 generalize (w64 (((BitVec.toNat ((BitVec.ofInt (IntKind.bits IntKind.i64) v2) &&& (BitVec.ofInt (IntKind.bits IntKind.i64) (4:Int)))):Nat):Int) != 0)=b3
 generalize (w64 (((BitVec.toNat ((BitVec.ofInt (IntKind.bits IntKind.i64) v2) &&& (BitVec.ofInt (IntKind.bits IntKind.i64) (8:Int)))):Nat):Int) != 0)=b4
 cases c4.fBad
 ·cases h5:(Gf (⟨v0,v1,b1,b2,b3,b4,v3,v4⟩:SThing)).2
  ·exact ⟨_,rfl,.inr rfl⟩
  ·rw [toList_inj]
   by_cases h6:(Gf (⟨v0,v1,b1,b2,b3,b4,v3,v4⟩:SThing)).1=text
   ·rw [decide_eq_true h6];exact ⟨_,rfl,.inl ⟨rfl,Prod.ext h6 h5⟩⟩
   ·rw [decide_eq_false h6];exact ⟨_,rfl,.inr rfl⟩
 ·exact ⟨_,rfl,.inr rfl⟩
theorem ZBC {text:ByteArray} {x:SThing} (hs:text.size≤140737488351232) (h:Gf x=(text,true)):Tz text=some (x,true):=by
 obtain ⟨ho,rfl⟩:=DA2 h
 obtain ⟨k1,k2,k3,k4,k5,k6,k7⟩:=Uo ho
 have hf:=NAZ x
 have hA:At (TAB x) 0 _:=⟨[],by rw [List.drop_zero,UBC ho,List.append_nil]⟩
 rw [←TAF (n:=x.fKind) (by omega) (by omega),←TAF (n:=Zj x) (by omega) (by omega)] at hA
 have a1:=hA.right
 have a2:=a1.right
 have a3:=a2.right
 have a4:=a3.right
 have e0:=HAk hs (by omega) (by omega) hA.left
 have e1:=HAk hs (by omega) (by omega) a1.left
 have e2:=HAk hs (by omega) (by omega) a2.left
 have e3:=PBb hs (by omega) a3.left
 have e4:=HAk hs (by omega) (by omega) a4
 simp only [List.length_append,bs_len,Nat.zero_add,←Nat.add_assoc] at e0 e1 e2 e3 e4
 obtain ⟨b1,b2,b3,b4⟩:=RBb x
 simp_all [Tz,TAg,mk,IAk]
theorem SBb {text:ByteArray} (hs:text.size≤140737488351232):∃ r,L6 text=some r∧Tz text=some r∧EAk text r:=by
 obtain ⟨r,hr,h⟩:=VBC hs
 obtain ⟨q,hq,h'⟩:=YBC hs
 rcases h with ⟨h1,h2⟩ | h
 ·grind [ZBC]
 ·rcases h' with ⟨h1,h2⟩ | h'
  ·grind [WBC]
  ·exact ⟨r,hr,by simp_all,.inr h⟩
theorem EAC {r:SRec} (g:r.fNum≤9223372036854775807):TAV r=some (WZ r):=by
 simp only [TAV,GAw,mk,Yh,IAk,DAC g,Option.bind_some,WBA]
 simp only [DA1,WZ]
 cases k1:r.fKind == 1
 ·simp only [cond_false]
  cases k2:r.fKind == 2
  ·simp only [cond_false]
   cases k3:r.fKind == 3
   ·simp only [cond_false]
    cases k4:r.fKind == 4
    ·rfl
    ·have k:r.fKind=4:=by simp_all
     rw [k]
     simp only [beq_self_eq_true,Il (n:=4) (by omega) (by omega),Option.bind_some,Bool.true_and,cond_true]
     cases h:KZ r.fNum 1 1000
     ·cases Xg r.fText <;> cases Vg r.fThing <;> rfl
     ·cases Xg r.fText <;> cases Vg r.fThing <;> (try rfl)
      simp only [Bool.not_true,cond_false,cond_true,Bool.and_self,decide_eq_true (KAj (by omega) h 4)]
   ·have k:r.fKind=3:=by simp_all
    rw [k]
    simp only [beq_self_eq_true,Il (n:=3) (by omega) (by omega),Option.bind_some,Bool.true_and,cond_true,Bool.and_true]
    cases h:(Gf r.fThing).2
    ·rfl
    ·cases Xg r.fText <;> cases r.fNum == 0 <;> (try rfl)
     simp_all [XBA]
  ·have k:r.fKind=2:=by simp_all
   rw [k]
   simp only [beq_self_eq_true,Il (n:=2) (by omega) (by omega),Option.bind_some,Bool.true_and,cond_true]
   cases h:KZ r.fNum 0 3
   ·cases Xg r.fText <;> cases Vg r.fThing <;> rfl
   ·cases Xg r.fText <;> cases Vg r.fThing <;> (try rfl)
    simp only [Bool.not_true,cond_false,cond_true,Bool.and_self,decide_eq_true (KAj (by omega) h 2)]
 ·have k:r.fKind=1:=by simp_all
  rw [k]
  simp only [beq_self_eq_true,Il (n:=1) (by omega) (by omega),Option.bind_some,Bool.true_and,cond_true]
  cases h:(r.fText.size:Int) == 32 <;> cases r.fNum == 0 <;> cases Vg r.fThing <;> (try rfl)
  grind [ofBytes_size]
theorem FA2 {text:ByteArray} (x:SRec):∃ r,(bif !(WZ x).2 then some (Es,false) else bif !((ByteArray.toList (WZ x).1) == (ByteArray.toList text)) then some (Es,false) else some (x,true))=some r∧FAN text r:=GAN x false
theorem TBb {text:ByteArray} (hs:text.size≤140737488351232):∃ r,Rx text=some r∧FAN text r:=by
 simp only [Rx,RAE,mk]
 rw [toList_inj]
 by_cases he:text=⟨#[]⟩
 ·rw [decide_eq_true he];exact ⟨_,rfl,.inr rfl⟩
 ·have hz:0<text.size:=by
   rcases Nat.eq_zero_or_pos text.size with h | h
   ·exact absurd (Yi (List.eq_nil_of_length_eq_zero (by simp_all [bs_len])):text=⟨#[]⟩) he
   omega
  rw [decide_eq_false he,show decide ((0:Int)<(text.size:Int))=true from decide_eq_true (by omega),show decide ((1:Int)≤(text.size:Int))=true from decide_eq_true (by omega)]
  have hb:=Ux text 0
  rw [w64_id (n:=bt text 0) (by omega) (by omega)]
  obtain ⟨⟨t,tb⟩,e1,_⟩:=YBC (text:=text.extract (1:Int).toNat text.size) (by grind [ByteArray.size_extract])
  obtain ⟨⟨v,q,ok⟩,e2,hR⟩:=WA1 (a:=1) hs hz
  have hv:v≤1000000000:=by
   rcases hR with h | ⟨v',_,h,_,h1,_⟩
   all_goals simp_all [Y1]
  rw [e1,show Ro text (1:Int)=_ from e2]
  simp only [Option.bind_some,cond_false,cond_true,Bool.and_self]
  cases bt text 0 == 1
  ·simp only [cond_false]
   cases bt text 0 == 3
   ·simp only [cond_false]
    rw [EAC (by grind)]
    exact FA2 _
   ·simp only [cond_true]
    rw [EAC (by simp)]
    exact FA2 _
  ·simp only [cond_true]
   rw [EAC (by simp)]
   exact FA2 _
theorem ABD {text:ByteArray} {x:SRec} (hs:text.size≤140737488351232) (h:WZ x=(text,true)):Rx text=some (x,true):=by
 have hne:∀ (k:Int) (s:ByteArray),(decide (ofBytes [k]++s=⟨#[]⟩))=false:=fun k s=>decide_eq_false fun h=>by
  grind [ByteArray.size,ba_append_size,ofBytes_size]
 have hd:∀ (k:Int) (s:ByteArray),decide ((0:Int)<((ofBytes [k]++s).size:Int))=true∧decide ((1:Int)≤((ofBytes [k]++s).size:Int))=true:=fun k s=>by
  grind [ofBytes_size]
 have hk:∀ (k:Int) (s:ByteArray),0≤k→k≤255→w64 (bt (ofBytes [k]++s) 0)=k:=fun k s h0 h1=>by
  rw [(UAF (k:=k) (s:=s) h0 h1).left.head.2 |> fun e=>(show bt (ofBytes [k]++s) 0=k from e),w64_id (by omega) (by omega)]
 rcases XBC h with ⟨s,rfl,hz,rfl⟩ | ⟨n,rfl,h0,h1,rfl⟩ | ⟨t,s,rfl,ht,rfl⟩ | ⟨n,rfl,h0,h1,rfl⟩
 ·have h':WZ ⟨1,s,0,⟨(0:Int),(0:Int),false,false,false,false,(⟨#[]⟩:ByteArray),(0:Int)⟩⟩=_:=h
  simp only [Rx,RAE,mk,hk 1 s (by omega) (by omega),hd,EA2,EAC (r:=⟨1,s,0,⟨(0:Int),(0:Int),false,false,false,false,(⟨#[]⟩:ByteArray),(0:Int)⟩⟩) (by simp),h',Option.bind_some,toList_inj,hne]
  rfl
 ·have hA:=UAF (k:=2) (s:=ofBytes (SN n)) (by omega) (by omega)
  rw [YZ (Ey n h0)] at hA
  have e1:=VAZ hs (by omega) (by omega) hA.right
  simp only [List.length_singleton,Nat.zero_add] at e1
  have e2:Ro (ofBytes [2]++ofBytes (SN n)) (1:Int)=_:=e1
  have h':WZ ⟨2,⟨#[]⟩,n,⟨(0:Int),(0:Int),false,false,false,false,(⟨#[]⟩:ByteArray),(0:Int)⟩⟩=_:=h
  simp only [Rx,RAE,mk,hk 2 _ (by omega) (by omega),hd,e2,Option.bind_some,EAC (r:=⟨2,⟨#[]⟩,n,⟨(0:Int),(0:Int),false,false,false,false,(⟨#[]⟩:ByteArray),(0:Int)⟩⟩) (by grind),h',toList_inj,hne]
  rfl
 ·have hsz:s.size≤140737488351232:=by grind
  have e1:=ZBC hsz ht
  have h':WZ ⟨3,⟨#[]⟩,0,t⟩=_:=h
  simp only [Rx,RAE,mk,hk 3 s (by omega) (by omega),hd,EA2,e1,Option.bind_some,EAC (r:=⟨3,⟨#[]⟩,0,t⟩) (by simp),h',toList_inj,hne]
  rfl
 ·have hA:=UAF (k:=4) (s:=ofBytes (SN n)) (by omega) (by omega)
  rw [YZ (Ey n (by omega))] at hA
  have e1:=VAZ hs (by omega) (by omega) hA.right
  simp only [List.length_singleton,Nat.zero_add] at e1
  have e2:Ro (ofBytes [4]++ofBytes (SN n)) (1:Int)=_:=e1
  have h':WZ ⟨4,⟨#[]⟩,n,⟨(0:Int),(0:Int),false,false,false,false,(⟨#[]⟩:ByteArray),(0:Int)⟩⟩=_:=h
  simp only [Rx,RAE,mk,hk 4 _ (by omega) (by omega),hd,e2,Option.bind_some,EAC (r:=⟨4,⟨#[]⟩,n,⟨(0:Int),(0:Int),false,false,false,false,(⟨#[]⟩:ByteArray),(0:Int)⟩⟩) (by grind),h',toList_inj,hne]
  rfl
noncomputable def Oj (t:ByteArray):SRec×Bool:=@dite _ (∃ x,WZ x=(t,true)) (Classical.propDecidable _) (fun h=>(h.choose,true)) (fun _=>(Es,false))
theorem BBD {t:ByteArray} {o:Option (SRec×Bool)} (h1:∃ r,o=some r∧FAN t r) (h2:∀ x,WZ x=(t,true)→o=some (x,true)):o=some (Oj t):=by
 unfold Oj
 split
 ·grind
 ·rename_i h
  obtain ⟨r,hr,⟨_,k⟩ | k⟩:=h1
  all_goals simp_all
theorem UBb {t:ByteArray} (h:t.size≤140737488351232):Ox t=some (Oj t):=BBD (KBb h) (fun _ hx=>LBb h hx)
theorem CBD {t:ByteArray} (h:t.size≤140737488351232):Rx t=some (Oj t):=BBD (TBb h) (fun _ hx=>ABD h hx)
theorem VBb {t:ByteArray} (_:t.size≤140737488351232):FAN t (Oj t):=by
 unfold Oj
 split
 ·rename_i h
  exact .inl ⟨rfl,h.choose_spec⟩
 ·exact .inr rfl
noncomputable def Ik (k:ByteArray):Int→List ByteArray→List SRec×Int
 | _,[]=>([],0)
 | i,f::fs=>bif (Jb k i f).2 && (Oj (Jb k i f).1).2 then ((Oj (Jb k i f).1).1::(Ik k (i+1) fs).1,((frameT f).1.size:Int)+(Ik k (i+1) fs).2) else ([],0)
noncomputable def Jk (k file:ByteArray):List SRec×Int:=Ik k 1 (Zr file).1
theorem WBb {file:ByteArray} (hs:file.size≤140737488351232):∀ (j a:Nat),a≤file.size→(∀ f ∈ (Aj j file a).1,f.size≤file.size)∧(Aj j file a).1.length+a≤file.size∧(Aj j file a).2≤file.size:=by
 intro j
 induction j with
 | zero=>simp [Aj]
 | succ j ih=>
  intro a ha
  rw [Aj]
  rcases DAN hs ha with h | ⟨v,q,_,hq,_,_,_,h3,_,_,h⟩
  ·simp_all
  ·rw [h]
   obtain ⟨i1,i2,i3⟩:=ih (q+4+v.toNat) h3
   refine ⟨fun f hf=>?_,?_,i3⟩
   ·rcases List.mem_cons.1 hf with rfl | hf
    ·show (file.extract (q+4) (q+4+v.toNat)).size≤file.size
     rw [ByteArray.size_extract];omega
    simp_all
   grind
theorem JAk {file:ByteArray}:(∀ f ∈ (Zr file).1,f.size≤20000)∧(Zr file).1.length≤20000∧0≤(Zr file).2∧(Zr file).2≤(file.size:Int):=by
 rw [Zr]
 by_cases h:(file.size:Int) > 20000
 ·simp_all
 ·rw [decide_eq_false h]
  obtain ⟨h1,h2,h3⟩:=WBb (file:=file) (by omega) (file.size+1) 0 (Nat.zero_le _)
  grind
theorem XBb (k:ByteArray):∀ (fs:List ByteArray) (i:Int),(Ik k i fs).1.length≤fs.length:=by
 intro fs
 induction fs<;>grind [Ik]
theorem YBb (k:List Int) (num:Int) (s:List Int):(Qn k num s).length=s.length+16:=by simp [Qn,QAF,Dy,ZAM]
theorem ZBb {k s:ByteArray} {num:Int} (h:(Wh k num s).2=true):Jb k num (Wh k num s).1=(s,true)∧(Wh k num s).1.size=s.size+16:=by
 grind [Wh,EBb,Uh,EAZ,ofBytes_size,YBb]
def tx (k:ByteArray):Int→List SRec→List ByteArray
 | _,[]=>[]
 | i,r::rs=>(Wh k i (WZ r).1).1::tx k (i+1) rs
theorem FAC (k:ByteArray):∀ (l:List SRec) (i:Int),(tx k i l).length=l.length
 | [],_=>rfl
 | r::rs,i=>by rw [tx,List.length_cons,List.length_cons,FAC k rs]
theorem BAa (k:ByteArray):∀ (l:List SRec) (i:Int) (w:Nat),(tx k i l).take w=tx k i (l.take w)
 | [],_,w=>by simp [tx]
 | r::rs,i,0=>rfl
 | r::rs,i,w+1=>by rw [tx,List.take_succ_cons,List.take_succ_cons,tx,BAa k rs]
theorem GA2 (k:ByteArray):∀ (l q:List SRec) (i:Int),tx k i (l++q)=tx k i l++tx k (i+l.length) q
 | [],q,i=>by simp [tx]
 | r::rs,q,i=>by
  rw [List.cons_append,tx,tx,GA2 k rs,List.length_cons,List.cons_append]
  rw [show i+1+(rs.length:Int)=i+((rs.length+1:Nat):Int) by omega]
def Sound (l:List SRec):Prop:=∀ r ∈ l,(WZ r).2=true
theorem CAa (k:ByteArray):∀ (l:List SRec) (i:Int),0≤i→i+l.length≤1000000000→∀ t ∈ tx k i l,1≤t.size∧t.size≤320
 | [],_,_,_,t,ht=>by cases ht
 | r::rs,i,h0,h1,t,ht=>by
  rw [List.length_cons] at h1
  rw [tx] at ht
  rcases List.mem_cons.1 ht with rfl | ht
  ·have:=(OAj (k:=k) (s:=(WZ r).1) (num:=i) (by omega) (by have:=VAB r;omega)).2.2
   have:=VAB r
   omega
  ·exact CAa k rs (i+1) (by omega) (by omega) t ht
theorem ABc {r:SRec} (h:(WZ r).2=true):Oj (WZ r).1=(r,true):=by
 have:=VAB r
 have e1:=CBD (t:=(WZ r).1) (by omega)
 grind [ABD]
theorem DBD (k:ByteArray):∀ (l:List SRec) (i:Int),0≤i→i+l.length≤1000000000→Sound l→Ik k i (tx k i l)=(l,((Ua (tx k i l)).length:Int))
 | [],_,_,_,_=>rfl
 | r::rs,i,h0,h1,hs=>by
  rw [List.length_cons] at h1
  have hz:=VAB r
  obtain ⟨l1,l2,l3⟩:=OAj (k:=k) (s:=(WZ r).1) (num:=i) (by omega) (by omega)
  obtain ⟨f1,f2⟩:=VBB (t:=(Wh k i (WZ r).1).1) (by omega)
  rw [tx,Ik,(ZBb l1).1]
  dsimp only
  rw [ABc (hs r (List.mem_cons_self ..)),DBD k rs (i+1) (by omega) (by omega) (fun x hx=>hs x (List.mem_cons_of_mem _ hx)),f2,ofBytes_size,Ua,List.length_append]
  show (r::rs,_)=_
  refine congrArg (fun n=>(r::rs,n)) ?_
  show ((Ie _).length:Int)+((Ua _).length:Int)=_
  omega
theorem KAk (k:ByteArray) (ts:List ByteArray) (h:∀ t ∈ ts,1≤t.size∧t.size≤320):(Ua ts).length≤334*ts.length:=by
 induction ts with
 | nil=>exact Nat.le_refl 0
 | cons t ts ih=>
  have h1:=ih fun x hx=>h x (List.mem_cons_of_mem _ hx)
  grind [BAk,bs_len,Zi,Ua]
theorem EBD {k file:ByteArray} {l:List SRec} {K:Nat} (hl:l.length≤50) (hs:Sound l) (hK:K≤(Ua (tx k 1 l)).length) (hf:bs file=(Ua (tx k 1 l)).take K):Jk k file=(l.take (whole (tx k 1 l) K),((Ua (tx k 1 (l.take (whole (tx k 1 l) K)))).length:Int)):=by
 have hsz:=CAa k l 1 (by omega) (by omega)
 have hsm:=KAk k _ hsz
 rw [FAC] at hsm
 have hlen:file.size=K:=by grind [bs_len]
 obtain ⟨w1,w2,w3⟩:=ZA1 (tx k 1 l) K
 have hu:=CBb (file:=file) (by omega) (tx k 1 l) K (file.size+1) 0 (fun t ht=>by grind) (Nat.zero_le _) (by assumption) (by omega)
 rw [Jk,Zr,show decide ((file.size:Int) > 20000)=false from decide_eq_false (by omega),cond_false,hu]
 dsimp only
 rw [BAa]
 exact DBD k _ 1 (by omega) (by grind) (fun r hr=>hs r (List.mem_of_mem_take hr))
theorem IA2 {l:List SRec}:∀ {b:SBook},(Vb b l).2=true→Sound l:=by
 induction l with
 | nil=>intro b _ r hr;cases hr
 | cons x xs ih=>
  intro b h r hr
  rw [Vb] at h
  cases h2:(Xa b x).2
  ·simp_all
  ·rw [h2,cond_true] at h
   rcases List.mem_cons.1 hr with rfl | hr
   ·exact (A8 h2).2.1
   ·exact ih h r hr
theorem BBc {file:ByteArray} {a:Nat} (hs:file.size≤140737488351232) (ha:a≤file.size) {p:ByteArray×Nat} (h:Xo file a=some p):p.2=a+(frameT p.1).1.size∧p.2≤file.size:=by
 grind [DAN,ByteArray.size_extract,Aa,frameT,ofBytes_size,Ie,bs_len]
theorem CBc (k:ByteArray) {file:ByteArray} (hs:file.size≤140737488351232):∀ (j a:Nat) (i:Int),a≤file.size→0≤(Ik k i (Aj j file a).1).2∧(a:Int)+(Ik k i (Aj j file a).1).2≤(file.size:Int):=by
 intro j
 induction j with
 | zero=>intro a i ha;exact ⟨Int.le_refl 0,by show (a:Int)+0≤_;omega⟩
 | succ j ih=>
  intro a i ha
  rw [Aj]
  cases h:Xo file a<;>grind [BBc,Ik]
theorem FBD (k file:ByteArray):0≤(Jk k file).2∧(Jk k file).2≤(file.size:Int):=by
 rw [Jk,Zr]
 by_cases h:(file.size:Int) > 20000
 ·rw [decide_eq_true h];exact ⟨Int.le_refl 0,by show (0:Int)≤_;omega⟩
 ·rw [decide_eq_false h,cond_false]
  have h2:=CBc k (file:=file) (by omega) (file.size+1) 0 1 (Nat.zero_le _)
  simp_all
theorem JA2 {d:SDisk} {n:ByteArray} {B:Nat} (hf:∀ f ∈ d.fFiles,f.fText.size≤B):(Yg d n).1.size≤B:=by
 rw [Yg]
 cases h:Uf d.fFiles n 0 with
 | none=>exact Nat.zero_le _
 | some j=>
  have h1:=(SAZ h).2
  simp_all
def La:ByteArray:=⟨#[98,111,111,107]⟩
def nNew:ByteArray:=⟨#[98,111,111,107,43]⟩
noncomputable def Xe (k:ByteArray) (d:SDisk):SBook×List SAct×Bool:=
 bif !(Tf d) || !(Vb Qc (Jk k (Yg d La).1).1).2 then (YAM,[],false)
 else ((Vb Qc (Jk k (Yg d La).1).1).1,(bif decide (Ut d nNew≥0) then [⟨4,nNew,⟨#[]⟩,⟨#[]⟩⟩] else [])++(bif (Jk k (Yg d La).1).2 == ((Yg d La).1.size:Int) then [] else [⟨1,nNew,(Yg d La).1.extract 0 (Jk k (Yg d La).1).2.toNat,⟨#[]⟩⟩,⟨2,nNew,⟨#[]⟩,⟨#[]⟩⟩,⟨3,nNew,⟨#[]⟩,La⟩]),true)
theorem DBc (k:ByteArray):∀ (fs:List ByteArray) (i:Int),(∀ f ∈ fs,f.size≤20000)→∀ r ∈ (Ik k i fs).1,r.fNum≤9223372036854775807:=by
 intro fs
 induction fs with
 | nil=>intro i _ r hr;cases hr
 | cons f fs ih=>
  intro i hf r hr
  rw [Ik] at hr
  cases h:(Jb k i f).2 && (Oj (Jb k i f).1).2
  ·simp_all
  ·rw [h,cond_true] at hr
   rcases List.mem_cons.1 hr with rfl | hr
   ·have hz:=YAZ k f i
    have hfz:=hf f (List.mem_cons_self ..)
    rcases VBb (t:=(Jb k i f).1) (by omega) with ⟨_,h2⟩ | h2
    ·have h3:(WZ (Oj (Jb k i f).1).1).2=true:=by rw [h2]
     rcases PAZ h3 with ⟨hk,_⟩ | ⟨hk,hc⟩ | ⟨hk,_⟩ | ⟨hk,hc⟩
     ·rw [WZ,hk] at h3
      simp only [show ((1:Int) == 1)=true from rfl,cond_true] at h3
      cases hc:(((Oj (Jb k i f).1).1.fText.size:Int) == 32 && (Oj (Jb k i f).1).1.fNum == 0 && Vg (Oj (Jb k i f).1).1.fThing)
      ·rw [hc] at h3;cases h3
      simp_all
     ·omega
     ·rw [WZ,hk] at h3
      simp only [show ((3:Int) == 1)=false from rfl,show ((3:Int) == 2)=false from rfl,show ((3:Int) == 3)=true from rfl,cond_true,cond_false] at h3
      cases hc:((Gf (Oj (Jb k i f).1).1.fThing).2 && Xg (Oj (Jb k i f).1).1.fText && (Oj (Jb k i f).1).1.fNum == 0)
      ·rw [hc] at h3;cases h3
      simp_all
     ·omega
    simp_all
   grind
theorem EBc (k file:ByteArray):∀ r ∈ (Jk k file).1,r.fNum≤9223372036854775807:=DBc k _ _ (JAk (file:=file)).1
theorem GBD (k file:ByteArray):(Jk k file).1.length≤20000:=Nat.le_trans (XBb k _ _) (JAk (file:=file)).2.1
def dk (F:ByteArray) (n:Int):SDisk:=⟨[⟨La,F,n⟩]⟩
theorem HBD (G:ByteArray):(⟨#[]⟩:ByteArray)++G=G:=Yi (by rfl)
theorem HAN:(La.toList == nNew.toList)=false:=by
 rw [toList_inj]
 rfl
theorem KA2:Op.bytesLess La.toList nNew.toList=true:=by rw [ByteArray.toList_eq,ByteArray.toList_eq];rfl
theorem DAa {f:SFile} {fs:List SFile} {n:ByteArray} {i:Nat} (h:(f.fName.toList == n.toList)=true):Uf (f::fs) n i=some i:=by simp_all [Uf]
theorem LAk {f:SFile} {fs:List SFile} {n:ByteArray} {i:Nat} (h:(f.fName.toList == n.toList)=false):Uf (f::fs) n i=Uf fs n (i+1):=by simp_all [Uf]
theorem LA2 {N F:ByteArray} {n:Int} (hN:1≤N.size∧N.size≤8) (h:0≤n∧n≤(F.size:Int)) (hF:F.size≤20000):Bq ⟨N,F,n⟩=true:=CBC.2 ⟨⟨by grind,by grind⟩,by grind,h.1,h.2⟩
theorem Tv {F:ByteArray} {n:Int} (h:0≤n∧n≤(F.size:Int)) (hF:F.size≤20000):Tf (dk F n)=true:=by
 rw [dk,Tf,Dq,Dq,LA2 (by decide) h hF,PAj (s:=La) (by decide)];rfl
theorem MAk {F G:ByteArray} {n m:Int} (h:0≤n∧n≤(F.size:Int)) (hF:F.size≤20000) (h2:0≤m∧m≤(G.size:Int)) (hG:G.size≤20000):Tf ⟨[⟨La,F,n⟩,⟨nNew,G,m⟩]⟩=true:=by
 rw [Tf,Dq,Dq,Dq,LA2 (by decide) h hF,LA2 (by decide) h2 hG,PAj (s:=La) (by decide),KA2];rfl
theorem MA2 (F F':ByteArray) (n n':Int):Lj [⟨La,F,n⟩] ⟨La,F',n'⟩=[⟨La,F',n'⟩]:=by
 simp [Lj,O1,Vt,ZBB]
theorem FBc (F G:ByteArray) (n m:Int):Lj [⟨La,F,n⟩] ⟨nNew,G,m⟩=[⟨La,F,n⟩,⟨nNew,G,m⟩]:=by
 simp [Lj,O1,Vt,KA2]
theorem GBc (F G G':ByteArray) (n m m':Int):Lj [⟨La,F,n⟩,⟨nNew,G,m⟩] ⟨nNew,G',m'⟩=[⟨La,F,n⟩,⟨nNew,G',m'⟩]:=by
 simp [Lj,O1,Vt,KA2,ZBB]
theorem IBc (F G:ByteArray) (n m:Int):Vo [⟨La,F,n⟩,⟨nNew,G,m⟩] nNew=[⟨La,F,n⟩]:=by
 simp [Vo,HAN]
theorem IAN {l:List SFile} (h:Tf ⟨l⟩=true):doneD l=(⟨l⟩,true):=by simp_all [doneD]
theorem JBc {T:ByteArray} (hT:T.size≤20000):Nj ⟨[]⟩ ⟨1,La,T,⟨#[]⟩⟩=(dk T 0,true):=by
 simp only [Nj,show Tf ⟨[]⟩=true from rfl,toList_self,Bool.or_true,beq_self_eq_true,Bool.true_or,Bool.and_self,cond_true,Uf,HBD]
 rw [show Lj [] (⟨La,T,0⟩:SFile)=[⟨La,T,0⟩] from rfl,IAN (Tv (by omega) hT)];rfl
theorem IBD {F T:ByteArray} {n:Int} (h:0≤n∧n≤(F.size:Int)) (hF:(F++T).size≤20000):Nj (dk F n) ⟨1,La,T,⟨#[]⟩⟩=(dk (F++T) n,true):=by
 have hz:(F++T).size=F.size+T.size:=ByteArray.size_append
 have hp:Uf (dk F n).fFiles La 0=some 0:=DAa (toList_self _)
 simp only [Nj,Tv h (show F.size≤20000 by omega),toList_self,Bool.or_true,beq_self_eq_true,Bool.true_or,Bool.and_self,cond_true,hp]
 show doneD (Lj [⟨La,F,n⟩] ⟨La,F++T,n⟩)=_
 rw [MA2,IAN (Tv (by omega) hF)];rfl
theorem JBD {F:ByteArray} {n:Int} (h:0≤n∧n≤(F.size:Int)) (hF:F.size≤20000):Nj (dk F n) ⟨2,La,⟨#[]⟩,⟨#[]⟩⟩=(dk F F.size,true):=by
 have hp:Uf (dk F n).fFiles La 0=some 0:=DAa (toList_self _)
 simp only [Nj,Tv h hF,toList_self,Bool.or_true,beq_self_eq_true,Bool.true_or,Bool.and_self,cond_true,hp]
 show doneD (Lj [⟨La,F,n⟩] ⟨La,F,(F.size:Int)⟩)=_
 rw [MA2,IAN (Tv (by omega) hF)];rfl
def J8 (T:ByteArray):List SAct:=[⟨1,La,T,⟨#[]⟩⟩,⟨2,La,⟨#[]⟩,⟨#[]⟩⟩]
theorem KBD {T:ByteArray} (hT:T.size≤20000):Oi ⟨[]⟩ (J8 T) 0=(dk T T.size,2):=by
 simp_all [J8,Oi,JBc,JBD]
theorem KBc {F T:ByteArray} {n:Int} (h:0≤n∧n≤(F.size:Int)) (hF:(F++T).size≤20000):Oi (dk F n) (J8 T) 0=(dk (F++T) (F++T).size,2):=by
 grind [J8,Oi,IBD,JBD]
def NA2 (G:ByteArray):List SAct:=[⟨1,nNew,G,⟨#[]⟩⟩,⟨2,nNew,⟨#[]⟩,⟨#[]⟩⟩,⟨3,nNew,⟨#[]⟩,La⟩]
theorem LBc {F G:ByteArray} {n:Int} (h:0≤n∧n≤(F.size:Int)) (hF:F.size≤20000) (hG:G.size≤20000):Nj (dk F n) ⟨1,nNew,G,⟨#[]⟩⟩=(⟨[⟨La,F,n⟩,⟨nNew,G,0⟩]⟩,true):=by
 grind [Uf,dk,LAk,HAN,Nj,Tv,HBD,FBc,IAN,MAk]
theorem MBc {F G:ByteArray} {n:Int} (h:0≤n∧n≤(F.size:Int)) (hF:F.size≤20000) (hG:G.size≤20000):Nj ⟨[⟨La,F,n⟩,⟨nNew,G,0⟩]⟩ ⟨2,nNew,⟨#[]⟩,⟨#[]⟩⟩=(⟨[⟨La,F,n⟩,⟨nNew,G,(G.size:Int)⟩]⟩,true):=by
 have hp:Uf [(⟨La,F,n⟩:SFile),⟨nNew,G,0⟩] nNew 0=some 1:=by simp [LAk,HAN,DAa]
 simp only [Nj,MAk h hF (m:=0) (G:=G) (by omega) hG,toList_self,Bool.or_true,beq_self_eq_true,Bool.true_or,Bool.and_self,cond_true,hp]
 show doneD (Lj [⟨La,F,n⟩,⟨nNew,G,0⟩] ⟨nNew,G,(G.size:Int)⟩)=_
 simp_all [GBc,IAN,MAk]
theorem NBc {F G:ByteArray} {n:Int} (h:0≤n∧n≤(F.size:Int)) (hF:F.size≤20000) (hG:G.size≤20000):Nj ⟨[⟨La,F,n⟩,⟨nNew,G,(G.size:Int)⟩]⟩ ⟨3,nNew,⟨#[]⟩,La⟩=(dk G G.size,true):=by
 have hp:Uf [(⟨La,F,n⟩:SFile),⟨nNew,G,(G.size:Int)⟩] nNew 0=some 1:=by simp [LAk,HAN,DAa]
 simp only [Nj,MAk h hF (m:=(G.size:Int)) (G:=G) (by omega) hG,toList_self,Bool.or_true,beq_self_eq_true,Bool.true_or,Bool.and_self,cond_true,hp]
 show (bif decide ((G.size:Int)<(G.size:Int)) || (La.toList == nNew.toList) then _ else doneD (Lj (Vo [⟨La,F,n⟩,⟨nNew,G,(G.size:Int)⟩] nNew) ⟨La,G,(G.size:Int)⟩))=_
 rw [decide_eq_false (by omega),HAN,Bool.or_self,cond_false,IBc,MA2,IAN (Tv (by omega) hG)];rfl
theorem OBc {F G:ByteArray} {n:Int} (h:0≤n∧n≤(F.size:Int)) (hF:F.size≤20000) (hG:G.size≤20000):Oi (dk F n) (NA2 G) 0=(dk G G.size,3):=by
 simp_all [NA2,Oi,LBc,MBc,NBc]
theorem LBD (F:ByteArray) (n:Int):Yg (dk F n) La=(F,true):=by
 simp [Yg,dk,DAa]
theorem PBc (F:ByteArray) (n:Int):Ut (dk F n) nNew = -1:=by
 grind [Ut,Uf,dk,LAk,HAN]
theorem MBD {k F:ByteArray} {l:List SRec} {n:Int} {K:Nat} (hl:l.length≤50) (hs:Sound l) (he:(Vb Qc l).2=true) (hK:K≤(Ua (tx k 1 l)).length) (hf:bs F=(Ua (tx k 1 l)).take K) (hn:0≤n∧n≤(F.size:Int)) (hF:F.size≤20000) :
  Xe k (dk F n)=((Vb Qc (l.take (whole (tx k 1 l) K))).1,bif ((Ua (tx k 1 (l.take (whole (tx k 1 l) K)))).length:Int) == (F.size:Int) then [] else NA2 (F.extract 0 (Ua (tx k 1 (l.take (whole (tx k 1 l) K)))).length),true):=by
 rw [Xe,Tv hn hF,LBD,EBD hl hs hK hf]
 dsimp only
 rw [LBC _ he,PBc]
 rfl
theorem QBc (ts:List ByteArray):∀ (j K:Nat),j≤ts.length→(Ua (ts.take j)).length≤K→j≤whole ts K:=by
 induction ts with
 | nil=>simp_all
 | cons t ts ih=>
  intro j K hj h
  cases j with
  | zero=>omega
  | succ j=>
   rw [List.take_succ_cons,Ua,List.length_append] at h
   rw [List.length_cons] at hj
   rw [whole,if_pos (by omega)]
   have:=ih j (K - (Ie (bs t)).length) (by omega) (by omega)
   omega
def Small (d:SDisk):Prop:=d.fFiles.length≤1∧∀ f ∈ d.fFiles,f.fText.size≤20000
theorem NBD {F:ByteArray} {n:Int} (h:F.size≤20000):Small (dk F n):=⟨Nat.le_refl _,fun f hf=>by
 have hf:f ∈ [(⟨La,F,n⟩:SFile)]:=hf
 simp_all⟩
theorem NAk {k:ByteArray} {l:List SRec} {i:Nat} (h:i<l.length):Ua (tx k 1 (l.take (i+1)))=Ua (tx k 1 (l.take i))++Ie (bs (Wh k ((i:Int)+1) (WZ l[i]).1).1):=by
 rw [take_at h,GA2,SBC,List.length_take,Nat.min_eq_left (by omega),show (1:Int)+(i:Int)=(i:Int)+1 by omega,tx,tx,Ua,Ua,List.append_nil]
theorem OA2 {k:ByteArray} {l:List SRec} (hl:l.length≤50) (i:Nat):(Ua (tx k 1 (l.take i))).length≤16700:=by
 have hz:(l.take i).length≤50:=by grind
 have h:=KAk k _ (CAa k (l.take i) 1 (by omega) (by omega))
 grind [FAC]
def OnD (k:ByteArray) (l:List SRec) (i:Nat) (d:SDisk):Prop:=(i=0∧d=⟨[]⟩)∨∃ F:ByteArray,d=dk F F.size∧bs F=Ua (tx k 1 (l.take i))
theorem PA2 {k:ByteArray} {r:SRec} {i:Nat} (hr:(WZ r).2=true) (hi:i≤10000):∃ T,Aq k (i:Int) r=(J8 T,true)∧bs T=Ie (bs (Wh k ((i:Int)+1) (WZ r).1).1):=by
 have hz:=VAB r
 obtain ⟨l1,l2,l3⟩:=OAj (k:=k) (s:=(WZ r).1) (num:=(i:Int)+1) (by omega) (by omega)
 obtain ⟨f1,f2⟩:=VBB (t:=(Wh k ((i:Int)+1) (WZ r).1).1) (by omega)
 refine ⟨(frameT (Wh k ((i:Int)+1) (WZ r).1).1).1,?_,by rw [f2,YZ (RAZ (Uh _))]⟩
 rw [Aq,hr,Aa.2 (show 0≤(i:Int)∧(i:Int)≤10000 by omega)]
 rfl
theorem SBc {k T:ByteArray} {l:List SRec} {i:Nat} (hl:l.length≤50) (hi:i<l.length) (hT:bs T=Ie (bs (Wh k ((i:Int)+1) (WZ l[i]).1).1)):(Ua (tx k 1 (l.take i))).length+T.size≤16700:=by
 have h:=congrArg List.length (NAk (k:=k) hi)
 grind [OA2,bs_len]
theorem TBc {k T:ByteArray} {l:List SRec} {i:Nat} {d:SDisk} (hl:l.length≤50) (hi:i<l.length) (h:OnD k l i d) (hT:bs T=Ie (bs (Wh k ((i:Int)+1) (WZ l[i]).1).1)):∃ E:ByteArray,Oi d (J8 T) 0=(dk E E.size,2)∧bs E=Ua (tx k 1 (l.take (i+1))):=by
 have hs:=SBc hl hi hT
 rcases h with ⟨rfl,rfl⟩ | ⟨F,rfl,hF⟩
 ·exact ⟨T,KBD (by omega),by rw [NAk hi,←hT];rfl⟩
 ·have hz:(F++T).size=F.size+T.size:=ByteArray.size_append
  have hF2:F.size=(Ua (tx k 1 (l.take i))).length:=by grind [bs_len]
  exact ⟨F++T,KBc (by omega) (by omega),by simp_all [Ue,NAk]⟩
theorem UBc {k F:ByteArray} {l:List SRec} {n:Int} (hl:l.length≤50) (hs:Sound l) (he:(Vb Qc l).2=true) (hf:bs F=Ua (tx k 1 l)) (hn:0≤n∧n≤(F.size:Int)):Xe k (dk F n)=((Vb Qc l).1,[],true):=by
 have hsm:=OA2 (k:=k) hl l.length
 rw [List.take_length] at hsm
 have hF:F.size=(Ua (tx k 1 l)).length:=by grind [bs_len]
 have h:=MBD (k:=k) (F:=F) (l:=l) (n:=n) (K:=(Ua (tx k 1 l)).length) hl hs he (Nat.le_refl _) (by simp_all) hn (by omega)
 simp_all [TBC,FAC]
def U2 (b:SBox) (i:Nat):Bool:=match Ic b.fBook.fThings (b.fLives.getD i ⟨0,0⟩).fId with
 | some x=>x.fKind == 2 && (KZ (b.fLives.getD i ⟨0,0⟩).fNext 0 x.fNext && (i == 0 || !decide ((b.fLives.getD (i - 1) ⟨0,0⟩).fId≥(b.fLives.getD i ⟨0,0⟩).fId)))
 | none=>false
def Yt (b:SBox):Nat→Nat→Bool
 | 0,_=>true
 | j+1,i=>U2 b i && Yt b j (i+1)
def L8 (b:SBox):Bool:=Yt b b.fLives.length 0
theorem VBc {b:SBook} {l:List SRec} (h:b.fThings.length≤2932031007317):(Vb b l).1.fThings.length≤2932031007317:=by
 induction l generalizing b with
 | nil=>exact h
 | cons r rs ih=>
  rw [Vb]
  cases h3:(Xa b r).2
  ·exact Nat.zero_le _
  grind [TA1]
theorem QA2 (k:ByteArray) (d:SDisk):(Xe k d).1.fThings.length≤2932031007317∧(Xe k d).2.1.length≤4:=by
 rw [Xe]
 cases (!(Tf d) || !(Vb Qc (Jk k (Yg d La).1).1).2)
 ·refine ⟨VBc (Nat.zero_le _),?_⟩
  grind
 ·exact ⟨Nat.zero_le _,Nat.zero_le _⟩
def eqT (x y:SThing):Bool:=(x.fId == y.fId) && ((x.fKind == y.fKind) && ((x.fHidden == y.fHidden) && ((x.fFixed == y.fFixed) && ((x.fSigns == y.fSigns) && ((x.fWraps == y.fWraps) && (((ByteArray.toList x.fValue) == (ByteArray.toList y.fValue)) && ((x.fNext == y.fNext) && true)))))))
theorem OBD (x y:SThing):((x.fId == y.fId) && ((x.fKind == y.fKind) && ((x.fHidden == y.fHidden) && ((x.fFixed == y.fFixed) && ((x.fSigns == y.fSigns) && ((x.fWraps == y.fWraps) && (((ByteArray.toList x.fValue) == (ByteArray.toList y.fValue)) && ((x.fNext == y.fNext) && true))))))))=eqT x y:=rfl
theorem WBc {x y:SThing}:eqT x y=true↔x=y:=by
 simp only [eqT,Bool.and_eq_true,beq_iff_eq]
 constructor
 ·rintro ⟨h1,h2,h3,h4,h5,h6,h7,h8,_⟩
  have h7':x.fValue=y.fValue:=by
   grind [toList_inj]
  cases x;simp_all
 grind
def Zt:List SThing→List SThing→Bool
 | [],[]=>true
 | x::a,y::b=>eqT x y && Zt a b
 | _,_=>false
theorem RA2:∀ {a b:List SThing},Zt a b=true↔a=b
 | [],[]=>by simp [Zt]
 | x::a,y::b=>by simp [Zt,WBc,RA2]
 | [],_::_=>by simp [Zt]
 | _::_,[]=>by simp [Zt]
theorem PBD {a b:List SThing} (h:a.length≠b.length):Zt a b=false:=by
 grind [RA2]
def Gy (a b:SBook):Bool:=(a.fWord.toList == b.fWord.toList) && ((a.fTries == b.fTries) && (Zt a.fThings b.fThings && ((a.fLast == b.fLast) && ((a.fChain.toList == b.fChain.toList) && (a.fCount == b.fCount)))))
theorem QBD {a b:SBook}:Gy a b=true↔a=b:=by
 simp only [Gy,Bool.and_eq_true,toList_inj,decide_eq_true_eq,beq_iff_eq,RA2]
 constructor
 ·rintro ⟨h1,h2,h3,h4,h5,h6⟩
  cases a;simp_all
 grind
def VAF (b:SBox) (i:Nat):Bool:=KZ (b.fSessions.getD i ⟨0,false⟩).fId 1 b.fOpened && (i == 0 || !decide ((b.fSessions.getD (i - 1) ⟨0,false⟩).fId≥(b.fSessions.getD i ⟨0,false⟩).fId))
def Fq (b:SBox):Nat→Nat→Bool
 | 0,_=>true
 | j+1,i=>VAF b i && Fq b j (i+1)
noncomputable def GAC (b:SBox):Bool:=bif b.fUp then (Xe b.fKey b.fDisk).2.2 && (((Xe b.fKey b.fDisk).2.1.length:Int) == 0 && (Jg b.fBook && (Gy (Xe b.fKey b.fDisk).1 b.fBook && L8 b)))
 else (b.fSessions.length:Int) == 0 && ((b.fLives.length:Int) == 0 && Gy b.fBook Qc)
noncomputable def Au (b:SBox):Bool:=(b.fKey.size:Int) == 32 && (Tf b.fDisk && (decide ((b.fSessions.length:Int)≤3) && (KZ b.fOpened 0 1000 && (Fq b b.fSessions.length 0 && GAC b))))
def SA2 (b:SBox):SBox:=⟨b.fKey,false,b.fDisk,Qc,[],[],0⟩
theorem XBc {k w:ByteArray} (hk:k.size=32) (hw:w.size≤20):∃ T:ByteArray,Yr k w=(⟨k,true,dk T T.size,(Xa Qc (Xh w)).1,[],[],0⟩,true)∧T.size≤20000∧bs T=Ua (tx k 1 [Xh w]):=by
 have hr:(WZ (Xh w)).2=true:=by rw [VAj]
 obtain ⟨T,t1,t2⟩:=PA2 (k:=k) (r:=Xh w) (i:=0) hr (Nat.zero_le _)
 have hT:bs T=Ua (tx k 1 [Xh w]):=by
  simp_all [tx,Ua]
 have hsm:=KAk k _ (CAa k [Xh w] 1 (by omega) (by simp))
 grind [FAC,bs_len,Yr,KBD]
theorem RBD {b:SBox} (hk:b.fKey.size=32) (hd:Tf b.fDisk=true):Au (SA2 b)=true:=by
 rw [Au,GAC,SA2]
 simp only [hd,QBD.2 rfl,hk,cond_false]
 rfl
structure Good (k:ByteArray) (l:List SRec) (b:SBox):Prop where
 ksz:k.size=32
 key:b.fKey=k
 up:b.fUp=true
 disk:∃ F:ByteArray,b.fDisk=dk F F.size∧bs F=Ua (tx k 1 l)
 len:1≤l.length∧l.length≤50
 book:Vb Qc l=(b.fBook,true)
 ses:b.fSessions.length≤3∧Fq b b.fSessions.length 0=true
 opn:0≤b.fOpened∧b.fOpened≤1000
 liv:L8 b=true∧b.fLives.length≤8
theorem Good.Jl {k:ByteArray} {l:List SRec} {b:SBox} (g:Good k l b):Jg b.fBook=true:=by
 have:=LBa (rs:=l) SA1 (by rw [g.book])
 rw [g.book] at this;omega
theorem Good.cnt {k:ByteArray} {l:List SRec} {b:SBox} (g:Good k l b):b.fBook.fCount=(l.length:Int):=by
 have:=MBa (l:=l) (b:=Qc) (by rw [g.book])
 rw [g.book,show Qc.fCount=0 from rfl,Int.zero_add] at this;omega
theorem Good.sound {k:ByteArray} {l:List SRec} {b:SBox} (g:Good k l b):Sound l:=IA2 (b:=Qc) (by rw [g.book])
theorem Good.fsz {k F:ByteArray} {l:List SRec} (hl:l.length≤50) (hF:bs F=Ua (tx k 1 l)):F.size≤16700:=by
 grind [OA2,List.take_length,bs_len]
theorem Good.small {k:ByteArray} {l:List SRec} {b:SBox} (g:Good k l b):Small b.fDisk:=by
 obtain ⟨F,h1,h2⟩:=g.disk
 rw [h1];exact NBD (by have:=Good.fsz g.len.2 h2;omega)
theorem Good.tng {k:ByteArray} {l:List SRec} {b:SBox} (g:Good k l b):b.fBook.fThings.length≤8:=(Vh.1 g.Jl).2.2.2.1
theorem Good.ok {k:ByteArray} {l:List SRec} {b:SBox} (g:Good k l b):Au b=true:=by
 obtain ⟨F,h1,h2⟩:=g.disk
 have hz:=Good.fsz g.len.2 h2
 have hm:=UBc (k:=k) (F:=F) (l:=l) (n:=F.size) g.len.2 g.sound (by rw [g.book]) h2 (by omega)
 rw [g.book] at hm
 have hd:=Tv (F:=F) (n:=(F.size:Int)) (by omega) (by omega)
 have h3:=g.ses.1
 rw [Au,GAC,g.up,g.key,h1,hd,hm,g.ksz,g.Jl,g.ses.2,g.liv.1,show Gy b.fBook b.fBook=true from QBD.2 rfl,decide_eq_true (by omega:(b.fSessions.length:Int)≤3),Aa.2 g.opn];rfl
theorem SBD {b c:SBox} (h1:c.fSessions=b.fSessions) (h2:c.fOpened=b.fOpened):∀ j i,Fq c j i=Fq b j i:=by
 intro j
 induction j<;>simp_all [Fq,VAF]
theorem YBc {b c:SBox} (h1:c.fLives=b.fLives) (h2:c.fBook.fThings=b.fBook.fThings):∀ j i,Yt c j i=Yt b j i:=by
 intro j
 induction j<;>simp_all [Yt,U2]
theorem UA2 {k w:ByteArray} (hk:k.size=32) (hw:w.size≤20):(Yr k w).2=true∧Good k [Xh w] (Yr k w).1∧(Yr k w).1.fSessions=[]∧(Yr k w).1.fLives=[]∧(Yr k w).1.fOpened=0∧(Yr k w).1.fBook=(Xa Qc (Xh w)).1:=by
 obtain ⟨T,h1,h2,h3⟩:=XBc hk hw
 rw [h1]
 refine ⟨rfl,⟨hk,rfl,rfl,⟨T,rfl,h3⟩,⟨Nat.le_refl _,by simp⟩,?_,⟨Nat.zero_le _,rfl⟩,⟨Int.le_refl _,by simp⟩,⟨rfl,Nat.zero_le _⟩⟩,rfl,rfl,rfl,rfl⟩
 simp [Vb,HBa]
def Du:List SLive→Int→Nat→Option Nat
 | [],_,_=>none
 | l::ls,t,i=>if l.fId == t then some i else Du ls t (i+1)
theorem VA2 {t:Int}:∀ {ls:List SLive} {i j:Nat},Du ls t i=some j→i≤j∧j<i+ls.length:=by
 intro ls
 induction ls<;>grind [Du]
def atV (b:SBox) (t:Int):Int:=match Du b.fLives t 0 with | some j=>(j:Int) | none=> -1
def Cm (b:SBox) (x:SThing):Int:=match Du b.fLives x.fId 0 with | some j=>(b.fLives.getD j ⟨0,0⟩).fNext | none=>x.fNext
def Wv (b:SBox) (t:Int):Int:=match Ic b.fBook.fThings t with
 | some x=>bif x.fKind == 2 then Cm b x else -1
 | none=> -1
def QAk (b:SBook):Bool:=(b.fWord.size:Int) == 32 && ((b.fChain.size:Int) == 32 && (KZ b.fTries 0 3 && (decide ((b.fThings.length:Int)≤8) && (KZ b.fLast 0 1000 && KZ b.fCount 0 10000))))
theorem ZBc {b:SBook} (hb:b.fThings.length≤140737488351232):∀ m i,i≤b.fThings.length→b.fThings.length - i<m→SAE m (.c0 b.fThings b.fThings.length i b)=some (rise b.fLast (Sr b.fThings i) (b.fThings.drop i) && QAk b):=fun m i h1 h2=>
 loopN (A:=Unit) (n:=b.fThings.length) (Lp:=SAE) (st:=fun i _=>.c0 b.fThings b.fThings.length i b) (Inv:=fun _ _=>True) (out:=fun i _=>some (rise b.fLast (Sr b.fThings i) (b.fThings.drop i) && QAk b))
  (fun m _ _=>by
   simp only [SAE,WAg,mk,Yh,Option.bind_some,QAk]
   rw [show decide ((b.fThings.length:Int)<(b.fThings.length:Int))=false from decide_eq_false (by omega),List.drop_of_length_le (Nat.le_refl _)]
   cases (b.fWord.size:Int) == 32 <;> cases (b.fChain.size:Int) == 32 <;> cases KZ b.fTries 0 3 <;> cases decide ((b.fThings.length:Int)≤8) <;> cases KZ b.fLast 0 1000 <;> rfl)
  (fun m i _ hi _=>by
   have hw:w64 ((i:Int)+1)=((i+1:Nat):Int):=by grind [w64_id]
   simp only [YBA hi]
   simp only [SAE,WAg,mk,Int.toNat_natCast,getD_at hi,AAa,Option.bind_some,hw]
   rw [show decide ((i:Int)<(b.fThings.length:Int))=true from decide_eq_true (by omega),show decide ((0:Int)≤(i:Int))=true from decide_eq_true (by omega)]
   simp only [Bool.and_self,cond_true]
   cases h1:Za b.fThings[i]
   ·simp
   ·cases h2:decide (b.fThings[i].fId > b.fLast)
    ·by_cases h0:i=0
     ·subst h0
      refine .inr ⟨(),rfl,trivial,?_⟩
      rw [show decide (Sr b.fThings 0≥b.fThings[0].fId)=false from decide_eq_false (by have:=(Uo h1).2.2.1;grind [Sr])]
      rfl
     ·obtain ⟨j,rfl⟩:∃ j,i=j+1:=⟨i - 1,by omega⟩
      have hj:w64 (((j+1:Nat):Int) - 1)=(j:Int):=by grind [w64_id]
      have hjl:j<b.fThings.length:=by omega
      rw [EA1 hjl]
      simp only [hj,Int.toNat_natCast,getD_at hjl,Bool.not_true,Bool.not_false,cond_false,Bool.true_and]
      rw [show decide (((j+1:Nat):Int) > 0)=true from decide_eq_true (by omega),show decide ((0:Int)≤(j:Int))=true from decide_eq_true (by omega),show decide ((j:Int)<(b.fThings.length:Int))=true from decide_eq_true (by omega)]
      simp only [Bool.and_self,cond_true]
      cases h3:decide (b.fThings[j].fId≥b.fThings[j+1].fId)
      all_goals simp
    simp) m i () h1 h2 trivial
theorem VBD {b:SBook} (hb:b.fThings.length≤140737488351232):MAL b=some (Jg b):=by
 have h0:=ZBc hb gas 0 (Nat.zero_le _) (gas_lt (by omega))
 simp only [MAL,KAw,mk]
 grind [Jg,QAk,Sr]
theorem WBD {b:SBook} (h:b.fThings.length≤2932031007317):LAL b=some b:=by
 rw [LAL,JAw,mk,TB (by grind)]
theorem WA2 {b:SBook} {t:Int} (h:b.fThings.length≤140737488351232):YAV b t=some (match Gn b.fThings t 0 with | some j=>(j:Int) | none=> -1):=by
 have key:∀ m i,i≤b.fThings.length→b.fThings.length - i<m→TAE m (.c0 t b.fThings b.fThings.length i)=some (match Gn (b.fThings.drop i) t i with | some j=>(j:Int) | none=> -1):=fun m i h1 h2=>
  loopN (A:=Unit) (n:=b.fThings.length) (Lp:=TAE) (st:=fun i _=>.c0 t b.fThings b.fThings.length i) (Inv:=fun _ _=>True) (out:=fun i _=>some (match Gn (b.fThings.drop i) t i with | some j=>(j:Int) | none=> -1))
   (fun m _ _=>by simp [TAE,XAg,mk,Gn])
   (fun m i _ hi _=>by
    have hw:w64 ((i:Int)+1)=((i+1:Nat):Int):=by grind [w64_id]
    simp only [TAE,XAg,mk,Int.toNat_natCast,getD_at hi,hw,drop_at hi,Gn]
    cases hq:b.fThings[i].fId == t
    all_goals simp_all) m i () h1 h2 trivial
 have h0:=key gas 0 (Nat.zero_le _) (gas_lt (by omega))
 exact h0
theorem ABd (x y:SThing):YAg x y=some (grown x y):=by
 rw [YAg,MAw,mk,grown,D8,show decide (y.fNext≥x.fNext)=decide (x.fNext≤y.fNext) from rfl]
 grind
theorem BBd {b:SBook} {x:SThing} (hb:Jg b=true) (hx:x.fId≤1000):ZAg b x=some (match Z7 b x with
 | some p=>(true,⟨b.fWord,b.fTries,p.1,p.2,b.fChain,b.fCount⟩)
 | none=>(false,b)):=by
 obtain ⟨b1,b2,b3,b4,b5,b6,b7⟩:=Vh.1 hb
 rw [ZAg,NAw,mk,WA2 (by omega),Option.bind_some,Z7]
 rcases IA1 (xs:=b.fThings) (id:=x.fId) with ⟨o,j,t1,t2,t3,t4,t5⟩ | ⟨t1,t2⟩
 ·have hg:∀ z,b.fThings.getD j z=o:=fun z=>by simp_all
  have hs:=(GA1 b7 t2).1
  grind [ABd]
 grind [w64_id]
theorem CBd {b:SBook} {r:SRec} (hb:b.fThings.length≤140737488351232) (hr:r.fNum≤9223372036854775807):ZAV b r=some (Xa b r):=by
 rw [ZAV,OAw,mk,EAC hr,Option.bind_some,VBD hb,Option.bind_some,Xa]
 cases h1:Jg b
 ·rfl
 cases h2:(WZ r).2
 ·rfl
 by_cases h3:b.fCount≥10000
 ·rw [decide_eq_true h3];rfl
 obtain ⟨b1,b2,b3,b4,b5,b6,b7⟩:=Vh.1 h1
 have hz:=VAB r
 have hw:w64 (b.fCount+1)=b.fCount+1:=w64_id (by omega) (by omega)
 have hdig:=Xr (s:=b.fChain++(WZ r).1) (by grind)
 have hsz:decide (b.fChain.size+(WZ r).1.size≤9223372036854775807)=true:=by grind
 simp only [decide_eq_false h3,Bool.not_true,Bool.or_self,cond_false,WBD (show b.fThings.length≤2932031007317 by omega),hdig,hsz,hw,Option.bind_some,cond_true]
 rcases PAZ h2 with ⟨hk,hc⟩ | ⟨hk,hc⟩ | ⟨hk,hc⟩ | ⟨hk,hc⟩
 ·simp_all
 ·simp_all
 ·rw [hk]
  simp only [show ((3:Int) == 1)=false from rfl,show ((3:Int) == 2)=false from rfl,show ((3:Int) == 3)=true from rfl,cond_true,cond_false]
  rw [BBd h1 (Uo hc).2.2.2.1,Option.bind_some]
  cases Z7 b r.fThing with
  | none=>rfl
  | some p=>simp_all
 ·rw [hk]
  simp only [show ((4:Int) == 1)=false from rfl,show ((4:Int) == 2)=false from rfl,show ((4:Int) == 3)=false from rfl,show ((4:Int) == 4)=true from rfl,cond_true,cond_false]
  rw [WA2 hb,Option.bind_some]
  rcases IA1 (xs:=b.fThings) (id:=r.fNum) with ⟨o,j,t1,t2,t3,t4,t5⟩ | ⟨t1,t2⟩
  ·have hs:=(GA1 (x:=⟨r.fNum,0,false,false,false,false,⟨#[]⟩,0⟩) b7 t2).2
   rw [Nat.sub_zero] at hs
   simp only at hs
   rw [t1,t2]
   simp only [Int.toNat_natCast]
   have e:w64 ((j:Int)+1)=((j+1:Nat):Int):=by grind [w64_id]
   simp only [e,Int.toNat_natCast,List.drop_zero,List.take_length,hs]
   grind
  ·rw [t1,t2];rfl
end Go.Proofs.YtpjfloaghpgpdaaGreatDoor.G
