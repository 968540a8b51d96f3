/- The plain law of FnCarries: whatever the arguments, it answers true. Conditions: what is read is in reach. Part 1 of 3. -/
import Derived.Test.YtaalgheapdmjnaaGreatDoorFFnCarries
import Derived.Test.YtaalgheapdmjnaaGreatDoorOpens
import Derived.Test.YtaalgheapdmjnaaGreatDoorPBase
namespace Go.Proofs.YtaalgheapdmjnaaGreatDoor.G
open Go Go.Ev
set_option linter.unusedVariables false
set_option linter.unusedSimpArgs false
set_option linter.unusedSectionVars false
variable [PC]
theorem UBa (u:Unit):ZAe u=some (decide ((Jq.length:Int) > 1048576)):=rfl
def bs (s:AA):List Int:=s.data.toList.map fun b=>(b.toNat:Int)
theorem bs_len (s:AA):(bs s).length=s.size:=by simp [bs]
theorem RA4 {s:AA} {n:Int} (h:n ∈ bs s):0<=n/\n<=255:=by unfold bs at h;rw [List.mem_map] at h;obtain ⟨b,_,rfl⟩:=h;have:=b.toNat_lt;omega
theorem ArL (a b:AA):bs (a++b)=bs a++bs b:=by simp [bs]
theorem xg (s:AA):ofBytes (bs s)=s:=by simp [ofBytes,bs,Function.comp_def]
theorem Asj {s t:AA} (h:bs s=bs t):s=t:=by grind [xg]
theorem At6 {l:List Int} (h:∀ n,n ∈ l->0<=n/\n<=255):bs (ofBytes l)=l:=by
 simp only [bs,ofBytes,List.map_map];conv=>rhs;rw [<-List.map_id l]
 grind [List.map_congr_left,UInt8.toNat_ofNat']
theorem iZ {s:AA} {i:Nat} (h:i<s.size):bt s (i:Int)=(bs s)[i]'(by simp_all [bs_len]):=by simp only [bt,BU,h,dite_true,bs,List.getElem_map];rfl
theorem TD (s:AA) (i:Int):0<=bt s i/\bt s i<=255:=by
 unfold bt;split;·have:=(s[i.toNat]).toNat_lt;omega
 ·omega
theorem AvE (s:AA) (i j:Nat):bs (s.extract i j)=((bs s).take j).drop i:=by simp [bs,List.drop_take]
theorem Atd {α:Type} {c:Bool} {a b:α} (h:c=true):(bif c then a else b)=a:=by simp_all
theorem PY {α:Type} {c:Bool} {a b:α} (h:c=false):(bif c then a else b)=b:=by simp_all
theorem ArC {s:AA} {i:Nat} (h:i<s.size):bt s (i:Int)=(bs s).getD i 0:=by grind [iZ]
theorem EAm {α:Type} {a b:List α} {i:Nat} (h:i<a.length) (d:α):(a++b).getD i d=a.getD i d:=by simp_all [List.getElem?_append_left]
theorem bQ {α:Type} {a b:List α} {x y:α} {i:Nat} (h:a.length=i):(a++x::b).set i y=a++y::b:=by simp_all
theorem VBa:bs (⟨#[]⟩:AA)=[]:=rfl
def Gs (l:List Int):Prop:=∀ n,n ∈ l->0<=n/\n<=255
theorem NK {l:List Int} (h:Gs l) (i:Nat):0<=l.getD i 0/\l.getD i 0<=255:=by
 by_cases hi:i<l.length;·rw [getD_at hi];exact h _ (List.getElem_mem hi)
 simp_all
theorem Si (s:AA):Gs (bs s):=fun _ h=>RA4 h
theorem kX (s:AA):bytesOf s=bs s:=rfl
def Ok {α:Type} (x:Option α) (Q:α->Prop):Prop:=∃ a,x=some a/\Q a
theorem Ok.bind {α β:Type} {x:Option α} {f:α->Option β} {Q:α->Prop} {R:β->Prop} (h:Ok x Q) (k:∀ a,Q a->Ok (f a) R):Ok (x.bind f) R:=by obtain ⟨a,rfl,h⟩:=h;simp_all
theorem Ok.cond {α:Type} {c:Bool} {a b:Option α} {R:α->Prop} (h1:c=true->Ok a R) (h2:c=false->Ok b R):Ok (bif c then a else b) R:=by grind
theorem Ok.chk {α:Type} {c:Bool} {a:Option α} {R:α->Prop} (hc:c=true) (h1:Ok a R):Ok (bif c then a else none) R:=by simp_all
theorem Ok.ret {α:Type} {a:α} {R:α->Prop} (h:R a):Ok (some a) R:=⟨a,rfl,h⟩
theorem Ok.eq {α:Type} {x:Option α} {a:α} (h:x=some a):Ok x (fun b=>b=a):=⟨a,h,rfl⟩
def Hl (c:C9):Prop:=0<=c.fI
theorem FAm (n:Int):0<=AU ((BitVec.toNat (BitVec.ofInt (IntKind.bits IntKind.i64) n &&& BitVec.ofInt (IntKind.bits IntKind.i64) 255):Nat):Int)/\AU ((BitVec.toNat (BitVec.ofInt (IntKind.bits IntKind.i64) n &&& BitVec.ofInt (IntKind.bits IntKind.i64) 255):Nat):Int)<=255:=by grind [BitVec.ofInt,IntKind.bits,Nat.and_le_right,Ar]
theorem WBa:Ok (BAf ()) Hl:=by
 have hl:Jq.length<=140737488351232:=PC.hl;have key:∀ (j i m:Nat) (h:Int),i+j=Jq.length->Ok (nJ (m+j+1) (.c0 h (i:Int))) Hl:=by
  intro j;induction j with
  | zero=>
   intro i m h hi;rw [nJ];simp only [AFi,mk];rw [PY (by simp_all)];exact Ok.ret (Int.le_refl 0)
  | succ j ih=>
   intro i m h hi;have hw:AU ((i:Int)+1)=((i+1:Nat):Int):=by grind [Ar]
   rw [ArJ m j,nJ];simp only [AFi,mk,hw];refine Ok.cond (fun _=>Ok.cond (fun _=>?_) fun _=>Ok.ret (Int.le_refl 0)) fun _=>Ok.ret (Int.le_refl 0)
   refine Ok.chk (by simp_all) (Ok.chk (by simp_all) (ih (i+1) m _ (by omega)))
 obtain ⟨m,hm⟩:=gm (n:=Jq.length) (by omega)
 rw [BAf,ZAq,mk,hm];exact key Jq.length 0 m _ (Nat.zero_add _)
theorem nK {c:C9} (hc:Hl c):Ok (nM c) fun r=>0<=r.1/\r.1<=255/\Hl r.2:=by
 have hl:Jq.length<=140737488351232:=PC.hl;have hc:0<=c.fI:=hc;rw [nM,ANr,mk];refine Ok.cond (fun h=>?_) fun h=>Ok.ret ⟨(FAm _).1,(FAm _).2,hc⟩
 rw [decide_eq_true_eq] at h;refine Ok.chk (by simp_all) (Ok.chk (Nat.ble_eq_true_of_le (by omega)) (Ok.ret ⟨(FAm _).1,(FAm _).2,?_⟩));show 0<=AU (c.fI+1);grind [Ar]
theorem tmod_lt {a n:Int} (ha:0<=a) (hn:0<n):0<=a.tmod n/\a.tmod n<n:=⟨Int.tmod_nonneg _ ha,Int.tmod_lt_of_pos _ hn⟩
theorem As3 {c:C9} {n:Int} (hc:Hl c):Ok (Au3 c n) fun r=>(0<=r.1/\(0<n->r.1<n)/\(n<=0->r.1=0))/\Hl r.2:=by
 rw [Au3,BAr,mk];refine Ok.cond (fun h=>?_) fun h=>?_
 ·rw [decide_eq_true_eq] at h;exact Ok.ret ⟨⟨Int.le_refl 0,fun h2=>h2,fun _=>rfl⟩,hc⟩
 ·rw [decide_eq_false_iff_not] at h;have hn:(!(n == 0))=true:=by grind
  refine Ok.cond (fun _=>?_) fun _=>?_
  ·refine Ok.bind (nK hc) fun a ha=>Ok.chk hn (Ok.ret ?_)
   have:=tmod_lt ha.1 (show 0<n by omega);exact ⟨⟨this.1,fun _=>this.2,fun h2=>by omega⟩,ha.2.2⟩
  ·refine Ok.bind (nK hc) fun a ha=>Ok.bind (nK ha.2.2) fun b hb=>Ok.bind (nK hb.2.2) fun d hd=>Ok.bind (nK hd.2.2) fun e he=>Ok.chk hn (Ok.ret ?_)
   obtain ⟨a1,a2,_⟩:=ha
   obtain ⟨b1,b2,_⟩:=hb
   obtain ⟨d1,d2,_⟩:=hd
   obtain ⟨e1,e2,e3⟩:=he
   have hw:AU (AU (AU (AU (a.1*16777216)+AU (b.1*65536))+AU (d.1*256))+e.1)=a.1*16777216+b.1*65536+d.1*256+e.1:=by grind [Ar]
   have:=tmod_lt (show 0<=a.1*16777216+b.1*65536+d.1*256+e.1 by omega) (show 0<n by omega);simp only [hw];exact ⟨⟨this.1,fun _=>this.2,fun h2=>by omega⟩,e3⟩
theorem VBD {n:Nat} {x:Int} (h:n<=1000000000):bT (n:Int) x=some (ofBytes (List.replicate n x)):=by
 have key:∀ (j i m:Nat),i+j=n->nN (m+j+1) (.c0 (n:Int) x (i:Int) (List.replicate i x++List.replicate (n - i) 0))=some (ofBytes (List.replicate n x)):=by
  intro j;induction j with
  | zero=>
   intro i m hi;obtain rfl:i=n:=by omega
   simp [nN,CAf,mk]
  | succ j ih=>
   intro i m hi;have e:AU ((i:Int)+1)=((i+1:Nat):Int):=by grind [Ar]
   rw [show m+(j+1)+1=(m+j+1)+1 by omega,nN];simp only [CAf,mk,e,BU];rw [Atd (by grind),Atd (by simp;omega),show n - i=(n - (i+1))+1 by omega,List.replicate_succ,bQ (by simp)];have h2:=ih (i+1) m (by omega);simp_all [List.replicate_succ']
 obtain ⟨m,hm⟩:=gm (n:=n) (by omega)
 have h0:=key n 0 m (by omega);rw [List.replicate_zero,List.nil_append,Nat.sub_zero] at h0;rw [bT,CAr,mk,Atd (by simp;omega),hm];exact h0
theorem XBa {n x:Int} (h0:0<=n) (h1:n<=1000000000):Ok (bT n x) fun r=>(r.size:Int)=n:=by have h:=VBD (n:=n.toNat) (x:=x) (by omega);rw [show ((n.toNat:Nat):Int)=n by omega] at h;exact ⟨_,h,by grind [DK]⟩
theorem xk {n:Int}:w32 n=n % 4294967296:=by rfl
theorem Sv {n:Int} (h1:0<=n) (h2:n<4294967296):w32 n=n:=by grind [xk]
def R32 (n:Int):Prop:=0<=n/\n<4294967296
theorem O0 (n:Int):R32 (w32 n):=by grind [R32,xk]
def xr (x y:Int):Int:=w32 (((BitVec.toNat ((BitVec.ofInt (IntKind.bits IntKind.u32) x) ^^^ (BitVec.ofInt (IntKind.bits IntKind.u32) y))):Nat):Int)
def an (x y:Int):Int:=w32 (((BitVec.toNat ((BitVec.ofInt (IntKind.bits IntKind.u32) x) &&& (BitVec.ofInt (IntKind.bits IntKind.u32) y))):Nat):Int)
def xq (x y:Int):Int:=w32 (((BitVec.toNat ((BitVec.ofInt (IntKind.bits IntKind.u32) x) ||| (BitVec.ofInt (IntKind.bits IntKind.u32) y))):Nat):Int)
theorem TK (x y:Int):w32 (((BitVec.toNat ((BitVec.ofInt (IntKind.bits IntKind.u32) x) ^^^ (BitVec.ofInt (IntKind.bits IntKind.u32) y))):Nat):Int)=xr x y:=rfl
theorem SA4 (x y:Int):w32 (((BitVec.toNat ((BitVec.ofInt (IntKind.bits IntKind.u32) x) &&& (BitVec.ofInt (IntKind.bits IntKind.u32) y))):Nat):Int)=an x y:=rfl
theorem WBD (x y:Int):w32 (((BitVec.toNat ((BitVec.ofInt (IntKind.bits IntKind.u32) x) ||| (BitVec.ofInt (IntKind.bits IntKind.u32) y))):Nat):Int)=xq x y:=rfl
theorem kS (x y:Int):R32 (xr x y):=O0 _
theorem XBD {a b:Nat} {s:Nat} (hb:b<2 ^ s) (ha:a*2 ^ s<4294967296) (hs:b<4294967296):xq ((a*2 ^ s:Nat):Int) (b:Int)=((a*2 ^ s+b:Nat):Int):=by
 have e:a*2 ^ s ||| b=a*2 ^ s+b:=by have:=Nat.shiftLeft_add_eq_or_of_lt hb a;simp_all [Nat.shiftLeft_eq]
 unfold xq;have h3:a*2 ^ s ||| b<2 ^ 32:=Nat.or_lt_two_pow (by omega) (by omega)
 rw [BitVec.toNat_or];show w32 (((BitVec.ofInt 32 _).toNat ||| (BitVec.ofInt 32 _).toNat:Nat):Int)=_;rw [BitVec.ofInt_natCast,BitVec.ofInt_natCast,BitVec.toNat_ofNat,BitVec.toNat_ofNat,Nat.mod_eq_of_lt (by omega),Nat.mod_eq_of_lt (by omega),e];grind [Sv]
theorem YBa {e:Int} (h:R32 e):xr (ite ((IntKind.signed IntKind.u32)=true) (-(1:Int)) (IntKind.max IntKind.u32)) e=w32 (4294967295 - e):=by
 obtain ⟨h1,h2⟩:=h
 obtain ⟨n,rfl⟩:∃ n:Nat,e=(n:Int):=⟨e.toNat,by omega⟩
 have hn:n<4294967296:=by omega
 have e1:(ite ((IntKind.signed IntKind.u32)=true) (-(1:Int)) (IntKind.max IntKind.u32))=4294967295:=by decide
 rw [e1];unfold xr;show w32 (((BitVec.ofInt 32 4294967295 ^^^ BitVec.ofInt 32 (n:Int)).toNat:Nat):Int)=_;have e2:BitVec.ofInt 32 4294967295=BitVec.allOnes 32:=by decide
 rw [e2,BitVec.ofInt_natCast,BitVec.allOnes_xor,BitVec.toNat_not,BitVec.toNat_ofNat];grind
def rt (low high x:Int):Int:=x / low+x % low*high
theorem ZBa {low high x:Int} (h:R32 x) (hl:0<low) (hh:0<high) (hlh:low*high=4294967296):R32 (rt low high x):=by
 unfold R32 rt at *
 have h1:0<=x / low:=Int.ediv_nonneg h.1 (by omega);have h2:0<=x % low:=Int.emod_nonneg _ (by omega);have h3:x % low<low:=Int.emod_lt_of_pos _ hl;have h4:x / low<high:=Int.ediv_lt_of_lt_mul hl (by simp_all [Int.mul_comm]);have h5:0<=x % low*high:=Int.mul_nonneg h2 (by omega);have h6:x % low*high<=(low - 1)*high:=Int.mul_le_mul_of_nonneg_right (by omega) (by omega);grind
theorem Af3 {x:Int} (h:R32 x) (n:Nat) (hn:0<n) (hn2:n<32):xq (w32 (x*2 ^ (32 - n))) (x / 2 ^ n)=rt (2 ^ n) (2 ^ (32 - n)) x:=by
 obtain ⟨h1,h2⟩:=h
 obtain ⟨y,rfl⟩:∃ y:Nat,x=(y:Int):=⟨x.toNat,by omega⟩
 have hy:y<4294967296:=by omega
 have e0:(4294967296:Nat)=2 ^ n*2 ^ (32 - n):=by rw [<-Nat.pow_add,show n+(32 - n)=32 by omega]
 have e1:w32 ((y:Int)*2 ^ (32 - n))=((y % 2 ^ n*2 ^ (32 - n):Nat):Int):=by
  rw [xk];have h5:((y:Int)*2 ^ (32 - n))=((y*2 ^ (32 - n):Nat):Int):=by rfl
  have h6:y*2 ^ (32 - n) % 4294967296=y % 2 ^ n*2 ^ (32 - n):=by rw [e0,Nat.mul_mod_mul_right]
  omega
 have e2:((y:Int) / 2 ^ n)=((y / 2 ^ n:Nat):Int):=by rfl
 have hp:0<2 ^ n:=Nat.two_pow_pos n;have hp2:0<2 ^ (32 - n):=Nat.two_pow_pos _;have hm:y % 2 ^ n<2 ^ n:=Nat.mod_lt _ hp;have hd:y / 2 ^ n<2 ^ (32 - n):=Nat.div_lt_of_lt_mul (by omega);rw [e1,e2,XBD hd (by simp_all) (Nat.lt_of_le_of_lt (Nat.div_le_self _ _) hy)];grind [rt]
def sg0 (x:Int):Int:=xr (xr (rt 128 33554432 x) (rt 262144 16384 x)) (x / 8)
def sg1 (x:Int):Int:=xr (xr (rt 131072 32768 x) (rt 524288 8192 x)) (x / 1024)
def ep1 (x:Int):Int:=xr (xr (rt 64 67108864 x) (rt 2048 2097152 x)) (rt 33554432 128 x)
def ep0 (x:Int):Int:=xr (xr (rt 4 1073741824 x) (rt 8192 524288 x)) (rt 4194304 1024 x)
def BBb (w:List Int) (t:Nat):Int:=w32 (w32 (w32 (sg1 (w.getD (t - 2) 0)+w.getD (t - 7) 0)+sg0 (w.getD (t - 15) 0))+w.getD (t - 16) 0)
def sched (w:List Int):Nat->List Int
 | 0=>w
 | n+1=>sched w n++[BBb (sched w n) (16+n)]
theorem xu {w:List Int} (h:w.length=16) (n:Nat):(sched w n).length=16+n:=by induction n<;>grind [sched]
theorem GAm {w:List Int} (h:∀ x ∈ w,R32 x) (n:Nat):∀ x ∈ sched w n,R32 x:=by
 induction n with
 | zero=>exact h
 | succ n ih=>
  intro x hx;rw [sched,List.mem_append,List.mem_singleton] at hx;rcases hx with hx | rfl
  ·simp_all
  ·exact O0 _
theorem xw {l:List Int} (h:∀ x ∈ l,R32 x) (i:Nat):R32 (l.getD i 0):=by grind [R32]
structure Reg where
 a:Int
 b:Int
 c:Int
 d:Int
 e:Int
 f:Int
 g:Int
 h:Int
def Reg.ok (r:Reg):Prop:=R32 r.a/\R32 r.b/\R32 r.c/\R32 r.d/\R32 r.e/\R32 r.f/\R32 r.g/\R32 r.h
def Reg.l (r:Reg):List Int:=[r.a,r.b,r.c,r.d,r.e,r.f,r.g,r.h]
theorem Reg.x9 (r:Reg):r.l.length=8:=rfl
def t1 (r:Reg) (k w:Int):Int:=w32 (w32 (w32 (w32 (r.h+ep1 r.e)+xr (an r.e r.f) (an (w32 (4294967295 - r.e)) r.g))+k)+w)
def t2 (r:Reg):Int:=w32 (ep0 r.a+xr (xr (an r.a r.b) (an r.a r.c)) (an r.b r.c))
def TM (r:Reg) (k w:Int):Reg:=⟨w32 (t1 r k w+t2 r),r.a,r.b,r.c,w32 (r.d+t1 r k w),r.e,r.f,r.g⟩
theorem CBb {r:Reg} (h:r.ok) (k w:Int):(TM r k w).ok:=⟨O0 _,h.1,h.2.1,h.2.2.1,O0 _,h.2.2.2.2.1,h.2.2.2.2.2.1,h.2.2.2.2.2.2.1⟩
def LY (K W:List Int) (r:Reg):Nat->Reg
 | 0=>r
 | n+1=>TM (LY K W r n) (K.getD n 0) (W.getD n 0)
theorem BBE (K W:List Int) {r:Reg} (h:r.ok) (n:Nat):(LY K W r n).ok:=by
 induction n with
 | zero=>exact h
 | succ n ih=>exact CBb ih _ _
def yA (s r:Reg):Reg:=⟨w32 (s.a+r.a),w32 (s.b+r.b),w32 (s.c+r.c),w32 (s.d+r.d),w32 (s.e+r.e),w32 (s.f+r.f),w32 (s.g+r.g),w32 (s.h+r.h)⟩
theorem DBb (s r:Reg):(yA s r).ok:=⟨O0 _,O0 _,O0 _,O0 _,O0 _,O0 _,O0 _,O0 _⟩
def keysL:List Int:=[1116352408,1899447441,3049323471,3921009573,961987163,1508970993,2453635748,2870763221,3624381080,310598401,607225278,1426881987,1925078388,2162078206,2614888103,3248222580,3835390401,4022224774,264347078,604807628,770255983,1249150122,1555081692,1996064986,2554220882,2821834349,2952996808,3210313671,3336571891,3584528711,113926993,338241895,666307205,773529912,1294757372,1396182291,1695183700,1986661051,2177026350,2456956037,2730485921,2820302411,3259730800,3345764771,3516065817,3600352804,4094571909,275423344,430227734,506948616,659060556,883997877,958139571,1322822218,1537002063,1747873779,1955562222,2024104815,2227730452,2361852424,2428436474,2756734187,3204031479,3329325298]
def be4 (a b c d:Int):Int:=a*16777216+b*65536+c*256+d
def wordAt (l:List Int) (i:Nat):Int:=be4 (l.getD (4*i) 0) (l.getD (4*i+1) 0) (l.getD (4*i+2) 0) (l.getD (4*i+3) 0)
def At7 (l:List Int) (n:Nat):List Int:=(List.range n).map (wordAt l)
theorem bU (l:List Int) (n:Nat):(At7 l n).length=n:=by simp [At7]
theorem CBE (l:List Int) (n:Nat):At7 l (n+1)=At7 l n++[wordAt l n]:=by simp [At7,List.range_succ]
theorem EBb {a b c d:Int} (ha:0<=a/\a<=255) (hb:0<=b/\b<=255) (hc:0<=c/\c<=255) (hd:0<=d/\d<=255):R32 (be4 a b c d):=by grind [R32,be4]
theorem FBb {l:List Int} (h:Gs l) (i:Nat):R32 (wordAt l i):=EBb (NK h _) (NK h _) (NK h _) (NK h _)
theorem TA4 {l:List Int} (h:Gs l) (n:Nat):∀ x ∈ At7 l n,R32 x:=by grind [At7,FBb]
def comp (s:Reg) (b:List Int):Reg:=yA s (LY keysL (sched (At7 b 16) 48) s 64)
theorem DBE (s:Reg) (b:List Int):(comp s b).ok:=DBb _ _
def comps:Nat->Reg->List Int->Reg
 | 0,s,_=>s
 | n+1,s,b=>comps n (comp s (b.take 64)) (b.drop 64)
theorem bV {s:Reg} (h:s.ok):∀ (n:Nat) (b:List Int),(comps n s b).ok:=by
 intro n;induction n generalizing s with
 | zero=>intro b;exact h
 | succ n ih=>intro b;exact ih (DBE _ _) _
theorem EBE (n m:Nat):∀ (s:Reg) (b:List Int),comps (n+m) s b=comps m (comps n s b) (b.drop (64*n)):=by induction n<;>grind [comps,List.drop_drop]
theorem GBb (n:Nat):∀ (s:Reg) (b c:List Int),64*n<=b.length->comps n s (b++c)=comps n s b:=by induction n<;>grind [comps]
def four (x:Int):List Int:=[x / 16777216,x / 65536 % 256,x / 256 % 256,x % 256]
theorem Vx {x:Int} (h:R32 x):Gs (four x):=by intro n hn;grind [R32,four]
def Me (ws:List Int):List Int:=ws.flatMap four
theorem FBE (ws:List Int):(Me ws).length=4*ws.length:=by induction ws<;>grind [Me,four]
theorem UA4 {ws:List Int} (h:∀ x ∈ ws,R32 x):Gs (Me ws):=by
 intro n hn;simp only [Me,List.mem_flatMap] at hn;obtain ⟨x,hx,hn⟩:=hn
 exact Vx (h x hx) n hn
theorem HBb (a b:List Int):Me (a++b)=Me a++Me b:=by simp [Me]
theorem IBb {x:Int} (h:R32 x):be4 (x / 16777216) (x / 65536 % 256) (x / 256 % 256) (x % 256)=x:=by grind [be4]
theorem GBE:∀ {ws:List Int} (_:∀ x ∈ ws,R32 x) {i:Nat} (hi:i<ws.length),wordAt (Me ws) i=ws[i]
 | w::ws,h,0,_=>by simp_all [IBb,wordAt,Me,four]
 | w::ws,h,i+1,hi=>by
  have ih:=GBE (ws:=ws) (fun x hx=>h x (List.mem_cons_of_mem _ hx)) (i:=i) (by simpa using hi);rw [List.getElem_cons_succ,<-ih];have e:∀ j,(Me (w::ws)).getD (j+4) 0=(Me ws).getD j 0:=fun j=>by simp [Me,four,List.getD]
  unfold wordAt;rw [show 4*(i+1)=4*i+4 by omega,show 4*i+4+1=(4*i+1)+4 by omega,show 4*i+4+2=(4*i+2)+4 by omega,show 4*i+4+3=(4*i+3)+4 by omega,e,e,e,e]
theorem JBb {ws:List Int} (h:∀ x ∈ ws,R32 x):At7 (Me ws) ws.length=ws:=by grind [List.ext_getElem,bU,At7,GBE]
theorem Reg.nP {r:Reg} (h:r.ok):∀ x ∈ r.l,R32 x:=by
 intro x hx;simp only [Reg.l,List.mem_cons,List.not_mem_nil,or_false] at hx;obtain ⟨h1,h2,h3,h4,h5,h6,h7,h8⟩:=h
 grind
def Tz:Reg:=⟨1779033703,3144134277,1013904242,2773480762,1359893119,2600822924,528734635,1541459225⟩
theorem bW:Tz.ok:=by simp [Reg.ok,R32,Tz]
def Ar7 (n:Int):List Int:=[0,0,0,n / 4294967296 % 256,n / 16777216 % 256,n / 65536 % 256,n / 256 % 256,n % 256]
def Ia (n:Nat):List Int:=128::(List.replicate ((119 - n % 64) % 64) 0++Ar7 (8*(n:Int)))
theorem HAm (n:Nat):(Ia n).length=9+(119 - n % 64) % 64:=by simp [Ia,Ar7];omega
theorem KBb (n:Nat):(n+(Ia n).length) % 64=0:=by grind [HAm]
theorem VA4 (n:Nat):Gs (Ia n):=by intro x hx;simp only [Ia,Ar7,List.mem_cons,List.mem_append,List.mem_replicate,List.not_mem_nil,or_false] at hx;omega
def Tv (b:List Int):List Int:=Me (comps ((b.length+(Ia b.length).length) / 64) Tz (b++Ia b.length)).l
def Auo (s:AA):AA:=ofBytes (Tv (bs s))
theorem HBE (b:List Int):(Tv b).length=32:=by rfl
theorem IBE (b:List Int):Gs (Tv b):=UA4 (Reg.nP (bV bW _ _))
theorem IQ (s:AA):(Auo s).size=32:=by rfl
theorem IAm (s:AA):bs (Auo s)=Tv (bs s):=At6 (IBE _)
theorem LBb {x:Int} (h:R32 x):[w8 (w32 (x.tdiv 16777216)),w8 ((w32 (x.tdiv 65536)).tmod 256),w8 ((w32 (x.tdiv 256)).tmod 256),w8 (x.tmod 256)]=four x:=by
 obtain ⟨h1,h2⟩:=h
 grind [Sv,four,ZP,List.cons.injEq]
theorem JBE {ws:List Int} (h:∀ x ∈ ws,R32 x) (hl:ws.length<=1000000000000):bZ ws=some (ofBytes (Me ws)):=by
 have key:=PL (A:=Unit) (n:=ws.length) (Hj:=nR) (st:=fun i _=>.c0 ws (i:Int) (Me (ws.take i))) (Inv:=fun _ _=>True) (out:=fun _ _=>some (ofBytes (Me ws)))
  (fun m _ _=>by
   simp [nR,DAf,mk])
  (fun m i _ hi _=>.inr ⟨(),by
   have e:AU ((i:Int)+1)=((i+1:Nat):Int):=by grind [Ar]
   simp only [nR,DAf,mk,e,BU];rw [Atd (by simp_all),Atd (by simp_all),Atd (by grind [FBE])];grind [LBb,take_at,Me],trivial,rfl⟩)
 exact key AX 0 () (DF _) (FP (by omega)) trivial
def YR:Hz:=⟨ofBytes (Me Tz.l),⟨#[]⟩,0⟩
theorem MBb:EAr=some YR:=by rfl
def AvO (x a b:Int):Bool:=decide (a<=x) && decide (x<=b)
theorem DU {x a b:Int}:AvO x a b=true↔a<=x/\x<=b:=by simp [AvO]
theorem AuF (x a b:Int):AuU x a b=some (AvO x a b):=by show (bif decide (a<=x) then some (decide (x<=b)) else some false)=some (AvO x a b);grind [AvO]
theorem KBE {h:Hz} (h1:h.FZ.size=32) (h2:h.MW.size<64) (h3:0<=h.fCount/\h.fCount<=1000000000) (h4:h.fCount % 64=(h.MW.size:Int)):Wn h=some true:=by
 have e:AvO h.fCount 0 1000000000=true:=by grind [DU]
 simp only [Wn,FAr,mk,AuF,AO,e];grind
theorem NBb {s:AA} {i:Nat} (h:4*i+4<=s.size) (hs:s.size<=9000000000000000000):yB s ((4*i:Nat):Int)=some (wordAt (bs s) i):=by
 have hb:=Si s;have e1:AU (((4*i:Nat):Int)+1)=((4*i+1:Nat):Int):=by grind [Ar]
 have e2:AU (((4*i:Nat):Int)+2)=((4*i+2:Nat):Int):=by grind [Ar]
 have e3:AU (((4*i:Nat):Int)+3)=((4*i+3:Nat):Int):=by grind [Ar]
 simp only [yB,GAr,mk,e1,e2,e3];rw [Atd (by grind),Atd (by grind),Atd (by grind),Atd (by grind)];rw [ArC (by omega),ArC (by omega),ArC (by omega),ArC (by omega)];have b0:=NK hb (4*i);have b1:=NK hb (4*i+1);have b2:=NK hb (4*i+2);have b3:=NK hb (4*i+3);unfold wordAt be4;grind [xk]
theorem LBE {s:AA} (hs:s.size<=1000000000000):Asg s=some (At7 (bs s) (s.size / 4)):=by
 have key:=PL (A:=Unit) (n:=s.size / 4) (Hj:=nS) (st:=fun i _=>.c0 s ((4*i:Nat):Int) (At7 (bs s) i)) (Inv:=fun _ _=>True) (out:=fun _ _=>some (At7 (bs s) (s.size / 4)))
  (fun m _ _=>by
   simp only [nS,EAf,mk];rw [Ar (by omega) (by omega),PY (by simp;omega)])
  (fun m i _ hi _=>.inr ⟨(),by
   have e:AU (((4*i:Nat):Int)+4)=((4*(i+1):Nat):Int):=by rw [Ar (by omega) (by omega)];omega
   simp only [nS,EAf,mk,e,NBb (s:=s) (i:=i) (by omega) (by omega),AO,bU,CBE];rw [Atd (by simp;omega),Atd (by simp;omega)],trivial,rfl⟩)
 exact key AX 0 () (DF _) (FP (by omega)) trivial
theorem U6 {x low high:Int} (h:R32 x) (hl:0<low) (hh:0<high) (hlh:low*high=4294967296):FAf x low high=some (rt low high x):=by
 have hr:=ZBa h hl hh hlh;obtain ⟨h1,h2⟩:=h
 have e0:(!(low == 0))=true:=by grind
 have d1:0<=x / low:=Int.ediv_nonneg h1 (by omega);have d2:0<=x % low*high:=Int.mul_nonneg (Int.emod_nonneg _ (by omega)) (by omega);unfold R32 rt at hr;simp only [FAf,IAr,mk,e0,A8,Int.tdiv_eq_ediv_of_nonneg h1,Int.tmod_eq_emod_of_nonneg h1];rw [Sv d1 (by omega),Sv d2 (by omega),Sv (by omega) (by omega)];rfl
theorem OBb {x:Int} (h:R32 x):TQ x 131072 524288 1024 true=some (sg1 x):=by
 have e1:w32 (w32 ((2147483648:Int).tdiv 131072)*2)=32768:=by decide
 have e2:w32 (w32 ((2147483648:Int).tdiv 524288)*2)=8192:=by decide
 have e3:w32 (x.tdiv 1024)=x / 1024:=by
  obtain ⟨h1,h2⟩:=h
  grind [Sv]
 simp only [TQ,nT,mk,e1,e2,e3,U6 h (low:=131072) (high:=32768) (by omega) (by omega) (by omega),U6 h (low:=524288) (high:=8192) (by omega) (by omega) (by omega),AO,TK];rfl
theorem PBb {x:Int} (h:R32 x):TQ x 128 262144 8 true=some (sg0 x):=by
 have e1:w32 (w32 ((2147483648:Int).tdiv 128)*2)=33554432:=by decide
 have e2:w32 (w32 ((2147483648:Int).tdiv 262144)*2)=16384:=by decide
 have e3:w32 (x.tdiv 8)=x / 8:=by
  obtain ⟨h1,h2⟩:=h
  grind [Sv]
 simp only [TQ,nT,mk,e1,e2,e3,U6 h (low:=128) (high:=33554432) (by omega) (by omega) (by omega),U6 h (low:=262144) (high:=16384) (by omega) (by omega) (by omega),AO,TK];rfl
theorem QBb {x:Int} (h:R32 x):TQ x 64 2048 33554432 false=some (ep1 x):=by
 have e1:w32 (w32 ((2147483648:Int).tdiv 64)*2)=67108864:=by decide
 have e2:w32 (w32 ((2147483648:Int).tdiv 2048)*2)=2097152:=by decide
 have e3:w32 (w32 ((2147483648:Int).tdiv 33554432)*2)=128:=by decide
 simp only [TQ,nT,mk,e1,e2,e3,U6 h (low:=64) (high:=67108864) (by omega) (by omega) (by omega),U6 h (low:=2048) (high:=2097152) (by omega) (by omega) (by omega),U6 h (low:=33554432) (high:=128) (by omega) (by omega) (by omega),AO,TK];rfl
theorem RBb {x:Int} (h:R32 x):TQ x 4 8192 4194304 false=some (ep0 x):=by
 have e1:w32 (w32 ((2147483648:Int).tdiv 4)*2)=1073741824:=by decide
 have e2:w32 (w32 ((2147483648:Int).tdiv 8192)*2)=524288:=by decide
 have e3:w32 (w32 ((2147483648:Int).tdiv 4194304)*2)=1024:=by decide
 simp only [TQ,nT,mk,e1,e2,e3,U6 h (low:=4) (high:=1073741824) (by omega) (by omega) (by omega),U6 h (low:=8192) (high:=524288) (by omega) (by omega) (by omega),U6 h (low:=4194304) (high:=1024) (by omega) (by omega) (by omega),AO,TK];rfl
theorem SBb (s r:Reg):∀ i,i<8->(yA s r).l.getD i 0=w32 (s.l.getD i 0+r.l.getD i 0)
 | 0,_=>rfl | 1,_=>rfl | 2,_=>rfl | 3,_=>rfl | 4,_=>rfl | 5,_=>rfl | 6,_=>rfl | 7,_=>rfl
 | n+8,h=>by omega
def shL:Nat->List Int->List Int
 | 0,v=>v
 | i+1,v=>shL i (v.set (i+1) (v.getD i 0))
theorem TBb (t o W:List Int) (k T1 T2:Int) (hk:0<=k/\k<64):∀ (i m:Nat) (v:List Int),i<8->v.length=8->Ar0 (m+i+1) (.c2 t o k T1 T2 (i:Int) W v)=Ar0 m (.c1 t o (k+1) W (((shL i v).set 4 (w32 ((shL i v).getD 4 0+T1))).set 0 (w32 (T1+T2)))):=by
 intro i;induction i with
 | zero=>
  intro m v _ hl;have e:AU (k+1)=k+1:=Ar (by omega) (by omega);simp only [Ar0,bf,mk,e];rw [PY (by simp),Atd (by simp [hl]),Atd (by simp [hl]),Atd (by simp [hl])];rfl
 | succ i ih=>
  intro m v hi hl;have e:AU (((i+1:Nat):Int) - 1)=(i:Int):=by grind [Ar]
  rw [show m+(i+1)+1=(m+i+1)+1 by omega];rw [Ar0];simp only [bf,mk,e,BU];rw [Atd (by simp),Atd (by grind),Atd (by grind),ih m _ (by omega) (by simp [hl])];rfl
theorem UBb (t W:List Int) (r:Reg) (hr:r.ok) (hW:∀ x ∈ W,R32 x) (B0:W.length=64) (i m:Nat) (hi:i<64) :
  Ar0 (m+9) (.c1 t keysL (i:Int) W r.l)=Ar0 m (.c1 t keysL ((i:Int)+1) W (TM r (keysL.getD i 0) (W.getD i 0)).l):=by
 obtain ⟨h1,h2,h3,h4,h5,h6,h7,h8⟩:=hr
 have hk:keysL.length=64:=rfl;have g (q:Reg):q.l.getD 0 0=q.a/\q.l.getD 1 0=q.b/\q.l.getD 2 0=q.c/\q.l.getD 4 0=q.e/\q.l.getD 5 0=q.f/\q.l.getD 6 0=q.g/\q.l.getD 7 0=q.h:=⟨rfl,rfl,rfl,rfl,rfl,rfl,rfl⟩
 obtain ⟨g0,g1,g2,g4,g5,g6,g7⟩:=g r
 have hl:r.l.length=8:=rfl;have z4:(4:Int).toNat=4:=rfl;have z5:(5:Int).toNat=5:=rfl;have z6:(6:Int).toNat=6:=rfl;have z7:(7:Int).toNat=7:=rfl;have z0:(0:Int).toNat=0:=rfl;have z1:(1:Int).toNat=1:=rfl;have z2:(2:Int).toNat=2:=rfl;rw [show m+9=(m+7+1)+1 by omega,Ar0];simp only [bf,mk,z0,z1,z2,z4,z5,z6,z7,g0,g1,g2,g4,g5,g6,g7,hl,hk,B0,QBb h5,RBb h1,AO,TK,SA4,BU];rw [Atd (by grind),Atd (by simp),Atd (by simp),Atd (by simp),Atd (by simp),Atd (by grind),Atd (by grind),Atd (by simp),Atd (by simp),Atd (by simp),Atd (by simp),Atd (by simp),Atd (by simp),Atd (by simp)];exact TBb t keysL W (i:Int) (t1 r (keysL.getD i 0) (W.getD i 0)) (t2 r) (by omega) 7 m r.l (by omega) rfl
theorem VBb (s:Reg) (hs:s.ok) (W:List Int) (hW:∀ x ∈ W,R32 x) (B0:W.length=64):∀ (j i m:Nat),i+j=64->Ar0 (m+9*j+10) (.c1 s.l keysL (i:Int) W (LY keysL W s i).l)=some (yA s (LY keysL W s 64)).l:=by
 intro j;induction j with
 | zero=>
  intro i m h;obtain rfl:i=64:=by omega
  rfl
 | succ j ih=>
  intro i m h;rw [show m+9*(j+1)+10=(m+9*j+10)+9 by omega,UBb s.l W _ (BBE keysL W hs i) hW B0 i _ (by omega)];exact ih (i+1) m (by omega)
theorem WBb (s:Reg) (hs:s.ok) (w:List Int) (hw:∀ x ∈ w,R32 x) (hwl:w.length=16):∀ (j i m:Nat),i+j=48->Ar0 (m+9*64+10+1+j) (.c0 s.l keysL ((16+i:Nat):Int) (sched w i))=some (yA s (LY keysL (sched w 48) s 64)).l:=by
 intro j;induction j with
 | zero=>
  intro i m h;obtain rfl:i=48:=by omega
  rw [show m+9*64+10+1+0=(m+9*64+10)+1 by omega,Ar0];simp only [bf,mk];rw [PY (by simp),Atd (by rfl)];exact VBb s hs _ (GAm hw 48) (xu hwl 48) 64 0 m (by omega)
 | succ j ih=>
  intro i m h;have hl:=xu hwl i;have hr:=GAm hw i;have e2:AU (((16+i:Nat):Int) - 2)=((16+i - 2:Nat):Int):=by grind [Ar]
  have e7:AU (((16+i:Nat):Int) - 7)=((16+i - 7:Nat):Int):=by grind [Ar]
  have e15:AU (((16+i:Nat):Int) - 15)=((16+i - 15:Nat):Int):=by grind [Ar]
  have e16:AU (((16+i:Nat):Int) - 16)=((16+i - 16:Nat):Int):=by grind [Ar]
  have e1:AU (((16+i:Nat):Int)+1)=((16+(i+1):Nat):Int):=by grind [Ar]
  rw [show m+9*64+10+1+(j+1)=(m+9*64+10+1+j)+1 by omega,Ar0];simp only [bf,mk,e1,e2,e7,e15,e16,BU,hl,OBb (xw hr _),PBb (xw hr _),AO];rw [Atd (by grind),Atd (by grind),Atd (by grind),Atd (by grind),Atd (by grind),Atd (by grind)];exact ih (i+1) m (by omega)
theorem MBE {s:Reg} (hs:s.ok) {b:AA} (hb:b.size=64):bg s.l keysL b=some (comp s (bs b)).l:=by
 have hr:=TA4 (Si b) 16;obtain ⟨m,hm⟩:∃ m,AX=m+9*64+10+1+48:=⟨AX - 635,by rfl⟩
 have h:=WBb s hs _ hr (bU _ 16) 48 0 m (by omega);have e0:((16+0:Nat):Int)=16:=rfl;rw [e0,show sched (At7 (bs b) 16) 0=At7 (bs b) 16 from rfl] at h;rw [bg,JAr,LBE (s:=b) (by omega),AO,hb,hm];exact h
theorem NBE:nU=some keysL:=rfl
theorem XBb (b:List Int) (i:Nat):(b.take (64*i+64)).drop (64*i)=(b.drop (64*i)).take 64:=by simp [List.drop_take]
theorem OBE (i:Nat) (s:Reg) (b:List Int):comps (i+1) s b=comp (comps i s b) ((b.drop (64*i)).take 64):=by rw [EBE i 1];rfl
theorem PBE {r:Reg} (h:r.ok):Asg (ofBytes (Me r.l))=some r.l:=by
 have hs:(ofBytes (Me r.l)).size=32:=by rfl
 rw [LBE (by omega),hs,At6 (UA4 (Reg.nP h))];exact congrArg some (JBb (Reg.nP h))
theorem YBb {s:AA} (hs:s.size<=1000000000):HAf YR s=some ⟨ofBytes (Me (comps (s.size / 64) Tz (bs s)).l),s.extract (64*(s.size / 64)) s.size,(s.size:Int)⟩:=by
 have e0:Wn YR=some true:=KBE (by rfl) (by decide) (by decide) (by decide);have e1:((⟨#[]⟩:AA)++s)=s:=Asj (by rfl)
 have key:=PL (A:=Unit) (n:=s.size / 64) (Hj:=nV) (st:=fun i _=>.c0 s s ((64*i:Nat):Int) YR (⟨(⟨#[]⟩:AA),(⟨#[]⟩:AA),(0:Int)⟩:Hz) (comps i Tz (bs s)).l keysL) (Inv:=fun _ _=>True)
  (out:=fun _ _=>some ⟨ofBytes (Me (comps (s.size / 64) Tz (bs s)).l),s.extract (64*(s.size / 64)) s.size,(s.size:Int)⟩)
  (fun m _ _=>by
   have hw:AU (YR.fCount+(s.size:Int))=(s.size:Int):=by show AU ((0:Int)+(s.size:Int))=_;grind [Ar]
   rw [nV];simp only [GAf,mk,hw,BU];rw [Ar (by omega) (by omega),PY (by grind),JBE (Reg.nP (bV bW _ _)) (by simp [Reg.l]),AO,Atd (by simp;omega)])
  (fun m i _ hi _=>.inr ⟨(),by
   have e:AU (((64*i:Nat):Int)+64)=((64*(i+1):Nat):Int):=by grind [Ar]
   rw [nV];simp only [GAf,mk,e,BU];rw [Atd (by grind),Atd (by simp;omega),MBE (bV bW _ _) (by simp;omega),AO,AvE,show 64*(i+1)=64*i+64 by omega,XBb,<-OBE],trivial,rfl⟩)
 rw [HAf,KAr,mk,e0,AO,PY (by rfl)];have hw:AU (YR.fCount+(s.size:Int))=(s.size:Int):=by show AU ((0:Int)+(s.size:Int))=_;grind [Ar]
 rw [hw,PY (by grind),show YR.FZ=ofBytes (Me Tz.l) from rfl,PBE bW,AO,NBE,AO,show YR.MW=⟨#[]⟩ from rfl,e1];rw [Atd (by grind)];exact key AX 0 () (DF _) (FP (by omega)) trivial
def bn (b:Int):Nat->List Int
 | 0=>[]
 | i+1=>(b / 256 ^ i % 256)::bn b i
def U7:Nat->Nat
 | 0=>0
 | i+1=>U7 i+(i+2)
theorem ZBb (x:Int) (j:Nat):x / 256 / 256 ^ j=x / 256 ^ (j+1):=by simp [Int.ediv_ediv_of_nonneg,Int.pow_succ,Int.mul_comm]
theorem AgT (h:Hz) (b:Int):∀ (j k i m:Nat) (x:Int) (t:List Int),k+j=i->i<=7->0<=x->x<=9223372036854775807->t.length<=1000->
  ArZ (m+j+1) (.c2 b (i:Int) x (k:Int) h t)=ArZ m (.c1 b ((i:Int) - 1) h (t++[x / 256 ^ j % 256])):=by
 intro j;induction j with
 | zero=>
  grind [Ar,MX,ArZ,ArH]
 | succ j ih=>
  intro k i m x t hk hi hx hx2 ht;have e:AU ((k:Int)+1)=((k+1:Nat):Int):=by grind [Ar]
  have e2:AU (x.tdiv 256)=x / 256:=by grind [Ar]
  rw [show m+(j+1)+1=(m+j+1)+1 by omega,ArZ];simp only [ArH,mk,e,e2];rw [Atd (by grind),ih (k+1) i m (x / 256) t (by omega) hi (by omega) (by omega) ht,ZBb]
theorem BBc (h:Hz) (b:Int) (hb:0<=b) (hb2:b<=9223372036854775807):∀ (i m:Nat) (t:List Int),i<=8->t.length+i<=900->ArZ (m+U7 i) (.c1 b ((i:Int) - 1) h t)=ArZ m (.c1 b (-1) h (t++bn b i)):=by
 intro i;induction i with
 | zero=>simp [U7,bn]
 | succ i ih=>
  intro m t hi ht;rw [U7,show m+(U7 i+(i+2))=(m+U7 i)+i+1+1 by omega,ArZ,show ((i+1:Nat):Int) - 1=(i:Int) by omega];simp only [ArH,mk];rw [Atd (by simp),show (0:Int)=((0:Nat):Int) from rfl,AgT h b i 0 i _ b t (by omega) (by omega) hb hb2 (by omega),ih m _ (by omega) (by grind)];simp [bn]
theorem CBc {b:Int} (h:0<=b) (h2:b<1099511627776):bn b 8=Ar7 b:=by simp only [bn,Ar7,List.cons.injEq,and_true];omega
theorem DBc (r:Reg) (hr:r.ok) (t:List Int) (ht:Gs t) (n:Nat) (hn:t.length=64*n) (hn2:n<=100):∀ (j i m:Nat),i+j=n->ArZ (m+j+1) (.c3 ((64*i:Nat):Int) t (comps i r t).l keysL)=some (ofBytes (Me (comps n r t).l)):=by
 intro j;induction j with
 | zero=>
  intro i m h;obtain rfl:i=n:=by omega
  rw [ArZ];simp only [ArH,mk];rw [PY (by simp_all),JBE (Reg.nP (bV hr _ _)) (by simp [Reg.l]),AO]
 | succ j ih=>
  intro i m h;have e:AU (((64*i:Nat):Int)+64)=((64*(i+1):Nat):Int):=by grind [Ar]
  have hl:((t.drop (64*i)).take (64*(i+1) - 64*i)).length=64:=by grind
  have hby:Gs ((t.drop (64*i)).take (64*(i+1) - 64*i)):=fun x hx=>ht x (List.mem_of_mem_drop (List.mem_of_mem_take hx))
  rw [show m+(j+1)+1=(m+j+1)+1 by omega,ArZ];simp only [ArH,mk,e,BU];rw [Atd (by grind),Atd (by simp;omega),MBE (bV hr _ _) (by rw [DK,hl]),AO,At6 hby,show 64*(i+1) - 64*i=64 by omega,<-OBE];exact ih (i+1) m (by omega)
theorem EBc (h:Hz) (r:List Int) (hr:r.length<64):∀ (j i m:Nat),i+j=(119 - r.length) % 64->ArZ (m+j+1) (.c0 h (r++128::List.replicate i 0))=ArZ m (.c1 (AU (8*h.fCount)) 7 h (r++128::List.replicate ((119 - r.length) % 64) 0)):=by
 intro j;induction j with
 | zero=>
  grind [ArZ,ArH]
 | succ j ih=>
  intro i m hi;rw [show m+(j+1)+1=(m+j+1)+1 by omega,ArZ];simp only [ArH,mk];rw [Atd (by grind),Atd (by grind)];have e:(r++128::List.replicate i (0:Int))++[0]=r++128::List.replicate (i+1) 0:=by simp [List.replicate_succ']
  grind
theorem FBc {r:Reg} (hr:r.ok) {s:AA} {n:Nat} (hs:s.size=n % 64) (hn:n<=1000000000):IAf ⟨ofBytes (Me r.l),s,(n:Int)⟩=some (ofBytes (Me (comps ((s.size+(Ia n).length) / 64) r (bs s++Ia n)).l)):=by
 have e0:Wn ⟨ofBytes (Me r.l),s,(n:Int)⟩=some true:=KBE (by rfl) (by grind) (by grind) (by simp_all);have hl:=bs_len s
 obtain ⟨m,hm⟩:∃ m,AX=((m+((s.size+(Ia n).length) / 64)+1+1+U7 8)+((119 - (bs s).length) % 64)+1):=⟨AX - (((s.size+(Ia n).length) / 64)+1+1+U7 8+((119 - (bs s).length) % 64)+1),by
  have:=FP (n:=1000) (by omega);grind [HAm,U7]⟩
 have hw:AU (8*(n:Int))=8*(n:Int):=Ar (by omega) (by omega);have hrep:(bs s++128::List.replicate ((119 - (bs s).length) % 64) 0)++bn (8*(n:Int)) 8=bs s++Ia n:=by grind [CBc,Ia]
 rw [IAf,LAr,mk,e0,AO,PY (by rfl),Atd (by grind),kX,Atd (by grind),hm];have h0:=EBc ⟨ofBytes (Me r.l),s,(n:Int)⟩ (bs s) (by omega) ((119 - (bs s).length) % 64) 0 (m+((s.size+(Ia n).length) / 64)+1+1+U7 8) (by omega);rw [List.replicate_zero] at h0;rw [h0,show (7:Int)=((8:Nat):Int) - 1 from rfl];simp only [hw];rw [BBc _ _ (by omega) (by omega) 8 _ _ (by omega) (by grind),hrep,ArZ];simp only [ArH,mk];rw [PY (by simp),PBE hr,AO,NBE,AO];have hb:Gs (bs s++Ia n):=fun x hx=>by
  rcases List.mem_append.1 hx with hx | hx
  ·exact Si s x hx
  ·exact VA4 n x hx
 have hlen:(bs s++Ia n).length=64*((s.size+(Ia n).length) / 64):=by grind [KBb]
 exact DBc r hr _ hb _ hlen (by grind [HAm]) ((s.size+(Ia n).length) / 64) 0 m (by omega)
theorem GBc (b:List Int):comps ((b.length+(Ia b.length).length) / 64) Tz (b++Ia b.length)=comps ((b.length % 64+(Ia b.length).length) / 64) (comps (b.length / 64) Tz b) (b.drop (64*(b.length / 64))++Ia b.length):=by rw [show (b.length+(Ia b.length).length) / 64=b.length / 64+(b.length % 64+(Ia b.length).length) / 64 by omega,EBE,GBb _ _ _ _ (by omega),List.drop_append_of_le_length (by omega)]
theorem ArI {s:AA} (hs:s.size<=1000000000):As0 s=some (Auo s):=by
 have h1:(s.extract (64*(s.size / 64)) s.size).size=s.size % 64:=by simp;omega
 have h:=FBc (bV bW (s.size / 64) (bs s)) (s:=s.extract (64*(s.size / 64)) s.size) h1 hs;rw [AvE,h1,List.take_of_length_le (by simp [bs_len])] at h;rw [As0,MAr,mk,MBb,AO,YBb hs,AO,h,AO,Auo,Tv,GBc,bs_len]
def Ato:Bf:=⟨Auo ⟨#[]⟩,0,[],0,ofBytes (List.replicate 32 0),0⟩
theorem vS:AtY=some Ato:=by rw [AtY,NAr,mk,ArI (by decide),AO,show (32:Int)=((32:Nat):Int) from rfl,VBD (by omega),AO];rfl
def Atn (n:Int):List Int:=if n > 127 then (128+n % 128)::Atn (n / 128) else [w8 n]
termination_by n.toNat
decreasing_by omega
theorem QBE:∀ (k:Nat) (n:Int),n<128 ^ k->(Atn n).length<=max k 1:=by intro k;induction k<;>grind [Atn]
theorem Aq3 {n:Int} (h:n<=9223372036854775807):(Atn n).length<=10:=by have:=QBE 10 n (by omega);omega
theorem Rk (n:Int):1<=(Atn n).length:=by grind [Atn]
theorem RBE {n:Int} (h:n > 127) (h2:n<=9223372036854775807):AU (n.tdiv 128)=n / 128/\w8 (AU (n.tmod 128+128))=128+n % 128/\w8 (AU (128+n.tmod 128))=128+n % 128:=by grind [Ar,MX]
theorem U3 {n:Int} (h:n<=9223372036854775807):Qv n=some (ofBytes (Atn n)):=by
 have key:∀ (n:Int) (m:Nat) (out:List Int),n<=9223372036854775807->(Atn n).length<=m->out.length+(Atn n).length<=1000->nX m (.c0 n out)=some (ofBytes (out++Atn n)):=by
  intro n;induction n using Atn.induct with
  | case1 n hn ih=>
   intro m out h1 h2 h3;rw [Atn,if_pos hn] at h2 h3 ⊢;simp only [List.length_cons] at h2 h3;obtain ⟨m,rfl⟩:∃ k,m=k+1:=⟨m - 1,by omega⟩
   grind [RBE,nX,JAf]
  | case2 n hn=>
   intro m out h1 h2 h3;rw [Atn,if_neg hn] at h2 h3 ⊢;simp at h2 h3;obtain ⟨m,rfl⟩:∃ k,m=k+1:=⟨m - 1,by omega⟩
   grind [nX,JAf]
 have hl:=Aq3 h;exact key n AX [] h (Nat.le_of_lt (FP (by omega))) (by grind)
def AuI (x:Ah):Bool:=AvO x.fId 1 1000 && AvO x.Aa 1 3 && AvO x.fNext 0 16 && ((x.Aa == 2) || ((x.fNext == 0) && !x.GI)) && ((x.Aa == 1) || !x.Fb) && (bif x.Aa == 3 then decide ((x.fValue.size:Int)<=100) else (x.fValue.size:Int) == 32)
theorem tu (x:Ah):Arq x=some (AuI x):=by simp only [Arq,OAr,mk,AuF,AO,AuI,bne];grind
theorem Tq {x:Ah} (h:AuI x=true):1<=x.Aa/\x.Aa<=3/\1<=x.fId/\x.fId<=1000/\0<=x.fNext/\x.fNext<=16/\x.fValue.size<=100:=by grind [AuI,DU]
theorem IBc (b:Bool) (n:Int):PAr b n=some (bif b then n else 0):=by cases b <;> rfl
theorem Oi {n:Int} (h:0<=n) (h2:n<=255):Nk n=some (ofBytes [n]):=by
 have e:n.tmod 256=n:=by grind
 simp only [Nk,QAr,mk,e];grind [MX]
def Ati (s:AA):AA:=ofBytes (Atn (s.size:Int))++s
theorem JBc {s:AA} (h:s.size<=140737488351232):(Ati s).size<=s.size+10:=by grind [Ati,DK,Aq3]
theorem KBc {s:AA} (h:s.size<=140737488351232):KAf s=some (Ati s):=by simp only [KAf,RAr,mk,U3 (n:=(s.size:Int)) (by omega),AO];have:=Aq3 (n:=(s.size:Int)) (by omega);rw [show decide ((ofBytes (Atn (s.size:Int))).size+s.size<=9223372036854775807)=true from Bg (by grind [DK])];rfl
def LC (x:Ah):Int:=(bif x.CY then 1 else 0)+(bif x.CZ then 2 else 0)+(bif x.GI then 4 else 0)+(bif x.Fb then 8 else 0)
theorem yC (x:Ah):0<=LC x/\LC x<=15:=by grind [LC]
theorem LBc (m:Nat) (a b c d:Bool):MAj (m+5) (.c0 0 4 0 [a,b,c,d])=some ((bif a then 1 else 0)+(bif b then 2 else 0)+(bif c then 4 else 0)+(bif d then 8 else 0)):=by cases a <;> cases b <;> cases c <;> cases d <;> kernel_rfl
theorem MBc (x:Ah):NAj x=some (LC x):=by
 obtain ⟨m,this⟩:∃ m,AX=m+5:=⟨AX - 5,rfl⟩
 unfold NAj JAz mk;rw [this];exact LBc _ _ _ _ _
def YS (x:Ah):AA:=ofBytes (Atn x.fId)++ofBytes [x.Aa]++ofBytes [LC x]++Ati x.fValue++ofBytes (Atn x.fNext)
def Hy (x:Ah):AA×Bool:=bif AuI x then (YS x,true) else (⟨#[]⟩,false)
theorem XA4 {x:Ah} (h:AuI x=true):(ofBytes (Atn x.fId)).size<=10/\(Ati x.fValue).size<=110/\(ofBytes (Atn x.fNext)).size<=10:=by
 obtain ⟨_,_,_,h1,_,h2,h3⟩:=Tq h
 grind [DK,Aq3,JBc]
theorem SBE {x:Ah} (h:AuI x=true):(YS x).size<=200:=by grind [XA4,YS,DK]
theorem tH (x:Ah):YT x=some (Hy x):=by
 simp only [YT,SAr,mk,tu,AO,Hy];cases h:AuI x;·rfl
 ·obtain ⟨k1,k2,k3,k4,k5,k6,k7⟩:=Tq h
  obtain ⟨z1,z2,z3⟩:=XA4 h
  have hf:=yC x;have e1:∀ n:Int,(ofBytes [n]).size=1:=fun n=>DK _
  have ef:AU (AU (AU ((bif x.CY then (1:Int) else 0)+(bif x.CZ then 2 else 0))+(bif x.GI then 4 else 0))+(bif x.Fb then 8 else 0))=LC x:=by unfold LC;cases x.CY <;> cases x.CZ <;> cases x.GI <;> cases x.Fb <;> rfl
  simp only [IBc,AO,ef,U3 (n:=x.fId) (by omega),Oi (n:=x.Aa) (by omega) (by omega),Oi hf.1 (by omega),KBc (s:=x.fValue) (by omega),U3 (n:=x.fNext) (by omega),AIB,e1];simp only [DZ,Aw,A8]
  rw [show decide ((ofBytes (Atn x.fId)).size+1<=9223372036854775807)=true from Bg (by omega),show decide ((ofBytes (Atn x.fId)).size+1+1<=9223372036854775807)=true from Bg (by omega),
   show decide ((ofBytes (Atn x.fId)).size+1+1+(Ati x.fValue).size<=9223372036854775807)=true from Bg (by omega),show decide ((ofBytes (Atn x.fId)).size+1+1+(Ati x.fValue).size+(ofBytes (Atn x.fNext)).size<=9223372036854775807)=true from Bg (by omega)]
  rfl
def Oh (x:Ah):Bool:=(x.fId == 0) && ((x.Aa == 0) && ((x.CY == false) && ((x.CZ == false) && ((x.GI == false) && ((x.Fb == false) && (((ByteArray.toList x.fValue) == (ByteArray.toList (⟨#[]⟩:AA))) && ((x.fNext == 0) && true)))))))
theorem TBE (x:Ah):((x.fId == 0) && ((x.Aa == 0) && ((x.CY == false) && ((x.CZ == false) && ((x.GI == false) && ((x.Fb == false) && (((ByteArray.toList x.fValue) == (ByteArray.toList (⟨#[]⟩:AA))) && ((x.fNext == 0) && true))))))))=Oh x:=rfl
def As7 (s:AA):Bool:=(ByteArray.toList s) == (ByteArray.toList (⟨#[]⟩:AA))
theorem YA4 (s:AA):((ByteArray.toList s) == (ByteArray.toList (⟨#[]⟩:AA)))=As7 s:=rfl
def noT:AA×Bool:=((⟨#[]⟩:AA),false)
def As2 (r:Aq):AA×Bool:=
 bif r.Aa == 1 then (bif (r.fText.size:Int) == 32 && r.DY == 0 && Oh r.BK then (ofBytes [1]++r.fText,true) else noT)
 else bif r.Aa == 2 then (bif As7 r.fText && Oh r.BK && AvO r.DY 0 3 then (ofBytes [2]++ofBytes (Atn r.DY),true) else noT)
 else bif r.Aa == 3 then (bif (Hy r.BK).2 && As7 r.fText && r.DY == 0 then (ofBytes [3]++(Hy r.BK).1,true) else noT)
 else bif r.Aa == 4 then (bif As7 r.fText && Oh r.BK && AvO r.DY 1 1000 then (ofBytes [4]++ofBytes (Atn r.DY),true) else noT)
 else noT
theorem JAm {n a b:Int} (hb:b<=1000) (h:AvO n a b=true) (k:Int):(ofBytes [k]).size+(ofBytes (Atn n)).size<=9223372036854775807:=by grind [DU,Aq3,DK]
theorem UBE {x:Ah} (h:(Hy x).2=true) (k:Int):(ofBytes [k]).size+(Hy x).1.size<=9223372036854775807:=by grind [Hy,SBE,DK]
theorem cO (r:Aq):cZ r=some (As2 r):=by
 have h1:(⟨#[1]⟩:AA)=ofBytes [1]:=rfl;have h2:(⟨#[2]⟩:AA)=ofBytes [2]:=rfl;have h3:(⟨#[3]⟩:AA)=ofBytes [3]:=rfl;have h4:(⟨#[4]⟩:AA)=ofBytes [4]:=rfl;simp only [cZ,TAr,mk,AuF,tH,AO,TBE,h1,h2,h3,h4];simp only [YA4,As2];cases r.Aa == 1
 ·simp only [Aw];cases r.Aa == 2
  ·simp only [Aw];cases r.Aa == 3
   ·simp only [Aw];cases r.Aa == 4;·rfl
    ·cases As7 r.fText <;> cases Oh r.BK <;> (try rfl);cases h:AvO r.DY 1 1000;·rfl
     ·have h':=h;rw [DU] at h';simp only [A8,U3 (n:=r.DY) (by omega),AO,Bool.and_self,Bg (JAm (by omega) h 4)]
   ·cases h:(Hy r.BK).2;·rfl
    ·cases As7 r.fText <;> cases r.DY == 0 <;> (try rfl);simp_all [UBE]
  ·cases As7 r.fText <;> cases Oh r.BK <;> (try rfl);cases h:AvO r.DY 0 3;·rfl
   ·have h':=h;rw [DU] at h';simp only [A8,U3 (n:=r.DY) (by omega),AO,Bool.and_self,Bg (JAm (by omega) h 2)]
 ·cases h:(r.fText.size:Int) == 32 <;> cases r.DY == 0 <;> cases Oh r.BK <;> (try rfl);grind [DK]
def rise (last:Int):Int->List Ah->Bool
 | _,[]=>true
 | p,x::xs=>AuI x && (!decide (x.fId > last) && (!decide (p>=x.fId) && rise last x.fId xs))
def P5 (l:List Ah):Nat->Int
 | 0=>0
 | i+1=>((l[i]?).map (·.fId)).getD 0
theorem ZA4 {l:List Ah} {i:Nat} (hi:i<l.length):P5 l (i+1)=l[i].fId:=by simp [P5,hi]
theorem VBE {l:List Ah} {last:Int} {i:Nat} (hi:i<l.length):rise last (P5 l i) (l.drop i)=(AuI l[i] && (!decide (l[i].fId > last) && (!decide (P5 l i>=l[i].fId) && rise last (P5 l (i+1)) (l.drop (i+1))))):=by grind [drop_at,rise,ZA4]
def IW (b:Bf):Bool:=(b.Bv.size:Int) == 32 && ((b.Dp.size:Int) == 32 && (AvO b.DR 0 3 && (decide ((b.Ag.length:Int)<=8) && (AvO b.BR 0 1000 && (AvO b.fCount 0 10000 && rise b.BR 0 b.Ag)))))
theorem NBc {b:Bf} (hb:b.Ag.length<=140737488351232):∀ m i,i<=b.Ag.length->b.Ag.length - i<m->YU m (.c0 i b)=some (rise b.BR (P5 b.Ag i) (b.Ag.drop i)):=fun m i h1 h2=>
 PL (A:=Unit) (n:=b.Ag.length) (Hj:=YU) (st:=fun i _=>.c0 i b) (Inv:=fun _ _=>True) (out:=fun i _=>some (rise b.BR (P5 b.Ag i) (b.Ag.drop i)))
  (fun m _ _=>by
   simp only [YU,MAf,mk];rw [show decide ((b.Ag.length:Int)<(b.Ag.length:Int))=false from D5 (by omega),List.drop_of_length_le (Nat.le_refl _)];rfl)
  (fun m i _ hi _=>by
   have hw:AU ((i:Int)+1)=((i+1:Nat):Int):=by grind [Ar]
   simp only [VBE hi];simp only [YU,MAf,mk,BU,getD_at hi,tu,AO,hw];rw [show decide ((i:Int)<(b.Ag.length:Int))=true from Bg (by omega),show decide ((0:Int)<=(i:Int))=true from Bg (by omega)];simp only [Bool.and_self,A8];cases h1:AuI b.Ag[i];·simp
   ·cases h2:decide (b.Ag[i].fId > b.BR)
    ·by_cases h0:i=0;·subst h0;refine .inr ⟨(),rfl,trivial,?_⟩;rw [show decide (P5 b.Ag 0>=b.Ag[0].fId)=false from D5 (by have:=(Tq h1).2.2.1;grind [P5])];rfl
     ·obtain ⟨j,rfl⟩:∃ j,i=j+1:=⟨i - 1,by omega⟩
      have hj:AU (((j+1:Nat):Int) - 1)=(j:Int):=by grind [Ar]
      have hjl:j<b.Ag.length:=by omega
      rw [ZA4 hjl];simp only [hj,BU,getD_at hjl,DZ,Bool.not_false,Aw,Bool.true_and];rw [show decide (((j+1:Nat):Int) > 0)=true from Bg (by omega),show decide ((0:Int)<=(j:Int))=true from Bg (by omega),show decide ((j:Int)<(b.Ag.length:Int))=true from Bg (by omega)];simp only [Bool.and_self,A8];cases h3:decide (b.Ag[j].fId>=b.Ag[j+1].fId);all_goals simp
    simp) m i () h1 h2 trivial
theorem aG {b:Bf} (hb:b.Ag.length<=140737488351232):cu b=some (IW b):=by have h0:YU AX (.c0 0 b)=some (rise b.BR 0 b.Ag):=NBc hb AX 0 (DF _) (FP (by omega));simp only [cu,VAr,mk,AuF,AO,IW,bne,h0];grind
theorem AK2 {b:Bf} (h:b.Ag.length<=2932031007317):YV b=some b:=by rw [YV,WAr,mk,Atd (by grind)];try rfl
def AtT (xs:List Ah) (t:Int):Option Ah:=xs.find? fun x=>x.fId == t
def YG:Ah:=⟨0,0,false,false,false,false,⟨#[]⟩,0⟩
theorem je {b:Bf} {t:Int} (h:b.Ag.length<=140737488351232):U9 b t=some (match AtT b.Ag t with | some x=>(x,true) | none=>(YG,false)):=by
 have key:∀ m i,i<=b.Ag.length->b.Ag.length - i<m->dA m (.c0 t i b YG)=some (match AtT (b.Ag.drop i) t with | some x=>(x,true) | none=>(YG,false)):=fun m i h1 h2=>
  PL (A:=Unit) (n:=b.Ag.length) (Hj:=dA) (st:=fun i _=>.c0 t i b YG) (Inv:=fun _ _=>True) (out:=fun i _=>some (match AtT (b.Ag.drop i) t with | some x=>(x,true) | none=>(YG,false)))
   (fun m _ _=>by simp [dA,NAf,mk,AtT,YG])
   (fun m i _ hi _=>by
    have hw:AU ((i:Int)+1)=((i+1:Nat):Int):=by grind [Ar]
    simp only [dA,NAf,mk,BU,getD_at hi,hw,drop_at hi,AtT,List.find?_cons];cases hq:b.Ag[i].fId == t;all_goals simp_all) m i () h1 h2 trivial
 have h0:=key AX 0 (DF _) (FP (by omega));exact h0
theorem wB {r:Aq} (h:(As2 r).2=true):(r.Aa=1/\r.fText.size=32)\/(r.Aa=2/\0<=r.DY/\r.DY<=3)\/(r.Aa=3/\AuI r.BK=true)\/(r.Aa=4/\1<=r.DY/\r.DY<=1000):=by
 rw [As2] at h;by_cases h1:r.Aa=1
 ·rw [show (r.Aa == 1)=true by simp_all,A8] at h;cases hc:((r.fText.size:Int) == 32 && r.DY == 0 && Oh r.BK)
  ·rw [hc] at h;cases h
  grind
 rw [show (r.Aa == 1)=false by simp_all,Aw] at h;by_cases h2:r.Aa=2
 ·rw [show (r.Aa == 2)=true by simp_all,A8] at h;cases hc:(As7 r.fText && Oh r.BK && AvO r.DY 0 3)
  ·rw [hc] at h;cases h
  simp_all [DU]
 rw [show (r.Aa == 2)=false by simp_all,Aw] at h;by_cases h3:r.Aa=3
 ·rw [show (r.Aa == 3)=true by simp_all,A8] at h;cases hc:((Hy r.BK).2 && As7 r.fText && r.DY == 0)
  ·rw [hc] at h;cases h
  grind [Hy]
 rw [show (r.Aa == 3)=false by simp_all,Aw] at h;by_cases h4:r.Aa=4
 ·rw [show (r.Aa == 4)=true by simp_all,A8] at h;cases hc:(As7 r.fText && Oh r.BK && AvO r.DY 1 1000)
  ·rw [hc] at h;cases h
  simp_all [DU]
 rw [show (r.Aa == 4)=false by simp_all] at h;cases h
theorem V7 (r:Aq):(As2 r).1.size<=300:=by
 rw [As2];have one:∀ n:Int,(ofBytes [n]).size=1:=fun n=>by rfl
 cases hk1:(r.Aa == 1)
 ·rw [Aw];cases hk2:(r.Aa == 2)
  ·rw [Aw];cases hk3:(r.Aa == 3)
   ·rw [Aw];cases hk4:(r.Aa == 4)
    ·exact DF _
    ·rw [A8];cases hc:(As7 r.fText && Oh r.BK && AvO r.DY 1 1000)
     ·exact DF _
     grind [DU,Aq3,DK]
   ·rw [A8];cases hc:((Hy r.BK).2 && As7 r.fText && r.DY == 0)
    ·exact DF _
    grind [Hy,SBE]
  ·rw [A8];cases hc:(As7 r.fText && Oh r.BK && AvO r.DY 0 3)
   ·exact DF _
   grind [DU,Aq3,DK]
 ·rw [A8];cases hc:((r.fText.size:Int) == 32 && r.DY == 0 && Oh r.BK)
  ·exact DF _
  grind
def Np:List Ah->Int->Nat->Option Nat
 | [],_,_=>none
 | x::xs,t,i=>if x.fId == t then some i else Np xs t (i+1)
theorem WBE (t:Int):∀ (xs:List Ah) (i:Nat),match Np xs t i with | some j=>i<=j/\j<i+xs.length/\AtT xs t=xs[j - i]? | none=>AtT xs t=none:=by intro xs;induction xs<;>grind [Np,AtT]
theorem Asq {b:Bf}:IW b=true↔b.Bv.size=32/\b.Dp.size=32/\(0<=b.DR/\b.DR<=3)/\b.Ag.length<=8/\(0<=b.BR/\b.BR<=1000)/\(0<=b.fCount/\b.fCount<=10000)/\rise b.BR 0 b.Ag=true:=by grind [IW,DU]
theorem Ar5 {last p:Int} {x:Ah} {xs:List Ah}:rise last p (x::xs)=true↔AuI x=true/\x.fId<=last/\p<x.fId/\rise last x.fId xs=true:=by simp [rise]
theorem Vj {last:Int}:∀ {xs:List Ah} {p:Int},rise last p xs=true->∀ x ∈ xs,p<x.fId/\x.fId<=last/\AuI x=true
 | [],_,_,x,hx=>by cases hx
 | y::ys,p,h,x,hx=>by
  obtain ⟨h1,h2,h3,h4⟩:=Ar5.1 h
  rcases List.mem_cons.1 hx with rfl | hx
  ·simp_all
  ·have:=Vj h4 x hx;grind
theorem XBE {last last2:Int} (hl:last<=last2):∀ {xs:List Ah} {p p2:Int},p2<=p->rise last p xs=true->rise last2 p2 xs=true
 | [],_,_,_,_=>rfl
 | y::ys,p,p2,hp,h=>by
  obtain ⟨h1,h2,h3,h4⟩:=Ar5.1 h
  exact Ar5.2 ⟨h1,by omega,by omega,XBE hl (Int.le_refl _) h4⟩
def Rq (x:Ah) (ts:List Ah):List Ah:=ts.filter fun t=>decide (t.fId<x.fId)
def X9 (x:Ah) (ts:List Ah):List Ah:=ts.filter fun t=>decide (t.fId > x.fId)
def putAt (ts:List Ah) (x:Ah):List Ah:=Rq x ts++x::X9 x ts
def without (ts:List Ah) (id:Int):List Ah:=ts.filter fun t=>t.fId != id
theorem OBc {last:Int} {x:Ah}:∀ {xs:List Ah} {p:Int},x.fId<=p->rise last p xs=true->Rq x xs=[]/\X9 x xs=xs/\without xs x.fId=xs:=by intro xs p hp h;have ha:=Vj h;refine ⟨List.filter_eq_nil_iff.2 fun t ht=>?_,List.filter_eq_self.2 fun t ht=>?_,List.filter_eq_self.2 fun t ht=>?_⟩;all_goals grind
theorem YBE {id:Int}:∀ {xs:List Ah} {i j:Nat},Np xs id i=some j->i<=j/\∃ x ∈ xs,x.fId=id:=by intro xs;induction xs<;>grind [Np]
theorem BA5 {last:Int} {x:Ah}:∀ {xs:List Ah} {p:Int} {i j:Nat},rise last p xs=true->Np xs x.fId i=some j->xs.set (j - i) x=putAt xs x/\(xs.take (j - i)++xs.drop (j - i+1))=without xs x.fId:=by
 intro xs;induction xs with
 | nil=>intro p i j _ h;cases h
 | cons y ys ih=>
  intro p i j hr h;obtain ⟨h1,h2,h3,h4⟩:=Ar5.1 hr
  rw [Np] at h;split at h
  ·rename_i hy;have hy:=beq_iff_eq.1 hy;cases h;obtain ⟨f1,f2,f3⟩:=OBc (x:=x) (by omega) h4
   grind [putAt,Rq,X9,without]
  ·rename_i hy;obtain ⟨h5,z,h6,h7⟩:=YBE h
   have h8:=Vj h4 z h6;grind [putAt,Rq,X9,without]
theorem ZBE {last:Int} {x:Ah} {xs:List Ah} {p:Int} (h:rise last p xs=true) (hx:last<x.fId):putAt xs x=xs++[x]/\AtT xs x.fId=none:=by have ha:=Vj h;grind [putAt,Rq,X9,List.filter_eq_self,List.filter_eq_nil_iff,AtT]
theorem PBc {last:Int} {x:Ah} (hx:AuI x=true) (hl:last<x.fId):∀ {xs:List Ah} {p:Int},p<x.fId->rise last p xs=true->rise x.fId p (xs++[x])=true:=by
 intro xs;induction xs with
 | nil=>intro p hp _;exact Ar5.2 ⟨hx,Int.le_refl _,hp,rfl⟩
 | cons y ys ih=>
  grind [Ar5]
theorem QBc {last:Int} {x:Ah} (hx:AuI x=true):∀ {xs:List Ah} {p:Int} {i j:Nat},rise last p xs=true->Np xs x.fId i=some j->rise last p (xs.set (j - i) x)=true:=by
 intro xs;induction xs with
 | nil=>simp_all
 | cons y ys ih=>
  intro p i j hr h;obtain ⟨h1,h2,h3,h4⟩:=Ar5.1 hr
  rw [Np] at h;split at h;·simp_all [Ar5]
  ·have h5:=(YBE h).1;have e:j - i=(j - (i+1))+1:=by omega
   simp_all [Ar5]
theorem RBc {last:Int} (id:Int):∀ {xs:List Ah} {p:Int},rise last p xs=true->rise last p (without xs id)=true:=by
 intro xs;induction xs with
 | nil=>intro p _;rfl
 | cons y ys ih=>
  intro p h;obtain ⟨h1,h2,h3,h4⟩:=Ar5.1 h
  rw [without,List.filter_cons];split;·exact Ar5.2 ⟨h1,h2,h3,ih h4⟩
  ·exact XBE (Int.le_refl _) (by omega) (ih h4)
def grown (x y:Ah):Bool:=y.Aa == x.Aa && ((bs y.fValue == bs x.fValue) && (y.GI == x.GI && (y.Fb == x.Fb && (decide (x.fNext<=y.fNext) && ((y.CY || !x.CY) && (y.CZ || !x.CZ))))))
def nY:Bf:=⟨⟨#[]⟩,0,[],0,⟨#[]⟩,0⟩
def Vu (b:Bf) (x:Ah):Option (List Ah×Int):=match AtT b.Ag x.fId with
 | some old=>bif grown old x then some (putAt b.Ag x,b.BR) else none
 | none=>bif x.fId != b.BR+1 || decide ((b.Ag.length:Int)>=8) then none else some (b.Ag++[x],x.fId)
def Ara (b:Bf) (r:Aq):Bf×Bool:=
 bif !(IW b) || (!(As2 r).2 || decide (b.fCount>=10000)) then (nY,false)
 else bif r.Aa == 1 then (⟨r.fText,0,b.Ag,b.BR,Auo (b.Dp++(As2 r).1),b.fCount+1⟩,true)
 else bif r.Aa == 2 then (⟨b.Bv,r.DY,b.Ag,b.BR,Auo (b.Dp++(As2 r).1),b.fCount+1⟩,true)
 else bif r.Aa == 3 then (match Vu b r.BK with
  | some p=>(⟨b.Bv,b.DR,p.1,p.2,Auo (b.Dp++(As2 r).1),b.fCount+1⟩,true)
  | none=>(nY,false))
 else (match AtT b.Ag r.DY with
  | some _=>(⟨b.Bv,b.DR,without b.Ag r.DY,b.BR,Auo (b.Dp++(As2 r).1),b.fCount+1⟩,true)
  | none=>(nY,false))
theorem CA5 {xs:List Ah} {id:Int}:(∃ x j,AtT xs id=some x/\Np xs id 0=some j/\j<xs.length/\xs[j]?=some x/\x.fId=id)\/(AtT xs id=none/\Np xs id 0=none):=by grind [WBE,AtT]
theorem Vs {b:Bf} {r:Aq} (h:(Ara b r).2=true):IW b=true/\(As2 r).2=true/\b.fCount<10000/\IW (Ara b r).1=true/\(Ara b r).1.fCount=b.fCount+1/\(Ara b r).1.Dp=Auo (b.Dp++(As2 r).1):=by
 rw [Ara] at h ⊢;cases h1:IW b;·simp_all
 cases h2:(As2 r).2;·simp_all
 by_cases h3:b.fCount>=10000;·simp_all
 rw [h1,h2,D5 h3] at h;rw [D5 h3];simp only [DZ,Bool.or_false,Aw] at h ⊢;obtain ⟨b1,b2,b3,b4,b5,b6,b7⟩:=Asq.1 h1
 refine ⟨trivial,trivial,by omega,?_⟩;have hd:∀ s,(Auo s).size=32:=IQ;rcases wB h2 with ⟨hk,hz⟩ | ⟨hk,hz⟩ | ⟨hk,hz⟩ | ⟨hk,hz⟩
 ·grind [Asq]
 ·grind [Asq]
 ·rw [hk] at h ⊢;simp only [show ((3:Int) == 1)=false from rfl,show ((3:Int) == 2)=false from rfl,show ((3:Int) == 3)=true from rfl,A8,Aw] at h ⊢;rw [Vu] at h ⊢;rcases CA5 (xs:=b.Ag) (id:=r.BK.fId) with ⟨x,j,t1,t2,t3,t4,t5⟩ | ⟨t1,t2⟩
  ·rw [t1] at h ⊢;simp only at h ⊢;cases hg:grown x r.BK;·simp_all
   ·have e:=(BA5 b7 t2).1;rw [Nat.sub_zero] at e;have hrs:=QBc hz b7 t2;grind [Asq]
  ·rw [t1] at h ⊢;simp only at h ⊢;cases hg:(r.BK.fId != b.BR+1 || decide ((b.Ag.length:Int)>=8))
   ·rw [Bool.or_eq_false_iff,bne_eq_false_iff_eq,decide_eq_false_iff_not] at hg;have hid:r.BK.fId<=1000:=by simp_all [AuI,DU]
    exact ⟨Asq.2 ⟨b1,hd _,b3,by grind,by grind,by grind,PBc hz (by omega) (by omega) b7⟩,rfl,rfl⟩
   simp_all
 grind [Asq,without,RBc]
theorem Vk (a b:AA):(a.toList == b.toList)=(bs a == bs b):=by grind [toList_inj,Asj]
theorem SBc (x y:Ah):yD x y=some (grown x y):=by
 rw [yD,YAr,mk,grown,Vk,show (bs x.fValue == bs y.fValue)=(bs y.fValue == bs x.fValue) by grind,
  show (x.Aa == y.Aa)=(y.Aa == x.Aa) by grind]
 grind
theorem DA5 {f:Ah->Bool} {l:List Ah} {i:Nat} (h:i<l.length):(l.take (i+1)).filter f=(l.take i).filter f++(bif f l[i] then [l[i]] else []):=by grind [take_at]
theorem AWI {l:List Ah} {x:Ah} (hl:l.length<=1000000000):yE l x=some (putAt l x):=by
 have k1:∀ (j i m:Nat),i+j=l.length->VA (m+j) (.c1 l (i:Int) x (Rq x l++[x]++(l.take i).filter (fun t=>decide (t.fId > x.fId))))=VA m (.c1 l (l.length:Int) x (Rq x l++[x]++X9 x l)):=by
  intro j;induction j with
  | zero=>(intro i m h;obtain rfl:i=l.length:=by omega);rw [List.take_length];rfl
  | succ j ih=>
   intro i m h;have hi:i<l.length:=by omega
   have e:AU ((i:Int)+1)=((i+1:Nat):Int):=by grind [Ar]
   have h2:=ih (i+1) m (by omega);rw [DA5 hi] at h2;have hf1:(Rq x l).length<=l.length:=List.length_filter_le ..;have hf2:((l.take i).filter (fun t=>decide (t.fId > x.fId))).length<=i:=Nat.le_trans (List.length_filter_le ..) (by grind);rw [show m+(j+1)=(m+j)+1 by omega,VA];simp only [nZ,mk,e,BU,getD_at hi];grind
 have k0:∀ (j i m:Nat),i+j=l.length->VA (m+1+l.length+1+j) (.c0 l (i:Int) x ((l.take i).filter (fun t=>decide (t.fId<x.fId))))=some (putAt l x):=by
  intro j;induction j with
  | zero=>
   intro i m h;obtain rfl:i=l.length:=by omega
   have hf1:(Rq x l).length<=l.length:=List.length_filter_le ..;rw [List.take_length,show l.filter (fun t=>decide (t.fId<x.fId))=Rq x l from rfl,Nat.add_zero,VA];simp only [nZ,mk];rw [PY (by simp),Atd (by grind)];have h2:=k1 l.length 0 (m+1) (by omega);grind [VA,nZ,putAt]
  | succ j ih=>
   intro i m h;have hi:i<l.length:=by omega
   have e:AU ((i:Int)+1)=((i+1:Nat):Int):=by grind [Ar]
   have h2:=ih (i+1) m (by omega);rw [DA5 hi] at h2;grind [VA,nZ,BU]
 obtain ⟨m,hm⟩:∃ m,AX=m+1+l.length+1+l.length:=⟨AX - (2*l.length+2),by have:=FP (n:=2*l.length+2) (by omega);omega⟩
 rw [yE,ZAr,hm];have h:=k0 l.length 0 m (by omega);assumption
theorem EA5 {b:Bf} {r:Aq} (hb:b.Ag.length<=140737488351232):Ur b r=some (Ara b r):=by
 have hok:(Ara b r).2=true->_:=Vs (b:=b) (r:=r);rw [Ur,AOO,mk,cO,AO,aG hb,AO];rw [Ara] at hok ⊢;cases h1:IW b;·rfl
 cases h2:(As2 r).2;·rfl
 obtain ⟨b1,b2,b3,b4,b5,b6,b7⟩:=Asq.1 h1
 by_cases h3:b.fCount>=10000
 ·have h3':(b.fCount == 10000)=true:=by grind
  simp only [Bg h3,h3',DZ,Bool.or_true,Bool.false_or,Aw,A8];rfl
 have hz:=V7 r;have hw:AU (b.fCount+1)=b.fCount+1:=Ar (by omega) (by omega);have hdig:=ArI (s:=b.Dp++(As2 r).1) (by grind);have hsz:decide (b.Dp.size+(As2 r).1.size<=9223372036854775807)=true:=by grind
 have h3':(b.fCount == 10000)=false:=by grind
 rw [h1,h2,D5 h3] at hok;simp only [DZ,Bool.or_self,Aw] at hok;simp only [D5 h3,h3',DZ,Bool.or_self,Aw,AK2 (show b.Ag.length<=2932031007317 by omega),hdig,hsz,hw,AO,A8];rcases wB h2 with ⟨hk,hc⟩ | ⟨hk,hc⟩ | ⟨hk,hc⟩ | ⟨hk,hc⟩
 ·grind [aG]
 ·grind [aG]
 ·rw [hk] at hok ⊢;simp only [show ((3:Int) == 1)=false from rfl,show ((3:Int) == 2)=false from rfl,show ((3:Int) == 3)=true from rfl,A8,Aw] at hok ⊢;have hid:=(Tq hc)
  have hpl:(putAt b.Ag r.BK).length<=1000:=by grind [Rq,X9,putAt]
  rw [je hb,AO];rw [Vu] at hok ⊢;cases ht:AtT b.Ag r.BK.fId with
  | some o=>
   rw [ht] at hok;simp only [A8,SBc,AO,DZ,Aw,AWI (show b.Ag.length<=1000000000 by omega)] at hok ⊢;cases hg:grown o r.BK;·rfl
   grind [aG]
  | none=>
   rw [ht] at hok;have hw2:AU (b.BR+1)=b.BR+1:=Ar (by omega) (by omega);simp only [Aw,Bool.not_false,A8,hw2,AWI (show b.Ag.length<=1000000000 by omega),AO] at hok ⊢;cases hg:(r.BK.fId != b.BR+1)
   ·rw [hg] at hok;rw [bne_eq_false_iff_eq] at hg;have hpn:=(ZBE b7 (show b.BR<r.BK.fId by omega)).1;by_cases h8:(b.Ag.length:Int)>=8;·rw [Bg h8,Aw,Atd (by grind)];rfl
    grind [aG]
   ·rfl
 ·rw [hk] at hok ⊢;simp only [show ((4:Int) == 1)=false from rfl,show ((4:Int) == 2)=false from rfl,show ((4:Int) == 3)=false from rfl,show ((4:Int) == 4)=true from rfl,A8,Aw] at hok ⊢;rw [je hb,AO];cases ht:AtT b.Ag r.DY with
  | none=>rfl
  | some o=>
   rw [ht] at hok;simp only [DZ,Aw] at hok ⊢;have h5:=(hok trivial).2.2.2.1;have key:∀ (j i m:Nat),i+j=b.Ag.length->ng (m+j+1) (.c0 (As2 r).1 (i:Int) b r ⟨#[]⟩ 0 0 ⟨#[]⟩ 0 b.Bv b.DR b.BR b.Dp b.fCount ((b.Ag.take i).filter (fun t=>t.fId != r.DY)) [] b.Ag)=some (⟨b.Bv,b.DR,without b.Ag r.DY,b.BR,Auo (b.Dp++(As2 r).1),b.fCount+1⟩,true):=by
    intro j;induction j with
    | zero=>
     grind [without,List.take_length,ng,OAf,aG]
    | succ j ih=>
     intro i m hi;have hil:i<b.Ag.length:=by omega
     have e:AU ((i:Int)+1)=((i+1:Nat):Int):=by grind [Ar]
     have h6:=ih (i+1) m (by omega);rw [DA5 hil] at h6;have hf2:((b.Ag.take i).filter (fun t=>t.fId != r.DY)).length<=i:=Nat.le_trans (List.length_filter_le ..) (by grind);rw [show m+(j+1)+1=(m+j+1)+1 by omega,ng];grind [OAf]
   obtain ⟨m,hm⟩:=gm (n:=b.Ag.length) (by omega)
   have h0:=key b.Ag.length 0 m (by omega);simp_all
def xb (x y:Int):Int:=w8 (((BitVec.toNat ((BitVec.ofInt (IntKind.bits IntKind.u8) x) ^^^ (BitVec.ofInt (IntKind.bits IntKind.u8) y))):Nat):Int)
theorem FA5 (x y:Int):w8 (((BitVec.toNat ((BitVec.ofInt (IntKind.bits IntKind.u8) x) ^^^ (BitVec.ofInt (IntKind.bits IntKind.u8) y))):Nat):Int)=xb x y:=rfl
theorem BBF (x y:Int):0<=xb x y/\xb x y<=255:=by grind [xb,ZP]
theorem TBc {x:Int} (h:0<=x/\x<=255) (y:Int):xb (xb x y) y=x:=by
 have e:∀ (a b:BitVec 8),BitVec.ofInt 8 (((a ^^^ b).toNat:Nat):Int) ^^^ b=a:=by simp [BitVec.xor_assoc]
 have h8:∀ (a b:BitVec 8),w8 (((a ^^^ b).toNat:Nat):Int)=(((a ^^^ b).toNat:Nat):Int):=fun a b=>by grind [MX]
 unfold xb;show w8 (((BitVec.ofInt 8 (w8 (((BitVec.ofInt 8 x ^^^ BitVec.ofInt 8 y).toNat:Nat):Int)) ^^^ BitVec.ofInt 8 y).toNat:Nat):Int)=x;rw [h8 (BitVec.ofInt 8 x),e,BitVec.toNat_ofInt,ZP];omega
def Qp (x:Int) (l:List Int):List Int:=l.map fun b=>xb b x
theorem KAm (x:Int) (l:List Int):(Qp x l).length=l.length:=by simp [Qp]
theorem LAm (x:Int) (l:List Int):Gs (Qp x l):=fun n hn=>by
 simp only [Qp,List.mem_map] at hn;obtain ⟨b,_,rfl⟩:=hn
 exact BBF _ _
def Ky (k:List Int):List Int:=k++List.replicate (64 - k.length) 0
def Vz (k:List Int):List Int:=if 64<k.length then Ky (Tv k) else Ky k
theorem UBc (k:List Int):(Vz k).length=64:=by grind [Vz,Ky,HBE]
def Vy (k s:List Int):List Int:=Tv (Qp 92 (Vz k)++Tv (Qp 54 (Vz k)++s))
def ah (k s:AA):AA:=ofBytes (Vy (bs k) (bs s))
theorem CBF (k s:List Int):(Vy k s).length=32:=HBE _
theorem MAm (k s:List Int):Gs (Vy k s):=IBE _
theorem DBF (k s:AA):bs (ah k s)=Vy (bs k) (bs s):=At6 (MAm _ _)
theorem VBc {α:Type} (f:α->α) {l:List α} {i:Nat} (h:i<l.length):((l.take i).map f++l.drop i).set i (f l[i])=(l.take (i+1)).map f++l.drop (i+1):=by grind [drop_at,bQ]
theorem WBc (k:List Int) {i:Nat}:(Ky k).getD i 0=k.getD i 0:=by grind [Ky]
theorem XBc (f:Int->Int) {l:List Int} (hl:l.length=64) {i:Nat} (h:i<64) (y:Int) (hy:y=f (l.getD i 0)):((l.take i).map f++List.replicate (64 - i) 0).set i y=(l.take (i+1)).map f++List.replicate (64 - (i+1)) 0:=by rw [show 64 - i=(64 - (i+1))+1 by omega,List.replicate_succ,bQ (by grind),take_at (by omega),hy,getD_at (by omega),List.map_append,List.append_assoc];rfl
theorem YBc {k:AA} (hk:k.size<=64) (x:Int):dB AX (.c0 k x (0:Int) (List.replicate (64:Int).toNat (0:Int)))=some (ofBytes (Qp x (Ky (bs k)))):=by
 have hl:(Ky (bs k)).length=64:=by simp_all [Ky,bs_len]
 have key:=PL (A:=Unit) (n:=64) (Hj:=dB) (st:=fun i _=>.c0 k x (i:Int) (((Ky (bs k)).take i).map (fun b=>xb b x)++List.replicate (64 - i) 0)) (Inv:=fun _ _=>True) (out:=fun _ _=>some (ofBytes (Qp x (Ky (bs k)))))
  (fun m _ _=>by
   rw [dB];simp only [PAf,mk];rw [PY (by simp),List.take_of_length_le (by omega),Nat.sub_self,List.replicate_zero,List.append_nil];rfl)
  (fun m i _ hi _=>.inr ⟨(),by
   have e:AU ((i:Int)+1)=((i+1:Nat):Int):=by grind [Ar]
   have hlen:(((Ky (bs k)).take i).map (fun b=>xb b x)++List.replicate (64 - i) 0).length=64:=by grind
   have hm:(((Ky (bs k)).take i).map (fun b=>xb b x)).length=i:=by grind
   rw [dB];simp only [PAf,mk,e,BU,List.length_set,hlen,FA5];grind [ArC,List.set_set,XBc,WBc,bs_len],trivial,rfl⟩)
 exact key AX 0 () (DF _) (FP (by omega)) trivial
theorem EBF {k:AA} (hk:k.size<=1000000000) (x:Int):QAf k x=some (ofBytes (Qp x (Vz (bs k)))):=by rw [QAf,CAs,mk];grind [ArI,YBc,IQ,Vz,bs_len,IAm]
theorem FBF {k s:AA} (hk:k.size<=900000000) (hs:s.size<=900000000):ni k s=some (ah k s):=by have x1:=KAm 92 (Vz (bs k));have x2:=KAm 54 (Vz (bs k));have x3:=UBc (bs k);rw [ni,DAs,mk,EBF (by omega),AO,EBF (by omega),AO,Atd (by grind [DK])];rw [ArI (by grind [DK]),AO,Atd (by simp_all [DK,IQ]),ArI (by simp_all [DK,IQ]),AO];rw [Auo,ArL,IAm,ArL,At6 (LAm _ _),At6 (LAm _ _),ah,Vy]
def YE (k v:List Int):Nat->List Int
 | 0=>[]
 | i+1=>YE k v i++Vy k (109::(v++[(i:Int)]))
theorem YF (k v:List Int) (i:Nat):(YE k v i).length=32*i:=by induction i<;>grind [YE,CBF]
theorem GBF (k v:List Int) (i:Nat):Gs (YE k v i):=by
 induction i with
 | zero=>intro n hn;cases hn
 | succ i ih=>
  intro n hn;rcases List.mem_append.1 hn with hn | hn
  ·exact ih n hn
  ·exact MAm _ _ n hn
def Pv (k v:List Int) (n:Nat):List Int:=(YE k v ((n+31) / 32)).take n
theorem Aq7 (k v:List Int) (n:Nat):(Pv k v n).length=n:=by grind [Pv,YF]
theorem tX (k v:List Int) (n:Nat):Gs (Pv k v n):=fun x hx=>GBF _ _ _ x (List.mem_of_mem_take hx)
def LK (num:Int) (n:Int):Bool:=AvO num 0 1000000000 && AvO n 0 8000
def Xn (k:AA) (num:Int) (n:Int):AA×Bool:=bif LK num n then (ofBytes (Pv (bs k) (Atn num) n.toNat),true) else (⟨#[]⟩,false)
theorem U0:∀ {n:Int},0<=n->Gs (Atn n):=by
 intro n;induction n using Atn.induct with
 | case1 n hn ih=>
  intro h x hx;rw [Atn,if_pos hn] at hx;rcases List.mem_cons.1 hx with rfl | hx
  ·omega
  ·exact ih (by omega) x hx
 | case2 n hn=>
  intro h x hx;grind [Atn,ZP]
theorem HBF (k:AA) {num:Int} (hn:0<=num) (hn2:num<=1000000000) (i:Nat) (hi:i<=255) :
  ah k (((⟨#[109]⟩:AA)++ofBytes (Atn num))++ofBytes [(i:Int)])=ofBytes (Vy (bs k) (109::(Atn num++[(i:Int)]))):=by
 have e:bs (⟨#[109]⟩:AA)=[109]:=rfl;rw [ah,ArL,ArL,At6 (U0 hn),e,At6 (fun x hx=>by grind)];rfl
def AtA (a b:List Int):List Int:=List.zipWith xb a b
theorem bD {a b:List Int} (h:a.length<=b.length):(AtA a b).length=a.length:=by simp_all [AtA]
theorem Vl (a b:List Int):Gs (AtA a b):=by
 intro n hn;rw [AtA,List.mem_iff_getElem] at hn;obtain ⟨i,hi,rfl⟩:=hn
 simp [BBF]
theorem GA5 {α:Type} (f:α->α->α):∀ (a b:List α),List.zipWith f a (b.take a.length)=List.zipWith f a b
 | [],_=>rfl
 | _::_,[]=>rfl
 | x::a,y::b=>by simp [GA5]
theorem IBF {a b:List Int} {i:Nat} (h:i<a.length) (h2:i<b.length):(List.zipWith xb (a.take i) (b.take i)++a.drop i).set i (xb a[i] (b.getD i 0))=List.zipWith xb (a.take (i+1)) (b.take (i+1))++a.drop (i+1):=by rw [drop_at h,bQ (by grind),take_at h,take_at h2,getD_at h2,List.zipWith_append (by grind),List.append_assoc];rfl
def Ph (k:List Int) (num:Int) (s:List Int):List Int:=(Vy k (116::(Atn num++s))).take 16
theorem mV (k:List Int) (num:Int) (s:List Int):(Ph k num s).length=16:=by rfl
theorem UZ (k:List Int) (num:Int) (s:List Int):Gs (Ph k num s):=fun x hx=>MAm _ _ x (List.mem_of_mem_take hx)
def Arn (k:List Int) (num:Int) (s:List Int):List Int:=AtA s (Pv k (Atn num) s.length)++Ph k num (AtA s (Pv k (Atn num) s.length))
def JG (k:AA) (num:Int) (s:AA):AA×Bool:=bif LK num s.size then (ofBytes (Arn (bs k) num (bs s)),true) else (⟨#[]⟩,false)
def AtU (k:AA) (num:Int) (t:AA):AA×Bool:=
 bif decide ((t.size:Int)<16) || !(LK num ((t.size:Int) - 16)) then (⟨#[]⟩,false)
 else bif Ph (bs k) num ((bs t).take (t.size - 16)) == (bs t).drop (t.size - 16) then (ofBytes (AtA ((bs t).take (t.size - 16)) (Pv (bs k) (Atn num) (t.size - 16))),true)
 else (⟨#[]⟩,false)
theorem iL {num n:Int}:LK num n=true↔(0<=num/\num<=1000000000)/\0<=n/\n<=8000:=by simp [LK,DU]
theorem JBF {k:AA} {num n:Int} (hk:k.size<=900000000):yF k num n=some (Xn k num n):=by
 rw [yF,EAs,mk,AuF,AO,Xn,LK];cases h:AvO num 0 1000000000;·rfl
 ·rw [DU] at h;rw [PY (by rfl),AuF,AO];cases h2:AvO n 0 8000;·rfl
  ·rw [DU] at h2;rw [PY (by rfl),Bool.and_self,A8];have hv:=Aq3 (n:=num) (by omega);have hvb:=U0 h.1
   have key:=PL (A:=Unit) (n:=(n.toNat+31) / 32) (Hj:=ny) (st:=fun i _=>.c0 k num n (i:Int) (YE (bs k) (Atn num) i)) (Inv:=fun _ _=>True) (out:=fun _ _=>some (ofBytes (Pv (bs k) (Atn num) n.toNat),true))
    (fun m _ _=>by
     rw [ny];simp only [RAf,mk];rw [PY (by grind [YF]),Atd (by grind [YF])];rfl)
    (fun m i _ hi _=>.inr ⟨(),by
     have e:AU ((i:Int)+1)=((i+1:Nat):Int):=by grind [Ar]
     have h9:(⟨#[109]⟩:AA).size=1:=rfl;rw [ny];simp only [RAf,mk,e];rw [Atd (by grind [YF]),U3 (by omega),AO,Atd (by grind [DK]),Oi (by omega) (by omega),AO,Atd (by grind [DK])];rw [FBF hk (by grind [DK]),AO,HBF k h.1 h.2 i (by omega),kX,At6 (MAm _ _),Atd (by rfl),Atd (by grind [YF,CBF])];rfl,trivial,rfl⟩)
   exact key AX 0 () (DF _) (FP (by omega)) trivial
theorem KBF {a b:AA} (ha:a.size<=140737488351232) (h:a.size<=b.size):yG a b=some (ofBytes (AtA (bs a) (bs b))):=by
 have hl:=bs_len a;have hl2:=bs_len b
 have key:=PL (A:=Unit) (n:=(bs a).length) (Hj:=oC) (st:=fun i _=>.c0 b (i:Int) (List.zipWith xb ((bs a).take i) ((bs b).take i)++(bs a).drop i)) (Inv:=fun _ _=>True) (out:=fun _ _=>some (ofBytes (AtA (bs a) (bs b))))
  (fun m _ _=>by
   grind [oC,SAf,AtA,GA5])
  (fun m i _ hi _=>.inr ⟨(),by
   have e:AU ((i:Int)+1)=((i+1:Nat):Int):=by grind [Ar]
   have hlen:(List.zipWith xb ((bs a).take i) ((bs b).take i)++(bs a).drop i).length=(bs a).length:=by grind
   grind [oC,SAf,BU,FA5,ArC,IBF],trivial,rfl⟩)
 rw [yG,FAs,mk,Atd (by grind),kX];exact key AX 0 () (DF _) (FP (by omega)) trivial
theorem LBF {k s:AA} {num:Int} (hk:k.size<=900000000) (hn:0<=num/\num<=1000000000) (hs:s.size<=800000000):yH k num s=some (ofBytes (Ph (bs k) num (bs s))):=by have hv:=Aq3 (n:=num) (by omega);have h9:(⟨#[116]⟩:AA).size=1:=rfl;have e:bs (⟨#[116]⟩:AA)=[116]:=rfl;have h16:(16:Int).toNat=16:=rfl;rw [yH,GAs,mk,U3 (by omega),AO,Atd (by grind [DK]),Atd (by grind [DK])];rw [FBF hk (by grind [DK]),AO,Atd (by rfl)];refine congrArg some (Asj ?_);rw [AvE,DBF,h16,At6 (UZ _ _ _),ArL,ArL,e,At6 (U0 hn.1),Ph,List.drop_zero,List.append_assoc];rfl
theorem MBF {k s:AA} {num:Int} (hk:k.size<=900000000) (hs:s.size<=800000000):oD k num s=some (JG k num s):=by
 rw [oD,HAs,mk,JBF hk,AO,Xn,JG];cases h:LK num s.size;·rfl
 ·have h':=iL.1 h;have hm:=Aq7 (bs k) (Atn num) ((s.size:Int).toNat);have hl:=bs_len s;rw [A8,A8,PY (by rfl),KBF (by omega) (by simp_all [DK]),AO,At6 (tX _ _ _)];have hx:(AtA (bs s) (Pv (bs k) (Atn num) (s.size:Int).toNat)).length=s.size:=by simp_all [bD]
  rw [LBF hk h'.1 (by simp_all [DK]),AO,At6 (Vl _ _),Atd (by grind [DK,mV])];refine congrArg (fun x=>some (x,true)) (Asj ?_)
  rw [ArL,At6 (Vl _ _),At6 (UZ _ _ _),At6 (fun x hx=>by
   rcases List.mem_append.1 hx with hx | hx
   ·exact Vl _ _ x hx
   ·exact UZ _ _ _ x hx),Arn,hl]
  rfl
def aZ (s:Int):Int:=if s % 2=1 then xr (s / 2) 3558460437 else s / 2
def aY:Nat->Int->Int
 | 0,s=>s
 | n+1,s=>aY n (aZ s)
def kT (s:Int) (l:List Int):Int:=l.foldl (fun s b=>aY 8 (xr s b)) s
theorem ZBc {s:Int} (h:R32 s):R32 (aZ s):=by grind [aZ,kS,R32]
theorem NBF:∀ (n:Nat) {s:Int},R32 s->R32 (aY n s)
 | 0,_,h=>h
 | n+1,_,h=>NBF n (ZBc h)
theorem OBF:∀ (l:List Int) {s:Int},R32 s->R32 (kT s l)
 | [],_,h=>h
 | b::l,s,_=>OBF l (NBF 8 (kS s b))
def Uz (l:List Int):Int:=kT 4294967295 l
theorem YB (l:List Int):R32 (Uz l):=OBF l (by unfold R32;omega)
theorem Ags (t:AA) (i:Nat) (hi:i<t.size) (ht:t.size<=140737488351232):∀ (j k m:Nat) (s:Int),k+j=8->R32 s->VB (m+j+1) (.c1 s t (i:Int) (k:Int))=VB m (.c0 (aY j s) t ((i+1:Nat):Int)):=by
 intro j;induction j with
 | zero=>
  intro k m s hk hs;have e:AU ((i:Int)+1)=((i+1:Nat):Int):=by grind [Ar]
  rw [VB];simp only [oG,mk,e];rw [PY (by simp_all)];rfl
 | succ j ih=>
  intro k m s hk hs;have e:AU ((k:Int)+1)=((k+1:Nat):Int):=by grind [Ar]
  have h2:w32 (s.tdiv 2)=s / 2:=by
   obtain ⟨h1,h2⟩:=hs
   grind [Sv]
  have h3:s.tmod 2=s % 2:=Int.tmod_eq_emod_of_nonneg hs.1;rw [show m+(j+1)+1=(m+j+1)+1 by omega,VB];simp only [oG,mk,e,h2,h3,TK];rw [Atd (by grind),aY];by_cases h:s % 2=1;·rw [Atd (by simp [h]),ih (k+1) m _ (by omega) (kS _ _),aZ,if_pos h]
  ·rw [PY (by simp [h]),ih (k+1) m _ (by omega) (by grind [R32]),aZ,if_neg h]
theorem BBd {t:AA} {s:Int} (ht:t.size<=140737488351232):TAf s t=some (kT s (bs t)):=by
 have hl:=bs_len t;have key:∀ (j i m:Nat) (s:Int),i+j=t.size->VB (m+10*j+1) (.c0 s t (i:Int))=some (kT s ((bs t).drop i)):=by
  intro j;induction j with
  | zero=>
   intro i m s h;rw [VB];simp only [oG,mk];rw [PY (by simp_all),List.drop_of_length_le (by omega)];rfl
  | succ j ih=>
   intro i m s h;have hb:=NK (Si t) i;rw [show m+10*(j+1)+1=(m+10*j+1)+8+1+1 by omega,VB];simp only [oG,mk,TK];rw [Atd (by grind),Atd (by grind),ArC (by omega),Sv (by omega) (by omega)];have h1:=Ags t i (by omega) ht 8 0 (m+10*j+1) (xr s ((bs t).getD i 0)) (by omega) (kS _ _);rw [show ((0:Nat):Int)=0 from rfl] at h1;rw [h1,ih (i+1) m _ (by omega),drop_at (by omega:i<(bs t).length),getD_at (by omega)];rfl
 obtain ⟨m,hm⟩:∃ m,AX=m+10*t.size+1:=⟨AX - (10*t.size+1),by have:=FP (n:=10*t.size+1) (by omega);omega⟩
 rw [TAf,IAs,hm];have:=key t.size 0 m s (by omega);assumption
theorem CBd {t:AA} (ht:t.size<=140737488351232):UAf t=some (Uz (bs t)):=by rw [UAf,JAs,BBd ht];rfl
theorem DBd {x:Int} (h:R32 x):VAf x=some (ofBytes (four x)):=by
 obtain ⟨h1,h2⟩:=h
 have e1:Int.fdiv x (2 ^ (Min.min (24:Int).toNat (IntKind.bits IntKind.u32)))=x / 16777216:=Int.fdiv_eq_ediv_of_nonneg _ (by decide);have e2:Int.fdiv x (2 ^ (Min.min (16:Int).toNat (IntKind.bits IntKind.u32)))=x / 65536:=Int.fdiv_eq_ediv_of_nonneg _ (by decide);have e3:Int.fdiv x (2 ^ (Min.min (8:Int).toNat (IntKind.bits IntKind.u32)))=x / 256:=Int.fdiv_eq_ediv_of_nonneg _ (by decide);simp only [VAf,KAs,mk,e1,e2,e3,ZP,four];grind
def Gp (l:List Int):List Int:=Atn (l.length:Int)++(four (Uz l)++l)
def frameT (t:AA):AA×Bool:=bif AvO (t.size:Int) 1 9000 then (ofBytes (Gp (bs t)),true) else (⟨#[]⟩,false)
theorem vP {l:List Int} (h:Gs l):Gs (Gp l):=by
 intro x hx;rcases List.mem_append.1 hx with hx | hx
 ·exact U0 (by omega) x hx
 ·rcases List.mem_append.1 hx with hx | hx
  ·exact Vx (YB l) x hx
  ·exact h x hx
theorem PBF (t:AA):(ofBytes (Atn (t.size:Int))++ofBytes (four (Uz (bs t))))++t=ofBytes (Gp (bs t)):=by apply Asj;rw [ArL,ArL,At6 (U0 (by omega)),At6 (Vx (YB _)),At6 (vP (Si t)),Gp,bs_len,List.append_assoc]
theorem QBF {t:AA} (h:t.size<=140737488351232):(frameT t).1.size<=t.size+14:=by
 rw [frameT];cases AvO (t.size:Int) 1 9000;·exact DF _
 grind [DK,Gp,bs_len,four,Aq3]
theorem HA5 {t:AA} (h:t.size<=140737488351232):YW t=some (frameT t):=by
 rw [YW,LAs,mk,AuF,AO,frameT];cases h1:AvO (t.size:Int) 1 9000;·rfl
 ·rw [DU] at h1;have:=Aq3 (n:=(t.size:Int)) (by omega);rw [PY (by rfl),U3 (by omega),AO,CBd h,AO,DBd (YB _),AO,Atd (by grind [DK,four])];rw [Atd (by grind [DK,four]),PBF,A8]
def RBF:AA:=⟨#[98,111,111,107]⟩
def Wp (k:AA) (count:Int) (r:Aq):List ET×Bool:=
 bif (As2 r).2 && AvO count 0 10000 then ([⟨1,RBF,(frameT (JG k (count+1) (As2 r).1).1).1,⟨#[]⟩⟩,⟨2,RBF,⟨#[]⟩,⟨#[]⟩⟩],true) else ([],false)
theorem xA {k s:AA} {num:Int} (h:0<=num/\num<=1000000000) (hs:s.size<=8000):(JG k num s).2=true/\(JG k num s).1=ofBytes (Arn (bs k) num (bs s))/\(JG k num s).1.size=s.size+16:=by grind [iL,JG,DK,Arn,bD,Aq7,mV,bs_len]
theorem IA5 {t:AA} (h:1<=t.size/\t.size<=9000):(frameT t).2=true/\(frameT t).1=ofBytes (Gp (bs t)):=by grind [DU,frameT]
theorem SBF {k:AA} {count:Int} {r:Aq} (hk:k.size<=900000000):oH k count r=some (Wp k count r):=by
 have hz:=V7 r;rw [oH,NAs,mk,cO,AO,Wp];cases h1:(As2 r).2;·rfl
 rw [PY (by rfl),AuF,AO,Bool.true_and];cases h2:AvO count 0 10000;·rfl
 rw [DU] at h2;obtain ⟨l1,l2,l3⟩:=xA (k:=k) (s:=(As2 r).1) (num:=count+1) (by omega) (by omega)
 rw [PY (by rfl),Ar (by omega) (by omega),MBF hk (by omega),AO,HA5 (by omega)];rfl
theorem TBF (s:AA):oI s=some (AvO (s.size:Int) 1 8):=by simp [oI,OAs,mk,AuF]
def Atl (f:BQ):Bool:=AvO (f.fName.size:Int) 1 8 && (!decide ((f.fText.size:Int) > 20000) && AvO f.Jp 0 (f.fText.size:Int))
def AuE:AA->List BQ->Bool
 | _,[]=>true
 | p,f::fs=>Atl f && (Op.bytesLess p.toList f.fName.toList && AuE f.fName fs)
def Vw (l:List BQ):Nat->AA
 | 0=>⟨#[]⟩
 | i+1=>((l[i]?).map (·.fName)).getD ⟨#[]⟩
theorem JA5 {l:List BQ} {i:Nat} (hi:i<l.length):Vw l (i+1)=l[i].fName:=by simp [Vw,hi]
theorem UBF {l:List BQ} {i:Nat} (hi:i<l.length):AuE (Vw l i) (l.drop i)=(Atl l[i] && (Op.bytesLess (Vw l i).toList l[i].fName.toList && AuE (Vw l (i+1)) (l.drop (i+1)))):=by grind [drop_at,AuE,JA5]
def AvP (d:BO):Bool:=decide ((d.Ai.length:Int)<=30) && AuE ⟨#[]⟩ d.Ai
theorem NAm {s:AA} (h:1<=s.size):Op.bytesLess (⟨#[]⟩:AA).toList s.toList=true:=by
 rw [ByteArray.toList_eq,ByteArray.toList_eq];obtain ⟨⟨l⟩⟩:=s
 cases l with
 | nil=>exact absurd h (Nat.not_succ_le_zero 0)
 | cons x l=>rfl
def Arr:List BQ->AA->Nat->Option Nat
 | [],_,_=>none
 | f::fs,n,i=>if f.fName.toList == n.toList then some i else Arr fs n (i+1)
theorem Z8 {n:AA}:∀ {fs:List BQ} {i j:Nat},Arr fs n i=some j->i<=j/\j<i+fs.length:=by intro fs;induction fs<;>grind [Arr]
def AsZ (d:BO) (n:AA):Int:=match Arr d.Ai n 0 with | some j=>(j:Int) | none=> -1
def mO:BQ:=⟨⟨#[]⟩,⟨#[]⟩,0⟩
def Atr (d:BO) (n:AA):AA×Bool:=match Arr d.Ai n 0 with | some j=>((d.Ai.getD j mO).fText,true) | none=>(⟨#[]⟩,false)
theorem OAm (d:BO):Wu d=some (AvP d):=by
 rw [Wu,PAs,mk,AvP];by_cases h0:(d.Ai.length:Int)<=30
 ·rw [PY (by simp_all),Bg h0,Bool.true_and];have key:∀ (j i m:Nat),i+j=d.Ai.length->oJ (m+j+1) (.c0 (i:Int) d)=some (AuE (Vw d.Ai i) (d.Ai.drop i)):=by
   intro j;induction j with
   | zero=>
    intro i m h;obtain rfl:i=d.Ai.length:=by omega
    rw [oJ];simp only [WAf,mk];rw [PY (by simp),List.drop_length];rfl
   | succ j ih=>
    intro i m h;have hi:i<d.Ai.length:=by omega
    have e:AU ((i:Int)+1)=((i+1:Nat):Int):=by grind [Ar]
    have h2:=ih (i+1) m (by omega);rw [show m+(j+1)+1=(m+j+1)+1 by omega,oJ];simp only [WAf,mk,e,BU,getD_at hi,TBF,AuF,AO];rw [Atd (by simp_all),Atd (by simp_all),UBF hi,Atl,h2];cases hn:AvO (d.Ai[i].fName.size:Int) 1 8;·rfl
    cases decide ((d.Ai[i].fText.size:Int) > 20000)
    ·cases AvO d.Ai[i].Jp 0 (d.Ai[i].fText.size:Int);·rfl
     ·by_cases hz:i=0;·grind [DU,Vw,NAm]
      ·obtain ⟨i',rfl⟩:∃ q,i=q+1:=⟨i - 1,by omega⟩
       grind [Ar,JA5]
    ·rfl
  obtain ⟨m,hm⟩:=gm (n:=d.Ai.length) (by omega)
  rw [hm];exact key d.Ai.length 0 m (by omega)
 simp_all [D5]
theorem KA5 {d:BO} {n:AA} (h0:d.Ai.length<=140737488351232):oK d n=some (AsZ d n):=by
 have key:∀ (j i m:Nat),i+j=d.Ai.length->oL (m+j+1) (.c0 n (i:Int) d)=some (match Arr (d.Ai.drop i) n i with | some j=>(j:Int) | none=> -1):=by
  intro j;induction j with
  | zero=>
   intro i m h;obtain rfl:i=d.Ai.length:=by omega
   rw [oL];simp only [YAf,mk];rw [PY (by simp),List.drop_length];rfl
  | succ j ih=>
   intro i m h;have hi:i<d.Ai.length:=by omega
   have e:AU ((i:Int)+1)=((i+1:Nat):Int):=by grind [Ar]
   grind [oL,YAf,BU,drop_at,Arr]
 obtain ⟨m,hm⟩:=gm (n:=d.Ai.length) (by omega)
 rw [oK,QAs,hm,AsZ];exact key d.Ai.length 0 m (by omega)
theorem PAm:∀ l:List UInt8,Op.bytesLess l l=false:=by intro l;induction l<;>simp_all [Op.bytesLess]
theorem LA5:∀ {a b c:List UInt8},Op.bytesLess a b=true->Op.bytesLess b c=true->Op.bytesLess a c=true:=by
 intro a;induction a with
 | nil=>
  intro b c h1 h2;cases c with
  | nil=>cases b <;> simp [Op.bytesLess] at h2
  | cons=>rfl
 | cons x a ih=>
  intro b c h1 h2;cases b with
  | nil=>simp [Op.bytesLess] at h1
  | cons y b=>
   cases c with
   | nil=>simp [Op.bytesLess] at h2
   | cons z c=>
    simp only [Op.bytesLess,Bool.or_eq_true,Bool.and_eq_true,decide_eq_true_eq,beq_iff_eq] at h1 h2 ⊢;rcases h1 with h1 | ⟨rfl,h1⟩ <;> rcases h2 with h2 | ⟨rfl,h2⟩
    ·exact .inl (UInt8.lt_trans h1 h2)
    ·exact .inl h1
    ·exact .inl h2
    ·exact .inr ⟨rfl,ih h1 h2⟩
theorem EBd:∀ {a b:List UInt8},Op.bytesLess a b=false->a≠b->Op.bytesLess b a=true:=by
 intro a;induction a with
 | nil=>
  intro b h1 h2;cases b with
  | nil=>exact absurd rfl h2
  | cons=>simp [Op.bytesLess] at h1
 | cons x a ih=>
  intro b h1 h2;cases b with
  | nil=>rfl
  | cons y b=>
   simp only [Op.bytesLess,Bool.or_eq_false_iff,decide_eq_false_iff_not,Bool.and_eq_false_iff,beq_eq_false_iff_ne] at h1;simp only [Op.bytesLess,Bool.or_eq_true,Bool.and_eq_true,decide_eq_true_eq,beq_iff_eq];obtain ⟨h3,h4⟩:=h1
   by_cases he:x=y;·subst he;refine .inr ⟨rfl,ih (h4.resolve_left (fun h=>h rfl)) (fun h=>h2 (by rw [h]))⟩
   ·refine .inl (UInt8.lt_of_le_of_ne (UInt8.not_lt.1 h3) (Ne.symm he))
theorem MA5 {a b:List UInt8} (h:Op.bytesLess a b=true):Op.bytesLess b a=false:=by
 cases h2:Op.bytesLess b a;·rfl
 ·have:=LA5 h h2;rw [PAm] at this;cases this
theorem NA5 {a b:List UInt8} (h:Op.bytesLess a b=true):a≠b:=by rintro rfl;rw [PAm] at h;cases h
def F5 (l:List BQ) (n:AA):List BQ:=l.filter fun f=> !(f.fName.toList == n.toList)
def Wq (l:List BQ) (n:AA):List BQ:=l.filter fun f=>Op.bytesLess f.fName.toList n.toList
def Om (l:List BQ) (n:AA):List BQ:=l.filter fun f=> !(Op.bytesLess f.fName.toList n.toList || (f.fName.toList == n.toList))
def Gu (l:List BQ) (f:BQ):List BQ:=Wq l f.fName++[f]++Om l f.fName
def YX:List BQ->AA->List BQ
 | [],_=>[]
 | g::gs,n=>bif g.fName.toList == n.toList then gs else g::YX gs n
def V6:List BQ->BQ->List BQ
 | [],f=>[f]
 | g::gs,f=>bif Op.bytesLess g.fName.toList f.fName.toList then g::V6 gs f else f::g::gs
def Sorted (l:List BQ):Prop:=l.Pairwise fun a b=>Op.bytesLess a.fName.toList b.fName.toList=true
theorem FBd:∀ {l:List BQ} {p:AA},AuE p l=true->Sorted l/\∀ f ∈ l,Op.bytesLess p.toList f.fName.toList=true:=by
 intro l;induction l with
 | nil=>intro p _;exact ⟨List.Pairwise.nil,fun f hf=>by cases hf⟩
 | cons g gs ih=>
  intro p h;rw [AuE,Bool.and_eq_true,Bool.and_eq_true] at h;obtain ⟨h1,h2⟩:=ih h.2.2
  refine ⟨List.Pairwise.cons h2 h1,fun f hf=>?_⟩;rcases List.mem_cons.1 hf with rfl | hf
  ·exact h.2.1
  ·exact LA5 h.2.1 (h2 f hf)
theorem GBd {d:BO} (h:AvP d=true):Sorted d.Ai:=by rw [AvP,Bool.and_eq_true] at h;exact (FBd h.2).1
theorem OA5 {l:List BQ} {n:AA} (h:∀ f ∈ l,Op.bytesLess n.toList f.fName.toList=true):F5 l n=l/\Wq l n=[]/\Om l n=l:=by
 refine ⟨List.filter_eq_self.2 fun f hf=>?_,List.filter_eq_nil_iff.2 fun f hf=>?_,List.filter_eq_self.2 fun f hf=>?_⟩;·rw [show (f.fName.toList == n.toList)=false from beq_eq_false_iff_ne.2 (Ne.symm (NA5 (h f hf)))];rfl
 ·rw [MA5 (h f hf)];exact Bool.false_ne_true
 ·rw [MA5 (h f hf),show (f.fName.toList == n.toList)=false from beq_eq_false_iff_ne.2 (Ne.symm (NA5 (h f hf)))];rfl
theorem HBd:∀ {l:List BQ} {n:AA},Sorted l->YX l n=F5 l n:=by
 intro l;induction l with
 | nil=>intro n _;rfl
 | cons g gs ih=>
  intro n h;obtain ⟨h1,h2⟩:=List.pairwise_cons.1 h
  rw [YX,F5,List.filter_cons];cases he:g.fName.toList == n.toList;·rw [Aw,Bool.not_false,if_pos rfl,ih h2,F5]
  ·rw [A8,DZ,if_neg Bool.false_ne_true];rw [beq_iff_eq] at he;exact (OA5 (n:=n) (fun f hf=>by have:=h1 f hf;rwa [he] at this)).1.symm
theorem IBd:∀ {l:List BQ} {n:AA} {i:Nat},match Arr l n i with | some j=>l.take (j - i)++l.drop (j - i+1)=YX l n | none=>YX l n=l:=by
 intro l;induction l with
 | nil=>intro n i;rfl
 | cons g gs ih=>
  intro n i;rw [Arr,YX];cases he:g.fName.toList == n.toList
  ·rw [if_neg Bool.false_ne_true,Aw];have:=ih (n:=n) (i:=i+1);cases hp:Arr gs n (i+1) with
   | none=>rw [hp] at this;show g::YX gs n=g::gs;rw [this]
   | some j=>
    rw [hp] at this;have hj:=(Z8 hp).1;show (g::gs).take (j - i)++(g::gs).drop (j - i+1)=g::YX gs n;rw [<-this,show j - i=(j - (i+1))+1 by omega,List.take_succ_cons,List.drop_succ_cons];rfl
  ·rw [if_pos rfl,A8];show (g::gs).take (i - i)++(g::gs).drop (i - i+1)=gs;rw [Nat.sub_self];rfl
theorem JBd {f:BQ}:∀ {l:List BQ},Sorted l->V6 (F5 l f.fName) f=Gu l f:=by
 intro l;induction l with
 | nil=>intro _;rfl
 | cons g gs ih=>
  intro h;obtain ⟨h1,h2⟩:=List.pairwise_cons.1 h
  cases hl:Op.bytesLess g.fName.toList f.fName.toList
  ·have hins:V6 gs f=f::gs\/True:=.inr trivial;by_cases he:g.fName.toList=f.fName.toList
   ·have ho:=OA5 (l:=gs) (n:=f.fName) (fun x hx=>by have:=h1 x hx;rwa [he] at this);have hb:(g.fName.toList == f.fName.toList)=true:=beq_iff_eq.2 he;have e1:F5 (g::gs) f.fName=gs:=by rw [F5,List.filter_cons,hb];exact ho.1
    have e2:Wq (g::gs) f.fName=[]:=by rw [Wq,List.filter_cons,hl];exact ho.2.1
    have e3:Om (g::gs) f.fName=gs:=by rw [Om,List.filter_cons,hl,hb];exact ho.2.2
    rw [e1,Gu,e2,e3];cases gs with
    | nil=>rfl
    | cons x xs=>
     have hx:=h1 x (List.mem_cons_self ..);rw [he] at hx;rw [V6,MA5 hx];rfl
   ·have hg:=EBd hl he
    have ho:=OA5 (l:=g::gs) (n:=f.fName) (fun x hx=>by
     rcases List.mem_cons.1 hx with rfl | hx
     ·exact hg
     ·exact LA5 hg (h1 x hx))
    rw [ho.1,Gu,ho.2.1,ho.2.2,V6,hl];rfl
  ·have hb:(g.fName.toList == f.fName.toList)=false:=beq_eq_false_iff_ne.2 (NA5 hl);have e1:F5 (g::gs) f.fName=g::F5 gs f.fName:=by rw [F5,List.filter_cons,hb];rfl
   have e2:Wq (g::gs) f.fName=g::Wq gs f.fName:=by rw [Wq,List.filter_cons,hl];rfl
   have e3:Om (g::gs) f.fName=Om gs f.fName:=by rw [Om,List.filter_cons,hl];rfl
   rw [e1,V6,hl,A8,ih h2,Gu,Gu,e2,e3];rfl
theorem QAm {α:Type} {l:List α} {p:α->Bool} {i:Nat} (hi:i<l.length):(l.drop i).filter p=(bif p l[i] then [l[i]] else [])++(l.drop (i+1)).filter p:=by grind [drop_at]
theorem VBF (n:AA):∀ l:List BQ,(Wq l n).length+(Om l n).length<=l.length:=by intro l;induction l<;>grind [Wq,Om]
theorem WBF {d:BO} {f:BQ} (h:d.Ai.length*40<=140737488351232):ZAf d f=some ⟨Gu d.Ai f⟩:=by
 have k1:∀ (j i m:Nat) (out:List BQ),i+j=d.Ai.length->out.length+(Om (d.Ai.drop i) f.fName).length<=d.Ai.length+1->AtL (m+j+1) (.c1 (i:Int) d f [] out)=some ⟨out++Om (d.Ai.drop i) f.fName⟩:=by
  intro j;induction j with
  | zero=>
   simp_all [AtL,oM,mk,Om]
  | succ j ih=>
   intro i m out hi ho;have hil:i<d.Ai.length:=by omega
   have hw:AU ((i:Int)+1)=((i+1:Nat):Int):=by grind [Ar]
   rw [Om,QAm hil,List.length_append] at ho;rw [ArJ m j,AtL];simp only [oM,mk,show decide ((i:Int)<(d.Ai.length:Int))=true from Bg (by omega),show decide ((0:Int)<=(i:Int))=true from Bg (by omega),Bool.and_self,A8,BU,hw,getD_at hil];rw [Om,QAm hil];cases hp : !(Op.bytesLess d.Ai[i].fName.toList f.fName.toList || (d.Ai[i].fName.toList == f.fName.toList));·rw [hp] at ho;rw [Aw,Aw,ih (i+1) m _ (by omega) (by simp_all [Om])];rfl
   ·rw [hp,A8] at ho;have ho':out.length+(1+(Om (d.Ai.drop (i+1)) f.fName).length)<=d.Ai.length+1:=ho;rw [A8,Atd (Bg (by omega)),ih (i+1) m _ (by omega) (by grind),A8,List.append_assoc];rfl
 have k0:∀ (j i m:Nat) (out:List BQ),i+j=d.Ai.length->out.length<=i->AtL (m+d.Ai.length+1+j+1) (.c0 (i:Int) d f [] out)=AtL (m+d.Ai.length+1) (.c1 0 d f [] (out++Wq (d.Ai.drop i) f.fName++[f])):=by
  intro j;induction j with
  | zero=>
   intro i m out hi ho;rw [AtL];grind [oM,Wq]
  | succ j ih=>
   intro i m out hi ho;have hil:i<d.Ai.length:=by omega
   have hw:AU ((i:Int)+1)=((i+1:Nat):Int):=by grind [Ar]
   rw [show m+d.Ai.length+1+(j+1)+1=(m+d.Ai.length+1+j+1)+1 from rfl,AtL];simp only [oM,mk,show decide ((i:Int)<(d.Ai.length:Int))=true from Bg (by omega),show decide ((0:Int)<=(i:Int))=true from Bg (by omega),Bool.and_self,A8,BU,hw,getD_at hil];rw [Wq,QAm hil];cases Op.bytesLess d.Ai[i].fName.toList f.fName.toList;·rw [Aw,Aw,ih (i+1) m _ (by omega) (by omega)];rfl
   ·rw [A8,Atd (Bg (by omega)),ih (i+1) m _ (by omega) (by simp_all),A8];simp [Wq]
 obtain ⟨m,hm⟩:∃ m,AX=m+d.Ai.length+1+d.Ai.length+1:=⟨AX - (d.Ai.length+1+d.Ai.length+1),by have:=FP (n:=2*d.Ai.length+2) (by omega);omega⟩
 have hlh:=VBF f.fName d.Ai;rw [ZAf,SAs,hm];refine (k0 d.Ai.length 0 m [] (Nat.zero_add _) (Nat.le_refl _)).trans ((k1 d.Ai.length 0 m _ (Nat.zero_add _) (by grind)).trans ?_);rfl
theorem KBd {d:BO} {n:AA} (h:d.Ai.length*40<=140737488351232):BAg d n=some ⟨F5 d.Ai n⟩:=by
 have key:∀ (j i m:Nat) (out:List BQ),i+j=d.Ai.length->out.length<=i->oO (m+j+1) (.c0 n (i:Int) d [] out)=some ⟨out++F5 (d.Ai.drop i) n⟩:=by
  intro j;induction j with
  | zero=>
   simp_all [oO,AGE,mk,F5]
  | succ j ih=>
   intro i m out hi ho;have hil:i<d.Ai.length:=by omega
   have hw:AU ((i:Int)+1)=((i+1:Nat):Int):=by grind [Ar]
   have d1:decide ((i:Int)<(d.Ai.length:Int))=true:=Bg (by omega);have d0:decide ((0:Int)<=(i:Int))=true:=Bg (by omega);have d2:decide ((out.length+1)*40<=140737488355328)=true:=Bg (by omega);rw [ArJ m j,oO];simp only [AGE,mk,d0,d1,d2,Bool.and_self,A8,BU,hw,getD_at hil];rw [ih (i+1) m _ (by omega) (by simp_all),ih (i+1) m _ (by omega) (by omega),F5,F5,QAm hil];grind
 obtain ⟨m,hm⟩:=gm (n:=d.Ai.length) (by omega)
 rw [BAg,TAs,hm];exact key d.Ai.length 0 m [] (Nat.zero_add _) (Nat.le_refl _)
def doneD (l:List BQ):BO×Bool:=bif AvP ⟨l⟩ then (⟨l⟩,true) else (⟨[]⟩,false)
def mP (d:BO) (a:ET) (f:BQ):BO×Bool:=
 bif a.Aa == 1 then doneD (Gu d.Ai ⟨f.fName,f.fText++a.fText,f.Jp⟩)
 else bif a.Aa == 2 then doneD (Gu d.Ai ⟨f.fName,f.fText,(f.fText.size:Int)⟩)
 else bif a.Aa == 3 then (bif decide (f.Jp<(f.fText.size:Int)) || (a.Ij.toList == a.fName.toList) then (⟨[]⟩,false) else doneD (Gu (F5 d.Ai a.fName) ⟨a.Ij,f.fText,f.Jp⟩))
 else bif a.Aa == 4 then doneD (F5 d.Ai a.fName) else (⟨[]⟩,false)
def ArV (d:BO) (a:ET):BO×Bool:=
 bif AvP d && ((a.Aa == 3 || a.Ij.toList == (⟨#[]⟩:AA).toList) && (a.Aa == 1 || a.fText.toList == (⟨#[]⟩:AA).toList)) then
  match Arr d.Ai a.fName 0 with
  | some j=>mP d a (d.Ai.getD j mO)
  | none=>bif a.Aa == 1 then doneD (Gu d.Ai ⟨a.fName,(⟨#[]⟩:AA)++a.fText,0⟩) else (⟨[]⟩,false)
 else (⟨[]⟩,false)
theorem LBd:∀ {l:List BQ} {p:AA},AuE p l=true->∀ f ∈ l,Atl f=true:=by intro l;induction l<;>grind [AuE]
theorem mM {d:BO} (h:AvP d=true):d.Ai.length<=30/\∀ f ∈ d.Ai,Atl f=true:=by grind [AvP,LBd]
theorem RAm {f:BQ}:Atl f=true↔(1<=(f.fName.size:Int)/\(f.fName.size:Int)<=8)/\(f.fText.size:Int)<=20000/\0<=f.Jp/\f.Jp<=(f.fText.size:Int):=by simp [Atl,DU]
theorem XBF {l:List BQ} {f:BQ} (hf:f ∈ l) (h:Atl f=false):doneD l=(⟨[]⟩,false):=by
 rw [doneD];cases hd:AvP ⟨l⟩;·rfl
 ·rw [(mM hd).2 f hf] at h;cases h
theorem YBF (l:List BQ) (f:BQ):f ∈ Gu l f:=by rw [Gu];simp
theorem ZBF {f:BQ} (h:AvO (f.fName.size:Int) 1 8=false):Atl f=false:=by rw [Atl,h];rfl
theorem AVS (l:List BQ) (n:AA):(F5 l n).length<=l.length:=List.length_filter_le _ _
theorem MBd {l:List BQ} {n:AA} (h:Sorted l):Sorted (F5 l n):=List.Pairwise.filter _ h
theorem NBd {n:AA}:∀ {fs:List BQ} {i j:Nat},Arr fs n i=some j->(fs.getD (j - i) mO).fName.toList=n.toList:=by
 intro fs;induction fs with
 | nil=>intro i j h;cases h
 | cons f fs ih=>
  intro i j h;rw [Arr] at h;split at h;·simp_all
  ·have h1:=ih h;have h2:=(Z8 h).1;grind
theorem PA5 {d:BO} {n:AA} {j:Nat} (h:AvP d=true) (hp:Arr d.Ai n 0=some j):j<d.Ai.length/\Atl (d.Ai.getD j mO)=true/\AvO (n.size:Int) 1 8=true/\(d.Ai.getD j mO).fName=n:=by have h1:=(Z8 hp).2;have h2:=NBd hp;grind [Atl,mM,toList_inj]
theorem OBd {d:BO} {a:ET} (hd:d.Ai.length*40<=140737488351232) (ha:a.fText.size<=140737488351232):yI d a=some (ArV d a):=by
 have ho:=AVS d.Ai a.fName;rw [yI,UAs,mk,ArV];simp only [OAm,TBF,KA5 (d:=d) (n:=a.fName) (by omega),KBd (d:=d) (n:=a.fName) hd,fun f=>WBF (d:=d) (f:=f) hd,fun f=>WBF (d:=⟨F5 d.Ai a.fName⟩) (f:=f) (show (F5 d.Ai a.fName).length*40<=_ by omega),AO,bne];cases hdk:AvP d;·rfl
 obtain ⟨hl,hok⟩:=mM hdk
 have fin:∀ l:List BQ,(bif !AvP ⟨l⟩ then some ((⟨[]⟩:BO),false) else some (⟨l⟩,true))=some (doneD l):=fun l=>by grind [doneD]
 simp only [fin,Bool.true_and];cases hn:AvO (a.fName.size:Int) 1 8;·grind [PA5,XBF,YBF,ZBF]
 have ht:∀ f,Atl f=true->f.fText.size+a.fText.size<=9223372036854775807:=fun f hf=>by grind [RAm]
 have hto:AvO (a.Ij.size:Int) 1 8=false->∀ f:BQ,doneD (Gu (F5 d.Ai a.fName) ⟨a.Ij,f.fText,f.Jp⟩)=(⟨[]⟩,false):=fun h f=>XBF (YBF _ _) (ZBF h)
 have key:∀ f:BQ,(bif !AvO (a.Ij.size:Int) 1 8 then some ((⟨[]⟩:BO),false) else some (doneD (Gu (F5 d.Ai a.fName) ⟨a.Ij,f.fText,f.Jp⟩)))=some (doneD (Gu (F5 d.Ai a.fName) ⟨a.Ij,f.fText,f.Jp⟩)):=fun f=>by grind
 simp only [DZ,Aw];cases hp:Arr d.Ai a.fName 0 with
 | some j=>
  obtain ⟨hj,hfo,_,_⟩:=PA5 hdk hp
  simp only [show AsZ d a.fName=(j:Int) by rw [AsZ,hp],BU,show decide ((j:Int)>=0)=true from Bg (by omega),show decide ((j:Int)<0)=false from D5 (by omega),show decide ((j:Int)<(d.Ai.length:Int))=true from Bg (by omega),Bool.and_self,A8,Aw];grind [mP]
 | none=>
  have hs:decide ((⟨#[]⟩:AA).size+a.fText.size<=9223372036854775807)=true:=Bg (by show 0+a.fText.size<=_;omega);grind [AsZ]
def IY:BO->List ET->Int->BO×Int
 | d,[],i=>(d,i)
 | d,a::r,i=>bif (ArV d a).2 then IY (ArV d a).1 r (i+1) else (d,i)
theorem BBG {l:List BQ} (h:(doneD l).2=true):AvP (doneD l).1=true:=by grind [doneD]
theorem PBd {d:BO} {a:ET} {f:BQ} (h:(mP d a f).2=true):AvP (mP d a f).1=true:=by grind [mP,BBG]
theorem CBG {d:BO} {a:ET} (h:(ArV d a).2=true):AvP (ArV d a).1=true:=by grind [ArV,PBd,BBG]
theorem SAm {d:BO} {l:List ET} (hd:d.Ai.length*40<=140737488351232) (hl:l.length<=140737488351232) (ha:∀ a ∈ l,a.fText.size<=140737488351232):WZ d l=some (IY d l 0):=by
 have key:∀ (j i m:Nat) (out:List BQ),i+j=l.length->out.length*40<=140737488351232->oP (m+j+1) (.c0 l (i:Int) [] out)=some (IY ⟨out⟩ (l.drop i) (i:Int)):=by
  intro j;induction j with
  | zero=>
   simp_all [oP,CAg,mk,IY]
  | succ j ih=>
   intro i m out hi ho;have hil:i<l.length:=by omega
   have hw:AU ((i:Int)+1)=((i+1:Nat):Int):=by grind [Ar]
   rw [ArJ m j,oP];simp only [CAg,mk,show decide ((i:Int)<(l.length:Int))=true from Bg (by omega),show decide ((0:Int)<=(i:Int))=true from Bg (by omega),Bool.and_self,A8,BU,hw,getD_at hil,OBd (d:=⟨out⟩) (a:=l[i]) ho (ha _ (List.getElem_mem hil)),AO];rw [drop_at hil,IY];cases hr:(ArV ⟨out⟩ l[i]).2;·rfl
   ·have h30:=(mM (CBG hr)).1;rw [DZ,Aw,A8,ih (i+1) m _ (by omega) (by omega)];rfl
 obtain ⟨m,hm⟩:=gm (n:=l.length) (by omega)
 rw [WZ,VAs,mk,Atd (Bg (by omega)),hm];exact key l.length 0 m _ (Nat.zero_add _) hd
theorem QBd (t:AA):(frameT t).1.size<=9100:=by
 rw [frameT];cases h:AvO (t.size:Int) 1 9000;·exact DF _
 grind [DU,Aq3,DK,Gp,bs_len,four]
def QA5:Aj:=⟨⟨#[]⟩,false,⟨[]⟩,⟨⟨#[]⟩,0,[],0,⟨#[]⟩,0⟩,[],[],0⟩
theorem DBG (k:AA) (c:Int) (r:Aq):(Wp k c r).1.length<=2/\∀ a ∈ (Wp k c r).1,a.fText.size<=140737488351232:=by
 rw [Wp];cases (As2 r).2 && AvO c 0 10000;·simp
 ·refine ⟨Nat.le_refl _,fun a h=>?_⟩;rw [A8] at h;rcases List.mem_cons.1 h with rfl | h
  ·grind [QBd]
  ·rw [List.mem_singleton.1 h];exact DF _
theorem EBG {k:AA} {d:BO} {c:Int} {r:Aq} (hk:k.size<=900000000) (hd:d.Ai.length*40<=140737488351232):aC k d c r=some (IY d (Wp k c r).1 0).1:=by
 obtain ⟨h1,h2⟩:=DBG k c r
 rw [aC,WAs,SBF hk,AO,SAm hd (by omega) h2];rfl
theorem TAm {n:Nat} (h:n<=1000000000):YD (n:Int)=some (ofBytes (List.replicate n 0)):=by simp only [YD,EAy,mk,BU];grind
theorem UAm {x:Int} (h:R32 x):Wv x=some (ofBytes (four x)):=by
 obtain ⟨h1,h2⟩:=h
 have e1:Int.fdiv x (2 ^ (Min.min (24:Int).toNat (IntKind.bits IntKind.u32)))=x / 16777216:=Int.fdiv_eq_ediv_of_nonneg _ (by decide);have e2:Int.fdiv x (2 ^ (Min.min (16:Int).toNat (IntKind.bits IntKind.u32)))=x / 65536:=Int.fdiv_eq_ediv_of_nonneg _ (by decide);have e3:Int.fdiv x (2 ^ (Min.min (8:Int).toNat (IntKind.bits IntKind.u32)))=x / 256:=Int.fdiv_eq_ediv_of_nonneg _ (by decide);simp only [Wv,FAy,mk,e1,e2,e3,ZP,four];grind
theorem RBd {n:Nat} (h:n<1099511627776):SAi (n:Int)=some (ofBytes (Ar7 (n:Int))):=by
 have e1:Int.fdiv (n:Int) (2 ^ (Min.min (32:Int).toNat (IntKind.bits IntKind.i64)))=(n:Int) / 4294967296:=Int.fdiv_eq_ediv_of_nonneg _ (by decide);simp only [SAi,GAy,mk,e1,UAm (O0 _),AO];rw [Atd (by rfl)];congr 1;apply Asj
 rw [ArL,At6 (Vx (O0 _)),At6 (Vx (O0 _)),At6 (fun x hx=>by
  simp only [Ar7,List.mem_cons,List.not_mem_nil,or_false] at hx;omega)]
 simp only [four,Ar7,xk,List.cons_append,List.nil_append,List.cons.injEq,and_true];omega
theorem SBd {n:Nat} (h:n<=100000000000):TAi (n:Int)=some (ofBytes (Ia n)):=by
 have e1:(AU (119 - ((n:Int).tmod 64))).tmod 64=(((119 - n % 64) % 64:Nat):Int):=by grind [Ar]
 have e2:AU (8*(n:Int))=((8*n:Nat):Int):=by grind [Ar]
 have h0:(⟨#[128]⟩:AA).size=1:=rfl;simp only [TAi,HAy,mk,e1,e2,TAm (n:=(119 - n % 64) % 64) (by omega),RBd (n:=8*n) (by omega),AO];rw [Atd (by grind [DK]),Atd (by rw [ByteArray.size_append,DK,DK];simp [h0,Ar7];omega)];congr 1;apply Asj;have hb:Gs (List.replicate ((119 - n % 64) % 64) (0:Int)):=fun x hx=>by grind
 have hb2:Gs (Ar7 ((8*n:Nat):Int)):=fun x hx=>by simp only [Ar7,List.mem_cons,List.not_mem_nil,or_false] at hx;omega
 rw [ArL,ArL,At6 hb,At6 hb2,At6 (VA4 n),Ia];rfl
theorem TBd {x:Int} (h:R32 x) (n:Nat) (hn:0<n) (hn2:n<32) (k:Int) (hk:wu64 (((BitVec.toNat ((BitVec.ofInt (IntKind.bits IntKind.u64) (wu64 k)) &&& (BitVec.ofInt (IntKind.bits IntKind.u64) (31:Int)))):Nat):Int)=((32 - n:Nat):Int))
  (hk2:wu64 (32 - ((32 - n:Nat):Int))=(n:Int)):UAi x k=some (rt (2 ^ n) (2 ^ (32 - n)) x):=by
 have e1:Min.min ((32 - n:Nat):Int).toNat (IntKind.bits IntKind.u32)=32 - n:=by show Min.min ((32 - n:Nat):Int).toNat 32=_;omega
 have e2:Min.min (n:Int).toNat (IntKind.bits IntKind.u32)=n:=by show Min.min (n:Int).toNat 32=_;omega
 have e3:Int.fdiv x (2 ^ n)=x / 2 ^ n:=Int.fdiv_eq_ediv_of_nonneg _ (Int.le_of_lt (Int.pow_pos (by omega)));simp only [UAi,IAy,mk,hk,hk2,e1,e2,e3];grind [WBD,Af3]
theorem VE {x:Int} (h:R32 x) (n:Nat) (hn:0<n) (hn2:n<32) (hk:wu64 (((BitVec.toNat ((BitVec.ofInt (IntKind.bits IntKind.u64) (wu64 (AU (0 - (n:Int))))) &&& (BitVec.ofInt (IntKind.bits IntKind.u64) (31:Int)))):Nat):Int)=((32 - n:Nat):Int))
  (hk2:wu64 (32 - ((32 - n:Nat):Int))=(n:Int)):NT x (n:Int)=some (rt (2 ^ n) (2 ^ (32 - n)) x):=by
 simp only [NT,JAy,mk,TBd h n hn hn2 _ hk hk2,AO]
theorem UBd {x:Int} (h:R32 x):NT x 2=some (rt 4 1073741824 x):=VE h 2 (by decide) (by decide) (by decide) (by decide)
theorem VBd {x:Int} (h:R32 x):NT x 13=some (rt 8192 524288 x):=VE h 13 (by decide) (by decide) (by decide) (by decide)
theorem WBd {x:Int} (h:R32 x):NT x 22=some (rt 4194304 1024 x):=VE h 22 (by decide) (by decide) (by decide) (by decide)
theorem XBd {x:Int} (h:R32 x):NT x 6=some (rt 64 67108864 x):=VE h 6 (by decide) (by decide) (by decide) (by decide)
theorem YBd {x:Int} (h:R32 x):NT x 11=some (rt 2048 2097152 x):=VE h 11 (by decide) (by decide) (by decide) (by decide)
theorem ZBd {x:Int} (h:R32 x):NT x 25=some (rt 33554432 128 x):=VE h 25 (by decide) (by decide) (by decide) (by decide)
theorem AhD {x:Int} (h:R32 x):NT x 7=some (rt 128 33554432 x):=VE h 7 (by decide) (by decide) (by decide) (by decide)
theorem BBe {x:Int} (h:R32 x):NT x 18=some (rt 262144 16384 x):=VE h 18 (by decide) (by decide) (by decide) (by decide)
theorem CBe {x:Int} (h:R32 x):NT x 17=some (rt 131072 32768 x):=VE h 17 (by decide) (by decide) (by decide) (by decide)
theorem DBe {x:Int} (h:R32 x):NT x 19=some (rt 524288 8192 x):=VE h 19 (by decide) (by decide) (by decide) (by decide)
theorem EBe {a b:Int} (ha:0<=a/\a<16777216) (hb:0<=b/\b<=255):xq (w32 (a*256)) (w32 b)=a*256+b:=by
 obtain ⟨x,rfl⟩:∃ x:Nat,a=(x:Int):=⟨a.toNat,by omega⟩
 obtain ⟨y,rfl⟩:∃ y:Nat,b=(y:Int):=⟨b.toNat,by omega⟩
 rw [Sv (by omega) (by omega),Sv (by omega) (by omega)];have:=XBD (a:=x) (b:=y) (s:=8) (by omega) (by omega) (by omega);assumption
def AsD (l:List Int) (i:Nat):Nat->Int
 | 0=>0
 | k+1=>AsD l i k*256+l.getD (4*i+k) 0
theorem FBe (l:List Int) (i:Nat):AsD l i 4=wordAt l i:=by grind [AsD,wordAt,be4]
theorem GBe {l:List Int} (h:Gs l) (i:Nat):∀ k,k<4->0<=AsD l i k/\AsD l i k<16777216
 | 0,_=>by simp [AsD]
 | 1,_=>by have:=NK h (4*i+0);grind [AsD]
 | 2,_=>by have:=NK h (4*i+0);have:=NK h (4*i+1);grind [AsD]
 | 3,_=>by have:=NK h (4*i+0);have:=NK h (4*i+1);have:=NK h (4*i+2);grind [AsD]
theorem HBe {b:AA} (hb:b.size=64) (v:List Int) (i:Nat) (hi:i<16):∀ (j k m:Nat),k+j=4->
  P6 (m+j+1) (.c1 b (i:Int) (i:Int) (k:Int) v (At7 (bs b) i++AsD (bs b) i k::List.replicate (63 - i) 0))=P6 m (.c0 b ((i+1:Nat):Int) v (At7 (bs b) (i+1)++List.replicate (63 - i) 0)):=by
 have hby:=Si b;intro j;induction j with
 | zero=>
  grind [Ar,P6,YZ,FBe,CBE]
 | succ j ih=>
  intro k m h;have hk:k<4:=by omega
  have hlen:(At7 (bs b) i++AsD (bs b) i k::List.replicate (63 - i) 0).length=64:=by grind [bU]
  have e:AU ((k:Int)+1)=((k+1:Nat):Int):=by grind [Ar]
  have e4:AU (4*(i:Int))=((4*i:Nat):Int):=by grind [Ar]
  have e5:AU (((4*i:Nat):Int)+(k:Int))=((4*i+k:Nat):Int):=by grind [Ar]
  have e8:(2:Int) ^ (Min.min (8:Int).toNat (IntKind.bits IntKind.u32))=256:=by decide
  have hg:(At7 (bs b) i++AsD (bs b) i k::List.replicate (63 - i) 0).getD i 0=AsD (bs b) i k:=by grind
  rw [show m+(j+1)+1=(m+j+1)+1 by omega,P6];simp only [YZ,mk,e,e4,e5,e8,BU,hlen,hg,WBD];rw [Atd (by grind),Atd (by rfl),Atd (by grind),Atd (by simp;omega),Atd (by rfl),Atd (by grind)];rw [ArC (by omega),EBe (GBe hby i k hk) (NK hby _),bQ (bU _ i)];exact ih (k+1) m (by omega)
theorem IBe {b:AA} (hb:b.size=64) (v:List Int):∀ (j i m:Nat),i+j=16->P6 (m+6*j+1) (.c0 b (i:Int) v (At7 (bs b) i++List.replicate (64 - i) 0))=P6 m (.c2 16 v (At7 (bs b) 16++List.replicate 48 0)):=by
 intro j;induction j with
 | zero=>
  grind [P6,YZ]
 | succ j ih=>
  intro i m h;rw [show m+6*(j+1)+1=(m+6*j+1)+4+1+1 by omega,P6];simp only [YZ,mk];rw [Atd (by grind)];have h1:=HBe hb v i (by omega) 4 0 (m+6*j+1) (by omega);rw [show 64 - i=(63 - i)+1 by omega,List.replicate_succ];have h2:=ih (i+1) m (by omega);rw [show 64 - (i+1)=63 - i by omega] at h2;exact h1.trans h2
theorem JBe {w v:List Int} (hw:∀ x ∈ w,R32 x) (hwl:w.length=16) (hv:v.length=64):∀ (j i m:Nat),i+j=48->P6 (m+j+1) (.c2 ((16+i:Nat):Int) v (sched w i++List.replicate (48 - i) 0))=some (sched w 48):=by
 intro j;induction j with
 | zero=>
  intro i m h;obtain rfl:i=48:=by omega
  simp_all [xu,P6,YZ,mk]
 | succ j ih=>
  intro i m h;have hl:=xu hwl i;have hr:=GAm hw i;have hlen:(sched w i++List.replicate (48 - i) 0).length=64:=by grind
  have e2:AU (((16+i:Nat):Int) - 2)=((16+i - 2:Nat):Int):=by grind [Ar]
  have e7:AU (((16+i:Nat):Int) - 7)=((16+i - 7:Nat):Int):=by grind [Ar]
  have e15:AU (((16+i:Nat):Int) - 15)=((16+i - 15:Nat):Int):=by grind [Ar]
  have e16:AU (((16+i:Nat):Int) - 16)=((16+i - 16:Nat):Int):=by grind [Ar]
  have e1:AU (((16+i:Nat):Int)+1)=((16+(i+1):Nat):Int):=by grind [Ar]
  have g2:(sched w i++List.replicate (48 - i) 0).getD (16+i - 2) 0=(sched w i).getD (16+i - 2) 0:=EAm (by omega) 0;have g7:(sched w i++List.replicate (48 - i) 0).getD (16+i - 7) 0=(sched w i).getD (16+i - 7) 0:=EAm (by omega) 0;have g15:(sched w i++List.replicate (48 - i) 0).getD (16+i - 15) 0=(sched w i).getD (16+i - 15) 0:=EAm (by omega) 0;have g16:(sched w i++List.replicate (48 - i) 0).getD (16+i - 16) 0=(sched w i).getD (16+i - 16) 0:=EAm (by omega) 0;have f10:∀ x:Int,Int.fdiv x (2 ^ (Min.min (10:Int).toNat (IntKind.bits IntKind.u32)))=x / 1024:=fun x=>Int.fdiv_eq_ediv_of_nonneg _ (by decide)
  have f3:∀ x:Int,Int.fdiv x (2 ^ (Min.min (3:Int).toNat (IntKind.bits IntKind.u32)))=x / 8:=fun x=>Int.fdiv_eq_ediv_of_nonneg _ (by decide)
  have Bp:=xw hr (16+i - 15);have r2:=xw hr (16+i - 2);rw [show m+(j+1)+1=(m+j+1)+1 by omega,P6];simp only [YZ,mk,e1,e2,e7,e15,e16,BU,hlen,g2,g7,g15,g16,AhD Bp,BBe Bp,CBe r2,DBe r2,AO,f10,f3,TK];rw [Atd (by grind),Atd (by rfl),Atd (by grind),Atd (by rfl),Atd (by grind),Atd (by rfl),Atd (by grind),Atd (by rfl),Atd (by grind),Atd (by rfl),Atd (by grind)];rw [show 48 - i=(48 - (i+1))+1 by omega,List.replicate_succ,bQ (by omega)];have h2:=ih (i+1) m (by omega);rw [sched,List.append_assoc] at h2;exact h2
theorem KBe {b:AA} (hb:b.size=64):yJ b=some (sched (At7 (bs b) 16) 48):=by
 obtain ⟨m,hm⟩:∃ m,AX=(m+48+1)+6*16+1:=⟨AX - 146,by rfl⟩
 rw [yJ,KAy,mk,hm];have h0:=IBe hb (List.replicate 64 0) 16 0 (m+48+1) (by omega);have h2:=JBe (w:=At7 (bs b) 16) (v:=List.replicate 64 0) (TA4 (Si b) 16) (bU _ 16) (List.length_replicate ..) 48 0 m (by omega);rw [show At7 (bs b) 0++List.replicate (64 - 0) 0=List.replicate 64 (0:Int) from rfl,show ((0:Nat):Int)=0 from rfl] at h0;grind [sched]
theorem LBe (s r v:List Int) (hs:s.length=8) (hv:v.length=8) (f:Nat->Int) (hf:∀ i,i<8->f i=w32 (r.getD i 0+s.getD i 0)) (hr:r.length=8):∀ (j i m:Nat),i+j=8->TS (m+j+1) (.c1 (i:Int) s v ((List.range i).map f++r.drop i))=some ((List.range 8).map f):=by
 intro j;induction j with
 | zero=>
  intro i m h;obtain rfl:i=8:=by omega
  simp_all [TS,yK,mk]
 | succ j ih=>
  intro i m h;have e:AU ((i:Int)+1)=((i+1:Nat):Int):=by grind [Ar]
  have hl:((List.range i).map f++r.drop i).length=8:=by grind
  have hm:((List.range i).map f).length=i:=by simp
  have hg:((List.range i).map f++r.drop i).getD i 0=r.getD i 0:=by grind
  rw [show m+(j+1)+1=(m+j+1)+1 by omega,TS];simp only [yK,mk,e,BU,hl,hs,hg];rw [Atd (by grind),Atd (by rfl),Atd (by grind),Atd (by rfl),Atd (by grind),Atd (by rfl),Atd (by grind)];rw [drop_at (by omega:i<r.length),bQ hm,<-hf i (by omega)];have h2:=ih (i+1) m (by omega);simp_all [List.range_succ]
theorem MBe (s v W:List Int) (hW:∀ x ∈ W,R32 x) (B0:W.length=64) (r:Reg) (hr:r.ok) (i m:Nat) (hi:i<64) :
  TS (m+1) (.c0 r.a r.b r.c r.d r.e r.f r.g r.h (i:Int) s v W)=TS m (.c0 (TM r (keysL.getD i 0) (W.getD i 0)).a (TM r (keysL.getD i 0) (W.getD i 0)).b (TM r (keysL.getD i 0) (W.getD i 0)).c (TM r (keysL.getD i 0) (W.getD i 0)).d (TM r (keysL.getD i 0) (W.getD i 0)).e (TM r (keysL.getD i 0) (W.getD i 0)).f (TM r (keysL.getD i 0) (W.getD i 0)).g (TM r (keysL.getD i 0) (W.getD i 0)).h ((i+1:Nat):Int) s v W):=by
 obtain ⟨h1,h2,h3,h4,h5,h6,h7,h8⟩:=hr
 have e:AU ((i:Int)+1)=((i+1:Nat):Int):=by grind [Ar]
 rw [TS];simp only [yK,mk,e,BU,B0,XBd h5,YBd h5,ZBd h5,UBd h1,VBd h1,WBd h1,AO,TK,SA4,YBa h5];rw [Atd (by grind),Atd (by grind),Atd (by simp_all),Atd (by rfl),Atd (by grind)];rfl
theorem NBe (s v W:List Int) (hW:∀ x ∈ W,R32 x) (B0:W.length=64) (r:Reg) (hr:r.ok):∀ (j i m:Nat),i+j=64->
  TS (m+j+1) (.c0 (LY keysL W r i).a (LY keysL W r i).b (LY keysL W r i).c (LY keysL W r i).d (LY keysL W r i).e (LY keysL W r i).f (LY keysL W r i).g (LY keysL W r i).h (i:Int) s v W)=TS m (.c1 0 s v (LY keysL W r 64).l):=by
 intro j;induction j with
 | zero=>
  intro i m h;obtain rfl:i=64:=by omega
  rfl
 | succ j ih=>
  intro i m h;rw [show m+(j+1)+1=(m+j+1)+1 by omega,MBe s v W hW B0 _ (BBE keysL W hr i) i _ (by omega)];exact ih (i+1) m (by omega)
theorem OBe {s:Reg} (hs:s.ok) {b:AA} (hb:b.size=64):yL s.l b=some (comp s (bs b)).l:=by
 obtain ⟨m,hm⟩:∃ m,AX=(m+8+1)+64+1:=⟨AX - 74,by rfl⟩
 have hr:=GAm (TA4 (Si b) 16) 48;have hl:=xu (bU (bs b) 16) 48;have hsl:s.l.length=8:=rfl;have z0:(0:Int).toNat=0:=rfl;have z1:(1:Int).toNat=1:=rfl;have z2:(2:Int).toNat=2:=rfl;have z3:(3:Int).toNat=3:=rfl;have z4:(4:Int).toNat=4:=rfl;have z5:(5:Int).toNat=5:=rfl;have z6:(6:Int).toNat=6:=rfl;have z7:(7:Int).toNat=7:=rfl;rw [yL,LAy,mk,KBe hb,AO,hm];simp only [hl,hsl,List.length_replicate,z0,z1,z2,z3,z4,z5,z6,z7];rw [Atd (by rfl),Atd (by rfl),Atd (by rfl),Atd (by rfl),Atd (by rfl),Atd (by rfl),Atd (by rfl),Atd (by rfl),Atd (by rfl),Atd (by rfl),Atd (by rfl),Atd (by rfl),Atd (by rfl),Atd (by rfl),Atd (by rfl),Atd (by rfl),Atd (by rfl)];have h0:=NBe s.l [0,0,0,0,0,0,0,0] _ hr hl s hs 64 0 (m+8+1) (by omega);rw [show ((0:Nat):Int)=0 from rfl] at h0;have hf:∀ i,i<8->(fun i=>w32 ((LY keysL (sched (At7 (bs b) 16) 48) s 64).l.getD i 0+s.l.getD i 0)) i=w32 ((LY keysL (sched (At7 (bs b) 16) 48) s 64).l.getD i 0+s.l.getD i 0):=fun _ _=>rfl
 have h1:=LBe s.l (LY keysL (sched (At7 (bs b) 16) 48) s 64).l [0,0,0,0,0,0,0,0] rfl rfl _ hf rfl 8 0 m (by omega);rw [show ((0:Nat):Int)=0 from rfl,List.range_zero,List.map_nil,List.nil_append,List.drop_zero] at h1;have e:(List.range 8).map (fun i=>w32 ((LY keysL (sched (At7 (bs b) 16) 48) s 64).l.getD i 0+s.l.getD i 0))=(comp s (bs b)).l:=by
  apply List.ext_getElem;·rw [Reg.x9,List.length_map,List.length_range]
  ·intro i h1 h2;have hi:i<8:=by assumption
   rw [List.getElem_map,List.getElem_range,<-getD_at h2 0];grind [comp,SBb]
 rw [e] at h1;exact h0.trans h1
theorem PBe {s:Reg} (hs:s.ok) {t:AA} (ht:t.size<=1000000000000):WAi s.l t=some ((comps (t.size / 64) s (bs t)).l,t.extract (64*(t.size / 64)) t.size):=by
 have key:∀ (j:Nat) (s:Reg) (t:AA) (m:Nat),s.ok->t.size / 64=j->t.size<=1000000000000->oQ (m+j+1) (.c0 t s.l [0,0,0,0,0,0,0,0])=some ((comps j s (bs t)).l,t.extract (64*j) t.size):=by
  intro j;induction j with
  | zero=>
   intro s t m hs hj ht;rw [oQ];simp only [VAi,mk,Reg.x9];rw [PY (by grind),Atd (by rfl),Atd (by rfl),Atd (by rfl)];congr 2;simp
  | succ j ih=>
   intro s t m hs hj ht;have h64:(64:Int).toNat=64:=rfl;have e1:bs (t.extract 0 64)=(bs t).take 64:=by simp [AvE]
   have e2:bs (t.extract 64 t.size)=(bs t).drop 64:=by simp [AvE,List.take_of_length_le,bs_len]
   rw [show m+(j+1)+1=(m+j+1)+1 by omega,oQ];simp only [VAi,mk,h64,Reg.x9];rw [Atd (by grind),Atd (by rfl),Atd (by grind)];rw [OBe hs (b:=t.extract 0 64) (by simp;omega),AO];rw [Reg.x9];rw [Atd (by rfl)];grind [DBE,Asj,AvE,bs_len,List.drop_drop,comps]
 obtain ⟨m,hm⟩:∃ m,AX=m+t.size / 64+1:=⟨AX - (t.size / 64+1),by have:=FP (n:=t.size / 64+1) (by omega);omega⟩
 rw [WAi,MAy,hm];grind
theorem QBe {r:Reg} (hr:r.ok):XAi r.l=some (ofBytes (Me r.l)):=by
 have hl:r.l.length=8:=rfl;have hrl:=Reg.nP hr;have hby:∀ i,Gs (Me (r.l.take i)):=fun i=>UA4 (fun x hx=>hrl x (List.mem_of_mem_take hx))
 have key:=PL (A:=Unit) (n:=8) (Hj:=yM) (st:=fun i _=>.c0 (ofBytes (Me (r.l.take i))) r.l (i:Int)) (Inv:=fun _ _=>True) (out:=fun _ _=>some (ofBytes (Me r.l)))
  (fun m _ _=>by
   rfl)
  (fun m i _ hi _=>.inr ⟨(),by
   have e:AU ((i:Int)+1)=((i+1:Nat):Int):=by grind [Ar]
   have hg:r.l.getD i 0=r.l[i]'(by omega):=getD_at (by omega) 0;have hx:R32 (r.l.getD i 0):=xw hrl i;rw [yM];simp only [OAy,mk,e,BU,UAm hx,AO,hl];rw [Atd (by grind),Atd (by rfl),Atd (by grind),Atd (by grind [DK,FBE,four])];congr 2;apply Asj;rw [ArL,At6 (hby i),At6 (hby (i+1)),At6 (Vx hx),take_at (by omega),HBb,hg];rfl,trivial,rfl⟩)
 rw [XAi,NAy,mk,hl,Atd (by rfl)];exact key AX 0 () (DF _) (FP (by omega)) trivial
theorem RBe:DAy=some Tz.l:=rfl
theorem PW {s:AA} (hs:s.size<=1000000000):KZ s=some (Auo s):=by
 have h1:=HAm s.size;have hsz:(s++ofBytes (Ia s.size)).size=s.size+(Ia s.size).length:=by simp [DK]
 rw [KZ,PAy,mk,RBe,AO,SBd (n:=s.size) (by omega),AO,Atd (by grind),PBe bW (by omega),AO];simp only [Reg.x9];rw [Atd (by rfl),Atd (by rfl),QBe (bV bW _ _),AO,hsz,ArL,At6 (VA4 _),Auo,Tv,bs_len]
theorem RA5:IW Ato=true:=Asq.2 ⟨IQ _,by rfl,(by decide:(0:Int)<=0/\(0:Int)<=3),(by decide:0<=8),(by decide:(0:Int)<=0/\(0:Int)<=1000),(by decide:(0:Int)<=0/\(0:Int)<=10000),rfl⟩
def Wi (w:AA):Aq:=⟨1,Auo w,0,⟨0,0,false,false,false,false,⟨#[]⟩,0⟩⟩
noncomputable def Pq (k w:AA):Aj×Bool:=
 bif !((k.size:Int) == 32) || decide ((w.size:Int) > 20) then (QA5,false)
 else (⟨k,true,(IY ⟨[]⟩ (Wp k 0 (Wi w)).1 0).1,(Ara Ato (Wi w)).1,[],[],0⟩,true)
theorem VAm (w:AA):As2 (Wi w)=(ofBytes [1]++Auo w,true):=by grind [As2,Wi,IQ,Oh]
theorem SBe (w:AA):(Ara Ato (Wi w)).2=true:=by rw [Ara,RA5,VAm,show decide (Ato.fCount>=10000)=false from rfl];rfl
theorem TBe (k w:AA):EAg k w=some (Pq k w):=by
 rw [EAg,XAs,mk,Pq,bne];cases hz:(k.size:Int) == 32;·rfl
 rw [beq_iff_eq] at hz;by_cases hw:(w.size:Int) > 20;·rw [Bg hw];rfl
 rw [D5 hw,ArI (s:=w) (by omega),vS];simp only [AO,EA5 (b:=Ato) (DF _),EBG (k:=k) (d:=⟨[]⟩) (by omega) (DF _)];rfl
theorem Atw {c:C9} {n:Int} (hc:Hl c):Ok (Auy c n) fun r=>Hl r.2:=by rw [Auy,ZAs,mk];exact Ok.bind (As3 hc) fun a ha=>Ok.ret ha.2
theorem FBG {c:C9} {l:List Int} (hc:Hl c) (hl:0<l.length):Ok (yN c l) fun r=>r.1 ∈ l/\Hl r.2:=by
 rw [yN,BAt,mk];refine Ok.bind (As3 hc) fun a ha=>?_
 simp_all [Ok.ret]
theorem WAm {c:C9} {l:List AA} (hc:Hl c) (hl:0<l.length):Ok (oU c l) fun r=>r.1 ∈ l/\Hl r.2:=by
 rw [oU,CAt,mk];refine Ok.bind (As3 hc) fun a ha=>?_
 simp_all [Ok.ret]
theorem UBe {c:C9} {n:Int} (hc:Hl c) (h0:0<=n):Ok (GAg c n) fun r=>(r.1.size:Int)=min n 5000/\Hl r.2:=by
 have key:∀ (j i m:Nat) (N:Nat) (a b:Int) (out:List Int),i+j=N->N<=5000->out.length=i->0<=a->Ok (dD (m+j+1) (.c0 (N:Int) (i:Int) a b out)) fun r=>r.1.size=N/\Hl r.2:=by
  intro j;induction j with
  | zero=>
   intro i m N a b out hi hN ho ha;rw [dD];simp only [FAg,mk];rw [PY (by simp_all)];exact Ok.ret ⟨by grind [DK],ha⟩
  | succ j ih=>
   intro i m N a b out hi hN ho ha;have hw:AU ((i:Int)+1)=((i+1:Nat):Int):=by grind [Ar]
   rw [ArJ m j,dD];simp only [FAg,mk,hw];rw [Atd (by grind)];exact Ok.bind (nK (c:=⟨(),a,b⟩) ha) fun r hr=>Ok.chk (by grind) (ih (i+1) m N _ _ _ (by omega) hN (by simp [ho]) hr.2.2)
 rw [GAg,DAt];have run:∀ N:Nat,N<=5000->Ok (dD AX (.c0 (N:Int) 0 c.fI c.fH [])) fun r=>r.1.size=N/\Hl r.2:=fun N hN=>by
  obtain ⟨m,hm⟩:=gm (n:=N) (by omega)
  rw [hm];exact key N 0 m N _ _ [] (Nat.zero_add _) hN rfl hc
 refine Ok.cond (fun h=>?_) fun h=>?_
 ·grind
 ·rw [decide_eq_false_iff_not] at h;have:=run n.toNat (by omega);grind
theorem GBG {s:AA} (h:s ∈ [(⟨#[97]⟩:AA),⟨#[98]⟩,⟨#[99]⟩]):s.size=1:=by simp only [List.mem_cons,List.not_mem_nil,or_false] at h;rcases h with rfl | rfl | rfl <;> rfl
theorem VBe {c:C9} (hc:Hl c):Ok (yO c) fun r=>AuI r.1=true/\Hl r.2:=by
 rw [yO,EAt,mk];refine Ok.bind (As3 hc) fun a ha=>Ok.bind (As3 ha.2) fun b hb=>Ok.bind (Atw hb.2) fun d hd=>Ok.bind (Atw hd) fun e he=>?_
 have a1:=ha.1.2.1 (by omega);have b1:=hb.1.2.1 (by omega);have hi:AU (1+a.1)=1+a.1:=Ar (by omega) (by omega);have hk:AU (1+b.1)=1+b.1:=Ar (by omega) (by omega);rw [hi,hk];have base:AvO (1+a.1) 1 1000=true/\AvO (1+b.1) 1 3=true:=⟨DU.2 (by omega),DU.2 (by omega)⟩
 have hd32:∀ s:AA,((Auo s).size:Int) == 32:=fun s=>by rfl
 refine Ok.cond (fun h3=>?_) fun h3=>Ok.cond (fun h2=>?_) fun h2=>?_
 ·refine Ok.bind (As3 he) fun f hf=>Ok.bind (UBe hf.2 hf.1.1) fun g hg=>Ok.ret ⟨?_,hg.2⟩
  have f1:=hf.1.2.1 (by omega);rw [beq_iff_eq] at h3;rw [AuI,base.1,base.2,h3,Bg (by omega:(g.1.size:Int)<=100)];rfl
 ·refine Ok.bind (As3 he) fun f hf=>Ok.bind (Atw hf.2) fun g hg=>Ok.bind (WAm hg (by decide)) fun t ht=>Ok.bind (Ok.eq (ArI (by simp_all [GBG]))) fun v hv=>Ok.ret ⟨?_,ht.2⟩
  grind [AuI,DU]
 ·refine Ok.bind (Atw he) fun g hg=>Ok.bind (WAm hg (by decide)) fun t ht=>Ok.bind (Ok.eq (ArI (by simp_all [GBG]))) fun v hv=>Ok.ret ⟨?_,ht.2⟩
  grind [DU,AuI]
def EW (b:Bf):List Aq->Bf×Bool
 | []=>(b,true)
 | r::rs=>bif (Ara b r).2 then EW (Ara b r).1 rs else (nY,false)
theorem SA5 {b:Bf} {r:Aq} (h:(Ara b r).2=true):(Ara b r).1.Ag.length<=8:=(Asq.1 (Vs h).2.2.2.1).2.2.2.1
theorem WBe {rs:List Aq}:∀ {b:Bf},IW b=true->(EW b rs).2=true->IW (EW b rs).1=true:=by induction rs<;>grind [EW,Ara,Vs]
theorem TA5 {l k:List Aq}:∀ {b:Bf},EW b (l++k)=bif (EW b l).2 then EW (EW b l).1 k else (nY,false):=by induction l<;>grind [EW]
theorem HBG {b:Bf} {l:List Aq} (w:Nat) (h:(EW b l).2=true):(EW b (l.take w)).2=true:=by grind [TA5,List.take_append_drop]
theorem XBe {l:List Aq}:∀ {b:Bf},(EW b l).2=true->(EW b l).1.fCount=b.fCount+(l.length:Int):=by induction l<;>grind [EW,Ara]
def pw (k:Nat):Int:=128 ^ k
theorem WA:pw 0=1:=rfl
theorem UA5 (k:Nat):pw (k+1)=pw k*128:=Int.pow_succ ..
theorem YBe {k:Nat} (h:k<5):pw k=1\/pw k=128\/pw k=16384\/pw k=2097152\/pw k=268435456:=by
 rcases (by omega:k=0\/k=1\/k=2\/k=3\/k=4) with rfl | rfl | rfl | rfl | rfl
 ·exact .inl rfl
 ·exact .inr (.inl rfl)
 ·exact .inr (.inr (.inl rfl))
 ·exact .inr (.inr (.inr (.inl rfl)))
 ·exact .inr (.inr (.inr (.inr rfl)))
def VF:Int×Int×Bool:=(0,0,false)
def AIA (text:AA) (a:Nat) (r:Int×Int×Bool):Prop:=r=VF\/∃ v:Int,∃ q:Nat,r=(v,((q:Nat):Int),true)/\0<=v/\v<=1000000000/\a<q/\q<=text.size
def At (text:AA) (p:Nat) (l:List Int):Prop:=∃ rest,(bs text).drop p=l++rest
theorem At.left {text:AA} {p:Nat} {l m:List Int} (h:At text p (l++m)):At text p l:=by obtain ⟨r,hr⟩:=h;exact ⟨m++r,by simp_all⟩
theorem At.right {text:AA} {p:Nat} {l m:List Int} (h:At text p (l++m)):At text (p+l.length) m:=by obtain ⟨r,hr⟩:=h;exact ⟨r,by grind [List.drop_drop,List.drop_left]⟩
theorem At.size {text:AA} {p:Nat} {l:List Int} (h:At text p l):l=[]\/p+l.length<=text.size:=by
 obtain ⟨r,hr⟩:=h
 have:=congrArg List.length hr;rw [List.length_drop,bs_len,List.length_append] at this;cases l<;>grind
theorem At.head {text:AA} {p:Nat} {x:Int} {l:List Int} (h:At text p (x::l)):p<text.size/\bt text (p:Int)=x:=by
 have hs:p+(x::l).length<=text.size:=by rcases h.size with h | h;all_goals simp_all
 simp only [List.length_cons] at hs;have hp:p<text.size:=by omega
 refine ⟨hp,?_⟩;rw [iZ hp];obtain ⟨r,hr⟩:=h
 simp_all [bs,List.drop_eq_getElem_cons]
theorem At.extract {text:AA} {p:Nat} {l:List Int} (h:At text p l) (hl:∀ n,n ∈ l->0<=n/\n<=255):text.extract p (p+l.length)=ofBytes l:=by
 apply Asj;rw [AvE,At6 hl];obtain ⟨r,hr⟩:=h
 simp_all [List.drop_take]
theorem Aq9:∀ (n:Int),0<=n->∀ x,x ∈ Atn n->0<=x/\x<=255:=by intro n;induction n using Atn.induct<;>grind [Atn,MX]
theorem dF {n:Int} (h:0<=n) (h2:n<=127):Atn n=[n]:=by grind [Atn,MX]
theorem IBG {n:Int} (h:n<=1000000000):(Atn n).length<=5:=by have:=QBE 5 n (by omega);omega
theorem XAm {text:AA} {a k m:Nat} {n s:Int} (hs:text.size<=140737488351232) (ha:a<=text.size) (hi:text.size<=a+k\/5<=k):TT (m+1) (.c0 text a n s ((a+k:Nat):Int))=some VF:=by
 simp only [TT,OAg,mk];by_cases h:a+k<text.size;·rw [show decide (((a+k:Nat):Int)<(text.size:Int))=true from Bg (by omega),Ar (n:=(a:Int)+5) (by omega) (by omega),show decide (((a+k:Nat):Int)<(a:Int)+5)=false from D5 (by omega)];rfl
 ·rw [show decide (((a+k:Nat):Int)<(text.size:Int))=false from D5 (by omega)];rfl
theorem Ya {k:Nat} {n b:Int} (hk:k<5) (h0:0<=n) (h1:n<pw k) (hb:0<=b/\b<=255) :
  (b<128->b.tmod 128=b/\AU (b*pw k)=b*pw k/\AU (n+b*pw k)=n+b*pw k/\0<=n+b*pw k/\n+b*pw k<pw (k+1))/\
  (¬ b<128->b.tmod 128=b - 128/\AU ((b - 128)*pw k)=(b - 128)*pw k/\AU (n+(b - 128)*pw k)=n+(b - 128)*pw k/\0<=n+(b - 128)*pw k/\n+(b - 128)*pw k<pw (k+1))/\AU (pw k*128)=pw (k+1):=by
 rw [UA5];have e:b.tmod 128=b % 128:=Int.tmod_eq_emod_of_nonneg hb.1;refine ⟨fun h=>?_,fun h=>?_,?_⟩;all_goals grind [YBe,Ar]
theorem YAm {text:AA} {a k m:Nat} {n b:Int} (hs:text.size<=140737488351232) (hk:k<5) (hi:a+k<text.size) (h0:0<=n) (h1:n<pw k) (hb:bt text ((a+k:Nat):Int)=b) :
  TT (m+1) (.c0 text a n (pw k) ((a+k:Nat):Int))=if b<128 then (if n+b*pw k > 1000000000 then some VF else if ofBytes (Atn (n+b*pw k))=text.extract a (a+k+1) then some (n+b*pw k,((a+k+1:Nat):Int),true) else some VF) else TT m (.c0 text a (n+(b - 128)*pw k) (pw (k+1)) ((a+k+1:Nat):Int)):=by
 have hb':=TD text ((a+k:Nat):Int);rw [hb] at hb';obtain ⟨n1,n2,n3⟩:=Ya hk h0 h1 hb'
 have hw:AU (((a+k:Nat):Int)+1)=((a+k+1:Nat):Int):=by grind [Ar]
 simp only [TT,OAg,mk,hb,Ar (n:=b) (by omega) (by omega),n3,hw,BU]
 rw [show decide (((a+k:Nat):Int)<(text.size:Int))=true from Bg (by omega),Ar (n:=(a:Int)+5) (by omega) (by omega),show decide (((a+k:Nat):Int)<(a:Int)+5)=true from Bg (by omega),
  show decide ((0:Int)<=((a+k:Nat):Int))=true from Bg (by omega)]
 simp only [Bool.and_self,A8];by_cases h:b<128
 ·obtain ⟨e1,e2,e3,e4,_⟩:=n1 h
  rw [if_pos h,e1,e2,e3,show decide (b<128)=true from Bg h];by_cases h2:n+b*pw k > 1000000000;·rw [if_pos h2,show decide (n+b*pw k > 1000000000)=true from Bg h2];rfl
  ·rw [if_neg h2,show decide (n+b*pw k > 1000000000)=false from D5 h2,U3 (by omega)];simp only [A8,Aw,AO];rw [show decide ((0:Int)<=(a:Int))=true from Bg (by omega),show decide ((a:Int)<=((a+k+1:Nat):Int))=true from Bg (by omega),show decide (((a+k+1:Nat):Int)<=(text.size:Int))=true from Bg (by omega),toList_inj];by_cases h3:ofBytes (Atn (n+b*pw k))=text.extract a (a+k+1);·simp_all
   ·rw [if_neg h3,D5 h3];rfl
 grind
theorem ZBe {text:AA} {a:Nat} (hs:text.size<=140737488351232) (ha:a<=text.size):∀ j k m n,k+j=5->j<m->0<=n->n<pw k->∃ r,TT m (.c0 text a n (pw k) ((a+k:Nat):Int))=some r/\AIA text a r:=by
 intro j;induction j with
 | zero=>
  intro k m n hk hm _ _;obtain ⟨m,rfl⟩:∃ q,m=q+1:=⟨m - 1,by omega⟩
  exact ⟨_,XAm hs ha (.inr (by omega)),.inl rfl⟩
 | succ j ih=>
  intro k m n hk hm h0 h1;obtain ⟨m,rfl⟩:∃ q,m=q+1:=⟨m - 1,by omega⟩
  by_cases hi:a+k<text.size
  ·have hb:=TD text ((a+k:Nat):Int);generalize hbe:bt text ((a+k:Nat):Int)=b at hb;obtain ⟨n1,n2,_⟩:=Ya (b:=b) (by omega:k<5) h0 h1 hb
   rw [YAm hs (by omega) hi h0 h1 hbe];split
   ·rename_i h;split;·exact ⟨_,rfl,.inl rfl⟩
    ·split;·exact ⟨_,rfl,.inr ⟨_,_,rfl,(n1 h).2.2.2.1,by omega,by omega,by omega⟩⟩
     ·exact ⟨_,rfl,.inl rfl⟩
   ·rename_i h;obtain ⟨_,_,_,e4,e5⟩:=n2 h
    exact ih (k+1) m _ (by omega) (by omega) e4 e5
  ·exact ⟨_,XAm hs ha (.inl (by omega)),.inl rfl⟩
theorem Ahb {text:AA} {a:Nat} {V:Int} (hs:text.size<=140737488351232) (hV0:0<=V) (hV:V<=1000000000) (hA:At text a (Atn V)):∀ U k m n,Atn U=(Atn V).drop k->0<=U->n+pw k*U=V->0<=n->n<pw k->5<m+k->TT m (.c0 text a n (pw k) ((a+k:Nat):Int))=some (V,((a+(Atn V).length:Nat):Int),true):=by
 have h5:=IBG hV;intro U;induction U using Atn.induct with
 | case1 U hU ih=>
  intro k m n e1 u0 e2 h0 h1 hm;have hl:=congrArg List.length e1;rw [List.length_drop] at hl;have hp:=Rk U;have hk:k<5:=by omega
  obtain ⟨m,rfl⟩:∃ q,m=q+1:=⟨m - 1,by omega⟩
  have hA':At text (a+k) (Atn U):=by
   have:At text a ((Atn V).take k++(Atn V).drop k):=by simp_all
   have:=this.right;grind
  have e3:=e1;rw [Atn,if_pos hU] at hA' e3;obtain ⟨hi,hb⟩:=hA'.head
  obtain ⟨n1,n2,_⟩:=Ya (b:=128+U % 128) hk h0 h1 (by omega)
  obtain ⟨_,_,_,e4,e5⟩:=n2 (by omega)
  rw [YAm hs hk hi h0 h1 hb,if_neg (by omega)];refine ih (k+1) m _ ?_ (by omega) ?_ e4 e5 (by omega);·rw [<-List.drop_drop,<-e3];rfl
  grind [UA5]
 | case2 U hU=>
  intro k m n e1 u0 e2 h0 h1 hm;have hl:=congrArg List.length e1;rw [List.length_drop] at hl;have hp:=Rk U;have hk:k<5:=by omega
  obtain ⟨m,rfl⟩:∃ q,m=q+1:=⟨m - 1,by omega⟩
  have hA':At text (a+k) (Atn U):=by
   have:At text a ((Atn V).take k++(Atn V).drop k):=by simp_all
   have:=this.right;grind
  rw [dF u0 (by omega)] at hA' hl;simp only [List.length_singleton] at hl;obtain ⟨hi,hb⟩:=hA'.head
  have e3:n+U*pw k=V:=by simp_all [Int.mul_comm]
  have e4:a+k+1=a+(Atn V).length:=by omega
  rw [YAm hs hk hi h0 h1 hb,if_pos (by omega),e3,if_neg (by omega),e4,if_pos (hA.extract (Aq9 V hV0)).symm]
theorem BBf {text:AA} {a:Nat} (hs:text.size<=140737488351232) (ha:a<=text.size):∃ r,AvB text a=some r/\AIA text a r:=by simp only [AvB,yP,mk,AuF,AO];rw [show AvO (a:Int) 0 (text.size:Int)=true from DU.2 ⟨by omega,by omega⟩];exact ZBe hs ha 5 0 AX 0 rfl (FP (by omega)) (by omega) (by simp [WA])
theorem JBG {text:AA} {a:Nat} {V:Int} (hs:text.size<=140737488351232) (hV0:0<=V) (hV:V<=1000000000) (hA:At text a (Atn V)):AvB text a=some (V,((a+(Atn V).length:Nat):Int),true):=by
 have ha:a+(Atn V).length<=text.size:=by
  rcases hA.size with h | h
  all_goals grind [Rk]
 simp only [AvB,yP,mk,AuF,AO];rw [show AvO (a:Int) 0 (text.size:Int)=true from DU.2 ⟨by omega,by omega⟩];exact Ahb hs hV0 hV hA V 0 AX 0 (by simp) hV0 (by simp [WA]) (by omega) (by simp [WA]) (by simp [FP])
theorem JJ (x a b:Int):Je x a b=some (AvO x a b):=by show (bif decide (a<=x) then some (decide (x<=b)) else some false)=some (AvO x a b);grind [AvO]
theorem CBf {k:Nat} (h:k<5):(2:Int) ^ (Min.min (AU (7*(k:Int))).toNat (IntKind.bits IntKind.i64))=pw k/\AU (7*(k:Int))=7*(k:Int):=by refine ⟨?_,Ar (by omega) (by omega)⟩;rcases (by omega:k=0\/k=1\/k=2\/k=3\/k=4) with rfl | rfl | rfl | rfl | rfl <;> kernel_rfl
theorem ZAm {text:AA} {a k m:Nat} {n:Int} (hs:text.size<=140737488351232) (ha:a<=text.size) (hk:k<=5) (hi:text.size<=a+k\/5<=k):TU (m+1) (.c0 text a n k)=some VF:=by
 simp only [TU,DAj,mk];by_cases h:k<5;·rw [show decide ((k:Int)<5)=true from Bg (by omega),Ar (n:=(a:Int)+k) (by omega) (by omega),show decide ((a:Int)+k<(text.size:Int))=false from D5 (by omega)];rfl
 ·rw [show decide ((k:Int)<5)=false from D5 (by omega)];rfl
theorem AGU {text:AA} {a k m:Nat} {n b:Int} (hs:text.size<=140737488351232) (hk:k<5) (hi:a+k<text.size) (h0:0<=n) (h1:n<pw k) (hb:bt text ((a+k:Nat):Int)=b) :
  TU (m+1) (.c0 text a n k)=if b<128 then (if b=0/\0<k\/n+b*pw k > 1000000000 then some VF else some (n+b*pw k,((a+k+1:Nat):Int),true)) else TU m (.c0 text a (n+(b - 128)*pw k) ((k+1:Nat):Int)):=by
 have hb':=TD text ((a+k:Nat):Int);rw [hb] at hb';obtain ⟨n1,n2,n3⟩:=Ya hk h0 h1 hb'
 obtain ⟨p1,p2⟩:=CBf hk
 rw [p2] at p1;have ha:AU ((a:Int)+(k:Int))=((a+k:Nat):Int):=by grind [Ar]
 have hw:AU (((a+k:Nat):Int)+1)=((a+k+1:Nat):Int):=by grind [Ar]
 have hw2:AU ((k:Int)+1)=((k+1:Nat):Int):=by grind [Ar]
 simp only [TU,DAj,mk,ha,hb,Ar (n:=b) (by omega) (by omega),p2,p1,hw,hw2]
 rw [show decide (((a+k:Nat):Int)<(text.size:Int))=true from Bg (by omega),show decide ((k:Int)<5)=true from Bg (by omega),show decide ((0:Int)<=7*(k:Int))=true from Bg (by omega),
  show decide ((0:Int)<=((a+k:Nat):Int))=true from Bg (by omega)]
 simp only [Bool.and_self,A8];by_cases h:b<128
 ·obtain ⟨e1,e2,e3,e4,_⟩:=n1 h
  rw [if_pos h,e1,e2,e3,show decide (b<128)=true from Bg h];simp only [A8];by_cases hz:b=0
  ·rw [show (b == 0)=true from beq_iff_eq.2 hz];by_cases hk0:0<k;·rw [if_pos (.inl ⟨hz,hk0⟩),show decide ((k:Int) > 0)=true from Bg (by omega)];rfl
   grind
  ·rw [show (b == 0)=false from beq_eq_false_iff_ne.2 hz];by_cases h2:n+b*pw k > 1000000000;·rw [if_pos (.inr h2),show decide (n+b*pw k > 1000000000)=true from Bg h2];rfl
   grind
 grind
theorem DBf {text:AA} {a:Nat} (hs:text.size<=140737488351232) (ha:a<=text.size):∀ j k m n,k+j=5->j<m->0<=n->n<pw k->∃ r,TU m (.c0 text a n k)=some r/\AIA text a r:=by
 intro j;induction j with
 | zero=>
  intro k m n hk hm _ _;obtain ⟨m,rfl⟩:∃ q,m=q+1:=⟨m - 1,by omega⟩
  exact ⟨_,ZAm hs ha (by omega) (.inr (by omega)),.inl rfl⟩
 | succ j ih=>
  intro k m n hk hm h0 h1;obtain ⟨m,rfl⟩:∃ q,m=q+1:=⟨m - 1,by omega⟩
  by_cases hi:a+k<text.size
  ·have hb:=TD text ((a+k:Nat):Int);generalize hbe:bt text ((a+k:Nat):Int)=b at hb;obtain ⟨n1,n2,_⟩:=Ya (b:=b) (by omega:k<5) h0 h1 hb
   rw [AGU hs (by omega) hi h0 h1 hbe];split
   ·rename_i h;split;·exact ⟨_,rfl,.inl rfl⟩
    ·exact ⟨_,rfl,.inr ⟨_,_,rfl,(n1 h).2.2.2.1,by omega,by omega,by omega⟩⟩
   ·rename_i h;obtain ⟨_,_,_,e4,e5⟩:=n2 h
    exact ih (k+1) m _ (by omega) (by omega) e4 e5
  ·exact ⟨_,ZAm hs ha (by omega) (.inl (by omega)),.inl rfl⟩
theorem EBf {text:AA} {a:Nat} {V:Int} (hs:text.size<=140737488351232) (hV:V<=1000000000) (hA:At text a (Atn V)):∀ U k m n,Atn U=(Atn V).drop k->0<=U->(0<k->0<U)->n+pw k*U=V->0<=n->n<pw k->5<m+k->TU m (.c0 text a n k)=some (V,((a+(Atn V).length:Nat):Int),true):=by
 have h5:=IBG hV;intro U;induction U using Atn.induct with
 | case1 U hU ih=>
  intro k m n e1 u0 Gc e2 h0 h1 hm;have hl:=congrArg List.length e1;rw [List.length_drop] at hl;have hp:=Rk U;have hk:k<5:=by omega
  obtain ⟨m,rfl⟩:∃ q,m=q+1:=⟨m - 1,by omega⟩
  have hA':At text (a+k) (Atn U):=by
   have:At text a ((Atn V).take k++(Atn V).drop k):=by simp_all
   have:=this.right;grind
  have e3:=e1;rw [Atn,if_pos hU] at hA' e3;obtain ⟨hi,hb⟩:=hA'.head
  obtain ⟨n1,n2,_⟩:=Ya (b:=128+U % 128) hk h0 h1 (by omega)
  obtain ⟨_,_,_,e4,e5⟩:=n2 (by omega)
  rw [AGU hs hk hi h0 h1 hb,if_neg (by omega)];refine ih (k+1) m _ ?_ (by omega) (fun _=>by omega) ?_ e4 e5 (by omega);·rw [<-List.drop_drop,<-e3];rfl
  grind [UA5]
 | case2 U hU=>
  intro k m n e1 u0 Gc e2 h0 h1 hm;have hl:=congrArg List.length e1;rw [List.length_drop] at hl;have hp:=Rk U;have hk:k<5:=by omega
  obtain ⟨m,rfl⟩:∃ q,m=q+1:=⟨m - 1,by omega⟩
  have hA':At text (a+k) (Atn U):=by
   have:At text a ((Atn V).take k++(Atn V).drop k):=by simp_all
   have:=this.right;grind
  rw [dF u0 (by omega)] at hA' hl;simp only [List.length_singleton] at hl;obtain ⟨hi,hb⟩:=hA'.head
  grind [AGU]
theorem VA5 {text:AA} {a:Nat} (hs:text.size<=140737488351232) (ha:a<=text.size):∃ r,Qq text a=some r/\AIA text a r:=by simp only [Qq,yQ,mk,JJ,AO];rw [show AvO (a:Int) 0 (text.size:Int)=true from DU.2 ⟨by omega,by omega⟩];exact DBf hs ha 5 0 AX 0 rfl (FP (by omega)) (by omega) (by simp [WA])
theorem yR {text:AA} {a:Nat} {V:Int} (hs:text.size<=140737488351232) (hV0:0<=V) (hV:V<=1000000000) (hA:At text a (Atn V)):Qq text a=some (V,((a+(Atn V).length:Nat):Int),true):=by
 have ha:a+(Atn V).length<=text.size:=by
  rcases hA.size with h | h
  all_goals grind [Rk]
 simp only [Qq,yQ,mk,JJ,AO];rw [show AvO (a:Int) 0 (text.size:Int)=true from DU.2 ⟨by omega,by omega⟩];exact EBf hs hV hA V 0 AX 0 (by simp) hV0 (fun h=>absurd h (Nat.lt_irrefl 0)) (by simp [WA]) (by omega) (by simp [WA]) (by simp [FP])
def yS (text:AA) (a:Nat) (r:Int×Int×Bool):Prop:=r=VF\/∃ v:Int,r=(v,((a+(Atn v).length:Nat):Int),true)/\0<=v/\v<=1000000000/\At text a (Atn v)
theorem FBf {text:AA} {a:Nat} (hs:text.size<=140737488351232) (ha:a<=text.size):∀ j k m n,k+j=5->j<m->0<=n->n<pw k->∃ r,TT m (.c0 text a n (pw k) ((a+k:Nat):Int))=some r/\yS text a r:=by
 intro j;induction j with
 | zero=>
  intro k m n hk hm _ _;obtain ⟨m,rfl⟩:∃ q,m=q+1:=⟨m - 1,by omega⟩
  exact ⟨_,XAm hs ha (.inr (by omega)),.inl rfl⟩
 | succ j ih=>
  intro k m n hk hm h0 h1;obtain ⟨m,rfl⟩:∃ q,m=q+1:=⟨m - 1,by omega⟩
  by_cases hi:a+k<text.size
  ·have hb:=TD text ((a+k:Nat):Int);generalize hbe:bt text ((a+k:Nat):Int)=b at hb;obtain ⟨n1,n2,_⟩:=Ya (b:=b) (by omega:k<5) h0 h1 hb
   rw [YAm hs (by omega) hi h0 h1 hbe];split
   ·rename_i h;have hv0:=(n1 h).2.2.2.1;split;·exact ⟨_,rfl,.inl rfl⟩
    ·split;·rename_i h2;have h3:=congrArg bs h2;rw [At6 (Aq9 _ hv0),AvE] at h3;have hl:=congrArg List.length h3;rw [List.length_drop,List.length_take,bs_len,Nat.min_eq_left (by omega)] at hl;refine ⟨_,rfl,.inr ⟨_,by rw [show a+k+1=a+(Atn (n+b*pw k)).length by omega],hv0,by omega,(bs text).drop (a+k+1),?_⟩⟩;grind [List.drop_take,List.drop_drop,Nat.add_sub_cancel_left,List.take_append_drop]
     ·exact ⟨_,rfl,.inl rfl⟩
   ·rename_i h;obtain ⟨_,_,_,e4,e5⟩:=n2 h
    exact ih (k+1) m _ (by omega) (by omega) e4 e5
  ·exact ⟨_,XAm hs ha (.inl (by omega)),.inl rfl⟩
theorem KBG {text:AA} {p:Nat} (hp:p<text.size) {l:List Int} (h:At text (p+1) l):At text p (bt text (p:Int)::l):=by
 obtain ⟨r,hr⟩:=h
 refine ⟨r,?_⟩;simp_all [drop_at,bs_len,iZ]
theorem GBf {text:AA} {a:Nat} (hs:text.size<=140737488351232) (ha:a<=text.size):∀ j k m n,k+j=5->j<m->0<=n->n<pw k->∃ r,TU m (.c0 text a n k)=some r/\(r=VF\/∃ U:Int,r=(n+pw k*U,((a+k+(Atn U).length:Nat):Int),true)/\0<=U/\(0<k->0<U)/\n+pw k*U<=1000000000/\At text (a+k) (Atn U)):=by
 intro j;induction j with
 | zero=>
  intro k m n hk hm _ _;obtain ⟨m,rfl⟩:∃ q,m=q+1:=⟨m - 1,by omega⟩
  grind [ZAm]
 | succ j ih=>
  intro k m n hk hm h0 h1;obtain ⟨m,rfl⟩:∃ q,m=q+1:=⟨m - 1,by omega⟩
  by_cases hi:a+k<text.size
  ·have hb:=TD text ((a+k:Nat):Int);generalize hbe:bt text ((a+k:Nat):Int)=b at hb;obtain ⟨n1,n2,_⟩:=Ya (b:=b) (by omega:k<5) h0 h1 hb
   rw [AGU hs (by omega) hi h0 h1 hbe];split
   ·rename_i h;split;·simp
    ·rename_i h2;have e1:=dF hb.1 (by omega:b<=127);refine ⟨_,rfl,.inr ⟨b,by simp_all [Int.mul_comm],hb.1,fun hk0=>by omega,by simp_all [Int.mul_comm],?_⟩⟩;rw [e1,<-hbe];exact KBG hi ⟨_,rfl⟩
   ·rename_i h;obtain ⟨_,_,_,e4,e5⟩:=n2 h
    obtain ⟨r,hr,hR⟩:=ih (k+1) m _ (by omega) (by omega) e4 e5
    refine ⟨r,hr,?_⟩;rcases hR with hR | ⟨U,hR,hU,GW,DD,hA⟩
    ·simp_all
    ·have HX:=GW (by omega);have e6:Atn (b - 128+128*U)=b::Atn U:=by rw [Atn,if_pos (by omega),show (b - 128+128*U) / 128=U by omega,show 128+(b - 128+128*U) % 128=b by omega]
     have e7:n+(b - 128)*pw k+pw (k+1)*U=n+pw k*(b - 128+128*U):=by grind [pw]
     refine .inr ⟨b - 128+128*U,?_,by omega,fun _=>by omega,by omega,?_⟩;·rw [hR,e6,e7,List.length_cons,show a+(k+1)+(Atn U).length=a+k+((Atn U).length+1) by omega]
     ·rw [e6,<-hbe];exact KBG hi hA
  grind [ZAm]
theorem HBf {text:AA} {a:Nat} (hs:text.size<=140737488351232) (ha:a<=text.size):∃ r,AvB text a=some r/\yS text a r:=by simp only [AvB,yP,mk,AuF,AO];rw [show AvO (a:Int) 0 (text.size:Int)=true from DU.2 ⟨by omega,by omega⟩];exact FBf hs ha 5 0 AX 0 rfl (FP (by omega)) (by omega) (by simp [WA])
theorem IBf {text:AA} {a:Nat} (hs:text.size<=140737488351232) (ha:a<=text.size):∃ r,Qq text a=some r/\yS text a r:=by
 simp only [Qq,yQ,mk,JJ,AO];rw [show AvO (a:Int) 0 (text.size:Int)=true from DU.2 ⟨by omega,by omega⟩];obtain ⟨r,hr,hR⟩:=GBf hs ha 5 0 AX 0 rfl (FP (by omega)) (by omega) (by simp [WA])
 refine ⟨r,hr,?_⟩;rcases hR with hR | ⟨U,hR,hU,_,DD,hA⟩
 ·exact .inl hR
 ·rw [WA,Int.zero_add,Int.one_mul] at hR DD;exact .inr ⟨U,hR,hU,DD,hA⟩
theorem WA5 {n:Int} (h:0<=n):(n<=127/\Atn n=[n])\/(127<n/\Atn n=(128+n % 128)::Atn (n / 128)):=by grind [dF,Atn]
theorem JBf:∀ (n:Nat) (v w:Int) (r s:List Int),v.toNat<=n->0<=v->0<=w->Atn v++r=Atn w++s->v=w:=by
 intro n;induction n with
 | zero=>
  intro v w r s hn hv hw h;have hv0:v=0:=by omega
  grind [dF,WA5]
 | succ n ih=>
  intro v w r s hn hv hw h;rcases WA5 hv with ⟨g1,g2⟩ | ⟨g1,g2⟩ <;> rcases WA5 hw with ⟨h1,h2⟩ | ⟨h1,h2⟩ <;> rw [g2,h2] at h <;> injection h with h3 h4
  ·omega
  ·omega
  ·have:=ih (v / 128) (w / 128) r s (by omega) (by omega) (by omega) h4;omega
theorem KBf {text:AA} {a:Nat} {v w:Int} (hv:0<=v) (hw:0<=w) (h:At text a (Atn v)) (k:At text a (Atn w)):v=w:=by
 obtain ⟨r,hr⟩:=h
 obtain ⟨s,hs⟩:=k
 exact JBf v.toNat v w r s (Nat.le_refl _) hv hw (hr.symm.trans hs)
noncomputable def Asv (text:AA) (a:Nat):Int×Int×Bool:=@dite _ (∃ v:Int,0<=v/\v<=1000000000/\At text a (Atn v)) (Classical.propDecidable _) (fun h=>(h.choose,((a+(Atn h.choose).length:Nat):Int),true)) (fun _=>VF)
theorem LBG {text:AA} {a:Nat} {o:Option (Int×Int×Bool)} (h1:∃ r,o=some r/\yS text a r) (h2:∀ V:Int,0<=V->V<=1000000000->At text a (Atn V)->o=some (V,((a+(Atn V).length:Nat):Int),true)):o=some (Asv text a):=by
 unfold Asv;split;·grind
 ·rename_i h;obtain ⟨r,hr,rfl | ⟨v,_,k1,k2,k3⟩⟩:=h1
  all_goals simp_all
theorem MBG {text:AA} {a:Nat} (hs:text.size<=140737488351232) (ha:a<=text.size):AvB text a=some (Asv text a):=LBG (HBf hs ha) (fun V h0 h1 hA=>JBG hs h0 h1 hA)
theorem NBG {text:AA} {a:Nat} (hs:text.size<=140737488351232) (ha:a<=text.size):Qq text a=some (Asv text a):=LBG (IBf hs ha) (fun V h0 h1 hA=>yR hs h0 h1 hA)
theorem tZ {text:AA} {a:Nat} (hs:text.size<=140737488351232) (ha:a<=text.size):yS text a (Asv text a):=by
 unfold Asv;split
 ·rename_i h;obtain ⟨k1,k2,k3⟩:=h.choose_spec
  exact .inr ⟨_,rfl,k1,k2,k3⟩
 ·exact .inl rfl
theorem XA5 {text:AA} {a:Nat} {V:Int} (hs:text.size<=140737488351232) (hV0:0<=V) (hV:V<=1000000000) (hA:At text a (Atn V)):Asv text a=(V,((a+(Atn V).length:Nat):Int),true):=by unfold Asv;split;all_goals grind [KBf]
noncomputable def AtG (file:AA) (a:Nat):Option (AA×Nat):=
 bif (Asv file a).2.2 && (AvO (Asv file a).1 1 9000 && (decide ((Asv file a).1<=(file.size:Int) - (Asv file a).2.1 - 4) &&
  (bs (file.extract (Asv file a).2.1.toNat ((Asv file a).2.1+4).toNat) == four (Uz (bs (file.extract ((Asv file a).2.1+4).toNat ((Asv file a).2.1+4+(Asv file a).1).toNat))))))
 then some (file.extract ((Asv file a).2.1+4).toNat ((Asv file a).2.1+4+(Asv file a).1).toNat,((Asv file a).2.1+4+(Asv file a).1).toNat) else none
noncomputable def AuP:Nat->AA->Nat->List AA×Nat
 | 0,_,a=>([],a)
 | j+1,file,a=>match AtG file a with
  | none=>([],a)
  | some p=>(p.1::(AuP j file p.2).1,(AuP j file p.2).2)
noncomputable def Qu (file:AA):List AA×Int:=bif decide ((file.size:Int) > 20000) then ([],0) else ((AuP (file.size+1) file 0).1,((AuP (file.size+1) file 0).2:Int))
theorem jg {file:AA} {a:Nat} (hs:file.size<=140737488351232) (ha:a<=file.size):(AtG file a=none)\/∃ (v:Int) (q:Nat),Asv file a=(v,(q:Int),true)/\a<q/\q=a+(Atn v).length/\1<=v/\v<=9000/\q+4+v.toNat<=file.size/\At file a (Atn v)/\
  bs (file.extract q (q+4))=four (Uz (bs (file.extract (q+4) (q+4+v.toNat))))/\AtG file a=some (file.extract (q+4) (q+4+v.toNat),q+4+v.toNat):=by
 rw [AtG];rcases tZ hs ha with h | ⟨v,h,h0,h1,hA⟩
 ·left;rw [h];rfl
 ·rw [h];have hp:=Rk v;have hsz:=hA.size.resolve_left (by grind);generalize hq:a+(Atn v).length=q at hsz;simp only [Bool.true_and];cases h2:AvO v 1 9000;all_goals grind [DU]
def DV:List AA->List Int
 | []=>[]
 | t::ts=>Gp (bs t)++DV ts
def whole:List AA->Nat->Nat
 | [],_=>0
 | t::ts,K=>if (Gp (bs t)).length<=K then whole ts (K - (Gp (bs t)).length)+1 else 0
theorem BAn (l:List Int):(Gp l).length=(Atn (l.length:Int)).length+4+l.length:=by grind [four,Gp]
theorem YA5 (ts us:List AA):DV (ts++us)=DV ts++DV us:=by induction ts<;>simp_all [DV]
theorem CAn (ts:List AA):∀ K,whole ts K<=K/\whole ts K<=ts.length/\(DV (ts.take (whole ts K))).length<=K:=by induction ts<;>grind [whole,BAn,DV]
theorem ZA5 (ts:List AA):∀ K,(DV ts).length<=K->whole ts K=ts.length:=by induction ts<;>grind [DV,whole]
theorem LBf {file l:AA} {a:Nat} (hs:file.size<=140737488351232) (h1:1<=l.size) (h2:l.size<=9000) (hA:At file a (Gp (bs l))):AtG file a=some (l,a+(Gp (bs l)).length):=by
 have hA':At file a (Atn (l.size:Int)++(four (Uz (bs l))++bs l)):=by simp_all [Gp,bs_len]
 have e1:=XA5 hs (by omega) (by omega) hA'.left;have hB:=hA'.right;have hC:=hB.right;have h4:(four (Uz (bs l))).length=4:=rfl;have hx4:=hB.left.extract (Vx (YB (bs l)));have hxl:=hC.extract (Si l);rw [h4] at hx4 hxl hC;rw [bs_len,xg] at hxl;have hz:a+(Atn (l.size:Int)).length+4+l.size<=file.size:=by
  rcases hC.size with h | h
  all_goals grind [bs_len]
 have hlen:=BAn (bs l);rw [bs_len] at hlen;rw [AtG,e1,hlen];generalize (Atn (l.size:Int)).length=n at hx4 hxl hz;dsimp only;have t0:((a+n:Nat):Int).toNat=a+n:=BU _;have t1:(((a+n:Nat):Int)+4).toNat=a+n+4:=by omega
 have t2:(((a+n:Nat):Int)+4+(l.size:Int)).toNat=a+n+4+l.size:=by omega
 rw [t0,t1,t2,hx4,hxl,At6 (Vx (YB (bs l))),beq_self_eq_true,DU.2 (show 1<=(l.size:Int)/\(l.size:Int)<=9000 by omega),show decide ((l.size:Int)<=(file.size:Int) - ((a+n:Nat):Int) - 4)=true from Bg (by omega)];grind
theorem MBf {file l:AA} {a:Nat} {rest:List Int} (hs:file.size<=140737488000000) (ha:a<=file.size) (h2:l.size<=9000) (hr:0<rest.length) (hrb:Gs rest) (hA:(bs file).drop a++rest=Gp (bs l)):AtG file a=none:=by
 rcases jg (file:=file) (a:=a) (by omega) ha with h | ⟨v,q,_,hq,hq2,hv1,hv2,h3,hAv,_,_⟩
 ·exact h
 ·exfalso;have hl:=BAn (bs l);rw [bs_len] at hl;have HF:=Aq3 (n:=(l.size:Int)) (by omega);have hlen:=congrArg List.length hA;rw [List.length_append,List.length_drop,bs_len] at hlen;have hb:bs (file++ofBytes rest)=bs file++rest:=by rw [ArL,At6 hrb]
  have hd:(bs (file++ofBytes rest)).drop a=Gp (bs l):=by simp_all [List.drop_append_of_le_length,bs_len]
  have hz:(file++ofBytes rest).size=file.size+rest.length:=by simp [DK]
  have e1:=XA5 (text:=file++ofBytes rest) (a:=a) (V:=(l.size:Int)) (by omega) (by omega) (by omega) ⟨four (Uz (bs l))++bs l,by grind [Gp,bs_len]⟩;obtain ⟨x,hx⟩:=hAv
  have e2:=XA5 (text:=file++ofBytes rest) (a:=a) (V:=v) (by omega) (by omega) (by omega) ⟨x++rest,by simp_all⟩;grind
theorem NBf {file:AA} (hs:file.size<=140737488000000):∀ (ts:List AA) (K m a:Nat),(∀ t ∈ ts,1<=t.size/\t.size<=9000)->a<=file.size->(bs file).drop a=(DV ts).take K->whole ts K<m->AuP m file a=(ts.take (whole ts K),a+(DV (ts.take (whole ts K))).length):=by
 intro ts;induction ts with
 | nil=>
  intro K m a _ ha hd hm;obtain ⟨m,rfl⟩:∃ n,m=n+1:=⟨m - 1,by omega⟩
  grind [bs_len,DV,AuP,jg]
 | cons t ts ih=>
  intro K m a ht ha hd hm;obtain ⟨m,rfl⟩:∃ n,m=n+1:=⟨m - 1,by omega⟩
  have ht0:=ht t (List.mem_cons_self ..);rw [whole] at hm ⊢;rw [DV,List.take_append] at hd;split at hm
  ·rename_i h;rw [if_pos h];rw [List.take_of_length_le h] at hd;have hA:At file a (Gp (bs t)):=⟨_,hd⟩
   have hz:a+(Gp (bs t)).length<=file.size:=by
    rcases hA.size with h | h
    all_goals grind
   rw [AuP,LBf (by omega) ht0.1 ht0.2 hA];have hd2:(bs file).drop (a+(Gp (bs t)).length)=(DV ts).take (K - (Gp (bs t)).length):=by grind [List.drop_drop,List.drop_left]
   dsimp only;rw [ih _ m _ (fun x hx=>ht x (List.mem_cons_of_mem _ hx)) hz hd2 (by omega),List.take_succ_cons,DV,List.length_append];grind
  ·rename_i h;rw [if_neg h];rw [show K - (Gp (bs t)).length=0 by omega,List.take_zero,List.append_nil] at hd;rw [AuP,MBf (file:=file) (l:=t) (rest:=(Gp (bs t)).drop K) hs ha ht0.2 (by grind) (fun n hn=>vP (Si t) n (List.mem_of_mem_drop hn)) (by simp_all)];rfl
theorem DAn:∀ {a m:List Int},Gs a->a.length<=m.length->AtA (AtA a m) m=a
 | [],_,_,_=>by rfl
 | _::_,[],_,h=>by simp at h
 | x::a,y::m,hb,h=>by have h1:=DAn (a:=a) (m:=m) (fun n hn=>hb n (List.mem_cons_of_mem _ hn)) (by simpa using h);simp only [AtA] at h1 ⊢;rw [List.zipWith_cons_cons,List.zipWith_cons_cons,h1,TBc (hb x (List.mem_cons_self ..))]
theorem OBf {k t:AA} {num:Int} (h:(AtU k num t).2=true):16<=t.size/\LK num ((t.size:Int) - 16)=true/\Ph (bs k) num ((bs t).take (t.size - 16))=(bs t).drop (t.size - 16)/\bs (AtU k num t).1=AtA ((bs t).take (t.size - 16)) (Pv (bs k) (Atn num) (t.size - 16))/\bs t=(bs t).take (t.size - 16)++Ph (bs k) num ((bs t).take (t.size - 16)):=by
 rw [AtU] at h ⊢;cases h1:decide ((t.size:Int)<16) || !(LK num ((t.size:Int) - 16))
 ·rw [h1,Aw] at h;rw [Bool.or_eq_false_iff,decide_eq_false_iff_not,Bool.not_eq_false'] at h1;cases h2:(Ph (bs k) num ((bs t).take (t.size - 16)) == (bs t).drop (t.size - 16))
  ·simp_all
  ·rw [Aw,A8,At6 (Vl _ _)];grind [List.take_append_drop]
 simp_all
theorem tY (k t:AA) (num:Int):(AtU k num t).1.size<=t.size:=by
 have hl:=bs_len t;rw [AtU];cases decide ((t.size:Int)<16) || !(LK num ((t.size:Int) - 16))
 ·rw [Aw];cases (Ph (bs k) num ((bs t).take (t.size - 16)) == (bs t).drop (t.size - 16));·exact DF _
  grind [DK,AtA]
 ·exact DF _
theorem PBf {k:AA} {num:Int} {s:List Int} (hs:Gs s) (hm:LK num s.length=true):AtU k num (ofBytes (Arn (bs k) num s))=(ofBytes s,true):=by
 have hx:(AtA s (Pv (bs k) (Atn num) s.length)).length=s.length:=bD (by simp [Aq7]);have hb:Gs (Arn (bs k) num s):=fun x hx=>by
  rcases List.mem_append.1 hx with hx | hx
  ·exact Vl _ _ x hx
  ·exact UZ _ _ _ x hx
 have hsz:(ofBytes (Arn (bs k) num s)).size=s.length+16:=by simp_all [DK,Arn,mV]
 rw [AtU,At6 hb,hsz,Nat.add_sub_cancel,show ((s.length+16:Nat):Int) - 16=(s.length:Int) by omega,hm];grind [Arn,DAn,Aq7]
theorem QBf {k t:AA} {num:Int} (h:(AtU k num t).2=true):Arn (bs k) num (bs (AtU k num t).1)=bs t:=by
 obtain ⟨h1,h2,h3,h4,h5⟩:=OBf h
 have hl:((bs t).take (t.size - 16)).length=t.size - 16:=by grind [bs_len]
 have hx:(bs (AtU k num t).1).length=t.size - 16:=by grind [bD,Aq7]
 rw [Arn,hx,h4,DAn (fun n hn=>Si t n (List.mem_of_mem_take hn)) (by grind [Aq7]),<-h5]
theorem RBf {k:AA} {num:Int} {a b:List Int} (ha:Gs a) (hb:Gs b) (h:Arn (bs k) num a=Arn (bs k) num b):a=b:=by grind [bD,Aq7,Arn,List.length_append,mV,List.append_inj,DAn]
def Yb (text:AA) (c:Jg):Prop:=∃ p:Nat,∃ b:Bool,c=⟨text,(p:Int),b⟩/\p<=text.size
theorem EAn {text:AA} {c:Jg} (hs:text.size<=140737488351232) (h:Yb text c):∃ v c',Yc c=some (v,c')/\Yb text c'/\0<=v/\v<=1000000000:=by
 obtain ⟨p,b,rfl,hp⟩:=h
 obtain ⟨r,hr,hR⟩:=BBf hs hp
 simp only [Yc,QAg,hr,AO];cases b
 ·rcases hR with rfl | ⟨v,q,rfl,h0,h1,_,h3⟩
  ·exact ⟨_,_,rfl,⟨p,true,rfl,hp⟩,by omega,by omega⟩
  ·exact ⟨_,_,rfl,⟨q,false,rfl,h3⟩,h0,h1⟩
 ·exact ⟨_,_,rfl,⟨p,true,rfl,hp⟩,by omega,by omega⟩
theorem yT {text:AA} {a:Nat} {V:Int} (hs:text.size<=140737488351232) (hV0:0<=V) (hV:V<=1000000000) (hA:At text a (Atn V)):Yc ⟨text,(a:Int),false⟩=some (V,⟨text,((a+(Atn V).length:Nat):Int),false⟩):=by simp only [Yc,QAg,JBG hs hV0 hV hA,AO];rfl
theorem AO9 {text:AA} {c:Jg} {n:Int} (hs:text.size<=140737488351232) (h:Yb text c) (h0:0<=n) (h1:n<=1000000000):∃ s c',Auh c n=some (s,c')/\Yb text c'/\s.size<=1000000000/\(c'.Ih=false->(s.size:Int)=n/\c.D8+n<=(text.size:Int)):=by
 obtain ⟨p,b,rfl,hp⟩:=h
 simp only [Auh,RAg,mk];have e1:AU ((text.size:Int) - (p:Int))=(text.size:Int) - p:=Ar (by omega) (by omega);have e2:AU ((p:Int)+n)=p+n:=Ar (by omega) (by omega);have e3:AU ((p:Int)+n - n)=p:=by grind [Ar]
 rw [e1,e2,e3];cases b
 ·by_cases hn:n > (text.size:Int) - p;·rw [show decide (n > (text.size:Int) - p)=true from Bg hn];exact ⟨_,_,rfl,⟨p,true,rfl,hp⟩,by show 0<=_;omega,fun h=>by cases h⟩
  ·rw [show decide (n > (text.size:Int) - p)=false from D5 hn,show decide ((0:Int)<=(p:Int))=true from Bg (by omega),show decide ((p:Int)<=p+n)=true from Bg (by omega),show decide ((p:Int)+n<=(text.size:Int))=true from Bg (by omega)];have hz:(text.extract (p:Int).toNat ((p:Int)+n).toNat).size=n.toNat:=by grind [ByteArray.size_extract]
   refine ⟨_,_,rfl,⟨((p:Int)+n).toNat,false,?_,by omega⟩,by omega,fun _=>⟨by omega,by omega⟩⟩;grind
 ·exact ⟨_,_,rfl,⟨p,true,rfl,hp⟩,by show 0<=_;omega,fun h=>by cases h⟩
theorem BA6 {text:AA} {p:Nat} {s:AA} (hs:text.size<=140737488351232) (hA:At text p (bs s)) (hp:p<=text.size):Auh ⟨text,(p:Int),false⟩ (s.size:Int)=some (s,⟨text,((p+s.size:Nat):Int),false⟩):=by
 have hz:p+s.size<=text.size:=by
  rcases hA.size with h | h
  all_goals grind [bs_len]
 have e1:AU ((text.size:Int) - (p:Int))=(text.size:Int) - p:=Ar (by omega) (by omega);have e2:AU ((p:Int)+(s.size:Int))=((p+s.size:Nat):Int):=by grind [Ar]
 have e3:AU (((p+s.size:Nat):Int) - (s.size:Int))=p:=by grind [Ar]
 simp only [Auh,RAg,mk,e1,e2,e3,BU];have hx:=hA.extract (fun n hn=>RA4 hn);grind [bs_len,xg]
theorem CA6 {text:AA} {c:Jg} (hs:text.size<=140737488351232) (h:Yb text c):∃ v c',TV c=some (v,c')/\Yb text c'/\0<=v/\v<=255/\(c'.Ih=true->v=0)/\(c'.Ih=false->c.D8+1<=(text.size:Int)):=by
 obtain ⟨s,c',e,hc,_,hn⟩:=AO9 (n:=1) hs h (by omega) (by omega)
 simp only [TV,SAg,mk,e,AO];cases hb:c'.Ih
 ·obtain ⟨h1,h2⟩:=hn hb
  rw [show decide ((0:Int)<=(0:Int))=true from rfl,show decide ((0:Int)<(s.size:Int))=true from Bg (by omega)];have:=TD s 0;grind [Ar]
 grind
theorem oV {text:AA} {p:Nat} {b:Int} (hs:text.size<=140737488351232) (hA:At text p [b]):TV ⟨text,(p:Int),false⟩=some (b,⟨text,((p+1:Nat):Int),false⟩):=by
 obtain ⟨h1,h2⟩:=hA.head
 have hb:=TD text p;rw [h2] at hb;have hB:bs (ofBytes [b])=[b]:=At6 (by simp_all);have e:=BA6 (s:=ofBytes [b]) hs (by simp_all) (Nat.le_of_lt h1);have h0:bt (ofBytes [b]) 0=b:=by grind [iZ,DK]
 simp only [TV,SAg,mk];rw [show Auh ⟨text,(p:Int),false⟩ 1=_ from e];simp only [AO,h0,Ar (n:=b) (by omega) (by omega)];rfl
theorem SBf {text:AA} {c:Jg} (hs:text.size<=140737488351232) (h:Yb text c):∃ s c',oW c=some (s,c')/\Yb text c'/\s.size<=1000000000:=by
 obtain ⟨v,c1,e1,h1,h2,h3⟩:=EAn hs h
 obtain ⟨s,c2,e2,h4,h5,_⟩:=AO9 hs h1 h2 h3
 simp only [oW,TAg,e1,e2,AO];grind
theorem TBf {text:AA} {p:Nat} {s:AA} (hs:text.size<=140737488351232) (hz:s.size<=1000000000) (hA:At text p (Atn (s.size:Int)++bs s)):oW ⟨text,(p:Int),false⟩=some (s,⟨text,((p+(Atn (s.size:Int)).length+s.size:Nat):Int),false⟩):=by
 have hp:p+(Atn (s.size:Int)).length<=text.size:=by
  rcases hA.left.size with h | h
  all_goals grind [Rk]
 simp only [oW,TAg,yT hs (by omega) (by omega) hA.left,BA6 hs hA.right hp,AO]
theorem UBf (x:Ah):(((LC x).tmod 2 == 1)=x.CY)/\(((AU ((LC x).tdiv 2)).tmod 2 == 1)=x.CZ)/\(((AU ((LC x).tdiv 4)).tmod 2 == 1)=x.GI)/\(((AU ((LC x).tdiv 8)).tmod 2 == 1)=x.Fb):=by unfold LC;cases x.CY <;> cases x.CZ <;> cases x.GI <;> cases x.Fb <;> decide
theorem OBG {x:Ah} (h:AuI x=true):bs (YS x)=Atn x.fId++([x.Aa]++([LC x]++((Atn (x.fValue.size:Int)++bs x.fValue)++Atn x.fNext))):=by
 obtain ⟨k1,k2,k3,k4,k5,k6,k7⟩:=Tq h
 have hf:=yC x;unfold YS Ati;simp only [ArL,At6 (Aq9 x.fId (by omega)),At6 (Aq9 x.fNext (by omega)),At6 (Aq9 (x.fValue.size:Int) (by omega)),At6 (l:=[x.Aa]) (by grind),At6 (l:=[LC x]) (by grind),List.append_assoc]
def FAn (text:AA) (r:Ah×Bool):Prop:=(r.2=true/\Hy r.1=(text,true))\/r=(⟨(0:Int),(0:Int),false,false,false,false,(⟨#[]⟩:AA),(0:Int)⟩,false)
theorem PBG {text:AA} (hs:text.size<=140737488351232):∃ r,Wj text=some r/\FAn text r:=by
 obtain ⟨v0,c0,e0,h0,_⟩:=EAn hs (c:=⟨text,(0:Int),false⟩) ⟨0,false,rfl,by omega⟩
 obtain ⟨v1,c1,e1,h1,_⟩:=CA6 hs h0
 obtain ⟨v2,c2,e2,h2,_⟩:=CA6 hs h1
 obtain ⟨v3,c3,e3,h3,_⟩:=SBf hs h2
 obtain ⟨v4,c4,e4,h4,_⟩:=EAn hs h3
 simp only [Wj,UAg,mk,e0,e1,e2,e3,e4,tH,AO];cases c4.Ih
 ·cases h5:(Hy (⟨v0,v1,v2.tmod 2 == 1,(AU (v2.tdiv 2)).tmod 2 == 1,(AU (v2.tdiv 4)).tmod 2 == 1,(AU (v2.tdiv 8)).tmod 2 == 1,v3,v4⟩:Ah)).2;·exact ⟨_,rfl,.inr rfl⟩
  ·rw [toList_inj];by_cases h6:(Hy (⟨v0,v1,v2.tmod 2 == 1,(AU (v2.tdiv 2)).tmod 2 == 1,(AU (v2.tdiv 4)).tmod 2 == 1,(AU (v2.tdiv 8)).tmod 2 == 1,v3,v4⟩:Ah)).1=text;·rw [Bg h6];exact ⟨_,rfl,.inl ⟨rfl,Prod.ext h6 h5⟩⟩
   ·rw [D5 h6];exact ⟨_,rfl,.inr rfl⟩
 ·exact ⟨_,rfl,.inr rfl⟩
theorem DA6 {text:AA} {x:Ah} (h:Hy x=(text,true)):AuI x=true/\text=YS x:=by grind [Hy]
theorem QBG {text:AA} {x:Ah} (hs:text.size<=140737488351232) (h:Hy x=(text,true)):Wj text=some (x,true):=by
 obtain ⟨ho,rfl⟩:=DA6 h
 obtain ⟨k1,k2,k3,k4,k5,k6,k7⟩:=Tq ho
 have hf:=yC x;have hA:At (YS x) 0 _:=⟨[],by rw [List.drop_zero,OBG ho,List.append_nil]⟩
 have a1:=hA.right;have a2:=a1.right;have a3:=a2.right;have a4:=a3.right;have e0:=yT hs (by omega) (by omega) hA.left;have e1:=oV hs a1.left;have e2:=oV hs a2.left;have e3:=TBf hs (by omega) a3.left;have e4:=yT hs (by omega) (by omega) a4;simp only [List.length_append,bs_len,List.length_singleton,Nat.zero_add,<-Nat.add_assoc] at e0 e1 e2 e3 e4;obtain ⟨b1,b2,b3,b4⟩:=UBf x
 simp only [Wj,UAg,mk];rw [show ((0:Int))=((0:Nat):Int) from rfl,e0];simp_all [tH]
def Ru:Aq:=⟨(0:Int),(⟨#[]⟩:AA),(0:Int),(⟨(0:Int),(0:Int),false,false,false,false,(⟨#[]⟩:AA),(0:Int)⟩:Ah)⟩
def oZ (text:AA) (r:Aq×Bool):Prop:=(r.2=true/\As2 r.1=(text,true))\/r=(Ru,false)
theorem og {text:AA} (x:Aq) (bad:Bool):∃ r,(bif bad then some (Ru,false) else bif !(As2 x).2 then some (Ru,false) else bif !((ByteArray.toList (As2 x).1) == (ByteArray.toList text)) then some (Ru,false) else some (x,true))=some r/\oZ text r:=by
 cases bad
 ·cases h5:(As2 x).2;·exact ⟨_,rfl,.inr rfl⟩
  ·rw [toList_inj];by_cases h6:(As2 x).1=text;·rw [Bg h6];exact ⟨_,rfl,.inl ⟨rfl,Prod.ext h6 h5⟩⟩
   ·rw [D5 h6];exact ⟨_,rfl,.inr rfl⟩
 ·exact ⟨_,rfl,.inr rfl⟩
theorem VBf {text:AA} (hs:text.size<=140737488351232):∃ r,TW text=some r/\oZ text r:=by
 obtain ⟨v0,c0,e0,h0,_,_,hz,hn⟩:=CA6 hs (c:=⟨text,(0:Int),false⟩) ⟨0,false,rfl,by omega⟩
 obtain ⟨v1,c1,e1,h1,_⟩:=AO9 (n:=32) hs h0 (by omega) (by omega)
 obtain ⟨v3,c3,e3,h3,_⟩:=EAn hs h0
 simp only [TW,dG,mk,e0,e1,e3,cO,AO];cases v0 == 1
 ·simp only [Aw];cases v0 == 2
  ·simp only [Aw];cases v0 == 4
   ·simp only [Aw];cases h:v0 == 3;·exact og _ _
    ·have hv:v0=3:=beq_iff_eq.1 h;have hsz:(0:Int)+1<=(text.size:Int):=by simp_all
     obtain ⟨r,e5,_⟩:=PBG (text:=text.extract (1:Int).toNat text.size) (by grind [ByteArray.size_extract])
     rw [show decide ((1:Int)<=(text.size:Int))=true from Bg (by omega),e5];exact og _ _
   ·exact og _ _
  ·exact og _ _
 ·exact og _ _
theorem RBG {text:AA} {x:Aq} (h:As2 x=(text,true)) :
  (∃ s:AA,x=⟨1,s,0,Ru.BK⟩/\s.size=32/\text=ofBytes [1]++s)\/(∃ n:Int,x=⟨2,Ru.fText,n,Ru.BK⟩/\0<=n/\n<=3/\text=ofBytes [2]++ofBytes (Atn n))\/
  (∃ t:Ah,∃ s:AA,x=⟨3,Ru.fText,0,t⟩/\Hy t=(s,true)/\text=ofBytes [3]++s)\/(∃ n:Int,x=⟨4,Ru.fText,n,Ru.BK⟩/\1<=n/\n<=1000/\text=ofBytes [4]++ofBytes (Atn n)):=by
 have hE:∀ s:AA,As7 s=true->s=⟨#[]⟩:=fun s h=>by grind [As7,toList_inj]
 have hZ:∀ t:Ah,Oh t=true->t=Ru.BK:=fun t h=>by
  unfold Oh at h;simp only [YA4] at h;obtain ⟨t1,t2,t3,t4,t5,t6,t7,t8⟩:=t
  simp only [Bool.and_eq_true,beq_iff_eq] at h;obtain ⟨rfl,rfl,rfl,rfl,rfl,rfl,h7,rfl,_⟩:=h
  rw [hE _ h7];rfl
 obtain ⟨k,s,n,t⟩:=x
 unfold As2 at h;simp only at h;cases k1:k == 1 <;> rw [k1] at h
 ·cases k2:k == 2 <;> rw [k2] at h
  ·cases k3:k == 3 <;> rw [k3] at h
   ·cases k4:k == 4 <;> rw [k4] at h;·exact Bool.noConfusion (congrArg Prod.snd h)
    ·simp only [Aw,A8] at h;cases hc:As7 s && Oh t && AvO n 1 1000 <;> rw [hc] at h;·exact Bool.noConfusion (congrArg Prod.snd h)
     ·simp only [Bool.and_eq_true,DU] at hc;refine .inr (.inr (.inr ⟨n,?_,hc.2.1,hc.2.2,(congrArg Prod.fst h).symm⟩));rw [beq_iff_eq.1 k4,hE _ hc.1.1,hZ _ hc.1.2];rfl
   ·simp only [Aw,A8] at h;cases hc:(Hy t).2 && As7 s && n == 0 <;> rw [hc] at h;·exact Bool.noConfusion (congrArg Prod.snd h)
    ·simp only [Bool.and_eq_true,beq_iff_eq] at hc;refine .inr (.inr (.inl ⟨t,(Hy t).1,?_,Prod.ext rfl hc.1.1,(congrArg Prod.fst h).symm⟩));rw [beq_iff_eq.1 k3,hE _ hc.1.2,hc.2];rfl
  ·simp only [Aw,A8] at h;cases hc:As7 s && Oh t && AvO n 0 3 <;> rw [hc] at h;·exact Bool.noConfusion (congrArg Prod.snd h)
   ·simp only [Bool.and_eq_true,DU] at hc;refine .inr (.inl ⟨n,?_,hc.2.1,hc.2.2,(congrArg Prod.fst h).symm⟩);rw [beq_iff_eq.1 k2,hE _ hc.1.1,hZ _ hc.1.2];rfl
 ·simp only [Aw,A8] at h;cases hc:(s.size:Int) == 32 && n == 0 && Oh t <;> rw [hc] at h;·exact Bool.noConfusion (congrArg Prod.snd h)
  grind
theorem dH {k:Int} {s:AA} (h0:0<=k) (h1:k<=255):At (ofBytes [k]++s) 0 ([k]++bs s):=⟨[],by simp_all [ArL,At6]⟩
theorem EA6 {k:Int} {s:AA}:(ofBytes [k]++s).extract (1:Int).toNat (ofBytes [k]++s).size=s:=by apply Asj;rw [AvE,<-bs_len,List.take_length,ArL];rfl
theorem WBf {text:AA} {x:Aq} (hs:text.size<=140737488351232) (h:As2 x=(text,true)):TW text=some (x,true):=by
 rcases RBG h with ⟨s,rfl,hz,rfl⟩ | ⟨n,rfl,h0,h1,rfl⟩ | ⟨t,s,rfl,ht,rfl⟩ | ⟨n,rfl,h0,h1,rfl⟩
 ·have hA:=dH (k:=1) (s:=s) (by omega) (by omega);have e0:=oV hs hA.left;have e1:=BA6 hs hA.right (by simp_all);simp only [List.length_singleton,Nat.zero_add,hz] at e0 e1;simp only [TW,dG,mk];rw [show TV ⟨ofBytes [1]++s,(0:Int),false⟩=_ from e0];simp only [AO];rw [show Auh ⟨ofBytes [1]++s,((1:Nat):Int),false⟩ 32=_ from e1];have h':As2 ⟨1,s,0,⟨(0:Int),(0:Int),false,false,false,false,(⟨#[]⟩:AA),(0:Int)⟩⟩=_:=h;simp only [AO,cO,h',QJ];rfl
 ·have hA:=dH (k:=2) (s:=ofBytes (Atn n)) (by omega) (by omega);rw [At6 (Aq9 n h0)] at hA;have e0:=oV hs hA.left;have e1:=yT hs (by omega) (by omega) hA.right;simp only [List.length_singleton,Nat.zero_add] at e0 e1;simp only [TW,dG,mk];rw [show TV ⟨ofBytes [2]++ofBytes (Atn n),(0:Int),false⟩=_ from e0];have h':As2 ⟨2,⟨#[]⟩,n,⟨(0:Int),(0:Int),false,false,false,false,(⟨#[]⟩:AA),(0:Int)⟩⟩=_:=h;simp only [AO,e1,cO,h',QJ];rfl
 ·have hA:=dH (k:=3) (s:=s) (by omega) (by omega);have e0:=oV hs hA.left;have hsz:s.size<=140737488351232:=by grind
  have e1:=QBG hsz ht;simp only [List.length_singleton,Nat.zero_add] at e0;simp only [TW,dG,mk];rw [show TV ⟨ofBytes [3]++s,(0:Int),false⟩=_ from e0];have h':As2 ⟨3,⟨#[]⟩,0,t⟩=_:=h;have hd:decide ((1:Int)<=((ofBytes [3]++s).size:Int))=true:=Bg (by grind [DK]);simp only [AO,EA6,e1,cO,h',QJ,hd];rfl
 ·have hA:=dH (k:=4) (s:=ofBytes (Atn n)) (by omega) (by omega);rw [At6 (Aq9 n (by omega))] at hA;have e0:=oV hs hA.left;have e1:=yT hs (by omega) (by omega) hA.right;simp only [List.length_singleton,Nat.zero_add] at e0 e1;simp only [TW,dG,mk];rw [show TV ⟨ofBytes [4]++ofBytes (Atn n),(0:Int),false⟩=_ from e0];have h':As2 ⟨4,⟨#[]⟩,n,⟨(0:Int),(0:Int),false,false,false,false,(⟨#[]⟩:AA),(0:Int)⟩⟩=_:=h;simp only [AO,e1,cO,h',QJ];rfl
def GAn (text:AA) (c:KD):Prop:=∃ p:Nat,∃ b:Bool,c=⟨text,(p:Int),b⟩/\p<=text.size
theorem HAn {text:AA} {c:KD} (hs:text.size<=140737488351232) (h:GAn text c):∃ v c',oh c=some (v,c')/\GAn text c':=by
 obtain ⟨p,b,rfl,hp⟩:=h
 obtain ⟨r,hr,hR⟩:=VA5 hs hp
 simp only [oh,KAj,hr,AO];rcases hR with rfl | ⟨v,q,rfl,h0,h1,_,h3⟩
 ·exact ⟨_,_,rfl,⟨p,true,rfl,hp⟩⟩
 ·exact ⟨_,_,rfl,⟨q,b,rfl,h3⟩⟩
theorem IAn {text:AA} {a:Nat} {V:Int} (hs:text.size<=140737488351232) (hV0:0<=V) (hV:V<=1000000000) (hA:At text a (Atn V)):oh ⟨text,(a:Int),false⟩=some (V,⟨text,((a+(Atn V).length:Nat):Int),false⟩):=by simp only [oh,KAj,yR hs hV0 hV hA,AO];rfl
theorem XBf {text:AA} {a:Nat} (hs:text.size<=140737488351232) (ha:a<=text.size):∃ s q ok,AvA text a=some (s,q,ok)/\(ok=true->∃ p:Nat,q=(p:Int)/\p<=text.size):=by
 obtain ⟨r,hr,hR⟩:=VA5 hs ha
 simp only [AvA,xJ,mk,hr,AO];rcases hR with rfl | ⟨v,q,rfl,h0,h1,h2,h3⟩
 ·exact ⟨_,_,_,rfl,fun h=>by cases h⟩
 ·rw [Ar (n:=(text.size:Int) - (q:Int)) (by omega) (by omega),Ar (n:=(q:Int)+v) (by omega) (by omega)];simp only [DZ,Aw];cases decide (v > 20000)
  ·by_cases hv:v > (text.size:Int) - (q:Int)
   ·rw [Bg hv];simp
   ·rw [D5 hv,show decide ((0:Int)<=(q:Int))=true from Bg (by omega),show decide ((q:Int)<=q+v)=true from Bg (by omega),show decide ((q:Int)+v<=(text.size:Int))=true from Bg (by omega)];exact ⟨_,_,_,rfl,fun _=>⟨((q:Int)+v).toNat,by omega,by omega⟩⟩
  simp
theorem YBf {text:AA} {p:Nat} {s:AA} (hs:text.size<=140737488351232) (hz:s.size<=20000) (hA:At text p (Atn (s.size:Int)++bs s)):AvA text p=some (s,((p+(Atn (s.size:Int)).length+s.size:Nat):Int),true):=by
 have hp:p+(Atn (s.size:Int)).length<=text.size:=by
  rcases hA.left.size with h | h
  all_goals grind [Rk]
 have hA2:=hA.right;have hx:=hA2.extract (fun n hn=>RA4 hn);rw [bs_len,xg] at hx;simp only [AvA,xJ,mk,yR hs (by omega) (by omega) hA.left,AO];generalize p+(Atn (s.size:Int)).length=q at *
 have hz:q+s.size<=text.size:=by
  rcases hA2.size with h | h
  all_goals grind [bs_len]
 grind [Ar]
theorem ZBf {text:AA} {c:KD} (hs:text.size<=140737488351232) (h:GAn text c):∃ v c',oq c=some (v,c')/\GAn text c':=by
 obtain ⟨p,b,rfl,hp⟩:=h
 obtain ⟨s,q,ok,hr,hR⟩:=XBf hs hp
 simp only [oq,LAj,mk,hr,AO];cases ok;·exact ⟨_,_,rfl,⟨p,true,rfl,hp⟩⟩
 ·obtain ⟨q,rfl,h3⟩:=hR rfl
  exact ⟨_,_,rfl,⟨q,b,rfl,h3⟩⟩
theorem Ahz {text:AA} {p:Nat} {s:AA} (hs:text.size<=140737488351232) (hz:s.size<=20000) (hA:At text p (Atn (s.size:Int)++bs s)):oq ⟨text,(p:Int),false⟩=some (s,⟨text,((p+(Atn (s.size:Int)).length+s.size:Nat):Int),false⟩):=by simp only [oq,LAj,mk,YBf hs hz hA,AO];rfl
theorem sW (x:Ah):Aui x=some (AuI x):=by simp only [Aui,IAz,mk,JJ,AO,AuI,bne];grind [DU]
theorem YC {n:Int} (h:n<=9223372036854775807):Wy n=some (ofBytes (Atn n)):=by
 have key:∀ (n:Int) (m:Nat) (out:List Int),n<=9223372036854775807->(Atn n).length<=m->out.length+(Atn n).length<=1000->ou m (.c0 n out)=some (ofBytes (out++Atn n)):=by
  intro n;induction n using Atn.induct with
  | case1 n hn ih=>
   intro m out h1 h2 h3;rw [Atn,if_pos hn] at h2 h3 ⊢;simp only [List.length_cons] at h2 h3;obtain ⟨m,rfl⟩:∃ k,m=k+1:=⟨m - 1,by omega⟩
   grind [RBE,ou,GAj]
  | case2 n hn=>
   intro m out h1 h2 h3;rw [Atn,if_neg hn] at h2 h3 ⊢;simp at h2 h3;obtain ⟨m,rfl⟩:∃ k,m=k+1:=⟨m - 1,by omega⟩
   grind [ou,GAj]
 have hl:=Aq3 h;exact key n AX [] h (Nat.le_of_lt (FP (by omega))) (by grind)
theorem As5 {n:Int} (h:0<=n) (h2:n<=255):Ass n=some (ofBytes [n]):=by simp_all [Ass,BAz,mk,MX]
theorem BBg {s:AA} (h:s.size<=140737488351232):OAj s=some (Ati s):=by simp only [OAj,KAz,mk,YC (n:=(s.size:Int)) (by omega),AO];have:=Aq3 (n:=(s.size:Int)) (by omega);rw [show decide ((ofBytes (Atn (s.size:Int))).size+s.size<=9223372036854775807)=true from Bg (by grind [DK])];rfl
theorem JAn (x:Ah):oz x=some (Hy x):=by
 simp only [oz,LAz,mk,sW,AO,Hy];cases h:AuI x;·rfl
 ·obtain ⟨k1,k2,k3,k4,k5,k6,k7⟩:=Tq h
  obtain ⟨z1,z2,z3⟩:=XA4 h
  have hf:=yC x;have e1:∀ n:Int,(ofBytes [n]).size=1:=fun n=>DK _
  simp only [MBc,AO,YC (n:=x.fId) (by omega),As5 (n:=x.Aa) (by omega) (by omega),As5 hf.1 (by omega),BBg (s:=x.fValue) (by omega),YC (n:=x.fNext) (by omega),AIB,e1];simp only [DZ,Aw,A8]
  rw [show decide ((ofBytes (Atn x.fId)).size+1<=9223372036854775807)=true from Bg (by omega),show decide ((ofBytes (Atn x.fId)).size+1+1<=9223372036854775807)=true from Bg (by omega),
   show decide ((ofBytes (Atn x.fId)).size+1+1+(Ati x.fValue).size<=9223372036854775807)=true from Bg (by omega),show decide ((ofBytes (Atn x.fId)).size+1+1+(Ati x.fValue).size+(ofBytes (Atn x.fNext)).size<=9223372036854775807)=true from Bg (by omega)]
  rfl
theorem CBg (x:Ah):((AU (((BitVec.toNat ((BitVec.ofInt (IntKind.bits IntKind.i64) (LC x)) &&& (BitVec.ofInt (IntKind.bits IntKind.i64) (1:Int)))):Nat):Int) != 0)=x.CY)/\((AU (((BitVec.toNat ((BitVec.ofInt (IntKind.bits IntKind.i64) (LC x)) &&& (BitVec.ofInt (IntKind.bits IntKind.i64) (2:Int)))):Nat):Int) != 0)=x.CZ)/\((AU (((BitVec.toNat ((BitVec.ofInt (IntKind.bits IntKind.i64) (LC x)) &&& (BitVec.ofInt (IntKind.bits IntKind.i64) (4:Int)))):Nat):Int) != 0)=x.GI)/\((AU (((BitVec.toNat ((BitVec.ofInt (IntKind.bits IntKind.i64) (LC x)) &&& (BitVec.ofInt (IntKind.bits IntKind.i64) (8:Int)))):Nat):Int) != 0)=x.Fb):=by unfold LC;cases x.CY <;> cases x.CZ <;> cases x.GI <;> cases x.Fb <;> refine ⟨?_,?_,?_,?_⟩ <;> kernel_rfl
theorem SBG {text:AA} (hs:text.size<=140737488351232):∃ r,ArX text=some r/\FAn text r:=by
 obtain ⟨v0,c0,e0,h0⟩:=HAn hs (c:=⟨text,(0:Int),false⟩) ⟨0,false,rfl,by omega⟩
 obtain ⟨v1,c1,e1,h1⟩:=HAn hs h0
 obtain ⟨v2,c2,e2,h2⟩:=HAn hs h1
 obtain ⟨v3,c3,e3,h3⟩:=ZBf hs h2
 obtain ⟨v4,c4,e4,h4⟩:=HAn hs h3
 simp only [ArX,PAj,mk,e0,e1,e2,e3,e4,JAn,AO];generalize (AU (((BitVec.toNat ((BitVec.ofInt (IntKind.bits IntKind.i64) v2) &&& (BitVec.ofInt (IntKind.bits IntKind.i64) (1:Int)))):Nat):Int) != 0)=b1;generalize (AU (((BitVec.toNat ((BitVec.ofInt (IntKind.bits IntKind.i64) v2) &&& (BitVec.ofInt (IntKind.bits IntKind.i64) (2:Int)))):Nat):Int) != 0)=b2;generalize (AU (((BitVec.toNat ((BitVec.ofInt (IntKind.bits IntKind.i64) v2) &&& (BitVec.ofInt (IntKind.bits IntKind.i64) (4:Int)))):Nat):Int) != 0)=b3;generalize (AU (((BitVec.toNat ((BitVec.ofInt (IntKind.bits IntKind.i64) v2) &&& (BitVec.ofInt (IntKind.bits IntKind.i64) (8:Int)))):Nat):Int) != 0)=b4;cases c4.Ih
 ·cases h5:(Hy (⟨v0,v1,b1,b2,b3,b4,v3,v4⟩:Ah)).2;·exact ⟨_,rfl,.inr rfl⟩
  ·rw [toList_inj];by_cases h6:(Hy (⟨v0,v1,b1,b2,b3,b4,v3,v4⟩:Ah)).1=text;·rw [Bg h6];exact ⟨_,rfl,.inl ⟨rfl,Prod.ext h6 h5⟩⟩
   ·rw [D5 h6];exact ⟨_,rfl,.inr rfl⟩
 ·exact ⟨_,rfl,.inr rfl⟩
theorem TBG {text:AA} {x:Ah} (hs:text.size<=140737488351232) (h:Hy x=(text,true)):ArX text=some (x,true):=by
 obtain ⟨ho,rfl⟩:=DA6 h
 obtain ⟨k1,k2,k3,k4,k5,k6,k7⟩:=Tq ho
 have hf:=yC x;have hA:At (YS x) 0 _:=⟨[],by rw [List.drop_zero,OBG ho,List.append_nil]⟩
 rw [<-dF (n:=x.Aa) (by omega) (by omega),<-dF (n:=LC x) (by omega) (by omega)] at hA;have a1:=hA.right;have a2:=a1.right;have a3:=a2.right;have a4:=a3.right;have e0:=IAn hs (by omega) (by omega) hA.left;have e1:=IAn hs (by omega) (by omega) a1.left;have e2:=IAn hs (by omega) (by omega) a2.left;have e3:=Ahz hs (by omega) a3.left;have e4:=IAn hs (by omega) (by omega) a4;simp only [List.length_append,bs_len,Nat.zero_add,<-Nat.add_assoc] at e0 e1 e2 e3 e4;obtain ⟨b1,b2,b3,b4⟩:=CBg x
 simp_all [ArX,PAj,mk,JAn]
theorem DBg {text:AA} (hs:text.size<=140737488351232):∃ r,Wj text=some r/\ArX text=some r/\FAn text r:=by
 obtain ⟨r,hr,h⟩:=PBG hs
 obtain ⟨q,hq,h'⟩:=SBG hs
 rcases h with ⟨h1,h2⟩ | h
 ·grind [TBG]
 ·rcases h' with ⟨h1,h2⟩ | h'
  ·grind [QBG]
  ·exact ⟨r,hr,by simp_all,.inr h⟩
theorem V8 {r:Aq} (g:r.DY<=9223372036854775807):o7 r=some (As2 r):=by
 simp only [o7,NAz,mk,JJ,JAn,YC g,AO,TBE];simp only [YA4,As2];cases k1:r.Aa == 1
 ·simp only [Aw];cases k2:r.Aa == 2
  ·simp only [Aw];cases k3:r.Aa == 3
   ·simp only [Aw];cases k4:r.Aa == 4;·rfl
    ·have k:r.Aa=4:=by simp_all
     rw [k];simp only [beq_self_eq_true,As5 (n:=4) (by omega) (by omega),AO,Bool.true_and,A8];cases h:AvO r.DY 1 1000;·cases As7 r.fText <;> cases Oh r.BK <;> rfl
     ·cases As7 r.fText <;> cases Oh r.BK <;> (try rfl);simp only [DZ,Aw,A8,Bool.and_self,Bg (JAm (by omega) h 4)]
   ·have k:r.Aa=3:=by simp_all
    rw [k];simp only [beq_self_eq_true,As5 (n:=3) (by omega) (by omega),AO,Bool.true_and,A8,Bool.and_true];cases h:(Hy r.BK).2;·rfl
    ·cases As7 r.fText <;> cases r.DY == 0 <;> (try rfl);simp_all [UBE]
  ·have k:r.Aa=2:=by simp_all
   rw [k];simp only [beq_self_eq_true,As5 (n:=2) (by omega) (by omega),AO,Bool.true_and,A8];cases h:AvO r.DY 0 3;·cases As7 r.fText <;> cases Oh r.BK <;> rfl
   ·cases As7 r.fText <;> cases Oh r.BK <;> (try rfl);simp only [DZ,Aw,A8,Bool.and_self,Bg (JAm (by omega) h 2)]
 ·have k:r.Aa=1:=by simp_all
  rw [k];simp only [beq_self_eq_true,As5 (n:=1) (by omega) (by omega),AO,Bool.true_and,A8];cases h:(r.fText.size:Int) == 32 <;> cases r.DY == 0 <;> cases Oh r.BK <;> (try rfl);grind [DK]
theorem FA6 {text:AA} (x:Aq):∃ r,(bif !(As2 x).2 then some (Ru,false) else bif !((ByteArray.toList (As2 x).1) == (ByteArray.toList text)) then some (Ru,false) else some (x,true))=some r/\oZ text r:=og x false
theorem EBg {text:AA} (hs:text.size<=140737488351232):∃ r,TY text=some r/\oZ text r:=by
 simp only [TY,dI,mk];rw [toList_inj];by_cases he:text=⟨#[]⟩
 ·rw [Bg he];exact ⟨_,rfl,.inr rfl⟩
 ·have hz:0<text.size:=by
   rcases Nat.eq_zero_or_pos text.size with h | h
   ·exact absurd (Asj (List.eq_nil_of_length_eq_zero (by simp_all [bs_len])):text=⟨#[]⟩) he
   omega
  rw [D5 he,show decide ((0:Int)<(text.size:Int))=true from Bg (by omega),show decide ((1:Int)<=(text.size:Int))=true from Bg (by omega)];have hb:=TD text 0;rw [Ar (n:=bt text 0) (by omega) (by omega)];obtain ⟨⟨t,tb⟩,e1,_⟩:=SBG (text:=text.extract (1:Int).toNat text.size) (by grind [ByteArray.size_extract])
  obtain ⟨⟨v,q,ok⟩,e2,hR⟩:=VA5 (a:=1) hs hz
  have hv:v<=1000000000:=by
   rcases hR with h | ⟨v',_,h,_,h1,_⟩
   all_goals simp_all [VF]
  rw [e1,show Qq text (1:Int)=_ from e2];simp only [AO,Aw,A8,Bool.and_self];cases bt text 0 == 1
  ·simp only [Aw];cases bt text 0 == 3;·simp only [Aw];rw [V8 (by grind)];exact FA6 _
   ·simp only [A8];rw [V8 (by simp)];exact FA6 _
  ·simp only [A8];rw [V8 (by simp)];exact FA6 _
theorem UBG {text:AA} {x:Aq} (hs:text.size<=140737488351232) (h:As2 x=(text,true)):TY text=some (x,true):=by
 have hne:∀ (k:Int) (s:AA),(decide (ofBytes [k]++s=⟨#[]⟩))=false:=fun k s=>D5 fun h=>by grind [ByteArray.size,AIB,DK]
 have hd:∀ (k:Int) (s:AA),decide ((0:Int)<((ofBytes [k]++s).size:Int))=true/\decide ((1:Int)<=((ofBytes [k]++s).size:Int))=true:=fun k s=>by grind [DK]
 have hk:∀ (k:Int) (s:AA),0<=k->k<=255->AU (bt (ofBytes [k]++s) 0)=k:=fun k s h0 h1=>by rw [(dH (k:=k) (s:=s) h0 h1).left.head.2 |> fun e=>(show bt (ofBytes [k]++s) 0=k from e),Ar (by omega) (by omega)]
 rcases RBG h with ⟨s,rfl,hz,rfl⟩ | ⟨n,rfl,h0,h1,rfl⟩ | ⟨t,s,rfl,ht,rfl⟩ | ⟨n,rfl,h0,h1,rfl⟩
 ·have h':As2 ⟨1,s,0,⟨(0:Int),(0:Int),false,false,false,false,(⟨#[]⟩:AA),(0:Int)⟩⟩=_:=h;simp only [TY,dI,mk,hk 1 s (by omega) (by omega),hd,EA6,V8 (r:=⟨1,s,0,⟨(0:Int),(0:Int),false,false,false,false,(⟨#[]⟩:AA),(0:Int)⟩⟩) (by simp),h',AO,toList_inj,hne];rfl
 ·have hA:=dH (k:=2) (s:=ofBytes (Atn n)) (by omega) (by omega);rw [At6 (Aq9 n h0)] at hA;have e1:=yR hs (by omega) (by omega) hA.right;simp only [List.length_singleton,Nat.zero_add] at e1;have e2:Qq (ofBytes [2]++ofBytes (Atn n)) (1:Int)=_:=e1;have h':As2 ⟨2,⟨#[]⟩,n,⟨(0:Int),(0:Int),false,false,false,false,(⟨#[]⟩:AA),(0:Int)⟩⟩=_:=h;simp only [TY,dI,mk,hk 2 _ (by omega) (by omega),hd,e2,AO,V8 (r:=⟨2,⟨#[]⟩,n,⟨(0:Int),(0:Int),false,false,false,false,(⟨#[]⟩:AA),(0:Int)⟩⟩) (by grind),h',toList_inj,hne];rfl
 ·have hsz:s.size<=140737488351232:=by grind
  have e1:=TBG hsz ht;have h':As2 ⟨3,⟨#[]⟩,0,t⟩=_:=h;simp only [TY,dI,mk,hk 3 s (by omega) (by omega),hd,EA6,e1,AO,V8 (r:=⟨3,⟨#[]⟩,0,t⟩) (by simp),h',toList_inj,hne];rfl
 ·have hA:=dH (k:=4) (s:=ofBytes (Atn n)) (by omega) (by omega);rw [At6 (Aq9 n (by omega))] at hA;have e1:=yR hs (by omega) (by omega) hA.right;simp only [List.length_singleton,Nat.zero_add] at e1;have e2:Qq (ofBytes [4]++ofBytes (Atn n)) (1:Int)=_:=e1;have h':As2 ⟨4,⟨#[]⟩,n,⟨(0:Int),(0:Int),false,false,false,false,(⟨#[]⟩:AA),(0:Int)⟩⟩=_:=h;simp only [TY,dI,mk,hk 4 _ (by omega) (by omega),hd,e2,AO,V8 (r:=⟨4,⟨#[]⟩,n,⟨(0:Int),(0:Int),false,false,false,false,(⟨#[]⟩:AA),(0:Int)⟩⟩) (by grind),h',toList_inj,hne];rfl
noncomputable def AuG (t:AA):Aq×Bool:=@dite _ (∃ x,As2 x=(t,true)) (Classical.propDecidable _) (fun h=>(h.choose,true)) (fun _=>(Ru,false))
theorem VBG {t:AA} {o:Option (Aq×Bool)} (h1:∃ r,o=some r/\oZ t r) (h2:∀ x,As2 x=(t,true)->o=some (x,true)):o=some (AuG t):=by
 unfold AuG;split;·grind
 ·rename_i h;obtain ⟨r,hr,⟨_,k⟩ | k⟩:=h1
  all_goals simp_all
theorem FBg {t:AA} (h:t.size<=140737488351232):TW t=some (AuG t):=VBG (VBf h) (fun _ hx=>WBf h hx)
theorem WBG {t:AA} (h:t.size<=140737488351232):TY t=some (AuG t):=VBG (EBg h) (fun _ hx=>UBG h hx)
theorem GBg {t:AA} (_:t.size<=140737488351232):oZ t (AuG t):=by
 unfold AuG;split;·rename_i h;exact .inl ⟨rfl,h.choose_spec⟩
 ·exact .inr rfl
noncomputable def Atj (k:AA):Int->List AA->List Aq×Int
 | _,[]=>([],0)
 | i,f::fs=>bif (AtU k i f).2 && (AuG (AtU k i f).1).2 then ((AuG (AtU k i f).1).1::(Atj k (i+1) fs).1,((frameT f).1.size:Int)+(Atj k (i+1) fs).2) else ([],0)
noncomputable def Nl (k file:AA):List Aq×Int:=Atj k 1 (Qu file).1
theorem HBg {file:AA} (hs:file.size<=140737488351232):∀ (j a:Nat),a<=file.size->(∀ f ∈ (AuP j file a).1,f.size<=file.size)/\(AuP j file a).1.length+a<=file.size/\(AuP j file a).2<=file.size:=by
 intro j;induction j with
 | zero=>simp [AuP]
 | succ j ih=>
  intro a ha;rw [AuP];rcases jg hs ha with h | ⟨v,q,_,hq,_,_,_,h3,_,_,h⟩
  ·simp_all
  ·rw [h];obtain ⟨i1,i2,i3⟩:=ih (q+4+v.toNat) h3
   refine ⟨fun f hf=>?_,?_,i3⟩
   ·rcases List.mem_cons.1 hf with rfl | hf
    ·show (file.extract (q+4) (q+4+v.toNat)).size<=file.size;rw [ByteArray.size_extract];omega
    simp_all
   grind
theorem KAn {file:AA}:(∀ f ∈ (Qu file).1,f.size<=20000)/\(Qu file).1.length<=20000/\0<=(Qu file).2/\(Qu file).2<=(file.size:Int):=by
 rw [Qu];by_cases h:(file.size:Int) > 20000;·simp_all
 ·rw [D5 h];obtain ⟨h1,h2,h3⟩:=HBg (file:=file) (by omega) (file.size+1) 0 (DF _)
  grind
theorem IBg (k:AA):∀ (fs:List AA) (i:Int),(Atj k i fs).1.length<=fs.length:=by intro fs;induction fs<;>grind [Atj]
theorem JBg (k:List Int) (num:Int) (s:List Int):(Arn k num s).length=s.length+16:=by simp [Arn,bD,Aq7,mV]
theorem KBg {k s:AA} {num:Int} (h:(JG k num s).2=true):AtU k num (JG k num s).1=(s,true)/\(JG k num s).1.size=s.size+16:=by grind [JG,PBf,Si,xg,DK,JBg]
def tx (k:AA):Int->List Aq->List AA
 | _,[]=>[]
 | i,r::rs=>(JG k i (As2 r).1).1::tx k (i+1) rs
theorem Vt (k:AA):∀ (l:List Aq) (i:Int),(tx k i l).length=l.length
 | [],_=>rfl
 | r::rs,i=>by rw [tx,List.length_cons,List.length_cons,Vt k rs]
theorem jo (k:AA):∀ (l:List Aq) (i:Int) (w:Nat),(tx k i l).take w=tx k i (l.take w)
 | [],_,w=>by simp [tx]
 | r::rs,i,0=>rfl
 | r::rs,i,w+1=>by rw [tx,List.take_succ_cons,List.take_succ_cons,tx,jo k rs]
theorem LAn (k:AA):∀ (l q:List Aq) (i:Int),tx k i (l++q)=tx k i l++tx k (i+l.length) q
 | [],q,i=>by simp [tx]
 | r::rs,q,i=>by rw [List.cons_append,tx,tx,LAn k rs,List.length_cons,List.cons_append];rw [show i+1+(rs.length:Int)=i+((rs.length+1:Nat):Int) by omega]
def Sound (l:List Aq):Prop:=∀ r ∈ l,(As2 r).2=true
theorem xB (k:AA):∀ (l:List Aq) (i:Int),0<=i->i+l.length<=1000000000->∀ t ∈ tx k i l,1<=t.size/\t.size<=320
 | [],_,_,_,t,ht=>by cases ht
 | r::rs,i,h0,h1,t,ht=>by
  rw [List.length_cons] at h1;rw [tx] at ht;rcases List.mem_cons.1 ht with rfl | ht
  ·have:=(xA (k:=k) (s:=(As2 r).1) (num:=i) (by omega) (by have:=V7 r;omega)).2.2;have:=V7 r;omega
  ·exact xB k rs (i+1) (by omega) (by omega) t ht
theorem LBg {r:Aq} (h:(As2 r).2=true):AuG (As2 r).1=(r,true):=by have:=V7 r;have e1:=WBG (t:=(As2 r).1) (by omega);grind [UBG]
theorem XBG (k:AA):∀ (l:List Aq) (i:Int),0<=i->i+l.length<=1000000000->Sound l->Atj k i (tx k i l)=(l,((DV (tx k i l)).length:Int))
 | [],_,_,_,_=>rfl
 | r::rs,i,h0,h1,hs=>by
  rw [List.length_cons] at h1;have hz:=V7 r;obtain ⟨l1,l2,l3⟩:=xA (k:=k) (s:=(As2 r).1) (num:=i) (by omega) (by omega)
  obtain ⟨f1,f2⟩:=IA5 (t:=(JG k i (As2 r).1).1) (by omega)
  rw [tx,Atj,(KBg l1).1];dsimp only;rw [LBg (hs r (List.mem_cons_self ..)),XBG k rs (i+1) (by omega) (by omega) (fun x hx=>hs x (List.mem_cons_of_mem _ hx)),f2,DK,DV,List.length_append];show (r::rs,_)=_;refine congrArg (fun n=>(r::rs,n)) ?_;show ((Gp _).length:Int)+((DV _).length:Int)=_;omega
theorem MAn (k:AA) (ts:List AA) (h:∀ t ∈ ts,1<=t.size/\t.size<=320):(DV ts).length<=334*ts.length:=by
 induction ts with
 | nil=>exact Nat.le_refl 0
 | cons t ts ih=>
  have h1:=ih fun x hx=>h x (List.mem_cons_of_mem _ hx)
  grind [BAn,bs_len,Aq3,DV]
theorem YBG {k file:AA} {l:List Aq} {K:Nat} (hl:l.length<=50) (hs:Sound l) (hK:K<=(DV (tx k 1 l)).length) (hf:bs file=(DV (tx k 1 l)).take K):Nl k file=(l.take (whole (tx k 1 l) K),((DV (tx k 1 (l.take (whole (tx k 1 l) K)))).length:Int)):=by
 have hsz:=xB k l 1 (by omega) (by omega);have hsm:=MAn k _ hsz;rw [Vt] at hsm;have hlen:file.size=K:=by grind [bs_len]
 obtain ⟨w1,w2,w3⟩:=CAn (tx k 1 l) K
 have hu:=NBf (file:=file) (by omega) (tx k 1 l) K (file.size+1) 0 (fun t ht=>by grind) (DF _) (by assumption) (by omega);rw [Nl,Qu,show decide ((file.size:Int) > 20000)=false from D5 (by omega),Aw,hu];dsimp only;rw [jo];exact XBG k _ 1 (by omega) (by grind) (fun r hr=>hs r (List.mem_of_mem_take hr))
theorem NAn {l:List Aq}:∀ {b:Bf},(EW b l).2=true->Sound l:=by
 induction l with
 | nil=>intro b _ r hr;cases hr
 | cons x xs ih=>
  intro b h r hr;rw [EW] at h;cases h2:(Ara b x).2;·simp_all
  ·rw [h2,A8] at h;rcases List.mem_cons.1 hr with rfl | hr
   ·exact (Vs h2).2.1
   ·exact ih h r hr
theorem MBg {file:AA} {a:Nat} (hs:file.size<=140737488351232) (ha:a<=file.size) {p:AA×Nat} (h:AtG file a=some p):p.2=a+(frameT p.1).1.size/\p.2<=file.size:=by grind [jg,ByteArray.size_extract,DU,frameT,DK,Gp,bs_len]
theorem NBg (k:AA) {file:AA} (hs:file.size<=140737488351232):∀ (j a:Nat) (i:Int),a<=file.size->0<=(Atj k i (AuP j file a).1).2/\(a:Int)+(Atj k i (AuP j file a).1).2<=(file.size:Int):=by
 intro j;induction j with
 | zero=>intro a i ha;exact ⟨Int.le_refl 0,by show (a:Int)+0<=_;omega⟩
 | succ j ih=>
  intro a i ha;rw [AuP];cases h:AtG file a<;>grind [MBg,Atj]
theorem ZBG (k file:AA):0<=(Nl k file).2/\(Nl k file).2<=(file.size:Int):=by
 rw [Nl,Qu];by_cases h:(file.size:Int) > 20000;·rw [Bg h];exact ⟨Int.le_refl 0,by show (0:Int)<=_;omega⟩
 ·rw [D5 h,Aw];have h2:=NBg k (file:=file) (by omega) (file.size+1) 0 1 (DF _);simp_all
theorem GA6 {d:BO} {n:AA} {B:Nat} (hf:∀ f ∈ d.Ai,f.fText.size<=B):(Atr d n).1.size<=B:=by
 rw [Atr];cases h:Arr d.Ai n 0 with
 | none=>exact DF _
 | some j=>
  have h1:=(Z8 h).2;simp_all
def Qa:AA:=⟨#[98,111,111,107]⟩
def nNew:AA:=⟨#[98,111,111,107,43]⟩
noncomputable def GH (k:AA) (d:BO):Bf×List ET×Bool:=
 bif !(AvP d) || !(EW Ato (Nl k (Atr d Qa).1).1).2 then (nY,[],false)
 else ((EW Ato (Nl k (Atr d Qa).1).1).1,(bif decide (AsZ d nNew>=0) then [⟨4,nNew,⟨#[]⟩,⟨#[]⟩⟩] else [])++(bif (Nl k (Atr d Qa).1).2 == ((Atr d Qa).1.size:Int) then [] else [⟨1,nNew,(Atr d Qa).1.extract 0 (Nl k (Atr d Qa).1).2.toNat,⟨#[]⟩⟩,⟨2,nNew,⟨#[]⟩,⟨#[]⟩⟩,⟨3,nNew,⟨#[]⟩,Qa⟩]),true)
theorem OBg (k:AA):∀ (fs:List AA) (i:Int),(∀ f ∈ fs,f.size<=20000)->∀ r ∈ (Atj k i fs).1,r.DY<=9223372036854775807:=by
 intro fs;induction fs with
 | nil=>intro i _ r hr;cases hr
 | cons f fs ih=>
  intro i hf r hr;rw [Atj] at hr;cases h:(AtU k i f).2 && (AuG (AtU k i f).1).2;·simp_all
  ·rw [h,A8] at hr;rcases List.mem_cons.1 hr with rfl | hr
   ·have hz:=tY k f i;have hfz:=hf f (List.mem_cons_self ..);rcases GBg (t:=(AtU k i f).1) (by omega) with ⟨_,h2⟩ | h2
    ·have h3:(As2 (AuG (AtU k i f).1).1).2=true:=by rw [h2]
     rcases wB h3 with ⟨hk,_⟩ | ⟨hk,hc⟩ | ⟨hk,_⟩ | ⟨hk,hc⟩
     ·rw [As2,hk] at h3;simp only [show ((1:Int) == 1)=true from rfl,A8] at h3;cases hc:(((AuG (AtU k i f).1).1.fText.size:Int) == 32 && (AuG (AtU k i f).1).1.DY == 0 && Oh (AuG (AtU k i f).1).1.BK)
      ·rw [hc] at h3;cases h3
      simp_all
     ·omega
     ·rw [As2,hk] at h3;simp only [show ((3:Int) == 1)=false from rfl,show ((3:Int) == 2)=false from rfl,show ((3:Int) == 3)=true from rfl,A8,Aw] at h3;cases hc:((Hy (AuG (AtU k i f).1).1.BK).2 && As7 (AuG (AtU k i f).1).1.fText && (AuG (AtU k i f).1).1.DY == 0)
      ·rw [hc] at h3;cases h3
      simp_all
     ·omega
    simp_all
   grind
theorem PBg (k file:AA):∀ r ∈ (Nl k file).1,r.DY<=9223372036854775807:=OBg k _ _ (KAn (file:=file)).1
theorem AUE (k file:AA):(Nl k file).1.length<=20000:=Nat.le_trans (IBg k _ _) (KAn (file:=file)).2.1
def dk (F:AA) (n:Int):BO:=⟨[⟨Qa,F,n⟩]⟩
theorem BBH (G:AA):(⟨#[]⟩:AA)++G=G:=Asj (by rfl)
theorem o8:(Qa.toList == nNew.toList)=false:=by rw [toList_inj];rfl
theorem HA6:Op.bytesLess Qa.toList nNew.toList=true:=by rw [ByteArray.toList_eq,ByteArray.toList_eq];rfl
theorem yU {f:BQ} {fs:List BQ} {n:AA} {i:Nat} (h:(f.fName.toList == n.toList)=true):Arr (f::fs) n i=some i:=by simp_all [Arr]
theorem OAn {f:BQ} {fs:List BQ} {n:AA} {i:Nat} (h:(f.fName.toList == n.toList)=false):Arr (f::fs) n i=Arr fs n (i+1):=by simp_all [Arr]
theorem IA6 {N F:AA} {n:Int} (hN:1<=N.size/\N.size<=8) (h:0<=n/\n<=(F.size:Int)) (hF:F.size<=20000):Atl ⟨N,F,n⟩=true:=RAm.2 ⟨⟨by grind,by grind⟩,by grind,h.1,h.2⟩
theorem AsX {F:AA} {n:Int} (h:0<=n/\n<=(F.size:Int)) (hF:F.size<=20000):AvP (dk F n)=true:=by rw [dk,AvP,AuE,AuE,IA6 (by decide) h hF,NAm (s:=Qa) (by decide)];rfl
theorem PAn {F G:AA} {n m:Int} (h:0<=n/\n<=(F.size:Int)) (hF:F.size<=20000) (h2:0<=m/\m<=(G.size:Int)) (hG:G.size<=20000):AvP ⟨[⟨Qa,F,n⟩,⟨nNew,G,m⟩]⟩=true:=by rw [AvP,AuE,AuE,AuE,IA6 (by decide) h hF,IA6 (by decide) h2 hG,NAm (s:=Qa) (by decide),HA6];rfl
theorem JA6 (F F':AA) (n n':Int):Gu [⟨Qa,F,n⟩] ⟨Qa,F',n'⟩=[⟨Qa,F',n'⟩]:=by simp [Gu,Wq,Om,PAm]
theorem QBg (F G:AA) (n m:Int):Gu [⟨Qa,F,n⟩] ⟨nNew,G,m⟩=[⟨Qa,F,n⟩,⟨nNew,G,m⟩]:=by simp [Gu,Wq,Om,HA6]
theorem RBg (F G G':AA) (n m m':Int):Gu [⟨Qa,F,n⟩,⟨nNew,G,m⟩] ⟨nNew,G',m'⟩=[⟨Qa,F,n⟩,⟨nNew,G',m'⟩]:=by simp [Gu,Wq,Om,HA6,PAm]
theorem SBg (F G:AA) (n m:Int):F5 [⟨Qa,F,n⟩,⟨nNew,G,m⟩] nNew=[⟨Qa,F,n⟩]:=by simp [F5,o8]
theorem o9 {l:List BQ} (h:AvP ⟨l⟩=true):doneD l=(⟨l⟩,true):=by simp_all [doneD]
theorem TBg {T:AA} (hT:T.size<=20000):ArV ⟨[]⟩ ⟨1,Qa,T,⟨#[]⟩⟩=(dk T 0,true):=by simp only [ArV,show AvP ⟨[]⟩=true from rfl,QJ,Bool.or_true,beq_self_eq_true,Bool.true_or,Bool.and_self,A8,Arr,BBH];rw [show Gu [] (⟨Qa,T,0⟩:BQ)=[⟨Qa,T,0⟩] from rfl,o9 (AsX (by omega) hT)];rfl
theorem CBH {F T:AA} {n:Int} (h:0<=n/\n<=(F.size:Int)) (hF:(F++T).size<=20000):ArV (dk F n) ⟨1,Qa,T,⟨#[]⟩⟩=(dk (F++T) n,true):=by have hz:(F++T).size=F.size+T.size:=ByteArray.size_append;have hp:Arr (dk F n).Ai Qa 0=some 0:=yU (QJ _);simp only [ArV,AsX h (show F.size<=20000 by omega),QJ,Bool.or_true,beq_self_eq_true,Bool.true_or,Bool.and_self,A8,hp];show doneD (Gu [⟨Qa,F,n⟩] ⟨Qa,F++T,n⟩)=_;rw [JA6,o9 (AsX (by omega) hF)];rfl
theorem DBH {F:AA} {n:Int} (h:0<=n/\n<=(F.size:Int)) (hF:F.size<=20000):ArV (dk F n) ⟨2,Qa,⟨#[]⟩,⟨#[]⟩⟩=(dk F F.size,true):=by have hp:Arr (dk F n).Ai Qa 0=some 0:=yU (QJ _);simp only [ArV,AsX h hF,QJ,Bool.or_true,beq_self_eq_true,Bool.true_or,Bool.and_self,A8,hp];show doneD (Gu [⟨Qa,F,n⟩] ⟨Qa,F,(F.size:Int)⟩)=_;rw [JA6,o9 (AsX (by omega) hF)];rfl
def Vr (T:AA):List ET:=[⟨1,Qa,T,⟨#[]⟩⟩,⟨2,Qa,⟨#[]⟩,⟨#[]⟩⟩]
theorem EBH {T:AA} (hT:T.size<=20000):IY ⟨[]⟩ (Vr T) 0=(dk T T.size,2):=by simp_all [Vr,IY,TBg,DBH]
theorem UBg {F T:AA} {n:Int} (h:0<=n/\n<=(F.size:Int)) (hF:(F++T).size<=20000):IY (dk F n) (Vr T) 0=(dk (F++T) (F++T).size,2):=by grind [Vr,IY,CBH,DBH]
def KA6 (G:AA):List ET:=[⟨1,nNew,G,⟨#[]⟩⟩,⟨2,nNew,⟨#[]⟩,⟨#[]⟩⟩,⟨3,nNew,⟨#[]⟩,Qa⟩]
theorem VBg {F G:AA} {n:Int} (h:0<=n/\n<=(F.size:Int)) (hF:F.size<=20000) (hG:G.size<=20000):ArV (dk F n) ⟨1,nNew,G,⟨#[]⟩⟩=(⟨[⟨Qa,F,n⟩,⟨nNew,G,0⟩]⟩,true):=by grind [Arr,dk,OAn,o8,ArV,AsX,BBH,QBg,o9,PAn]
theorem WBg {F G:AA} {n:Int} (h:0<=n/\n<=(F.size:Int)) (hF:F.size<=20000) (hG:G.size<=20000):ArV ⟨[⟨Qa,F,n⟩,⟨nNew,G,0⟩]⟩ ⟨2,nNew,⟨#[]⟩,⟨#[]⟩⟩=(⟨[⟨Qa,F,n⟩,⟨nNew,G,(G.size:Int)⟩]⟩,true):=by
 have hp:Arr [(⟨Qa,F,n⟩:BQ),⟨nNew,G,0⟩] nNew 0=some 1:=by simp [OAn,o8,yU]
 simp only [ArV,PAn h hF (m:=0) (G:=G) (by omega) hG,QJ,Bool.or_true,beq_self_eq_true,Bool.true_or,Bool.and_self,A8,hp];show doneD (Gu [⟨Qa,F,n⟩,⟨nNew,G,0⟩] ⟨nNew,G,(G.size:Int)⟩)=_;simp_all [RBg,o9,PAn]
theorem XBg {F G:AA} {n:Int} (h:0<=n/\n<=(F.size:Int)) (hF:F.size<=20000) (hG:G.size<=20000):ArV ⟨[⟨Qa,F,n⟩,⟨nNew,G,(G.size:Int)⟩]⟩ ⟨3,nNew,⟨#[]⟩,Qa⟩=(dk G G.size,true):=by
 have hp:Arr [(⟨Qa,F,n⟩:BQ),⟨nNew,G,(G.size:Int)⟩] nNew 0=some 1:=by simp [OAn,o8,yU]
 simp only [ArV,PAn h hF (m:=(G.size:Int)) (G:=G) (by omega) hG,QJ,Bool.or_true,beq_self_eq_true,Bool.true_or,Bool.and_self,A8,hp];show (bif decide ((G.size:Int)<(G.size:Int)) || (Qa.toList == nNew.toList) then _ else doneD (Gu (F5 [⟨Qa,F,n⟩,⟨nNew,G,(G.size:Int)⟩] nNew) ⟨Qa,G,(G.size:Int)⟩))=_;rw [D5 (by omega),o8,Bool.or_self,Aw,SBg,JA6,o9 (AsX (by omega) hG)];rfl
theorem FBH {F G:AA} {n:Int} (h:0<=n/\n<=(F.size:Int)) (hF:F.size<=20000) (hG:G.size<=20000):IY (dk F n) (KA6 G) 0=(dk G G.size,3):=by simp_all [KA6,IY,VBg,WBg,XBg]
theorem GBH (F:AA) (n:Int):Atr (dk F n) Qa=(F,true):=by simp [Atr,dk,yU]
theorem YBg (F:AA) (n:Int):AsZ (dk F n) nNew = -1:=by grind [AsZ,Arr,dk,OAn,o8]
theorem LA6 {k F:AA} {l:List Aq} {n:Int} {K:Nat} (hl:l.length<=50) (hs:Sound l) (he:(EW Ato l).2=true) (hK:K<=(DV (tx k 1 l)).length) (hf:bs F=(DV (tx k 1 l)).take K) (hn:0<=n/\n<=(F.size:Int)) (hF:F.size<=20000) :
  GH k (dk F n)=((EW Ato (l.take (whole (tx k 1 l) K))).1,bif ((DV (tx k 1 (l.take (whole (tx k 1 l) K)))).length:Int) == (F.size:Int) then [] else KA6 (F.extract 0 (DV (tx k 1 (l.take (whole (tx k 1 l) K)))).length),true):=by
 rw [GH,AsX hn hF,GBH,YBG hl hs hK hf];dsimp only;rw [HBG _ he,YBg];rfl
theorem ZBg (ts:List AA):∀ (j K:Nat),j<=ts.length->(DV (ts.take j)).length<=K->j<=whole ts K:=by
 induction ts with
 | nil=>simp_all
 | cons t ts ih=>
  intro j K hj h;cases j with
  | zero=>omega
  | succ j=>
   rw [List.take_succ_cons,DV,List.length_append] at h;rw [List.length_cons] at hj;rw [whole,if_pos (by omega)];have:=ih j (K - (Gp (bs t)).length) (by omega) (by omega);omega
def Small (d:BO):Prop:=d.Ai.length<=1/\∀ f ∈ d.Ai,f.fText.size<=20000
theorem HBH {F:AA} {n:Int} (h:F.size<=20000):Small (dk F n):=⟨Nat.le_refl _,fun f hf=>by
 have hf:f ∈ [(⟨Qa,F,n⟩:BQ)]:=hf;simp_all⟩
theorem QAn {k:AA} {l:List Aq} {i:Nat} (h:i<l.length):DV (tx k 1 (l.take (i+1)))=DV (tx k 1 (l.take i))++Gp (bs (JG k ((i:Int)+1) (As2 l[i]).1).1):=by rw [take_at h,LAn,YA5,List.length_take,Nat.min_eq_left (by omega),show (1:Int)+(i:Int)=(i:Int)+1 by omega,tx,tx,DV,DV,List.append_nil]
theorem MA6 {k:AA} {l:List Aq} (hl:l.length<=50) (i:Nat):(DV (tx k 1 (l.take i))).length<=16700:=by
 have hz:(l.take i).length<=50:=by grind
 have h:=MAn k _ (xB k (l.take i) 1 (by omega) (by omega));grind [Vt]
def OnD (k:AA) (l:List Aq) (i:Nat) (d:BO):Prop:=(i=0/\d=⟨[]⟩)\/∃ F:AA,d=dk F F.size/\bs F=DV (tx k 1 (l.take i))
theorem NA6 {k:AA} {r:Aq} {i:Nat} (hr:(As2 r).2=true) (hi:i<=10000):∃ T,Wp k (i:Int) r=(Vr T,true)/\bs T=Gp (bs (JG k ((i:Int)+1) (As2 r).1).1):=by
 have hz:=V7 r;obtain ⟨l1,l2,l3⟩:=xA (k:=k) (s:=(As2 r).1) (num:=(i:Int)+1) (by omega) (by omega)
 obtain ⟨f1,f2⟩:=IA5 (t:=(JG k ((i:Int)+1) (As2 r).1).1) (by omega)
 refine ⟨(frameT (JG k ((i:Int)+1) (As2 r).1).1).1,?_,by rw [f2,At6 (vP (Si _))]⟩;rw [Wp,hr,DU.2 (show 0<=(i:Int)/\(i:Int)<=10000 by omega)];rfl
theorem BBh {k T:AA} {l:List Aq} {i:Nat} (hl:l.length<=50) (hi:i<l.length) (hT:bs T=Gp (bs (JG k ((i:Int)+1) (As2 l[i]).1).1)):(DV (tx k 1 (l.take i))).length+T.size<=16700:=by have h:=congrArg List.length (QAn (k:=k) hi);grind [MA6,bs_len]
theorem CBh {k T:AA} {l:List Aq} {i:Nat} {d:BO} (hl:l.length<=50) (hi:i<l.length) (h:OnD k l i d) (hT:bs T=Gp (bs (JG k ((i:Int)+1) (As2 l[i]).1).1)):∃ E:AA,IY d (Vr T) 0=(dk E E.size,2)/\bs E=DV (tx k 1 (l.take (i+1))):=by
 have hs:=BBh hl hi hT;rcases h with ⟨rfl,rfl⟩ | ⟨F,rfl,hF⟩
 ·exact ⟨T,EBH (by omega),by rw [QAn hi,<-hT];rfl⟩
 ·have hz:(F++T).size=F.size+T.size:=ByteArray.size_append;have hF2:F.size=(DV (tx k 1 (l.take i))).length:=by grind [bs_len]
  exact ⟨F++T,UBg (by omega) (by omega),by simp_all [ArL,QAn]⟩
theorem DBh {k F:AA} {l:List Aq} {n:Int} (hl:l.length<=50) (hs:Sound l) (he:(EW Ato l).2=true) (hf:bs F=DV (tx k 1 l)) (hn:0<=n/\n<=(F.size:Int)):GH k (dk F n)=((EW Ato l).1,[],true):=by
 have hsm:=MA6 (k:=k) hl l.length;rw [List.take_length] at hsm;have hF:F.size=(DV (tx k 1 l)).length:=by grind [bs_len]
 have h:=LA6 (k:=k) (F:=F) (l:=l) (n:=n) (K:=(DV (tx k 1 l)).length) hl hs he (Nat.le_refl _) (by simp_all) hn (by omega);simp_all [ZA5,Vt]
def Ar8 (b:Aj) (i:Nat):Bool:=match AtT b.AV.Ag (b.BJ.getD i ⟨0,0⟩).fId with
 | some x=>x.Aa == 2 && (AvO (b.BJ.getD i ⟨0,0⟩).fNext 0 x.fNext && (i == 0 || !decide ((b.BJ.getD (i - 1) ⟨0,0⟩).fId>=(b.BJ.getD i ⟨0,0⟩).fId)))
 | none=>false
def Atb (b:Aj):Nat->Nat->Bool
 | 0,_=>true
 | j+1,i=>Ar8 b i && Atb b j (i+1)
def Vg (b:Aj):Bool:=Atb b b.BJ.length 0
theorem EBh {b:Bf} {l:List Aq} (h:b.Ag.length<=2932031007317):(EW b l).1.Ag.length<=2932031007317:=by
 induction l generalizing b with
 | nil=>exact h
 | cons r rs ih=>
  rw [EW];cases h3:(Ara b r).2;·exact DF _
  grind [SA5]
theorem RAn (k:AA) (d:BO):(GH k d).1.Ag.length<=2932031007317/\(GH k d).2.1.length<=4:=by
 rw [GH];cases (!(AvP d) || !(EW Ato (Nl k (Atr d Qa).1).1).2);·refine ⟨EBh (DF _),?_⟩;grind
 ·exact ⟨DF _,DF _⟩
def vg (x y:Ah):Bool:=(x.fId == y.fId) && ((x.Aa == y.Aa) && ((x.CY == y.CY) && ((x.CZ == y.CZ) && ((x.GI == y.GI) && ((x.Fb == y.Fb) && (((ByteArray.toList x.fValue) == (ByteArray.toList y.fValue)) && ((x.fNext == y.fNext) && true)))))))
theorem OA6 (x y:Ah):((x.fId == y.fId) && ((x.Aa == y.Aa) && ((x.CY == y.CY) && ((x.CZ == y.CZ) && ((x.GI == y.GI) && ((x.Fb == y.Fb) && (((ByteArray.toList x.fValue) == (ByteArray.toList y.fValue)) && ((x.fNext == y.fNext) && true))))))))=vg x y:=rfl
theorem FBh {x y:Ah}:vg x y=true↔x=y:=by
 simp only [vg,Bool.and_eq_true,beq_iff_eq];constructor
 ·rintro ⟨h1,h2,h3,h4,h5,h6,h7,h8,_⟩;have HZ:x.fValue=y.fValue:=by grind [toList_inj]
  cases x;simp_all
 grind
def Asl:List Ah->List Ah->Bool
 | [],[]=>true
 | x::a,y::b=>vg x y && Asl a b
 | _,_=>false
theorem PA6:∀ {a b:List Ah},Asl a b=true↔a=b
 | [],[]=>by simp [Asl]
 | x::a,y::b=>by simp [Asl,FBh,PA6]
 | [],_::_=>by simp [Asl]
 | _::_,[]=>by simp [Asl]
theorem QA6 {a b:List Ah} (h:a.length≠b.length):Asl a b=false:=by grind [PA6]
def Qn (a b:Bf):Bool:=(a.Bv.toList == b.Bv.toList) && ((a.DR == b.DR) && (Asl a.Ag b.Ag && ((a.BR == b.BR) && ((a.Dp.toList == b.Dp.toList) && (a.fCount == b.fCount)))))
theorem RA6 {a b:Bf}:Qn a b=true↔a=b:=by
 simp only [Qn,Bool.and_eq_true,toList_inj,decide_eq_true_eq,beq_iff_eq,PA6];constructor;·rintro ⟨h1,h2,h3,h4,h5,h6⟩;cases a;simp_all
 grind
def aH (b:Aj) (i:Nat):Bool:=AvO (b.BI.getD i ⟨0,false⟩).fId 1 b.CU && (i == 0 || !decide ((b.BI.getD (i - 1) ⟨0,false⟩).fId>=(b.BI.getD i ⟨0,false⟩).fId))
def Oy (b:Aj):Nat->Nat->Bool
 | 0,_=>true
 | j+1,i=>aH b i && Oy b j (i+1)
noncomputable def X4 (b:Aj):Bool:=bif b.Bj then (GH b.BN b.Bd).2.2 && (((GH b.BN b.Bd).2.1.length:Int) == 0 && (IW b.AV && (Qn (GH b.BN b.Bd).1 b.AV && Vg b)))
 else (b.BI.length:Int) == 0 && ((b.BJ.length:Int) == 0 && Qn b.AV Ato)
noncomputable def Ark (b:Aj):Bool:=(b.BN.size:Int) == 32 && (AvP b.Bd && (decide ((b.BI.length:Int)<=3) && (AvO b.CU 0 1000 && (Oy b b.BI.length 0 && X4 b))))
def Ro (b:Aj):Aj:=⟨b.BN,false,b.Bd,Ato,[],[],0⟩
theorem GBh {k w:AA} (hk:k.size=32) (hw:w.size<=20):∃ T:AA,Pq k w=(⟨k,true,dk T T.size,(Ara Ato (Wi w)).1,[],[],0⟩,true)/\T.size<=20000/\bs T=DV (tx k 1 [Wi w]):=by
 have hr:(As2 (Wi w)).2=true:=by rw [VAm]
 obtain ⟨T,t1,t2⟩:=NA6 (k:=k) (r:=Wi w) (i:=0) hr (DF _)
 have hT:bs T=DV (tx k 1 [Wi w]):=by simp_all [tx,DV]
 have hsm:=MAn k _ (xB k [Wi w] 1 (by omega) (by simp));grind [Vt,bs_len,Pq,EBH]
theorem SA6 {b:Aj} (hk:b.BN.size=32) (hd:AvP b.Bd=true):Ark (Ro b)=true:=by rw [Ark,X4,Ro];simp only [hd,RA6.2 rfl,hk,Aw];rfl
structure Good (k:AA) (l:List Aq) (b:Aj):Prop where
 JC:k.size=32
 key:b.BN=k
 up:b.Bj=true
 disk:∃ F:AA,b.Bd=dk F F.size/\bs F=DV (tx k 1 l)
 len:1<=l.length/\l.length<=50
 book:EW Ato l=(b.AV,true)
 LM:b.BI.length<=3/\Oy b b.BI.length 0=true
 opn:0<=b.CU/\b.CU<=1000
 Lp:Vg b=true/\b.BJ.length<=8
theorem Good.Ol {k:AA} {l:List Aq} {b:Aj} (g:Good k l b):IW b.AV=true:=by have:=WBe (rs:=l) RA5 (by rw [g.book]);rw [g.book] at this;omega
theorem Good.cnt {k:AA} {l:List Aq} {b:Aj} (g:Good k l b):b.AV.fCount=(l.length:Int):=by have:=XBe (l:=l) (b:=Ato) (by rw [g.book]);rw [g.book,show Ato.fCount=0 from rfl,Int.zero_add] at this;omega
theorem Good.sound {k:AA} {l:List Aq} {b:Aj} (g:Good k l b):Sound l:=NAn (b:=Ato) (by rw [g.book])
theorem Good.fsz {k F:AA} {l:List Aq} (hl:l.length<=50) (hF:bs F=DV (tx k 1 l)):F.size<=16700:=by grind [MA6,List.take_length,bs_len]
theorem Good.small {k:AA} {l:List Aq} {b:Aj} (g:Good k l b):Small b.Bd:=by
 obtain ⟨F,h1,h2⟩:=g.disk
 rw [h1];exact HBH (by have:=Good.fsz g.len.2 h2;omega)
theorem Good.aI {k:AA} {l:List Aq} {b:Aj} (g:Good k l b):b.AV.Ag.length<=8:=(Asq.1 g.Ol).2.2.2.1
theorem Good.ok {k:AA} {l:List Aq} {b:Aj} (g:Good k l b):Ark b=true:=by
 obtain ⟨F,h1,h2⟩:=g.disk
 have hz:=Good.fsz g.len.2 h2;have hm:=DBh (k:=k) (F:=F) (l:=l) (n:=F.size) g.len.2 g.sound (by rw [g.book]) h2 (by omega);rw [g.book] at hm;have hd:=AsX (F:=F) (n:=(F.size:Int)) (by omega) (by omega);have h3:=g.LM.1;rw [Ark,X4,g.up,g.key,h1,hd,hm,g.JC,g.Ol,g.LM.2,g.Lp.1,show Qn b.AV b.AV=true from RA6.2 rfl,Bg (by omega:(b.BI.length:Int)<=3),DU.2 g.opn];rfl
theorem IBH {b c:Aj} (h1:c.BI=b.BI) (h2:c.CU=b.CU):∀ j i,Oy c j i=Oy b j i:=by intro j;induction j<;>simp_all [Oy,aH]
theorem HBh {b c:Aj} (h1:c.BJ=b.BJ) (h2:c.AV.Ag=b.AV.Ag):∀ j i,Atb c j i=Atb b j i:=by intro j;induction j<;>simp_all [Atb,Ar8]
theorem TA6 {k w:AA} (hk:k.size=32) (hw:w.size<=20):(Pq k w).2=true/\Good k [Wi w] (Pq k w).1/\(Pq k w).1.BI=[]/\(Pq k w).1.BJ=[]/\(Pq k w).1.CU=0/\(Pq k w).1.AV=(Ara Ato (Wi w)).1:=by
 obtain ⟨T,h1,h2,h3⟩:=GBh hk hw
 rw [h1];refine ⟨rfl,⟨hk,rfl,rfl,⟨T,rfl,h3⟩,⟨Nat.le_refl _,by simp⟩,?_,⟨DF _,rfl⟩,⟨Int.le_refl _,by simp⟩,⟨rfl,DF _⟩⟩,rfl,rfl,rfl,rfl⟩;simp [EW,SBe]
def IX:List Cc->Int->Nat->Option Nat
 | [],_,_=>none
 | l::ls,t,i=>if l.fId == t then some i else IX ls t (i+1)
theorem wW {t:Int}:∀ {ls:List Cc} {i j:Nat},IX ls t i=some j->i<=j/\j<i+ls.length:=by intro ls;induction ls<;>grind [IX]
def atV (b:Aj) (t:Int):Int:=match IX b.BJ t 0 with | some j=>(j:Int) | none=> -1
def Ar6 (b:Aj) (x:Ah):Int:=match IX b.BJ x.fId 0 with | some j=>(b.BJ.getD j ⟨0,0⟩).fNext | none=>x.fNext
def Qm (b:Aj) (t:Int):Int:=match AtT b.AV.Ag t with
 | some x=>bif x.Aa == 2 then Ar6 b x else -1
 | none=> -1
def Gq:List Cc->Int->Nat
 | [],_=>0
 | l::ls,id=>if l.fId<id then Gq ls id+1 else 0
theorem JBH (id:Int):∀ ls:List Cc,Gq ls id<=ls.length
 | []=>Nat.le_refl _
 | l::ls=>by have:=JBH id ls;rw [Gq,List.length_cons];split <;> omega
theorem KBH {id:Int}:∀ {ls:List Cc} {i:Nat},i<Gq ls id->(ls.getD i ⟨0,0⟩).fId<id
 | [],i,h=>absurd h (Nat.not_lt_zero _)
 | l::ls,i,h=>by
  rw [Gq] at h;split at h
  ·cases i with
   | zero=>assumption
   | succ i=>exact KBH (ls:=ls) (by omega)
  ·omega
theorem LBH {id:Int}:∀ {ls:List Cc},Gq ls id<ls.length->¬ (ls.getD (Gq ls id) ⟨0,0⟩).fId<id
 | [],h=>absurd h (Nat.not_lt_zero _)
 | l::ls,h=>by
  rw [Gq] at h ⊢;split at h;·rename_i h1;rw [if_pos h1];exact LBH (ls:=ls) (by rw [List.length_cons] at h;omega)
  ·rename_i h1;rw [if_neg h1];exact h1
def aU (ls:List Cc) (id n:Int):List Cc:=match IX ls id 0 with
 | some j=>ls.set j ⟨(ls.getD j ⟨0,0⟩).fId,n⟩
 | none=>ls.take (Gq ls id)++[⟨id,n⟩]++ls.drop (Gq ls id)
def UAn (b:Bf):Bool:=(b.Bv.size:Int) == 32 && ((b.Dp.size:Int) == 32 && (AvO b.DR 0 3 && (decide ((b.Ag.length:Int)<=8) && (AvO b.BR 0 1000 && AvO b.fCount 0 10000))))
theorem IBh {b:Bf} (hb:b.Ag.length<=140737488351232):∀ m i,i<=b.Ag.length->b.Ag.length - i<m->dJ m (.c0 b.Ag b.Ag.length i b)=some (rise b.BR (P5 b.Ag i) (b.Ag.drop i) && UAn b):=fun m i h1 h2=>
 PL (A:=Unit) (n:=b.Ag.length) (Hj:=dJ) (st:=fun i _=>.c0 b.Ag b.Ag.length i b) (Inv:=fun _ _=>True) (out:=fun i _=>some (rise b.BR (P5 b.Ag i) (b.Ag.drop i) && UAn b))
  (fun m _ _=>by
   simp only [dJ,SAj,mk,JJ,AO,UAn];rw [show decide ((b.Ag.length:Int)<(b.Ag.length:Int))=false from D5 (by omega),List.drop_of_length_le (Nat.le_refl _)];cases (b.Bv.size:Int) == 32 <;> cases (b.Dp.size:Int) == 32 <;> cases AvO b.DR 0 3 <;> cases decide ((b.Ag.length:Int)<=8) <;> cases AvO b.BR 0 1000 <;> rfl)
  (fun m i _ hi _=>by
   have hw:AU ((i:Int)+1)=((i+1:Nat):Int):=by grind [Ar]
   simp only [VBE hi];simp only [dJ,SAj,mk,BU,getD_at hi,sW,AO,hw];rw [show decide ((i:Int)<(b.Ag.length:Int))=true from Bg (by omega),show decide ((0:Int)<=(i:Int))=true from Bg (by omega)];simp only [Bool.and_self,A8];cases h1:AuI b.Ag[i];·simp
   ·cases h2:decide (b.Ag[i].fId > b.BR)
    ·by_cases h0:i=0;·subst h0;refine .inr ⟨(),rfl,trivial,?_⟩;rw [show decide (P5 b.Ag 0>=b.Ag[0].fId)=false from D5 (by have:=(Tq h1).2.2.1;grind [P5])];rfl
     ·obtain ⟨j,rfl⟩:∃ j,i=j+1:=⟨i - 1,by omega⟩
      have hj:AU (((j+1:Nat):Int) - 1)=(j:Int):=by grind [Ar]
      have hjl:j<b.Ag.length:=by omega
      rw [ZA4 hjl];simp only [hj,BU,getD_at hjl,DZ,Bool.not_false,Aw,Bool.true_and];rw [show decide (((j+1:Nat):Int) > 0)=true from Bg (by omega),show decide ((0:Int)<=(j:Int))=true from Bg (by omega),show decide ((j:Int)<(b.Ag.length:Int))=true from Bg (by omega)];simp only [Bool.and_self,A8];cases h3:decide (b.Ag[j].fId>=b.Ag[j+1].fId);all_goals simp
    simp) m i () h1 h2 trivial
theorem MBH {b:Bf} (hb:b.Ag.length<=140737488351232):pF b=some (IW b):=by have h0:=IBh hb AX 0 (DF _) (FP (by omega));simp only [pF,TAz,mk];grind [IW,UAn,P5]
theorem UA6 {b:Bf} (h:b.Ag.length<=2932031007317):dK b=some b:=by rw [dK,RAz,mk,Atd (by grind)]
theorem VA6 {b:Bf} {t:Int} (h:b.Ag.length<=140737488351232):yV b t=some (match Np b.Ag t 0 with | some j=>(j:Int) | none=> -1):=by
 have key:∀ m i,i<=b.Ag.length->b.Ag.length - i<m->dL m (.c0 t b.Ag b.Ag.length i)=some (match Np (b.Ag.drop i) t i with | some j=>(j:Int) | none=> -1):=fun m i h1 h2=>
  PL (A:=Unit) (n:=b.Ag.length) (Hj:=dL) (st:=fun i _=>.c0 t b.Ag b.Ag.length i) (Inv:=fun _ _=>True) (out:=fun i _=>some (match Np (b.Ag.drop i) t i with | some j=>(j:Int) | none=> -1))
   (fun m _ _=>by simp [dL,TAj,mk,Np])
   (fun m i _ hi _=>by
    have hw:AU ((i:Int)+1)=((i+1:Nat):Int):=by grind [Ar]
    simp only [dL,TAj,mk,BU,getD_at hi,hw,drop_at hi,Np];cases hq:b.Ag[i].fId == t;all_goals simp_all) m i () h1 h2 trivial
 have h0:=key AX 0 (DF _) (FP (by omega));exact h0
theorem JBh (x y:Ah):UAj x y=some (grown x y):=by rw [UAj,VAz,mk,grown,Vk,show decide (y.fNext>=x.fNext)=decide (x.fNext<=y.fNext) from rfl];grind
theorem KBh {b:Bf} {x:Ah} (hb:IW b=true) (hx:x.fId<=1000):VAj b x=some (match Vu b x with
 | some p=>(true,⟨b.Bv,b.DR,p.1,p.2,b.Dp,b.fCount⟩)
 | none=>(false,b)):=by
 obtain ⟨b1,b2,b3,b4,b5,b6,b7⟩:=Asq.1 hb
 rw [VAj,WAz,mk,VA6 (by omega),AO,Vu];rcases CA5 (xs:=b.Ag) (id:=x.fId) with ⟨o,j,t1,t2,t3,t4,t5⟩ | ⟨t1,t2⟩
 ·have hg:∀ z,b.Ag.getD j z=o:=fun z=>by simp_all
  have hs:=(BA5 b7 t2).1;grind [JBh]
 grind [Ar]
theorem NBH {b:Bf} {r:Aq} (hb:b.Ag.length<=140737488351232) (hr:r.DY<=9223372036854775807):X8 b r=some (Ara b r):=by
 rw [X8,XAz,mk,V8 hr,AO,MBH hb,AO,Ara];cases h1:IW b;·rfl
 cases h2:(As2 r).2;·rfl
 by_cases h3:b.fCount>=10000;·rw [Bg h3];rfl
 obtain ⟨b1,b2,b3,b4,b5,b6,b7⟩:=Asq.1 h1
 have hz:=V7 r;have hw:AU (b.fCount+1)=b.fCount+1:=Ar (by omega) (by omega);have hdig:=PW (s:=b.Dp++(As2 r).1) (by grind);have hsz:decide (b.Dp.size+(As2 r).1.size<=9223372036854775807)=true:=by grind
 simp only [D5 h3,DZ,Bool.or_self,Aw,UA6 (show b.Ag.length<=2932031007317 by omega),hdig,hsz,hw,AO,A8];rcases wB h2 with ⟨hk,hc⟩ | ⟨hk,hc⟩ | ⟨hk,hc⟩ | ⟨hk,hc⟩
 ·simp_all
 ·simp_all
 ·rw [hk];simp only [show ((3:Int) == 1)=false from rfl,show ((3:Int) == 2)=false from rfl,show ((3:Int) == 3)=true from rfl,A8,Aw];rw [KBh h1 (Tq hc).2.2.2.1,AO];cases Vu b r.BK with
  | none=>rfl
  | some p=>simp_all
 ·rw [hk];simp only [show ((4:Int) == 1)=false from rfl,show ((4:Int) == 2)=false from rfl,show ((4:Int) == 3)=false from rfl,show ((4:Int) == 4)=true from rfl,A8,Aw];rw [VA6 hb,AO];rcases CA5 (xs:=b.Ag) (id:=r.DY) with ⟨o,j,t1,t2,t3,t4,t5⟩ | ⟨t1,t2⟩
  ·have hs:=(BA5 (x:=⟨r.DY,0,false,false,false,false,⟨#[]⟩,0⟩) b7 t2).2;rw [Nat.sub_zero] at hs;simp only at hs;rw [t1,t2];simp only [BU];have e:AU ((j:Int)+1)=((j+1:Nat):Int):=by grind [Ar]
   simp only [e,BU,List.drop_zero,List.take_length,hs];grind
  ·rw [t1,t2];rfl
end Go.Proofs.YtaalgheapdmjnaaGreatDoor.G
