/- The plain law of FnKept: whatever the arguments, it answers true. Conditions: what is read is in reach. Part 1 of 4. -/
import Derived.Test.YtkbbicgglblfiaaGreatDoorFFnKept
import Derived.Test.YtkbbicgglblfiaaGreatDoorOpens
import Derived.Test.YtkbbicgglblfiaaGreatDoorPBase
namespace Go.Proofs.YtkbbicgglblfiaaGreatDoor.G
open Go Go.Ev
set_option linter.unusedVariables false
set_option linter.unusedSimpArgs false
set_option linter.unusedSectionVars false
variable [PC]
theorem HBh (u:Unit):BAv u=some (decide ((KI.length:Int) > 1048576)):=rfl
def bs (s:AA):List Int:=s.data.toList.map fun b=>(b.toNat:Int)
theorem bs_len (s:AA):(bs s).length=s.size:=by simp [bs]
theorem IA9 {s:AA} {n:Int} (h:n ∈ bs s):0<=n/\n<=255:=by unfold bs at h;rw [List.mem_map] at h;obtain ⟨b,_,rfl⟩:=h;have:=b.toNat_lt;omega
theorem Aq7 (a b:AA):bs (a++b)=bs a++bs b:=by simp [bs]
theorem zG (s:AA):ofBytes (bs s)=s:=by simp [ofBytes,bs,Function.comp_def]
theorem Jm {s t:AA} (h:bs s=bs t):s=t:=by grind [zG]
theorem AsM {l:List Int} (h:∀ n,n ∈ l->0<=n/\n<=255):bs (ofBytes l)=l:=by
 simp only [bs,ofBytes,List.map_map];conv=>rhs;rw [<-List.map_id l]
 grind [List.map_congr_left,UInt8.toNat_ofNat']
theorem jB {s:AA} {i:Nat} (h:i<s.size):bt s (i:Int)=(bs s)[i]'(by simp_all [bs_len]):=by simp only [bt,BR,h,dite_true,bs,List.getElem_map];rfl
theorem Rz (s:AA) (i:Int):0<=bt s i/\bt s i<=255:=by
 unfold bt;split;·have:=(s[i.toNat]).toNat_lt;omega
 ·omega
theorem Ls (s:AA) (i j:Nat):bs (s.extract i j)=((bs s).take j).drop i:=by simp [bs,List.drop_take]
theorem AL {α:Type} {c:Bool} {a b:α} (h:c=true):(bif c then a else b)=a:=by simp_all
theorem AsB {α:Type} {c:Bool} {a b:α} (h:c=false):(bif c then a else b)=b:=by simp_all
theorem Uo {s:AA} {i:Nat} (h:i<s.size):bt s (i:Int)=(bs s).getD i 0:=by grind [jB]
theorem CAq {α:Type} {a b:List α} {i:Nat} (h:i<a.length) (d:α):(a++b).getD i d=a.getD i d:=by simp_all [List.getElem?_append_left]
theorem dG {α:Type} {a b:List α} {x y:α} {i:Nat} (h:a.length=i):(a++x::b).set i y=a++y::b:=by simp_all
theorem IBh:bs (⟨#[]⟩:AA)=[]:=rfl
def Aqy (l:List Int):Prop:=∀ n,n ∈ l->0<=n/\n<=255
theorem ArR {l:List Int} (h:Aqy l) (i:Nat):0<=l.getD i 0/\l.getD i 0<=255:=by
 by_cases hi:i<l.length;·rw [getD_at hi];exact h _ (List.getElem_mem hi)
 simp_all
theorem Jj (s:AA):Aqy (bs s):=fun _ h=>IA9 h
theorem mV (s:AA):bytesOf s=bs s:=rfl
def Ok {α:Type} (x:Option α) (Q:α->Prop):Prop:=∃ a,x=some a/\Q a
theorem Ok.bind {α β:Type} {x:Option α} {f:α->Option β} {Q:α->Prop} {R:β->Prop} (h:Ok x Q) (k:∀ a,Q a->Ok (f a) R):Ok (x.bind f) R:=by obtain ⟨a,rfl,h⟩:=h;simp_all
theorem Ok.cond {α:Type} {c:Bool} {a b:Option α} {R:α->Prop} (h1:c=true->Ok a R) (h2:c=false->Ok b R):Ok (bif c then a else b) R:=by grind
theorem Ok.chk {α:Type} {c:Bool} {a:Option α} {R:α->Prop} (hc:c=true) (h1:Ok a R):Ok (bif c then a else none) R:=by simp_all
theorem Ok.ret {α:Type} {a:α} {R:α->Prop} (h:R a):Ok (some a) R:=⟨a,rfl,h⟩
theorem Ok.eq {α:Type} {x:Option α} {a:α} (h:x=some a):Ok x (fun b=>b=a):=⟨a,h,rfl⟩
def Hg (c:DZ):Prop:=0<=c.fI
theorem DAq (n:Int):0<=AV ((BitVec.toNat (BitVec.ofInt (IntKind.bits IntKind.i64) n &&& BitVec.ofInt (IntKind.bits IntKind.i64) 255):Nat):Int)/\AV ((BitVec.toNat (BitVec.ofInt (IntKind.bits IntKind.i64) n &&& BitVec.ofInt (IntKind.bits IntKind.i64) 255):Nat):Int)<=255:=by grind [BitVec.ofInt,IntKind.bits,Nat.and_le_right,A8]
theorem JBh:Ok (PAi ()) Hg:=by
 have hl:KI.length<=140737488351232:=PC.hl;have key:∀ (j i m:Nat) (h:Int),i+j=KI.length->Ok (oV (m+j+1) (.c0 h (i:Int))) Hg:=by
  intro j;induction j with
  | zero=>
   intro i m h hi;rw [oV];simp only [OAi,mk];rw [AsB (by simp_all)];exact Ok.ret (Int.le_refl 0)
  | succ j ih=>
   intro i m h hi;have hw:AV ((i:Int)+1)=((i+1:Nat):Int):=by grind [A8]
   rw [AwB m j,oV];simp only [OAi,mk,hw];refine Ok.cond (fun _=>Ok.cond (fun _=>?_) fun _=>Ok.ret (Int.le_refl 0)) fun _=>Ok.ret (Int.le_refl 0)
   refine Ok.chk (by simp_all) (Ok.chk (by simp_all) (ih (i+1) m _ (by omega)))
 obtain ⟨m,hm⟩:=gm (n:=KI.length) (by omega)
 rw [PAi,CAv,mk,hm];exact key KI.length 0 m _ (Nat.zero_add _)
theorem oW {c:DZ} (hc:Hg c):Ok (oZ c) fun r=>0<=r.1/\r.1<=255/\Hg r.2:=by
 have hl:KI.length<=140737488351232:=PC.hl;have hc:0<=c.fI:=hc;rw [oZ,DAv,mk];refine Ok.cond (fun h=>?_) fun h=>Ok.ret ⟨(DAq _).1,(DAq _).2,hc⟩
 rw [decide_eq_true_eq] at h;refine Ok.chk (by simp_all) (Ok.chk (Nat.ble_eq_true_of_le (by omega)) (Ok.ret ⟨(DAq _).1,(DAq _).2,?_⟩));show 0<=AV (c.fI+1);grind [A8]
theorem tmod_lt {a n:Int} (ha:0<=a) (hn:0<n):0<=a.tmod n/\a.tmod n<n:=⟨Int.tmod_nonneg _ ha,Int.tmod_lt_of_pos _ hn⟩
theorem OM {c:DZ} {n:Int} (hc:Hg c):Ok (AsP c n) fun r=>(0<=r.1/\(0<n->r.1<n)/\(n<=0->r.1=0))/\Hg r.2:=by
 rw [AsP,EAv,mk];refine Ok.cond (fun h=>?_) fun h=>?_
 ·rw [decide_eq_true_eq] at h;exact Ok.ret ⟨⟨Int.le_refl 0,fun h2=>h2,fun _=>rfl⟩,hc⟩
 ·rw [decide_eq_false_iff_not] at h;have hn:(!(n == 0))=true:=by grind
  refine Ok.cond (fun _=>?_) fun _=>?_
  ·refine Ok.bind (oW hc) fun a ha=>Ok.chk hn (Ok.ret ?_)
   have:=tmod_lt ha.1 (show 0<n by omega);exact ⟨⟨this.1,fun _=>this.2,fun h2=>by omega⟩,ha.2.2⟩
  ·refine Ok.bind (oW hc) fun a ha=>Ok.bind (oW ha.2.2) fun b hb=>Ok.bind (oW hb.2.2) fun d hd=>Ok.bind (oW hd.2.2) fun e he=>Ok.chk hn (Ok.ret ?_)
   obtain ⟨a1,a2,_⟩:=ha
   obtain ⟨b1,b2,_⟩:=hb
   obtain ⟨d1,d2,_⟩:=hd
   obtain ⟨e1,e2,e3⟩:=he
   have hw:AV (AV (AV (AV (a.1*16777216)+AV (b.1*65536))+AV (d.1*256))+e.1)=a.1*16777216+b.1*65536+d.1*256+e.1:=by grind [A8]
   have:=tmod_lt (show 0<=a.1*16777216+b.1*65536+d.1*256+e.1 by omega) (show 0<n by omega);simp only [hw];exact ⟨⟨this.1,fun _=>this.2,fun h2=>by omega⟩,e3⟩
theorem CBJ {n:Nat} {x:Int} (h:n<=1000000000):dH (n:Int) x=some (ofBytes (List.replicate n x)):=by
 have key:∀ (j i m:Nat),i+j=n->og (m+j+1) (.c0 (n:Int) x (i:Int) (List.replicate i x++List.replicate (n - i) 0))=some (ofBytes (List.replicate n x)):=by
  intro j;induction j with
  | zero=>
   intro i m hi;obtain rfl:i=n:=by omega
   simp [og,QAi,mk]
  | succ j ih=>
   intro i m hi;have e:AV ((i:Int)+1)=((i+1:Nat):Int):=by grind [A8]
   rw [show m+(j+1)+1=(m+j+1)+1 by omega,og];simp only [QAi,mk,e,BR];rw [AL (by grind),AL (by simp;omega),show n - i=(n - (i+1))+1 by omega,List.replicate_succ,dG (by simp)];have h2:=ih (i+1) m (by omega);simp_all [List.replicate_succ']
 obtain ⟨m,hm⟩:=gm (n:=n) (by omega)
 have h0:=key n 0 m (by omega);rw [List.replicate_zero,List.nil_append,Nat.sub_zero] at h0;rw [dH,FAv,mk,AL (by simp;omega),hm];exact h0
theorem KBh {n x:Int} (h0:0<=n) (h1:n<=1000000000):Ok (dH n x) fun r=>(r.size:Int)=n:=by have h:=CBJ (n:=n.toNat) (x:=x) (by omega);rw [show ((n.toNat:Nat):Int)=n by omega] at h;exact ⟨_,h,by grind [Dj]⟩
theorem zH {n:Int}:w32 n=n % 4294967296:=by rfl
theorem Aq4 {n:Int} (h1:0<=n) (h2:n<4294967296):w32 n=n:=by grind [zH]
def R32 (n:Int):Prop:=0<=n/\n<4294967296
theorem Oc (n:Int):R32 (w32 n):=by grind [R32,zH]
def xr (x y:Int):Int:=w32 (((BitVec.toNat ((BitVec.ofInt (IntKind.bits IntKind.u32) x) ^^^ (BitVec.ofInt (IntKind.bits IntKind.u32) y))):Nat):Int)
def an (x y:Int):Int:=w32 (((BitVec.toNat ((BitVec.ofInt (IntKind.bits IntKind.u32) x) &&& (BitVec.ofInt (IntKind.bits IntKind.u32) y))):Nat):Int)
def zI (x y:Int):Int:=w32 (((BitVec.toNat ((BitVec.ofInt (IntKind.bits IntKind.u32) x) ||| (BitVec.ofInt (IntKind.bits IntKind.u32) y))):Nat):Int)
theorem SH (x y:Int):w32 (((BitVec.toNat ((BitVec.ofInt (IntKind.bits IntKind.u32) x) ^^^ (BitVec.ofInt (IntKind.bits IntKind.u32) y))):Nat):Int)=xr x y:=rfl
theorem JA9 (x y:Int):w32 (((BitVec.toNat ((BitVec.ofInt (IntKind.bits IntKind.u32) x) &&& (BitVec.ofInt (IntKind.bits IntKind.u32) y))):Nat):Int)=an x y:=rfl
theorem DBJ (x y:Int):w32 (((BitVec.toNat ((BitVec.ofInt (IntKind.bits IntKind.u32) x) ||| (BitVec.ofInt (IntKind.bits IntKind.u32) y))):Nat):Int)=zI x y:=rfl
theorem mJ (x y:Int):R32 (xr x y):=Oc _
theorem EBJ {a b:Nat} {s:Nat} (hb:b<2 ^ s) (ha:a*2 ^ s<4294967296) (hs:b<4294967296):zI ((a*2 ^ s:Nat):Int) (b:Int)=((a*2 ^ s+b:Nat):Int):=by
 have e:a*2 ^ s ||| b=a*2 ^ s+b:=by have:=Nat.shiftLeft_add_eq_or_of_lt hb a;simp_all [Nat.shiftLeft_eq]
 unfold zI;have h3:a*2 ^ s ||| b<2 ^ 32:=Nat.or_lt_two_pow (by omega) (by omega)
 rw [BitVec.toNat_or];show w32 (((BitVec.ofInt 32 _).toNat ||| (BitVec.ofInt 32 _).toNat:Nat):Int)=_;rw [BitVec.ofInt_natCast,BitVec.ofInt_natCast,BitVec.toNat_ofNat,BitVec.toNat_ofNat,Nat.mod_eq_of_lt (by omega),Nat.mod_eq_of_lt (by omega),e];grind [Aq4]
theorem LBh {e:Int} (h:R32 e):xr (ite ((IntKind.signed IntKind.u32)=true) (-(1:Int)) (IntKind.max IntKind.u32)) e=w32 (4294967295 - e):=by
 obtain ⟨h1,h2⟩:=h
 obtain ⟨n,rfl⟩:∃ n:Nat,e=(n:Int):=⟨e.toNat,by omega⟩
 have hn:n<4294967296:=by omega
 have e1:(ite ((IntKind.signed IntKind.u32)=true) (-(1:Int)) (IntKind.max IntKind.u32))=4294967295:=by decide
 rw [e1];unfold xr;show w32 (((BitVec.ofInt 32 4294967295 ^^^ BitVec.ofInt 32 (n:Int)).toNat:Nat):Int)=_;have e2:BitVec.ofInt 32 4294967295=BitVec.allOnes 32:=by decide
 rw [e2,BitVec.ofInt_natCast,BitVec.allOnes_xor,BitVec.toNat_not,BitVec.toNat_ofNat];grind
def rt (low high x:Int):Int:=x / low+x % low*high
theorem MBh {low high x:Int} (h:R32 x) (hl:0<low) (hh:0<high) (hlh:low*high=4294967296):R32 (rt low high x):=by
 unfold R32 rt at *
 have h1:0<=x / low:=Int.ediv_nonneg h.1 (by omega);have h2:0<=x % low:=Int.emod_nonneg _ (by omega);have h3:x % low<low:=Int.emod_lt_of_pos _ hl;have h4:x / low<high:=Int.ediv_lt_of_lt_mul hl (by simp_all [Int.mul_comm]);have h5:0<=x % low*high:=Int.mul_nonneg h2 (by omega);have h6:x % low*high<=(low - 1)*high:=Int.mul_le_mul_of_nonneg_right (by omega) (by omega);grind
theorem NBh {x:Int} (h:R32 x) (n:Nat) (hn:0<n) (hn2:n<32):zI (w32 (x*2 ^ (32 - n))) (x / 2 ^ n)=rt (2 ^ n) (2 ^ (32 - n)) x:=by
 obtain ⟨h1,h2⟩:=h
 obtain ⟨y,rfl⟩:∃ y:Nat,x=(y:Int):=⟨x.toNat,by omega⟩
 have hy:y<4294967296:=by omega
 have e0:(4294967296:Nat)=2 ^ n*2 ^ (32 - n):=by rw [<-Nat.pow_add,show n+(32 - n)=32 by omega]
 have e1:w32 ((y:Int)*2 ^ (32 - n))=((y % 2 ^ n*2 ^ (32 - n):Nat):Int):=by
  rw [zH];have h5:((y:Int)*2 ^ (32 - n))=((y*2 ^ (32 - n):Nat):Int):=by rfl
  have h6:y*2 ^ (32 - n) % 4294967296=y % 2 ^ n*2 ^ (32 - n):=by rw [e0,Nat.mul_mod_mul_right]
  omega
 have e2:((y:Int) / 2 ^ n)=((y / 2 ^ n:Nat):Int):=by rfl
 have hp:0<2 ^ n:=Nat.two_pow_pos n;have hp2:0<2 ^ (32 - n):=Nat.two_pow_pos _;have hm:y % 2 ^ n<2 ^ n:=Nat.mod_lt _ hp;have hd:y / 2 ^ n<2 ^ (32 - n):=Nat.div_lt_of_lt_mul (by omega);rw [e1,e2,EBJ hd (by simp_all) (Nat.lt_of_le_of_lt (Nat.div_le_self _ _) hy)];grind [rt]
def sg0 (x:Int):Int:=xr (xr (rt 128 33554432 x) (rt 262144 16384 x)) (x / 8)
def sg1 (x:Int):Int:=xr (xr (rt 131072 32768 x) (rt 524288 8192 x)) (x / 1024)
def ep1 (x:Int):Int:=xr (xr (rt 64 67108864 x) (rt 2048 2097152 x)) (rt 33554432 128 x)
def ep0 (x:Int):Int:=xr (xr (rt 4 1073741824 x) (rt 8192 524288 x)) (rt 4194304 1024 x)
def OBh (w:List Int) (t:Nat):Int:=w32 (w32 (w32 (sg1 (w.getD (t - 2) 0)+w.getD (t - 7) 0)+sg0 (w.getD (t - 15) 0))+w.getD (t - 16) 0)
def sched (w:List Int):Nat->List Int
 | 0=>w
 | n+1=>sched w n++[OBh (sched w n) (16+n)]
theorem zJ {w:List Int} (h:w.length=16) (n:Nat):(sched w n).length=16+n:=by induction n<;>grind [sched]
theorem EAq {w:List Int} (h:∀ x ∈ w,R32 x) (n:Nat):∀ x ∈ sched w n,R32 x:=by
 induction n with
 | zero=>exact h
 | succ n ih=>
  intro x hx;rw [sched,List.mem_append,List.mem_singleton] at hx;rcases hx with hx | rfl
  ·simp_all
  ·exact Oc _
theorem zK {l:List Int} (h:∀ x ∈ l,R32 x) (i:Nat):R32 (l.getD i 0):=by grind [R32]
structure Reg where
 a:Int
 b:Int
 c:Int
 d:Int
 e:Int
 f:Int
 g:Int
 h:Int
def Reg.ok (r:Reg):Prop:=R32 r.a/\R32 r.b/\R32 r.c/\R32 r.d/\R32 r.e/\R32 r.f/\R32 r.g/\R32 r.h
def Reg.l (r:Reg):List Int:=[r.a,r.b,r.c,r.d,r.e,r.f,r.g,r.h]
theorem Reg.zL (r:Reg):r.l.length=8:=rfl
def t1 (r:Reg) (k w:Int):Int:=w32 (w32 (w32 (w32 (r.h+ep1 r.e)+xr (an r.e r.f) (an (w32 (4294967295 - r.e)) r.g))+k)+w)
def t2 (r:Reg):Int:=w32 (ep0 r.a+xr (xr (an r.a r.b) (an r.a r.c)) (an r.b r.c))
def U4 (r:Reg) (k w:Int):Reg:=⟨w32 (t1 r k w+t2 r),r.a,r.b,r.c,w32 (r.d+t1 r k w),r.e,r.f,r.g⟩
theorem PBh {r:Reg} (h:r.ok) (k w:Int):(U4 r k w).ok:=⟨Oc _,h.1,h.2.1,h.2.2.1,Oc _,h.2.2.2.2.1,h.2.2.2.2.2.1,h.2.2.2.2.2.2.1⟩
def AwA (K W:List Int) (r:Reg):Nat->Reg
 | 0=>r
 | n+1=>U4 (AwA K W r n) (K.getD n 0) (W.getD n 0)
theorem IBJ (K W:List Int) {r:Reg} (h:r.ok) (n:Nat):(AwA K W r n).ok:=by
 induction n with
 | zero=>exact h
 | succ n ih=>exact PBh ih _ _
def zM (s r:Reg):Reg:=⟨w32 (s.a+r.a),w32 (s.b+r.b),w32 (s.c+r.c),w32 (s.d+r.d),w32 (s.e+r.e),w32 (s.f+r.f),w32 (s.g+r.g),w32 (s.h+r.h)⟩
theorem QBh (s r:Reg):(zM s r).ok:=⟨Oc _,Oc _,Oc _,Oc _,Oc _,Oc _,Oc _,Oc _⟩
def keysL:List Int:=[1116352408,1899447441,3049323471,3921009573,961987163,1508970993,2453635748,2870763221,3624381080,310598401,607225278,1426881987,1925078388,2162078206,2614888103,3248222580,3835390401,4022224774,264347078,604807628,770255983,1249150122,1555081692,1996064986,2554220882,2821834349,2952996808,3210313671,3336571891,3584528711,113926993,338241895,666307205,773529912,1294757372,1396182291,1695183700,1986661051,2177026350,2456956037,2730485921,2820302411,3259730800,3345764771,3516065817,3600352804,4094571909,275423344,430227734,506948616,659060556,883997877,958139571,1322822218,1537002063,1747873779,1955562222,2024104815,2227730452,2361852424,2428436474,2756734187,3204031479,3329325298]
def be4 (a b c d:Int):Int:=a*16777216+b*65536+c*256+d
def wordAt (l:List Int) (i:Nat):Int:=be4 (l.getD (4*i) 0) (l.getD (4*i+1) 0) (l.getD (4*i+2) 0) (l.getD (4*i+3) 0)
def Avy (l:List Int) (n:Nat):List Int:=(List.range n).map (wordAt l)
theorem dI (l:List Int) (n:Nat):(Avy l n).length=n:=by simp [Avy]
theorem JBJ (l:List Int) (n:Nat):Avy l (n+1)=Avy l n++[wordAt l n]:=by simp [Avy,List.range_succ]
theorem RBh {a b c d:Int} (ha:0<=a/\a<=255) (hb:0<=b/\b<=255) (hc:0<=c/\c<=255) (hd:0<=d/\d<=255):R32 (be4 a b c d):=by grind [R32,be4]
theorem SBh {l:List Int} (h:Aqy l) (i:Nat):R32 (wordAt l i):=RBh (ArR h _) (ArR h _) (ArR h _) (ArR h _)
theorem KA9 {l:List Int} (h:Aqy l) (n:Nat):∀ x ∈ Avy l n,R32 x:=by grind [Avy,SBh]
def comp (s:Reg) (b:List Int):Reg:=zM s (AwA keysL (sched (Avy b 16) 48) s 64)
theorem KBJ (s:Reg) (b:List Int):(comp s b).ok:=QBh _ _
def comps:Nat->Reg->List Int->Reg
 | 0,s,_=>s
 | n+1,s,b=>comps n (comp s (b.take 64)) (b.drop 64)
theorem dJ {s:Reg} (h:s.ok):∀ (n:Nat) (b:List Int),(comps n s b).ok:=by
 intro n;induction n generalizing s with
 | zero=>intro b;exact h
 | succ n ih=>intro b;exact ih (KBJ _ _) _
theorem LBJ (n m:Nat):∀ (s:Reg) (b:List Int),comps (n+m) s b=comps m (comps n s b) (b.drop (64*n)):=by induction n<;>grind [comps,List.drop_drop]
theorem TBh (n:Nat):∀ (s:Reg) (b c:List Int),64*n<=b.length->comps n s (b++c)=comps n s b:=by induction n<;>grind [comps]
def four (x:Int):List Int:=[x / 16777216,x / 65536 % 256,x / 256 % 256,x % 256]
theorem V6 {x:Int} (h:R32 x):Aqy (four x):=by intro n hn;grind [R32,four]
def Hf (ws:List Int):List Int:=ws.flatMap four
theorem MBJ (ws:List Int):(Hf ws).length=4*ws.length:=by induction ws<;>grind [Hf,four]
theorem LA9 {ws:List Int} (h:∀ x ∈ ws,R32 x):Aqy (Hf ws):=by
 intro n hn;simp only [Hf,List.mem_flatMap] at hn;obtain ⟨x,hx,hn⟩:=hn
 exact V6 (h x hx) n hn
theorem UBh (a b:List Int):Hf (a++b)=Hf a++Hf b:=by simp [Hf]
theorem VBh {x:Int} (h:R32 x):be4 (x / 16777216) (x / 65536 % 256) (x / 256 % 256) (x % 256)=x:=by grind [be4]
theorem NBJ:∀ {ws:List Int} (_:∀ x ∈ ws,R32 x) {i:Nat} (hi:i<ws.length),wordAt (Hf ws) i=ws[i]
 | w::ws,h,0,_=>by simp_all [VBh,wordAt,Hf,four]
 | w::ws,h,i+1,hi=>by
  have ih:=NBJ (ws:=ws) (fun x hx=>h x (List.mem_cons_of_mem _ hx)) (i:=i) (by simpa using hi);rw [List.getElem_cons_succ,<-ih];have e:∀ j,(Hf (w::ws)).getD (j+4) 0=(Hf ws).getD j 0:=fun j=>by simp [Hf,four,List.getD]
  unfold wordAt;rw [show 4*(i+1)=4*i+4 by omega,show 4*i+4+1=(4*i+1)+4 by omega,show 4*i+4+2=(4*i+2)+4 by omega,show 4*i+4+3=(4*i+3)+4 by omega,e,e,e,e]
theorem WBh {ws:List Int} (h:∀ x ∈ ws,R32 x):Avy (Hf ws) ws.length=ws:=by grind [List.ext_getElem,dI,Avy,NBJ]
theorem Reg.oh {r:Reg} (h:r.ok):∀ x ∈ r.l,R32 x:=by
 intro x hx;simp only [Reg.l,List.mem_cons,List.not_mem_nil,or_false] at hx;obtain ⟨h1,h2,h3,h4,h5,h6,h7,h8⟩:=h
 grind
def Ars:Reg:=⟨1779033703,3144134277,1013904242,2773480762,1359893119,2600822924,528734635,1541459225⟩
theorem dK:Ars.ok:=by simp [Reg.ok,R32,Ars]
def Awp (n:Int):List Int:=[0,0,0,n / 4294967296 % 256,n / 16777216 % 256,n / 65536 % 256,n / 256 % 256,n % 256]
def Uh (n:Nat):List Int:=128::(List.replicate ((119 - n % 64) % 64) 0++Awp (8*(n:Int)))
theorem FAq (n:Nat):(Uh n).length=9+(119 - n % 64) % 64:=by simp [Uh,Awp];omega
theorem XBh (n:Nat):(n+(Uh n).length) % 64=0:=by grind [FAq]
theorem MA9 (n:Nat):Aqy (Uh n):=by intro x hx;simp only [Uh,Awp,List.mem_cons,List.mem_append,List.mem_replicate,List.not_mem_nil,or_false] at hx;omega
def Av3 (b:List Int):List Int:=Hf (comps ((b.length+(Uh b.length).length) / 64) Ars (b++Uh b.length)).l
def EM (s:AA):AA:=ofBytes (Av3 (bs s))
theorem OBJ (b:List Int):(Av3 b).length=32:=by rfl
theorem PBJ (b:List Int):Aqy (Av3 b):=LA9 (Reg.oh (dJ dK _ _))
theorem Aro (s:AA):(EM s).size=32:=by rfl
theorem GAq (s:AA):bs (EM s)=Av3 (bs s):=AsM (PBJ _)
theorem YBh {x:Int} (h:R32 x):[w8 (w32 (x.tdiv 16777216)),w8 ((w32 (x.tdiv 65536)).tmod 256),w8 ((w32 (x.tdiv 256)).tmod 256),w8 (x.tmod 256)]=four x:=by
 obtain ⟨h1,h2⟩:=h
 grind [Aq4,four,bJ,List.cons.injEq]
theorem QBJ {ws:List Int} (h:∀ x ∈ ws,R32 x) (hl:ws.length<=1000000000000):dL ws=some (ofBytes (Hf ws)):=by
 have key:=PV (A:=Unit) (n:=ws.length) (Lp:=oq) (st:=fun i _=>.c0 ws (i:Int) (Hf (ws.take i))) (Inv:=fun _ _=>True) (out:=fun _ _=>some (ofBytes (Hf ws)))
  (fun m _ _=>by
   simp [oq,RAi,mk])
  (fun m i _ hi _=>.inr ⟨(),by
   have e:AV ((i:Int)+1)=((i+1:Nat):Int):=by grind [A8]
   simp only [oq,RAi,mk,e,BR];rw [AL (by simp_all),AL (by simp_all),AL (by grind [MBJ])];grind [YBh,take_at,Hf],trivial,rfl⟩)
 exact key AY 0 () (DJ _) (FM (by omega)) trivial
def Ye:IW:=⟨ofBytes (Hf Ars.l),⟨#[]⟩,0⟩
theorem ZBh:HAv=some Ye:=by rfl
def Bl (x a b:Int):Bool:=decide (a<=x) && decide (x<=b)
theorem Na {x a b:Int}:Bl x a b=true↔a<=x/\x<=b:=by simp [Bl]
theorem Ho (x a b:Int):Je x a b=some (Bl x a b):=by show (bif decide (a<=x) then some (decide (x<=b)) else some false)=some (Bl x a b);grind [Bl]
theorem RBJ {h:IW} (h1:h.F7.size=32) (h2:h.Np.size<64) (h3:0<=h.fCount/\h.fCount<=1000000000) (h4:h.fCount % 64=(h.Np.size:Int)):WQ h=some true:=by
 have e:Bl h.fCount 0 1000000000=true:=by grind [Na]
 simp only [WQ,IAv,mk,Ho,AP,e];grind
theorem AiO {s:AA} {i:Nat} (h:4*i+4<=s.size) (hs:s.size<=9000000000000000000):zN s ((4*i:Nat):Int)=some (wordAt (bs s) i):=by
 have hb:=Jj s;have e1:AV (((4*i:Nat):Int)+1)=((4*i+1:Nat):Int):=by grind [A8]
 have e2:AV (((4*i:Nat):Int)+2)=((4*i+2:Nat):Int):=by grind [A8]
 have e3:AV (((4*i:Nat):Int)+3)=((4*i+3:Nat):Int):=by grind [A8]
 simp only [zN,JAv,mk,e1,e2,e3];rw [AL (by grind),AL (by grind),AL (by grind),AL (by grind)];rw [Uo (by omega),Uo (by omega),Uo (by omega),Uo (by omega)];have b0:=ArR hb (4*i);have b1:=ArR hb (4*i+1);have b2:=ArR hb (4*i+2);have b3:=ArR hb (4*i+3);unfold wordAt be4;grind [zH]
theorem SBJ {s:AA} (hs:s.size<=1000000000000):WR s=some (Avy (bs s) (s.size / 4)):=by
 have key:=PV (A:=Unit) (n:=s.size / 4) (Lp:=ou) (st:=fun i _=>.c0 s ((4*i:Nat):Int) (Avy (bs s) i)) (Inv:=fun _ _=>True) (out:=fun _ _=>some (Avy (bs s) (s.size / 4)))
  (fun m _ _=>by
   simp only [ou,SAi,mk];rw [A8 (by omega) (by omega),AsB (by simp;omega)])
  (fun m i _ hi _=>.inr ⟨(),by
   have e:AV (((4*i:Nat):Int)+4)=((4*(i+1):Nat):Int):=by rw [A8 (by omega) (by omega)];omega
   simp only [ou,SAi,mk,e,AiO (s:=s) (i:=i) (by omega) (by omega),AP,dI,JBJ];rw [AL (by simp;omega),AL (by simp;omega)],trivial,rfl⟩)
 exact key AY 0 () (DJ _) (FM (by omega)) trivial
theorem U0 {x low high:Int} (h:R32 x) (hl:0<low) (hh:0<high) (hlh:low*high=4294967296):TAi x low high=some (rt low high x):=by
 have hr:=MBh h hl hh hlh;obtain ⟨h1,h2⟩:=h
 have e0:(!(low == 0))=true:=by grind
 have d1:0<=x / low:=Int.ediv_nonneg h1 (by omega);have d2:0<=x % low*high:=Int.mul_nonneg (Int.emod_nonneg _ (by omega)) (by omega);unfold R32 rt at hr;simp only [TAi,LAv,mk,e0,Ar,Int.tdiv_eq_ediv_of_nonneg h1,Int.tmod_eq_emod_of_nonneg h1];rw [Aq4 d1 (by omega),Aq4 d2 (by omega),Aq4 (by omega) (by omega)];rfl
theorem BBi {x:Int} (h:R32 x):Avr x 131072 524288 1024 true=some (sg1 x):=by
 have e1:w32 (w32 ((2147483648:Int).tdiv 131072)*2)=32768:=by decide
 have e2:w32 (w32 ((2147483648:Int).tdiv 524288)*2)=8192:=by decide
 have e3:w32 (x.tdiv 1024)=x / 1024:=by
  obtain ⟨h1,h2⟩:=h
  grind [Aq4]
 simp only [Avr,oz,mk,e1,e2,e3,U0 h (low:=131072) (high:=32768) (by omega) (by omega) (by omega),U0 h (low:=524288) (high:=8192) (by omega) (by omega) (by omega),AP,SH];rfl
theorem CBi {x:Int} (h:R32 x):Avr x 128 262144 8 true=some (sg0 x):=by
 have e1:w32 (w32 ((2147483648:Int).tdiv 128)*2)=33554432:=by decide
 have e2:w32 (w32 ((2147483648:Int).tdiv 262144)*2)=16384:=by decide
 have e3:w32 (x.tdiv 8)=x / 8:=by
  obtain ⟨h1,h2⟩:=h
  grind [Aq4]
 simp only [Avr,oz,mk,e1,e2,e3,U0 h (low:=128) (high:=33554432) (by omega) (by omega) (by omega),U0 h (low:=262144) (high:=16384) (by omega) (by omega) (by omega),AP,SH];rfl
theorem EBi {x:Int} (h:R32 x):Avr x 64 2048 33554432 false=some (ep1 x):=by
 have e1:w32 (w32 ((2147483648:Int).tdiv 64)*2)=67108864:=by decide
 have e2:w32 (w32 ((2147483648:Int).tdiv 2048)*2)=2097152:=by decide
 have e3:w32 (w32 ((2147483648:Int).tdiv 33554432)*2)=128:=by decide
 simp only [Avr,oz,mk,e1,e2,e3,U0 h (low:=64) (high:=67108864) (by omega) (by omega) (by omega),U0 h (low:=2048) (high:=2097152) (by omega) (by omega) (by omega),U0 h (low:=33554432) (high:=128) (by omega) (by omega) (by omega),AP,SH];rfl
theorem FBi {x:Int} (h:R32 x):Avr x 4 8192 4194304 false=some (ep0 x):=by
 have e1:w32 (w32 ((2147483648:Int).tdiv 4)*2)=1073741824:=by decide
 have e2:w32 (w32 ((2147483648:Int).tdiv 8192)*2)=524288:=by decide
 have e3:w32 (w32 ((2147483648:Int).tdiv 4194304)*2)=1024:=by decide
 simp only [Avr,oz,mk,e1,e2,e3,U0 h (low:=4) (high:=1073741824) (by omega) (by omega) (by omega),U0 h (low:=8192) (high:=524288) (by omega) (by omega) (by omega),U0 h (low:=4194304) (high:=1024) (by omega) (by omega) (by omega),AP,SH];rfl
theorem HBi (s r:Reg):∀ i,i<8->(zM s r).l.getD i 0=w32 (s.l.getD i 0+r.l.getD i 0)
 | 0,_=>rfl | 1,_=>rfl | 2,_=>rfl | 3,_=>rfl | 4,_=>rfl | 5,_=>rfl | 6,_=>rfl | 7,_=>rfl
 | n+8,h=>by omega
def shL:Nat->List Int->List Int
 | 0,v=>v
 | i+1,v=>shL i (v.set (i+1) (v.getD i 0))
theorem IBi (t o W:List Int) (k T1 T2:Int) (hk:0<=k/\k<64):∀ (i m:Nat) (v:List Int),i<8->v.length=8->Pm (m+i+1) (.c2 t o k T1 T2 (i:Int) W v)=Pm m (.c1 t o (k+1) W (((shL i v).set 4 (w32 ((shL i v).getD 4 0+T1))).set 0 (w32 (T1+T2)))):=by
 intro i;induction i with
 | zero=>
  intro m v _ hl;have e:AV (k+1)=k+1:=A8 (by omega) (by omega);simp only [Pm,dM,mk,e];rw [AsB (by simp),AL (by simp [hl]),AL (by simp [hl]),AL (by simp [hl])];rfl
 | succ i ih=>
  intro m v hi hl;have e:AV (((i+1:Nat):Int) - 1)=(i:Int):=by grind [A8]
  rw [show m+(i+1)+1=(m+i+1)+1 by omega];rw [Pm];simp only [dM,mk,e,BR];rw [AL (by simp),AL (by grind),AL (by grind),ih m _ (by omega) (by simp [hl])];rfl
theorem JBi (t W:List Int) (r:Reg) (hr:r.ok) (hW:∀ x ∈ W,R32 x) (A1:W.length=64) (i m:Nat) (hi:i<64) :
  Pm (m+9) (.c1 t keysL (i:Int) W r.l)=Pm m (.c1 t keysL ((i:Int)+1) W (U4 r (keysL.getD i 0) (W.getD i 0)).l):=by
 obtain ⟨h1,h2,h3,h4,h5,h6,h7,h8⟩:=hr
 have hk:keysL.length=64:=rfl;have g (q:Reg):q.l.getD 0 0=q.a/\q.l.getD 1 0=q.b/\q.l.getD 2 0=q.c/\q.l.getD 4 0=q.e/\q.l.getD 5 0=q.f/\q.l.getD 6 0=q.g/\q.l.getD 7 0=q.h:=⟨rfl,rfl,rfl,rfl,rfl,rfl,rfl⟩
 obtain ⟨g0,g1,g2,g4,g5,g6,g7⟩:=g r
 have hl:r.l.length=8:=rfl;have z4:(4:Int).toNat=4:=rfl;have z5:(5:Int).toNat=5:=rfl;have z6:(6:Int).toNat=6:=rfl;have z7:(7:Int).toNat=7:=rfl;have z0:(0:Int).toNat=0:=rfl;have z1:(1:Int).toNat=1:=rfl;have z2:(2:Int).toNat=2:=rfl;rw [show m+9=(m+7+1)+1 by omega,Pm];simp only [dM,mk,z0,z1,z2,z4,z5,z6,z7,g0,g1,g2,g4,g5,g6,g7,hl,hk,A1,EBi h5,FBi h1,AP,SH,JA9,BR];rw [AL (by grind),AL (by simp),AL (by simp),AL (by simp),AL (by simp),AL (by grind),AL (by grind),AL (by simp),AL (by simp),AL (by simp),AL (by simp),AL (by simp),AL (by simp),AL (by simp)];exact IBi t keysL W (i:Int) (t1 r (keysL.getD i 0) (W.getD i 0)) (t2 r) (by omega) 7 m r.l (by omega) rfl
theorem KBi (s:Reg) (hs:s.ok) (W:List Int) (hW:∀ x ∈ W,R32 x) (A1:W.length=64):∀ (j i m:Nat),i+j=64->Pm (m+9*j+10) (.c1 s.l keysL (i:Int) W (AwA keysL W s i).l)=some (zM s (AwA keysL W s 64)).l:=by
 intro j;induction j with
 | zero=>
  intro i m h;obtain rfl:i=64:=by omega
  rfl
 | succ j ih=>
  intro i m h;rw [show m+9*(j+1)+10=(m+9*j+10)+9 by omega,JBi s.l W _ (IBJ keysL W hs i) hW A1 i _ (by omega)];exact ih (i+1) m (by omega)
theorem LBi (s:Reg) (hs:s.ok) (w:List Int) (hw:∀ x ∈ w,R32 x) (hwl:w.length=16):∀ (j i m:Nat),i+j=48->Pm (m+9*64+10+1+j) (.c0 s.l keysL ((16+i:Nat):Int) (sched w i))=some (zM s (AwA keysL (sched w 48) s 64)).l:=by
 intro j;induction j with
 | zero=>
  intro i m h;obtain rfl:i=48:=by omega
  rw [show m+9*64+10+1+0=(m+9*64+10)+1 by omega,Pm];simp only [dM,mk];rw [AsB (by simp),AL (by rfl)];exact KBi s hs _ (EAq hw 48) (zJ hwl 48) 64 0 m (by omega)
 | succ j ih=>
  intro i m h;have hl:=zJ hwl i;have hr:=EAq hw i;have e2:AV (((16+i:Nat):Int) - 2)=((16+i - 2:Nat):Int):=by grind [A8]
  have e7:AV (((16+i:Nat):Int) - 7)=((16+i - 7:Nat):Int):=by grind [A8]
  have e15:AV (((16+i:Nat):Int) - 15)=((16+i - 15:Nat):Int):=by grind [A8]
  have e16:AV (((16+i:Nat):Int) - 16)=((16+i - 16:Nat):Int):=by grind [A8]
  have e1:AV (((16+i:Nat):Int)+1)=((16+(i+1):Nat):Int):=by grind [A8]
  rw [show m+9*64+10+1+(j+1)=(m+9*64+10+1+j)+1 by omega,Pm];simp only [dM,mk,e1,e2,e7,e15,e16,BR,hl,BBi (zK hr _),CBi (zK hr _),AP];rw [AL (by grind),AL (by grind),AL (by grind),AL (by grind),AL (by grind),AL (by grind)];exact ih (i+1) m (by omega)
theorem TBJ {s:Reg} (hs:s.ok) {b:AA} (hb:b.size=64):dN s.l keysL b=some (comp s (bs b)).l:=by
 have hr:=KA9 (Jj b) 16;obtain ⟨m,hm⟩:∃ m,AY=m+9*64+10+1+48:=⟨AY - 635,by rfl⟩
 have h:=LBi s hs _ hr (dI _ 16) 48 0 m (by omega);have e0:((16+0:Nat):Int)=16:=rfl;rw [e0,show sched (Avy (bs b) 16) 0=Avy (bs b) 16 from rfl] at h;rw [dN,MAv,SBJ (s:=b) (by omega),AP,hb,hm];exact h
theorem UBJ:o7=some keysL:=rfl
theorem MBi (b:List Int) (i:Nat):(b.take (64*i+64)).drop (64*i)=(b.drop (64*i)).take 64:=by simp [List.drop_take]
theorem VBJ (i:Nat) (s:Reg) (b:List Int):comps (i+1) s b=comp (comps i s b) ((b.drop (64*i)).take 64):=by rw [LBJ i 1];rfl
theorem WBJ {r:Reg} (h:r.ok):WR (ofBytes (Hf r.l))=some r.l:=by
 have hs:(ofBytes (Hf r.l)).size=32:=by rfl
 rw [SBJ (by omega),hs,AsM (LA9 (Reg.oh h))];exact congrArg some (WBh (Reg.oh h))
theorem NBi {s:AA} (hs:s.size<=1000000000):VAi Ye s=some ⟨ofBytes (Hf (comps (s.size / 64) Ars (bs s)).l),s.extract (64*(s.size / 64)) s.size,(s.size:Int)⟩:=by
 have e0:WQ Ye=some true:=RBJ (by rfl) (by decide) (by decide) (by decide);have e1:((⟨#[]⟩:AA)++s)=s:=Jm (by rfl)
 have key:=PV (A:=Unit) (n:=s.size / 64) (Lp:=o8) (st:=fun i _=>.c0 s s ((64*i:Nat):Int) Ye (⟨(⟨#[]⟩:AA),(⟨#[]⟩:AA),(0:Int)⟩:IW) (comps i Ars (bs s)).l keysL) (Inv:=fun _ _=>True)
  (out:=fun _ _=>some ⟨ofBytes (Hf (comps (s.size / 64) Ars (bs s)).l),s.extract (64*(s.size / 64)) s.size,(s.size:Int)⟩)
  (fun m _ _=>by
   have hw:AV (Ye.fCount+(s.size:Int))=(s.size:Int):=by show AV ((0:Int)+(s.size:Int))=_;grind [A8]
   rw [o8];simp only [UAi,mk,hw,BR];rw [A8 (by omega) (by omega),AsB (by grind),QBJ (Reg.oh (dJ dK _ _)) (by simp [Reg.l]),AP,AL (by simp;omega)])
  (fun m i _ hi _=>.inr ⟨(),by
   have e:AV (((64*i:Nat):Int)+64)=((64*(i+1):Nat):Int):=by grind [A8]
   rw [o8];simp only [UAi,mk,e,BR];rw [AL (by grind),AL (by simp;omega),TBJ (dJ dK _ _) (by simp;omega),AP,Ls,show 64*(i+1)=64*i+64 by omega,MBi,<-VBJ],trivial,rfl⟩)
 rw [VAi,NAv,mk,e0,AP,AsB (by rfl)];have hw:AV (Ye.fCount+(s.size:Int))=(s.size:Int):=by show AV ((0:Int)+(s.size:Int))=_;grind [A8]
 rw [hw,AsB (by grind),show Ye.F7=ofBytes (Hf Ars.l) from rfl,WBJ dK,AP,UBJ,AP,show Ye.Np=⟨#[]⟩ from rfl,e1];rw [AL (by grind)];exact key AY 0 () (DJ _) (FM (by omega)) trivial
def dP (b:Int):Nat->List Int
 | 0=>[]
 | i+1=>(b / 256 ^ i % 256)::dP b i
def U1:Nat->Nat
 | 0=>0
 | i+1=>U1 i+(i+2)
theorem OBi (x:Int) (j:Nat):x / 256 / 256 ^ j=x / 256 ^ (j+1):=by simp [Int.ediv_ediv_of_nonneg,Int.pow_succ,Int.mul_comm]
theorem PBi (h:IW) (b:Int):∀ (j k i m:Nat) (x:Int) (t:List Int),k+j=i->i<=7->0<=x->x<=9223372036854775807->t.length<=1000->
  Lu (m+j+1) (.c2 b (i:Int) x (k:Int) h t)=Lu m (.c1 b ((i:Int) - 1) h (t++[x / 256 ^ j % 256])):=by
 intro j;induction j with
 | zero=>
  grind [A8,Nq,Lu,U2]
 | succ j ih=>
  intro k i m x t hk hi hx hx2 ht;have e:AV ((k:Int)+1)=((k+1:Nat):Int):=by grind [A8]
  have e2:AV (x.tdiv 256)=x / 256:=by grind [A8]
  rw [show m+(j+1)+1=(m+j+1)+1 by omega,Lu];simp only [U2,mk,e,e2];rw [AL (by grind),ih (k+1) i m (x / 256) t (by omega) hi (by omega) (by omega) ht,OBi]
theorem QBi (h:IW) (b:Int) (hb:0<=b) (hb2:b<=9223372036854775807):∀ (i m:Nat) (t:List Int),i<=8->t.length+i<=900->Lu (m+U1 i) (.c1 b ((i:Int) - 1) h t)=Lu m (.c1 b (-1) h (t++dP b i)):=by
 intro i;induction i with
 | zero=>simp [U1,dP]
 | succ i ih=>
  intro m t hi ht;rw [U1,show m+(U1 i+(i+2))=(m+U1 i)+i+1+1 by omega,Lu,show ((i+1:Nat):Int) - 1=(i:Int) by omega];simp only [U2,mk];rw [AL (by simp),show (0:Int)=((0:Nat):Int) from rfl,PBi h b i 0 i _ b t (by omega) (by omega) hb hb2 (by omega),ih m _ (by omega) (by grind)];simp [dP]
theorem RBi {b:Int} (h:0<=b) (h2:b<1099511627776):dP b 8=Awp b:=by simp only [dP,Awp,List.cons.injEq,and_true];omega
theorem SBi (r:Reg) (hr:r.ok) (t:List Int) (ht:Aqy t) (n:Nat) (hn:t.length=64*n) (hn2:n<=100):∀ (j i m:Nat),i+j=n->Lu (m+j+1) (.c3 ((64*i:Nat):Int) t (comps i r t).l keysL)=some (ofBytes (Hf (comps n r t).l)):=by
 intro j;induction j with
 | zero=>
  intro i m h;obtain rfl:i=n:=by omega
  rw [Lu];simp only [U2,mk];rw [AsB (by simp_all),QBJ (Reg.oh (dJ hr _ _)) (by simp [Reg.l]),AP]
 | succ j ih=>
  intro i m h;have e:AV (((64*i:Nat):Int)+64)=((64*(i+1):Nat):Int):=by grind [A8]
  have hl:((t.drop (64*i)).take (64*(i+1) - 64*i)).length=64:=by grind
  have hby:Aqy ((t.drop (64*i)).take (64*(i+1) - 64*i)):=fun x hx=>ht x (List.mem_of_mem_drop (List.mem_of_mem_take hx))
  rw [show m+(j+1)+1=(m+j+1)+1 by omega,Lu];simp only [U2,mk,e,BR];rw [AL (by grind),AL (by simp;omega),TBJ (dJ hr _ _) (by rw [Dj,hl]),AP,AsM hby,show 64*(i+1) - 64*i=64 by omega,<-VBJ];exact ih (i+1) m (by omega)
theorem TBi (h:IW) (r:List Int) (hr:r.length<64):∀ (j i m:Nat),i+j=(119 - r.length) % 64->Lu (m+j+1) (.c0 h (r++128::List.replicate i 0))=Lu m (.c1 (AV (8*h.fCount)) 7 h (r++128::List.replicate ((119 - r.length) % 64) 0)):=by
 intro j;induction j with
 | zero=>
  grind [Lu,U2]
 | succ j ih=>
  intro i m hi;rw [show m+(j+1)+1=(m+j+1)+1 by omega,Lu];simp only [U2,mk];rw [AL (by grind),AL (by grind)];have e:(r++128::List.replicate i (0:Int))++[0]=r++128::List.replicate (i+1) 0:=by simp [List.replicate_succ']
  grind
theorem UBi {r:Reg} (hr:r.ok) {s:AA} {n:Nat} (hs:s.size=n % 64) (hn:n<=1000000000):WAi ⟨ofBytes (Hf r.l),s,(n:Int)⟩=some (ofBytes (Hf (comps ((s.size+(Uh n).length) / 64) r (bs s++Uh n)).l)):=by
 have e0:WQ ⟨ofBytes (Hf r.l),s,(n:Int)⟩=some true:=RBJ (by rfl) (by grind) (by grind) (by simp_all);have hl:=bs_len s
 obtain ⟨m,hm⟩:∃ m,AY=((m+((s.size+(Uh n).length) / 64)+1+1+U1 8)+((119 - (bs s).length) % 64)+1):=⟨AY - (((s.size+(Uh n).length) / 64)+1+1+U1 8+((119 - (bs s).length) % 64)+1),by
  have:=FM (n:=1000) (by omega);grind [FAq,U1]⟩
 have hw:AV (8*(n:Int))=8*(n:Int):=A8 (by omega) (by omega);have hrep:(bs s++128::List.replicate ((119 - (bs s).length) % 64) 0)++dP (8*(n:Int)) 8=bs s++Uh n:=by grind [RBi,Uh]
 rw [WAi,OAv,mk,e0,AP,AsB (by rfl),AL (by grind),mV,AL (by grind),hm];have h0:=TBi ⟨ofBytes (Hf r.l),s,(n:Int)⟩ (bs s) (by omega) ((119 - (bs s).length) % 64) 0 (m+((s.size+(Uh n).length) / 64)+1+1+U1 8) (by omega);rw [List.replicate_zero] at h0;rw [h0,show (7:Int)=((8:Nat):Int) - 1 from rfl];simp only [hw];rw [QBi _ _ (by omega) (by omega) 8 _ _ (by omega) (by grind),hrep,Lu];simp only [U2,mk];rw [AsB (by simp),WBJ hr,AP,UBJ,AP];have hb:Aqy (bs s++Uh n):=fun x hx=>by
  rcases List.mem_append.1 hx with hx | hx
  ·exact Jj s x hx
  ·exact MA9 n x hx
 have hlen:(bs s++Uh n).length=64*((s.size+(Uh n).length) / 64):=by grind [XBh]
 exact SBi r hr _ hb _ hlen (by grind [FAq]) ((s.size+(Uh n).length) / 64) 0 m (by omega)
theorem VBi (b:List Int):comps ((b.length+(Uh b.length).length) / 64) Ars (b++Uh b.length)=comps ((b.length % 64+(Uh b.length).length) / 64) (comps (b.length / 64) Ars b) (b.drop (64*(b.length / 64))++Uh b.length):=by rw [show (b.length+(Uh b.length).length) / 64=b.length / 64+(b.length % 64+(Uh b.length).length) / 64 by omega,LBJ,TBh _ _ _ _ (by omega),List.drop_append_of_le_length (by omega)]
theorem LJ {s:AA} (hs:s.size<=1000000000):JC s=some (EM s):=by
 have h1:(s.extract (64*(s.size / 64)) s.size).size=s.size % 64:=by simp;omega
 have h:=UBi (dJ dK (s.size / 64) (bs s)) (s:=s.extract (64*(s.size / 64)) s.size) h1 hs;rw [Ls,h1,List.take_of_length_le (by simp [bs_len])] at h;rw [JC,PAv,mk,ZBh,AP,NBi hs,AP,h,AP,EM,Av3,VBi,bs_len]
def DI:Bo:=⟨EM ⟨#[]⟩,0,[],0,ofBytes (List.replicate 32 0),0⟩
theorem aG:RI=some DI:=by rw [RI,QAv,mk,LJ (by decide),AP,show (32:Int)=((32:Nat):Int) from rfl,CBJ (by omega),AP];rfl
def SN (n:Int):List Int:=if n > 127 then (128+n % 128)::SN (n / 128) else [w8 n]
termination_by n.toNat
decreasing_by omega
theorem XBJ:∀ (k:Nat) (n:Int),n<128 ^ k->(SN n).length<=max k 1:=by intro k;induction k<;>grind [SN]
theorem Jo {n:Int} (h:n<=9223372036854775807):(SN n).length<=10:=by have:=XBJ 10 n (by omega);omega
theorem Qy (n:Int):1<=(SN n).length:=by grind [SN]
theorem YBJ {n:Int} (h:n > 127) (h2:n<=9223372036854775807):AV (n.tdiv 128)=n / 128/\w8 (AV (n.tmod 128+128))=128+n % 128/\w8 (AV (128+n.tmod 128))=128+n % 128:=by grind [A8,Nq]
theorem Ux {n:Int} (h:n<=9223372036854775807):Qg n=some (ofBytes (SN n)):=by
 have key:∀ (n:Int) (m:Nat) (out:List Int),n<=9223372036854775807->(SN n).length<=m->out.length+(SN n).length<=1000->o9 m (.c0 n out)=some (ofBytes (out++SN n)):=by
  intro n;induction n using SN.induct with
  | case1 n hn ih=>
   intro m out h1 h2 h3;rw [SN,if_pos hn] at h2 h3 ⊢;simp only [List.length_cons] at h2 h3;obtain ⟨m,rfl⟩:∃ k,m=k+1:=⟨m - 1,by omega⟩
   grind [YBJ,o9,XAi]
  | case2 n hn=>
   intro m out h1 h2 h3;rw [SN,if_neg hn] at h2 h3 ⊢;simp at h2 h3;obtain ⟨m,rfl⟩:∃ k,m=k+1:=⟨m - 1,by omega⟩
   grind [o9,XAi]
 have hl:=Jo h;exact key n AY [] h (Nat.le_of_lt (FM (by omega))) (by grind)
def Awj (x:Af):Bool:=Bl x.fId 1 1000 && Bl x.Aj 1 3 && Bl x.fNext 0 16 && ((x.Aj == 2) || ((x.fNext == 0) && !x.Gw)) && ((x.Aj == 1) || !x.GH) && (bif x.Aj == 3 then decide ((x.fValue.size:Int)<=100) else (x.fValue.size:Int) == 32)
theorem uH (x:Af):WS x=some (Awj x):=by simp only [WS,RAv,mk,Ho,AP,Awj,bne];grind
theorem Arq {x:Af} (h:Awj x=true):1<=x.Aj/\x.Aj<=3/\1<=x.fId/\x.fId<=1000/\0<=x.fNext/\x.fNext<=16/\x.fValue.size<=100:=by grind [Awj,Na]
theorem WBi (b:Bool) (n:Int):SAv b n=some (bif b then n else 0):=by cases b <;> rfl
theorem OO {n:Int} (h:0<=n) (h2:n<=255):J9 n=some (ofBytes [n]):=by
 have e:n.tmod 256=n:=by grind
 simp only [J9,TAv,mk,e];grind [Nq]
def ArY (s:AA):AA:=ofBytes (SN (s.size:Int))++s
theorem XBi {s:AA} (h:s.size<=140737488351232):(ArY s).size<=s.size+10:=by grind [ArY,Dj,Jo]
theorem YBi {s:AA} (h:s.size<=140737488351232):YAi s=some (ArY s):=by simp only [YAi,UAv,mk,Ux (n:=(s.size:Int)) (by omega),AP];have:=Jo (n:=(s.size:Int)) (by omega);rw [show decide ((ofBytes (SN (s.size:Int))).size+s.size<=9223372036854775807)=true from Ba (by grind [Dj])];rfl
def Ark (x:Af):Int:=(bif x.CY then 1 else 0)+(bif x.CX then 2 else 0)+(bif x.Gw then 4 else 0)+(bif x.GH then 8 else 0)
theorem zO (x:Af):0<=Ark x/\Ark x<=15:=by grind [Ark]
theorem ZBi (m:Nat) (a b c d:Bool):LAm (m+5) (.c0 0 4 0 [a,b,c,d])=some ((bif a then 1 else 0)+(bif b then 2 else 0)+(bif c then 4 else 0)+(bif d then 8 else 0)):=by cases a <;> cases b <;> cases c <;> cases d <;> kernel_rfl
theorem Aim (x:Af):MAm x=some (Ark x):=by
 obtain ⟨m,this⟩:∃ m,AY=m+5:=⟨AY - 5,rfl⟩
 unfold MAm PA2 mk;rw [this];exact ZBi _ _ _ _ _
def Yf (x:Af):AA:=ofBytes (SN x.fId)++ofBytes [x.Aj]++ofBytes [Ark x]++ArY x.fValue++ofBytes (SN x.fNext)
def G7 (x:Af):AA×Bool:=bif Awj x then (Yf x,true) else (⟨#[]⟩,false)
theorem OA9 {x:Af} (h:Awj x=true):(ofBytes (SN x.fId)).size<=10/\(ArY x.fValue).size<=110/\(ofBytes (SN x.fNext)).size<=10:=by
 obtain ⟨_,_,_,h1,_,h2,h3⟩:=Arq h
 grind [Dj,Jo,XBi]
theorem ZBJ {x:Af} (h:Awj x=true):(Yf x).size<=200:=by grind [OA9,Yf,Dj]
theorem tX (x:Af):Yg x=some (G7 x):=by
 simp only [Yg,VAv,mk,uH,AP,G7];cases h:Awj x;·rfl
 ·obtain ⟨k1,k2,k3,k4,k5,k6,k7⟩:=Arq h
  obtain ⟨z1,z2,z3⟩:=OA9 h
  have hf:=zO x;have e1:∀ n:Int,(ofBytes [n]).size=1:=fun n=>Dj _
  have ef:AV (AV (AV ((bif x.CY then (1:Int) else 0)+(bif x.CX then 2 else 0))+(bif x.Gw then 4 else 0))+(bif x.GH then 8 else 0))=Ark x:=by unfold Ark;cases x.CY <;> cases x.CX <;> cases x.Gw <;> cases x.GH <;> rfl
  simp only [WBi,AP,ef,Ux (n:=x.fId) (by omega),OO (n:=x.Aj) (by omega) (by omega),OO hf.1 (by omega),YBi (s:=x.fValue) (by omega),Ux (n:=x.fNext) (by omega),AEY,e1];simp only [DN,Aq,Ar]
  rw [show decide ((ofBytes (SN x.fId)).size+1<=9223372036854775807)=true from Ba (by omega),show decide ((ofBytes (SN x.fId)).size+1+1<=9223372036854775807)=true from Ba (by omega),
   show decide ((ofBytes (SN x.fId)).size+1+1+(ArY x.fValue).size<=9223372036854775807)=true from Ba (by omega),show decide ((ofBytes (SN x.fId)).size+1+1+(ArY x.fValue).size+(ofBytes (SN x.fNext)).size<=9223372036854775807)=true from Ba (by omega)]
  rfl
def IG (x:Af):Bool:=(x.fId == 0) && ((x.Aj == 0) && ((x.CY == false) && ((x.CX == false) && ((x.Gw == false) && ((x.GH == false) && (((ByteArray.toList x.fValue) == (ByteArray.toList (⟨#[]⟩:AA))) && ((x.fNext == 0) && true)))))))
theorem AX7 (x:Af):((x.fId == 0) && ((x.Aj == 0) && ((x.CY == false) && ((x.CX == false) && ((x.Gw == false) && ((x.GH == false) && (((ByteArray.toList x.fValue) == (ByteArray.toList (⟨#[]⟩:AA))) && ((x.fNext == 0) && true))))))))=IG x:=rfl
def IE (s:AA):Bool:=(ByteArray.toList s) == (ByteArray.toList (⟨#[]⟩:AA))
theorem PA9 (s:AA):((ByteArray.toList s) == (ByteArray.toList (⟨#[]⟩:AA)))=IE s:=rfl
def noT:AA×Bool:=((⟨#[]⟩:AA),false)
def AwX (r:Ah):AA×Bool:=
 bif r.Aj == 1 then (bif (r.fText.size:Int) == 32 && r.DR == 0 && IG r.Ag then (ofBytes [1]++r.fText,true) else noT)
 else bif r.Aj == 2 then (bif IE r.fText && IG r.Ag && Bl r.DR 0 3 then (ofBytes [2]++ofBytes (SN r.DR),true) else noT)
 else bif r.Aj == 3 then (bif (G7 r.Ag).2 && IE r.fText && r.DR == 0 then (ofBytes [3]++(G7 r.Ag).1,true) else noT)
 else bif r.Aj == 4 then (bif IE r.fText && IG r.Ag && Bl r.DR 1 1000 then (ofBytes [4]++ofBytes (SN r.DR),true) else noT)
 else noT
theorem HAq {n a b:Int} (hb:b<=1000) (h:Bl n a b=true) (k:Int):(ofBytes [k]).size+(ofBytes (SN n)).size<=9223372036854775807:=by grind [Na,Jo,Dj]
theorem BBK {x:Af} (h:(G7 x).2=true) (k:Int):(ofBytes [k]).size+(G7 x).1.size<=9223372036854775807:=by grind [G7,ZBJ,Dj]
theorem dQ (r:Ah):dR r=some (AwX r):=by
 have h1:(⟨#[1]⟩:AA)=ofBytes [1]:=rfl;have h2:(⟨#[2]⟩:AA)=ofBytes [2]:=rfl;have h3:(⟨#[3]⟩:AA)=ofBytes [3]:=rfl;have h4:(⟨#[4]⟩:AA)=ofBytes [4]:=rfl;simp only [dR,WAv,mk,Ho,tX,AP,AX7,h1,h2,h3,h4];simp only [PA9,AwX];cases r.Aj == 1
 ·simp only [Aq];cases r.Aj == 2
  ·simp only [Aq];cases r.Aj == 3
   ·simp only [Aq];cases r.Aj == 4;·rfl
    ·cases IE r.fText <;> cases IG r.Ag <;> (try rfl);cases h:Bl r.DR 1 1000;·rfl
     ·have h':=h;rw [Na] at h';simp only [Ar,Ux (n:=r.DR) (by omega),AP,Bool.and_self,Ba (HAq (by omega) h 4)]
   ·cases h:(G7 r.Ag).2;·rfl
    ·cases IE r.fText <;> cases r.DR == 0 <;> (try rfl);simp_all [BBK]
  ·cases IE r.fText <;> cases IG r.Ag <;> (try rfl);cases h:Bl r.DR 0 3;·rfl
   ·have h':=h;rw [Na] at h';simp only [Ar,Ux (n:=r.DR) (by omega),AP,Bool.and_self,Ba (HAq (by omega) h 2)]
 ·cases h:(r.fText.size:Int) == 32 <;> cases r.DR == 0 <;> cases IG r.Ag <;> (try rfl);grind [Dj]
def rise (last:Int):Int->List Af->Bool
 | _,[]=>true
 | p,x::xs=>Awj x && (!decide (x.fId > last) && (!decide (p>=x.fId) && rise last x.fId xs))
def Qv (l:List Af):Nat->Int
 | 0=>0
 | i+1=>((l[i]?).map (·.fId)).getD 0
theorem QA9 {l:List Af} {i:Nat} (hi:i<l.length):Qv l (i+1)=l[i].fId:=by simp [Qv,hi]
theorem CBK {l:List Af} {last:Int} {i:Nat} (hi:i<l.length):rise last (Qv l i) (l.drop i)=(Awj l[i] && (!decide (l[i].fId > last) && (!decide (Qv l i>=l[i].fId) && rise last (Qv l (i+1)) (l.drop (i+1))))):=by grind [drop_at,rise,QA9]
def G9 (b:Bo):Bool:=(b.Bv.size:Int) == 32 && ((b.Dh.size:Int) == 32 && (Bl b.DU 0 3 && (decide ((b.AZ.length:Int)<=8) && (Bl b.BM 0 1000 && (Bl b.fCount 0 10000 && rise b.BM 0 b.AZ)))))
theorem BBj {b:Bo} (hb:b.AZ.length<=140737488351232):∀ m i,i<=b.AZ.length->b.AZ.length - i<m->Yh m (.c0 i b)=some (rise b.BM (Qv b.AZ i) (b.AZ.drop i)):=fun m i h1 h2=>
 PV (A:=Unit) (n:=b.AZ.length) (Lp:=Yh) (st:=fun i _=>.c0 i b) (Inv:=fun _ _=>True) (out:=fun i _=>some (rise b.BM (Qv b.AZ i) (b.AZ.drop i)))
  (fun m _ _=>by
   simp only [Yh,AHC,mk];rw [show decide ((b.AZ.length:Int)<(b.AZ.length:Int))=false from D6 (by omega),List.drop_of_length_le (Nat.le_refl _)];rfl)
  (fun m i _ hi _=>by
   have hw:AV ((i:Int)+1)=((i+1:Nat):Int):=by grind [A8]
   simp only [CBK hi];simp only [Yh,AHC,mk,BR,getD_at hi,uH,AP,hw];rw [show decide ((i:Int)<(b.AZ.length:Int))=true from Ba (by omega),show decide ((0:Int)<=(i:Int))=true from Ba (by omega)];simp only [Bool.and_self,Ar];cases h1:Awj b.AZ[i];·simp
   ·cases h2:decide (b.AZ[i].fId > b.BM)
    ·by_cases h0:i=0;·subst h0;refine .inr ⟨(),rfl,trivial,?_⟩;rw [show decide (Qv b.AZ 0>=b.AZ[0].fId)=false from D6 (by have:=(Arq h1).2.2.1;grind [Qv])];rfl
     ·obtain ⟨j,rfl⟩:∃ j,i=j+1:=⟨i - 1,by omega⟩
      have hj:AV (((j+1:Nat):Int) - 1)=(j:Int):=by grind [A8]
      have hjl:j<b.AZ.length:=by omega
      rw [QA9 hjl];simp only [hj,BR,getD_at hjl,DN,Bool.not_false,Aq,Bool.true_and];rw [show decide (((j+1:Nat):Int) > 0)=true from Ba (by omega),show decide ((0:Int)<=(j:Int))=true from Ba (by omega),show decide ((j:Int)<(b.AZ.length:Int))=true from Ba (by omega)];simp only [Bool.and_self,Ar];cases h3:decide (b.AZ[j].fId>=b.AZ[j+1].fId);all_goals simp
    simp) m i () h1 h2 trivial
theorem aQ {b:Bo} (hb:b.AZ.length<=140737488351232):dS b=some (G9 b):=by have h0:Yh AY (.c0 0 b)=some (rise b.BM 0 b.AZ):=BBj hb AY 0 (DJ _) (FM (by omega));simp only [dS,YAv,mk,Ho,AP,G9,bne,h0];grind
theorem RA9 {b:Bo} (h:b.AZ.length<=2932031007317):Yi b=some b:=by rw [Yi,ZAv,mk,AL (by grind)];try rfl
def C9 (xs:List Af) (t:Int):Option Af:=xs.find? fun x=>x.fId == t
def YC:Af:=⟨0,0,false,false,false,false,⟨#[]⟩,0⟩
theorem aC {b:Bo} {t:Int} (h:b.AZ.length<=140737488351232):RJ b t=some (match C9 b.AZ t with | some x=>(x,true) | none=>(YC,false)):=by
 have key:∀ m i,i<=b.AZ.length->b.AZ.length - i<m->dU m (.c0 t i b YC)=some (match C9 (b.AZ.drop i) t with | some x=>(x,true) | none=>(YC,false)):=fun m i h1 h2=>
  PV (A:=Unit) (n:=b.AZ.length) (Lp:=dU) (st:=fun i _=>.c0 t i b YC) (Inv:=fun _ _=>True) (out:=fun i _=>some (match C9 (b.AZ.drop i) t with | some x=>(x,true) | none=>(YC,false)))
   (fun m _ _=>by simp [dU,BAj,mk,C9,YC])
   (fun m i _ hi _=>by
    have hw:AV ((i:Int)+1)=((i+1:Nat):Int):=by grind [A8]
    simp only [dU,BAj,mk,BR,getD_at hi,hw,drop_at hi,C9,List.find?_cons];cases hq:b.AZ[i].fId == t;all_goals simp_all) m i () h1 h2 trivial
 have h0:=key AY 0 (DJ _) (FM (by omega));exact h0
theorem gG {r:Ah} (h:(AwX r).2=true):(r.Aj=1/\r.fText.size=32)\/(r.Aj=2/\0<=r.DR/\r.DR<=3)\/(r.Aj=3/\Awj r.Ag=true)\/(r.Aj=4/\1<=r.DR/\r.DR<=1000):=by
 rw [AwX] at h;by_cases h1:r.Aj=1
 ·rw [show (r.Aj == 1)=true by simp_all,Ar] at h;cases hc:((r.fText.size:Int) == 32 && r.DR == 0 && IG r.Ag)
  ·rw [hc] at h;cases h
  grind
 rw [show (r.Aj == 1)=false by simp_all,Aq] at h;by_cases h2:r.Aj=2
 ·rw [show (r.Aj == 2)=true by simp_all,Ar] at h;cases hc:(IE r.fText && IG r.Ag && Bl r.DR 0 3)
  ·rw [hc] at h;cases h
  simp_all [Na]
 rw [show (r.Aj == 2)=false by simp_all,Aq] at h;by_cases h3:r.Aj=3
 ·rw [show (r.Aj == 3)=true by simp_all,Ar] at h;cases hc:((G7 r.Ag).2 && IE r.fText && r.DR == 0)
  ·rw [hc] at h;cases h
  grind [G7]
 rw [show (r.Aj == 3)=false by simp_all,Aq] at h;by_cases h4:r.Aj=4
 ·rw [show (r.Aj == 4)=true by simp_all,Ar] at h;cases hc:(IE r.fText && IG r.Ag && Bl r.DR 1 1000)
  ·rw [hc] at h;cases h
  simp_all [Na]
 rw [show (r.Aj == 4)=false by simp_all] at h;cases h
theorem WH (r:Ah):(AwX r).1.size<=300:=by
 rw [AwX];have one:∀ n:Int,(ofBytes [n]).size=1:=fun n=>by rfl
 cases hk1:(r.Aj == 1)
 ·rw [Aq];cases hk2:(r.Aj == 2)
  ·rw [Aq];cases hk3:(r.Aj == 3)
   ·rw [Aq];cases hk4:(r.Aj == 4)
    ·exact DJ _
    ·rw [Ar];cases hc:(IE r.fText && IG r.Ag && Bl r.DR 1 1000)
     ·exact DJ _
     grind [Na,Jo,Dj]
   ·rw [Ar];cases hc:((G7 r.Ag).2 && IE r.fText && r.DR == 0)
    ·exact DJ _
    grind [G7,ZBJ]
  ·rw [Ar];cases hc:(IE r.fText && IG r.Ag && Bl r.DR 0 3)
   ·exact DJ _
   grind [Na,Jo,Dj]
 ·rw [Ar];cases hc:((r.fText.size:Int) == 32 && r.DR == 0 && IG r.Ag)
  ·exact DJ _
  grind
def NC:List Af->Int->Nat->Option Nat
 | [],_,_=>none
 | x::xs,t,i=>if x.fId == t then some i else NC xs t (i+1)
theorem DBK (t:Int):∀ (xs:List Af) (i:Nat),match NC xs t i with | some j=>i<=j/\j<i+xs.length/\C9 xs t=xs[j - i]? | none=>C9 xs t=none:=by intro xs;induction xs<;>grind [NC,C9]
theorem HY {b:Bo}:G9 b=true↔b.Bv.size=32/\b.Dh.size=32/\(0<=b.DU/\b.DU<=3)/\b.AZ.length<=8/\(0<=b.BM/\b.BM<=1000)/\(0<=b.fCount/\b.fCount<=10000)/\rise b.BM 0 b.AZ=true:=by grind [G9,Na]
theorem Art {last p:Int} {x:Af} {xs:List Af}:rise last p (x::xs)=true↔Awj x=true/\x.fId<=last/\p<x.fId/\rise last x.fId xs=true:=by simp [rise]
theorem ArP {last:Int}:∀ {xs:List Af} {p:Int},rise last p xs=true->∀ x ∈ xs,p<x.fId/\x.fId<=last/\Awj x=true
 | [],_,_,x,hx=>by cases hx
 | y::ys,p,h,x,hx=>by
  obtain ⟨h1,h2,h3,h4⟩:=Art.1 h
  rcases List.mem_cons.1 hx with rfl | hx
  ·simp_all
  ·have:=ArP h4 x hx;grind
theorem EBK {last last2:Int} (hl:last<=last2):∀ {xs:List Af} {p p2:Int},p2<=p->rise last p xs=true->rise last2 p2 xs=true
 | [],_,_,_,_=>rfl
 | y::ys,p,p2,hp,h=>by
  obtain ⟨h1,h2,h3,h4⟩:=Art.1 h
  exact Art.2 ⟨h1,by omega,by omega,EBK hl (Int.le_refl _) h4⟩
def O0 (x:Af) (ts:List Af):List Af:=ts.filter fun t=>decide (t.fId<x.fId)
def TU (x:Af) (ts:List Af):List Af:=ts.filter fun t=>decide (t.fId > x.fId)
def putAt (ts:List Af) (x:Af):List Af:=O0 x ts++x::TU x ts
def without (ts:List Af) (id:Int):List Af:=ts.filter fun t=>t.fId != id
theorem CBj {last:Int} {x:Af}:∀ {xs:List Af} {p:Int},x.fId<=p->rise last p xs=true->O0 x xs=[]/\TU x xs=xs/\without xs x.fId=xs:=by intro xs p hp h;have ha:=ArP h;refine ⟨List.filter_eq_nil_iff.2 fun t ht=>?_,List.filter_eq_self.2 fun t ht=>?_,List.filter_eq_self.2 fun t ht=>?_⟩;all_goals grind
theorem FBK {id:Int}:∀ {xs:List Af} {i j:Nat},NC xs id i=some j->i<=j/\∃ x ∈ xs,x.fId=id:=by intro xs;induction xs<;>grind [NC]
theorem SA9 {last:Int} {x:Af}:∀ {xs:List Af} {p:Int} {i j:Nat},rise last p xs=true->NC xs x.fId i=some j->xs.set (j - i) x=putAt xs x/\(xs.take (j - i)++xs.drop (j - i+1))=without xs x.fId:=by
 intro xs;induction xs with
 | nil=>intro p i j _ h;cases h
 | cons y ys ih=>
  intro p i j hr h;obtain ⟨h1,h2,h3,h4⟩:=Art.1 hr
  rw [NC] at h;split at h
  ·rename_i hy;have hy:=beq_iff_eq.1 hy;cases h;obtain ⟨f1,f2,f3⟩:=CBj (x:=x) (by omega) h4
   grind [putAt,O0,TU,without]
  ·rename_i hy;obtain ⟨h5,z,h6,h7⟩:=FBK h
   have h8:=ArP h4 z h6;grind [putAt,O0,TU,without]
theorem GBK {last:Int} {x:Af} {xs:List Af} {p:Int} (h:rise last p xs=true) (hx:last<x.fId):putAt xs x=xs++[x]/\C9 xs x.fId=none:=by have ha:=ArP h;grind [putAt,O0,TU,List.filter_eq_self,List.filter_eq_nil_iff,C9]
theorem DBj {last:Int} {x:Af} (hx:Awj x=true) (hl:last<x.fId):∀ {xs:List Af} {p:Int},p<x.fId->rise last p xs=true->rise x.fId p (xs++[x])=true:=by
 intro xs;induction xs with
 | nil=>intro p hp _;exact Art.2 ⟨hx,Int.le_refl _,hp,rfl⟩
 | cons y ys ih=>
  grind [Art]
theorem EBj {last:Int} {x:Af} (hx:Awj x=true):∀ {xs:List Af} {p:Int} {i j:Nat},rise last p xs=true->NC xs x.fId i=some j->rise last p (xs.set (j - i) x)=true:=by
 intro xs;induction xs with
 | nil=>simp_all
 | cons y ys ih=>
  intro p i j hr h;obtain ⟨h1,h2,h3,h4⟩:=Art.1 hr
  rw [NC] at h;split at h;·simp_all [Art]
  ·have h5:=(FBK h).1;have e:j - i=(j - (i+1))+1:=by omega
   simp_all [Art]
theorem FBj {last:Int} (id:Int):∀ {xs:List Af} {p:Int},rise last p xs=true->rise last p (without xs id)=true:=by
 intro xs;induction xs with
 | nil=>intro p _;rfl
 | cons y ys ih=>
  intro p h;obtain ⟨h1,h2,h3,h4⟩:=Art.1 h
  rw [without,List.filter_cons];split;·exact Art.2 ⟨h1,h2,h3,ih h4⟩
  ·exact EBK (Int.le_refl _) (by omega) (ih h4)
def grown (x y:Af):Bool:=y.Aj == x.Aj && ((bs y.fValue == bs x.fValue) && (y.Gw == x.Gw && (y.GH == x.GH && (decide (x.fNext<=y.fNext) && ((y.CY || !x.CY) && (y.CX || !x.CX))))))
def pF:Bo:=⟨⟨#[]⟩,0,[],0,⟨#[]⟩,0⟩
def TT (b:Bo) (x:Af):Option (List Af×Int):=match C9 b.AZ x.fId with
 | some old=>bif grown old x then some (putAt b.AZ x,b.BM) else none
 | none=>bif x.fId != b.BM+1 || decide ((b.AZ.length:Int)>=8) then none else some (b.AZ++[x],x.fId)
def Awv (b:Bo) (r:Ah):Bo×Bool:=
 bif !(G9 b) || (!(AwX r).2 || decide (b.fCount>=10000)) then (pF,false)
 else bif r.Aj == 1 then (⟨r.fText,0,b.AZ,b.BM,EM (b.Dh++(AwX r).1),b.fCount+1⟩,true)
 else bif r.Aj == 2 then (⟨b.Bv,r.DR,b.AZ,b.BM,EM (b.Dh++(AwX r).1),b.fCount+1⟩,true)
 else bif r.Aj == 3 then (match TT b r.Ag with
  | some p=>(⟨b.Bv,b.DU,p.1,p.2,EM (b.Dh++(AwX r).1),b.fCount+1⟩,true)
  | none=>(pF,false))
 else (match C9 b.AZ r.DR with
  | some _=>(⟨b.Bv,b.DU,without b.AZ r.DR,b.BM,EM (b.Dh++(AwX r).1),b.fCount+1⟩,true)
  | none=>(pF,false))
theorem TA9 {xs:List Af} {id:Int}:(∃ x j,C9 xs id=some x/\NC xs id 0=some j/\j<xs.length/\xs[j]?=some x/\x.fId=id)\/(C9 xs id=none/\NC xs id 0=none):=by grind [DBK,C9]
theorem Tv {b:Bo} {r:Ah} (h:(Awv b r).2=true):G9 b=true/\(AwX r).2=true/\b.fCount<10000/\G9 (Awv b r).1=true/\(Awv b r).1.fCount=b.fCount+1/\(Awv b r).1.Dh=EM (b.Dh++(AwX r).1):=by
 rw [Awv] at h ⊢;cases h1:G9 b;·simp_all
 cases h2:(AwX r).2;·simp_all
 by_cases h3:b.fCount>=10000;·simp_all
 rw [h1,h2,D6 h3] at h;rw [D6 h3];simp only [DN,Bool.or_false,Aq] at h ⊢;obtain ⟨b1,b2,b3,b4,b5,b6,b7⟩:=HY.1 h1
 refine ⟨trivial,trivial,by omega,?_⟩;have hd:∀ s,(EM s).size=32:=Aro;rcases gG h2 with ⟨hk,hz⟩ | ⟨hk,hz⟩ | ⟨hk,hz⟩ | ⟨hk,hz⟩
 ·grind [HY]
 ·grind [HY]
 ·rw [hk] at h ⊢;simp only [show ((3:Int) == 1)=false from rfl,show ((3:Int) == 2)=false from rfl,show ((3:Int) == 3)=true from rfl,Ar,Aq] at h ⊢;rw [TT] at h ⊢;rcases TA9 (xs:=b.AZ) (id:=r.Ag.fId) with ⟨x,j,t1,t2,t3,t4,t5⟩ | ⟨t1,t2⟩
  ·rw [t1] at h ⊢;simp only at h ⊢;cases hg:grown x r.Ag;·simp_all
   ·have e:=(SA9 b7 t2).1;rw [Nat.sub_zero] at e;have hrs:=EBj hz b7 t2;grind [HY]
  ·rw [t1] at h ⊢;simp only at h ⊢;cases hg:(r.Ag.fId != b.BM+1 || decide ((b.AZ.length:Int)>=8))
   ·rw [Bool.or_eq_false_iff,bne_eq_false_iff_eq,decide_eq_false_iff_not] at hg;have hid:r.Ag.fId<=1000:=by simp_all [Awj,Na]
    exact ⟨HY.2 ⟨b1,hd _,b3,by grind,by grind,by grind,DBj hz (by omega) (by omega) b7⟩,rfl,rfl⟩
   simp_all
 grind [HY,without,FBj]
theorem Rx (a b:AA):(a.toList == b.toList)=(bs a == bs b):=by grind [toList_inj,Jm]
theorem GBj (x y:Af):zQ x y=some (grown x y):=by
 rw [zQ,BAw,mk,grown,Rx,show (bs x.fValue == bs y.fValue)=(bs y.fValue == bs x.fValue) by grind,
  show (x.Aj == y.Aj)=(y.Aj == x.Aj) by grind]
 grind
theorem UA9 {f:Af->Bool} {l:List Af} {i:Nat} (h:i<l.length):(l.take (i+1)).filter f=(l.take i).filter f++(bif f l[i] then [l[i]] else []):=by grind [take_at]
theorem HBK {l:List Af} {x:Af} (hl:l.length<=1000000000):zS l x=some (putAt l x):=by
 have k1:∀ (j i m:Nat),i+j=l.length->U3 (m+j) (.c1 l (i:Int) x (O0 x l++[x]++(l.take i).filter (fun t=>decide (t.fId > x.fId))))=U3 m (.c1 l (l.length:Int) x (O0 x l++[x]++TU x l)):=by
  intro j;induction j with
  | zero=>(intro i m h;obtain rfl:i=l.length:=by omega);rw [List.take_length];rfl
  | succ j ih=>
   intro i m h;have hi:i<l.length:=by omega
   have e:AV ((i:Int)+1)=((i+1:Nat):Int):=by grind [A8]
   have h2:=ih (i+1) m (by omega);rw [UA9 hi] at h2;have hf1:(O0 x l).length<=l.length:=List.length_filter_le ..;have hf2:((l.take i).filter (fun t=>decide (t.fId > x.fId))).length<=i:=Nat.le_trans (List.length_filter_le ..) (by grind);rw [show m+(j+1)=(m+j)+1 by omega,U3];simp only [pG,mk,e,BR,getD_at hi];grind
 have k0:∀ (j i m:Nat),i+j=l.length->U3 (m+1+l.length+1+j) (.c0 l (i:Int) x ((l.take i).filter (fun t=>decide (t.fId<x.fId))))=some (putAt l x):=by
  intro j;induction j with
  | zero=>
   intro i m h;obtain rfl:i=l.length:=by omega
   have hf1:(O0 x l).length<=l.length:=List.length_filter_le ..;rw [List.take_length,show l.filter (fun t=>decide (t.fId<x.fId))=O0 x l from rfl,Nat.add_zero,U3];simp only [pG,mk];rw [AsB (by simp),AL (by grind)];have h2:=k1 l.length 0 (m+1) (by omega);grind [U3,pG,putAt]
  | succ j ih=>
   intro i m h;have hi:i<l.length:=by omega
   have e:AV ((i:Int)+1)=((i+1:Nat):Int):=by grind [A8]
   have h2:=ih (i+1) m (by omega);rw [UA9 hi] at h2;grind [U3,pG,BR]
 obtain ⟨m,hm⟩:∃ m,AY=m+1+l.length+1+l.length:=⟨AY - (2*l.length+2),by have:=FM (n:=2*l.length+2) (by omega);omega⟩
 rw [zS,CAw,hm];have h:=k0 l.length 0 m (by omega);assumption
theorem xR {b:Bo} {r:Ah} (hb:b.AZ.length<=140737488351232):QL b r=some (Awv b r):=by
 have hok:(Awv b r).2=true->_:=Tv (b:=b) (r:=r);rw [QL,DAw,mk,dQ,AP,aQ hb,AP];rw [Awv] at hok ⊢;cases h1:G9 b;·rfl
 cases h2:(AwX r).2;·rfl
 obtain ⟨b1,b2,b3,b4,b5,b6,b7⟩:=HY.1 h1
 by_cases h3:b.fCount>=10000
 ·have h3':(b.fCount == 10000)=true:=by grind
  simp only [Ba h3,h3',DN,Bool.or_true,Bool.false_or,Aq,Ar];rfl
 have hz:=WH r;have hw:AV (b.fCount+1)=b.fCount+1:=A8 (by omega) (by omega);have hdig:=LJ (s:=b.Dh++(AwX r).1) (by grind);have hsz:decide (b.Dh.size+(AwX r).1.size<=9223372036854775807)=true:=by grind
 have h3':(b.fCount == 10000)=false:=by grind
 rw [h1,h2,D6 h3] at hok;simp only [DN,Bool.or_self,Aq] at hok;simp only [D6 h3,h3',DN,Bool.or_self,Aq,RA9 (show b.AZ.length<=2932031007317 by omega),hdig,hsz,hw,AP,Ar];rcases gG h2 with ⟨hk,hc⟩ | ⟨hk,hc⟩ | ⟨hk,hc⟩ | ⟨hk,hc⟩
 ·grind [aQ]
 ·grind [aQ]
 ·rw [hk] at hok ⊢;simp only [show ((3:Int) == 1)=false from rfl,show ((3:Int) == 2)=false from rfl,show ((3:Int) == 3)=true from rfl,Ar,Aq] at hok ⊢;have hid:=(Arq hc)
  have hpl:(putAt b.AZ r.Ag).length<=1000:=by grind [O0,TU,putAt]
  rw [aC hb,AP];rw [TT] at hok ⊢;cases ht:C9 b.AZ r.Ag.fId with
  | some o=>
   rw [ht] at hok;simp only [Ar,GBj,AP,DN,Aq,HBK (show b.AZ.length<=1000000000 by omega)] at hok ⊢;cases hg:grown o r.Ag;·rfl
   grind [aQ]
  | none=>
   rw [ht] at hok;have hw2:AV (b.BM+1)=b.BM+1:=A8 (by omega) (by omega);simp only [Aq,Bool.not_false,Ar,hw2,HBK (show b.AZ.length<=1000000000 by omega),AP] at hok ⊢;cases hg:(r.Ag.fId != b.BM+1)
   ·rw [hg] at hok;rw [bne_eq_false_iff_eq] at hg;have hpn:=(GBK b7 (show b.BM<r.Ag.fId by omega)).1;by_cases h8:(b.AZ.length:Int)>=8;·rw [Ba h8,Aq,AL (by grind)];rfl
    grind [aQ]
   ·rfl
 ·rw [hk] at hok ⊢;simp only [show ((4:Int) == 1)=false from rfl,show ((4:Int) == 2)=false from rfl,show ((4:Int) == 3)=false from rfl,show ((4:Int) == 4)=true from rfl,Ar,Aq] at hok ⊢;rw [aC hb,AP];cases ht:C9 b.AZ r.DR with
  | none=>rfl
  | some o=>
   rw [ht] at hok;simp only [DN,Aq] at hok ⊢;have h5:=(hok trivial).2.2.2.1;have key:∀ (j i m:Nat),i+j=b.AZ.length->pI (m+j+1) (.c0 (AwX r).1 (i:Int) b r ⟨#[]⟩ 0 0 ⟨#[]⟩ 0 b.Bv b.DU b.BM b.Dh b.fCount ((b.AZ.take i).filter (fun t=>t.fId != r.DR)) [] b.AZ)=some (⟨b.Bv,b.DU,without b.AZ r.DR,b.BM,EM (b.Dh++(AwX r).1),b.fCount+1⟩,true):=by
    intro j;induction j with
    | zero=>
     grind [without,List.take_length,pI,CAj,aQ]
    | succ j ih=>
     intro i m hi;have hil:i<b.AZ.length:=by omega
     have e:AV ((i:Int)+1)=((i+1:Nat):Int):=by grind [A8]
     have h6:=ih (i+1) m (by omega);rw [UA9 hil] at h6;have hf2:((b.AZ.take i).filter (fun t=>t.fId != r.DR)).length<=i:=Nat.le_trans (List.length_filter_le ..) (by grind);rw [show m+(j+1)+1=(m+j+1)+1 by omega,pI];grind [CAj]
   obtain ⟨m,hm⟩:=gm (n:=b.AZ.length) (by omega)
   have h0:=key b.AZ.length 0 m (by omega);simp_all
def xb (x y:Int):Int:=w8 (((BitVec.toNat ((BitVec.ofInt (IntKind.bits IntKind.u8) x) ^^^ (BitVec.ofInt (IntKind.bits IntKind.u8) y))):Nat):Int)
theorem VA9 (x y:Int):w8 (((BitVec.toNat ((BitVec.ofInt (IntKind.bits IntKind.u8) x) ^^^ (BitVec.ofInt (IntKind.bits IntKind.u8) y))):Nat):Int)=xb x y:=rfl
theorem IBK (x y:Int):0<=xb x y/\xb x y<=255:=by grind [xb,bJ]
theorem HBj {x:Int} (h:0<=x/\x<=255) (y:Int):xb (xb x y) y=x:=by
 have e:∀ (a b:BitVec 8),BitVec.ofInt 8 (((a ^^^ b).toNat:Nat):Int) ^^^ b=a:=by simp [BitVec.xor_assoc]
 have h8:∀ (a b:BitVec 8),w8 (((a ^^^ b).toNat:Nat):Int)=(((a ^^^ b).toNat:Nat):Int):=fun a b=>by grind [Nq]
 unfold xb;show w8 (((BitVec.ofInt 8 (w8 (((BitVec.ofInt 8 x ^^^ BitVec.ofInt 8 y).toNat:Nat):Int)) ^^^ BitVec.ofInt 8 y).toNat:Nat):Int)=x;rw [h8 (BitVec.ofInt 8 x),e,BitVec.toNat_ofInt,bJ];omega
def AxL (x:Int) (l:List Int):List Int:=l.map fun b=>xb b x
theorem IAq (x:Int) (l:List Int):(AxL x l).length=l.length:=by simp [AxL]
theorem JAq (x:Int) (l:List Int):Aqy (AxL x l):=fun n hn=>by
 simp only [AxL,List.mem_map] at hn;obtain ⟨b,_,rfl⟩:=hn
 exact IBK _ _
def Avf (k:List Int):List Int:=k++List.replicate (64 - k.length) 0
def V8 (k:List Int):List Int:=if 64<k.length then Avf (Av3 k) else Avf k
theorem IBj (k:List Int):(V8 k).length=64:=by grind [V8,Avf,OBJ]
def V7 (k s:List Int):List Int:=Av3 (AxL 92 (V8 k)++Av3 (AxL 54 (V8 k)++s))
def bZ (k s:AA):AA:=ofBytes (V7 (bs k) (bs s))
theorem JBK (k s:List Int):(V7 k s).length=32:=OBJ _
theorem KAq (k s:List Int):Aqy (V7 k s):=PBJ _
theorem KBK (k s:AA):bs (bZ k s)=V7 (bs k) (bs s):=AsM (KAq _ _)
theorem JBj {α:Type} (f:α->α) {l:List α} {i:Nat} (h:i<l.length):((l.take i).map f++l.drop i).set i (f l[i])=(l.take (i+1)).map f++l.drop (i+1):=by grind [drop_at,dG]
theorem KBj (k:List Int) {i:Nat}:(Avf k).getD i 0=k.getD i 0:=by grind [Avf]
theorem LBj (f:Int->Int) {l:List Int} (hl:l.length=64) {i:Nat} (h:i<64) (y:Int) (hy:y=f (l.getD i 0)):((l.take i).map f++List.replicate (64 - i) 0).set i y=(l.take (i+1)).map f++List.replicate (64 - (i+1)) 0:=by rw [show 64 - i=(64 - (i+1))+1 by omega,List.replicate_succ,dG (by grind),take_at (by omega),hy,getD_at (by omega),List.map_append,List.append_assoc];rfl
theorem MBj {k:AA} (hk:k.size<=64) (x:Int):dV AY (.c0 k x (0:Int) (List.replicate (64:Int).toNat (0:Int)))=some (ofBytes (AxL x (Avf (bs k)))):=by
 have hl:(Avf (bs k)).length=64:=by simp_all [Avf,bs_len]
 have key:=PV (A:=Unit) (n:=64) (Lp:=dV) (st:=fun i _=>.c0 k x (i:Int) (((Avf (bs k)).take i).map (fun b=>xb b x)++List.replicate (64 - i) 0)) (Inv:=fun _ _=>True) (out:=fun _ _=>some (ofBytes (AxL x (Avf (bs k)))))
  (fun m _ _=>by
   rw [dV];simp only [EAj,mk];rw [AsB (by simp),List.take_of_length_le (by omega),Nat.sub_self,List.replicate_zero,List.append_nil];rfl)
  (fun m i _ hi _=>.inr ⟨(),by
   have e:AV ((i:Int)+1)=((i+1:Nat):Int):=by grind [A8]
   have hlen:(((Avf (bs k)).take i).map (fun b=>xb b x)++List.replicate (64 - i) 0).length=64:=by grind
   have hm:(((Avf (bs k)).take i).map (fun b=>xb b x)).length=i:=by grind
   rw [dV];simp only [EAj,mk,e,BR,List.length_set,hlen,VA9];grind [Uo,List.set_set,LBj,KBj,bs_len],trivial,rfl⟩)
 exact key AY 0 () (DJ _) (FM (by omega)) trivial
theorem LBK {k:AA} (hk:k.size<=1000000000) (x:Int):FAj k x=some (ofBytes (AxL x (V8 (bs k)))):=by rw [FAj,EAw,mk];grind [LJ,MBj,Aro,V8,bs_len,GAq]
theorem MBK {k s:AA} (hk:k.size<=900000000) (hs:s.size<=900000000):pJ k s=some (bZ k s):=by have x1:=IAq 92 (V8 (bs k));have x2:=IAq 54 (V8 (bs k));have x3:=IBj (bs k);rw [pJ,FAw,mk,LBK (by omega),AP,LBK (by omega),AP,AL (by grind [Dj])];rw [LJ (by grind [Dj]),AP,AL (by simp_all [Dj,Aro]),LJ (by simp_all [Dj,Aro]),AP];rw [EM,Aq7,GAq,Aq7,AsM (JAq _ _),AsM (JAq _ _),bZ,V7]
def YA (k v:List Int):Nat->List Int
 | 0=>[]
 | i+1=>YA k v i++V7 k (109::(v++[(i:Int)]))
theorem YB (k v:List Int) (i:Nat):(YA k v i).length=32*i:=by induction i<;>grind [YA,JBK]
theorem NBK (k v:List Int) (i:Nat):Aqy (YA k v i):=by
 induction i with
 | zero=>intro n hn;cases hn
 | succ i ih=>
  intro n hn;rcases List.mem_append.1 hn with hn | hn
  ·exact ih n hn
  ·exact KAq _ _ n hn
def PL (k v:List Int) (n:Nat):List Int:=(YA k v ((n+31) / 32)).take n
theorem Rw (k v:List Int) (n:Nat):(PL k v n).length=n:=by grind [PL,YB]
theorem tu (k v:List Int) (n:Nat):Aqy (PL k v n):=fun x hx=>NBK _ _ _ x (List.mem_of_mem_take hx)
def MB (num:Int) (n:Int):Bool:=Bl num 0 1000000000 && Bl n 0 8000
def Xk (k:AA) (num:Int) (n:Int):AA×Bool:=bif MB num n then (ofBytes (PL (bs k) (SN num) n.toNat),true) else (⟨#[]⟩,false)
theorem Ut:∀ {n:Int},0<=n->Aqy (SN n):=by
 intro n;induction n using SN.induct with
 | case1 n hn ih=>
  intro h x hx;rw [SN,if_pos hn] at hx;rcases List.mem_cons.1 hx with rfl | hx
  ·omega
  ·exact ih (by omega) x hx
 | case2 n hn=>
  intro h x hx;grind [SN,bJ]
theorem OBK (k:AA) {num:Int} (hn:0<=num) (hn2:num<=1000000000) (i:Nat) (hi:i<=255) :
  bZ k (((⟨#[109]⟩:AA)++ofBytes (SN num))++ofBytes [(i:Int)])=ofBytes (V7 (bs k) (109::(SN num++[(i:Int)]))):=by
 have e:bs (⟨#[109]⟩:AA)=[109]:=rfl;rw [bZ,Aq7,Aq7,AsM (Ut hn),e,AsM (fun x hx=>by grind)];rfl
def Arm (a b:List Int):List Int:=List.zipWith xb a b
theorem dA {a b:List Int} (h:a.length<=b.length):(Arm a b).length=a.length:=by simp_all [Arm]
theorem Vk (a b:List Int):Aqy (Arm a b):=by
 intro n hn;rw [Arm,List.mem_iff_getElem] at hn;obtain ⟨i,hi,rfl⟩:=hn
 simp [IBK]
theorem WA9 {α:Type} (f:α->α->α):∀ (a b:List α),List.zipWith f a (b.take a.length)=List.zipWith f a b
 | [],_=>rfl
 | _::_,[]=>rfl
 | x::a,y::b=>by simp [WA9]
theorem PBK {a b:List Int} {i:Nat} (h:i<a.length) (h2:i<b.length):(List.zipWith xb (a.take i) (b.take i)++a.drop i).set i (xb a[i] (b.getD i 0))=List.zipWith xb (a.take (i+1)) (b.take (i+1))++a.drop (i+1):=by rw [drop_at h,dG (by grind),take_at h,take_at h2,getD_at h2,List.zipWith_append (by grind),List.append_assoc];rfl
def Aqe (k:List Int) (num:Int) (s:List Int):List Int:=(V7 k (116::(SN num++s))).take 16
theorem oG (k:List Int) (num:Int) (s:List Int):(Aqe k num s).length=16:=by rfl
theorem UH (k:List Int) (num:Int) (s:List Int):Aqy (Aqe k num s):=fun x hx=>KAq _ _ x (List.mem_of_mem_take hx)
def Aru (k:List Int) (num:Int) (s:List Int):List Int:=Arm s (PL k (SN num) s.length)++Aqe k num (Arm s (PL k (SN num) s.length))
def Ti (k:AA) (num:Int) (s:AA):AA×Bool:=bif MB num s.size then (ofBytes (Aru (bs k) num (bs s)),true) else (⟨#[]⟩,false)
def EP (k:AA) (num:Int) (t:AA):AA×Bool:=
 bif decide ((t.size:Int)<16) || !(MB num ((t.size:Int) - 16)) then (⟨#[]⟩,false)
 else bif Aqe (bs k) num ((bs t).take (t.size - 16)) == (bs t).drop (t.size - 16) then (ofBytes (Arm ((bs t).take (t.size - 16)) (PL (bs k) (SN num) (t.size - 16))),true)
 else (⟨#[]⟩,false)
theorem iU {num n:Int}:MB num n=true↔(0<=num/\num<=1000000000)/\0<=n/\n<=8000:=by simp [MB,Na]
theorem QBK {k:AA} {num n:Int} (hk:k.size<=900000000):zT k num n=some (Xk k num n):=by
 rw [zT,GAw,mk,Ho,AP,Xk,MB];cases h:Bl num 0 1000000000;·rfl
 ·rw [Na] at h;rw [AsB (by rfl),Ho,AP];cases h2:Bl n 0 8000;·rfl
  ·rw [Na] at h2;rw [AsB (by rfl),Bool.and_self,Ar];have hv:=Jo (n:=num) (by omega);have hvb:=Ut h.1
   have key:=PV (A:=Unit) (n:=(n.toNat+31) / 32) (Lp:=pK) (st:=fun i _=>.c0 k num n (i:Int) (YA (bs k) (SN num) i)) (Inv:=fun _ _=>True) (out:=fun _ _=>some (ofBytes (PL (bs k) (SN num) n.toNat),true))
    (fun m _ _=>by
     rw [pK];simp only [GAj,mk];rw [AsB (by grind [YB]),AL (by grind [YB])];rfl)
    (fun m i _ hi _=>.inr ⟨(),by
     have e:AV ((i:Int)+1)=((i+1:Nat):Int):=by grind [A8]
     have h9:(⟨#[109]⟩:AA).size=1:=rfl;rw [pK];simp only [GAj,mk,e];rw [AL (by grind [YB]),Ux (by omega),AP,AL (by grind [Dj]),OO (by omega) (by omega),AP,AL (by grind [Dj])];rw [MBK hk (by grind [Dj]),AP,OBK k h.1 h.2 i (by omega),mV,AsM (KAq _ _),AL (by rfl),AL (by grind [YB,JBK])];rfl,trivial,rfl⟩)
   exact key AY 0 () (DJ _) (FM (by omega)) trivial
theorem RBK {a b:AA} (ha:a.size<=140737488351232) (h:a.size<=b.size):zU a b=some (ofBytes (Arm (bs a) (bs b))):=by
 have hl:=bs_len a;have hl2:=bs_len b
 have key:=PV (A:=Unit) (n:=(bs a).length) (Lp:=pO) (st:=fun i _=>.c0 b (i:Int) (List.zipWith xb ((bs a).take i) ((bs b).take i)++(bs a).drop i)) (Inv:=fun _ _=>True) (out:=fun _ _=>some (ofBytes (Arm (bs a) (bs b))))
  (fun m _ _=>by
   grind [pO,HAj,Arm,WA9])
  (fun m i _ hi _=>.inr ⟨(),by
   have e:AV ((i:Int)+1)=((i+1:Nat):Int):=by grind [A8]
   have hlen:(List.zipWith xb ((bs a).take i) ((bs b).take i)++(bs a).drop i).length=(bs a).length:=by grind
   grind [pO,HAj,BR,VA9,Uo,PBK],trivial,rfl⟩)
 rw [zU,HAw,mk,AL (by grind),mV];exact key AY 0 () (DJ _) (FM (by omega)) trivial
theorem SBK {k s:AA} {num:Int} (hk:k.size<=900000000) (hn:0<=num/\num<=1000000000) (hs:s.size<=800000000):zV k num s=some (ofBytes (Aqe (bs k) num (bs s))):=by have hv:=Jo (n:=num) (by omega);have h9:(⟨#[116]⟩:AA).size=1:=rfl;have e:bs (⟨#[116]⟩:AA)=[116]:=rfl;have h16:(16:Int).toNat=16:=rfl;rw [zV,IAw,mk,Ux (by omega),AP,AL (by grind [Dj]),AL (by grind [Dj])];rw [MBK hk (by grind [Dj]),AP,AL (by rfl)];refine congrArg some (Jm ?_);rw [Ls,KBK,h16,AsM (UH _ _ _),Aq7,Aq7,e,AsM (Ut hn.1),Aqe,List.drop_zero,List.append_assoc];rfl
theorem TBK {k s:AA} {num:Int} (hk:k.size<=900000000) (hs:s.size<=800000000):pR k num s=some (Ti k num s):=by
 rw [pR,JAw,mk,QBK hk,AP,Xk,Ti];cases h:MB num s.size;·rfl
 ·have h':=iU.1 h;have hm:=Rw (bs k) (SN num) ((s.size:Int).toNat);have hl:=bs_len s;rw [Ar,Ar,AsB (by rfl),RBK (by omega) (by simp_all [Dj]),AP,AsM (tu _ _ _)];have hx:(Arm (bs s) (PL (bs k) (SN num) (s.size:Int).toNat)).length=s.size:=by simp_all [dA]
  rw [SBK hk h'.1 (by simp_all [Dj]),AP,AsM (Vk _ _),AL (by grind [Dj,oG])];refine congrArg (fun x=>some (x,true)) (Jm ?_)
  rw [Aq7,AsM (Vk _ _),AsM (UH _ _ _),AsM (fun x hx=>by
   rcases List.mem_append.1 hx with hx | hx
   ·exact Vk _ _ x hx
   ·exact UH _ _ _ x hx),Aru,hl]
  rfl
def bW (s:Int):Int:=if s % 2=1 then xr (s / 2) 3558460437 else s / 2
def bV:Nat->Int->Int
 | 0,s=>s
 | n+1,s=>bV n (bW s)
def mM (s:Int) (l:List Int):Int:=l.foldl (fun s b=>bV 8 (xr s b)) s
theorem NBj {s:Int} (h:R32 s):R32 (bW s):=by grind [bW,mJ,R32]
theorem UBK:∀ (n:Nat) {s:Int},R32 s->R32 (bV n s)
 | 0,_,h=>h
 | n+1,_,h=>UBK n (NBj h)
theorem VBK:∀ (l:List Int) {s:Int},R32 s->R32 (mM s l)
 | [],_,h=>h
 | b::l,s,_=>VBK l (UBK 8 (mJ s b))
def Ur (l:List Int):Int:=mM 4294967295 l
theorem X7 (l:List Int):R32 (Ur l):=VBK l (by unfold R32;omega)
theorem OBj (t:AA) (i:Nat) (hi:i<t.size) (ht:t.size<=140737488351232):∀ (j k m:Nat) (s:Int),k+j=8->R32 s->Aqv (m+j+1) (.c1 s t (i:Int) (k:Int))=Aqv m (.c0 (bV j s) t ((i+1:Nat):Int)):=by
 intro j;induction j with
 | zero=>
  intro k m s hk hs;have e:AV ((i:Int)+1)=((i+1:Nat):Int):=by grind [A8]
  rw [Aqv];simp only [pU,mk,e];rw [AsB (by simp_all)];rfl
 | succ j ih=>
  intro k m s hk hs;have e:AV ((k:Int)+1)=((k+1:Nat):Int):=by grind [A8]
  have h2:w32 (s.tdiv 2)=s / 2:=by
   obtain ⟨h1,h2⟩:=hs
   grind [Aq4]
  have h3:s.tmod 2=s % 2:=Int.tmod_eq_emod_of_nonneg hs.1;rw [show m+(j+1)+1=(m+j+1)+1 by omega,Aqv];simp only [pU,mk,e,h2,h3,SH];rw [AL (by grind),bV];by_cases h:s % 2=1;·rw [AL (by simp [h]),ih (k+1) m _ (by omega) (mJ _ _),bW,if_pos h]
  ·rw [AsB (by simp [h]),ih (k+1) m _ (by omega) (by grind [R32]),bW,if_neg h]
theorem PBj {t:AA} {s:Int} (ht:t.size<=140737488351232):IAj s t=some (mM s (bs t)):=by
 have hl:=bs_len t;have key:∀ (j i m:Nat) (s:Int),i+j=t.size->Aqv (m+10*j+1) (.c0 s t (i:Int))=some (mM s ((bs t).drop i)):=by
  intro j;induction j with
  | zero=>
   intro i m s h;rw [Aqv];simp only [pU,mk];rw [AsB (by simp_all),List.drop_of_length_le (by omega)];rfl
  | succ j ih=>
   intro i m s h;have hb:=ArR (Jj t) i;rw [show m+10*(j+1)+1=(m+10*j+1)+8+1+1 by omega,Aqv];simp only [pU,mk,SH];rw [AL (by grind),AL (by grind),Uo (by omega),Aq4 (by omega) (by omega)];have h1:=OBj t i (by omega) ht 8 0 (m+10*j+1) (xr s ((bs t).getD i 0)) (by omega) (mJ _ _);rw [show ((0:Nat):Int)=0 from rfl] at h1;rw [h1,ih (i+1) m _ (by omega),drop_at (by omega:i<(bs t).length),getD_at (by omega)];rfl
 obtain ⟨m,hm⟩:∃ m,AY=m+10*t.size+1:=⟨AY - (10*t.size+1),by have:=FM (n:=10*t.size+1) (by omega);omega⟩
 rw [IAj,KAw,hm];have:=key t.size 0 m s (by omega);assumption
theorem QBj {t:AA} (ht:t.size<=140737488351232):JAj t=some (Ur (bs t)):=by rw [JAj,LAw,PBj ht];rfl
theorem RBj {x:Int} (h:R32 x):KAj x=some (ofBytes (four x)):=by
 obtain ⟨h1,h2⟩:=h
 have e1:Int.fdiv x (2 ^ (Min.min (24:Int).toNat (IntKind.bits IntKind.u32)))=x / 16777216:=Int.fdiv_eq_ediv_of_nonneg _ (by decide);have e2:Int.fdiv x (2 ^ (Min.min (16:Int).toNat (IntKind.bits IntKind.u32)))=x / 65536:=Int.fdiv_eq_ediv_of_nonneg _ (by decide);have e3:Int.fdiv x (2 ^ (Min.min (8:Int).toNat (IntKind.bits IntKind.u32)))=x / 256:=Int.fdiv_eq_ediv_of_nonneg _ (by decide);simp only [KAj,MAw,mk,e1,e2,e3,bJ,four];grind
def GV (l:List Int):List Int:=SN (l.length:Int)++(four (Ur l)++l)
def frameT (t:AA):AA×Bool:=bif Bl (t.size:Int) 1 9000 then (ofBytes (GV (bs t)),true) else (⟨#[]⟩,false)
theorem xJ {l:List Int} (h:Aqy l):Aqy (GV l):=by
 intro x hx;rcases List.mem_append.1 hx with hx | hx
 ·exact Ut (by omega) x hx
 ·rcases List.mem_append.1 hx with hx | hx
  ·exact V6 (X7 l) x hx
  ·exact h x hx
theorem WBK (t:AA):(ofBytes (SN (t.size:Int))++ofBytes (four (Ur (bs t))))++t=ofBytes (GV (bs t)):=by apply Jm;rw [Aq7,Aq7,AsM (Ut (by omega)),AsM (V6 (X7 _)),AsM (xJ (Jj t)),GV,bs_len,List.append_assoc]
theorem XBK {t:AA} (h:t.size<=140737488351232):(frameT t).1.size<=t.size+14:=by
 rw [frameT];cases Bl (t.size:Int) 1 9000;·exact DJ _
 grind [Dj,GV,bs_len,four,Jo]
theorem XA9 {t:AA} (h:t.size<=140737488351232):Yj t=some (frameT t):=by
 rw [Yj,NAw,mk,Ho,AP,frameT];cases h1:Bl (t.size:Int) 1 9000;·rfl
 ·rw [Na] at h1;have:=Jo (n:=(t.size:Int)) (by omega);rw [AsB (by rfl),Ux (by omega),AP,QBj h,AP,RBj (X7 _),AP,AL (by grind [Dj,four])];rw [AL (by grind [Dj,four]),WBK,Ar]
def GZ:AA:=⟨#[98,111,111,107]⟩
def Av6 (k:AA) (count:Int) (r:Ah):List Ef×Bool:=
 bif (AwX r).2 && Bl count 0 10000 then ([⟨1,GZ,(frameT (Ti k (count+1) (AwX r).1).1).1,⟨#[]⟩⟩,⟨2,GZ,⟨#[]⟩,⟨#[]⟩⟩],true) else ([],false)
theorem yZ {k s:AA} {num:Int} (h:0<=num/\num<=1000000000) (hs:s.size<=8000):(Ti k num s).2=true/\(Ti k num s).1=ofBytes (Aru (bs k) num (bs s))/\(Ti k num s).1.size=s.size+16:=by grind [iU,Ti,Dj,Aru,dA,Rw,oG,bs_len]
theorem YA9 {t:AA} (h:1<=t.size/\t.size<=9000):(frameT t).2=true/\(frameT t).1=ofBytes (GV (bs t)):=by grind [Na,frameT]
theorem ZA9 {k:AA} {count:Int} {r:Ah} (hk:k.size<=900000000):pV k count r=some (Av6 k count r):=by
 have hz:=WH r;rw [pV,PAw,mk,dQ,AP,Av6];cases h1:(AwX r).2;·rfl
 rw [AsB (by rfl),Ho,AP,Bool.true_and];cases h2:Bl count 0 10000;·rfl
 rw [Na] at h2;obtain ⟨l1,l2,l3⟩:=yZ (k:=k) (s:=(AwX r).1) (num:=count+1) (by omega) (by omega)
 rw [AsB (by rfl),A8 (by omega) (by omega),TBK hk (by omega),AP,XA9 (by omega)];rfl
theorem YBK (s:AA):pW s=some (Bl (s.size:Int) 1 8):=by simp [pW,QAw,mk,Ho]
def Awz (f:BQ):Bool:=Bl (f.fName.size:Int) 1 8 && (!decide ((f.fText.size:Int) > 20000) && Bl f.J3 0 (f.fText.size:Int))
def LM:AA->List BQ->Bool
 | _,[]=>true
 | p,f::fs=>Awz f && (Op.bytesLess p.toList f.fName.toList && LM f.fName fs)
def V5 (l:List BQ):Nat->AA
 | 0=>⟨#[]⟩
 | i+1=>((l[i]?).map (·.fName)).getD ⟨#[]⟩
theorem ANG {l:List BQ} {i:Nat} (hi:i<l.length):V5 l (i+1)=l[i].fName:=by simp [V5,hi]
theorem ZBK {l:List BQ} {i:Nat} (hi:i<l.length):LM (V5 l i) (l.drop i)=(Awz l[i] && (Op.bytesLess (V5 l i).toList l[i].fName.toList && LM (V5 l (i+1)) (l.drop (i+1)))):=by grind [drop_at,LM,ANG]
def Ave (d:BU):Bool:=decide ((d.Ak.length:Int)<=30) && LM ⟨#[]⟩ d.Ak
theorem xw {s:AA} (h:1<=s.size):Op.bytesLess (⟨#[]⟩:AA).toList s.toList=true:=by
 rw [ByteArray.toList_eq,ByteArray.toList_eq];obtain ⟨⟨l⟩⟩:=s
 cases l with
 | nil=>exact absurd h (Nat.not_succ_le_zero 0)
 | cons x l=>rfl
def AwR:List BQ->AA->Nat->Option Nat
 | [],_,_=>none
 | f::fs,n,i=>if f.fName.toList == n.toList then some i else AwR fs n (i+1)
theorem aF {n:AA}:∀ {fs:List BQ} {i j:Nat},AwR fs n i=some j->i<=j/\j<i+fs.length:=by intro fs;induction fs<;>grind [AwR]
def AwN (d:BU) (n:AA):Int:=match AwR d.Ak n 0 with | some j=>(j:Int) | none=> -1
def oK:BQ:=⟨⟨#[]⟩,⟨#[]⟩,0⟩
def Ih (d:BU) (n:AA):AA×Bool:=match AwR d.Ak n 0 with | some j=>((d.Ak.getD j oK).fText,true) | none=>(⟨#[]⟩,false)
theorem LAq (d:BU):WT d=some (Ave d):=by
 rw [WT,RAw,mk,Ave];by_cases h0:(d.Ak.length:Int)<=30
 ·rw [AsB (by simp_all),Ba h0,Bool.true_and];have key:∀ (j i m:Nat),i+j=d.Ak.length->pX (m+j+1) (.c0 (i:Int) d)=some (LM (V5 d.Ak i) (d.Ak.drop i)):=by
   intro j;induction j with
   | zero=>
    intro i m h;obtain rfl:i=d.Ak.length:=by omega
    rw [pX];simp only [LAj,mk];rw [AsB (by simp),List.drop_length];rfl
   | succ j ih=>
    intro i m h;have hi:i<d.Ak.length:=by omega
    have e:AV ((i:Int)+1)=((i+1:Nat):Int):=by grind [A8]
    have h2:=ih (i+1) m (by omega);rw [show m+(j+1)+1=(m+j+1)+1 by omega,pX];simp only [LAj,mk,e,BR,getD_at hi,YBK,Ho,AP];rw [AL (by simp_all),AL (by simp_all),ZBK hi,Awz,h2];cases hn:Bl (d.Ak[i].fName.size:Int) 1 8;·rfl
    cases decide ((d.Ak[i].fText.size:Int) > 20000)
    ·cases Bl d.Ak[i].J3 0 (d.Ak[i].fText.size:Int);·rfl
     ·by_cases hz:i=0;·grind [Na,V5,xw]
      ·obtain ⟨i',rfl⟩:∃ q,i=q+1:=⟨i - 1,by omega⟩
       grind [A8,ANG]
    ·rfl
  obtain ⟨m,hm⟩:=gm (n:=d.Ak.length) (by omega)
  rw [hm];exact key d.Ak.length 0 m (by omega)
 simp_all [D6]
theorem BBA {d:BU} {n:AA} (h0:d.Ak.length<=140737488351232):pY d n=some (AwN d n):=by
 have key:∀ (j i m:Nat),i+j=d.Ak.length->pq (m+j+1) (.c0 n (i:Int) d)=some (match AwR (d.Ak.drop i) n i with | some j=>(j:Int) | none=> -1):=by
  intro j;induction j with
  | zero=>
   intro i m h;obtain rfl:i=d.Ak.length:=by omega
   rw [pq];simp only [NAj,mk];rw [AsB (by simp),List.drop_length];rfl
  | succ j ih=>
   intro i m h;have hi:i<d.Ak.length:=by omega
   have e:AV ((i:Int)+1)=((i+1:Nat):Int):=by grind [A8]
   grind [pq,NAj,BR,drop_at,AwR]
 obtain ⟨m,hm⟩:=gm (n:=d.Ak.length) (by omega)
 rw [pY,SAw,hm,AwN];exact key d.Ak.length 0 m (by omega)
theorem zW:∀ l:List UInt8,Op.bytesLess l l=false:=by intro l;induction l<;>simp_all [Op.bytesLess]
theorem CBA:∀ {a b c:List UInt8},Op.bytesLess a b=true->Op.bytesLess b c=true->Op.bytesLess a c=true:=by
 intro a;induction a with
 | nil=>
  intro b c h1 h2;cases c with
  | nil=>cases b <;> simp [Op.bytesLess] at h2
  | cons=>rfl
 | cons x a ih=>
  intro b c h1 h2;cases b with
  | nil=>simp [Op.bytesLess] at h1
  | cons y b=>
   cases c with
   | nil=>simp [Op.bytesLess] at h2
   | cons z c=>
    simp only [Op.bytesLess,Bool.or_eq_true,Bool.and_eq_true,decide_eq_true_eq,beq_iff_eq] at h1 h2 ⊢;rcases h1 with h1 | ⟨rfl,h1⟩ <;> rcases h2 with h2 | ⟨rfl,h2⟩
    ·exact .inl (UInt8.lt_trans h1 h2)
    ·exact .inl h1
    ·exact .inl h2
    ·exact .inr ⟨rfl,ih h1 h2⟩
theorem SBj:∀ {a b:List UInt8},Op.bytesLess a b=false->a≠b->Op.bytesLess b a=true:=by
 intro a;induction a with
 | nil=>
  intro b h1 h2;cases b with
  | nil=>exact absurd rfl h2
  | cons=>simp [Op.bytesLess] at h1
 | cons x a ih=>
  intro b h1 h2;cases b with
  | nil=>rfl
  | cons y b=>
   simp only [Op.bytesLess,Bool.or_eq_false_iff,decide_eq_false_iff_not,Bool.and_eq_false_iff,beq_eq_false_iff_ne] at h1;simp only [Op.bytesLess,Bool.or_eq_true,Bool.and_eq_true,decide_eq_true_eq,beq_iff_eq];obtain ⟨h3,h4⟩:=h1
   by_cases he:x=y;·subst he;refine .inr ⟨rfl,ih (h4.resolve_left (fun h=>h rfl)) (fun h=>h2 (by rw [h]))⟩
   ·refine .inl (UInt8.lt_of_le_of_ne (UInt8.not_lt.1 h3) (Ne.symm he))
theorem DBA {a b:List UInt8} (h:Op.bytesLess a b=true):Op.bytesLess b a=false:=by
 cases h2:Op.bytesLess b a;·rfl
 ·have:=CBA h h2;rw [zW] at this;cases this
theorem EBA {a b:List UInt8} (h:Op.bytesLess a b=true):a≠b:=by rintro rfl;rw [zW] at h;cases h
def Me (l:List BQ) (n:AA):List BQ:=l.filter fun f=> !(f.fName.toList == n.toList)
def NH (l:List BQ) (n:AA):List BQ:=l.filter fun f=>Op.bytesLess f.fName.toList n.toList
def KZ (l:List BQ) (n:AA):List BQ:=l.filter fun f=> !(Op.bytesLess f.fName.toList n.toList || (f.fName.toList == n.toList))
def Awh (l:List BQ) (f:BQ):List BQ:=NH l f.fName++[f]++KZ l f.fName
def Yk:List BQ->AA->List BQ
 | [],_=>[]
 | g::gs,n=>bif g.fName.toList == n.toList then gs else g::Yk gs n
def WJ:List BQ->BQ->List BQ
 | [],f=>[f]
 | g::gs,f=>bif Op.bytesLess g.fName.toList f.fName.toList then g::WJ gs f else f::g::gs
def Sorted (l:List BQ):Prop:=l.Pairwise fun a b=>Op.bytesLess a.fName.toList b.fName.toList=true
theorem TBj:∀ {l:List BQ} {p:AA},LM p l=true->Sorted l/\∀ f ∈ l,Op.bytesLess p.toList f.fName.toList=true:=by
 intro l;induction l with
 | nil=>intro p _;exact ⟨List.Pairwise.nil,fun f hf=>by cases hf⟩
 | cons g gs ih=>
  intro p h;rw [LM,Bool.and_eq_true,Bool.and_eq_true] at h;obtain ⟨h1,h2⟩:=ih h.2.2
  refine ⟨List.Pairwise.cons h2 h1,fun f hf=>?_⟩;rcases List.mem_cons.1 hf with rfl | hf
  ·exact h.2.1
  ·exact CBA h.2.1 (h2 f hf)
theorem UBj {d:BU} (h:Ave d=true):Sorted d.Ak:=by rw [Ave,Bool.and_eq_true] at h;exact (TBj h.2).1
theorem FBA {l:List BQ} {n:AA} (h:∀ f ∈ l,Op.bytesLess n.toList f.fName.toList=true):Me l n=l/\NH l n=[]/\KZ l n=l:=by
 refine ⟨List.filter_eq_self.2 fun f hf=>?_,List.filter_eq_nil_iff.2 fun f hf=>?_,List.filter_eq_self.2 fun f hf=>?_⟩;·rw [show (f.fName.toList == n.toList)=false from beq_eq_false_iff_ne.2 (Ne.symm (EBA (h f hf)))];rfl
 ·rw [DBA (h f hf)];exact Bool.false_ne_true
 ·rw [DBA (h f hf),show (f.fName.toList == n.toList)=false from beq_eq_false_iff_ne.2 (Ne.symm (EBA (h f hf)))];rfl
theorem VBj:∀ {l:List BQ} {n:AA},Sorted l->Yk l n=Me l n:=by
 intro l;induction l with
 | nil=>intro n _;rfl
 | cons g gs ih=>
  intro n h;obtain ⟨h1,h2⟩:=List.pairwise_cons.1 h
  rw [Yk,Me,List.filter_cons];cases he:g.fName.toList == n.toList;·rw [Aq,Bool.not_false,if_pos rfl,ih h2,Me]
  ·rw [Ar,DN,if_neg Bool.false_ne_true];rw [beq_iff_eq] at he;exact (FBA (n:=n) (fun f hf=>by have:=h1 f hf;rwa [he] at this)).1.symm
theorem WBj:∀ {l:List BQ} {n:AA} {i:Nat},match AwR l n i with | some j=>l.take (j - i)++l.drop (j - i+1)=Yk l n | none=>Yk l n=l:=by
 intro l;induction l with
 | nil=>intro n i;rfl
 | cons g gs ih=>
  intro n i;rw [AwR,Yk];cases he:g.fName.toList == n.toList
  ·rw [if_neg Bool.false_ne_true,Aq];have:=ih (n:=n) (i:=i+1);cases hp:AwR gs n (i+1) with
   | none=>rw [hp] at this;show g::Yk gs n=g::gs;rw [this]
   | some j=>
    rw [hp] at this;have hj:=(aF hp).1;show (g::gs).take (j - i)++(g::gs).drop (j - i+1)=g::Yk gs n;rw [<-this,show j - i=(j - (i+1))+1 by omega,List.take_succ_cons,List.drop_succ_cons];rfl
  ·rw [if_pos rfl,Ar];show (g::gs).take (i - i)++(g::gs).drop (i - i+1)=gs;rw [Nat.sub_self];rfl
theorem XBj {f:BQ}:∀ {l:List BQ},Sorted l->WJ (Me l f.fName) f=Awh l f:=by
 intro l;induction l with
 | nil=>intro _;rfl
 | cons g gs ih=>
  intro h;obtain ⟨h1,h2⟩:=List.pairwise_cons.1 h
  cases hl:Op.bytesLess g.fName.toList f.fName.toList
  ·have hins:WJ gs f=f::gs\/True:=.inr trivial;by_cases he:g.fName.toList=f.fName.toList
   ·have ho:=FBA (l:=gs) (n:=f.fName) (fun x hx=>by have:=h1 x hx;rwa [he] at this);have hb:(g.fName.toList == f.fName.toList)=true:=beq_iff_eq.2 he;have e1:Me (g::gs) f.fName=gs:=by rw [Me,List.filter_cons,hb];exact ho.1
    have e2:NH (g::gs) f.fName=[]:=by rw [NH,List.filter_cons,hl];exact ho.2.1
    have e3:KZ (g::gs) f.fName=gs:=by rw [KZ,List.filter_cons,hl,hb];exact ho.2.2
    rw [e1,Awh,e2,e3];cases gs with
    | nil=>rfl
    | cons x xs=>
     have hx:=h1 x (List.mem_cons_self ..);rw [he] at hx;rw [WJ,DBA hx];rfl
   ·have hg:=SBj hl he
    have ho:=FBA (l:=g::gs) (n:=f.fName) (fun x hx=>by
     rcases List.mem_cons.1 hx with rfl | hx
     ·exact hg
     ·exact CBA hg (h1 x hx))
    rw [ho.1,Awh,ho.2.1,ho.2.2,WJ,hl];rfl
  ·have hb:(g.fName.toList == f.fName.toList)=false:=beq_eq_false_iff_ne.2 (EBA hl);have e1:Me (g::gs) f.fName=g::Me gs f.fName:=by rw [Me,List.filter_cons,hb];rfl
   have e2:NH (g::gs) f.fName=g::NH gs f.fName:=by rw [NH,List.filter_cons,hl];rfl
   have e3:KZ (g::gs) f.fName=KZ gs f.fName:=by rw [KZ,List.filter_cons,hl];rfl
   rw [e1,WJ,hl,Ar,ih h2,Awh,Awh,e2,e3];rfl
theorem MAq {α:Type} {l:List α} {p:α->Bool} {i:Nat} (hi:i<l.length):(l.drop i).filter p=(bif p l[i] then [l[i]] else [])++(l.drop (i+1)).filter p:=by grind [drop_at]
theorem AXQ (n:AA):∀ l:List BQ,(NH l n).length+(KZ l n).length<=l.length:=by intro l;induction l<;>grind [NH,KZ]
theorem BBL {d:BU} {f:BQ} (h:d.Ak.length*40<=140737488351232):OAj d f=some ⟨Awh d.Ak f⟩:=by
 have k1:∀ (j i m:Nat) (out:List BQ),i+j=d.Ak.length->out.length+(KZ (d.Ak.drop i) f.fName).length<=d.Ak.length+1->Aqa (m+j+1) (.c1 (i:Int) d f [] out)=some ⟨out++KZ (d.Ak.drop i) f.fName⟩:=by
  intro j;induction j with
  | zero=>
   simp_all [Aqa,pz,mk,KZ]
  | succ j ih=>
   intro i m out hi ho;have hil:i<d.Ak.length:=by omega
   have hw:AV ((i:Int)+1)=((i+1:Nat):Int):=by grind [A8]
   rw [KZ,MAq hil,List.length_append] at ho;rw [AwB m j,Aqa];simp only [pz,mk,show decide ((i:Int)<(d.Ak.length:Int))=true from Ba (by omega),show decide ((0:Int)<=(i:Int))=true from Ba (by omega),Bool.and_self,Ar,BR,hw,getD_at hil];rw [KZ,MAq hil];cases hp : !(Op.bytesLess d.Ak[i].fName.toList f.fName.toList || (d.Ak[i].fName.toList == f.fName.toList));·rw [hp] at ho;rw [Aq,Aq,ih (i+1) m _ (by omega) (by simp_all [KZ])];rfl
   ·rw [hp,Ar] at ho;have ho':out.length+(1+(KZ (d.Ak.drop (i+1)) f.fName).length)<=d.Ak.length+1:=ho;rw [Ar,AL (Ba (by omega)),ih (i+1) m _ (by omega) (by grind),Ar,List.append_assoc];rfl
 have k0:∀ (j i m:Nat) (out:List BQ),i+j=d.Ak.length->out.length<=i->Aqa (m+d.Ak.length+1+j+1) (.c0 (i:Int) d f [] out)=Aqa (m+d.Ak.length+1) (.c1 0 d f [] (out++NH (d.Ak.drop i) f.fName++[f])):=by
  intro j;induction j with
  | zero=>
   intro i m out hi ho;rw [Aqa];grind [pz,NH]
  | succ j ih=>
   intro i m out hi ho;have hil:i<d.Ak.length:=by omega
   have hw:AV ((i:Int)+1)=((i+1:Nat):Int):=by grind [A8]
   rw [show m+d.Ak.length+1+(j+1)+1=(m+d.Ak.length+1+j+1)+1 from rfl,Aqa];simp only [pz,mk,show decide ((i:Int)<(d.Ak.length:Int))=true from Ba (by omega),show decide ((0:Int)<=(i:Int))=true from Ba (by omega),Bool.and_self,Ar,BR,hw,getD_at hil];rw [NH,MAq hil];cases Op.bytesLess d.Ak[i].fName.toList f.fName.toList;·rw [Aq,Aq,ih (i+1) m _ (by omega) (by omega)];rfl
   ·rw [Ar,AL (Ba (by omega)),ih (i+1) m _ (by omega) (by simp_all),Ar];simp [NH]
 obtain ⟨m,hm⟩:∃ m,AY=m+d.Ak.length+1+d.Ak.length+1:=⟨AY - (d.Ak.length+1+d.Ak.length+1),by have:=FM (n:=2*d.Ak.length+2) (by omega);omega⟩
 have hlh:=AXQ f.fName d.Ak;rw [OAj,UAw,hm];refine (k0 d.Ak.length 0 m [] (Nat.zero_add _) (Nat.le_refl _)).trans ((k1 d.Ak.length 0 m _ (Nat.zero_add _) (by grind)).trans ?_);rfl
theorem YBj {d:BU} {n:AA} (h:d.Ak.length*40<=140737488351232):QAj d n=some ⟨Me d.Ak n⟩:=by
 have key:∀ (j i m:Nat) (out:List BQ),i+j=d.Ak.length->out.length<=i->qA (m+j+1) (.c0 n (i:Int) d [] out)=some ⟨out++Me (d.Ak.drop i) n⟩:=by
  intro j;induction j with
  | zero=>
   simp_all [qA,PAj,mk,Me]
  | succ j ih=>
   intro i m out hi ho;have hil:i<d.Ak.length:=by omega
   have hw:AV ((i:Int)+1)=((i+1:Nat):Int):=by grind [A8]
   have d1:decide ((i:Int)<(d.Ak.length:Int))=true:=Ba (by omega);have d0:decide ((0:Int)<=(i:Int))=true:=Ba (by omega);have d2:decide ((out.length+1)*40<=140737488355328)=true:=Ba (by omega);rw [AwB m j,qA];simp only [PAj,mk,d0,d1,d2,Bool.and_self,Ar,BR,hw,getD_at hil];rw [ih (i+1) m _ (by omega) (by simp_all),ih (i+1) m _ (by omega) (by omega),Me,Me,MAq hil];grind
 obtain ⟨m,hm⟩:=gm (n:=d.Ak.length) (by omega)
 rw [QAj,VAw,hm];exact key d.Ak.length 0 m [] (Nat.zero_add _) (Nat.le_refl _)
def doneD (l:List BQ):BU×Bool:=bif Ave ⟨l⟩ then (⟨l⟩,true) else (⟨[]⟩,false)
def YJ (d:BU) (a:Ef) (f:BQ):BU×Bool:=
 bif a.Aj == 1 then doneD (Awh d.Ak ⟨f.fName,f.fText++a.fText,f.J3⟩)
 else bif a.Aj == 2 then doneD (Awh d.Ak ⟨f.fName,f.fText,(f.fText.size:Int)⟩)
 else bif a.Aj == 3 then (bif decide (f.J3<(f.fText.size:Int)) || (a.I8.toList == a.fName.toList) then (⟨[]⟩,false) else doneD (Awh (Me d.Ak a.fName) ⟨a.I8,f.fText,f.J3⟩))
 else bif a.Aj == 4 then doneD (Me d.Ak a.fName) else (⟨[]⟩,false)
def Aqd (d:BU) (a:Ef):BU×Bool:=
 bif Ave d && ((a.Aj == 3 || a.I8.toList == (⟨#[]⟩:AA).toList) && (a.Aj == 1 || a.fText.toList == (⟨#[]⟩:AA).toList)) then
  match AwR d.Ak a.fName 0 with
  | some j=>YJ d a (d.Ak.getD j oK)
  | none=>bif a.Aj == 1 then doneD (Awh d.Ak ⟨a.fName,(⟨#[]⟩:AA)++a.fText,0⟩) else (⟨[]⟩,false)
 else (⟨[]⟩,false)
theorem ZBj:∀ {l:List BQ} {p:AA},LM p l=true->∀ f ∈ l,Awz f=true:=by intro l;induction l<;>grind [LM]
theorem oJ {d:BU} (h:Ave d=true):d.Ak.length<=30/\∀ f ∈ d.Ak,Awz f=true:=by grind [Ave,ZBj]
theorem yg {f:BQ}:Awz f=true↔(1<=(f.fName.size:Int)/\(f.fName.size:Int)<=8)/\(f.fText.size:Int)<=20000/\0<=f.J3/\f.J3<=(f.fText.size:Int):=by simp [Awz,Na]
theorem CBL {l:List BQ} {f:BQ} (hf:f ∈ l) (h:Awz f=false):doneD l=(⟨[]⟩,false):=by
 rw [doneD];cases hd:Ave ⟨l⟩;·rfl
 ·rw [(oJ hd).2 f hf] at h;cases h
theorem DBL (l:List BQ) (f:BQ):f ∈ Awh l f:=by rw [Awh];simp
theorem EBL {f:BQ} (h:Bl (f.fName.size:Int) 1 8=false):Awz f=false:=by rw [Awz,h];rfl
theorem FBL (l:List BQ) (n:AA):(Me l n).length<=l.length:=List.length_filter_le _ _
theorem Ahf {l:List BQ} {n:AA} (h:Sorted l):Sorted (Me l n):=List.Pairwise.filter _ h
theorem BBk {n:AA}:∀ {fs:List BQ} {i j:Nat},AwR fs n i=some j->(fs.getD (j - i) oK).fName.toList=n.toList:=by
 intro fs;induction fs with
 | nil=>intro i j h;cases h
 | cons f fs ih=>
  intro i j h;rw [AwR] at h;split at h;·simp_all
  ·have h1:=ih h;have h2:=(aF h).1;grind
theorem GBA {d:BU} {n:AA} {j:Nat} (h:Ave d=true) (hp:AwR d.Ak n 0=some j):j<d.Ak.length/\Awz (d.Ak.getD j oK)=true/\Bl (n.size:Int) 1 8=true/\(d.Ak.getD j oK).fName=n:=by have h1:=(aF hp).2;have h2:=BBk hp;grind [Awz,oJ,toList_inj]
theorem CBk {d:BU} {a:Ef} (hd:d.Ak.length*40<=140737488351232) (ha:a.fText.size<=140737488351232):zX d a=some (Aqd d a):=by
 have ho:=FBL d.Ak a.fName;rw [zX,WAw,mk,Aqd];simp only [LAq,YBK,BBA (d:=d) (n:=a.fName) (by omega),YBj (d:=d) (n:=a.fName) hd,fun f=>BBL (d:=d) (f:=f) hd,fun f=>BBL (d:=⟨Me d.Ak a.fName⟩) (f:=f) (show (Me d.Ak a.fName).length*40<=_ by omega),AP,bne];cases hdk:Ave d;·rfl
 obtain ⟨hl,hok⟩:=oJ hdk
 have fin:∀ l:List BQ,(bif !Ave ⟨l⟩ then some ((⟨[]⟩:BU),false) else some (⟨l⟩,true))=some (doneD l):=fun l=>by grind [doneD]
 simp only [fin,Bool.true_and];cases hn:Bl (a.fName.size:Int) 1 8;·grind [GBA,CBL,DBL,EBL]
 have ht:∀ f,Awz f=true->f.fText.size+a.fText.size<=9223372036854775807:=fun f hf=>by grind [yg]
 have hto:Bl (a.I8.size:Int) 1 8=false->∀ f:BQ,doneD (Awh (Me d.Ak a.fName) ⟨a.I8,f.fText,f.J3⟩)=(⟨[]⟩,false):=fun h f=>CBL (DBL _ _) (EBL h)
 have key:∀ f:BQ,(bif !Bl (a.I8.size:Int) 1 8 then some ((⟨[]⟩:BU),false) else some (doneD (Awh (Me d.Ak a.fName) ⟨a.I8,f.fText,f.J3⟩)))=some (doneD (Awh (Me d.Ak a.fName) ⟨a.I8,f.fText,f.J3⟩)):=fun f=>by grind
 simp only [DN,Aq];cases hp:AwR d.Ak a.fName 0 with
 | some j=>
  obtain ⟨hj,hfo,_,_⟩:=GBA hdk hp
  simp only [show AwN d a.fName=(j:Int) by rw [AwN,hp],BR,show decide ((j:Int)>=0)=true from Ba (by omega),show decide ((j:Int)<0)=false from D6 (by omega),show decide ((j:Int)<(d.Ak.length:Int))=true from Ba (by omega),Bool.and_self,Ar,Aq];grind [YJ]
 | none=>
  have hs:decide ((⟨#[]⟩:AA).size+a.fText.size<=9223372036854775807)=true:=Ba (by show 0+a.fText.size<=_;omega);grind [AwN]
def FT:BU->List Ef->Int->BU×Int
 | d,[],i=>(d,i)
 | d,a::r,i=>bif (Aqd d a).2 then FT (Aqd d a).1 r (i+1) else (d,i)
theorem GBL {l:List BQ} (h:(doneD l).2=true):Ave (doneD l).1=true:=by grind [doneD]
theorem DBk {d:BU} {a:Ef} {f:BQ} (h:(YJ d a f).2=true):Ave (YJ d a f).1=true:=by grind [YJ,GBL]
theorem HBL {d:BU} {a:Ef} (h:(Aqd d a).2=true):Ave (Aqd d a).1=true:=by grind [Aqd,DBk,GBL]
theorem HBA {d:BU} {l:List Ef} (hd:d.Ak.length*40<=140737488351232) (hl:l.length<=140737488351232) (ha:∀ a ∈ l,a.fText.size<=140737488351232):qB d l=some (FT d l 0):=by
 have key:∀ (j i m:Nat) (out:List BQ),i+j=l.length->out.length*40<=140737488351232->qC (m+j+1) (.c0 l (i:Int) [] out)=some (FT ⟨out⟩ (l.drop i) (i:Int)):=by
  intro j;induction j with
  | zero=>
   simp_all [qC,RAj,mk,FT]
  | succ j ih=>
   intro i m out hi ho;have hil:i<l.length:=by omega
   have hw:AV ((i:Int)+1)=((i+1:Nat):Int):=by grind [A8]
   rw [AwB m j,qC];simp only [RAj,mk,show decide ((i:Int)<(l.length:Int))=true from Ba (by omega),show decide ((0:Int)<=(i:Int))=true from Ba (by omega),Bool.and_self,Ar,BR,hw,getD_at hil,CBk (d:=⟨out⟩) (a:=l[i]) ho (ha _ (List.getElem_mem hil)),AP];rw [drop_at hil,FT];cases hr:(Aqd ⟨out⟩ l[i]).2;·rfl
   ·have h30:=(oJ (HBL hr)).1;rw [DN,Aq,Ar,ih (i+1) m _ (by omega) (by omega)];rfl
 obtain ⟨m,hm⟩:=gm (n:=l.length) (by omega)
 rw [qB,XAw,mk,AL (Ba (by omega)),hm];exact key l.length 0 m _ (Nat.zero_add _) hd
theorem IBL (t:AA):(frameT t).1.size<=9100:=by
 rw [frameT];cases h:Bl (t.size:Int) 1 9000;·exact DJ _
 grind [Na,Jo,Dj,GV,bs_len,four]
def IBA:Ap:=⟨⟨#[]⟩,false,⟨[]⟩,⟨⟨#[]⟩,0,[],0,⟨#[]⟩,0⟩,[],[],0⟩
theorem JBL (k:AA) (c:Int) (r:Ah):(Av6 k c r).1.length<=2/\∀ a ∈ (Av6 k c r).1,a.fText.size<=140737488351232:=by
 rw [Av6];cases (AwX r).2 && Bl c 0 10000;·simp
 ·refine ⟨Nat.le_refl _,fun a h=>?_⟩;rw [Ar] at h;rcases List.mem_cons.1 h with rfl | h
  ·grind [IBL]
  ·rw [List.mem_singleton.1 h];exact DJ _
theorem JBA {k:AA} {d:BU} {c:Int} {r:Ah} (hk:k.size<=900000000) (hd:d.Ak.length*40<=140737488351232):aO k d c r=some (FT d (Av6 k c r).1 0).1:=by
 obtain ⟨h1,h2⟩:=JBL k c r
 rw [aO,ZAw,ZA9 hk,AP,HBA hd (by omega) h2];rfl
theorem NAq {n:Nat} (h:n<=1000000000):X9 (n:Int)=some (ofBytes (List.replicate n 0)):=by simp only [X9,ZA1,mk,BR];grind
theorem OAq {x:Int} (h:R32 x):WU x=some (ofBytes (four x)):=by
 obtain ⟨h1,h2⟩:=h
 have e1:Int.fdiv x (2 ^ (Min.min (24:Int).toNat (IntKind.bits IntKind.u32)))=x / 16777216:=Int.fdiv_eq_ediv_of_nonneg _ (by decide);have e2:Int.fdiv x (2 ^ (Min.min (16:Int).toNat (IntKind.bits IntKind.u32)))=x / 65536:=Int.fdiv_eq_ediv_of_nonneg _ (by decide);have e3:Int.fdiv x (2 ^ (Min.min (8:Int).toNat (IntKind.bits IntKind.u32)))=x / 256:=Int.fdiv_eq_ediv_of_nonneg _ (by decide);simp only [WU,AQE,mk,e1,e2,e3,bJ,four];grind
theorem EBk {n:Nat} (h:n<1099511627776):EAm (n:Int)=some (ofBytes (Awp (n:Int))):=by
 have e1:Int.fdiv (n:Int) (2 ^ (Min.min (32:Int).toNat (IntKind.bits IntKind.i64)))=(n:Int) / 4294967296:=Int.fdiv_eq_ediv_of_nonneg _ (by decide);simp only [EAm,BA2,mk,e1,OAq (Oc _),AP];rw [AL (by rfl)];congr 1;apply Jm
 rw [Aq7,AsM (V6 (Oc _)),AsM (V6 (Oc _)),AsM (fun x hx=>by
  simp only [Awp,List.mem_cons,List.not_mem_nil,or_false] at hx;omega)]
 simp only [four,Awp,zH,List.cons_append,List.nil_append,List.cons.injEq,and_true];omega
theorem FBk {n:Nat} (h:n<=100000000000):FAm (n:Int)=some (ofBytes (Uh n)):=by
 have e1:(AV (119 - ((n:Int).tmod 64))).tmod 64=(((119 - n % 64) % 64:Nat):Int):=by grind [A8]
 have e2:AV (8*(n:Int))=((8*n:Nat):Int):=by grind [A8]
 have h0:(⟨#[128]⟩:AA).size=1:=rfl;simp only [FAm,CA2,mk,e1,e2,NAq (n:=(119 - n % 64) % 64) (by omega),EBk (n:=8*n) (by omega),AP];rw [AL (by grind [Dj]),AL (by rw [ByteArray.size_append,Dj,Dj];simp [h0,Awp];omega)];congr 1;apply Jm;have hb:Aqy (List.replicate ((119 - n % 64) % 64) (0:Int)):=fun x hx=>by grind
 have hb2:Aqy (Awp ((8*n:Nat):Int)):=fun x hx=>by simp only [Awp,List.mem_cons,List.not_mem_nil,or_false] at hx;omega
 rw [Aq7,Aq7,AsM hb,AsM hb2,AsM (MA9 n),Uh];rfl
theorem GBk {x:Int} (h:R32 x) (n:Nat) (hn:0<n) (hn2:n<32) (k:Int) (hk:wu64 (((BitVec.toNat ((BitVec.ofInt (IntKind.bits IntKind.u64) (wu64 k)) &&& (BitVec.ofInt (IntKind.bits IntKind.u64) (31:Int)))):Nat):Int)=((32 - n:Nat):Int))
  (hk2:wu64 (32 - ((32 - n:Nat):Int))=(n:Int)):GAm x k=some (rt (2 ^ n) (2 ^ (32 - n)) x):=by
 have e1:Min.min ((32 - n:Nat):Int).toNat (IntKind.bits IntKind.u32)=32 - n:=by show Min.min ((32 - n:Nat):Int).toNat 32=_;omega
 have e2:Min.min (n:Int).toNat (IntKind.bits IntKind.u32)=n:=by show Min.min (n:Int).toNat 32=_;omega
 have e3:Int.fdiv x (2 ^ n)=x / 2 ^ n:=Int.fdiv_eq_ediv_of_nonneg _ (Int.le_of_lt (Int.pow_pos (by omega)));simp only [GAm,DA2,mk,hk,hk2,e1,e2,e3];grind [DBJ,NBh]
theorem U6 {x:Int} (h:R32 x) (n:Nat) (hn:0<n) (hn2:n<32) (hk:wu64 (((BitVec.toNat ((BitVec.ofInt (IntKind.bits IntKind.u64) (wu64 (AV (0 - (n:Int))))) &&& (BitVec.ofInt (IntKind.bits IntKind.u64) (31:Int)))):Nat):Int)=((32 - n:Nat):Int))
  (hk2:wu64 (32 - ((32 - n:Nat):Int))=(n:Int)):Av9 x (n:Int)=some (rt (2 ^ n) (2 ^ (32 - n)) x):=by
 simp only [Av9,EA2,mk,GBk h n hn hn2 _ hk hk2,AP]
theorem HBk {x:Int} (h:R32 x):Av9 x 2=some (rt 4 1073741824 x):=U6 h 2 (by decide) (by decide) (by decide) (by decide)
theorem IBk {x:Int} (h:R32 x):Av9 x 13=some (rt 8192 524288 x):=U6 h 13 (by decide) (by decide) (by decide) (by decide)
theorem JBk {x:Int} (h:R32 x):Av9 x 22=some (rt 4194304 1024 x):=U6 h 22 (by decide) (by decide) (by decide) (by decide)
theorem KBk {x:Int} (h:R32 x):Av9 x 6=some (rt 64 67108864 x):=U6 h 6 (by decide) (by decide) (by decide) (by decide)
theorem LBk {x:Int} (h:R32 x):Av9 x 11=some (rt 2048 2097152 x):=U6 h 11 (by decide) (by decide) (by decide) (by decide)
theorem MBk {x:Int} (h:R32 x):Av9 x 25=some (rt 33554432 128 x):=U6 h 25 (by decide) (by decide) (by decide) (by decide)
theorem NBk {x:Int} (h:R32 x):Av9 x 7=some (rt 128 33554432 x):=U6 h 7 (by decide) (by decide) (by decide) (by decide)
theorem OBk {x:Int} (h:R32 x):Av9 x 18=some (rt 262144 16384 x):=U6 h 18 (by decide) (by decide) (by decide) (by decide)
theorem PBk {x:Int} (h:R32 x):Av9 x 17=some (rt 131072 32768 x):=U6 h 17 (by decide) (by decide) (by decide) (by decide)
theorem QBk {x:Int} (h:R32 x):Av9 x 19=some (rt 524288 8192 x):=U6 h 19 (by decide) (by decide) (by decide) (by decide)
theorem RBk {a b:Int} (ha:0<=a/\a<16777216) (hb:0<=b/\b<=255):zI (w32 (a*256)) (w32 b)=a*256+b:=by
 obtain ⟨x,rfl⟩:∃ x:Nat,a=(x:Int):=⟨a.toNat,by omega⟩
 obtain ⟨y,rfl⟩:∃ y:Nat,b=(y:Int):=⟨b.toNat,by omega⟩
 rw [Aq4 (by omega) (by omega),Aq4 (by omega) (by omega)];have:=EBJ (a:=x) (b:=y) (s:=8) (by omega) (by omega) (by omega);assumption
def Aqx (l:List Int) (i:Nat):Nat->Int
 | 0=>0
 | k+1=>Aqx l i k*256+l.getD (4*i+k) 0
theorem SBk (l:List Int) (i:Nat):Aqx l i 4=wordAt l i:=by grind [Aqx,wordAt,be4]
theorem TBk {l:List Int} (h:Aqy l) (i:Nat):∀ k,k<4->0<=Aqx l i k/\Aqx l i k<16777216
 | 0,_=>by simp [Aqx]
 | 1,_=>by have:=ArR h (4*i+0);grind [Aqx]
 | 2,_=>by have:=ArR h (4*i+0);have:=ArR h (4*i+1);grind [Aqx]
 | 3,_=>by have:=ArR h (4*i+0);have:=ArR h (4*i+1);have:=ArR h (4*i+2);grind [Aqx]
theorem UBk {b:AA} (hb:b.size=64) (v:List Int) (i:Nat) (hi:i<16):∀ (j k m:Nat),k+j=4->
  Po (m+j+1) (.c1 b (i:Int) (i:Int) (k:Int) v (Avy (bs b) i++Aqx (bs b) i k::List.replicate (63 - i) 0))=Po m (.c0 b ((i+1:Nat):Int) v (Avy (bs b) (i+1)++List.replicate (63 - i) 0)):=by
 have hby:=Jj b;intro j;induction j with
 | zero=>
  grind [A8,Po,Yl,SBk,JBJ]
 | succ j ih=>
  intro k m h;have hk:k<4:=by omega
  have hlen:(Avy (bs b) i++Aqx (bs b) i k::List.replicate (63 - i) 0).length=64:=by grind [dI]
  have e:AV ((k:Int)+1)=((k+1:Nat):Int):=by grind [A8]
  have e4:AV (4*(i:Int))=((4*i:Nat):Int):=by grind [A8]
  have e5:AV (((4*i:Nat):Int)+(k:Int))=((4*i+k:Nat):Int):=by grind [A8]
  have e8:(2:Int) ^ (Min.min (8:Int).toNat (IntKind.bits IntKind.u32))=256:=by decide
  have hg:(Avy (bs b) i++Aqx (bs b) i k::List.replicate (63 - i) 0).getD i 0=Aqx (bs b) i k:=by grind
  rw [show m+(j+1)+1=(m+j+1)+1 by omega,Po];simp only [Yl,mk,e,e4,e5,e8,BR,hlen,hg,DBJ];rw [AL (by grind),AL (by rfl),AL (by grind),AL (by simp;omega),AL (by rfl),AL (by grind)];rw [Uo (by omega),RBk (TBk hby i k hk) (ArR hby _),dG (dI _ i)];exact ih (k+1) m (by omega)
theorem VBk {b:AA} (hb:b.size=64) (v:List Int):∀ (j i m:Nat),i+j=16->Po (m+6*j+1) (.c0 b (i:Int) v (Avy (bs b) i++List.replicate (64 - i) 0))=Po m (.c2 16 v (Avy (bs b) 16++List.replicate 48 0)):=by
 intro j;induction j with
 | zero=>
  grind [Po,Yl]
 | succ j ih=>
  intro i m h;rw [show m+6*(j+1)+1=(m+6*j+1)+4+1+1 by omega,Po];simp only [Yl,mk];rw [AL (by grind)];have h1:=UBk hb v i (by omega) 4 0 (m+6*j+1) (by omega);rw [show 64 - i=(63 - i)+1 by omega,List.replicate_succ];have h2:=ih (i+1) m (by omega);rw [show 64 - (i+1)=63 - i by omega] at h2;exact h1.trans h2
theorem WBk {w v:List Int} (hw:∀ x ∈ w,R32 x) (hwl:w.length=16) (hv:v.length=64):∀ (j i m:Nat),i+j=48->Po (m+j+1) (.c2 ((16+i:Nat):Int) v (sched w i++List.replicate (48 - i) 0))=some (sched w 48):=by
 intro j;induction j with
 | zero=>
  intro i m h;obtain rfl:i=48:=by omega
  simp_all [zJ,Po,Yl,mk]
 | succ j ih=>
  intro i m h;have hl:=zJ hwl i;have hr:=EAq hw i;have hlen:(sched w i++List.replicate (48 - i) 0).length=64:=by grind
  have e2:AV (((16+i:Nat):Int) - 2)=((16+i - 2:Nat):Int):=by grind [A8]
  have e7:AV (((16+i:Nat):Int) - 7)=((16+i - 7:Nat):Int):=by grind [A8]
  have e15:AV (((16+i:Nat):Int) - 15)=((16+i - 15:Nat):Int):=by grind [A8]
  have e16:AV (((16+i:Nat):Int) - 16)=((16+i - 16:Nat):Int):=by grind [A8]
  have e1:AV (((16+i:Nat):Int)+1)=((16+(i+1):Nat):Int):=by grind [A8]
  have g2:(sched w i++List.replicate (48 - i) 0).getD (16+i - 2) 0=(sched w i).getD (16+i - 2) 0:=CAq (by omega) 0;have g7:(sched w i++List.replicate (48 - i) 0).getD (16+i - 7) 0=(sched w i).getD (16+i - 7) 0:=CAq (by omega) 0;have g15:(sched w i++List.replicate (48 - i) 0).getD (16+i - 15) 0=(sched w i).getD (16+i - 15) 0:=CAq (by omega) 0;have g16:(sched w i++List.replicate (48 - i) 0).getD (16+i - 16) 0=(sched w i).getD (16+i - 16) 0:=CAq (by omega) 0;have f10:∀ x:Int,Int.fdiv x (2 ^ (Min.min (10:Int).toNat (IntKind.bits IntKind.u32)))=x / 1024:=fun x=>Int.fdiv_eq_ediv_of_nonneg _ (by decide)
  have f3:∀ x:Int,Int.fdiv x (2 ^ (Min.min (3:Int).toNat (IntKind.bits IntKind.u32)))=x / 8:=fun x=>Int.fdiv_eq_ediv_of_nonneg _ (by decide)
  have Bk:=zK hr (16+i - 15);have r2:=zK hr (16+i - 2);rw [show m+(j+1)+1=(m+j+1)+1 by omega,Po];simp only [Yl,mk,e1,e2,e7,e15,e16,BR,hlen,g2,g7,g15,g16,NBk Bk,OBk Bk,PBk r2,QBk r2,AP,f10,f3,SH];rw [AL (by grind),AL (by rfl),AL (by grind),AL (by rfl),AL (by grind),AL (by rfl),AL (by grind),AL (by rfl),AL (by grind),AL (by rfl),AL (by grind)];rw [show 48 - i=(48 - (i+1))+1 by omega,List.replicate_succ,dG (by omega)];have h2:=ih (i+1) m (by omega);rw [sched,List.append_assoc] at h2;exact h2
theorem XBk {b:AA} (hb:b.size=64):zY b=some (sched (Avy (bs b) 16) 48):=by
 obtain ⟨m,hm⟩:∃ m,AY=(m+48+1)+6*16+1:=⟨AY - 146,by rfl⟩
 rw [zY,FA2,mk,hm];have h0:=VBk hb (List.replicate 64 0) 16 0 (m+48+1) (by omega);have h2:=WBk (w:=Avy (bs b) 16) (v:=List.replicate 64 0) (KA9 (Jj b) 16) (dI _ 16) (List.length_replicate ..) 48 0 m (by omega);rw [show Avy (bs b) 0++List.replicate (64 - 0) 0=List.replicate 64 (0:Int) from rfl,show ((0:Nat):Int)=0 from rfl] at h0;grind [sched]
theorem YBk (s r v:List Int) (hs:s.length=8) (hv:v.length=8) (f:Nat->Int) (hf:∀ i,i<8->f i=w32 (r.getD i 0+s.getD i 0)) (hr:r.length=8):∀ (j i m:Nat),i+j=8->Awq (m+j+1) (.c1 (i:Int) s v ((List.range i).map f++r.drop i))=some ((List.range 8).map f):=by
 intro j;induction j with
 | zero=>
  intro i m h;obtain rfl:i=8:=by omega
  simp_all [Awq,zZ,mk]
 | succ j ih=>
  intro i m h;have e:AV ((i:Int)+1)=((i+1:Nat):Int):=by grind [A8]
  have hl:((List.range i).map f++r.drop i).length=8:=by grind
  have hm:((List.range i).map f).length=i:=by simp
  have hg:((List.range i).map f++r.drop i).getD i 0=r.getD i 0:=by grind
  rw [show m+(j+1)+1=(m+j+1)+1 by omega,Awq];simp only [zZ,mk,e,BR,hl,hs,hg];rw [AL (by grind),AL (by rfl),AL (by grind),AL (by rfl),AL (by grind),AL (by rfl),AL (by grind)];rw [drop_at (by omega:i<r.length),dG hm,<-hf i (by omega)];have h2:=ih (i+1) m (by omega);simp_all [List.range_succ]
theorem ZBk (s v W:List Int) (hW:∀ x ∈ W,R32 x) (A1:W.length=64) (r:Reg) (hr:r.ok) (i m:Nat) (hi:i<64) :
  Awq (m+1) (.c0 r.a r.b r.c r.d r.e r.f r.g r.h (i:Int) s v W)=Awq m (.c0 (U4 r (keysL.getD i 0) (W.getD i 0)).a (U4 r (keysL.getD i 0) (W.getD i 0)).b (U4 r (keysL.getD i 0) (W.getD i 0)).c (U4 r (keysL.getD i 0) (W.getD i 0)).d (U4 r (keysL.getD i 0) (W.getD i 0)).e (U4 r (keysL.getD i 0) (W.getD i 0)).f (U4 r (keysL.getD i 0) (W.getD i 0)).g (U4 r (keysL.getD i 0) (W.getD i 0)).h ((i+1:Nat):Int) s v W):=by
 obtain ⟨h1,h2,h3,h4,h5,h6,h7,h8⟩:=hr
 have e:AV ((i:Int)+1)=((i+1:Nat):Int):=by grind [A8]
 rw [Awq];simp only [zZ,mk,e,BR,A1,KBk h5,LBk h5,MBk h5,HBk h1,IBk h1,JBk h1,AP,SH,JA9,LBh h5];rw [AL (by grind),AL (by grind),AL (by simp_all),AL (by rfl),AL (by grind)];rfl
theorem AjX (s v W:List Int) (hW:∀ x ∈ W,R32 x) (A1:W.length=64) (r:Reg) (hr:r.ok):∀ (j i m:Nat),i+j=64->
  Awq (m+j+1) (.c0 (AwA keysL W r i).a (AwA keysL W r i).b (AwA keysL W r i).c (AwA keysL W r i).d (AwA keysL W r i).e (AwA keysL W r i).f (AwA keysL W r i).g (AwA keysL W r i).h (i:Int) s v W)=Awq m (.c1 0 s v (AwA keysL W r 64).l):=by
 intro j;induction j with
 | zero=>
  intro i m h;obtain rfl:i=64:=by omega
  rfl
 | succ j ih=>
  intro i m h;rw [show m+(j+1)+1=(m+j+1)+1 by omega,ZBk s v W hW A1 _ (IBJ keysL W hr i) i _ (by omega)];exact ih (i+1) m (by omega)
theorem BBl {s:Reg} (hs:s.ok) {b:AA} (hb:b.size=64):zf s.l b=some (comp s (bs b)).l:=by
 obtain ⟨m,hm⟩:∃ m,AY=(m+8+1)+64+1:=⟨AY - 74,by rfl⟩
 have hr:=EAq (KA9 (Jj b) 16) 48;have hl:=zJ (dI (bs b) 16) 48;have hsl:s.l.length=8:=rfl;have z0:(0:Int).toNat=0:=rfl;have z1:(1:Int).toNat=1:=rfl;have z2:(2:Int).toNat=2:=rfl;have z3:(3:Int).toNat=3:=rfl;have z4:(4:Int).toNat=4:=rfl;have z5:(5:Int).toNat=5:=rfl;have z6:(6:Int).toNat=6:=rfl;have z7:(7:Int).toNat=7:=rfl;rw [zf,GA2,mk,XBk hb,AP,hm];simp only [hl,hsl,List.length_replicate,z0,z1,z2,z3,z4,z5,z6,z7];rw [AL (by rfl),AL (by rfl),AL (by rfl),AL (by rfl),AL (by rfl),AL (by rfl),AL (by rfl),AL (by rfl),AL (by rfl),AL (by rfl),AL (by rfl),AL (by rfl),AL (by rfl),AL (by rfl),AL (by rfl),AL (by rfl),AL (by rfl)];have h0:=AjX s.l [0,0,0,0,0,0,0,0] _ hr hl s hs 64 0 (m+8+1) (by omega);rw [show ((0:Nat):Int)=0 from rfl] at h0;have hf:∀ i,i<8->(fun i=>w32 ((AwA keysL (sched (Avy (bs b) 16) 48) s 64).l.getD i 0+s.l.getD i 0)) i=w32 ((AwA keysL (sched (Avy (bs b) 16) 48) s 64).l.getD i 0+s.l.getD i 0):=fun _ _=>rfl
 have h1:=YBk s.l (AwA keysL (sched (Avy (bs b) 16) 48) s 64).l [0,0,0,0,0,0,0,0] rfl rfl _ hf rfl 8 0 m (by omega);rw [show ((0:Nat):Int)=0 from rfl,List.range_zero,List.map_nil,List.nil_append,List.drop_zero] at h1;have e:(List.range 8).map (fun i=>w32 ((AwA keysL (sched (Avy (bs b) 16) 48) s 64).l.getD i 0+s.l.getD i 0))=(comp s (bs b)).l:=by
  apply List.ext_getElem;·rw [Reg.zL,List.length_map,List.length_range]
  ·intro i h1 h2;have hi:i<8:=by assumption
   rw [List.getElem_map,List.getElem_range,<-getD_at h2 0];grind [comp,HBi]
 rw [e] at h1;exact h0.trans h1
theorem CBl {s:Reg} (hs:s.ok) {t:AA} (ht:t.size<=1000000000000):IAm s.l t=some ((comps (t.size / 64) s (bs t)).l,t.extract (64*(t.size / 64)) t.size):=by
 have key:∀ (j:Nat) (s:Reg) (t:AA) (m:Nat),s.ok->t.size / 64=j->t.size<=1000000000000->qE (m+j+1) (.c0 t s.l [0,0,0,0,0,0,0,0])=some ((comps j s (bs t)).l,t.extract (64*j) t.size):=by
  intro j;induction j with
  | zero=>
   intro s t m hs hj ht;rw [qE];simp only [HAm,mk,Reg.zL];rw [AsB (by grind),AL (by rfl),AL (by rfl),AL (by rfl)];congr 2;simp
  | succ j ih=>
   intro s t m hs hj ht;have h64:(64:Int).toNat=64:=rfl;have e1:bs (t.extract 0 64)=(bs t).take 64:=by simp [Ls]
   have e2:bs (t.extract 64 t.size)=(bs t).drop 64:=by simp [Ls,List.take_of_length_le,bs_len]
   rw [show m+(j+1)+1=(m+j+1)+1 by omega,qE];simp only [HAm,mk,h64,Reg.zL];rw [AL (by grind),AL (by rfl),AL (by grind)];rw [BBl hs (b:=t.extract 0 64) (by simp;omega),AP];rw [Reg.zL];rw [AL (by rfl)];grind [KBJ,Jm,Ls,bs_len,List.drop_drop,comps]
 obtain ⟨m,hm⟩:∃ m,AY=m+t.size / 64+1:=⟨AY - (t.size / 64+1),by have:=FM (n:=t.size / 64+1) (by omega);omega⟩
 rw [IAm,IA2,hm];grind
theorem DBl {r:Reg} (hr:r.ok):JAm r.l=some (ofBytes (Hf r.l)):=by
 have hl:r.l.length=8:=rfl;have hrl:=Reg.oh hr;have hby:∀ i,Aqy (Hf (r.l.take i)):=fun i=>LA9 (fun x hx=>hrl x (List.mem_of_mem_take hx))
 have key:=PV (A:=Unit) (n:=8) (Lp:=zh) (st:=fun i _=>.c0 (ofBytes (Hf (r.l.take i))) r.l (i:Int)) (Inv:=fun _ _=>True) (out:=fun _ _=>some (ofBytes (Hf r.l)))
  (fun m _ _=>by
   rfl)
  (fun m i _ hi _=>.inr ⟨(),by
   have e:AV ((i:Int)+1)=((i+1:Nat):Int):=by grind [A8]
   have hg:r.l.getD i 0=r.l[i]'(by omega):=getD_at (by omega) 0;have hx:R32 (r.l.getD i 0):=zK hrl i;rw [zh];simp only [KA2,mk,e,BR,OAq hx,AP,hl];rw [AL (by grind),AL (by rfl),AL (by grind),AL (by grind [Dj,MBJ,four])];congr 2;apply Jm;rw [Aq7,AsM (hby i),AsM (hby (i+1)),AsM (V6 hx),take_at (by omega),UBh,hg];rfl,trivial,rfl⟩)
 rw [JAm,JA2,mk,hl,AL (by rfl)];exact key AY 0 () (DJ _) (FM (by omega)) trivial
theorem EBl:YA1=some Ars.l:=rfl
theorem Ar2 {s:AA} (hs:s.size<=1000000000):JQ s=some (EM s):=by
 have h1:=FAq s.size;have hsz:(s++ofBytes (Uh s.size)).size=s.size+(Uh s.size).length:=by simp [Dj]
 rw [JQ,LA2,mk,EBl,AP,FBk (n:=s.size) (by omega),AP,AL (by grind),CBl dK (by omega),AP];simp only [Reg.zL];rw [AL (by rfl),AL (by rfl),DBl (dJ dK _ _),AP,hsz,Aq7,AsM (MA9 _),EM,Av3,bs_len]
theorem KBA:G9 DI=true:=HY.2 ⟨Aro _,by rfl,(by decide:(0:Int)<=0/\(0:Int)<=3),(by decide:0<=8),(by decide:(0:Int)<=0/\(0:Int)<=1000),(by decide:(0:Int)<=0/\(0:Int)<=10000),rfl⟩
def AsD (w:AA):Ah:=⟨1,EM w,0,⟨0,0,false,false,false,false,⟨#[]⟩,0⟩⟩
noncomputable def LC (k w:AA):Ap×Bool:=
 bif !((k.size:Int) == 32) || decide ((w.size:Int) > 20) then (IBA,false)
 else (⟨k,true,(FT ⟨[]⟩ (Av6 k 0 (AsD w)).1 0).1,(Awv DI (AsD w)).1,[],[],0⟩,true)
theorem xZ (w:AA):AwX (AsD w)=(ofBytes [1]++EM w,true):=by grind [AwX,AsD,Aro,IG]
theorem KBL (w:AA):(Awv DI (AsD w)).2=true:=by rw [Awv,KBA,xZ,show decide (DI.fCount>=10000)=false from rfl];rfl
theorem FBl {F:AA} (h:F.size<=20000):(FT ⟨[]⟩ [⟨1,GZ,F,⟨#[]⟩⟩,⟨2,GZ,⟨#[]⟩,⟨#[]⟩⟩] 0).2=2:=by
 have hz:((⟨#[]⟩:AA)++F).size=F.size:=by rw [AEY];exact Nat.zero_add _
 generalize hG:(⟨#[]⟩:AA)++F=G at hz;have ok:∀ k:Int,0<=k->k<=(G.size:Int)->Ave ⟨[⟨GZ,G,k⟩]⟩=true:=fun k h1 h2=>by have h3:Awz ⟨GZ,G,k⟩=true:=yg.2 ⟨by show (1:Int)<=4/\(4:Int)<=8;omega,by show (G.size:Int)<=20000;omega,h1,h2⟩;rw [Ave,LM,LM,h3,xw (s:=GZ) (by decide)];rfl
 have a1:Aqd ⟨[]⟩ ⟨1,GZ,F,⟨#[]⟩⟩=(⟨[⟨GZ,G,0⟩]⟩,true):=by
  have:Aqd ⟨[]⟩ ⟨1,GZ,F,⟨#[]⟩⟩=doneD [⟨GZ,(⟨#[]⟩:AA)++F,0⟩]:=by rw [Aqd];simp only [Oe];rfl
  rw [this,hG,doneD,ok 0 (Int.le_refl 0) (by omega)];rfl
 have a2:Aqd ⟨[⟨GZ,G,0⟩]⟩ ⟨2,GZ,⟨#[]⟩,⟨#[]⟩⟩=(⟨[⟨GZ,G,(G.size:Int)⟩]⟩,true):=by
  have h2:AwR [⟨GZ,G,0⟩] GZ 0=some 0:=by rw [AwR,if_pos (Oe _)]
  have hp:Awh [⟨GZ,G,0⟩] ⟨GZ,G,(G.size:Int)⟩=[⟨GZ,G,(G.size:Int)⟩]:=by rw [Awh,NH,KZ];simp only [List.filter_cons,zW,Bool.false_or,beq_self_eq_true,DN,Bool.false_eq_true,if_false,List.filter_nil,List.nil_append,List.append_nil]
  have h0:Aqd ⟨[⟨GZ,G,0⟩]⟩ ⟨2,GZ,⟨#[]⟩,⟨#[]⟩⟩=YJ ⟨[⟨GZ,G,0⟩]⟩ ⟨2,GZ,⟨#[]⟩,⟨#[]⟩⟩ ⟨GZ,G,0⟩:=by rw [Aqd,ok 0 (Int.le_refl 0) (by omega)];simp only [h2,Oe];rfl
  rw [h0];have:YJ ⟨[⟨GZ,G,0⟩]⟩ ⟨2,GZ,⟨#[]⟩,⟨#[]⟩⟩ ⟨GZ,G,0⟩=doneD (Awh [⟨GZ,G,0⟩] ⟨GZ,G,(G.size:Int)⟩):=rfl;rw [this,hp,doneD,ok _ (by omega) (Int.le_refl _)];rfl
 rw [FT,a1];show (FT ⟨[⟨GZ,G,0⟩]⟩ [⟨2,GZ,⟨#[]⟩,⟨#[]⟩⟩] 1).2=2;rw [FT,a2];rfl
theorem GBl (k w:AA):SAj k w=some (LC k w):=by
 rw [SAj,AQQ,mk,LC,bne];cases hz:(k.size:Int) == 32;·rfl
 rw [beq_iff_eq] at hz;by_cases hw:(w.size:Int) > 20;·rw [Ba hw];rfl
 rw [D6 hw,LJ (s:=w) (by omega),aG];simp only [AP,xR (b:=DI) (DJ _),JBA (k:=k) (d:=⟨[]⟩) (by omega) (DJ _)];rfl
theorem Ar9 {c:DZ} {n:Int} (hc:Hg c):Ok (Avm c n) fun r=>Hg r.2:=by rw [Avm,CAx,mk];exact Ok.bind (OM hc) fun a ha=>Ok.ret ha.2
theorem LBL {c:DZ} {l:List Int} (hc:Hg c) (hl:0<l.length):Ok (zi c l) fun r=>r.1 ∈ l/\Hg r.2:=by
 rw [zi,EAx,mk];refine Ok.bind (OM hc) fun a ha=>?_
 simp_all [Ok.ret]
theorem PAq {c:DZ} {l:List AA} (hc:Hg c) (hl:0<l.length):Ok (qF c l) fun r=>r.1 ∈ l/\Hg r.2:=by
 rw [qF,FAx,mk];refine Ok.bind (OM hc) fun a ha=>?_
 simp_all [Ok.ret]
theorem HBl {c:DZ} {n:Int} (hc:Hg c) (h0:0<=n):Ok (UAj c n) fun r=>(r.1.size:Int)=min n 5000/\Hg r.2:=by
 have key:∀ (j i m:Nat) (N:Nat) (a b:Int) (out:List Int),i+j=N->N<=5000->out.length=i->0<=a->Ok (dW (m+j+1) (.c0 (N:Int) (i:Int) a b out)) fun r=>r.1.size=N/\Hg r.2:=by
  intro j;induction j with
  | zero=>
   intro i m N a b out hi hN ho ha;rw [dW];simp only [TAj,mk];rw [AsB (by simp_all)];exact Ok.ret ⟨by grind [Dj],ha⟩
  | succ j ih=>
   intro i m N a b out hi hN ho ha;have hw:AV ((i:Int)+1)=((i+1:Nat):Int):=by grind [A8]
   rw [AwB m j,dW];simp only [TAj,mk,hw];rw [AL (by grind)];exact Ok.bind (oW (c:=⟨(),a,b⟩) ha) fun r hr=>Ok.chk (by grind) (ih (i+1) m N _ _ _ (by omega) hN (by simp [ho]) hr.2.2)
 rw [UAj,GAx];have run:∀ N:Nat,N<=5000->Ok (dW AY (.c0 (N:Int) 0 c.fI c.AyA [])) fun r=>r.1.size=N/\Hg r.2:=fun N hN=>by
  obtain ⟨m,hm⟩:=gm (n:=N) (by omega)
  rw [hm];exact key N 0 m N _ _ [] (Nat.zero_add _) hN rfl hc
 refine Ok.cond (fun h=>?_) fun h=>?_
 ·grind
 ·rw [decide_eq_false_iff_not] at h;have:=run n.toNat (by omega);grind
theorem MBL {s:AA} (h:s ∈ [(⟨#[97]⟩:AA),⟨#[98]⟩,⟨#[99]⟩]):s.size=1:=by simp only [List.mem_cons,List.not_mem_nil,or_false] at h;rcases h with rfl | rfl | rfl <;> rfl
theorem IBl {c:DZ} (hc:Hg c):Ok (zk c) fun r=>Awj r.1=true/\Hg r.2:=by
 rw [zk,HAx,mk];refine Ok.bind (OM hc) fun a ha=>Ok.bind (OM ha.2) fun b hb=>Ok.bind (Ar9 hb.2) fun d hd=>Ok.bind (Ar9 hd) fun e he=>?_
 have a1:=ha.1.2.1 (by omega);have b1:=hb.1.2.1 (by omega);have hi:AV (1+a.1)=1+a.1:=A8 (by omega) (by omega);have hk:AV (1+b.1)=1+b.1:=A8 (by omega) (by omega);rw [hi,hk];have base:Bl (1+a.1) 1 1000=true/\Bl (1+b.1) 1 3=true:=⟨Na.2 (by omega),Na.2 (by omega)⟩
 have hd32:∀ s:AA,((EM s).size:Int) == 32:=fun s=>by rfl
 refine Ok.cond (fun h3=>?_) fun h3=>Ok.cond (fun h2=>?_) fun h2=>?_
 ·refine Ok.bind (OM he) fun f hf=>Ok.bind (HBl hf.2 hf.1.1) fun g hg=>Ok.ret ⟨?_,hg.2⟩
  have f1:=hf.1.2.1 (by omega);rw [beq_iff_eq] at h3;rw [Awj,base.1,base.2,h3,Ba (by omega:(g.1.size:Int)<=100)];rfl
 ·refine Ok.bind (OM he) fun f hf=>Ok.bind (Ar9 hf.2) fun g hg=>Ok.bind (PAq hg (by decide)) fun t ht=>Ok.bind (Ok.eq (LJ (by simp_all [MBL]))) fun v hv=>Ok.ret ⟨?_,ht.2⟩
  grind [Awj,Na]
 ·refine Ok.bind (Ar9 he) fun g hg=>Ok.bind (PAq hg (by decide)) fun t ht=>Ok.bind (Ok.eq (LJ (by simp_all [MBL]))) fun v hv=>Ok.ret ⟨?_,ht.2⟩
  grind [Na,Awj]
def Dl (b:Bo):List Ah->Bo×Bool
 | []=>(b,true)
 | r::rs=>bif (Awv b r).2 then Dl (Awv b r).1 rs else (pF,false)
theorem xU {b:Bo} {r:Ah} (h:(Awv b r).2=true):(Awv b r).1.AZ.length<=8:=(HY.1 (Tv h).2.2.2.1).2.2.2.1
theorem JBl {rs:List Ah}:∀ {b:Bo},G9 b=true->(Dl b rs).2=true->G9 (Dl b rs).1=true:=by induction rs<;>grind [Dl,Awv,Tv]
theorem gQ {l k:List Ah}:∀ {b:Bo},Dl b (l++k)=bif (Dl b l).2 then Dl (Dl b l).1 k else (pF,false):=by induction l<;>grind [Dl]
theorem LBA {b:Bo} {l:List Ah} (w:Nat) (h:(Dl b l).2=true):(Dl b (l.take w)).2=true:=by grind [gQ,List.take_append_drop]
theorem KBl {l:List Ah}:∀ {b:Bo},(Dl b l).2=true->(Dl b l).1.fCount=b.fCount+(l.length:Int):=by induction l<;>grind [Dl,Awv]
def pw (k:Nat):Int:=128 ^ k
theorem WV:pw 0=1:=rfl
theorem MBA (k:Nat):pw (k+1)=pw k*128:=Int.pow_succ ..
theorem LBl {k:Nat} (h:k<5):pw k=1\/pw k=128\/pw k=16384\/pw k=2097152\/pw k=268435456:=by
 rcases (by omega:k=0\/k=1\/k=2\/k=3\/k=4) with rfl | rfl | rfl | rfl | rfl
 ·exact .inl rfl
 ·exact .inr (.inl rfl)
 ·exact .inr (.inr (.inl rfl))
 ·exact .inr (.inr (.inr (.inl rfl)))
 ·exact .inr (.inr (.inr (.inr rfl)))
def VE:Int×Int×Bool:=(0,0,false)
def AIn (text:AA) (a:Nat) (r:Int×Int×Bool):Prop:=r=VE\/∃ v:Int,∃ q:Nat,r=(v,((q:Nat):Int),true)/\0<=v/\v<=1000000000/\a<q/\q<=text.size
def At (text:AA) (p:Nat) (l:List Int):Prop:=∃ rest,(bs text).drop p=l++rest
theorem At.left {text:AA} {p:Nat} {l m:List Int} (h:At text p (l++m)):At text p l:=by obtain ⟨r,hr⟩:=h;exact ⟨m++r,by simp_all⟩
theorem At.right {text:AA} {p:Nat} {l m:List Int} (h:At text p (l++m)):At text (p+l.length) m:=by obtain ⟨r,hr⟩:=h;exact ⟨r,by grind [List.drop_drop,List.drop_left]⟩
theorem At.size {text:AA} {p:Nat} {l:List Int} (h:At text p l):l=[]\/p+l.length<=text.size:=by
 obtain ⟨r,hr⟩:=h
 have:=congrArg List.length hr;rw [List.length_drop,bs_len,List.length_append] at this;cases l<;>grind
theorem At.head {text:AA} {p:Nat} {x:Int} {l:List Int} (h:At text p (x::l)):p<text.size/\bt text (p:Int)=x:=by
 have hs:p+(x::l).length<=text.size:=by rcases h.size with h | h;all_goals simp_all
 simp only [List.length_cons] at hs;have hp:p<text.size:=by omega
 refine ⟨hp,?_⟩;rw [jB hp];obtain ⟨r,hr⟩:=h
 simp_all [bs,List.drop_eq_getElem_cons]
theorem At.extract {text:AA} {p:Nat} {l:List Int} (h:At text p l) (hl:∀ n,n ∈ l->0<=n/\n<=255):text.extract p (p+l.length)=ofBytes l:=by
 apply Jm;rw [Ls,AsM hl];obtain ⟨r,hr⟩:=h
 simp_all [List.drop_take]
theorem SC:∀ (n:Int),0<=n->∀ x,x ∈ SN n->0<=x/\x<=255:=by intro n;induction n using SN.induct<;>grind [SN,Nq]
theorem dX {n:Int} (h:0<=n) (h2:n<=127):SN n=[n]:=by grind [SN,Nq]
theorem NBL {n:Int} (h:n<=1000000000):(SN n).length<=5:=by have:=XBJ 5 n (by omega);omega
theorem QAq {text:AA} {a k m:Nat} {n s:Int} (hs:text.size<=140737488351232) (ha:a<=text.size) (hi:text.size<=a+k\/5<=k):ArH (m+1) (.c0 text a n s ((a+k:Nat):Int))=some VE:=by
 simp only [ArH,DAk,mk];by_cases h:a+k<text.size;·rw [show decide (((a+k:Nat):Int)<(text.size:Int))=true from Ba (by omega),A8 (n:=(a:Int)+5) (by omega) (by omega),show decide (((a+k:Nat):Int)<(a:Int)+5)=false from D6 (by omega)];rfl
 ·rw [show decide (((a+k:Nat):Int)<(text.size:Int))=false from D6 (by omega)];rfl
theorem Ym {k:Nat} {n b:Int} (hk:k<5) (h0:0<=n) (h1:n<pw k) (hb:0<=b/\b<=255) :
  (b<128->b.tmod 128=b/\AV (b*pw k)=b*pw k/\AV (n+b*pw k)=n+b*pw k/\0<=n+b*pw k/\n+b*pw k<pw (k+1))/\
  (¬ b<128->b.tmod 128=b - 128/\AV ((b - 128)*pw k)=(b - 128)*pw k/\AV (n+(b - 128)*pw k)=n+(b - 128)*pw k/\0<=n+(b - 128)*pw k/\n+(b - 128)*pw k<pw (k+1))/\AV (pw k*128)=pw (k+1):=by
 rw [MBA];have e:b.tmod 128=b % 128:=Int.tmod_eq_emod_of_nonneg hb.1;refine ⟨fun h=>?_,fun h=>?_,?_⟩;all_goals grind [LBl,A8]
theorem RAq {text:AA} {a k m:Nat} {n b:Int} (hs:text.size<=140737488351232) (hk:k<5) (hi:a+k<text.size) (h0:0<=n) (h1:n<pw k) (hb:bt text ((a+k:Nat):Int)=b) :
  ArH (m+1) (.c0 text a n (pw k) ((a+k:Nat):Int))=if b<128 then (if n+b*pw k > 1000000000 then some VE else if ofBytes (SN (n+b*pw k))=text.extract a (a+k+1) then some (n+b*pw k,((a+k+1:Nat):Int),true) else some VE) else ArH m (.c0 text a (n+(b - 128)*pw k) (pw (k+1)) ((a+k+1:Nat):Int)):=by
 have hb':=Rz text ((a+k:Nat):Int);rw [hb] at hb';obtain ⟨n1,n2,n3⟩:=Ym hk h0 h1 hb'
 have hw:AV (((a+k:Nat):Int)+1)=((a+k+1:Nat):Int):=by grind [A8]
 simp only [ArH,DAk,mk,hb,A8 (n:=b) (by omega) (by omega),n3,hw,BR]
 rw [show decide (((a+k:Nat):Int)<(text.size:Int))=true from Ba (by omega),A8 (n:=(a:Int)+5) (by omega) (by omega),show decide (((a+k:Nat):Int)<(a:Int)+5)=true from Ba (by omega),
  show decide ((0:Int)<=((a+k:Nat):Int))=true from Ba (by omega)]
 simp only [Bool.and_self,Ar];by_cases h:b<128
 ·obtain ⟨e1,e2,e3,e4,_⟩:=n1 h
  rw [if_pos h,e1,e2,e3,show decide (b<128)=true from Ba h];by_cases h2:n+b*pw k > 1000000000;·rw [if_pos h2,show decide (n+b*pw k > 1000000000)=true from Ba h2];rfl
  ·rw [if_neg h2,show decide (n+b*pw k > 1000000000)=false from D6 h2,Ux (by omega)];simp only [Ar,Aq,AP];rw [show decide ((0:Int)<=(a:Int))=true from Ba (by omega),show decide ((a:Int)<=((a+k+1:Nat):Int))=true from Ba (by omega),show decide (((a+k+1:Nat):Int)<=(text.size:Int))=true from Ba (by omega),toList_inj];by_cases h3:ofBytes (SN (n+b*pw k))=text.extract a (a+k+1);·simp_all
   ·rw [if_neg h3,D6 h3];rfl
 grind
theorem MBl {text:AA} {a:Nat} (hs:text.size<=140737488351232) (ha:a<=text.size):∀ j k m n,k+j=5->j<m->0<=n->n<pw k->∃ r,ArH m (.c0 text a n (pw k) ((a+k:Nat):Int))=some r/\AIn text a r:=by
 intro j;induction j with
 | zero=>
  intro k m n hk hm _ _;obtain ⟨m,rfl⟩:∃ q,m=q+1:=⟨m - 1,by omega⟩
  exact ⟨_,QAq hs ha (.inr (by omega)),.inl rfl⟩
 | succ j ih=>
  intro k m n hk hm h0 h1;obtain ⟨m,rfl⟩:∃ q,m=q+1:=⟨m - 1,by omega⟩
  by_cases hi:a+k<text.size
  ·have hb:=Rz text ((a+k:Nat):Int);generalize hbe:bt text ((a+k:Nat):Int)=b at hb;obtain ⟨n1,n2,_⟩:=Ym (b:=b) (by omega:k<5) h0 h1 hb
   rw [RAq hs (by omega) hi h0 h1 hbe];split
   ·rename_i h;split;·exact ⟨_,rfl,.inl rfl⟩
    ·split;·exact ⟨_,rfl,.inr ⟨_,_,rfl,(n1 h).2.2.2.1,by omega,by omega,by omega⟩⟩
     ·exact ⟨_,rfl,.inl rfl⟩
   ·rename_i h;obtain ⟨_,_,_,e4,e5⟩:=n2 h
    exact ih (k+1) m _ (by omega) (by omega) e4 e5
  ·exact ⟨_,QAq hs ha (.inl (by omega)),.inl rfl⟩
theorem NBl {text:AA} {a:Nat} {V:Int} (hs:text.size<=140737488351232) (hV0:0<=V) (hV:V<=1000000000) (hA:At text a (SN V)):∀ U k m n,SN U=(SN V).drop k->0<=U->n+pw k*U=V->0<=n->n<pw k->5<m+k->ArH m (.c0 text a n (pw k) ((a+k:Nat):Int))=some (V,((a+(SN V).length:Nat):Int),true):=by
 have h5:=NBL hV;intro U;induction U using SN.induct with
 | case1 U hU ih=>
  intro k m n e1 u0 e2 h0 h1 hm;have hl:=congrArg List.length e1;rw [List.length_drop] at hl;have hp:=Qy U;have hk:k<5:=by omega
  obtain ⟨m,rfl⟩:∃ q,m=q+1:=⟨m - 1,by omega⟩
  have hA':At text (a+k) (SN U):=by
   have:At text a ((SN V).take k++(SN V).drop k):=by simp_all
   have:=this.right;grind
  have e3:=e1;rw [SN,if_pos hU] at hA' e3;obtain ⟨hi,hb⟩:=hA'.head
  obtain ⟨n1,n2,_⟩:=Ym (b:=128+U % 128) hk h0 h1 (by omega)
  obtain ⟨_,_,_,e4,e5⟩:=n2 (by omega)
  rw [RAq hs hk hi h0 h1 hb,if_neg (by omega)];refine ih (k+1) m _ ?_ (by omega) ?_ e4 e5 (by omega);·rw [<-List.drop_drop,<-e3];rfl
  grind [MBA]
 | case2 U hU=>
  intro k m n e1 u0 e2 h0 h1 hm;have hl:=congrArg List.length e1;rw [List.length_drop] at hl;have hp:=Qy U;have hk:k<5:=by omega
  obtain ⟨m,rfl⟩:∃ q,m=q+1:=⟨m - 1,by omega⟩
  have hA':At text (a+k) (SN U):=by
   have:At text a ((SN V).take k++(SN V).drop k):=by simp_all
   have:=this.right;grind
  rw [dX u0 (by omega)] at hA' hl;simp only [List.length_singleton] at hl;obtain ⟨hi,hb⟩:=hA'.head
  have e3:n+U*pw k=V:=by simp_all [Int.mul_comm]
  have e4:a+k+1=a+(SN V).length:=by omega
  rw [RAq hs hk hi h0 h1 hb,if_pos (by omega),e3,if_neg (by omega),e4,if_pos (hA.extract (SC V hV0)).symm]
theorem OBl {text:AA} {a:Nat} (hs:text.size<=140737488351232) (ha:a<=text.size):∃ r,RS text a=some r/\AIn text a r:=by simp only [RS,zl,mk,Ho,AP];rw [show Bl (a:Int) 0 (text.size:Int)=true from Na.2 ⟨by omega,by omega⟩];exact MBl hs ha 5 0 AY 0 rfl (FM (by omega)) (by omega) (by simp [WV])
theorem OBL {text:AA} {a:Nat} {V:Int} (hs:text.size<=140737488351232) (hV0:0<=V) (hV:V<=1000000000) (hA:At text a (SN V)):RS text a=some (V,((a+(SN V).length:Nat):Int),true):=by
 have ha:a+(SN V).length<=text.size:=by
  rcases hA.size with h | h
  all_goals grind [Qy]
 simp only [RS,zl,mk,Ho,AP];rw [show Bl (a:Int) 0 (text.size:Int)=true from Na.2 ⟨by omega,by omega⟩];exact NBl hs hV0 hV hA V 0 AY 0 (by simp) hV0 (by simp [WV]) (by omega) (by simp [WV]) (by simp [FM])
theorem AvD (x a b:Int):Fv x a b=some (Bl x a b):=by show (bif decide (a<=x) then some (decide (x<=b)) else some false)=some (Bl x a b);grind [Bl]
theorem PBl {k:Nat} (h:k<5):(2:Int) ^ (Min.min (AV (7*(k:Int))).toNat (IntKind.bits IntKind.i64))=pw k/\AV (7*(k:Int))=7*(k:Int):=by refine ⟨?_,A8 (by omega) (by omega)⟩;rcases (by omega:k=0\/k=1\/k=2\/k=3\/k=4) with rfl | rfl | rfl | rfl | rfl <;> kernel_rfl
theorem SAq {text:AA} {a k m:Nat} {n:Int} (hs:text.size<=140737488351232) (ha:a<=text.size) (hk:k<=5) (hi:text.size<=a+k\/5<=k):Aw0 (m+1) (.c0 text a n k)=some VE:=by
 simp only [Aw0,FAn,mk];by_cases h:k<5;·rw [show decide ((k:Int)<5)=true from Ba (by omega),A8 (n:=(a:Int)+k) (by omega) (by omega),show decide ((a:Int)+k<(text.size:Int))=false from D6 (by omega)];rfl
 ·rw [show decide ((k:Int)<5)=false from D6 (by omega)];rfl
theorem TAq {text:AA} {a k m:Nat} {n b:Int} (hs:text.size<=140737488351232) (hk:k<5) (hi:a+k<text.size) (h0:0<=n) (h1:n<pw k) (hb:bt text ((a+k:Nat):Int)=b) :
  Aw0 (m+1) (.c0 text a n k)=if b<128 then (if b=0/\0<k\/n+b*pw k > 1000000000 then some VE else some (n+b*pw k,((a+k+1:Nat):Int),true)) else Aw0 m (.c0 text a (n+(b - 128)*pw k) ((k+1:Nat):Int)):=by
 have hb':=Rz text ((a+k:Nat):Int);rw [hb] at hb';obtain ⟨n1,n2,n3⟩:=Ym hk h0 h1 hb'
 obtain ⟨p1,p2⟩:=PBl hk
 rw [p2] at p1;have ha:AV ((a:Int)+(k:Int))=((a+k:Nat):Int):=by grind [A8]
 have hw:AV (((a+k:Nat):Int)+1)=((a+k+1:Nat):Int):=by grind [A8]
 have hw2:AV ((k:Int)+1)=((k+1:Nat):Int):=by grind [A8]
 simp only [Aw0,FAn,mk,ha,hb,A8 (n:=b) (by omega) (by omega),p2,p1,hw,hw2]
 rw [show decide (((a+k:Nat):Int)<(text.size:Int))=true from Ba (by omega),show decide ((k:Int)<5)=true from Ba (by omega),show decide ((0:Int)<=7*(k:Int))=true from Ba (by omega),
  show decide ((0:Int)<=((a+k:Nat):Int))=true from Ba (by omega)]
 simp only [Bool.and_self,Ar];by_cases h:b<128
 ·obtain ⟨e1,e2,e3,e4,_⟩:=n1 h
  rw [if_pos h,e1,e2,e3,show decide (b<128)=true from Ba h];simp only [Ar];by_cases hz:b=0
  ·rw [show (b == 0)=true from beq_iff_eq.2 hz];by_cases hk0:0<k;·rw [if_pos (.inl ⟨hz,hk0⟩),show decide ((k:Int) > 0)=true from Ba (by omega)];rfl
   grind
  ·rw [show (b == 0)=false from beq_eq_false_iff_ne.2 hz];by_cases h2:n+b*pw k > 1000000000;·rw [if_pos (.inr h2),show decide (n+b*pw k > 1000000000)=true from Ba h2];rfl
   grind
 grind
theorem QBl {text:AA} {a:Nat} (hs:text.size<=140737488351232) (ha:a<=text.size):∀ j k m n,k+j=5->j<m->0<=n->n<pw k->∃ r,Aw0 m (.c0 text a n k)=some r/\AIn text a r:=by
 intro j;induction j with
 | zero=>
  intro k m n hk hm _ _;obtain ⟨m,rfl⟩:∃ q,m=q+1:=⟨m - 1,by omega⟩
  exact ⟨_,SAq hs ha (by omega) (.inr (by omega)),.inl rfl⟩
 | succ j ih=>
  intro k m n hk hm h0 h1;obtain ⟨m,rfl⟩:∃ q,m=q+1:=⟨m - 1,by omega⟩
  by_cases hi:a+k<text.size
  ·have hb:=Rz text ((a+k:Nat):Int);generalize hbe:bt text ((a+k:Nat):Int)=b at hb;obtain ⟨n1,n2,_⟩:=Ym (b:=b) (by omega:k<5) h0 h1 hb
   rw [TAq hs (by omega) hi h0 h1 hbe];split
   ·rename_i h;split;·exact ⟨_,rfl,.inl rfl⟩
    ·exact ⟨_,rfl,.inr ⟨_,_,rfl,(n1 h).2.2.2.1,by omega,by omega,by omega⟩⟩
   ·rename_i h;obtain ⟨_,_,_,e4,e5⟩:=n2 h
    exact ih (k+1) m _ (by omega) (by omega) e4 e5
  ·exact ⟨_,SAq hs ha (by omega) (.inl (by omega)),.inl rfl⟩
theorem RBl {text:AA} {a:Nat} {V:Int} (hs:text.size<=140737488351232) (hV:V<=1000000000) (hA:At text a (SN V)):∀ U k m n,SN U=(SN V).drop k->0<=U->(0<k->0<U)->n+pw k*U=V->0<=n->n<pw k->5<m+k->Aw0 m (.c0 text a n k)=some (V,((a+(SN V).length:Nat):Int),true):=by
 have h5:=NBL hV;intro U;induction U using SN.induct with
 | case1 U hU ih=>
  intro k m n e1 u0 Gc e2 h0 h1 hm;have hl:=congrArg List.length e1;rw [List.length_drop] at hl;have hp:=Qy U;have hk:k<5:=by omega
  obtain ⟨m,rfl⟩:∃ q,m=q+1:=⟨m - 1,by omega⟩
  have hA':At text (a+k) (SN U):=by
   have:At text a ((SN V).take k++(SN V).drop k):=by simp_all
   have:=this.right;grind
  have e3:=e1;rw [SN,if_pos hU] at hA' e3;obtain ⟨hi,hb⟩:=hA'.head
  obtain ⟨n1,n2,_⟩:=Ym (b:=128+U % 128) hk h0 h1 (by omega)
  obtain ⟨_,_,_,e4,e5⟩:=n2 (by omega)
  rw [TAq hs hk hi h0 h1 hb,if_neg (by omega)];refine ih (k+1) m _ ?_ (by omega) (fun _=>by omega) ?_ e4 e5 (by omega);·rw [<-List.drop_drop,<-e3];rfl
  grind [MBA]
 | case2 U hU=>
  intro k m n e1 u0 Gc e2 h0 h1 hm;have hl:=congrArg List.length e1;rw [List.length_drop] at hl;have hp:=Qy U;have hk:k<5:=by omega
  obtain ⟨m,rfl⟩:∃ q,m=q+1:=⟨m - 1,by omega⟩
  have hA':At text (a+k) (SN U):=by
   have:At text a ((SN V).take k++(SN V).drop k):=by simp_all
   have:=this.right;grind
  rw [dX u0 (by omega)] at hA' hl;simp only [List.length_singleton] at hl;obtain ⟨hi,hb⟩:=hA'.head
  grind [TAq]
theorem NBA {text:AA} {a:Nat} (hs:text.size<=140737488351232) (ha:a<=text.size):∃ r,Us text a=some r/\AIn text a r:=by simp only [Us,zn,mk,AvD,AP];rw [show Bl (a:Int) 0 (text.size:Int)=true from Na.2 ⟨by omega,by omega⟩];exact QBl hs ha 5 0 AY 0 rfl (FM (by omega)) (by omega) (by simp [WV])
theorem zo {text:AA} {a:Nat} {V:Int} (hs:text.size<=140737488351232) (hV0:0<=V) (hV:V<=1000000000) (hA:At text a (SN V)):Us text a=some (V,((a+(SN V).length:Nat):Int),true):=by
 have ha:a+(SN V).length<=text.size:=by
  rcases hA.size with h | h
  all_goals grind [Qy]
 simp only [Us,zn,mk,AvD,AP];rw [show Bl (a:Int) 0 (text.size:Int)=true from Na.2 ⟨by omega,by omega⟩];exact RBl hs hV hA V 0 AY 0 (by simp) hV0 (fun h=>absurd h (Nat.lt_irrefl 0)) (by simp [WV]) (by omega) (by simp [WV]) (by simp [FM])
def zq (text:AA) (a:Nat) (r:Int×Int×Bool):Prop:=r=VE\/∃ v:Int,r=(v,((a+(SN v).length:Nat):Int),true)/\0<=v/\v<=1000000000/\At text a (SN v)
theorem SBl {text:AA} {a:Nat} (hs:text.size<=140737488351232) (ha:a<=text.size):∀ j k m n,k+j=5->j<m->0<=n->n<pw k->∃ r,ArH m (.c0 text a n (pw k) ((a+k:Nat):Int))=some r/\zq text a r:=by
 intro j;induction j with
 | zero=>
  intro k m n hk hm _ _;obtain ⟨m,rfl⟩:∃ q,m=q+1:=⟨m - 1,by omega⟩
  exact ⟨_,QAq hs ha (.inr (by omega)),.inl rfl⟩
 | succ j ih=>
  intro k m n hk hm h0 h1;obtain ⟨m,rfl⟩:∃ q,m=q+1:=⟨m - 1,by omega⟩
  by_cases hi:a+k<text.size
  ·have hb:=Rz text ((a+k:Nat):Int);generalize hbe:bt text ((a+k:Nat):Int)=b at hb;obtain ⟨n1,n2,_⟩:=Ym (b:=b) (by omega:k<5) h0 h1 hb
   rw [RAq hs (by omega) hi h0 h1 hbe];split
   ·rename_i h;have hv0:=(n1 h).2.2.2.1;split;·exact ⟨_,rfl,.inl rfl⟩
    ·split;·rename_i h2;have h3:=congrArg bs h2;rw [AsM (SC _ hv0),Ls] at h3;have hl:=congrArg List.length h3;rw [List.length_drop,List.length_take,bs_len,Nat.min_eq_left (by omega)] at hl;refine ⟨_,rfl,.inr ⟨_,by rw [show a+k+1=a+(SN (n+b*pw k)).length by omega],hv0,by omega,(bs text).drop (a+k+1),?_⟩⟩;grind [List.drop_take,List.drop_drop,Nat.add_sub_cancel_left,List.take_append_drop]
     ·exact ⟨_,rfl,.inl rfl⟩
   ·rename_i h;obtain ⟨_,_,_,e4,e5⟩:=n2 h
    exact ih (k+1) m _ (by omega) (by omega) e4 e5
  ·exact ⟨_,QAq hs ha (.inl (by omega)),.inl rfl⟩
theorem PBL {text:AA} {p:Nat} (hp:p<text.size) {l:List Int} (h:At text (p+1) l):At text p (bt text (p:Int)::l):=by
 obtain ⟨r,hr⟩:=h
 refine ⟨r,?_⟩;simp_all [drop_at,bs_len,jB]
theorem TBl {text:AA} {a:Nat} (hs:text.size<=140737488351232) (ha:a<=text.size):∀ j k m n,k+j=5->j<m->0<=n->n<pw k->∃ r,Aw0 m (.c0 text a n k)=some r/\(r=VE\/∃ U:Int,r=(n+pw k*U,((a+k+(SN U).length:Nat):Int),true)/\0<=U/\(0<k->0<U)/\n+pw k*U<=1000000000/\At text (a+k) (SN U)):=by
 intro j;induction j with
 | zero=>
  intro k m n hk hm _ _;obtain ⟨m,rfl⟩:∃ q,m=q+1:=⟨m - 1,by omega⟩
  grind [SAq]
 | succ j ih=>
  intro k m n hk hm h0 h1;obtain ⟨m,rfl⟩:∃ q,m=q+1:=⟨m - 1,by omega⟩
  by_cases hi:a+k<text.size
  ·have hb:=Rz text ((a+k:Nat):Int);generalize hbe:bt text ((a+k:Nat):Int)=b at hb;obtain ⟨n1,n2,_⟩:=Ym (b:=b) (by omega:k<5) h0 h1 hb
   rw [TAq hs (by omega) hi h0 h1 hbe];split
   ·rename_i h;split;·simp
    ·rename_i h2;have e1:=dX hb.1 (by omega:b<=127);refine ⟨_,rfl,.inr ⟨b,by simp_all [Int.mul_comm],hb.1,fun hk0=>by omega,by simp_all [Int.mul_comm],?_⟩⟩;rw [e1,<-hbe];exact PBL hi ⟨_,rfl⟩
   ·rename_i h;obtain ⟨_,_,_,e4,e5⟩:=n2 h
    obtain ⟨r,hr,hR⟩:=ih (k+1) m _ (by omega) (by omega) e4 e5
    refine ⟨r,hr,?_⟩;rcases hR with hR | ⟨U,hR,hU,Gb,DA,hA⟩
    ·simp_all
    ·have Hi:=Gb (by omega);have e6:SN (b - 128+128*U)=b::SN U:=by rw [SN,if_pos (by omega),show (b - 128+128*U) / 128=U by omega,show 128+(b - 128+128*U) % 128=b by omega]
     have e7:n+(b - 128)*pw k+pw (k+1)*U=n+pw k*(b - 128+128*U):=by grind [pw]
     refine .inr ⟨b - 128+128*U,?_,by omega,fun _=>by omega,by omega,?_⟩;·rw [hR,e6,e7,List.length_cons,show a+(k+1)+(SN U).length=a+k+((SN U).length+1) by omega]
     ·rw [e6,<-hbe];exact PBL hi hA
  grind [SAq]
theorem UBl {text:AA} {a:Nat} (hs:text.size<=140737488351232) (ha:a<=text.size):∃ r,RS text a=some r/\zq text a r:=by simp only [RS,zl,mk,Ho,AP];rw [show Bl (a:Int) 0 (text.size:Int)=true from Na.2 ⟨by omega,by omega⟩];exact SBl hs ha 5 0 AY 0 rfl (FM (by omega)) (by omega) (by simp [WV])
theorem VBl {text:AA} {a:Nat} (hs:text.size<=140737488351232) (ha:a<=text.size):∃ r,Us text a=some r/\zq text a r:=by
 simp only [Us,zn,mk,AvD,AP];rw [show Bl (a:Int) 0 (text.size:Int)=true from Na.2 ⟨by omega,by omega⟩];obtain ⟨r,hr,hR⟩:=TBl hs ha 5 0 AY 0 rfl (FM (by omega)) (by omega) (by simp [WV])
 refine ⟨r,hr,?_⟩;rcases hR with hR | ⟨U,hR,hU,_,DA,hA⟩
 ·exact .inl hR
 ·rw [WV,Int.zero_add,Int.one_mul] at hR DA;exact .inr ⟨U,hR,hU,DA,hA⟩
theorem OBA {n:Int} (h:0<=n):(n<=127/\SN n=[n])\/(127<n/\SN n=(128+n % 128)::SN (n / 128)):=by grind [dX,SN]
theorem WBl:∀ (n:Nat) (v w:Int) (r s:List Int),v.toNat<=n->0<=v->0<=w->SN v++r=SN w++s->v=w:=by
 intro n;induction n with
 | zero=>
  intro v w r s hn hv hw h;have hv0:v=0:=by omega
  grind [dX,OBA]
 | succ n ih=>
  intro v w r s hn hv hw h;rcases OBA hv with ⟨g1,g2⟩ | ⟨g1,g2⟩ <;> rcases OBA hw with ⟨h1,h2⟩ | ⟨h1,h2⟩ <;> rw [g2,h2] at h <;> injection h with h3 h4
  ·omega
  ·omega
  ·have:=ih (v / 128) (w / 128) r s (by omega) (by omega) (by omega) h4;omega
theorem XBl {text:AA} {a:Nat} {v w:Int} (hv:0<=v) (hw:0<=w) (h:At text a (SN v)) (k:At text a (SN w)):v=w:=by
 obtain ⟨r,hr⟩:=h
 obtain ⟨s,hs⟩:=k
 exact WBl v.toNat v w r s (Nat.le_refl _) hv hw (hr.symm.trans hs)
noncomputable def ArZ (text:AA) (a:Nat):Int×Int×Bool:=@dite _ (∃ v:Int,0<=v/\v<=1000000000/\At text a (SN v)) (Classical.propDecidable _) (fun h=>(h.choose,((a+(SN h.choose).length:Nat):Int),true)) (fun _=>VE)
theorem QBL {text:AA} {a:Nat} {o:Option (Int×Int×Bool)} (h1:∃ r,o=some r/\zq text a r) (h2:∀ V:Int,0<=V->V<=1000000000->At text a (SN V)->o=some (V,((a+(SN V).length:Nat):Int),true)):o=some (ArZ text a):=by
 unfold ArZ;split;·grind
 ·rename_i h;obtain ⟨r,hr,rfl | ⟨v,_,k1,k2,k3⟩⟩:=h1
  all_goals simp_all
theorem RBL {text:AA} {a:Nat} (hs:text.size<=140737488351232) (ha:a<=text.size):RS text a=some (ArZ text a):=QBL (UBl hs ha) (fun V h0 h1 hA=>OBL hs h0 h1 hA)
theorem SBL {text:AA} {a:Nat} (hs:text.size<=140737488351232) (ha:a<=text.size):Us text a=some (ArZ text a):=QBL (VBl hs ha) (fun V h0 h1 hA=>zo hs h0 h1 hA)
theorem uF {text:AA} {a:Nat} (hs:text.size<=140737488351232) (ha:a<=text.size):zq text a (ArZ text a):=by
 unfold ArZ;split
 ·rename_i h;obtain ⟨k1,k2,k3⟩:=h.choose_spec
  exact .inr ⟨_,rfl,k1,k2,k3⟩
 ·exact .inl rfl
theorem PBA {text:AA} {a:Nat} {V:Int} (hs:text.size<=140737488351232) (hV0:0<=V) (hV:V<=1000000000) (hA:At text a (SN V)):ArZ text a=(V,((a+(SN V).length:Nat):Int),true):=by unfold ArZ;split;all_goals grind [XBl]
noncomputable def Nu (file:AA) (a:Nat):Option (AA×Nat):=
 bif (ArZ file a).2.2 && (Bl (ArZ file a).1 1 9000 && (decide ((ArZ file a).1<=(file.size:Int) - (ArZ file a).2.1 - 4) &&
  (bs (file.extract (ArZ file a).2.1.toNat ((ArZ file a).2.1+4).toNat) == four (Ur (bs (file.extract ((ArZ file a).2.1+4).toNat ((ArZ file a).2.1+4+(ArZ file a).1).toNat))))))
 then some (file.extract ((ArZ file a).2.1+4).toNat ((ArZ file a).2.1+4+(ArZ file a).1).toNat,((ArZ file a).2.1+4+(ArZ file a).1).toNat) else none
noncomputable def Ll:Nat->AA->Nat->List AA×Nat
 | 0,_,a=>([],a)
 | j+1,file,a=>match Nu file a with
  | none=>([],a)
  | some p=>(p.1::(Ll j file p.2).1,(Ll j file p.2).2)
noncomputable def AwS (file:AA):List AA×Int:=bif decide ((file.size:Int) > 20000) then ([],0) else ((Ll (file.size+1) file 0).1,((Ll (file.size+1) file 0).2:Int))
theorem kR {file:AA} {a:Nat} (hs:file.size<=140737488351232) (ha:a<=file.size):(Nu file a=none)\/∃ (v:Int) (q:Nat),ArZ file a=(v,(q:Int),true)/\a<q/\q=a+(SN v).length/\1<=v/\v<=9000/\q+4+v.toNat<=file.size/\At file a (SN v)/\
  bs (file.extract q (q+4))=four (Ur (bs (file.extract (q+4) (q+4+v.toNat))))/\Nu file a=some (file.extract (q+4) (q+4+v.toNat),q+4+v.toNat):=by
 rw [Nu];rcases uF hs ha with h | ⟨v,h,h0,h1,hA⟩
 ·left;rw [h];rfl
 ·rw [h];have hp:=Qy v;have hsz:=hA.size.resolve_left (by grind);generalize hq:a+(SN v).length=q at hsz;simp only [Bool.true_and];cases h2:Bl v 1 9000;all_goals grind [Na]
def Av7:List AA->List Int
 | []=>[]
 | t::ts=>GV (bs t)++Av7 ts
def whole:List AA->Nat->Nat
 | [],_=>0
 | t::ts,K=>if (GV (bs t)).length<=K then whole ts (K - (GV (bs t)).length)+1 else 0
theorem yt (l:List Int):(GV l).length=(SN (l.length:Int)).length+4+l.length:=by grind [four,GV]
theorem TBL (ts us:List AA):Av7 (ts++us)=Av7 ts++Av7 us:=by induction ts<;>simp_all [Av7]
theorem UAq (ts:List AA):∀ K,whole ts K<=K/\whole ts K<=ts.length/\(Av7 (ts.take (whole ts K))).length<=K:=by induction ts<;>grind [whole,yt,Av7]
theorem QBA (ts:List AA):∀ K,(Av7 ts).length<=K->whole ts K=ts.length:=by induction ts<;>grind [Av7,whole]
theorem YBl {file l:AA} {a:Nat} (hs:file.size<=140737488351232) (h1:1<=l.size) (h2:l.size<=9000) (hA:At file a (GV (bs l))):Nu file a=some (l,a+(GV (bs l)).length):=by
 have hA':At file a (SN (l.size:Int)++(four (Ur (bs l))++bs l)):=by simp_all [GV,bs_len]
 have e1:=PBA hs (by omega) (by omega) hA'.left;have hB:=hA'.right;have hC:=hB.right;have h4:(four (Ur (bs l))).length=4:=rfl;have hx4:=hB.left.extract (V6 (X7 (bs l)));have hxl:=hC.extract (Jj l);rw [h4] at hx4 hxl hC;rw [bs_len,zG] at hxl;have hz:a+(SN (l.size:Int)).length+4+l.size<=file.size:=by
  rcases hC.size with h | h
  all_goals grind [bs_len]
 have hlen:=yt (bs l);rw [bs_len] at hlen;rw [Nu,e1,hlen];generalize (SN (l.size:Int)).length=n at hx4 hxl hz;dsimp only;have t0:((a+n:Nat):Int).toNat=a+n:=BR _;have t1:(((a+n:Nat):Int)+4).toNat=a+n+4:=by omega
 have t2:(((a+n:Nat):Int)+4+(l.size:Int)).toNat=a+n+4+l.size:=by omega
 rw [t0,t1,t2,hx4,hxl,AsM (V6 (X7 (bs l))),beq_self_eq_true,Na.2 (show 1<=(l.size:Int)/\(l.size:Int)<=9000 by omega),show decide ((l.size:Int)<=(file.size:Int) - ((a+n:Nat):Int) - 4)=true from Ba (by omega)];grind
theorem ZBl {file l:AA} {a:Nat} {rest:List Int} (hs:file.size<=140737488000000) (ha:a<=file.size) (h2:l.size<=9000) (hr:0<rest.length) (hrb:Aqy rest) (hA:(bs file).drop a++rest=GV (bs l)):Nu file a=none:=by
 rcases kR (file:=file) (a:=a) (by omega) ha with h | ⟨v,q,_,hq,hq2,hv1,hv2,h3,hAv,_,_⟩
 ·exact h
 ·exfalso;have hl:=yt (bs l);rw [bs_len] at hl;have HD:=Jo (n:=(l.size:Int)) (by omega);have hlen:=congrArg List.length hA;rw [List.length_append,List.length_drop,bs_len] at hlen;have hb:bs (file++ofBytes rest)=bs file++rest:=by rw [Aq7,AsM hrb]
  have hd:(bs (file++ofBytes rest)).drop a=GV (bs l):=by simp_all [List.drop_append_of_le_length,bs_len]
  have hz:(file++ofBytes rest).size=file.size+rest.length:=by simp [Dj]
  have e1:=PBA (text:=file++ofBytes rest) (a:=a) (V:=(l.size:Int)) (by omega) (by omega) (by omega) ⟨four (Ur (bs l))++bs l,by grind [GV,bs_len]⟩;obtain ⟨x,hx⟩:=hAv
  have e2:=PBA (text:=file++ofBytes rest) (a:=a) (V:=v) (by omega) (by omega) (by omega) ⟨x++rest,by simp_all⟩;grind
theorem Aju {file:AA} (hs:file.size<=140737488000000):∀ (ts:List AA) (K m a:Nat),(∀ t ∈ ts,1<=t.size/\t.size<=9000)->a<=file.size->(bs file).drop a=(Av7 ts).take K->whole ts K<m->Ll m file a=(ts.take (whole ts K),a+(Av7 (ts.take (whole ts K))).length):=by
 intro ts;induction ts with
 | nil=>
  intro K m a _ ha hd hm;obtain ⟨m,rfl⟩:∃ n,m=n+1:=⟨m - 1,by omega⟩
  grind [bs_len,Av7,Ll,kR]
 | cons t ts ih=>
  intro K m a ht ha hd hm;obtain ⟨m,rfl⟩:∃ n,m=n+1:=⟨m - 1,by omega⟩
  have ht0:=ht t (List.mem_cons_self ..);rw [whole] at hm ⊢;rw [Av7,List.take_append] at hd;split at hm
  ·rename_i h;rw [if_pos h];rw [List.take_of_length_le h] at hd;have hA:At file a (GV (bs t)):=⟨_,hd⟩
   have hz:a+(GV (bs t)).length<=file.size:=by
    rcases hA.size with h | h
    all_goals grind
   rw [Ll,YBl (by omega) ht0.1 ht0.2 hA];have hd2:(bs file).drop (a+(GV (bs t)).length)=(Av7 ts).take (K - (GV (bs t)).length):=by grind [List.drop_drop,List.drop_left]
   dsimp only;rw [ih _ m _ (fun x hx=>ht x (List.mem_cons_of_mem _ hx)) hz hd2 (by omega),List.take_succ_cons,Av7,List.length_append];grind
  ·rename_i h;rw [if_neg h];rw [show K - (GV (bs t)).length=0 by omega,List.take_zero,List.append_nil] at hd;rw [Ll,ZBl (file:=file) (l:=t) (rest:=(GV (bs t)).drop K) hs ha ht0.2 (by grind) (fun n hn=>xJ (Jj t) n (List.mem_of_mem_drop hn)) (by simp_all)];rfl
theorem VAq:∀ {a m:List Int},Aqy a->a.length<=m.length->Arm (Arm a m) m=a
 | [],_,_,_=>by rfl
 | _::_,[],_,h=>by simp at h
 | x::a,y::m,hb,h=>by have h1:=VAq (a:=a) (m:=m) (fun n hn=>hb n (List.mem_cons_of_mem _ hn)) (by simpa using h);simp only [Arm] at h1 ⊢;rw [List.zipWith_cons_cons,List.zipWith_cons_cons,h1,HBj (hb x (List.mem_cons_self ..))]
theorem BBm {k t:AA} {num:Int} (h:(EP k num t).2=true):16<=t.size/\MB num ((t.size:Int) - 16)=true/\Aqe (bs k) num ((bs t).take (t.size - 16))=(bs t).drop (t.size - 16)/\bs (EP k num t).1=Arm ((bs t).take (t.size - 16)) (PL (bs k) (SN num) (t.size - 16))/\bs t=(bs t).take (t.size - 16)++Aqe (bs k) num ((bs t).take (t.size - 16)):=by
 rw [EP] at h ⊢;cases h1:decide ((t.size:Int)<16) || !(MB num ((t.size:Int) - 16))
 ·rw [h1,Aq] at h;rw [Bool.or_eq_false_iff,decide_eq_false_iff_not,Bool.not_eq_false'] at h1;cases h2:(Aqe (bs k) num ((bs t).take (t.size - 16)) == (bs t).drop (t.size - 16))
  ·simp_all
  ·rw [Aq,Ar,AsM (Vk _ _)];grind [List.take_append_drop]
 simp_all
theorem uD (k t:AA) (num:Int):(EP k num t).1.size<=t.size:=by
 have hl:=bs_len t;rw [EP];cases decide ((t.size:Int)<16) || !(MB num ((t.size:Int) - 16))
 ·rw [Aq];cases (Aqe (bs k) num ((bs t).take (t.size - 16)) == (bs t).drop (t.size - 16));·exact DJ _
  grind [Dj,Arm]
 ·exact DJ _
theorem CBm {k:AA} {num:Int} {s:List Int} (hs:Aqy s) (hm:MB num s.length=true):EP k num (ofBytes (Aru (bs k) num s))=(ofBytes s,true):=by
 have hx:(Arm s (PL (bs k) (SN num) s.length)).length=s.length:=dA (by simp [Rw]);have hb:Aqy (Aru (bs k) num s):=fun x hx=>by
  rcases List.mem_append.1 hx with hx | hx
  ·exact Vk _ _ x hx
  ·exact UH _ _ _ x hx
 have hsz:(ofBytes (Aru (bs k) num s)).size=s.length+16:=by simp_all [Dj,Aru,oG]
 rw [EP,AsM hb,hsz,Nat.add_sub_cancel,show ((s.length+16:Nat):Int) - 16=(s.length:Int) by omega,hm];grind [Aru,VAq,Rw]
theorem DBm {k t:AA} {num:Int} (h:(EP k num t).2=true):Aru (bs k) num (bs (EP k num t).1)=bs t:=by
 obtain ⟨h1,h2,h3,h4,h5⟩:=BBm h
 have hl:((bs t).take (t.size - 16)).length=t.size - 16:=by grind [bs_len]
 have hx:(bs (EP k num t).1).length=t.size - 16:=by grind [dA,Rw]
 rw [Aru,hx,h4,VAq (fun n hn=>Jj t n (List.mem_of_mem_take hn)) (by grind [Rw]),<-h5]
theorem EBm {k:AA} {num:Int} {a b:List Int} (ha:Aqy a) (hb:Aqy b) (h:Aru (bs k) num a=Aru (bs k) num b):a=b:=by grind [dA,Rw,Aru,List.length_append,oG,List.append_inj,VAq]
def Yn (text:AA) (c:Jz):Prop:=∃ p:Nat,∃ b:Bool,c=⟨text,(p:Int),b⟩/\p<=text.size
theorem WAq {text:AA} {c:Jz} (hs:text.size<=140737488351232) (h:Yn text c):∃ v c',Yo c=some (v,c')/\Yn text c'/\0<=v/\v<=1000000000:=by
 obtain ⟨p,b,rfl,hp⟩:=h
 obtain ⟨r,hr,hR⟩:=OBl hs hp
 simp only [Yo,FAk,hr,AP];cases b
 ·rcases hR with rfl | ⟨v,q,rfl,h0,h1,_,h3⟩
  ·exact ⟨_,_,rfl,⟨p,true,rfl,hp⟩,by omega,by omega⟩
  ·exact ⟨_,_,rfl,⟨q,false,rfl,h3⟩,h0,h1⟩
 ·exact ⟨_,_,rfl,⟨p,true,rfl,hp⟩,by omega,by omega⟩
theorem zu {text:AA} {a:Nat} {V:Int} (hs:text.size<=140737488351232) (hV0:0<=V) (hV:V<=1000000000) (hA:At text a (SN V)):Yo ⟨text,(a:Int),false⟩=some (V,⟨text,((a+(SN V).length:Nat):Int),false⟩):=by simp only [Yo,FAk,OBL hs hV0 hV hA,AP];rfl
theorem RBA {text:AA} {c:Jz} {n:Int} (hs:text.size<=140737488351232) (h:Yn text c) (h0:0<=n) (h1:n<=1000000000):∃ s c',AsJ c n=some (s,c')/\Yn text c'/\s.size<=1000000000/\(c'.I7=false->(s.size:Int)=n/\c.ER+n<=(text.size:Int)):=by
 obtain ⟨p,b,rfl,hp⟩:=h
 simp only [AsJ,GAk,mk];have e1:AV ((text.size:Int) - (p:Int))=(text.size:Int) - p:=A8 (by omega) (by omega);have e2:AV ((p:Int)+n)=p+n:=A8 (by omega) (by omega);have e3:AV ((p:Int)+n - n)=p:=by grind [A8]
 rw [e1,e2,e3];cases b
 ·by_cases hn:n > (text.size:Int) - p;·rw [show decide (n > (text.size:Int) - p)=true from Ba hn];exact ⟨_,_,rfl,⟨p,true,rfl,hp⟩,by show 0<=_;omega,fun h=>by cases h⟩
  ·rw [show decide (n > (text.size:Int) - p)=false from D6 hn,show decide ((0:Int)<=(p:Int))=true from Ba (by omega),show decide ((p:Int)<=p+n)=true from Ba (by omega),show decide ((p:Int)+n<=(text.size:Int))=true from Ba (by omega)];have hz:(text.extract (p:Int).toNat ((p:Int)+n).toNat).size=n.toNat:=by grind [ByteArray.size_extract]
   refine ⟨_,_,rfl,⟨((p:Int)+n).toNat,false,?_,by omega⟩,by omega,fun _=>⟨by omega,by omega⟩⟩;grind
 ·exact ⟨_,_,rfl,⟨p,true,rfl,hp⟩,by show 0<=_;omega,fun h=>by cases h⟩
theorem SBA {text:AA} {p:Nat} {s:AA} (hs:text.size<=140737488351232) (hA:At text p (bs s)) (hp:p<=text.size):AsJ ⟨text,(p:Int),false⟩ (s.size:Int)=some (s,⟨text,((p+s.size:Nat):Int),false⟩):=by
 have hz:p+s.size<=text.size:=by
  rcases hA.size with h | h
  all_goals grind [bs_len]
 have e1:AV ((text.size:Int) - (p:Int))=(text.size:Int) - p:=A8 (by omega) (by omega);have e2:AV ((p:Int)+(s.size:Int))=((p+s.size:Nat):Int):=by grind [A8]
 have e3:AV (((p+s.size:Nat):Int) - (s.size:Int))=p:=by grind [A8]
 simp only [AsJ,GAk,mk,e1,e2,e3,BR];have hx:=hA.extract (fun n hn=>IA9 hn);grind [bs_len,zG]
theorem TBA {text:AA} {c:Jz} (hs:text.size<=140737488351232) (h:Yn text c):∃ v c',SY c=some (v,c')/\Yn text c'/\0<=v/\v<=255/\(c'.I7=true->v=0)/\(c'.I7=false->c.ER+1<=(text.size:Int)):=by
 obtain ⟨s,c',e,hc,_,hn⟩:=RBA (n:=1) hs h (by omega) (by omega)
 simp only [SY,HAk,mk,e,AP];cases hb:c'.I7
 ·obtain ⟨h1,h2⟩:=hn hb
  rw [show decide ((0:Int)<=(0:Int))=true from rfl,show decide ((0:Int)<(s.size:Int))=true from Ba (by omega)];have:=Rz s 0;grind [A8]
 grind
theorem qG {text:AA} {p:Nat} {b:Int} (hs:text.size<=140737488351232) (hA:At text p [b]):SY ⟨text,(p:Int),false⟩=some (b,⟨text,((p+1:Nat):Int),false⟩):=by
 obtain ⟨h1,h2⟩:=hA.head
 have hb:=Rz text p;rw [h2] at hb;have hB:bs (ofBytes [b])=[b]:=AsM (by simp_all);have e:=SBA (s:=ofBytes [b]) hs (by simp_all) (Nat.le_of_lt h1);have h0:bt (ofBytes [b]) 0=b:=by grind [jB,Dj]
 simp only [SY,HAk,mk];rw [show AsJ ⟨text,(p:Int),false⟩ 1=_ from e];simp only [AP,h0,A8 (n:=b) (by omega) (by omega)];rfl
theorem FBm {text:AA} {c:Jz} (hs:text.size<=140737488351232) (h:Yn text c):∃ s c',qH c=some (s,c')/\Yn text c'/\s.size<=1000000000:=by
 obtain ⟨v,c1,e1,h1,h2,h3⟩:=WAq hs h
 obtain ⟨s,c2,e2,h4,h5,_⟩:=RBA hs h1 h2 h3
 simp only [qH,IAk,e1,e2,AP];grind
theorem GBm {text:AA} {p:Nat} {s:AA} (hs:text.size<=140737488351232) (hz:s.size<=1000000000) (hA:At text p (SN (s.size:Int)++bs s)):qH ⟨text,(p:Int),false⟩=some (s,⟨text,((p+(SN (s.size:Int)).length+s.size:Nat):Int),false⟩):=by
 have hp:p+(SN (s.size:Int)).length<=text.size:=by
  rcases hA.left.size with h | h
  all_goals grind [Qy]
 simp only [qH,IAk,zu hs (by omega) (by omega) hA.left,SBA hs hA.right hp,AP]
theorem HBm (x:Af):(((Ark x).tmod 2 == 1)=x.CY)/\(((AV ((Ark x).tdiv 2)).tmod 2 == 1)=x.CX)/\(((AV ((Ark x).tdiv 4)).tmod 2 == 1)=x.Gw)/\(((AV ((Ark x).tdiv 8)).tmod 2 == 1)=x.GH):=by unfold Ark;cases x.CY <;> cases x.CX <;> cases x.Gw <;> cases x.GH <;> decide
theorem UBL {x:Af} (h:Awj x=true):bs (Yf x)=SN x.fId++([x.Aj]++([Ark x]++((SN (x.fValue.size:Int)++bs x.fValue)++SN x.fNext))):=by
 obtain ⟨k1,k2,k3,k4,k5,k6,k7⟩:=Arq h
 have hf:=zO x;unfold Yf ArY;simp only [Aq7,AsM (SC x.fId (by omega)),AsM (SC x.fNext (by omega)),AsM (SC (x.fValue.size:Int) (by omega)),AsM (l:=[x.Aj]) (by grind),AsM (l:=[Ark x]) (by grind),List.append_assoc]
def XAq (text:AA) (r:Af×Bool):Prop:=(r.2=true/\G7 r.1=(text,true))\/r=(⟨(0:Int),(0:Int),false,false,false,false,(⟨#[]⟩:AA),(0:Int)⟩,false)
theorem VBL {text:AA} (hs:text.size<=140737488351232):∃ r,WG text=some r/\XAq text r:=by
 obtain ⟨v0,c0,e0,h0,_⟩:=WAq hs (c:=⟨text,(0:Int),false⟩) ⟨0,false,rfl,by omega⟩
 obtain ⟨v1,c1,e1,h1,_⟩:=TBA hs h0
 obtain ⟨v2,c2,e2,h2,_⟩:=TBA hs h1
 obtain ⟨v3,c3,e3,h3,_⟩:=FBm hs h2
 obtain ⟨v4,c4,e4,h4,_⟩:=WAq hs h3
 simp only [WG,JAk,mk,e0,e1,e2,e3,e4,tX,AP];cases c4.I7
 ·cases h5:(G7 (⟨v0,v1,v2.tmod 2 == 1,(AV (v2.tdiv 2)).tmod 2 == 1,(AV (v2.tdiv 4)).tmod 2 == 1,(AV (v2.tdiv 8)).tmod 2 == 1,v3,v4⟩:Af)).2;·exact ⟨_,rfl,.inr rfl⟩
  ·rw [toList_inj];by_cases h6:(G7 (⟨v0,v1,v2.tmod 2 == 1,(AV (v2.tdiv 2)).tmod 2 == 1,(AV (v2.tdiv 4)).tmod 2 == 1,(AV (v2.tdiv 8)).tmod 2 == 1,v3,v4⟩:Af)).1=text;·rw [Ba h6];exact ⟨_,rfl,.inl ⟨rfl,Prod.ext h6 h5⟩⟩
   ·rw [D6 h6];exact ⟨_,rfl,.inr rfl⟩
 ·exact ⟨_,rfl,.inr rfl⟩
theorem UBA {text:AA} {x:Af} (h:G7 x=(text,true)):Awj x=true/\text=Yf x:=by grind [G7]
theorem WBL {text:AA} {x:Af} (hs:text.size<=140737488351232) (h:G7 x=(text,true)):WG text=some (x,true):=by
 obtain ⟨ho,rfl⟩:=UBA h
 obtain ⟨k1,k2,k3,k4,k5,k6,k7⟩:=Arq ho
 have hf:=zO x;have hA:At (Yf x) 0 _:=⟨[],by rw [List.drop_zero,UBL ho,List.append_nil]⟩
 have a1:=hA.right;have a2:=a1.right;have a3:=a2.right;have a4:=a3.right;have e0:=zu hs (by omega) (by omega) hA.left;have e1:=qG hs a1.left;have e2:=qG hs a2.left;have e3:=GBm hs (by omega) a3.left;have e4:=zu hs (by omega) (by omega) a4;simp only [List.length_append,bs_len,List.length_singleton,Nat.zero_add,<-Nat.add_assoc] at e0 e1 e2 e3 e4;obtain ⟨b1,b2,b3,b4⟩:=HBm x
 simp only [WG,JAk,mk];rw [show ((0:Int))=((0:Nat):Int) from rfl,e0];simp_all [tX]
def AsF:Ah:=⟨(0:Int),(⟨#[]⟩:AA),(0:Int),(⟨(0:Int),(0:Int),false,false,false,false,(⟨#[]⟩:AA),(0:Int)⟩:Af)⟩
def qI (text:AA) (r:Ah×Bool):Prop:=(r.2=true/\AwX r.1=(text,true))\/r=(AsF,false)
theorem qJ {text:AA} (x:Ah) (bad:Bool):∃ r,(bif bad then some (AsF,false) else bif !(AwX x).2 then some (AsF,false) else bif !((ByteArray.toList (AwX x).1) == (ByteArray.toList text)) then some (AsF,false) else some (x,true))=some r/\qI text r:=by
 cases bad
 ·cases h5:(AwX x).2;·exact ⟨_,rfl,.inr rfl⟩
  ·rw [toList_inj];by_cases h6:(AwX x).1=text;·rw [Ba h6];exact ⟨_,rfl,.inl ⟨rfl,Prod.ext h6 h5⟩⟩
   ·rw [D6 h6];exact ⟨_,rfl,.inr rfl⟩
 ·exact ⟨_,rfl,.inr rfl⟩
theorem IBm {text:AA} (hs:text.size<=140737488351232):∃ r,AsH text=some r/\qI text r:=by
 obtain ⟨v0,c0,e0,h0,_,_,hz,hn⟩:=TBA hs (c:=⟨text,(0:Int),false⟩) ⟨0,false,rfl,by omega⟩
 obtain ⟨v1,c1,e1,h1,_⟩:=RBA (n:=32) hs h0 (by omega) (by omega)
 obtain ⟨v3,c3,e3,h3,_⟩:=WAq hs h0
 simp only [AsH,dY,mk,e0,e1,e3,dQ,AP];cases v0 == 1
 ·simp only [Aq];cases v0 == 2
  ·simp only [Aq];cases v0 == 4
   ·simp only [Aq];cases h:v0 == 3;·exact qJ _ _
    ·have hv:v0=3:=beq_iff_eq.1 h;have hsz:(0:Int)+1<=(text.size:Int):=by simp_all
     obtain ⟨r,e5,_⟩:=VBL (text:=text.extract (1:Int).toNat text.size) (by grind [ByteArray.size_extract])
     rw [show decide ((1:Int)<=(text.size:Int))=true from Ba (by omega),e5];exact qJ _ _
   ·exact qJ _ _
  ·exact qJ _ _
 ·exact qJ _ _
theorem VBA {text:AA} {x:Ah} (h:AwX x=(text,true)) :
  (∃ s:AA,x=⟨1,s,0,AsF.Ag⟩/\s.size=32/\text=ofBytes [1]++s)\/(∃ n:Int,x=⟨2,AsF.fText,n,AsF.Ag⟩/\0<=n/\n<=3/\text=ofBytes [2]++ofBytes (SN n))\/
  (∃ t:Af,∃ s:AA,x=⟨3,AsF.fText,0,t⟩/\G7 t=(s,true)/\text=ofBytes [3]++s)\/(∃ n:Int,x=⟨4,AsF.fText,n,AsF.Ag⟩/\1<=n/\n<=1000/\text=ofBytes [4]++ofBytes (SN n)):=by
 have hE:∀ s:AA,IE s=true->s=⟨#[]⟩:=fun s h=>by grind [IE,toList_inj]
 have hZ:∀ t:Af,IG t=true->t=AsF.Ag:=fun t h=>by
  unfold IG at h;simp only [PA9] at h;obtain ⟨t1,t2,t3,t4,t5,t6,t7,t8⟩:=t
  simp only [Bool.and_eq_true,beq_iff_eq] at h;obtain ⟨rfl,rfl,rfl,rfl,rfl,rfl,h7,rfl,_⟩:=h
  rw [hE _ h7];rfl
 obtain ⟨k,s,n,t⟩:=x
 unfold AwX at h;simp only at h;cases k1:k == 1 <;> rw [k1] at h
 ·cases k2:k == 2 <;> rw [k2] at h
  ·cases k3:k == 3 <;> rw [k3] at h
   ·cases k4:k == 4 <;> rw [k4] at h;·exact Bool.noConfusion (congrArg Prod.snd h)
    ·simp only [Aq,Ar] at h;cases hc:IE s && IG t && Bl n 1 1000 <;> rw [hc] at h;·exact Bool.noConfusion (congrArg Prod.snd h)
     ·simp only [Bool.and_eq_true,Na] at hc;refine .inr (.inr (.inr ⟨n,?_,hc.2.1,hc.2.2,(congrArg Prod.fst h).symm⟩));rw [beq_iff_eq.1 k4,hE _ hc.1.1,hZ _ hc.1.2];rfl
   ·simp only [Aq,Ar] at h;cases hc:(G7 t).2 && IE s && n == 0 <;> rw [hc] at h;·exact Bool.noConfusion (congrArg Prod.snd h)
    ·simp only [Bool.and_eq_true,beq_iff_eq] at hc;refine .inr (.inr (.inl ⟨t,(G7 t).1,?_,Prod.ext rfl hc.1.1,(congrArg Prod.fst h).symm⟩));rw [beq_iff_eq.1 k3,hE _ hc.1.2,hc.2];rfl
  ·simp only [Aq,Ar] at h;cases hc:IE s && IG t && Bl n 0 3 <;> rw [hc] at h;·exact Bool.noConfusion (congrArg Prod.snd h)
   ·simp only [Bool.and_eq_true,Na] at hc;refine .inr (.inl ⟨n,?_,hc.2.1,hc.2.2,(congrArg Prod.fst h).symm⟩);rw [beq_iff_eq.1 k2,hE _ hc.1.1,hZ _ hc.1.2];rfl
 ·simp only [Aq,Ar] at h;cases hc:(s.size:Int) == 32 && n == 0 && IG t <;> rw [hc] at h;·exact Bool.noConfusion (congrArg Prod.snd h)
  grind
theorem dZ {k:Int} {s:AA} (h0:0<=k) (h1:k<=255):At (ofBytes [k]++s) 0 ([k]++bs s):=⟨[],by simp_all [Aq7,AsM]⟩
theorem WBA {k:Int} {s:AA}:(ofBytes [k]++s).extract (1:Int).toNat (ofBytes [k]++s).size=s:=by apply Jm;rw [Ls,<-bs_len,List.take_length,Aq7];rfl
theorem JBm {text:AA} {x:Ah} (hs:text.size<=140737488351232) (h:AwX x=(text,true)):AsH text=some (x,true):=by
 rcases VBA h with ⟨s,rfl,hz,rfl⟩ | ⟨n,rfl,h0,h1,rfl⟩ | ⟨t,s,rfl,ht,rfl⟩ | ⟨n,rfl,h0,h1,rfl⟩
 ·have hA:=dZ (k:=1) (s:=s) (by omega) (by omega);have e0:=qG hs hA.left;have e1:=SBA hs hA.right (by simp_all);simp only [List.length_singleton,Nat.zero_add,hz] at e0 e1;simp only [AsH,dY,mk];rw [show SY ⟨ofBytes [1]++s,(0:Int),false⟩=_ from e0];simp only [AP];rw [show AsJ ⟨ofBytes [1]++s,((1:Nat):Int),false⟩ 32=_ from e1];have h':AwX ⟨1,s,0,⟨(0:Int),(0:Int),false,false,false,false,(⟨#[]⟩:AA),(0:Int)⟩⟩=_:=h;simp only [AP,dQ,h',Oe];rfl
 ·have hA:=dZ (k:=2) (s:=ofBytes (SN n)) (by omega) (by omega);rw [AsM (SC n h0)] at hA;have e0:=qG hs hA.left;have e1:=zu hs (by omega) (by omega) hA.right;simp only [List.length_singleton,Nat.zero_add] at e0 e1;simp only [AsH,dY,mk];rw [show SY ⟨ofBytes [2]++ofBytes (SN n),(0:Int),false⟩=_ from e0];have h':AwX ⟨2,⟨#[]⟩,n,⟨(0:Int),(0:Int),false,false,false,false,(⟨#[]⟩:AA),(0:Int)⟩⟩=_:=h;simp only [AP,e1,dQ,h',Oe];rfl
 ·have hA:=dZ (k:=3) (s:=s) (by omega) (by omega);have e0:=qG hs hA.left;have hsz:s.size<=140737488351232:=by grind
  have e1:=WBL hsz ht;simp only [List.length_singleton,Nat.zero_add] at e0;simp only [AsH,dY,mk];rw [show SY ⟨ofBytes [3]++s,(0:Int),false⟩=_ from e0];have h':AwX ⟨3,⟨#[]⟩,0,t⟩=_:=h;have hd:decide ((1:Int)<=((ofBytes [3]++s).size:Int))=true:=Ba (by grind [Dj]);simp only [AP,WBA,e1,dQ,h',Oe,hd];rfl
 ·have hA:=dZ (k:=4) (s:=ofBytes (SN n)) (by omega) (by omega);rw [AsM (SC n (by omega))] at hA;have e0:=qG hs hA.left;have e1:=zu hs (by omega) (by omega) hA.right;simp only [List.length_singleton,Nat.zero_add] at e0 e1;simp only [AsH,dY,mk];rw [show SY ⟨ofBytes [4]++ofBytes (SN n),(0:Int),false⟩=_ from e0];have h':AwX ⟨4,⟨#[]⟩,n,⟨(0:Int),(0:Int),false,false,false,false,(⟨#[]⟩:AA),(0:Int)⟩⟩=_:=h;simp only [AP,e1,dQ,h',Oe];rfl
def YAq (text:AA) (c:Kw):Prop:=∃ p:Nat,∃ b:Bool,c=⟨text,(p:Int),b⟩/\p<=text.size
theorem ZAq {text:AA} {c:Kw} (hs:text.size<=140737488351232) (h:YAq text c):∃ v c',qK c=some (v,c')/\YAq text c':=by
 obtain ⟨p,b,rfl,hp⟩:=h
 obtain ⟨r,hr,hR⟩:=NBA hs hp
 simp only [qK,HAn,hr,AP];rcases hR with rfl | ⟨v,q,rfl,h0,h1,_,h3⟩
 ·exact ⟨_,_,rfl,⟨p,true,rfl,hp⟩⟩
 ·exact ⟨_,_,rfl,⟨q,b,rfl,h3⟩⟩
theorem AHt {text:AA} {a:Nat} {V:Int} (hs:text.size<=140737488351232) (hV0:0<=V) (hV:V<=1000000000) (hA:At text a (SN V)):qK ⟨text,(a:Int),false⟩=some (V,⟨text,((a+(SN V).length:Nat):Int),false⟩):=by simp only [qK,HAn,zo hs hV0 hV hA,AP];rfl
theorem KBm {text:AA} {a:Nat} (hs:text.size<=140737488351232) (ha:a<=text.size):∃ s q ok,WM text a=some (s,q,ok)/\(ok=true->∃ p:Nat,q=(p:Int)/\p<=text.size):=by
 obtain ⟨r,hr,hR⟩:=NBA hs ha
 simp only [WM,y8,mk,hr,AP];rcases hR with rfl | ⟨v,q,rfl,h0,h1,h2,h3⟩
 ·exact ⟨_,_,_,rfl,fun h=>by cases h⟩
 ·rw [A8 (n:=(text.size:Int) - (q:Int)) (by omega) (by omega),A8 (n:=(q:Int)+v) (by omega) (by omega)];simp only [DN,Aq];cases decide (v > 20000)
  ·by_cases hv:v > (text.size:Int) - (q:Int)
   ·rw [Ba hv];simp
   ·rw [D6 hv,show decide ((0:Int)<=(q:Int))=true from Ba (by omega),show decide ((q:Int)<=q+v)=true from Ba (by omega),show decide ((q:Int)+v<=(text.size:Int))=true from Ba (by omega)];exact ⟨_,_,_,rfl,fun _=>⟨((q:Int)+v).toNat,by omega,by omega⟩⟩
  simp
theorem LBm {text:AA} {p:Nat} {s:AA} (hs:text.size<=140737488351232) (hz:s.size<=20000) (hA:At text p (SN (s.size:Int)++bs s)):WM text p=some (s,((p+(SN (s.size:Int)).length+s.size:Nat):Int),true):=by
 have hp:p+(SN (s.size:Int)).length<=text.size:=by
  rcases hA.left.size with h | h
  all_goals grind [Qy]
 have hA2:=hA.right;have hx:=hA2.extract (fun n hn=>IA9 hn);rw [bs_len,zG] at hx;simp only [WM,y8,mk,zo hs (by omega) (by omega) hA.left,AP];generalize p+(SN (s.size:Int)).length=q at *
 have hz:q+s.size<=text.size:=by
  rcases hA2.size with h | h
  all_goals grind [bs_len]
 grind [A8]
theorem MBm {text:AA} {c:Kw} (hs:text.size<=140737488351232) (h:YAq text c):∃ v c',qL c=some (v,c')/\YAq text c':=by
 obtain ⟨p,b,rfl,hp⟩:=h
 obtain ⟨s,q,ok,hr,hR⟩:=KBm hs hp
 simp only [qL,IAn,mk,hr,AP];cases ok;·exact ⟨_,_,rfl,⟨p,true,rfl,hp⟩⟩
 ·obtain ⟨q,rfl,h3⟩:=hR rfl
  exact ⟨_,_,rfl,⟨q,b,rfl,h3⟩⟩
theorem NBm {text:AA} {p:Nat} {s:AA} (hs:text.size<=140737488351232) (hz:s.size<=20000) (hA:At text p (SN (s.size:Int)++bs s)):qL ⟨text,(p:Int),false⟩=some (s,⟨text,((p+(SN (s.size:Int)).length+s.size:Nat):Int),false⟩):=by simp only [qL,IAn,mk,LBm hs hz hA,AP];rfl
theorem tC (x:Af):WW x=some (Awj x):=by simp only [WW,NA2,mk,AvD,AP,Awj,bne];grind [Na]
theorem X8 {n:Int} (h:n<=9223372036854775807):WX n=some (ofBytes (SN n)):=by
 have key:∀ (n:Int) (m:Nat) (out:List Int),n<=9223372036854775807->(SN n).length<=m->out.length+(SN n).length<=1000->qM m (.c0 n out)=some (ofBytes (out++SN n)):=by
  intro n;induction n using SN.induct with
  | case1 n hn ih=>
   intro m out h1 h2 h3;rw [SN,if_pos hn] at h2 h3 ⊢;simp only [List.length_cons] at h2 h3;obtain ⟨m,rfl⟩:∃ k,m=k+1:=⟨m - 1,by omega⟩
   grind [YBJ,qM,KAm]
  | case2 n hn=>
   intro m out h1 h2 h3;rw [SN,if_neg hn] at h2 h3 ⊢;simp at h2 h3;obtain ⟨m,rfl⟩:∃ k,m=k+1:=⟨m - 1,by omega⟩
   grind [qM,KAm]
 have hl:=Jo h;exact key n AY [] h (Nat.le_of_lt (FM (by omega))) (by grind)
theorem LD {n:Int} (h:0<=n) (h2:n<=255):Jf n=some (ofBytes [n]):=by simp_all [Jf,OA2,mk,Nq]
theorem OBm {s:AA} (h:s.size<=140737488351232):NAm s=some (ArY s):=by simp only [NAm,QA2,mk,X8 (n:=(s.size:Int)) (by omega),AP];have:=Jo (n:=(s.size:Int)) (by omega);rw [show decide ((ofBytes (SN (s.size:Int))).size+s.size<=9223372036854775807)=true from Ba (by grind [Dj])];rfl
theorem BAr (x:Af):qN x=some (G7 x):=by
 simp only [qN,RA2,mk,tC,AP,G7];cases h:Awj x;·rfl
 ·obtain ⟨k1,k2,k3,k4,k5,k6,k7⟩:=Arq h
  obtain ⟨z1,z2,z3⟩:=OA9 h
  have hf:=zO x;have e1:∀ n:Int,(ofBytes [n]).size=1:=fun n=>Dj _
  simp only [Aim,AP,X8 (n:=x.fId) (by omega),LD (n:=x.Aj) (by omega) (by omega),LD hf.1 (by omega),OBm (s:=x.fValue) (by omega),X8 (n:=x.fNext) (by omega),AEY,e1];simp only [DN,Aq,Ar]
  rw [show decide ((ofBytes (SN x.fId)).size+1<=9223372036854775807)=true from Ba (by omega),show decide ((ofBytes (SN x.fId)).size+1+1<=9223372036854775807)=true from Ba (by omega),
   show decide ((ofBytes (SN x.fId)).size+1+1+(ArY x.fValue).size<=9223372036854775807)=true from Ba (by omega),show decide ((ofBytes (SN x.fId)).size+1+1+(ArY x.fValue).size+(ofBytes (SN x.fNext)).size<=9223372036854775807)=true from Ba (by omega)]
  rfl
theorem PBm (x:Af):((AV (((BitVec.toNat ((BitVec.ofInt (IntKind.bits IntKind.i64) (Ark x)) &&& (BitVec.ofInt (IntKind.bits IntKind.i64) (1:Int)))):Nat):Int) != 0)=x.CY)/\((AV (((BitVec.toNat ((BitVec.ofInt (IntKind.bits IntKind.i64) (Ark x)) &&& (BitVec.ofInt (IntKind.bits IntKind.i64) (2:Int)))):Nat):Int) != 0)=x.CX)/\((AV (((BitVec.toNat ((BitVec.ofInt (IntKind.bits IntKind.i64) (Ark x)) &&& (BitVec.ofInt (IntKind.bits IntKind.i64) (4:Int)))):Nat):Int) != 0)=x.Gw)/\((AV (((BitVec.toNat ((BitVec.ofInt (IntKind.bits IntKind.i64) (Ark x)) &&& (BitVec.ofInt (IntKind.bits IntKind.i64) (8:Int)))):Nat):Int) != 0)=x.GH):=by unfold Ark;cases x.CY <;> cases x.CX <;> cases x.Gw <;> cases x.GH <;> refine ⟨?_,?_,?_,?_⟩ <;> kernel_rfl
theorem XBL {text:AA} (hs:text.size<=140737488351232):∃ r,Uw text=some r/\XAq text r:=by
 obtain ⟨v0,c0,e0,h0⟩:=ZAq hs (c:=⟨text,(0:Int),false⟩) ⟨0,false,rfl,by omega⟩
 obtain ⟨v1,c1,e1,h1⟩:=ZAq hs h0
 obtain ⟨v2,c2,e2,h2⟩:=ZAq hs h1
 obtain ⟨v3,c3,e3,h3⟩:=MBm hs h2
 obtain ⟨v4,c4,e4,h4⟩:=ZAq hs h3
 simp only [Uw,JAn,mk,e0,e1,e2,e3,e4,BAr,AP];generalize (AV (((BitVec.toNat ((BitVec.ofInt (IntKind.bits IntKind.i64) v2) &&& (BitVec.ofInt (IntKind.bits IntKind.i64) (1:Int)))):Nat):Int) != 0)=b1;generalize (AV (((BitVec.toNat ((BitVec.ofInt (IntKind.bits IntKind.i64) v2) &&& (BitVec.ofInt (IntKind.bits IntKind.i64) (2:Int)))):Nat):Int) != 0)=b2;generalize (AV (((BitVec.toNat ((BitVec.ofInt (IntKind.bits IntKind.i64) v2) &&& (BitVec.ofInt (IntKind.bits IntKind.i64) (4:Int)))):Nat):Int) != 0)=b3;generalize (AV (((BitVec.toNat ((BitVec.ofInt (IntKind.bits IntKind.i64) v2) &&& (BitVec.ofInt (IntKind.bits IntKind.i64) (8:Int)))):Nat):Int) != 0)=b4;cases c4.I7
 ·cases h5:(G7 (⟨v0,v1,b1,b2,b3,b4,v3,v4⟩:Af)).2;·exact ⟨_,rfl,.inr rfl⟩
  ·rw [toList_inj];by_cases h6:(G7 (⟨v0,v1,b1,b2,b3,b4,v3,v4⟩:Af)).1=text;·rw [Ba h6];exact ⟨_,rfl,.inl ⟨rfl,Prod.ext h6 h5⟩⟩
   ·rw [D6 h6];exact ⟨_,rfl,.inr rfl⟩
 ·exact ⟨_,rfl,.inr rfl⟩
theorem YBL {text:AA} {x:Af} (hs:text.size<=140737488351232) (h:G7 x=(text,true)):Uw text=some (x,true):=by
 obtain ⟨ho,rfl⟩:=UBA h
 obtain ⟨k1,k2,k3,k4,k5,k6,k7⟩:=Arq ho
 have hf:=zO x;have hA:At (Yf x) 0 _:=⟨[],by rw [List.drop_zero,UBL ho,List.append_nil]⟩
 rw [<-dX (n:=x.Aj) (by omega) (by omega),<-dX (n:=Ark x) (by omega) (by omega)] at hA;have a1:=hA.right;have a2:=a1.right;have a3:=a2.right;have a4:=a3.right;have e0:=AHt hs (by omega) (by omega) hA.left;have e1:=AHt hs (by omega) (by omega) a1.left;have e2:=AHt hs (by omega) (by omega) a2.left;have e3:=NBm hs (by omega) a3.left;have e4:=AHt hs (by omega) (by omega) a4;simp only [List.length_append,bs_len,Nat.zero_add,<-Nat.add_assoc] at e0 e1 e2 e3 e4;obtain ⟨b1,b2,b3,b4⟩:=PBm x
 simp_all [Uw,JAn,mk,BAr]
theorem QBm {text:AA} (hs:text.size<=140737488351232):∃ r,WG text=some r/\Uw text=some r/\XAq text r:=by
 obtain ⟨r,hr,h⟩:=VBL hs
 obtain ⟨q,hq,h'⟩:=XBL hs
 rcases h with ⟨h1,h2⟩ | h
 ·grind [YBL]
 ·rcases h' with ⟨h1,h2⟩ | h'
  ·grind [WBL]
  ·exact ⟨r,hr,by simp_all,.inr h⟩
theorem WI {r:Ah} (g:r.DR<=9223372036854775807):qO r=some (AwX r):=by
 simp only [qO,TA2,mk,AvD,BAr,X8 g,AP,AX7];simp only [PA9,AwX];cases k1:r.Aj == 1
 ·simp only [Aq];cases k2:r.Aj == 2
  ·simp only [Aq];cases k3:r.Aj == 3
   ·simp only [Aq];cases k4:r.Aj == 4;·rfl
    ·have k:r.Aj=4:=by simp_all
     rw [k];simp only [beq_self_eq_true,LD (n:=4) (by omega) (by omega),AP,Bool.true_and,Ar];cases h:Bl r.DR 1 1000;·cases IE r.fText <;> cases IG r.Ag <;> rfl
     ·cases IE r.fText <;> cases IG r.Ag <;> (try rfl);simp only [DN,Aq,Ar,Bool.and_self,Ba (HAq (by omega) h 4)]
   ·have k:r.Aj=3:=by simp_all
    rw [k];simp only [beq_self_eq_true,LD (n:=3) (by omega) (by omega),AP,Bool.true_and,Ar,Bool.and_true];cases h:(G7 r.Ag).2;·rfl
    ·cases IE r.fText <;> cases r.DR == 0 <;> (try rfl);simp_all [BBK]
  ·have k:r.Aj=2:=by simp_all
   rw [k];simp only [beq_self_eq_true,LD (n:=2) (by omega) (by omega),AP,Bool.true_and,Ar];cases h:Bl r.DR 0 3;·cases IE r.fText <;> cases IG r.Ag <;> rfl
   ·cases IE r.fText <;> cases IG r.Ag <;> (try rfl);simp only [DN,Aq,Ar,Bool.and_self,Ba (HAq (by omega) h 2)]
 ·have k:r.Aj=1:=by simp_all
  rw [k];simp only [beq_self_eq_true,LD (n:=1) (by omega) (by omega),AP,Bool.true_and,Ar];cases h:(r.fText.size:Int) == 32 <;> cases r.DR == 0 <;> cases IG r.Ag <;> (try rfl);grind [Dj]
theorem XBA {text:AA} (x:Ah):∃ r,(bif !(AwX x).2 then some (AsF,false) else bif !((ByteArray.toList (AwX x).1) == (ByteArray.toList text)) then some (AsF,false) else some (x,true))=some r/\qI text r:=qJ x false
theorem RBm {text:AA} (hs:text.size<=140737488351232):∃ r,Sj text=some r/\qI text r:=by
 simp only [Sj,dh,mk];rw [toList_inj];by_cases he:text=⟨#[]⟩
 ·rw [Ba he];exact ⟨_,rfl,.inr rfl⟩
 ·have hz:0<text.size:=by
   rcases Nat.eq_zero_or_pos text.size with h | h
   ·exact absurd (Jm (List.eq_nil_of_length_eq_zero (by simp_all [bs_len])):text=⟨#[]⟩) he
   omega
  rw [D6 he,show decide ((0:Int)<(text.size:Int))=true from Ba (by omega),show decide ((1:Int)<=(text.size:Int))=true from Ba (by omega)];have hb:=Rz text 0;rw [A8 (n:=bt text 0) (by omega) (by omega)];obtain ⟨⟨t,tb⟩,e1,_⟩:=XBL (text:=text.extract (1:Int).toNat text.size) (by grind [ByteArray.size_extract])
  obtain ⟨⟨v,q,ok⟩,e2,hR⟩:=NBA (a:=1) hs hz
  have hv:v<=1000000000:=by
   rcases hR with h | ⟨v',_,h,_,h1,_⟩
   all_goals simp_all [VE]
  rw [e1,show Us text (1:Int)=_ from e2];simp only [AP,Aq,Ar,Bool.and_self];cases bt text 0 == 1
  ·simp only [Aq];cases bt text 0 == 3;·simp only [Aq];rw [WI (by grind)];exact XBA _
   ·simp only [Ar];rw [WI (by simp)];exact XBA _
  ·simp only [Ar];rw [WI (by simp)];exact XBA _
theorem ZBL {text:AA} {x:Ah} (hs:text.size<=140737488351232) (h:AwX x=(text,true)):Sj text=some (x,true):=by
 have hne:∀ (k:Int) (s:AA),(decide (ofBytes [k]++s=⟨#[]⟩))=false:=fun k s=>D6 fun h=>by grind [ByteArray.size,AEY,Dj]
 have hd:∀ (k:Int) (s:AA),decide ((0:Int)<((ofBytes [k]++s).size:Int))=true/\decide ((1:Int)<=((ofBytes [k]++s).size:Int))=true:=fun k s=>by grind [Dj]
 have hk:∀ (k:Int) (s:AA),0<=k->k<=255->AV (bt (ofBytes [k]++s) 0)=k:=fun k s h0 h1=>by rw [(dZ (k:=k) (s:=s) h0 h1).left.head.2 |> fun e=>(show bt (ofBytes [k]++s) 0=k from e),A8 (by omega) (by omega)]
 rcases VBA h with ⟨s,rfl,hz,rfl⟩ | ⟨n,rfl,h0,h1,rfl⟩ | ⟨t,s,rfl,ht,rfl⟩ | ⟨n,rfl,h0,h1,rfl⟩
 ·have h':AwX ⟨1,s,0,⟨(0:Int),(0:Int),false,false,false,false,(⟨#[]⟩:AA),(0:Int)⟩⟩=_:=h;simp only [Sj,dh,mk,hk 1 s (by omega) (by omega),hd,WBA,WI (r:=⟨1,s,0,⟨(0:Int),(0:Int),false,false,false,false,(⟨#[]⟩:AA),(0:Int)⟩⟩) (by simp),h',AP,toList_inj,hne];rfl
 ·have hA:=dZ (k:=2) (s:=ofBytes (SN n)) (by omega) (by omega);rw [AsM (SC n h0)] at hA;have e1:=zo hs (by omega) (by omega) hA.right;simp only [List.length_singleton,Nat.zero_add] at e1;have e2:Us (ofBytes [2]++ofBytes (SN n)) (1:Int)=_:=e1;have h':AwX ⟨2,⟨#[]⟩,n,⟨(0:Int),(0:Int),false,false,false,false,(⟨#[]⟩:AA),(0:Int)⟩⟩=_:=h;simp only [Sj,dh,mk,hk 2 _ (by omega) (by omega),hd,e2,AP,WI (r:=⟨2,⟨#[]⟩,n,⟨(0:Int),(0:Int),false,false,false,false,(⟨#[]⟩:AA),(0:Int)⟩⟩) (by grind),h',toList_inj,hne];rfl
 ·have hsz:s.size<=140737488351232:=by grind
  have e1:=YBL hsz ht;have h':AwX ⟨3,⟨#[]⟩,0,t⟩=_:=h;simp only [Sj,dh,mk,hk 3 s (by omega) (by omega),hd,WBA,e1,AP,WI (r:=⟨3,⟨#[]⟩,0,t⟩) (by simp),h',toList_inj,hne];rfl
 ·have hA:=dZ (k:=4) (s:=ofBytes (SN n)) (by omega) (by omega);rw [AsM (SC n (by omega))] at hA;have e1:=zo hs (by omega) (by omega) hA.right;simp only [List.length_singleton,Nat.zero_add] at e1;have e2:Us (ofBytes [4]++ofBytes (SN n)) (1:Int)=_:=e1;have h':AwX ⟨4,⟨#[]⟩,n,⟨(0:Int),(0:Int),false,false,false,false,(⟨#[]⟩:AA),(0:Int)⟩⟩=_:=h;simp only [Sj,dh,mk,hk 4 _ (by omega) (by omega),hd,e2,AP,WI (r:=⟨4,⟨#[]⟩,n,⟨(0:Int),(0:Int),false,false,false,false,(⟨#[]⟩:AA),(0:Int)⟩⟩) (by grind),h',toList_inj,hne];rfl
noncomputable def Aqj (t:AA):Ah×Bool:=@dite _ (∃ x,AwX x=(t,true)) (Classical.propDecidable _) (fun h=>(h.choose,true)) (fun _=>(AsF,false))
theorem AYa {t:AA} {o:Option (Ah×Bool)} (h1:∃ r,o=some r/\qI t r) (h2:∀ x,AwX x=(t,true)->o=some (x,true)):o=some (Aqj t):=by
 unfold Aqj;split;·grind
 ·rename_i h;obtain ⟨r,hr,⟨_,k⟩ | k⟩:=h1
  all_goals simp_all
theorem SBm {t:AA} (h:t.size<=140737488351232):AsH t=some (Aqj t):=AYa (IBm h) (fun _ hx=>JBm h hx)
theorem BBM {t:AA} (h:t.size<=140737488351232):Sj t=some (Aqj t):=AYa (RBm h) (fun _ hx=>ZBL h hx)
theorem TBm {t:AA} (_:t.size<=140737488351232):qI t (Aqj t):=by
 unfold Aqj;split;·rename_i h;exact .inl ⟨rfl,h.choose_spec⟩
 ·exact .inr rfl
noncomputable def Ara (k:AA):Int->List AA->List Ah×Int
 | _,[]=>([],0)
 | i,f::fs=>bif (EP k i f).2 && (Aqj (EP k i f).1).2 then ((Aqj (EP k i f).1).1::(Ara k (i+1) fs).1,((frameT f).1.size:Int)+(Ara k (i+1) fs).2) else ([],0)
noncomputable def AwM (k file:AA):List Ah×Int:=Ara k 1 (AwS file).1
theorem UBm {file:AA} (hs:file.size<=140737488351232):∀ (j a:Nat),a<=file.size->(∀ f ∈ (Ll j file a).1,f.size<=file.size)/\(Ll j file a).1.length+a<=file.size/\(Ll j file a).2<=file.size:=by
 intro j;induction j with
 | zero=>simp [Ll]
 | succ j ih=>
  intro a ha;rw [Ll];rcases kR hs ha with h | ⟨v,q,_,hq,_,_,_,h3,_,_,h⟩
  ·simp_all
  ·rw [h];obtain ⟨i1,i2,i3⟩:=ih (q+4+v.toNat) h3
   refine ⟨fun f hf=>?_,?_,i3⟩
   ·rcases List.mem_cons.1 hf with rfl | hf
    ·show (file.extract (q+4) (q+4+v.toNat)).size<=file.size;rw [ByteArray.size_extract];omega
    simp_all
   grind
theorem CAr {file:AA}:(∀ f ∈ (AwS file).1,f.size<=20000)/\(AwS file).1.length<=20000/\0<=(AwS file).2/\(AwS file).2<=(file.size:Int):=by
 rw [AwS];by_cases h:(file.size:Int) > 20000;·simp_all
 ·rw [D6 h];obtain ⟨h1,h2,h3⟩:=UBm (file:=file) (by omega) (file.size+1) 0 (DJ _)
  grind
theorem VBm (k:AA):∀ (fs:List AA) (i:Int),(Ara k i fs).1.length<=fs.length:=by intro fs;induction fs<;>grind [Ara]
theorem WBm (k:List Int) (num:Int) (s:List Int):(Aru k num s).length=s.length+16:=by simp [Aru,dA,Rw,oG]
theorem XBm {k s:AA} {num:Int} (h:(Ti k num s).2=true):EP k num (Ti k num s).1=(s,true)/\(Ti k num s).1.size=s.size+16:=by grind [Ti,CBm,Jj,zG,Dj,WBm]
def tx (k:AA):Int->List Ah->List AA
 | _,[]=>[]
 | i,r::rs=>(Ti k i (AwX r).1).1::tx k (i+1) rs
theorem Avj (k:AA):∀ (l:List Ah) (i:Int),(tx k i l).length=l.length
 | [],_=>rfl
 | r::rs,i=>by rw [tx,List.length_cons,List.length_cons,Avj k rs]
theorem aI (k:AA):∀ (l:List Ah) (i:Int) (w:Nat),(tx k i l).take w=tx k i (l.take w)
 | [],_,w=>by simp [tx]
 | r::rs,i,0=>rfl
 | r::rs,i,w+1=>by rw [tx,List.take_succ_cons,List.take_succ_cons,tx,aI k rs]
theorem YBA (k:AA):∀ (l q:List Ah) (i:Int),tx k i (l++q)=tx k i l++tx k (i+l.length) q
 | [],q,i=>by simp [tx]
 | r::rs,q,i=>by rw [List.cons_append,tx,tx,YBA k rs,List.length_cons,List.cons_append];rw [show i+1+(rs.length:Int)=i+((rs.length+1:Nat):Int) by omega]
def Sound (l:List Ah):Prop:=∀ r ∈ l,(AwX r).2=true
theorem yj (k:AA):∀ (l:List Ah) (i:Int),0<=i->i+l.length<=1000000000->∀ t ∈ tx k i l,1<=t.size/\t.size<=320
 | [],_,_,_,t,ht=>by cases ht
 | r::rs,i,h0,h1,t,ht=>by
  rw [List.length_cons] at h1;rw [tx] at ht;rcases List.mem_cons.1 ht with rfl | ht
  ·have:=(yZ (k:=k) (s:=(AwX r).1) (num:=i) (by omega) (by have:=WH r;omega)).2.2;have:=WH r;omega
  ·exact yj k rs (i+1) (by omega) (by omega) t ht
theorem YBm {r:Ah} (h:(AwX r).2=true):Aqj (AwX r).1=(r,true):=by have:=WH r;have e1:=BBM (t:=(AwX r).1) (by omega);grind [ZBL]
theorem CBM (k:AA):∀ (l:List Ah) (i:Int),0<=i->i+l.length<=1000000000->Sound l->Ara k i (tx k i l)=(l,((Av7 (tx k i l)).length:Int))
 | [],_,_,_,_=>rfl
 | r::rs,i,h0,h1,hs=>by
  rw [List.length_cons] at h1;have hz:=WH r;obtain ⟨l1,l2,l3⟩:=yZ (k:=k) (s:=(AwX r).1) (num:=i) (by omega) (by omega)
  obtain ⟨f1,f2⟩:=YA9 (t:=(Ti k i (AwX r).1).1) (by omega)
  rw [tx,Ara,(XBm l1).1];dsimp only;rw [YBm (hs r (List.mem_cons_self ..)),CBM k rs (i+1) (by omega) (by omega) (fun x hx=>hs x (List.mem_cons_of_mem _ hx)),f2,Dj,Av7,List.length_append];show (r::rs,_)=_;refine congrArg (fun n=>(r::rs,n)) ?_;show ((GV _).length:Int)+((Av7 _).length:Int)=_;omega
theorem DAr (k:AA) (ts:List AA) (h:∀ t ∈ ts,1<=t.size/\t.size<=320):(Av7 ts).length<=334*ts.length:=by
 induction ts with
 | nil=>exact Nat.le_refl 0
 | cons t ts ih=>
  have h1:=ih fun x hx=>h x (List.mem_cons_of_mem _ hx)
  grind [yt,bs_len,Jo,Av7]
theorem ZBA {k file:AA} {l:List Ah} {K:Nat} (hl:l.length<=50) (hs:Sound l) (hK:K<=(Av7 (tx k 1 l)).length) (hf:bs file=(Av7 (tx k 1 l)).take K):AwM k file=(l.take (whole (tx k 1 l) K),((Av7 (tx k 1 (l.take (whole (tx k 1 l) K)))).length:Int)):=by
 have hsz:=yj k l 1 (by omega) (by omega);have hsm:=DAr k _ hsz;rw [Avj] at hsm;have hlen:file.size=K:=by grind [bs_len]
 obtain ⟨w1,w2,w3⟩:=UAq (tx k 1 l) K
 have hu:=Aju (file:=file) (by omega) (tx k 1 l) K (file.size+1) 0 (fun t ht=>by grind) (DJ _) (by assumption) (by omega);rw [AwM,AwS,show decide ((file.size:Int) > 20000)=false from D6 (by omega),Aq,hu];dsimp only;rw [aI];exact CBM k _ 1 (by omega) (by grind) (fun r hr=>hs r (List.mem_of_mem_take hr))
theorem sH {l:List Ah}:∀ {b:Bo},(Dl b l).2=true->Sound l:=by
 induction l with
 | nil=>intro b _ r hr;cases hr
 | cons x xs ih=>
  intro b h r hr;rw [Dl] at h;cases h2:(Awv b x).2;·simp_all
  ·rw [h2,Ar] at h;rcases List.mem_cons.1 hr with rfl | hr
   ·exact (Tv h2).2.1
   ·exact ih h r hr
theorem ZBm {file:AA} {a:Nat} (hs:file.size<=140737488351232) (ha:a<=file.size) {p:AA×Nat} (h:Nu file a=some p):p.2=a+(frameT p.1).1.size/\p.2<=file.size:=by grind [kR,ByteArray.size_extract,Na,frameT,Dj,GV,bs_len]
theorem AkG (k:AA) {file:AA} (hs:file.size<=140737488351232):∀ (j a:Nat) (i:Int),a<=file.size->0<=(Ara k i (Ll j file a).1).2/\(a:Int)+(Ara k i (Ll j file a).1).2<=(file.size:Int):=by
 intro j;induction j with
 | zero=>intro a i ha;exact ⟨Int.le_refl 0,by show (a:Int)+0<=_;omega⟩
 | succ j ih=>
  intro a i ha;rw [Ll];cases h:Nu file a<;>grind [ZBm,Ara]
theorem DBM (k file:AA):0<=(AwM k file).2/\(AwM k file).2<=(file.size:Int):=by
 rw [AwM,AwS];by_cases h:(file.size:Int) > 20000;·rw [Ba h];exact ⟨Int.le_refl 0,by show (0:Int)<=_;omega⟩
 ·rw [D6 h,Aq];have h2:=AkG k (file:=file) (by omega) (file.size+1) 0 1 (DJ _);simp_all
theorem AMh {d:BU} {n:AA} {B:Nat} (hf:∀ f ∈ d.Ak,f.fText.size<=B):(Ih d n).1.size<=B:=by
 rw [Ih];cases h:AwR d.Ak n 0 with
 | none=>exact DJ _
 | some j=>
  have h1:=(aF h).2;simp_all
def Fa:AA:=⟨#[98,111,111,107]⟩
def nNew:AA:=⟨#[98,111,111,107,43]⟩
noncomputable def Aw5 (k:AA) (d:BU):Bo×List Ef×Bool:=
 bif !(Ave d) || !(Dl DI (AwM k (Ih d Fa).1).1).2 then (pF,[],false)
 else ((Dl DI (AwM k (Ih d Fa).1).1).1,(bif decide (AwN d nNew>=0) then [⟨4,nNew,⟨#[]⟩,⟨#[]⟩⟩] else [])++(bif (AwM k (Ih d Fa).1).2 == ((Ih d Fa).1.size:Int) then [] else [⟨1,nNew,(Ih d Fa).1.extract 0 (AwM k (Ih d Fa).1).2.toNat,⟨#[]⟩⟩,⟨2,nNew,⟨#[]⟩,⟨#[]⟩⟩,⟨3,nNew,⟨#[]⟩,Fa⟩]),true)
theorem BBn (k:AA):∀ (fs:List AA) (i:Int),(∀ f ∈ fs,f.size<=20000)->∀ r ∈ (Ara k i fs).1,r.DR<=9223372036854775807:=by
 intro fs;induction fs with
 | nil=>intro i _ r hr;cases hr
 | cons f fs ih=>
  intro i hf r hr;rw [Ara] at hr;cases h:(EP k i f).2 && (Aqj (EP k i f).1).2;·simp_all
  ·rw [h,Ar] at hr;rcases List.mem_cons.1 hr with rfl | hr
   ·have hz:=uD k f i;have hfz:=hf f (List.mem_cons_self ..);rcases TBm (t:=(EP k i f).1) (by omega) with ⟨_,h2⟩ | h2
    ·have h3:(AwX (Aqj (EP k i f).1).1).2=true:=by rw [h2]
     rcases gG h3 with ⟨hk,_⟩ | ⟨hk,hc⟩ | ⟨hk,_⟩ | ⟨hk,hc⟩
     ·rw [AwX,hk] at h3;simp only [show ((1:Int) == 1)=true from rfl,Ar] at h3;cases hc:(((Aqj (EP k i f).1).1.fText.size:Int) == 32 && (Aqj (EP k i f).1).1.DR == 0 && IG (Aqj (EP k i f).1).1.Ag)
      ·rw [hc] at h3;cases h3
      simp_all
     ·omega
     ·rw [AwX,hk] at h3;simp only [show ((3:Int) == 1)=false from rfl,show ((3:Int) == 2)=false from rfl,show ((3:Int) == 3)=true from rfl,Ar,Aq] at h3;cases hc:((G7 (Aqj (EP k i f).1).1.Ag).2 && IE (Aqj (EP k i f).1).1.fText && (Aqj (EP k i f).1).1.DR == 0)
      ·rw [hc] at h3;cases h3
      simp_all
     ·omega
    simp_all
   grind
theorem CBn (k file:AA):∀ r ∈ (AwM k file).1,r.DR<=9223372036854775807:=BBn k _ _ (CAr (file:=file)).1
theorem EBM (k file:AA):(AwM k file).1.length<=20000:=Nat.le_trans (VBm k _ _) (CAr (file:=file)).2.1
def dk (F:AA) (n:Int):BU:=⟨[⟨Fa,F,n⟩]⟩
theorem FBM (G:AA):(⟨#[]⟩:AA)++G=G:=Jm (by rfl)
theorem qP:(Fa.toList == nNew.toList)=false:=by rw [toList_inj];rfl
theorem BBB:Op.bytesLess Fa.toList nNew.toList=true:=by rw [ByteArray.toList_eq,ByteArray.toList_eq];rfl
theorem zx {f:BQ} {fs:List BQ} {n:AA} {i:Nat} (h:(f.fName.toList == n.toList)=true):AwR (f::fs) n i=some i:=by simp_all [AwR]
theorem EAr {f:BQ} {fs:List BQ} {n:AA} {i:Nat} (h:(f.fName.toList == n.toList)=false):AwR (f::fs) n i=AwR fs n (i+1):=by simp_all [AwR]
theorem CBB {N F:AA} {n:Int} (hN:1<=N.size/\N.size<=8) (h:0<=n/\n<=(F.size:Int)) (hF:F.size<=20000):Awz ⟨N,F,n⟩=true:=yg.2 ⟨⟨by grind,by grind⟩,by grind,h.1,h.2⟩
theorem QD {F:AA} {n:Int} (h:0<=n/\n<=(F.size:Int)) (hF:F.size<=20000):Ave (dk F n)=true:=by rw [dk,Ave,LM,LM,CBB (by decide) h hF,xw (s:=Fa) (by decide)];rfl
theorem FAr {F G:AA} {n m:Int} (h:0<=n/\n<=(F.size:Int)) (hF:F.size<=20000) (h2:0<=m/\m<=(G.size:Int)) (hG:G.size<=20000):Ave ⟨[⟨Fa,F,n⟩,⟨nNew,G,m⟩]⟩=true:=by rw [Ave,LM,LM,LM,CBB (by decide) h hF,CBB (by decide) h2 hG,xw (s:=Fa) (by decide),BBB];rfl
theorem DBB (F F':AA) (n n':Int):Awh [⟨Fa,F,n⟩] ⟨Fa,F',n'⟩=[⟨Fa,F',n'⟩]:=by simp [Awh,NH,KZ,zW]
theorem DBn (F G:AA) (n m:Int):Awh [⟨Fa,F,n⟩] ⟨nNew,G,m⟩=[⟨Fa,F,n⟩,⟨nNew,G,m⟩]:=by simp [Awh,NH,KZ,BBB]
theorem EBn (F G G':AA) (n m m':Int):Awh [⟨Fa,F,n⟩,⟨nNew,G,m⟩] ⟨nNew,G',m'⟩=[⟨Fa,F,n⟩,⟨nNew,G',m'⟩]:=by simp [Awh,NH,KZ,BBB,zW]
theorem FBn (F G:AA) (n m:Int):Me [⟨Fa,F,n⟩,⟨nNew,G,m⟩] nNew=[⟨Fa,F,n⟩]:=by simp [Me,qP]
theorem qQ {l:List BQ} (h:Ave ⟨l⟩=true):doneD l=(⟨l⟩,true):=by simp_all [doneD]
theorem GBn {T:AA} (hT:T.size<=20000):Aqd ⟨[]⟩ ⟨1,Fa,T,⟨#[]⟩⟩=(dk T 0,true):=by simp only [Aqd,show Ave ⟨[]⟩=true from rfl,Oe,Bool.or_true,beq_self_eq_true,Bool.true_or,Bool.and_self,Ar,AwR,FBM];rw [show Awh [] (⟨Fa,T,0⟩:BQ)=[⟨Fa,T,0⟩] from rfl,qQ (QD (by omega) hT)];rfl
theorem GAr {F T:AA} {n:Int} (h:0<=n/\n<=(F.size:Int)) (hF:(F++T).size<=20000):Aqd (dk F n) ⟨1,Fa,T,⟨#[]⟩⟩=(dk (F++T) n,true):=by have hz:(F++T).size=F.size+T.size:=ByteArray.size_append;have hp:AwR (dk F n).Ak Fa 0=some 0:=zx (Oe _);simp only [Aqd,QD h (show F.size<=20000 by omega),Oe,Bool.or_true,beq_self_eq_true,Bool.true_or,Bool.and_self,Ar,hp];show doneD (Awh [⟨Fa,F,n⟩] ⟨Fa,F++T,n⟩)=_;rw [DBB,qQ (QD (by omega) hF)];rfl
theorem GBM {F:AA} {n:Int} (h:0<=n/\n<=(F.size:Int)) (hF:F.size<=20000):Aqd (dk F n) ⟨2,Fa,⟨#[]⟩,⟨#[]⟩⟩=(dk F F.size,true):=by have hp:AwR (dk F n).Ak Fa 0=some 0:=zx (Oe _);simp only [Aqd,QD h hF,Oe,Bool.or_true,beq_self_eq_true,Bool.true_or,Bool.and_self,Ar,hp];show doneD (Awh [⟨Fa,F,n⟩] ⟨Fa,F,(F.size:Int)⟩)=_;rw [DBB,qQ (QD (by omega) hF)];rfl
def AwG (T:AA):List Ef:=[⟨1,Fa,T,⟨#[]⟩⟩,⟨2,Fa,⟨#[]⟩,⟨#[]⟩⟩]
theorem HBM {T:AA} (hT:T.size<=20000):FT ⟨[]⟩ (AwG T) 0=(dk T T.size,2):=by simp_all [AwG,FT,GBn,GBM]
theorem HBn {F T:AA} {n:Int} (h:0<=n/\n<=(F.size:Int)) (hF:(F++T).size<=20000):FT (dk F n) (AwG T) 0=(dk (F++T) (F++T).size,2):=by grind [AwG,FT,GAr,GBM]
def EBB (G:AA):List Ef:=[⟨1,nNew,G,⟨#[]⟩⟩,⟨2,nNew,⟨#[]⟩,⟨#[]⟩⟩,⟨3,nNew,⟨#[]⟩,Fa⟩]
theorem IBn {F G:AA} {n:Int} (h:0<=n/\n<=(F.size:Int)) (hF:F.size<=20000) (hG:G.size<=20000):Aqd (dk F n) ⟨1,nNew,G,⟨#[]⟩⟩=(⟨[⟨Fa,F,n⟩,⟨nNew,G,0⟩]⟩,true):=by grind [AwR,dk,EAr,qP,Aqd,QD,FBM,DBn,qQ,FAr]
theorem JBn {F G:AA} {n:Int} (h:0<=n/\n<=(F.size:Int)) (hF:F.size<=20000) (hG:G.size<=20000):Aqd ⟨[⟨Fa,F,n⟩,⟨nNew,G,0⟩]⟩ ⟨2,nNew,⟨#[]⟩,⟨#[]⟩⟩=(⟨[⟨Fa,F,n⟩,⟨nNew,G,(G.size:Int)⟩]⟩,true):=by
 have hp:AwR [(⟨Fa,F,n⟩:BQ),⟨nNew,G,0⟩] nNew 0=some 1:=by simp [EAr,qP,zx]
 simp only [Aqd,FAr h hF (m:=0) (G:=G) (by omega) hG,Oe,Bool.or_true,beq_self_eq_true,Bool.true_or,Bool.and_self,Ar,hp];show doneD (Awh [⟨Fa,F,n⟩,⟨nNew,G,0⟩] ⟨nNew,G,(G.size:Int)⟩)=_;simp_all [EBn,qQ,FAr]
theorem KBn {F G:AA} {n:Int} (h:0<=n/\n<=(F.size:Int)) (hF:F.size<=20000) (hG:G.size<=20000):Aqd ⟨[⟨Fa,F,n⟩,⟨nNew,G,(G.size:Int)⟩]⟩ ⟨3,nNew,⟨#[]⟩,Fa⟩=(dk G G.size,true):=by
 have hp:AwR [(⟨Fa,F,n⟩:BQ),⟨nNew,G,(G.size:Int)⟩] nNew 0=some 1:=by simp [EAr,qP,zx]
 simp only [Aqd,FAr h hF (m:=(G.size:Int)) (G:=G) (by omega) hG,Oe,Bool.or_true,beq_self_eq_true,Bool.true_or,Bool.and_self,Ar,hp];show (bif decide ((G.size:Int)<(G.size:Int)) || (Fa.toList == nNew.toList) then _ else doneD (Awh (Me [⟨Fa,F,n⟩,⟨nNew,G,(G.size:Int)⟩] nNew) ⟨Fa,G,(G.size:Int)⟩))=_;rw [D6 (by omega),qP,Bool.or_self,Aq,FBn,DBB,qQ (QD (by omega) hG)];rfl
theorem LBn {F G:AA} {n:Int} (h:0<=n/\n<=(F.size:Int)) (hF:F.size<=20000) (hG:G.size<=20000):FT (dk F n) (EBB G) 0=(dk G G.size,3):=by simp_all [EBB,FT,IBn,JBn,KBn]
theorem HAr (F:AA) (n:Int):Ih (dk F n) Fa=(F,true):=by simp [Ih,dk,zx]
theorem MBn (F:AA) (n:Int):AwN (dk F n) nNew = -1:=by grind [AwN,AwR,dk,EAr,qP]
theorem IBM {k F:AA} {l:List Ah} {n:Int} {K:Nat} (hl:l.length<=50) (hs:Sound l) (he:(Dl DI l).2=true) (hK:K<=(Av7 (tx k 1 l)).length) (hf:bs F=(Av7 (tx k 1 l)).take K) (hn:0<=n/\n<=(F.size:Int)) (hF:F.size<=20000) :
  Aw5 k (dk F n)=((Dl DI (l.take (whole (tx k 1 l) K))).1,bif ((Av7 (tx k 1 (l.take (whole (tx k 1 l) K)))).length:Int) == (F.size:Int) then [] else EBB (F.extract 0 (Av7 (tx k 1 (l.take (whole (tx k 1 l) K)))).length),true):=by
 rw [Aw5,QD hn hF,HAr,ZBA hl hs hK hf];dsimp only;rw [LBA _ he,MBn];rfl
theorem JBM (ts:List AA):∀ (j K:Nat),j<=ts.length->(Av7 (ts.take j)).length<=K->j<=whole ts K:=by
 induction ts with
 | nil=>simp_all
 | cons t ts ih=>
  intro j K hj h;cases j with
  | zero=>omega
  | succ j=>
   rw [List.take_succ_cons,Av7,List.length_append] at h;rw [List.length_cons] at hj;rw [whole,if_pos (by omega)];have:=ih j (K - (GV (bs t)).length) (by omega) (by omega);omega
def Small (d:BU):Prop:=d.Ak.length<=1/\∀ f ∈ d.Ak,f.fText.size<=20000
theorem KBM {F:AA} {n:Int} (h:F.size<=20000):Small (dk F n):=⟨Nat.le_refl _,fun f hf=>by
 have hf:f ∈ [(⟨Fa,F,n⟩:BQ)]:=hf;simp_all⟩
theorem kX {k:AA} {l:List Ah} {i:Nat} (h:i<l.length):Av7 (tx k 1 (l.take (i+1)))=Av7 (tx k 1 (l.take i))++GV (bs (Ti k ((i:Int)+1) (AwX l[i]).1).1):=by rw [take_at h,YBA,TBL,List.length_take,Nat.min_eq_left (by omega),show (1:Int)+(i:Int)=(i:Int)+1 by omega,tx,tx,Av7,Av7,List.append_nil]
theorem IAr {k:AA} {l:List Ah} (hl:l.length<=50) (i:Nat):(Av7 (tx k 1 (l.take i))).length<=16700:=by
 have hz:(l.take i).length<=50:=by grind
 have h:=DAr k _ (yj k (l.take i) 1 (by omega) (by omega));grind [Avj]
def OnD (k:AA) (l:List Ah) (i:Nat) (d:BU):Prop:=(i=0/\d=⟨[]⟩)\/∃ F:AA,d=dk F F.size/\bs F=Av7 (tx k 1 (l.take i))
theorem xM {k:AA} {r:Ah} {i:Nat} (hr:(AwX r).2=true) (hi:i<=10000):∃ T,Av6 k (i:Int) r=(AwG T,true)/\bs T=GV (bs (Ti k ((i:Int)+1) (AwX r).1).1):=by
 have hz:=WH r;obtain ⟨l1,l2,l3⟩:=yZ (k:=k) (s:=(AwX r).1) (num:=(i:Int)+1) (by omega) (by omega)
 obtain ⟨f1,f2⟩:=YA9 (t:=(Ti k ((i:Int)+1) (AwX r).1).1) (by omega)
 refine ⟨(frameT (Ti k ((i:Int)+1) (AwX r).1).1).1,?_,by rw [f2,AsM (xJ (Jj _))]⟩;rw [Av6,hr,Na.2 (show 0<=(i:Int)/\(i:Int)<=10000 by omega)];rfl
theorem OBn {k T:AA} {l:List Ah} {i:Nat} (hl:l.length<=50) (hi:i<l.length) (hT:bs T=GV (bs (Ti k ((i:Int)+1) (AwX l[i]).1).1)):(Av7 (tx k 1 (l.take i))).length+T.size<=16700:=by have h:=congrArg List.length (kX (k:=k) hi);grind [IAr,bs_len]
theorem PBn {k T:AA} {l:List Ah} {i:Nat} {d:BU} (hl:l.length<=50) (hi:i<l.length) (h:OnD k l i d) (hT:bs T=GV (bs (Ti k ((i:Int)+1) (AwX l[i]).1).1)):∃ E:AA,FT d (AwG T) 0=(dk E E.size,2)/\bs E=Av7 (tx k 1 (l.take (i+1))):=by
 have hs:=OBn hl hi hT;rcases h with ⟨rfl,rfl⟩ | ⟨F,rfl,hF⟩
 ·exact ⟨T,HBM (by omega),by rw [kX hi,<-hT];rfl⟩
 ·have hz:(F++T).size=F.size+T.size:=ByteArray.size_append;have hF2:F.size=(Av7 (tx k 1 (l.take i))).length:=by grind [bs_len]
  exact ⟨F++T,HBn (by omega) (by omega),by simp_all [Aq7,kX]⟩
theorem QBn {k F:AA} {l:List Ah} {n:Int} (hl:l.length<=50) (hs:Sound l) (he:(Dl DI l).2=true) (hf:bs F=Av7 (tx k 1 l)) (hn:0<=n/\n<=(F.size:Int)):Aw5 k (dk F n)=((Dl DI l).1,[],true):=by
 have hsm:=IAr (k:=k) hl l.length;rw [List.take_length] at hsm;have hF:F.size=(Av7 (tx k 1 l)).length:=by grind [bs_len]
 have h:=IBM (k:=k) (F:=F) (l:=l) (n:=n) (K:=(Av7 (tx k 1 l)).length) hl hs he (Nat.le_refl _) (by simp_all) hn (by omega);simp_all [QBA,Avj]
def Aql (b:Ap) (i:Nat):Bool:=match C9 b.AU.AZ (b.BD.getD i ⟨0,0⟩).fId with
 | some x=>x.Aj == 2 && (Bl (b.BD.getD i ⟨0,0⟩).fNext 0 x.fNext && (i == 0 || !decide ((b.BD.getD (i - 1) ⟨0,0⟩).fId>=(b.BD.getD i ⟨0,0⟩).fId)))
 | none=>false
def QY (b:Ap):Nat->Nat->Bool
 | 0,_=>true
 | j+1,i=>Aql b i && QY b j (i+1)
def Vh (b:Ap):Bool:=QY b b.BD.length 0
theorem FBB {b:Bo} {l:List Ah} (h:b.AZ.length<=2932031007317):(Dl b l).1.AZ.length<=2932031007317:=by
 induction l generalizing b with
 | nil=>exact h
 | cons r rs ih=>
  rw [Dl];cases h3:(Awv b r).2;·exact DJ _
  grind [xU]
theorem JAr (k:AA) (d:BU):(Aw5 k d).1.AZ.length<=2932031007317/\(Aw5 k d).2.1.length<=4:=by
 rw [Aw5];cases (!(Ave d) || !(Dl DI (AwM k (Ih d Fa).1).1).2);·refine ⟨FBB (DJ _),?_⟩;grind
 ·exact ⟨DJ _,DJ _⟩
def eqT (x y:Af):Bool:=(x.fId == y.fId) && ((x.Aj == y.Aj) && ((x.CY == y.CY) && ((x.CX == y.CX) && ((x.Gw == y.Gw) && ((x.GH == y.GH) && (((ByteArray.toList x.fValue) == (ByteArray.toList y.fValue)) && ((x.fNext == y.fNext) && true)))))))
theorem LBM (x y:Af):((x.fId == y.fId) && ((x.Aj == y.Aj) && ((x.CY == y.CY) && ((x.CX == y.CX) && ((x.Gw == y.Gw) && ((x.GH == y.GH) && (((ByteArray.toList x.fValue) == (ByteArray.toList y.fValue)) && ((x.fNext == y.fNext) && true))))))))=eqT x y:=rfl
theorem RBn {x y:Af}:eqT x y=true↔x=y:=by
 simp only [eqT,Bool.and_eq_true,beq_iff_eq];constructor
 ·rintro ⟨h1,h2,h3,h4,h5,h6,h7,h8,_⟩;have Hj:x.fValue=y.fValue:=by grind [toList_inj]
  cases x;simp_all
 grind
def QX:List Af->List Af->Bool
 | [],[]=>true
 | x::a,y::b=>eqT x y && QX a b
 | _,_=>false
theorem GBB:∀ {a b:List Af},QX a b=true↔a=b
 | [],[]=>by simp [QX]
 | x::a,y::b=>by simp [QX,RBn,GBB]
 | [],_::_=>by simp [QX]
 | _::_,[]=>by simp [QX]
theorem MBM {a b:List Af} (h:a.length≠b.length):QX a b=false:=by grind [GBB]
def QM (a b:Bo):Bool:=(a.Bv.toList == b.Bv.toList) && ((a.DU == b.DU) && (QX a.AZ b.AZ && ((a.BM == b.BM) && ((a.Dh.toList == b.Dh.toList) && (a.fCount == b.fCount)))))
theorem LAr {a b:Bo}:QM a b=true↔a=b:=by
 simp only [QM,Bool.and_eq_true,toList_inj,decide_eq_true_eq,beq_iff_eq,GBB];constructor;·rintro ⟨h1,h2,h3,h4,h5,h6⟩;cases a;simp_all
 grind
def aU (b:Ap) (i:Nat):Bool:=Bl (b.BP.getD i ⟨0,false⟩).fId 1 b.CW && (i == 0 || !decide ((b.BP.getD (i - 1) ⟨0,false⟩).fId>=(b.BP.getD i ⟨0,false⟩).fId))
def Oa (b:Ap):Nat->Nat->Bool
 | 0,_=>true
 | j+1,i=>aU b i && Oa b j (i+1)
noncomputable def Xy (b:Ap):Bool:=bif b.CZ then (Aw5 b.BO b.Bc).2.2 && (((Aw5 b.BO b.Bc).2.1.length:Int) == 0 && (G9 b.AU && (QM (Aw5 b.BO b.Bc).1 b.AU && Vh b)))
 else (b.BP.length:Int) == 0 && ((b.BD.length:Int) == 0 && QM b.AU DI)
noncomputable def O4 (b:Ap):Bool:=(b.BO.size:Int) == 32 && (Ave b.Bc && (decide ((b.BP.length:Int)<=3) && (Bl b.CW 0 1000 && (Oa b b.BP.length 0 && Xy b))))
def kV (b:Ap):Ap:=⟨b.BO,false,b.Bc,DI,[],[],0⟩
theorem SBn {k w:AA} (hk:k.size=32) (hw:w.size<=20):∃ T:AA,LC k w=(⟨k,true,dk T T.size,(Awv DI (AsD w)).1,[],[],0⟩,true)/\T.size<=20000/\bs T=Av7 (tx k 1 [AsD w]):=by
 have hr:(AwX (AsD w)).2=true:=by rw [xZ]
 obtain ⟨T,t1,t2⟩:=xM (k:=k) (r:=AsD w) (i:=0) hr (DJ _)
 have hT:bs T=Av7 (tx k 1 [AsD w]):=by simp_all [tx,Av7]
 have hsm:=DAr k _ (yj k [AsD w] 1 (by omega) (by simp));grind [Avj,bs_len,LC,HBM]
theorem NBM {b:Ap} (hk:b.BO.size=32) (hd:Ave b.Bc=true):O4 (kV b)=true:=by rw [O4,Xy,kV];simp only [hd,LAr.2 rfl,hk,Aq];rfl
structure Good (k:AA) (l:List Ah) (b:Ap):Prop where
 Hu:k.size=32
 key:b.BO=k
 up:b.CZ=true
 disk:∃ F:AA,b.Bc=dk F F.size/\bs F=Av7 (tx k 1 l)
 len:1<=l.length/\l.length<=50
 book:Dl DI l=(b.AU,true)
 MP:b.BP.length<=3/\Oa b b.BP.length 0=true
 opn:0<=b.CW/\b.CW<=1000
 Kt:Vh b=true/\b.BD.length<=8
theorem Good.book1 {k:AA} {l:List Ah} {b:Ap} (g:Good k l b):(Dl DI l).1=b.AU:=by rw [g.book]
theorem Good.Jk {k:AA} {l:List Ah} {b:Ap} (g:Good k l b):G9 b.AU=true:=by have:=JBl (rs:=l) KBA (by rw [g.book]);rw [g.book] at this;omega
theorem Good.cnt {k:AA} {l:List Ah} {b:Ap} (g:Good k l b):b.AU.fCount=(l.length:Int):=by have:=KBl (l:=l) (b:=DI) (by rw [g.book]);rw [g.book,show DI.fCount=0 from rfl,Int.zero_add] at this;omega
theorem Good.sound {k:AA} {l:List Ah} {b:Ap} (g:Good k l b):Sound l:=sH (b:=DI) (by rw [g.book])
theorem Good.xK {k F:AA} {l:List Ah} (hl:l.length<=50) (hF:bs F=Av7 (tx k 1 l)):F.size<=16700:=by grind [IAr,List.take_length,bs_len]
theorem Good.small {k:AA} {l:List Ah} {b:Ap} (g:Good k l b):Small b.Bc:=by
 obtain ⟨F,h1,h2⟩:=g.disk
 rw [h1];exact KBM (by have:=Good.xK g.len.2 h2;omega)
theorem Good.Xz {k:AA} {l:List Ah} {b:Ap} (g:Good k l b):b.AU.AZ.length<=8:=(HY.1 g.Jk).2.2.2.1
theorem Good.ok {k:AA} {l:List Ah} {b:Ap} (g:Good k l b):O4 b=true:=by
 obtain ⟨F,h1,h2⟩:=g.disk
 have hz:=Good.xK g.len.2 h2;have hm:=QBn (k:=k) (F:=F) (l:=l) (n:=F.size) g.len.2 g.sound (by rw [g.book]) h2 (by omega);rw [g.book] at hm;have hd:=QD (F:=F) (n:=(F.size:Int)) (by omega) (by omega);have h3:=g.MP.1;rw [O4,Xy,g.up,g.key,h1,hd,hm,g.Hu,g.Jk,g.MP.2,g.Kt.1,show QM b.AU b.AU=true from LAr.2 rfl,Ba (by omega:(b.BP.length:Int)<=3),Na.2 g.opn];rfl
theorem OBM {b c:Ap} (h1:c.BP=b.BP) (h2:c.CW=b.CW):∀ j i,Oa c j i=Oa b j i:=by intro j;induction j<;>simp_all [Oa,aU]
theorem TBn {b c:Ap} (h1:c.BD=b.BD) (h2:c.AU.AZ=b.AU.AZ):∀ j i,QY c j i=QY b j i:=by intro j;induction j<;>simp_all [QY,Aql]
theorem sG {k w:AA} (hk:k.size=32) (hw:w.size<=20):(LC k w).2=true/\Good k [AsD w] (LC k w).1/\(LC k w).1.BP=[]/\(LC k w).1.BD=[]/\(LC k w).1.CW=0/\(LC k w).1.AU=(Awv DI (AsD w)).1:=by
 obtain ⟨T,h1,h2,h3⟩:=SBn hk hw
 rw [h1];refine ⟨rfl,⟨hk,rfl,rfl,⟨T,rfl,h3⟩,⟨Nat.le_refl _,by simp⟩,?_,⟨DJ _,rfl⟩,⟨Int.le_refl _,by simp⟩,⟨rfl,DJ _⟩⟩,rfl,rfl,rfl,rfl⟩;simp [Dl,KBL]
def AxB:List CS->Int->Nat->Option Nat
 | [],_,_=>none
 | l::ls,t,i=>if l.fId == t then some i else AxB ls t (i+1)
theorem gI {t:Int}:∀ {ls:List CS} {i j:Nat},AxB ls t i=some j->i<=j/\j<i+ls.length:=by intro ls;induction ls<;>grind [AxB]
def atV (b:Ap) (t:Int):Int:=match AxB b.BD t 0 with | some j=>(j:Int) | none=> -1
def DF (b:Ap) (x:Af):Int:=match AxB b.BD x.fId 0 with | some j=>(b.BD.getD j ⟨0,0⟩).fNext | none=>x.fNext
def Lj (b:Ap) (t:Int):Int:=match C9 b.AU.AZ t with
 | some x=>bif x.Aj == 2 then DF b x else -1
 | none=> -1
def Gf:List CS->Int->Nat
 | [],_=>0
 | l::ls,id=>if l.fId<id then Gf ls id+1 else 0
theorem PBM (id:Int):∀ ls:List CS,Gf ls id<=ls.length
 | []=>Nat.le_refl _
 | l::ls=>by have:=PBM id ls;rw [Gf,List.length_cons];split <;> omega
theorem QBM {id:Int}:∀ {ls:List CS} {i:Nat},i<Gf ls id->(ls.getD i ⟨0,0⟩).fId<id
 | [],i,h=>absurd h (Nat.not_lt_zero _)
 | l::ls,i,h=>by
  rw [Gf] at h;split at h
  ·cases i with
   | zero=>assumption
   | succ i=>exact QBM (ls:=ls) (by omega)
  ·omega
theorem RBM {id:Int}:∀ {ls:List CS},Gf ls id<ls.length->¬ (ls.getD (Gf ls id) ⟨0,0⟩).fId<id
 | [],h=>absurd h (Nat.not_lt_zero _)
 | l::ls,h=>by
  rw [Gf] at h ⊢;split at h;·rename_i h1;rw [if_pos h1];exact RBM (ls:=ls) (by rw [List.length_cons] at h;omega)
  ·rename_i h1;rw [if_neg h1];exact h1
def bF (ls:List CS) (id n:Int):List CS:=match AxB ls id 0 with
 | some j=>ls.set j ⟨(ls.getD j ⟨0,0⟩).fId,n⟩
 | none=>ls.take (Gf ls id)++[⟨id,n⟩]++ls.drop (Gf ls id)
def NAr (b:Bo):Bool:=(b.Bv.size:Int) == 32 && ((b.Dh.size:Int) == 32 && (Bl b.DU 0 3 && (decide ((b.AZ.length:Int)<=8) && (Bl b.BM 0 1000 && Bl b.fCount 0 10000))))
theorem UBn {b:Bo} (hb:b.AZ.length<=140737488351232):∀ m i,i<=b.AZ.length->b.AZ.length - i<m->dn m (.c0 b.AZ b.AZ.length i b)=some (rise b.BM (Qv b.AZ i) (b.AZ.drop i) && NAr b):=fun m i h1 h2=>
 PV (A:=Unit) (n:=b.AZ.length) (Lp:=dn) (st:=fun i _=>.c0 b.AZ b.AZ.length i b) (Inv:=fun _ _=>True) (out:=fun i _=>some (rise b.BM (Qv b.AZ i) (b.AZ.drop i) && NAr b))
  (fun m _ _=>by
   simp only [dn,ZAm,mk,AvD,AP,NAr];rw [show decide ((b.AZ.length:Int)<(b.AZ.length:Int))=false from D6 (by omega),List.drop_of_length_le (Nat.le_refl _)];cases (b.Bv.size:Int) == 32 <;> cases (b.Dh.size:Int) == 32 <;> cases Bl b.DU 0 3 <;> cases decide ((b.AZ.length:Int)<=8) <;> cases Bl b.BM 0 1000 <;> rfl)
  (fun m i _ hi _=>by
   have hw:AV ((i:Int)+1)=((i+1:Nat):Int):=by grind [A8]
   simp only [CBK hi];simp only [dn,ZAm,mk,BR,getD_at hi,tC,AP,hw];rw [show decide ((i:Int)<(b.AZ.length:Int))=true from Ba (by omega),show decide ((0:Int)<=(i:Int))=true from Ba (by omega)];simp only [Bool.and_self,Ar];cases h1:Awj b.AZ[i];·simp
   ·cases h2:decide (b.AZ[i].fId > b.BM)
    ·by_cases h0:i=0;·subst h0;refine .inr ⟨(),rfl,trivial,?_⟩;rw [show decide (Qv b.AZ 0>=b.AZ[0].fId)=false from D6 (by have:=(Arq h1).2.2.1;grind [Qv])];rfl
     ·obtain ⟨j,rfl⟩:∃ j,i=j+1:=⟨i - 1,by omega⟩
      have hj:AV (((j+1:Nat):Int) - 1)=(j:Int):=by grind [A8]
      have hjl:j<b.AZ.length:=by omega
      rw [QA9 hjl];simp only [hj,BR,getD_at hjl,DN,Bool.not_false,Aq,Bool.true_and];rw [show decide (((j+1:Nat):Int) > 0)=true from Ba (by omega),show decide ((0:Int)<=(j:Int))=true from Ba (by omega),show decide ((j:Int)<(b.AZ.length:Int))=true from Ba (by omega)];simp only [Bool.and_self,Ar];cases h3:decide (b.AZ[j].fId>=b.AZ[j+1].fId);all_goals simp
    simp) m i () h1 h2 trivial
theorem SBM {b:Bo} (hb:b.AZ.length<=140737488351232):qR b=some (G9 b):=by have h0:=UBn hb AY 0 (DJ _) (FM (by omega));simp only [qR,OA3,mk];grind [G9,NAr,Qv]
theorem HBB {b:Bo} (h:b.AZ.length<=2932031007317):dw b=some b:=by rw [dw,PA3,mk,AL (by grind)]
theorem IBB {b:Bo} {t:Int} (h:b.AZ.length<=140737488351232):zy b t=some (match NC b.AZ t 0 with | some j=>(j:Int) | none=> -1):=by
 have key:∀ m i,i<=b.AZ.length->b.AZ.length - i<m->eF m (.c0 t b.AZ b.AZ.length i)=some (match NC (b.AZ.drop i) t i with | some j=>(j:Int) | none=> -1):=fun m i h1 h2=>
  PV (A:=Unit) (n:=b.AZ.length) (Lp:=eF) (st:=fun i _=>.c0 t b.AZ b.AZ.length i) (Inv:=fun _ _=>True) (out:=fun i _=>some (match NC (b.AZ.drop i) t i with | some j=>(j:Int) | none=> -1))
   (fun m _ _=>by simp [eF,AH3,mk,NC])
   (fun m i _ hi _=>by
    have hw:AV ((i:Int)+1)=((i+1:Nat):Int):=by grind [A8]
    simp only [eF,AH3,mk,BR,getD_at hi,hw,drop_at hi,NC];cases hq:b.AZ[i].fId == t;all_goals simp_all) m i () h1 h2 trivial
 have h0:=key AY 0 (DJ _) (FM (by omega));exact h0
theorem VBn (x y:Af):BAn x y=some (grown x y):=by rw [BAn,SA3,mk,grown,Rx,show decide (y.fNext>=x.fNext)=decide (x.fNext<=y.fNext) from rfl];grind
theorem WBn {b:Bo} {x:Af} (hb:G9 b=true) (hx:x.fId<=1000):CAn b x=some (match TT b x with
 | some p=>(true,⟨b.Bv,b.DU,p.1,p.2,b.Dh,b.fCount⟩)
 | none=>(false,b)):=by
 obtain ⟨b1,b2,b3,b4,b5,b6,b7⟩:=HY.1 hb
 rw [CAn,TA3,mk,IBB (by omega),AP,TT];rcases TA9 (xs:=b.AZ) (id:=x.fId) with ⟨o,j,t1,t2,t3,t4,t5⟩ | ⟨t1,t2⟩
 ·have hg:∀ z,b.AZ.getD j z=o:=fun z=>by simp_all
  have hs:=(SA9 b7 t2).1;grind [VBn]
 grind [A8]
theorem JBB {b:Bo} {r:Ah} (hb:b.AZ.length<=140737488351232) (hr:r.DR<=9223372036854775807):Yp b r=some (Awv b r):=by
 rw [Yp,UA3,mk,WI hr,AP,SBM hb,AP,Awv];cases h1:G9 b;·rfl
 cases h2:(AwX r).2;·rfl
 by_cases h3:b.fCount>=10000;·rw [Ba h3];rfl
 obtain ⟨b1,b2,b3,b4,b5,b6,b7⟩:=HY.1 h1
 have hz:=WH r;have hw:AV (b.fCount+1)=b.fCount+1:=A8 (by omega) (by omega);have hdig:=Ar2 (s:=b.Dh++(AwX r).1) (by grind);have hsz:decide (b.Dh.size+(AwX r).1.size<=9223372036854775807)=true:=by grind
 simp only [D6 h3,DN,Bool.or_self,Aq,HBB (show b.AZ.length<=2932031007317 by omega),hdig,hsz,hw,AP,Ar];rcases gG h2 with ⟨hk,hc⟩ | ⟨hk,hc⟩ | ⟨hk,hc⟩ | ⟨hk,hc⟩
 ·simp_all
 ·simp_all
 ·rw [hk];simp only [show ((3:Int) == 1)=false from rfl,show ((3:Int) == 2)=false from rfl,show ((3:Int) == 3)=true from rfl,Ar,Aq];rw [WBn h1 (Arq hc).2.2.2.1,AP];cases TT b r.Ag with
  | none=>rfl
  | some p=>simp_all
 ·rw [hk];simp only [show ((4:Int) == 1)=false from rfl,show ((4:Int) == 2)=false from rfl,show ((4:Int) == 3)=false from rfl,show ((4:Int) == 4)=true from rfl,Ar,Aq];rw [IBB hb,AP];rcases TA9 (xs:=b.AZ) (id:=r.DR) with ⟨o,j,t1,t2,t3,t4,t5⟩ | ⟨t1,t2⟩
  ·have hs:=(SA9 (x:=⟨r.DR,0,false,false,false,false,⟨#[]⟩,0⟩) b7 t2).2;rw [Nat.sub_zero] at hs;simp only at hs;rw [t1,t2];simp only [BR];have e:AV ((j:Int)+1)=((j+1:Nat):Int):=by grind [A8]
   simp only [e,BR,List.drop_zero,List.take_length,hs];grind
  ·rw [t1,t2];rfl
end Go.Proofs.YtkbbicgglblfiaaGreatDoor.G
