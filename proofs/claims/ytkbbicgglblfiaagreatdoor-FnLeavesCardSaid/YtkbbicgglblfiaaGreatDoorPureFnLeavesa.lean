/- The plain law of FnLeaves: whatever the arguments, it answers true. Conditions: what is read is in reach. Part 1 of 4. -/
import Derived.Test.YtkbbicgglblfiaaGreatDoorFFnLeaves
import Derived.Test.YtkbbicgglblfiaaGreatDoorOpens
import Derived.Test.YtkbbicgglblfiaaGreatDoorPBase
namespace Go.Proofs.YtkbbicgglblfiaaGreatDoor.G
open Go Go.Ev
set_option linter.unusedVariables false
set_option linter.unusedSimpArgs false
set_option linter.unusedSectionVars false
variable [PC]
theorem HBg (u:Unit):AGY u=some (decide ((KI.length:Int) > 1048576)):=rfl
def bs (s:AA):List Int:=s.data.toList.map fun b=>(b.toNat:Int)
theorem bs_len (s:AA):(bs s).length=s.size:=by simp [bs]
theorem IA8 {s:AA} {n:Int} (h:n ∈ bs s):0<=n/\n<=255:=by unfold bs at h;rw [List.mem_map] at h;obtain ⟨b,_,rfl⟩:=h;have:=b.toNat_lt;omega
theorem Fa (a b:AA):bs (a++b)=bs a++bs b:=by simp [bs]
theorem y5 (s:AA):ofBytes (bs s)=s:=by simp [ofBytes,bs,Function.comp_def]
theorem Aq3 {s t:AA} (h:bs s=bs t):s=t:=by grind [y5]
theorem Avo {l:List Int} (h:∀ n,n ∈ l->0<=n/\n<=255):bs (ofBytes l)=l:=by
 simp only [bs,ofBytes,List.map_map];conv=>rhs;rw [<-List.map_id l]
 grind [List.map_congr_left,UInt8.toNat_ofNat']
theorem Zo {s:AA} {i:Nat} (h:i<s.size):bt s (i:Int)=(bs s)[i]'(by simp_all [bs_len]):=by simp only [bt,BR,h,dite_true,bs,List.getElem_map];rfl
theorem Rx (s:AA) (i:Int):0<=bt s i/\bt s i<=255:=by
 unfold bt;split;·have:=(s[i.toNat]).toNat_lt;omega
 ·omega
theorem Ap3 (s:AA) (i j:Nat):bs (s.extract i j)=((bs s).take j).drop i:=by simp [bs,List.drop_take]
theorem AL {α:Type} {c:Bool} {a b:α} (h:c=true):(bif c then a else b)=a:=by simp_all
theorem BF {α:Type} {c:Bool} {a b:α} (h:c=false):(bif c then a else b)=b:=by simp_all
theorem Ui {s:AA} {i:Nat} (h:i<s.size):bt s (i:Int)=(bs s).getD i 0:=by grind [Zo]
theorem NAp {α:Type} {a b:List α} {i:Nat} (h:i<a.length) (d:α):(a++b).getD i d=a.getD i d:=by simp_all [List.getElem?_append_left]
theorem dA {α:Type} {a b:List α} {x y:α} {i:Nat} (h:a.length=i):(a++x::b).set i y=a++y::b:=by simp_all
theorem IBg:bs (⟨#[]⟩:AA)=[]:=rfl
def AsE (l:List Int):Prop:=∀ n,n ∈ l->0<=n/\n<=255
theorem NI {l:List Int} (h:AsE l) (i:Nat):0<=l.getD i 0/\l.getD i 0<=255:=by
 by_cases hi:i<l.length;·rw [getD_at hi];exact h _ (List.getElem_mem hi)
 simp_all
theorem Jj (s:AA):AsE (bs s):=fun _ h=>IA8 h
theorem lg (s:AA):bytesOf s=bs s:=rfl
def Ok {α:Type} (x:Option α) (Q:α->Prop):Prop:=∃ a,x=some a/\Q a
theorem Ok.bind {α β:Type} {x:Option α} {f:α->Option β} {Q:α->Prop} {R:β->Prop} (h:Ok x Q) (k:∀ a,Q a->Ok (f a) R):Ok (x.bind f) R:=by obtain ⟨a,rfl,h⟩:=h;simp_all
theorem Ok.cond {α:Type} {c:Bool} {a b:Option α} {R:α->Prop} (h1:c=true->Ok a R) (h2:c=false->Ok b R):Ok (bif c then a else b) R:=by grind
theorem Ok.chk {α:Type} {c:Bool} {a:Option α} {R:α->Prop} (hc:c=true) (h1:Ok a R):Ok (bif c then a else none) R:=by simp_all
theorem Ok.ret {α:Type} {a:α} {R:α->Prop} (h:R a):Ok (some a) R:=⟨a,rfl,h⟩
theorem Ok.eq {α:Type} {x:Option α} {a:α} (h:x=some a):Ok x (fun b=>b=a):=⟨a,h,rfl⟩
def HY (c:DZ):Prop:=0<=c.fI
theorem OAp (n:Int):0<=AV ((BitVec.toNat (BitVec.ofInt (IntKind.bits IntKind.i64) n &&& BitVec.ofInt (IntKind.bits IntKind.i64) 255):Nat):Int)/\AV ((BitVec.toNat (BitVec.ofInt (IntKind.bits IntKind.i64) n &&& BitVec.ofInt (IntKind.bits IntKind.i64) 255):Nat):Int)<=255:=by grind [BitVec.ofInt,IntKind.bits,Nat.and_le_right,A8]
theorem JBg:Ok (CAi ()) HY:=by
 have hl:KI.length<=140737488351232:=PC.hl;have key:∀ (j i m:Nat) (h:Int),i+j=KI.length->Ok (oD (m+j+1) (.c0 h (i:Int))) HY:=by
  intro j;induction j with
  | zero=>
   intro i m h hi;rw [oD];simp only [BAi,mk];rw [BF (by simp_all)];exact Ok.ret (Int.le_refl 0)
  | succ j ih=>
   intro i m h hi;have hw:AV ((i:Int)+1)=((i+1:Nat):Int):=by grind [A8]
   rw [AwB m j,oD];simp only [BAi,mk,hw];refine Ok.cond (fun _=>Ok.cond (fun _=>?_) fun _=>Ok.ret (Int.le_refl 0)) fun _=>Ok.ret (Int.le_refl 0)
   refine Ok.chk (by simp_all) (Ok.chk (by simp_all) (ih (i+1) m _ (by omega)))
 obtain ⟨m,hm⟩:=gm (n:=KI.length) (by omega)
 rw [CAi,IAu,mk,hm];exact key KI.length 0 m _ (Nat.zero_add _)
theorem oG {c:DZ} (hc:HY c):Ok (oH c) fun r=>0<=r.1/\r.1<=255/\HY r.2:=by
 have hl:KI.length<=140737488351232:=PC.hl;have hc:0<=c.fI:=hc;rw [oH,JAu,mk];refine Ok.cond (fun h=>?_) fun h=>Ok.ret ⟨(OAp _).1,(OAp _).2,hc⟩
 rw [decide_eq_true_eq] at h;refine Ok.chk (by simp_all) (Ok.chk (Nat.ble_eq_true_of_le (by omega)) (Ok.ret ⟨(OAp _).1,(OAp _).2,?_⟩));show 0<=AV (c.fI+1);grind [A8]
theorem tmod_lt {a n:Int} (ha:0<=a) (hn:0<n):0<=a.tmod n/\a.tmod n<n:=⟨Int.tmod_nonneg _ ha,Int.tmod_lt_of_pos _ hn⟩
theorem OO {c:DZ} {n:Int} (hc:HY c):Ok (PD c n) fun r=>(0<=r.1/\(0<n->r.1<n)/\(n<=0->r.1=0))/\HY r.2:=by
 rw [PD,KAu,mk];refine Ok.cond (fun h=>?_) fun h=>?_
 ·rw [decide_eq_true_eq] at h;exact Ok.ret ⟨⟨Int.le_refl 0,fun h2=>h2,fun _=>rfl⟩,hc⟩
 ·rw [decide_eq_false_iff_not] at h;have hn:(!(n == 0))=true:=by grind
  refine Ok.cond (fun _=>?_) fun _=>?_
  ·refine Ok.bind (oG hc) fun a ha=>Ok.chk hn (Ok.ret ?_)
   have:=tmod_lt ha.1 (show 0<n by omega);exact ⟨⟨this.1,fun _=>this.2,fun h2=>by omega⟩,ha.2.2⟩
  ·refine Ok.bind (oG hc) fun a ha=>Ok.bind (oG ha.2.2) fun b hb=>Ok.bind (oG hb.2.2) fun d hd=>Ok.bind (oG hd.2.2) fun e he=>Ok.chk hn (Ok.ret ?_)
   obtain ⟨a1,a2,_⟩:=ha
   obtain ⟨b1,b2,_⟩:=hb
   obtain ⟨d1,d2,_⟩:=hd
   obtain ⟨e1,e2,e3⟩:=he
   have hw:AV (AV (AV (AV (a.1*16777216)+AV (b.1*65536))+AV (d.1*256))+e.1)=a.1*16777216+b.1*65536+d.1*256+e.1:=by grind [A8]
   have:=tmod_lt (show 0<=a.1*16777216+b.1*65536+d.1*256+e.1 by omega) (show 0<n by omega);simp only [hw];exact ⟨⟨this.1,fun _=>this.2,fun h2=>by omega⟩,e3⟩
theorem ZBH {n:Nat} {x:Int} (h:n<=1000000000):dB (n:Int) x=some (ofBytes (List.replicate n x)):=by
 have key:∀ (j i m:Nat),i+j=n->oI (m+j+1) (.c0 (n:Int) x (i:Int) (List.replicate i x++List.replicate (n - i) 0))=some (ofBytes (List.replicate n x)):=by
  intro j;induction j with
  | zero=>
   intro i m hi;obtain rfl:i=n:=by omega
   simp [oI,EAi,mk]
  | succ j ih=>
   intro i m hi;have e:AV ((i:Int)+1)=((i+1:Nat):Int):=by grind [A8]
   rw [show m+(j+1)+1=(m+j+1)+1 by omega,oI];simp only [EAi,mk,e,BR];rw [AL (by grind),AL (by simp;omega),show n - i=(n - (i+1))+1 by omega,List.replicate_succ,dA (by simp)];have h2:=ih (i+1) m (by omega);simp_all [List.replicate_succ']
 obtain ⟨m,hm⟩:=gm (n:=n) (by omega)
 have h0:=key n 0 m (by omega);rw [List.replicate_zero,List.nil_append,Nat.sub_zero] at h0;rw [dB,LAu,mk,AL (by simp;omega),hm];exact h0
theorem KBg {n x:Int} (h0:0<=n) (h1:n<=1000000000):Ok (dB n x) fun r=>(r.size:Int)=n:=by have h:=ZBH (n:=n.toNat) (x:=x) (by omega);rw [show ((n.toNat:Nat):Int)=n by omega] at h;exact ⟨_,h,by grind [Dj]⟩
theorem y7 {n:Int}:w32 n=n % 4294967296:=by rfl
theorem Ar5 {n:Int} (h1:0<=n) (h2:n<4294967296):w32 n=n:=by grind [y7]
def R32 (n:Int):Prop:=0<=n/\n<4294967296
theorem Ol (n:Int):R32 (w32 n):=by grind [R32,y7]
def xr (x y:Int):Int:=w32 (((BitVec.toNat ((BitVec.ofInt (IntKind.bits IntKind.u32) x) ^^^ (BitVec.ofInt (IntKind.bits IntKind.u32) y))):Nat):Int)
def an (x y:Int):Int:=w32 (((BitVec.toNat ((BitVec.ofInt (IntKind.bits IntKind.u32) x) &&& (BitVec.ofInt (IntKind.bits IntKind.u32) y))):Nat):Int)
def y8 (x y:Int):Int:=w32 (((BitVec.toNat ((BitVec.ofInt (IntKind.bits IntKind.u32) x) ||| (BitVec.ofInt (IntKind.bits IntKind.u32) y))):Nat):Int)
theorem SG (x y:Int):w32 (((BitVec.toNat ((BitVec.ofInt (IntKind.bits IntKind.u32) x) ^^^ (BitVec.ofInt (IntKind.bits IntKind.u32) y))):Nat):Int)=xr x y:=rfl
theorem JA8 (x y:Int):w32 (((BitVec.toNat ((BitVec.ofInt (IntKind.bits IntKind.u32) x) &&& (BitVec.ofInt (IntKind.bits IntKind.u32) y))):Nat):Int)=an x y:=rfl
theorem BBI (x y:Int):w32 (((BitVec.toNat ((BitVec.ofInt (IntKind.bits IntKind.u32) x) ||| (BitVec.ofInt (IntKind.bits IntKind.u32) y))):Nat):Int)=y8 x y:=rfl
theorem lV (x y:Int):R32 (xr x y):=Ol _
theorem CBI {a b:Nat} {s:Nat} (hb:b<2 ^ s) (ha:a*2 ^ s<4294967296) (hs:b<4294967296):y8 ((a*2 ^ s:Nat):Int) (b:Int)=((a*2 ^ s+b:Nat):Int):=by
 have e:a*2 ^ s ||| b=a*2 ^ s+b:=by have:=Nat.shiftLeft_add_eq_or_of_lt hb a;simp_all [Nat.shiftLeft_eq]
 unfold y8;have h3:a*2 ^ s ||| b<2 ^ 32:=Nat.or_lt_two_pow (by omega) (by omega)
 rw [BitVec.toNat_or];show w32 (((BitVec.ofInt 32 _).toNat ||| (BitVec.ofInt 32 _).toNat:Nat):Int)=_;rw [BitVec.ofInt_natCast,BitVec.ofInt_natCast,BitVec.toNat_ofNat,BitVec.toNat_ofNat,Nat.mod_eq_of_lt (by omega),Nat.mod_eq_of_lt (by omega),e];grind [Ar5]
theorem LBg {e:Int} (h:R32 e):xr (ite ((IntKind.signed IntKind.u32)=true) (-(1:Int)) (IntKind.max IntKind.u32)) e=w32 (4294967295 - e):=by
 obtain ⟨h1,h2⟩:=h
 obtain ⟨n,rfl⟩:∃ n:Nat,e=(n:Int):=⟨e.toNat,by omega⟩
 have hn:n<4294967296:=by omega
 have e1:(ite ((IntKind.signed IntKind.u32)=true) (-(1:Int)) (IntKind.max IntKind.u32))=4294967295:=by decide
 rw [e1];unfold xr;show w32 (((BitVec.ofInt 32 4294967295 ^^^ BitVec.ofInt 32 (n:Int)).toNat:Nat):Int)=_;have e2:BitVec.ofInt 32 4294967295=BitVec.allOnes 32:=by decide
 rw [e2,BitVec.ofInt_natCast,BitVec.allOnes_xor,BitVec.toNat_not,BitVec.toNat_ofNat];grind
def rt (low high x:Int):Int:=x / low+x % low*high
theorem MBg {low high x:Int} (h:R32 x) (hl:0<low) (hh:0<high) (hlh:low*high=4294967296):R32 (rt low high x):=by
 unfold R32 rt at *
 have h1:0<=x / low:=Int.ediv_nonneg h.1 (by omega);have h2:0<=x % low:=Int.emod_nonneg _ (by omega);have h3:x % low<low:=Int.emod_lt_of_pos _ hl;have h4:x / low<high:=Int.ediv_lt_of_lt_mul hl (by simp_all [Int.mul_comm]);have h5:0<=x % low*high:=Int.mul_nonneg h2 (by omega);have h6:x % low*high<=(low - 1)*high:=Int.mul_le_mul_of_nonneg_right (by omega) (by omega);grind
theorem NBg {x:Int} (h:R32 x) (n:Nat) (hn:0<n) (hn2:n<32):y8 (w32 (x*2 ^ (32 - n))) (x / 2 ^ n)=rt (2 ^ n) (2 ^ (32 - n)) x:=by
 obtain ⟨h1,h2⟩:=h
 obtain ⟨y,rfl⟩:∃ y:Nat,x=(y:Int):=⟨x.toNat,by omega⟩
 have hy:y<4294967296:=by omega
 have e0:(4294967296:Nat)=2 ^ n*2 ^ (32 - n):=by rw [<-Nat.pow_add,show n+(32 - n)=32 by omega]
 have e1:w32 ((y:Int)*2 ^ (32 - n))=((y % 2 ^ n*2 ^ (32 - n):Nat):Int):=by
  rw [y7];have h5:((y:Int)*2 ^ (32 - n))=((y*2 ^ (32 - n):Nat):Int):=by rfl
  have h6:y*2 ^ (32 - n) % 4294967296=y % 2 ^ n*2 ^ (32 - n):=by rw [e0,Nat.mul_mod_mul_right]
  omega
 have e2:((y:Int) / 2 ^ n)=((y / 2 ^ n:Nat):Int):=by rfl
 have hp:0<2 ^ n:=Nat.two_pow_pos n;have hp2:0<2 ^ (32 - n):=Nat.two_pow_pos _;have hm:y % 2 ^ n<2 ^ n:=Nat.mod_lt _ hp;have hd:y / 2 ^ n<2 ^ (32 - n):=Nat.div_lt_of_lt_mul (by omega);rw [e1,e2,CBI hd (by simp_all) (Nat.lt_of_le_of_lt (Nat.div_le_self _ _) hy)];grind [rt]
def sg0 (x:Int):Int:=xr (xr (rt 128 33554432 x) (rt 262144 16384 x)) (x / 8)
def sg1 (x:Int):Int:=xr (xr (rt 131072 32768 x) (rt 524288 8192 x)) (x / 1024)
def ep1 (x:Int):Int:=xr (xr (rt 64 67108864 x) (rt 2048 2097152 x)) (rt 33554432 128 x)
def ep0 (x:Int):Int:=xr (xr (rt 4 1073741824 x) (rt 8192 524288 x)) (rt 4194304 1024 x)
def OBg (w:List Int) (t:Nat):Int:=w32 (w32 (w32 (sg1 (w.getD (t - 2) 0)+w.getD (t - 7) 0)+sg0 (w.getD (t - 15) 0))+w.getD (t - 16) 0)
def sched (w:List Int):Nat->List Int
 | 0=>w
 | n+1=>sched w n++[OBg (sched w n) (16+n)]
theorem y9 {w:List Int} (h:w.length=16) (n:Nat):(sched w n).length=16+n:=by induction n<;>grind [sched]
theorem PAp {w:List Int} (h:∀ x ∈ w,R32 x) (n:Nat):∀ x ∈ sched w n,R32 x:=by
 induction n with
 | zero=>exact h
 | succ n ih=>
  intro x hx;rw [sched,List.mem_append,List.mem_singleton] at hx;rcases hx with hx | rfl
  ·simp_all
  ·exact Ol _
theorem zA {l:List Int} (h:∀ x ∈ l,R32 x) (i:Nat):R32 (l.getD i 0):=by grind [R32]
structure Reg where
 a:Int
 b:Int
 c:Int
 d:Int
 e:Int
 f:Int
 g:Int
 h:Int
def Reg.ok (r:Reg):Prop:=R32 r.a/\R32 r.b/\R32 r.c/\R32 r.d/\R32 r.e/\R32 r.f/\R32 r.g/\R32 r.h
def Reg.l (r:Reg):List Int:=[r.a,r.b,r.c,r.d,r.e,r.f,r.g,r.h]
theorem Reg.zB (r:Reg):r.l.length=8:=rfl
def t1 (r:Reg) (k w:Int):Int:=w32 (w32 (w32 (w32 (r.h+ep1 r.e)+xr (an r.e r.f) (an (w32 (4294967295 - r.e)) r.g))+k)+w)
def t2 (r:Reg):Int:=w32 (ep0 r.a+xr (xr (an r.a r.b) (an r.a r.c)) (an r.b r.c))
def AqH (r:Reg) (k w:Int):Reg:=⟨w32 (t1 r k w+t2 r),r.a,r.b,r.c,w32 (r.d+t1 r k w),r.e,r.f,r.g⟩
theorem PBg {r:Reg} (h:r.ok) (k w:Int):(AqH r k w).ok:=⟨Ol _,h.1,h.2.1,h.2.2.1,Ol _,h.2.2.2.2.1,h.2.2.2.2.2.1,h.2.2.2.2.2.2.1⟩
def LZ (K W:List Int) (r:Reg):Nat->Reg
 | 0=>r
 | n+1=>AqH (LZ K W r n) (K.getD n 0) (W.getD n 0)
theorem GBI (K W:List Int) {r:Reg} (h:r.ok) (n:Nat):(LZ K W r n).ok:=by
 induction n with
 | zero=>exact h
 | succ n ih=>exact PBg ih _ _
def zC (s r:Reg):Reg:=⟨w32 (s.a+r.a),w32 (s.b+r.b),w32 (s.c+r.c),w32 (s.d+r.d),w32 (s.e+r.e),w32 (s.f+r.f),w32 (s.g+r.g),w32 (s.h+r.h)⟩
theorem QBg (s r:Reg):(zC s r).ok:=⟨Ol _,Ol _,Ol _,Ol _,Ol _,Ol _,Ol _,Ol _⟩
def keysL:List Int:=[1116352408,1899447441,3049323471,3921009573,961987163,1508970993,2453635748,2870763221,3624381080,310598401,607225278,1426881987,1925078388,2162078206,2614888103,3248222580,3835390401,4022224774,264347078,604807628,770255983,1249150122,1555081692,1996064986,2554220882,2821834349,2952996808,3210313671,3336571891,3584528711,113926993,338241895,666307205,773529912,1294757372,1396182291,1695183700,1986661051,2177026350,2456956037,2730485921,2820302411,3259730800,3345764771,3516065817,3600352804,4094571909,275423344,430227734,506948616,659060556,883997877,958139571,1322822218,1537002063,1747873779,1955562222,2024104815,2227730452,2361852424,2428436474,2756734187,3204031479,3329325298]
def be4 (a b c d:Int):Int:=a*16777216+b*65536+c*256+d
def wordAt (l:List Int) (i:Nat):Int:=be4 (l.getD (4*i) 0) (l.getD (4*i+1) 0) (l.getD (4*i+2) 0) (l.getD (4*i+3) 0)
def Ht (l:List Int) (n:Nat):List Int:=(List.range n).map (wordAt l)
theorem dD (l:List Int) (n:Nat):(Ht l n).length=n:=by simp [Ht]
theorem HBI (l:List Int) (n:Nat):Ht l (n+1)=Ht l n++[wordAt l n]:=by simp [Ht,List.range_succ]
theorem RBg {a b c d:Int} (ha:0<=a/\a<=255) (hb:0<=b/\b<=255) (hc:0<=c/\c<=255) (hd:0<=d/\d<=255):R32 (be4 a b c d):=by grind [R32,be4]
theorem SBg {l:List Int} (h:AsE l) (i:Nat):R32 (wordAt l i):=RBg (NI h _) (NI h _) (NI h _) (NI h _)
theorem KA8 {l:List Int} (h:AsE l) (n:Nat):∀ x ∈ Ht l n,R32 x:=by grind [Ht,SBg]
def comp (s:Reg) (b:List Int):Reg:=zC s (LZ keysL (sched (Ht b 16) 48) s 64)
theorem IBI (s:Reg) (b:List Int):(comp s b).ok:=QBg _ _
def comps:Nat->Reg->List Int->Reg
 | 0,s,_=>s
 | n+1,s,b=>comps n (comp s (b.take 64)) (b.drop 64)
theorem dF {s:Reg} (h:s.ok):∀ (n:Nat) (b:List Int),(comps n s b).ok:=by
 intro n;induction n generalizing s with
 | zero=>intro b;exact h
 | succ n ih=>intro b;exact ih (IBI _ _) _
theorem JBI (n m:Nat):∀ (s:Reg) (b:List Int),comps (n+m) s b=comps m (comps n s b) (b.drop (64*n)):=by induction n<;>grind [comps,List.drop_drop]
theorem TBg (n:Nat):∀ (s:Reg) (b c:List Int),64*n<=b.length->comps n s (b++c)=comps n s b:=by induction n<;>grind [comps]
def four (x:Int):List Int:=[x / 16777216,x / 65536 % 256,x / 256 % 256,x % 256]
theorem Vx {x:Int} (h:R32 x):AsE (four x):=by intro n hn;grind [R32,four]
def GI (ws:List Int):List Int:=ws.flatMap four
theorem KBI (ws:List Int):(GI ws).length=4*ws.length:=by induction ws<;>grind [GI,four]
theorem LA8 {ws:List Int} (h:∀ x ∈ ws,R32 x):AsE (GI ws):=by
 intro n hn;simp only [GI,List.mem_flatMap] at hn;obtain ⟨x,hx,hn⟩:=hn
 exact Vx (h x hx) n hn
theorem UBg (a b:List Int):GI (a++b)=GI a++GI b:=by simp [GI]
theorem VBg {x:Int} (h:R32 x):be4 (x / 16777216) (x / 65536 % 256) (x / 256 % 256) (x % 256)=x:=by grind [be4]
theorem LBI:∀ {ws:List Int} (_:∀ x ∈ ws,R32 x) {i:Nat} (hi:i<ws.length),wordAt (GI ws) i=ws[i]
 | w::ws,h,0,_=>by simp_all [VBg,wordAt,GI,four]
 | w::ws,h,i+1,hi=>by
  have ih:=LBI (ws:=ws) (fun x hx=>h x (List.mem_cons_of_mem _ hx)) (i:=i) (by simpa using hi);rw [List.getElem_cons_succ,<-ih];have e:∀ j,(GI (w::ws)).getD (j+4) 0=(GI ws).getD j 0:=fun j=>by simp [GI,four,List.getD]
  unfold wordAt;rw [show 4*(i+1)=4*i+4 by omega,show 4*i+4+1=(4*i+1)+4 by omega,show 4*i+4+2=(4*i+2)+4 by omega,show 4*i+4+3=(4*i+3)+4 by omega,e,e,e,e]
theorem WBg {ws:List Int} (h:∀ x ∈ ws,R32 x):Ht (GI ws) ws.length=ws:=by grind [List.ext_getElem,dD,Ht,LBI]
theorem Reg.oJ {r:Reg} (h:r.ok):∀ x ∈ r.l,R32 x:=by
 intro x hx;simp only [Reg.l,List.mem_cons,List.not_mem_nil,or_false] at hx;obtain ⟨h1,h2,h3,h4,h5,h6,h7,h8⟩:=h
 grind
def Aqw:Reg:=⟨1779033703,3144134277,1013904242,2773480762,1359893119,2600822924,528734635,1541459225⟩
theorem dG:Aqw.ok:=by simp [Reg.ok,R32,Aqw]
def AsL (n:Int):List Int:=[0,0,0,n / 4294967296 % 256,n / 16777216 % 256,n / 65536 % 256,n / 256 % 256,n % 256]
def Hu (n:Nat):List Int:=128::(List.replicate ((119 - n % 64) % 64) 0++AsL (8*(n:Int)))
theorem QAp (n:Nat):(Hu n).length=9+(119 - n % 64) % 64:=by simp [Hu,AsL];omega
theorem XBg (n:Nat):(n+(Hu n).length) % 64=0:=by grind [QAp]
theorem MA8 (n:Nat):AsE (Hu n):=by intro x hx;simp only [Hu,AsL,List.mem_cons,List.mem_append,List.mem_replicate,List.not_mem_nil,or_false] at hx;omega
def Ap6 (b:List Int):List Int:=GI (comps ((b.length+(Hu b.length).length) / 64) Aqw (b++Hu b.length)).l
def EK (s:AA):AA:=ofBytes (Ap6 (bs s))
theorem MBI (b:List Int):(Ap6 b).length=32:=by rfl
theorem NBI (b:List Int):AsE (Ap6 b):=LA8 (Reg.oJ (dF dG _ _))
theorem Qh (s:AA):(EK s).size=32:=by rfl
theorem RAp (s:AA):bs (EK s)=Ap6 (bs s):=Avo (NBI _)
theorem YBg {x:Int} (h:R32 x):[w8 (w32 (x.tdiv 16777216)),w8 ((w32 (x.tdiv 65536)).tmod 256),w8 ((w32 (x.tdiv 256)).tmod 256),w8 (x.tmod 256)]=four x:=by
 obtain ⟨h1,h2⟩:=h
 grind [Ar5,four,bJ,List.cons.injEq]
theorem OBI {ws:List Int} (h:∀ x ∈ ws,R32 x) (hl:ws.length<=1000000000000):dH ws=some (ofBytes (GI ws)):=by
 have key:=PV (A:=Unit) (n:=ws.length) (Lp:=oK) (st:=fun i _=>.c0 ws (i:Int) (GI (ws.take i))) (Inv:=fun _ _=>True) (out:=fun _ _=>some (ofBytes (GI ws)))
  (fun m _ _=>by
   simp [oK,FAi,mk])
  (fun m i _ hi _=>.inr ⟨(),by
   have e:AV ((i:Int)+1)=((i+1:Nat):Int):=by grind [A8]
   simp only [oK,FAi,mk,e,BR];rw [AL (by simp_all),AL (by simp_all),AL (by grind [KBI])];grind [YBg,take_at,GI],trivial,rfl⟩)
 exact key AY 0 () (DJ _) (FM (by omega)) trivial
def YL:IW:=⟨ofBytes (GI Aqw.l),⟨#[]⟩,0⟩
theorem ZBg:NAu=some YL:=by rfl
def Ark (x a b:Int):Bool:=decide (a<=x) && decide (x<=b)
theorem Aqo {x a b:Int}:Ark x a b=true↔a<=x/\x<=b:=by simp [Ark]
theorem Hf (x a b:Int):Arz x a b=some (Ark x a b):=by show (bif decide (a<=x) then some (decide (x<=b)) else some false)=some (Ark x a b);grind [Ark]
theorem PBI {h:IW} (h1:h.F7.size=32) (h2:h.Np.size<64) (h3:0<=h.fCount/\h.fCount<=1000000000) (h4:h.fCount % 64=(h.Np.size:Int)):WH h=some true:=by
 have e:Ark h.fCount 0 1000000000=true:=by grind [Aqo]
 simp only [WH,OAu,mk,Hf,AP,e];grind
theorem Ahm {s:AA} {i:Nat} (h:4*i+4<=s.size) (hs:s.size<=9000000000000000000):zD s ((4*i:Nat):Int)=some (wordAt (bs s) i):=by
 have hb:=Jj s;have e1:AV (((4*i:Nat):Int)+1)=((4*i+1:Nat):Int):=by grind [A8]
 have e2:AV (((4*i:Nat):Int)+2)=((4*i+2:Nat):Int):=by grind [A8]
 have e3:AV (((4*i:Nat):Int)+3)=((4*i+3:Nat):Int):=by grind [A8]
 simp only [zD,PAu,mk,e1,e2,e3];rw [AL (by grind),AL (by grind),AL (by grind),AL (by grind)];rw [Ui (by omega),Ui (by omega),Ui (by omega),Ui (by omega)];have b0:=NI hb (4*i);have b1:=NI hb (4*i+1);have b2:=NI hb (4*i+2);have b3:=NI hb (4*i+3);unfold wordAt be4;grind [y7]
theorem QBI {s:AA} (hs:s.size<=1000000000000):WI s=some (Ht (bs s) (s.size / 4)):=by
 have key:=PV (A:=Unit) (n:=s.size / 4) (Lp:=oL) (st:=fun i _=>.c0 s ((4*i:Nat):Int) (Ht (bs s) i)) (Inv:=fun _ _=>True) (out:=fun _ _=>some (Ht (bs s) (s.size / 4)))
  (fun m _ _=>by
   simp only [oL,HAi,mk];rw [A8 (by omega) (by omega),BF (by simp;omega)])
  (fun m i _ hi _=>.inr ⟨(),by
   have e:AV (((4*i:Nat):Int)+4)=((4*(i+1):Nat):Int):=by rw [A8 (by omega) (by omega)];omega
   simp only [oL,HAi,mk,e,Ahm (s:=s) (i:=i) (by omega) (by omega),AP,dD,HBI];rw [AL (by simp;omega),AL (by simp;omega)],trivial,rfl⟩)
 exact key AY 0 () (DJ _) (FM (by omega)) trivial
theorem Ut {x low high:Int} (h:R32 x) (hl:0<low) (hh:0<high) (hlh:low*high=4294967296):IAi x low high=some (rt low high x):=by
 have hr:=MBg h hl hh hlh;obtain ⟨h1,h2⟩:=h
 have e0:(!(low == 0))=true:=by grind
 have d1:0<=x / low:=Int.ediv_nonneg h1 (by omega);have d2:0<=x % low*high:=Int.mul_nonneg (Int.emod_nonneg _ (by omega)) (by omega);unfold R32 rt at hr;simp only [IAi,RAu,mk,e0,Ar,Int.tdiv_eq_ediv_of_nonneg h1,Int.tmod_eq_emod_of_nonneg h1];rw [Ar5 d1 (by omega),Ar5 d2 (by omega),Ar5 (by omega) (by omega)];rfl
theorem BBh {x:Int} (h:R32 x):Arf x 131072 524288 1024 true=some (sg1 x):=by
 have e1:w32 (w32 ((2147483648:Int).tdiv 131072)*2)=32768:=by decide
 have e2:w32 (w32 ((2147483648:Int).tdiv 524288)*2)=8192:=by decide
 have e3:w32 (x.tdiv 1024)=x / 1024:=by
  obtain ⟨h1,h2⟩:=h
  grind [Ar5]
 simp only [Arf,oM,mk,e1,e2,e3,Ut h (low:=131072) (high:=32768) (by omega) (by omega) (by omega),Ut h (low:=524288) (high:=8192) (by omega) (by omega) (by omega),AP,SG];rfl
theorem CBh {x:Int} (h:R32 x):Arf x 128 262144 8 true=some (sg0 x):=by
 have e1:w32 (w32 ((2147483648:Int).tdiv 128)*2)=33554432:=by decide
 have e2:w32 (w32 ((2147483648:Int).tdiv 262144)*2)=16384:=by decide
 have e3:w32 (x.tdiv 8)=x / 8:=by
  obtain ⟨h1,h2⟩:=h
  grind [Ar5]
 simp only [Arf,oM,mk,e1,e2,e3,Ut h (low:=128) (high:=33554432) (by omega) (by omega) (by omega),Ut h (low:=262144) (high:=16384) (by omega) (by omega) (by omega),AP,SG];rfl
theorem DBh {x:Int} (h:R32 x):Arf x 64 2048 33554432 false=some (ep1 x):=by
 have e1:w32 (w32 ((2147483648:Int).tdiv 64)*2)=67108864:=by decide
 have e2:w32 (w32 ((2147483648:Int).tdiv 2048)*2)=2097152:=by decide
 have e3:w32 (w32 ((2147483648:Int).tdiv 33554432)*2)=128:=by decide
 simp only [Arf,oM,mk,e1,e2,e3,Ut h (low:=64) (high:=67108864) (by omega) (by omega) (by omega),Ut h (low:=2048) (high:=2097152) (by omega) (by omega) (by omega),Ut h (low:=33554432) (high:=128) (by omega) (by omega) (by omega),AP,SG];rfl
theorem EBh {x:Int} (h:R32 x):Arf x 4 8192 4194304 false=some (ep0 x):=by
 have e1:w32 (w32 ((2147483648:Int).tdiv 4)*2)=1073741824:=by decide
 have e2:w32 (w32 ((2147483648:Int).tdiv 8192)*2)=524288:=by decide
 have e3:w32 (w32 ((2147483648:Int).tdiv 4194304)*2)=1024:=by decide
 simp only [Arf,oM,mk,e1,e2,e3,Ut h (low:=4) (high:=1073741824) (by omega) (by omega) (by omega),Ut h (low:=8192) (high:=524288) (by omega) (by omega) (by omega),Ut h (low:=4194304) (high:=1024) (by omega) (by omega) (by omega),AP,SG];rfl
theorem FBh (s r:Reg):∀ i,i<8->(zC s r).l.getD i 0=w32 (s.l.getD i 0+r.l.getD i 0)
 | 0,_=>rfl | 1,_=>rfl | 2,_=>rfl | 3,_=>rfl | 4,_=>rfl | 5,_=>rfl | 6,_=>rfl | 7,_=>rfl
 | n+8,h=>by omega
def shL:Nat->List Int->List Int
 | 0,v=>v
 | i+1,v=>shL i (v.set (i+1) (v.getD i 0))
theorem GBh (t o W:List Int) (k T1 T2:Int) (hk:0<=k/\k<64):∀ (i m:Nat) (v:List Int),i<8->v.length=8->Pn (m+i+1) (.c2 t o k T1 T2 (i:Int) W v)=Pn m (.c1 t o (k+1) W (((shL i v).set 4 (w32 ((shL i v).getD 4 0+T1))).set 0 (w32 (T1+T2)))):=by
 intro i;induction i with
 | zero=>
  intro m v _ hl;have e:AV (k+1)=k+1:=A8 (by omega) (by omega);simp only [Pn,dI,mk,e];rw [BF (by simp),AL (by simp [hl]),AL (by simp [hl]),AL (by simp [hl])];rfl
 | succ i ih=>
  intro m v hi hl;have e:AV (((i+1:Nat):Int) - 1)=(i:Int):=by grind [A8]
  rw [show m+(i+1)+1=(m+i+1)+1 by omega];rw [Pn];simp only [dI,mk,e,BR];rw [AL (by simp),AL (by grind),AL (by grind),ih m _ (by omega) (by simp [hl])];rfl
theorem HBh (t W:List Int) (r:Reg) (hr:r.ok) (hW:∀ x ∈ W,R32 x) (A1:W.length=64) (i m:Nat) (hi:i<64) :
  Pn (m+9) (.c1 t keysL (i:Int) W r.l)=Pn m (.c1 t keysL ((i:Int)+1) W (AqH r (keysL.getD i 0) (W.getD i 0)).l):=by
 obtain ⟨h1,h2,h3,h4,h5,h6,h7,h8⟩:=hr
 have hk:keysL.length=64:=rfl;have g (q:Reg):q.l.getD 0 0=q.a/\q.l.getD 1 0=q.b/\q.l.getD 2 0=q.c/\q.l.getD 4 0=q.e/\q.l.getD 5 0=q.f/\q.l.getD 6 0=q.g/\q.l.getD 7 0=q.h:=⟨rfl,rfl,rfl,rfl,rfl,rfl,rfl⟩
 obtain ⟨g0,g1,g2,g4,g5,g6,g7⟩:=g r
 have hl:r.l.length=8:=rfl;have z4:(4:Int).toNat=4:=rfl;have z5:(5:Int).toNat=5:=rfl;have z6:(6:Int).toNat=6:=rfl;have z7:(7:Int).toNat=7:=rfl;have z0:(0:Int).toNat=0:=rfl;have z1:(1:Int).toNat=1:=rfl;have z2:(2:Int).toNat=2:=rfl;rw [show m+9=(m+7+1)+1 by omega,Pn];simp only [dI,mk,z0,z1,z2,z4,z5,z6,z7,g0,g1,g2,g4,g5,g6,g7,hl,hk,A1,DBh h5,EBh h1,AP,SG,JA8,BR];rw [AL (by grind),AL (by simp),AL (by simp),AL (by simp),AL (by simp),AL (by grind),AL (by grind),AL (by simp),AL (by simp),AL (by simp),AL (by simp),AL (by simp),AL (by simp),AL (by simp)];exact GBh t keysL W (i:Int) (t1 r (keysL.getD i 0) (W.getD i 0)) (t2 r) (by omega) 7 m r.l (by omega) rfl
theorem IBh (s:Reg) (hs:s.ok) (W:List Int) (hW:∀ x ∈ W,R32 x) (A1:W.length=64):∀ (j i m:Nat),i+j=64->Pn (m+9*j+10) (.c1 s.l keysL (i:Int) W (LZ keysL W s i).l)=some (zC s (LZ keysL W s 64)).l:=by
 intro j;induction j with
 | zero=>
  intro i m h;obtain rfl:i=64:=by omega
  rfl
 | succ j ih=>
  intro i m h;rw [show m+9*(j+1)+10=(m+9*j+10)+9 by omega,HBh s.l W _ (GBI keysL W hs i) hW A1 i _ (by omega)];exact ih (i+1) m (by omega)
theorem JBh (s:Reg) (hs:s.ok) (w:List Int) (hw:∀ x ∈ w,R32 x) (hwl:w.length=16):∀ (j i m:Nat),i+j=48->Pn (m+9*64+10+1+j) (.c0 s.l keysL ((16+i:Nat):Int) (sched w i))=some (zC s (LZ keysL (sched w 48) s 64)).l:=by
 intro j;induction j with
 | zero=>
  intro i m h;obtain rfl:i=48:=by omega
  rw [show m+9*64+10+1+0=(m+9*64+10)+1 by omega,Pn];simp only [dI,mk];rw [BF (by simp),AL (by rfl)];exact IBh s hs _ (PAp hw 48) (y9 hwl 48) 64 0 m (by omega)
 | succ j ih=>
  intro i m h;have hl:=y9 hwl i;have hr:=PAp hw i;have e2:AV (((16+i:Nat):Int) - 2)=((16+i - 2:Nat):Int):=by grind [A8]
  have e7:AV (((16+i:Nat):Int) - 7)=((16+i - 7:Nat):Int):=by grind [A8]
  have e15:AV (((16+i:Nat):Int) - 15)=((16+i - 15:Nat):Int):=by grind [A8]
  have e16:AV (((16+i:Nat):Int) - 16)=((16+i - 16:Nat):Int):=by grind [A8]
  have e1:AV (((16+i:Nat):Int)+1)=((16+(i+1):Nat):Int):=by grind [A8]
  rw [show m+9*64+10+1+(j+1)=(m+9*64+10+1+j)+1 by omega,Pn];simp only [dI,mk,e1,e2,e7,e15,e16,BR,hl,BBh (zA hr _),CBh (zA hr _),AP];rw [AL (by grind),AL (by grind),AL (by grind),AL (by grind),AL (by grind),AL (by grind)];exact ih (i+1) m (by omega)
theorem RBI {s:Reg} (hs:s.ok) {b:AA} (hb:b.size=64):dJ s.l keysL b=some (comp s (bs b)).l:=by
 have hr:=KA8 (Jj b) 16;obtain ⟨m,hm⟩:∃ m,AY=m+9*64+10+1+48:=⟨AY - 635,by rfl⟩
 have h:=JBh s hs _ hr (dD _ 16) 48 0 m (by omega);have e0:((16+0:Nat):Int)=16:=rfl;rw [e0,show sched (Ht (bs b) 16) 0=Ht (bs b) 16 from rfl] at h;rw [dJ,SAu,QBI (s:=b) (by omega),AP,hb,hm];exact h
theorem SBI:oO=some keysL:=rfl
theorem KBh (b:List Int) (i:Nat):(b.take (64*i+64)).drop (64*i)=(b.drop (64*i)).take 64:=by simp [List.drop_take]
theorem TBI (i:Nat) (s:Reg) (b:List Int):comps (i+1) s b=comp (comps i s b) ((b.drop (64*i)).take 64):=by rw [JBI i 1];rfl
theorem UBI {r:Reg} (h:r.ok):WI (ofBytes (GI r.l))=some r.l:=by
 have hs:(ofBytes (GI r.l)).size=32:=by rfl
 rw [QBI (by omega),hs,Avo (LA8 (Reg.oJ h))];exact congrArg some (WBg (Reg.oJ h))
theorem LBh {s:AA} (hs:s.size<=1000000000):KAi YL s=some ⟨ofBytes (GI (comps (s.size / 64) Aqw (bs s)).l),s.extract (64*(s.size / 64)) s.size,(s.size:Int)⟩:=by
 have e0:WH YL=some true:=PBI (by rfl) (by decide) (by decide) (by decide);have e1:((⟨#[]⟩:AA)++s)=s:=Aq3 (by rfl)
 have key:=PV (A:=Unit) (n:=s.size / 64) (Lp:=oP) (st:=fun i _=>.c0 s s ((64*i:Nat):Int) YL (⟨(⟨#[]⟩:AA),(⟨#[]⟩:AA),(0:Int)⟩:IW) (comps i Aqw (bs s)).l keysL) (Inv:=fun _ _=>True)
  (out:=fun _ _=>some ⟨ofBytes (GI (comps (s.size / 64) Aqw (bs s)).l),s.extract (64*(s.size / 64)) s.size,(s.size:Int)⟩)
  (fun m _ _=>by
   have hw:AV (YL.fCount+(s.size:Int))=(s.size:Int):=by show AV ((0:Int)+(s.size:Int))=_;grind [A8]
   rw [oP];simp only [JAi,mk,hw,BR];rw [A8 (by omega) (by omega),BF (by grind),OBI (Reg.oJ (dF dG _ _)) (by simp [Reg.l]),AP,AL (by simp;omega)])
  (fun m i _ hi _=>.inr ⟨(),by
   have e:AV (((64*i:Nat):Int)+64)=((64*(i+1):Nat):Int):=by grind [A8]
   rw [oP];simp only [JAi,mk,e,BR];rw [AL (by grind),AL (by simp;omega),RBI (dF dG _ _) (by simp;omega),AP,Ap3,show 64*(i+1)=64*i+64 by omega,KBh,<-TBI],trivial,rfl⟩)
 rw [KAi,TAu,mk,e0,AP,BF (by rfl)];have hw:AV (YL.fCount+(s.size:Int))=(s.size:Int):=by show AV ((0:Int)+(s.size:Int))=_;grind [A8]
 rw [hw,BF (by grind),show YL.F7=ofBytes (GI Aqw.l) from rfl,UBI dG,AP,SBI,AP,show YL.Np=⟨#[]⟩ from rfl,e1];rw [AL (by grind)];exact key AY 0 () (DJ _) (FM (by omega)) trivial
def dK (b:Int):Nat->List Int
 | 0=>[]
 | i+1=>(b / 256 ^ i % 256)::dK b i
def Uu:Nat->Nat
 | 0=>0
 | i+1=>Uu i+(i+2)
theorem MBh (x:Int) (j:Nat):x / 256 / 256 ^ j=x / 256 ^ (j+1):=by simp [Int.ediv_ediv_of_nonneg,Int.pow_succ,Int.mul_comm]
theorem NBh (h:IW) (b:Int):∀ (j k i m:Nat) (x:Int) (t:List Int),k+j=i->i<=7->0<=x->x<=9223372036854775807->t.length<=1000->
  Aq2 (m+j+1) (.c2 b (i:Int) x (k:Int) h t)=Aq2 m (.c1 b ((i:Int) - 1) h (t++[x / 256 ^ j % 256])):=by
 intro j;induction j with
 | zero=>
  grind [A8,Nq,Aq2,Uw]
 | succ j ih=>
  intro k i m x t hk hi hx hx2 ht;have e:AV ((k:Int)+1)=((k+1:Nat):Int):=by grind [A8]
  have e2:AV (x.tdiv 256)=x / 256:=by grind [A8]
  rw [show m+(j+1)+1=(m+j+1)+1 by omega,Aq2];simp only [Uw,mk,e,e2];rw [AL (by grind),ih (k+1) i m (x / 256) t (by omega) hi (by omega) (by omega) ht,MBh]
theorem OBh (h:IW) (b:Int) (hb:0<=b) (hb2:b<=9223372036854775807):∀ (i m:Nat) (t:List Int),i<=8->t.length+i<=900->Aq2 (m+Uu i) (.c1 b ((i:Int) - 1) h t)=Aq2 m (.c1 b (-1) h (t++dK b i)):=by
 intro i;induction i with
 | zero=>simp [Uu,dK]
 | succ i ih=>
  intro m t hi ht;rw [Uu,show m+(Uu i+(i+2))=(m+Uu i)+i+1+1 by omega,Aq2,show ((i+1:Nat):Int) - 1=(i:Int) by omega];simp only [Uw,mk];rw [AL (by simp),show (0:Int)=((0:Nat):Int) from rfl,NBh h b i 0 i _ b t (by omega) (by omega) hb hb2 (by omega),ih m _ (by omega) (by grind)];simp [dK]
theorem PBh {b:Int} (h:0<=b) (h2:b<1099511627776):dK b 8=AsL b:=by simp only [dK,AsL,List.cons.injEq,and_true];omega
theorem QBh (r:Reg) (hr:r.ok) (t:List Int) (ht:AsE t) (n:Nat) (hn:t.length=64*n) (hn2:n<=100):∀ (j i m:Nat),i+j=n->Aq2 (m+j+1) (.c3 ((64*i:Nat):Int) t (comps i r t).l keysL)=some (ofBytes (GI (comps n r t).l)):=by
 intro j;induction j with
 | zero=>
  intro i m h;obtain rfl:i=n:=by omega
  rw [Aq2];simp only [Uw,mk];rw [BF (by simp_all),OBI (Reg.oJ (dF hr _ _)) (by simp [Reg.l]),AP]
 | succ j ih=>
  intro i m h;have e:AV (((64*i:Nat):Int)+64)=((64*(i+1):Nat):Int):=by grind [A8]
  have hl:((t.drop (64*i)).take (64*(i+1) - 64*i)).length=64:=by grind
  have hby:AsE ((t.drop (64*i)).take (64*(i+1) - 64*i)):=fun x hx=>ht x (List.mem_of_mem_drop (List.mem_of_mem_take hx))
  rw [show m+(j+1)+1=(m+j+1)+1 by omega,Aq2];simp only [Uw,mk,e,BR];rw [AL (by grind),AL (by simp;omega),RBI (dF hr _ _) (by rw [Dj,hl]),AP,Avo hby,show 64*(i+1) - 64*i=64 by omega,<-TBI];exact ih (i+1) m (by omega)
theorem RBh (h:IW) (r:List Int) (hr:r.length<64):∀ (j i m:Nat),i+j=(119 - r.length) % 64->Aq2 (m+j+1) (.c0 h (r++128::List.replicate i 0))=Aq2 m (.c1 (AV (8*h.fCount)) 7 h (r++128::List.replicate ((119 - r.length) % 64) 0)):=by
 intro j;induction j with
 | zero=>
  grind [Aq2,Uw]
 | succ j ih=>
  intro i m hi;rw [show m+(j+1)+1=(m+j+1)+1 by omega,Aq2];simp only [Uw,mk];rw [AL (by grind),AL (by grind)];have e:(r++128::List.replicate i (0:Int))++[0]=r++128::List.replicate (i+1) 0:=by simp [List.replicate_succ']
  grind
theorem SBh {r:Reg} (hr:r.ok) {s:AA} {n:Nat} (hs:s.size=n % 64) (hn:n<=1000000000):LAi ⟨ofBytes (GI r.l),s,(n:Int)⟩=some (ofBytes (GI (comps ((s.size+(Hu n).length) / 64) r (bs s++Hu n)).l)):=by
 have e0:WH ⟨ofBytes (GI r.l),s,(n:Int)⟩=some true:=PBI (by rfl) (by grind) (by grind) (by simp_all);have hl:=bs_len s
 obtain ⟨m,hm⟩:∃ m,AY=((m+((s.size+(Hu n).length) / 64)+1+1+Uu 8)+((119 - (bs s).length) % 64)+1):=⟨AY - (((s.size+(Hu n).length) / 64)+1+1+Uu 8+((119 - (bs s).length) % 64)+1),by
  have:=FM (n:=1000) (by omega);grind [QAp,Uu]⟩
 have hw:AV (8*(n:Int))=8*(n:Int):=A8 (by omega) (by omega);have hrep:(bs s++128::List.replicate ((119 - (bs s).length) % 64) 0)++dK (8*(n:Int)) 8=bs s++Hu n:=by grind [PBh,Hu]
 rw [LAi,UAu,mk,e0,AP,BF (by rfl),AL (by grind),lg,AL (by grind),hm];have h0:=RBh ⟨ofBytes (GI r.l),s,(n:Int)⟩ (bs s) (by omega) ((119 - (bs s).length) % 64) 0 (m+((s.size+(Hu n).length) / 64)+1+1+Uu 8) (by omega);rw [List.replicate_zero] at h0;rw [h0,show (7:Int)=((8:Nat):Int) - 1 from rfl];simp only [hw];rw [OBh _ _ (by omega) (by omega) 8 _ _ (by omega) (by grind),hrep,Aq2];simp only [Uw,mk];rw [BF (by simp),UBI hr,AP,SBI,AP];have hb:AsE (bs s++Hu n):=fun x hx=>by
  rcases List.mem_append.1 hx with hx | hx
  ·exact Jj s x hx
  ·exact MA8 n x hx
 have hlen:(bs s++Hu n).length=64*((s.size+(Hu n).length) / 64):=by grind [XBg]
 exact QBh r hr _ hb _ hlen (by grind [QAp]) ((s.size+(Hu n).length) / 64) 0 m (by omega)
theorem TBh (b:List Int):comps ((b.length+(Hu b.length).length) / 64) Aqw (b++Hu b.length)=comps ((b.length % 64+(Hu b.length).length) / 64) (comps (b.length / 64) Aqw b) (b.drop (64*(b.length / 64))++Hu b.length):=by rw [show (b.length+(Hu b.length).length) / 64=b.length / 64+(b.length % 64+(Hu b.length).length) / 64 by omega,JBI,TBg _ _ _ _ (by omega),List.drop_append_of_le_length (by omega)]
theorem LV {s:AA} (hs:s.size<=1000000000):JB s=some (EK s):=by
 have h1:(s.extract (64*(s.size / 64)) s.size).size=s.size % 64:=by simp;omega
 have h:=SBh (dF dG (s.size / 64) (bs s)) (s:=s.extract (64*(s.size / 64)) s.size) h1 hs;rw [Ap3,h1,List.take_of_length_le (by simp [bs_len])] at h;rw [JB,VAu,mk,ZBg,AP,LBh hs,AP,h,AP,EK,Ap6,TBh,bs_len]
def Nb:Bo:=⟨EK ⟨#[]⟩,0,[],0,ofBytes (List.replicate 32 0),0⟩
theorem vJ:WJ=some Nb:=by rw [WJ,WAu,mk,LV (by decide),AP,show (32:Int)=((32:Nat):Int) from rfl,ZBH (by omega),AP];rfl
def SN (n:Int):List Int:=if n > 127 then (128+n % 128)::SN (n / 128) else [w8 n]
termination_by n.toNat
decreasing_by omega
theorem VBI:∀ (k:Nat) (n:Int),n<128 ^ k->(SN n).length<=max k 1:=by intro k;induction k<;>grind [SN]
theorem Apv {n:Int} (h:n<=9223372036854775807):(SN n).length<=10:=by have:=VBI 10 n (by omega);omega
theorem ArT (n:Int):1<=(SN n).length:=by grind [SN]
theorem WBI {n:Int} (h:n > 127) (h2:n<=9223372036854775807):AV (n.tdiv 128)=n / 128/\w8 (AV (n.tmod 128+128))=128+n % 128/\w8 (AV (128+n.tmod 128))=128+n % 128:=by grind [A8,Nq]
theorem Un {n:Int} (h:n<=9223372036854775807):Qg n=some (ofBytes (SN n)):=by
 have key:∀ (n:Int) (m:Nat) (out:List Int),n<=9223372036854775807->(SN n).length<=m->out.length+(SN n).length<=1000->oQ m (.c0 n out)=some (ofBytes (out++SN n)):=by
  intro n;induction n using SN.induct with
  | case1 n hn ih=>
   intro m out h1 h2 h3;rw [SN,if_pos hn] at h2 h3 ⊢;simp only [List.length_cons] at h2 h3;obtain ⟨m,rfl⟩:∃ k,m=k+1:=⟨m - 1,by omega⟩
   grind [WBI,oQ,MAi]
  | case2 n hn=>
   intro m out h1 h2 h3;rw [SN,if_neg hn] at h2 h3 ⊢;simp at h2 h3;obtain ⟨m,rfl⟩:∃ k,m=k+1:=⟨m - 1,by omega⟩
   grind [oQ,MAi]
 have hl:=Apv h;exact key n AY [] h (Nat.le_of_lt (FM (by omega))) (by grind)
def Ar9 (x:Af):Bool:=Ark x.fId 1 1000 && Ark x.Aj 1 3 && Ark x.fNext 0 16 && ((x.Aj == 2) || ((x.fNext == 0) && !x.Gw)) && ((x.Aj == 1) || !x.GH) && (bif x.Aj == 3 then decide ((x.fValue.size:Int)<=100) else (x.fValue.size:Int) == 32)
theorem tN (x:Af):WL x=some (Ar9 x):=by simp only [WL,XAu,mk,Hf,AP,Ar9,bne];grind
theorem MZ {x:Af} (h:Ar9 x=true):1<=x.Aj/\x.Aj<=3/\1<=x.fId/\x.fId<=1000/\0<=x.fNext/\x.fNext<=16/\x.fValue.size<=100:=by grind [Ar9,Aqo]
theorem UBh (b:Bool) (n:Int):YAu b n=some (bif b then n else 0):=by cases b <;> rfl
theorem OQ {n:Int} (h:0<=n) (h2:n<=255):Arq n=some (ofBytes [n]):=by
 have e:n.tmod 256=n:=by grind
 simp only [Arq,ZAu,mk,e];grind [Nq]
def Av1 (s:AA):AA:=ofBytes (SN (s.size:Int))++s
theorem VBh {s:AA} (h:s.size<=140737488351232):(Av1 s).size<=s.size+10:=by grind [Av1,Dj,Apv]
theorem WBh {s:AA} (h:s.size<=140737488351232):NAi s=some (Av1 s):=by simp only [NAi,APB,mk,Un (n:=(s.size:Int)) (by omega),AP];have:=Apv (n:=(s.size:Int)) (by omega);rw [show decide ((ofBytes (SN (s.size:Int))).size+s.size<=9223372036854775807)=true from Ba (by grind [Dj])];rfl
def Avz (x:Af):Int:=(bif x.CY then 1 else 0)+(bif x.CX then 2 else 0)+(bif x.Gw then 4 else 0)+(bif x.GH then 8 else 0)
theorem zF (x:Af):0<=Avz x/\Avz x<=15:=by grind [Avz]
theorem XBh (m:Nat) (a b c d:Bool):AGo (m+5) (.c0 0 4 0 [a,b,c,d])=some ((bif a then 1 else 0)+(bif b then 2 else 0)+(bif c then 4 else 0)+(bif d then 8 else 0)):=by cases a <;> cases b <;> cases c <;> cases d <;> kernel_rfl
theorem YBh (x:Af):BAm x=some (Avz x):=by
 obtain ⟨m,this⟩:∃ m,AY=m+5:=⟨AY - 5,rfl⟩
 unfold BAm UA1 mk;rw [this];exact XBh _ _ _ _ _
def Yd (x:Af):AA:=ofBytes (SN x.fId)++ofBytes [x.Aj]++ofBytes [Avz x]++Av1 x.fValue++ofBytes (SN x.fNext)
def Apu (x:Af):AA×Bool:=bif Ar9 x then (Yd x,true) else (⟨#[]⟩,false)
theorem OA8 {x:Af} (h:Ar9 x=true):(ofBytes (SN x.fId)).size<=10/\(Av1 x.fValue).size<=110/\(ofBytes (SN x.fNext)).size<=10:=by
 obtain ⟨_,_,_,h1,_,h2,h3⟩:=MZ h
 grind [Dj,Apv,VBh]
theorem XBI {x:Af} (h:Ar9 x=true):(Yd x).size<=200:=by grind [OA8,Yd,Dj]
theorem sV (x:Af):Ye x=some (Apu x):=by
 simp only [Ye,BAv,mk,tN,AP,Apu];cases h:Ar9 x;·rfl
 ·obtain ⟨k1,k2,k3,k4,k5,k6,k7⟩:=MZ h
  obtain ⟨z1,z2,z3⟩:=OA8 h
  have hf:=zF x;have e1:∀ n:Int,(ofBytes [n]).size=1:=fun n=>Dj _
  have ef:AV (AV (AV ((bif x.CY then (1:Int) else 0)+(bif x.CX then 2 else 0))+(bif x.Gw then 4 else 0))+(bif x.GH then 8 else 0))=Avz x:=by unfold Avz;cases x.CY <;> cases x.CX <;> cases x.Gw <;> cases x.GH <;> rfl
  simp only [UBh,AP,ef,Un (n:=x.fId) (by omega),OQ (n:=x.Aj) (by omega) (by omega),OQ hf.1 (by omega),WBh (s:=x.fValue) (by omega),Un (n:=x.fNext) (by omega),AEY,e1];simp only [DN,Aq,Ar]
  rw [show decide ((ofBytes (SN x.fId)).size+1<=9223372036854775807)=true from Ba (by omega),show decide ((ofBytes (SN x.fId)).size+1+1<=9223372036854775807)=true from Ba (by omega),
   show decide ((ofBytes (SN x.fId)).size+1+1+(Av1 x.fValue).size<=9223372036854775807)=true from Ba (by omega),show decide ((ofBytes (SN x.fId)).size+1+1+(Av1 x.fValue).size+(ofBytes (SN x.fNext)).size<=9223372036854775807)=true from Ba (by omega)]
  rfl
def AwP (x:Af):Bool:=(x.fId == 0) && ((x.Aj == 0) && ((x.CY == false) && ((x.CX == false) && ((x.Gw == false) && ((x.GH == false) && (((ByteArray.toList x.fValue) == (ByteArray.toList (⟨#[]⟩:AA))) && ((x.fNext == 0) && true)))))))
theorem YBI (x:Af):((x.fId == 0) && ((x.Aj == 0) && ((x.CY == false) && ((x.CX == false) && ((x.Gw == false) && ((x.GH == false) && (((ByteArray.toList x.fValue) == (ByteArray.toList (⟨#[]⟩:AA))) && ((x.fNext == 0) && true))))))))=AwP x:=rfl
def Ar0 (s:AA):Bool:=(ByteArray.toList s) == (ByteArray.toList (⟨#[]⟩:AA))
theorem PA8 (s:AA):((ByteArray.toList s) == (ByteArray.toList (⟨#[]⟩:AA)))=Ar0 s:=rfl
def noT:AA×Bool:=((⟨#[]⟩:AA),false)
def ArP (r:Ah):AA×Bool:=
 bif r.Aj == 1 then (bif (r.fText.size:Int) == 32 && r.DR == 0 && AwP r.Ag then (ofBytes [1]++r.fText,true) else noT)
 else bif r.Aj == 2 then (bif Ar0 r.fText && AwP r.Ag && Ark r.DR 0 3 then (ofBytes [2]++ofBytes (SN r.DR),true) else noT)
 else bif r.Aj == 3 then (bif (Apu r.Ag).2 && Ar0 r.fText && r.DR == 0 then (ofBytes [3]++(Apu r.Ag).1,true) else noT)
 else bif r.Aj == 4 then (bif Ar0 r.fText && AwP r.Ag && Ark r.DR 1 1000 then (ofBytes [4]++ofBytes (SN r.DR),true) else noT)
 else noT
theorem SAp {n a b:Int} (hb:b<=1000) (h:Ark n a b=true) (k:Int):(ofBytes [k]).size+(ofBytes (SN n)).size<=9223372036854775807:=by grind [Aqo,Apv,Dj]
theorem ZBI {x:Af} (h:(Apu x).2=true) (k:Int):(ofBytes [k]).size+(Apu x).1.size<=9223372036854775807:=by grind [Apu,XBI,Dj]
theorem dL (r:Ah):dM r=some (ArP r):=by
 have h1:(⟨#[1]⟩:AA)=ofBytes [1]:=rfl;have h2:(⟨#[2]⟩:AA)=ofBytes [2]:=rfl;have h3:(⟨#[3]⟩:AA)=ofBytes [3]:=rfl;have h4:(⟨#[4]⟩:AA)=ofBytes [4]:=rfl;simp only [dM,CAv,mk,Hf,sV,AP,YBI,h1,h2,h3,h4];simp only [PA8,ArP];cases r.Aj == 1
 ·simp only [Aq];cases r.Aj == 2
  ·simp only [Aq];cases r.Aj == 3
   ·simp only [Aq];cases r.Aj == 4;·rfl
    ·cases Ar0 r.fText <;> cases AwP r.Ag <;> (try rfl);cases h:Ark r.DR 1 1000;·rfl
     ·have h':=h;rw [Aqo] at h';simp only [Ar,Un (n:=r.DR) (by omega),AP,Bool.and_self,Ba (SAp (by omega) h 4)]
   ·cases h:(Apu r.Ag).2;·rfl
    ·cases Ar0 r.fText <;> cases r.DR == 0 <;> (try rfl);simp_all [ZBI]
  ·cases Ar0 r.fText <;> cases AwP r.Ag <;> (try rfl);cases h:Ark r.DR 0 3;·rfl
   ·have h':=h;rw [Aqo] at h';simp only [Ar,Un (n:=r.DR) (by omega),AP,Bool.and_self,Ba (SAp (by omega) h 2)]
 ·cases h:(r.fText.size:Int) == 32 <;> cases r.DR == 0 <;> cases AwP r.Ag <;> (try rfl);grind [Dj]
def rise (last:Int):Int->List Af->Bool
 | _,[]=>true
 | p,x::xs=>Ar9 x && (!decide (x.fId > last) && (!decide (p>=x.fId) && rise last x.fId xs))
def Po (l:List Af):Nat->Int
 | 0=>0
 | i+1=>((l[i]?).map (·.fId)).getD 0
theorem QA8 {l:List Af} {i:Nat} (hi:i<l.length):Po l (i+1)=l[i].fId:=by simp [Po,hi]
theorem AXi {l:List Af} {last:Int} {i:Nat} (hi:i<l.length):rise last (Po l i) (l.drop i)=(Ar9 l[i] && (!decide (l[i].fId > last) && (!decide (Po l i>=l[i].fId) && rise last (Po l (i+1)) (l.drop (i+1))))):=by grind [drop_at,rise,QA8]
def G9 (b:Bo):Bool:=(b.Bv.size:Int) == 32 && ((b.Dh.size:Int) == 32 && (Ark b.DU 0 3 && (decide ((b.AZ.length:Int)<=8) && (Ark b.BM 0 1000 && (Ark b.fCount 0 10000 && rise b.BM 0 b.AZ)))))
theorem ZBh {b:Bo} (hb:b.AZ.length<=140737488351232):∀ m i,i<=b.AZ.length->b.AZ.length - i<m->Yf m (.c0 i b)=some (rise b.BM (Po b.AZ i) (b.AZ.drop i)):=fun m i h1 h2=>
 PV (A:=Unit) (n:=b.AZ.length) (Lp:=Yf) (st:=fun i _=>.c0 i b) (Inv:=fun _ _=>True) (out:=fun i _=>some (rise b.BM (Po b.AZ i) (b.AZ.drop i)))
  (fun m _ _=>by
   simp only [Yf,PAi,mk];rw [show decide ((b.AZ.length:Int)<(b.AZ.length:Int))=false from D6 (by omega),List.drop_of_length_le (Nat.le_refl _)];rfl)
  (fun m i _ hi _=>by
   have hw:AV ((i:Int)+1)=((i+1:Nat):Int):=by grind [A8]
   simp only [AXi hi];simp only [Yf,PAi,mk,BR,getD_at hi,tN,AP,hw];rw [show decide ((i:Int)<(b.AZ.length:Int))=true from Ba (by omega),show decide ((0:Int)<=(i:Int))=true from Ba (by omega)];simp only [Bool.and_self,Ar];cases h1:Ar9 b.AZ[i];·simp
   ·cases h2:decide (b.AZ[i].fId > b.BM)
    ·by_cases h0:i=0;·subst h0;refine .inr ⟨(),rfl,trivial,?_⟩;rw [show decide (Po b.AZ 0>=b.AZ[0].fId)=false from D6 (by have:=(MZ h1).2.2.1;grind [Po])];rfl
     ·obtain ⟨j,rfl⟩:∃ j,i=j+1:=⟨i - 1,by omega⟩
      have hj:AV (((j+1:Nat):Int) - 1)=(j:Int):=by grind [A8]
      have hjl:j<b.AZ.length:=by omega
      rw [QA8 hjl];simp only [hj,BR,getD_at hjl,DN,Bool.not_false,Aq,Bool.true_and];rw [show decide (((j+1:Nat):Int) > 0)=true from Ba (by omega),show decide ((0:Int)<=(j:Int))=true from Ba (by omega),show decide ((j:Int)<(b.AZ.length:Int))=true from Ba (by omega)];simp only [Bool.and_self,Ar];cases h3:decide (b.AZ[j].fId>=b.AZ[j+1].fId);all_goals simp
    simp) m i () h1 h2 trivial
theorem aG {b:Bo} (hb:b.AZ.length<=140737488351232):dN b=some (G9 b):=by have h0:Yf AY (.c0 0 b)=some (rise b.BM 0 b.AZ):=ZBh hb AY 0 (DJ _) (FM (by omega));simp only [dN,EAv,mk,Hf,AP,G9,bne,h0];grind
theorem RA8 {b:Bo} (h:b.AZ.length<=2932031007317):Yg b=some b:=by rw [Yg,FAv,mk,AL (by grind)];try rfl
def Aqg (xs:List Af) (t:Int):Option Af:=xs.find? fun x=>x.fId == t
def YA:Af:=⟨0,0,false,false,false,false,⟨#[]⟩,0⟩
theorem kF {b:Bo} {t:Int} (h:b.AZ.length<=140737488351232):Ux b t=some (match Aqg b.AZ t with | some x=>(x,true) | none=>(YA,false)):=by
 have key:∀ m i,i<=b.AZ.length->b.AZ.length - i<m->dP m (.c0 t i b YA)=some (match Aqg (b.AZ.drop i) t with | some x=>(x,true) | none=>(YA,false)):=fun m i h1 h2=>
  PV (A:=Unit) (n:=b.AZ.length) (Lp:=dP) (st:=fun i _=>.c0 t i b YA) (Inv:=fun _ _=>True) (out:=fun i _=>some (match Aqg (b.AZ.drop i) t with | some x=>(x,true) | none=>(YA,false)))
   (fun m _ _=>by simp [dP,QAi,mk,Aqg,YA])
   (fun m i _ hi _=>by
    have hw:AV ((i:Int)+1)=((i+1:Nat):Int):=by grind [A8]
    simp only [dP,QAi,mk,BR,getD_at hi,hw,drop_at hi,Aqg,List.find?_cons];cases hq:b.AZ[i].fId == t;all_goals simp_all) m i () h1 h2 trivial
 have h0:=key AY 0 (DJ _) (FM (by omega));exact h0
theorem lM {r:Ah} (h:(ArP r).2=true):(r.Aj=1/\r.fText.size=32)\/(r.Aj=2/\0<=r.DR/\r.DR<=3)\/(r.Aj=3/\Ar9 r.Ag=true)\/(r.Aj=4/\1<=r.DR/\r.DR<=1000):=by
 rw [ArP] at h;by_cases h1:r.Aj=1
 ·rw [show (r.Aj == 1)=true by simp_all,Ar] at h;cases hc:((r.fText.size:Int) == 32 && r.DR == 0 && AwP r.Ag)
  ·rw [hc] at h;cases h
  grind
 rw [show (r.Aj == 1)=false by simp_all,Aq] at h;by_cases h2:r.Aj=2
 ·rw [show (r.Aj == 2)=true by simp_all,Ar] at h;cases hc:(Ar0 r.fText && AwP r.Ag && Ark r.DR 0 3)
  ·rw [hc] at h;cases h
  simp_all [Aqo]
 rw [show (r.Aj == 2)=false by simp_all,Aq] at h;by_cases h3:r.Aj=3
 ·rw [show (r.Aj == 3)=true by simp_all,Ar] at h;cases hc:((Apu r.Ag).2 && Ar0 r.fText && r.DR == 0)
  ·rw [hc] at h;cases h
  grind [Apu]
 rw [show (r.Aj == 3)=false by simp_all,Aq] at h;by_cases h4:r.Aj=4
 ·rw [show (r.Aj == 4)=true by simp_all,Ar] at h;cases hc:(Ar0 r.fText && AwP r.Ag && Ark r.DR 1 1000)
  ·rw [hc] at h;cases h
  simp_all [Aqo]
 rw [show (r.Aj == 4)=false by simp_all] at h;cases h
theorem V8 (r:Ah):(ArP r).1.size<=300:=by
 rw [ArP];have one:∀ n:Int,(ofBytes [n]).size=1:=fun n=>by rfl
 cases hk1:(r.Aj == 1)
 ·rw [Aq];cases hk2:(r.Aj == 2)
  ·rw [Aq];cases hk3:(r.Aj == 3)
   ·rw [Aq];cases hk4:(r.Aj == 4)
    ·exact DJ _
    ·rw [Ar];cases hc:(Ar0 r.fText && AwP r.Ag && Ark r.DR 1 1000)
     ·exact DJ _
     grind [Aqo,Apv,Dj]
   ·rw [Ar];cases hc:((Apu r.Ag).2 && Ar0 r.fText && r.DR == 0)
    ·exact DJ _
    grind [Apu,XBI]
  ·rw [Ar];cases hc:(Ar0 r.fText && AwP r.Ag && Ark r.DR 0 3)
   ·exact DJ _
   grind [Aqo,Apv,Dj]
 ·rw [Ar];cases hc:((r.fText.size:Int) == 32 && r.DR == 0 && AwP r.Ag)
  ·exact DJ _
  grind
def NK:List Af->Int->Nat->Option Nat
 | [],_,_=>none
 | x::xs,t,i=>if x.fId == t then some i else NK xs t (i+1)
theorem BBJ (t:Int):∀ (xs:List Af) (i:Nat),match NK xs t i with | some j=>i<=j/\j<i+xs.length/\Aqg xs t=xs[j - i]? | none=>Aqg xs t=none:=by intro xs;induction xs<;>grind [NK,Aqg]
theorem G7 {b:Bo}:G9 b=true↔b.Bv.size=32/\b.Dh.size=32/\(0<=b.DU/\b.DU<=3)/\b.AZ.length<=8/\(0<=b.BM/\b.BM<=1000)/\(0<=b.fCount/\b.fCount<=10000)/\rise b.BM 0 b.AZ=true:=by grind [G9,Aqo]
theorem ArI {last p:Int} {x:Af} {xs:List Af}:rise last p (x::xs)=true↔Ar9 x=true/\x.fId<=last/\p<x.fId/\rise last x.fId xs=true:=by simp [rise]
theorem AqL {last:Int}:∀ {xs:List Af} {p:Int},rise last p xs=true->∀ x ∈ xs,p<x.fId/\x.fId<=last/\Ar9 x=true
 | [],_,_,x,hx=>by cases hx
 | y::ys,p,h,x,hx=>by
  obtain ⟨h1,h2,h3,h4⟩:=ArI.1 h
  rcases List.mem_cons.1 hx with rfl | hx
  ·simp_all
  ·have:=AqL h4 x hx;grind
theorem CBJ {last last2:Int} (hl:last<=last2):∀ {xs:List Af} {p p2:Int},p2<=p->rise last p xs=true->rise last2 p2 xs=true
 | [],_,_,_,_=>rfl
 | y::ys,p,p2,hp,h=>by
  obtain ⟨h1,h2,h3,h4⟩:=ArI.1 h
  exact ArI.2 ⟨h1,by omega,by omega,CBJ hl (Int.le_refl _) h4⟩
def AwK (x:Af) (ts:List Af):List Af:=ts.filter fun t=>decide (t.fId<x.fId)
def TU (x:Af) (ts:List Af):List Af:=ts.filter fun t=>decide (t.fId > x.fId)
def putAt (ts:List Af) (x:Af):List Af:=AwK x ts++x::TU x ts
def without (ts:List Af) (id:Int):List Af:=ts.filter fun t=>t.fId != id
theorem AiC {last:Int} {x:Af}:∀ {xs:List Af} {p:Int},x.fId<=p->rise last p xs=true->AwK x xs=[]/\TU x xs=xs/\without xs x.fId=xs:=by intro xs p hp h;have ha:=AqL h;refine ⟨List.filter_eq_nil_iff.2 fun t ht=>?_,List.filter_eq_self.2 fun t ht=>?_,List.filter_eq_self.2 fun t ht=>?_⟩;all_goals grind
theorem DBJ {id:Int}:∀ {xs:List Af} {i j:Nat},NK xs id i=some j->i<=j/\∃ x ∈ xs,x.fId=id:=by intro xs;induction xs<;>grind [NK]
theorem SA8 {last:Int} {x:Af}:∀ {xs:List Af} {p:Int} {i j:Nat},rise last p xs=true->NK xs x.fId i=some j->xs.set (j - i) x=putAt xs x/\(xs.take (j - i)++xs.drop (j - i+1))=without xs x.fId:=by
 intro xs;induction xs with
 | nil=>intro p i j _ h;cases h
 | cons y ys ih=>
  intro p i j hr h;obtain ⟨h1,h2,h3,h4⟩:=ArI.1 hr
  rw [NK] at h;split at h
  ·rename_i hy;have hy:=beq_iff_eq.1 hy;cases h;obtain ⟨f1,f2,f3⟩:=AiC (x:=x) (by omega) h4
   grind [putAt,AwK,TU,without]
  ·rename_i hy;obtain ⟨h5,z,h6,h7⟩:=DBJ h
   have h8:=AqL h4 z h6;grind [putAt,AwK,TU,without]
theorem EBJ {last:Int} {x:Af} {xs:List Af} {p:Int} (h:rise last p xs=true) (hx:last<x.fId):putAt xs x=xs++[x]/\Aqg xs x.fId=none:=by have ha:=AqL h;grind [putAt,AwK,TU,List.filter_eq_self,List.filter_eq_nil_iff,Aqg]
theorem BBi {last:Int} {x:Af} (hx:Ar9 x=true) (hl:last<x.fId):∀ {xs:List Af} {p:Int},p<x.fId->rise last p xs=true->rise x.fId p (xs++[x])=true:=by
 intro xs;induction xs with
 | nil=>intro p hp _;exact ArI.2 ⟨hx,Int.le_refl _,hp,rfl⟩
 | cons y ys ih=>
  grind [ArI]
theorem CBi {last:Int} {x:Af} (hx:Ar9 x=true):∀ {xs:List Af} {p:Int} {i j:Nat},rise last p xs=true->NK xs x.fId i=some j->rise last p (xs.set (j - i) x)=true:=by
 intro xs;induction xs with
 | nil=>simp_all
 | cons y ys ih=>
  intro p i j hr h;obtain ⟨h1,h2,h3,h4⟩:=ArI.1 hr
  rw [NK] at h;split at h;·simp_all [ArI]
  ·have h5:=(DBJ h).1;have e:j - i=(j - (i+1))+1:=by omega
   simp_all [ArI]
theorem EBi {last:Int} (id:Int):∀ {xs:List Af} {p:Int},rise last p xs=true->rise last p (without xs id)=true:=by
 intro xs;induction xs with
 | nil=>intro p _;rfl
 | cons y ys ih=>
  intro p h;obtain ⟨h1,h2,h3,h4⟩:=ArI.1 h
  rw [without,List.filter_cons];split;·exact ArI.2 ⟨h1,h2,h3,ih h4⟩
  ·exact CBJ (Int.le_refl _) (by omega) (ih h4)
def grown (x y:Af):Bool:=y.Aj == x.Aj && ((bs y.fValue == bs x.fValue) && (y.Gw == x.Gw && (y.GH == x.GH && (decide (x.fNext<=y.fNext) && ((y.CY || !x.CY) && (y.CX || !x.CX))))))
def oU:Bo:=⟨⟨#[]⟩,0,[],0,⟨#[]⟩,0⟩
def Ug (b:Bo) (x:Af):Option (List Af×Int):=match Aqg b.AZ x.fId with
 | some old=>bif grown old x then some (putAt b.AZ x,b.BM) else none
 | none=>bif x.fId != b.BM+1 || decide ((b.AZ.length:Int)>=8) then none else some (b.AZ++[x],x.fId)
def RZ (b:Bo) (r:Ah):Bo×Bool:=
 bif !(G9 b) || (!(ArP r).2 || decide (b.fCount>=10000)) then (oU,false)
 else bif r.Aj == 1 then (⟨r.fText,0,b.AZ,b.BM,EK (b.Dh++(ArP r).1),b.fCount+1⟩,true)
 else bif r.Aj == 2 then (⟨b.Bv,r.DR,b.AZ,b.BM,EK (b.Dh++(ArP r).1),b.fCount+1⟩,true)
 else bif r.Aj == 3 then (match Ug b r.Ag with
  | some p=>(⟨b.Bv,b.DU,p.1,p.2,EK (b.Dh++(ArP r).1),b.fCount+1⟩,true)
  | none=>(oU,false))
 else (match Aqg b.AZ r.DR with
  | some _=>(⟨b.Bv,b.DU,without b.AZ r.DR,b.BM,EK (b.Dh++(ArP r).1),b.fCount+1⟩,true)
  | none=>(oU,false))
theorem TA8 {xs:List Af} {id:Int}:(∃ x j,Aqg xs id=some x/\NK xs id 0=some j/\j<xs.length/\xs[j]?=some x/\x.fId=id)\/(Aqg xs id=none/\NK xs id 0=none):=by grind [BBJ,Aqg]
theorem Arn {b:Bo} {r:Ah} (h:(RZ b r).2=true):G9 b=true/\(ArP r).2=true/\b.fCount<10000/\G9 (RZ b r).1=true/\(RZ b r).1.fCount=b.fCount+1/\(RZ b r).1.Dh=EK (b.Dh++(ArP r).1):=by
 rw [RZ] at h ⊢;cases h1:G9 b;·simp_all
 cases h2:(ArP r).2;·simp_all
 by_cases h3:b.fCount>=10000;·simp_all
 rw [h1,h2,D6 h3] at h;rw [D6 h3];simp only [DN,Bool.or_false,Aq] at h ⊢;obtain ⟨b1,b2,b3,b4,b5,b6,b7⟩:=G7.1 h1
 refine ⟨trivial,trivial,by omega,?_⟩;have hd:∀ s,(EK s).size=32:=Qh;rcases lM h2 with ⟨hk,hz⟩ | ⟨hk,hz⟩ | ⟨hk,hz⟩ | ⟨hk,hz⟩
 ·grind [G7]
 ·grind [G7]
 ·rw [hk] at h ⊢;simp only [show ((3:Int) == 1)=false from rfl,show ((3:Int) == 2)=false from rfl,show ((3:Int) == 3)=true from rfl,Ar,Aq] at h ⊢;rw [Ug] at h ⊢;rcases TA8 (xs:=b.AZ) (id:=r.Ag.fId) with ⟨x,j,t1,t2,t3,t4,t5⟩ | ⟨t1,t2⟩
  ·rw [t1] at h ⊢;simp only at h ⊢;cases hg:grown x r.Ag;·simp_all
   ·have e:=(SA8 b7 t2).1;rw [Nat.sub_zero] at e;have hrs:=CBi hz b7 t2;grind [G7]
  ·rw [t1] at h ⊢;simp only at h ⊢;cases hg:(r.Ag.fId != b.BM+1 || decide ((b.AZ.length:Int)>=8))
   ·rw [Bool.or_eq_false_iff,bne_eq_false_iff_eq,decide_eq_false_iff_not] at hg;have hid:r.Ag.fId<=1000:=by simp_all [Ar9,Aqo]
    exact ⟨G7.2 ⟨b1,hd _,b3,by grind,by grind,by grind,BBi hz (by omega) (by omega) b7⟩,rfl,rfl⟩
   simp_all
 grind [G7,without,EBi]
theorem Vd (a b:AA):(a.toList == b.toList)=(bs a == bs b):=by grind [toList_inj,Aq3]
theorem FBi (x y:Af):zG x y=some (grown x y):=by
 rw [zG,HAv,mk,grown,Vd,show (bs x.fValue == bs y.fValue)=(bs y.fValue == bs x.fValue) by grind,
  show (x.Aj == y.Aj)=(y.Aj == x.Aj) by grind]
 grind
theorem UA8 {f:Af->Bool} {l:List Af} {i:Nat} (h:i<l.length):(l.take (i+1)).filter f=(l.take i).filter f++(bif f l[i] then [l[i]] else []):=by grind [take_at]
theorem FBJ {l:List Af} {x:Af} (hl:l.length<=1000000000):zH l x=some (putAt l x):=by
 have k1:∀ (j i m:Nat),i+j=l.length->Ap9 (m+j) (.c1 l (i:Int) x (AwK x l++[x]++(l.take i).filter (fun t=>decide (t.fId > x.fId))))=Ap9 m (.c1 l (l.length:Int) x (AwK x l++[x]++TU x l)):=by
  intro j;induction j with
  | zero=>(intro i m h;obtain rfl:i=l.length:=by omega);rw [List.take_length];rfl
  | succ j ih=>
   intro i m h;have hi:i<l.length:=by omega
   have e:AV ((i:Int)+1)=((i+1:Nat):Int):=by grind [A8]
   have h2:=ih (i+1) m (by omega);rw [UA8 hi] at h2;have hf1:(AwK x l).length<=l.length:=List.length_filter_le ..;have hf2:((l.take i).filter (fun t=>decide (t.fId > x.fId))).length<=i:=Nat.le_trans (List.length_filter_le ..) (by grind);rw [show m+(j+1)=(m+j)+1 by omega,Ap9];simp only [oV,mk,e,BR,getD_at hi];grind
 have k0:∀ (j i m:Nat),i+j=l.length->Ap9 (m+1+l.length+1+j) (.c0 l (i:Int) x ((l.take i).filter (fun t=>decide (t.fId<x.fId))))=some (putAt l x):=by
  intro j;induction j with
  | zero=>
   intro i m h;obtain rfl:i=l.length:=by omega
   have hf1:(AwK x l).length<=l.length:=List.length_filter_le ..;rw [List.take_length,show l.filter (fun t=>decide (t.fId<x.fId))=AwK x l from rfl,Nat.add_zero,Ap9];simp only [oV,mk];rw [BF (by simp),AL (by grind)];have h2:=k1 l.length 0 (m+1) (by omega);grind [Ap9,oV,putAt]
  | succ j ih=>
   intro i m h;have hi:i<l.length:=by omega
   have e:AV ((i:Int)+1)=((i+1:Nat):Int):=by grind [A8]
   have h2:=ih (i+1) m (by omega);rw [UA8 hi] at h2;grind [Ap9,oV,BR]
 obtain ⟨m,hm⟩:∃ m,AY=m+1+l.length+1+l.length:=⟨AY - (2*l.length+2),by have:=FM (n:=2*l.length+2) (by omega);omega⟩
 rw [zH,IAv,hm];have h:=k0 l.length 0 m (by omega);assumption
theorem TAp {b:Bo} {r:Ah} (hb:b.AZ.length<=140737488351232):Arj b r=some (RZ b r):=by
 have hok:(RZ b r).2=true->_:=Arn (b:=b) (r:=r);rw [Arj,JAv,mk,dL,AP,aG hb,AP];rw [RZ] at hok ⊢;cases h1:G9 b;·rfl
 cases h2:(ArP r).2;·rfl
 obtain ⟨b1,b2,b3,b4,b5,b6,b7⟩:=G7.1 h1
 by_cases h3:b.fCount>=10000
 ·have h3':(b.fCount == 10000)=true:=by grind
  simp only [Ba h3,h3',DN,Bool.or_true,Bool.false_or,Aq,Ar];rfl
 have hz:=V8 r;have hw:AV (b.fCount+1)=b.fCount+1:=A8 (by omega) (by omega);have hdig:=LV (s:=b.Dh++(ArP r).1) (by grind);have hsz:decide (b.Dh.size+(ArP r).1.size<=9223372036854775807)=true:=by grind
 have h3':(b.fCount == 10000)=false:=by grind
 rw [h1,h2,D6 h3] at hok;simp only [DN,Bool.or_self,Aq] at hok;simp only [D6 h3,h3',DN,Bool.or_self,Aq,RA8 (show b.AZ.length<=2932031007317 by omega),hdig,hsz,hw,AP,Ar];rcases lM h2 with ⟨hk,hc⟩ | ⟨hk,hc⟩ | ⟨hk,hc⟩ | ⟨hk,hc⟩
 ·grind [aG]
 ·grind [aG]
 ·rw [hk] at hok ⊢;simp only [show ((3:Int) == 1)=false from rfl,show ((3:Int) == 2)=false from rfl,show ((3:Int) == 3)=true from rfl,Ar,Aq] at hok ⊢;have hid:=(MZ hc)
  have hpl:(putAt b.AZ r.Ag).length<=1000:=by grind [AwK,TU,putAt]
  rw [kF hb,AP];rw [Ug] at hok ⊢;cases ht:Aqg b.AZ r.Ag.fId with
  | some o=>
   rw [ht] at hok;simp only [Ar,FBi,AP,DN,Aq,FBJ (show b.AZ.length<=1000000000 by omega)] at hok ⊢;cases hg:grown o r.Ag;·rfl
   grind [aG]
  | none=>
   rw [ht] at hok;have hw2:AV (b.BM+1)=b.BM+1:=A8 (by omega) (by omega);simp only [Aq,Bool.not_false,Ar,hw2,FBJ (show b.AZ.length<=1000000000 by omega),AP] at hok ⊢;cases hg:(r.Ag.fId != b.BM+1)
   ·rw [hg] at hok;rw [bne_eq_false_iff_eq] at hg;have hpn:=(EBJ b7 (show b.BM<r.Ag.fId by omega)).1;by_cases h8:(b.AZ.length:Int)>=8;·rw [Ba h8,Aq,AL (by grind)];rfl
    grind [aG]
   ·rfl
 ·rw [hk] at hok ⊢;simp only [show ((4:Int) == 1)=false from rfl,show ((4:Int) == 2)=false from rfl,show ((4:Int) == 3)=false from rfl,show ((4:Int) == 4)=true from rfl,Ar,Aq] at hok ⊢;rw [kF hb,AP];cases ht:Aqg b.AZ r.DR with
  | none=>rfl
  | some o=>
   rw [ht] at hok;simp only [DN,Aq] at hok ⊢;have h5:=(hok trivial).2.2.2.1;have key:∀ (j i m:Nat),i+j=b.AZ.length->oW (m+j+1) (.c0 (ArP r).1 (i:Int) b r ⟨#[]⟩ 0 0 ⟨#[]⟩ 0 b.Bv b.DU b.BM b.Dh b.fCount ((b.AZ.take i).filter (fun t=>t.fId != r.DR)) [] b.AZ)=some (⟨b.Bv,b.DU,without b.AZ r.DR,b.BM,EK (b.Dh++(ArP r).1),b.fCount+1⟩,true):=by
    intro j;induction j with
    | zero=>
     grind [without,List.take_length,oW,RAi,aG]
    | succ j ih=>
     intro i m hi;have hil:i<b.AZ.length:=by omega
     have e:AV ((i:Int)+1)=((i+1:Nat):Int):=by grind [A8]
     have h6:=ih (i+1) m (by omega);rw [UA8 hil] at h6;have hf2:((b.AZ.take i).filter (fun t=>t.fId != r.DR)).length<=i:=Nat.le_trans (List.length_filter_le ..) (by grind);rw [show m+(j+1)+1=(m+j+1)+1 by omega,oW];grind [RAi]
   obtain ⟨m,hm⟩:=gm (n:=b.AZ.length) (by omega)
   have h0:=key b.AZ.length 0 m (by omega);simp_all
def xb (x y:Int):Int:=w8 (((BitVec.toNat ((BitVec.ofInt (IntKind.bits IntKind.u8) x) ^^^ (BitVec.ofInt (IntKind.bits IntKind.u8) y))):Nat):Int)
theorem VA8 (x y:Int):w8 (((BitVec.toNat ((BitVec.ofInt (IntKind.bits IntKind.u8) x) ^^^ (BitVec.ofInt (IntKind.bits IntKind.u8) y))):Nat):Int)=xb x y:=rfl
theorem GBJ (x y:Int):0<=xb x y/\xb x y<=255:=by grind [xb,bJ]
theorem HBi {x:Int} (h:0<=x/\x<=255) (y:Int):xb (xb x y) y=x:=by
 have e:∀ (a b:BitVec 8),BitVec.ofInt 8 (((a ^^^ b).toNat:Nat):Int) ^^^ b=a:=by simp [BitVec.xor_assoc]
 have h8:∀ (a b:BitVec 8),w8 (((a ^^^ b).toNat:Nat):Int)=(((a ^^^ b).toNat:Nat):Int):=fun a b=>by grind [Nq]
 unfold xb;show w8 (((BitVec.ofInt 8 (w8 (((BitVec.ofInt 8 x ^^^ BitVec.ofInt 8 y).toNat:Nat):Int)) ^^^ BitVec.ofInt 8 y).toNat:Nat):Int)=x;rw [h8 (BitVec.ofInt 8 x),e,BitVec.toNat_ofInt,bJ];omega
def NJ (x:Int) (l:List Int):List Int:=l.map fun b=>xb b x
theorem UAp (x:Int) (l:List Int):(NJ x l).length=l.length:=by simp [NJ]
theorem VAp (x:Int) (l:List Int):AsE (NJ x l):=fun n hn=>by
 simp only [NJ,List.mem_map] at hn;obtain ⟨b,_,rfl⟩:=hn
 exact GBJ _ _
def AwH (k:List Int):List Int:=k++List.replicate (64 - k.length) 0
def Vz (k:List Int):List Int:=if 64<k.length then AwH (Ap6 k) else AwH k
theorem IBi (k:List Int):(Vz k).length=64:=by grind [Vz,AwH,MBI]
def Vy (k s:List Int):List Int:=Ap6 (NJ 92 (Vz k)++Ap6 (NJ 54 (Vz k)++s))
def bU (k s:AA):AA:=ofBytes (Vy (bs k) (bs s))
theorem HBJ (k s:List Int):(Vy k s).length=32:=MBI _
theorem WAp (k s:List Int):AsE (Vy k s):=NBI _
theorem IBJ (k s:AA):bs (bU k s)=Vy (bs k) (bs s):=Avo (WAp _ _)
theorem JBi {α:Type} (f:α->α) {l:List α} {i:Nat} (h:i<l.length):((l.take i).map f++l.drop i).set i (f l[i])=(l.take (i+1)).map f++l.drop (i+1):=by grind [drop_at,dA]
theorem KBi (k:List Int) {i:Nat}:(AwH k).getD i 0=k.getD i 0:=by grind [AwH]
theorem LBi (f:Int->Int) {l:List Int} (hl:l.length=64) {i:Nat} (h:i<64) (y:Int) (hy:y=f (l.getD i 0)):((l.take i).map f++List.replicate (64 - i) 0).set i y=(l.take (i+1)).map f++List.replicate (64 - (i+1)) 0:=by rw [show 64 - i=(64 - (i+1))+1 by omega,List.replicate_succ,dA (by grind),take_at (by omega),hy,getD_at (by omega),List.map_append,List.append_assoc];rfl
theorem MBi {k:AA} (hk:k.size<=64) (x:Int):dQ AY (.c0 k x (0:Int) (List.replicate (64:Int).toNat (0:Int)))=some (ofBytes (NJ x (AwH (bs k)))):=by
 have hl:(AwH (bs k)).length=64:=by simp_all [AwH,bs_len]
 have key:=PV (A:=Unit) (n:=64) (Lp:=dQ) (st:=fun i _=>.c0 k x (i:Int) (((AwH (bs k)).take i).map (fun b=>xb b x)++List.replicate (64 - i) 0)) (Inv:=fun _ _=>True) (out:=fun _ _=>some (ofBytes (NJ x (AwH (bs k)))))
  (fun m _ _=>by
   rw [dQ];simp only [SAi,mk];rw [BF (by simp),List.take_of_length_le (by omega),Nat.sub_self,List.replicate_zero,List.append_nil];rfl)
  (fun m i _ hi _=>.inr ⟨(),by
   have e:AV ((i:Int)+1)=((i+1:Nat):Int):=by grind [A8]
   have hlen:(((AwH (bs k)).take i).map (fun b=>xb b x)++List.replicate (64 - i) 0).length=64:=by grind
   have hm:(((AwH (bs k)).take i).map (fun b=>xb b x)).length=i:=by grind
   rw [dQ];simp only [SAi,mk,e,BR,List.length_set,hlen,VA8];grind [Ui,List.set_set,LBi,KBi,bs_len],trivial,rfl⟩)
 exact key AY 0 () (DJ _) (FM (by omega)) trivial
theorem JBJ {k:AA} (hk:k.size<=1000000000) (x:Int):TAi k x=some (ofBytes (NJ x (Vz (bs k)))):=by rw [TAi,LAv,mk];grind [LV,MBi,Qh,Vz,bs_len,RAp]
theorem KBJ {k s:AA} (hk:k.size<=900000000) (hs:s.size<=900000000):oZ k s=some (bU k s):=by have x1:=UAp 92 (Vz (bs k));have x2:=UAp 54 (Vz (bs k));have x3:=IBi (bs k);rw [oZ,MAv,mk,JBJ (by omega),AP,JBJ (by omega),AP,AL (by grind [Dj])];rw [LV (by grind [Dj]),AP,AL (by simp_all [Dj,Qh]),LV (by simp_all [Dj,Qh]),AP];rw [EK,Fa,RAp,Fa,Avo (VAp _ _),Avo (VAp _ _),bU,Vy]
def X8 (k v:List Int):Nat->List Int
 | 0=>[]
 | i+1=>X8 k v i++Vy k (109::(v++[(i:Int)]))
theorem X9 (k v:List Int) (i:Nat):(X8 k v i).length=32*i:=by induction i<;>grind [X8,HBJ]
theorem LBJ (k v:List Int) (i:Nat):AsE (X8 k v i):=by
 induction i with
 | zero=>intro n hn;cases hn
 | succ i ih=>
  intro n hn;rcases List.mem_append.1 hn with hn | hn
  ·exact ih n hn
  ·exact WAp _ _ n hn
def Arw (k v:List Int) (n:Nat):List Int:=(X8 k v ((n+31) / 32)).take n
theorem Ru (k v:List Int) (n:Nat):(Arw k v n).length=n:=by grind [Arw,X9]
theorem tC (k v:List Int) (n:Nat):AsE (Arw k v n):=fun x hx=>LBJ _ _ _ x (List.mem_of_mem_take hx)
def MB (num:Int) (n:Int):Bool:=Ark num 0 1000000000 && Ark n 0 8000
def Xh (k:AA) (num:Int) (n:Int):AA×Bool:=bif MB num n then (ofBytes (Arw (bs k) (SN num) n.toNat),true) else (⟨#[]⟩,false)
theorem Uk:∀ {n:Int},0<=n->AsE (SN n):=by
 intro n;induction n using SN.induct with
 | case1 n hn ih=>
  intro h x hx;rw [SN,if_pos hn] at hx;rcases List.mem_cons.1 hx with rfl | hx
  ·omega
  ·exact ih (by omega) x hx
 | case2 n hn=>
  intro h x hx;grind [SN,bJ]
theorem MBJ (k:AA) {num:Int} (hn:0<=num) (hn2:num<=1000000000) (i:Nat) (hi:i<=255) :
  bU k (((⟨#[109]⟩:AA)++ofBytes (SN num))++ofBytes [(i:Int)])=ofBytes (Vy (bs k) (109::(SN num++[(i:Int)]))):=by
 have e:bs (⟨#[109]⟩:AA)=[109]:=rfl;rw [bU,Fa,Fa,Avo (Uk hn),e,Avo (fun x hx=>by grind)];rfl
def J6 (a b:List Int):List Int:=List.zipWith xb a b
theorem bn {a b:List Int} (h:a.length<=b.length):(J6 a b).length=a.length:=by simp_all [J6]
theorem Ve (a b:List Int):AsE (J6 a b):=by
 intro n hn;rw [J6,List.mem_iff_getElem] at hn;obtain ⟨i,hi,rfl⟩:=hn
 simp [GBJ]
theorem WA8 {α:Type} (f:α->α->α):∀ (a b:List α),List.zipWith f a (b.take a.length)=List.zipWith f a b
 | [],_=>rfl
 | _::_,[]=>rfl
 | x::a,y::b=>by simp [WA8]
theorem NBJ {a b:List Int} {i:Nat} (h:i<a.length) (h2:i<b.length):(List.zipWith xb (a.take i) (b.take i)++a.drop i).set i (xb a[i] (b.getD i 0))=List.zipWith xb (a.take (i+1)) (b.take (i+1))++a.drop (i+1):=by rw [drop_at h,dA (by grind),take_at h,take_at h2,getD_at h2,List.zipWith_append (by grind),List.append_assoc];rfl
def PE (k:List Int) (num:Int) (s:List Int):List Int:=(Vy k (116::(SN num++s))).take 16
theorem nS (k:List Int) (num:Int) (s:List Int):(PE k num s).length=16:=by rfl
theorem Tv (k:List Int) (num:Int) (s:List Int):AsE (PE k num s):=fun x hx=>WAp _ _ x (List.mem_of_mem_take hx)
def NM (k:List Int) (num:Int) (s:List Int):List Int:=J6 s (Arw k (SN num) s.length)++PE k num (J6 s (Arw k (SN num) s.length))
def Si (k:AA) (num:Int) (s:AA):AA×Bool:=bif MB num s.size then (ofBytes (NM (bs k) num (bs s)),true) else (⟨#[]⟩,false)
def EM (k:AA) (num:Int) (t:AA):AA×Bool:=
 bif decide ((t.size:Int)<16) || !(MB num ((t.size:Int) - 16)) then (⟨#[]⟩,false)
 else bif PE (bs k) num ((bs t).take (t.size - 16)) == (bs t).drop (t.size - 16) then (ofBytes (J6 ((bs t).take (t.size - 16)) (Arw (bs k) (SN num) (t.size - 16))),true)
 else (⟨#[]⟩,false)
theorem iI {num n:Int}:MB num n=true↔(0<=num/\num<=1000000000)/\0<=n/\n<=8000:=by simp [MB,Aqo]
theorem OBJ {k:AA} {num n:Int} (hk:k.size<=900000000):zI k num n=some (Xh k num n):=by
 rw [zI,NAv,mk,Hf,AP,Xh,MB];cases h:Ark num 0 1000000000;·rfl
 ·rw [Aqo] at h;rw [BF (by rfl),Hf,AP];cases h2:Ark n 0 8000;·rfl
  ·rw [Aqo] at h2;rw [BF (by rfl),Bool.and_self,Ar];have hv:=Apv (n:=num) (by omega);have hvb:=Uk h.1
   have key:=PV (A:=Unit) (n:=(n.toNat+31) / 32) (Lp:=og) (st:=fun i _=>.c0 k num n (i:Int) (X8 (bs k) (SN num) i)) (Inv:=fun _ _=>True) (out:=fun _ _=>some (ofBytes (Arw (bs k) (SN num) n.toNat),true))
    (fun m _ _=>by
     rw [og];simp only [UAi,mk];rw [BF (by grind [X9]),AL (by grind [X9])];rfl)
    (fun m i _ hi _=>.inr ⟨(),by
     have e:AV ((i:Int)+1)=((i+1:Nat):Int):=by grind [A8]
     have h9:(⟨#[109]⟩:AA).size=1:=rfl;rw [og];simp only [UAi,mk,e];rw [AL (by grind [X9]),Un (by omega),AP,AL (by grind [Dj]),OQ (by omega) (by omega),AP,AL (by grind [Dj])];rw [KBJ hk (by grind [Dj]),AP,MBJ k h.1 h.2 i (by omega),lg,Avo (WAp _ _),AL (by rfl),AL (by grind [X9,HBJ])];rfl,trivial,rfl⟩)
   exact key AY 0 () (DJ _) (FM (by omega)) trivial
theorem PBJ {a b:AA} (ha:a.size<=140737488351232) (h:a.size<=b.size):zJ a b=some (ofBytes (J6 (bs a) (bs b))):=by
 have hl:=bs_len a;have hl2:=bs_len b
 have key:=PV (A:=Unit) (n:=(bs a).length) (Lp:=oh) (st:=fun i _=>.c0 b (i:Int) (List.zipWith xb ((bs a).take i) ((bs b).take i)++(bs a).drop i)) (Inv:=fun _ _=>True) (out:=fun _ _=>some (ofBytes (J6 (bs a) (bs b))))
  (fun m _ _=>by
   grind [oh,VAi,J6,WA8])
  (fun m i _ hi _=>.inr ⟨(),by
   have e:AV ((i:Int)+1)=((i+1:Nat):Int):=by grind [A8]
   have hlen:(List.zipWith xb ((bs a).take i) ((bs b).take i)++(bs a).drop i).length=(bs a).length:=by grind
   grind [oh,VAi,BR,VA8,Ui,NBJ],trivial,rfl⟩)
 rw [zJ,OAv,mk,AL (by grind),lg];exact key AY 0 () (DJ _) (FM (by omega)) trivial
theorem QBJ {k s:AA} {num:Int} (hk:k.size<=900000000) (hn:0<=num/\num<=1000000000) (hs:s.size<=800000000):zK k num s=some (ofBytes (PE (bs k) num (bs s))):=by have hv:=Apv (n:=num) (by omega);have h9:(⟨#[116]⟩:AA).size=1:=rfl;have e:bs (⟨#[116]⟩:AA)=[116]:=rfl;have h16:(16:Int).toNat=16:=rfl;rw [zK,PAv,mk,Un (by omega),AP,AL (by grind [Dj]),AL (by grind [Dj])];rw [KBJ hk (by grind [Dj]),AP,AL (by rfl)];refine congrArg some (Aq3 ?_);rw [Ap3,IBJ,h16,Avo (Tv _ _ _),Fa,Fa,e,Avo (Uk hn.1),PE,List.drop_zero,List.append_assoc];rfl
theorem RBJ {k s:AA} {num:Int} (hk:k.size<=900000000) (hs:s.size<=800000000):oq k num s=some (Si k num s):=by
 rw [oq,QAv,mk,OBJ hk,AP,Xh,Si];cases h:MB num s.size;·rfl
 ·have h':=iI.1 h;have hm:=Ru (bs k) (SN num) ((s.size:Int).toNat);have hl:=bs_len s;rw [Ar,Ar,BF (by rfl),PBJ (by omega) (by simp_all [Dj]),AP,Avo (tC _ _ _)];have hx:(J6 (bs s) (Arw (bs k) (SN num) (s.size:Int).toNat)).length=s.size:=by simp_all [bn]
  rw [QBJ hk h'.1 (by simp_all [Dj]),AP,Avo (Ve _ _),AL (by grind [Dj,nS])];refine congrArg (fun x=>some (x,true)) (Aq3 ?_)
  rw [Fa,Avo (Ve _ _),Avo (Tv _ _ _),Avo (fun x hx=>by
   rcases List.mem_append.1 hx with hx | hx
   ·exact Ve _ _ x hx
   ·exact Tv _ _ _ x hx),NM,hl]
  rfl
def bT (s:Int):Int:=if s % 2=1 then xr (s / 2) 3558460437 else s / 2
def bF:Nat->Int->Int
 | 0,s=>s
 | n+1,s=>bF n (bT s)
def lW (s:Int) (l:List Int):Int:=l.foldl (fun s b=>bF 8 (xr s b)) s
theorem NBi {s:Int} (h:R32 s):R32 (bT s):=by grind [bT,lV,R32]
theorem SBJ:∀ (n:Nat) {s:Int},R32 s->R32 (bF n s)
 | 0,_,h=>h
 | n+1,_,h=>SBJ n (NBi h)
theorem TBJ:∀ (l:List Int) {s:Int},R32 s->R32 (lW s l)
 | [],_,h=>h
 | b::l,s,_=>TBJ l (SBJ 8 (lV s b))
def Uj (l:List Int):Int:=lW 4294967295 l
theorem X5 (l:List Int):R32 (Uj l):=TBJ l (by unfold R32;omega)
theorem OBi (t:AA) (i:Nat) (hi:i<t.size) (ht:t.size<=140737488351232):∀ (j k m:Nat) (s:Int),k+j=8->R32 s->AsO (m+j+1) (.c1 s t (i:Int) (k:Int))=AsO m (.c0 (bF j s) t ((i+1:Nat):Int)):=by
 intro j;induction j with
 | zero=>
  intro k m s hk hs;have e:AV ((i:Int)+1)=((i+1:Nat):Int):=by grind [A8]
  rw [AsO];simp only [ou,mk,e];rw [BF (by simp_all)];rfl
 | succ j ih=>
  intro k m s hk hs;have e:AV ((k:Int)+1)=((k+1:Nat):Int):=by grind [A8]
  have h2:w32 (s.tdiv 2)=s / 2:=by
   obtain ⟨h1,h2⟩:=hs
   grind [Ar5]
  have h3:s.tmod 2=s % 2:=Int.tmod_eq_emod_of_nonneg hs.1;rw [show m+(j+1)+1=(m+j+1)+1 by omega,AsO];simp only [ou,mk,e,h2,h3,SG];rw [AL (by grind),bF];by_cases h:s % 2=1;·rw [AL (by simp [h]),ih (k+1) m _ (by omega) (lV _ _),bT,if_pos h]
  ·rw [BF (by simp [h]),ih (k+1) m _ (by omega) (by grind [R32]),bT,if_neg h]
theorem PBi {t:AA} {s:Int} (ht:t.size<=140737488351232):WAi s t=some (lW s (bs t)):=by
 have hl:=bs_len t;have key:∀ (j i m:Nat) (s:Int),i+j=t.size->AsO (m+10*j+1) (.c0 s t (i:Int))=some (lW s ((bs t).drop i)):=by
  intro j;induction j with
  | zero=>
   intro i m s h;rw [AsO];simp only [ou,mk];rw [BF (by simp_all),List.drop_of_length_le (by omega)];rfl
  | succ j ih=>
   intro i m s h;have hb:=NI (Jj t) i;rw [show m+10*(j+1)+1=(m+10*j+1)+8+1+1 by omega,AsO];simp only [ou,mk,SG];rw [AL (by grind),AL (by grind),Ui (by omega),Ar5 (by omega) (by omega)];have h1:=OBi t i (by omega) ht 8 0 (m+10*j+1) (xr s ((bs t).getD i 0)) (by omega) (lV _ _);rw [show ((0:Nat):Int)=0 from rfl] at h1;rw [h1,ih (i+1) m _ (by omega),drop_at (by omega:i<(bs t).length),getD_at (by omega)];rfl
 obtain ⟨m,hm⟩:∃ m,AY=m+10*t.size+1:=⟨AY - (10*t.size+1),by have:=FM (n:=10*t.size+1) (by omega);omega⟩
 rw [WAi,RAv,hm];have:=key t.size 0 m s (by omega);assumption
theorem QBi {t:AA} (ht:t.size<=140737488351232):XAi t=some (Uj (bs t)):=by rw [XAi,SAv,PBi ht];rfl
theorem RBi {x:Int} (h:R32 x):YAi x=some (ofBytes (four x)):=by
 obtain ⟨h1,h2⟩:=h
 have e1:Int.fdiv x (2 ^ (Min.min (24:Int).toNat (IntKind.bits IntKind.u32)))=x / 16777216:=Int.fdiv_eq_ediv_of_nonneg _ (by decide);have e2:Int.fdiv x (2 ^ (Min.min (16:Int).toNat (IntKind.bits IntKind.u32)))=x / 65536:=Int.fdiv_eq_ediv_of_nonneg _ (by decide);have e3:Int.fdiv x (2 ^ (Min.min (8:Int).toNat (IntKind.bits IntKind.u32)))=x / 256:=Int.fdiv_eq_ediv_of_nonneg _ (by decide);simp only [YAi,TAv,mk,e1,e2,e3,bJ,four];grind
def Ard (l:List Int):List Int:=SN (l.length:Int)++(four (Uj l)++l)
def frameT (t:AA):AA×Bool:=bif Ark (t.size:Int) 1 9000 then (ofBytes (Ard (bs t)),true) else (⟨#[]⟩,false)
theorem vI {l:List Int} (h:AsE l):AsE (Ard l):=by
 intro x hx;rcases List.mem_append.1 hx with hx | hx
 ·exact Uk (by omega) x hx
 ·rcases List.mem_append.1 hx with hx | hx
  ·exact Vx (X5 l) x hx
  ·exact h x hx
theorem UBJ (t:AA):(ofBytes (SN (t.size:Int))++ofBytes (four (Uj (bs t))))++t=ofBytes (Ard (bs t)):=by apply Aq3;rw [Fa,Fa,Avo (Uk (by omega)),Avo (Vx (X5 _)),Avo (vI (Jj t)),Ard,bs_len,List.append_assoc]
theorem VBJ {t:AA} (h:t.size<=140737488351232):(frameT t).1.size<=t.size+14:=by
 rw [frameT];cases Ark (t.size:Int) 1 9000;·exact DJ _
 grind [Dj,Ard,bs_len,four,Apv]
theorem XA8 {t:AA} (h:t.size<=140737488351232):Yh t=some (frameT t):=by
 rw [Yh,UAv,mk,Hf,AP,frameT];cases h1:Ark (t.size:Int) 1 9000;·rfl
 ·rw [Aqo] at h1;have:=Apv (n:=(t.size:Int)) (by omega);rw [BF (by rfl),Un (by omega),AP,QBi h,AP,RBi (X5 _),AP,AL (by grind [Dj,four])];rw [AL (by grind [Dj,four]),UBJ,Ar]
def Awh:AA:=⟨#[98,111,111,107]⟩
def AwN (k:AA) (count:Int) (r:Ah):List Ef×Bool:=
 bif (ArP r).2 && Ark count 0 10000 then ([⟨1,Awh,(frameT (Si k (count+1) (ArP r).1).1).1,⟨#[]⟩⟩,⟨2,Awh,⟨#[]⟩,⟨#[]⟩⟩],true) else ([],false)
theorem yP {k s:AA} {num:Int} (h:0<=num/\num<=1000000000) (hs:s.size<=8000):(Si k num s).2=true/\(Si k num s).1=ofBytes (NM (bs k) num (bs s))/\(Si k num s).1.size=s.size+16:=by grind [iI,Si,Dj,NM,bn,Ru,nS,bs_len]
theorem YA8 {t:AA} (h:1<=t.size/\t.size<=9000):(frameT t).2=true/\(frameT t).1=ofBytes (Ard (bs t)):=by grind [Aqo,frameT]
theorem ZA8 {k:AA} {count:Int} {r:Ah} (hk:k.size<=900000000):oz k count r=some (AwN k count r):=by
 have hz:=V8 r;rw [oz,WAv,mk,dL,AP,AwN];cases h1:(ArP r).2;·rfl
 rw [BF (by rfl),Hf,AP,Bool.true_and];cases h2:Ark count 0 10000;·rfl
 rw [Aqo] at h2;obtain ⟨l1,l2,l3⟩:=yP (k:=k) (s:=(ArP r).1) (num:=count+1) (by omega) (by omega)
 rw [BF (by rfl),A8 (by omega) (by omega),RBJ hk (by omega),AP,XA8 (by omega)];rfl
theorem WBJ (s:AA):o7 s=some (Ark (s.size:Int) 1 8):=by simp [o7,XAv,mk,Hf]
def NH (f:BQ):Bool:=Ark (f.fName.size:Int) 1 8 && (!decide ((f.fText.size:Int) > 20000) && Ark f.J3 0 (f.fText.size:Int))
def Arc:AA->List BQ->Bool
 | _,[]=>true
 | p,f::fs=>NH f && (Op.bytesLess p.toList f.fName.toList && Arc f.fName fs)
def Vw (l:List BQ):Nat->AA
 | 0=>⟨#[]⟩
 | i+1=>((l[i]?).map (·.fName)).getD ⟨#[]⟩
theorem AMq {l:List BQ} {i:Nat} (hi:i<l.length):Vw l (i+1)=l[i].fName:=by simp [Vw,hi]
theorem XBJ {l:List BQ} {i:Nat} (hi:i<l.length):Arc (Vw l i) (l.drop i)=(NH l[i] && (Op.bytesLess (Vw l i).toList l[i].fName.toList && Arc (Vw l (i+1)) (l.drop (i+1)))):=by grind [drop_at,Arc,AMq]
def Ap0 (d:BU):Bool:=decide ((d.Ak.length:Int)<=30) && Arc ⟨#[]⟩ d.Ak
theorem xU {s:AA} (h:1<=s.size):Op.bytesLess (⟨#[]⟩:AA).toList s.toList=true:=by
 rw [ByteArray.toList_eq,ByteArray.toList_eq];obtain ⟨⟨l⟩⟩:=s
 cases l with
 | nil=>exact absurd h (Nat.not_succ_le_zero 0)
 | cons x l=>rfl
def Avc:List BQ->AA->Nat->Option Nat
 | [],_,_=>none
 | f::fs,n,i=>if f.fName.toList == n.toList then some i else Avc fs n (i+1)
theorem Z8 {n:AA}:∀ {fs:List BQ} {i j:Nat},Avc fs n i=some j->i<=j/\j<i+fs.length:=by intro fs;induction fs<;>grind [Avc]
def AqB (d:BU) (n:AA):Int:=match Avc d.Ak n 0 with | some j=>(j:Int) | none=> -1
def nX:BQ:=⟨⟨#[]⟩,⟨#[]⟩,0⟩
def Hl (d:BU) (n:AA):AA×Bool:=match Avc d.Ak n 0 with | some j=>((d.Ak.getD j nX).fText,true) | none=>(⟨#[]⟩,false)
theorem XAp (d:BU):WM d=some (Ap0 d):=by
 rw [WM,YAv,mk,Ap0];by_cases h0:(d.Ak.length:Int)<=30
 ·rw [BF (by simp_all),Ba h0,Bool.true_and];have key:∀ (j i m:Nat),i+j=d.Ak.length->o8 (m+j+1) (.c0 (i:Int) d)=some (Arc (Vw d.Ak i) (d.Ak.drop i)):=by
   intro j;induction j with
   | zero=>
    intro i m h;obtain rfl:i=d.Ak.length:=by omega
    rw [o8];simp only [ZAi,mk];rw [BF (by simp),List.drop_length];rfl
   | succ j ih=>
    intro i m h;have hi:i<d.Ak.length:=by omega
    have e:AV ((i:Int)+1)=((i+1:Nat):Int):=by grind [A8]
    have h2:=ih (i+1) m (by omega);rw [show m+(j+1)+1=(m+j+1)+1 by omega,o8];simp only [ZAi,mk,e,BR,getD_at hi,WBJ,Hf,AP];rw [AL (by simp_all),AL (by simp_all),XBJ hi,NH,h2];cases hn:Ark (d.Ak[i].fName.size:Int) 1 8;·rfl
    cases decide ((d.Ak[i].fText.size:Int) > 20000)
    ·cases Ark d.Ak[i].J3 0 (d.Ak[i].fText.size:Int);·rfl
     ·by_cases hz:i=0;·grind [Aqo,Vw,xU]
      ·obtain ⟨i',rfl⟩:∃ q,i=q+1:=⟨i - 1,by omega⟩
       grind [A8,AMq]
    ·rfl
  obtain ⟨m,hm⟩:=gm (n:=d.Ak.length) (by omega)
  rw [hm];exact key d.Ak.length 0 m (by omega)
 simp_all [D6]
theorem BA9 {d:BU} {n:AA} (h0:d.Ak.length<=140737488351232):o9 d n=some (AqB d n):=by
 have key:∀ (j i m:Nat),i+j=d.Ak.length->pF (m+j+1) (.c0 n (i:Int) d)=some (match Avc (d.Ak.drop i) n i with | some j=>(j:Int) | none=> -1):=by
  intro j;induction j with
  | zero=>
   intro i m h;obtain rfl:i=d.Ak.length:=by omega
   rw [pF];simp only [BAj,mk];rw [BF (by simp),List.drop_length];rfl
  | succ j ih=>
   intro i m h;have hi:i<d.Ak.length:=by omega
   have e:AV ((i:Int)+1)=((i+1:Nat):Int):=by grind [A8]
   grind [pF,BAj,BR,drop_at,Avc]
 obtain ⟨m,hm⟩:=gm (n:=d.Ak.length) (by omega)
 rw [o9,ZAv,hm,AqB];exact key d.Ak.length 0 m (by omega)
theorem zL:∀ l:List UInt8,Op.bytesLess l l=false:=by intro l;induction l<;>simp_all [Op.bytesLess]
theorem CA9:∀ {a b c:List UInt8},Op.bytesLess a b=true->Op.bytesLess b c=true->Op.bytesLess a c=true:=by
 intro a;induction a with
 | nil=>
  intro b c h1 h2;cases c with
  | nil=>cases b <;> simp [Op.bytesLess] at h2
  | cons=>rfl
 | cons x a ih=>
  intro b c h1 h2;cases b with
  | nil=>simp [Op.bytesLess] at h1
  | cons y b=>
   cases c with
   | nil=>simp [Op.bytesLess] at h2
   | cons z c=>
    simp only [Op.bytesLess,Bool.or_eq_true,Bool.and_eq_true,decide_eq_true_eq,beq_iff_eq] at h1 h2 ⊢;rcases h1 with h1 | ⟨rfl,h1⟩ <;> rcases h2 with h2 | ⟨rfl,h2⟩
    ·exact .inl (UInt8.lt_trans h1 h2)
    ·exact .inl h1
    ·exact .inl h2
    ·exact .inr ⟨rfl,ih h1 h2⟩
theorem SBi:∀ {a b:List UInt8},Op.bytesLess a b=false->a≠b->Op.bytesLess b a=true:=by
 intro a;induction a with
 | nil=>
  intro b h1 h2;cases b with
  | nil=>exact absurd rfl h2
  | cons=>simp [Op.bytesLess] at h1
 | cons x a ih=>
  intro b h1 h2;cases b with
  | nil=>rfl
  | cons y b=>
   simp only [Op.bytesLess,Bool.or_eq_false_iff,decide_eq_false_iff_not,Bool.and_eq_false_iff,beq_eq_false_iff_ne] at h1;simp only [Op.bytesLess,Bool.or_eq_true,Bool.and_eq_true,decide_eq_true_eq,beq_iff_eq];obtain ⟨h3,h4⟩:=h1
   by_cases he:x=y;·subst he;refine .inr ⟨rfl,ih (h4.resolve_left (fun h=>h rfl)) (fun h=>h2 (by rw [h]))⟩
   ·refine .inl (UInt8.lt_of_le_of_ne (UInt8.not_lt.1 h3) (Ne.symm he))
theorem DA9 {a b:List UInt8} (h:Op.bytesLess a b=true):Op.bytesLess b a=false:=by
 cases h2:Op.bytesLess b a;·rfl
 ·have:=CA9 h h2;rw [zL] at this;cases this
theorem EA9 {a b:List UInt8} (h:Op.bytesLess a b=true):a≠b:=by rintro rfl;rw [zL] at h;cases h
def AsK (l:List BQ) (n:AA):List BQ:=l.filter fun f=> !(f.fName.toList == n.toList)
def NQ (l:List BQ) (n:AA):List BQ:=l.filter fun f=>Op.bytesLess f.fName.toList n.toList
def AqJ (l:List BQ) (n:AA):List BQ:=l.filter fun f=> !(Op.bytesLess f.fName.toList n.toList || (f.fName.toList == n.toList))
def AqY (l:List BQ) (f:BQ):List BQ:=NQ l f.fName++[f]++AqJ l f.fName
def Yi:List BQ->AA->List BQ
 | [],_=>[]
 | g::gs,n=>bif g.fName.toList == n.toList then gs else g::Yi gs n
def WA:List BQ->BQ->List BQ
 | [],f=>[f]
 | g::gs,f=>bif Op.bytesLess g.fName.toList f.fName.toList then g::WA gs f else f::g::gs
def Sorted (l:List BQ):Prop:=l.Pairwise fun a b=>Op.bytesLess a.fName.toList b.fName.toList=true
theorem TBi:∀ {l:List BQ} {p:AA},Arc p l=true->Sorted l/\∀ f ∈ l,Op.bytesLess p.toList f.fName.toList=true:=by
 intro l;induction l with
 | nil=>intro p _;exact ⟨List.Pairwise.nil,fun f hf=>by cases hf⟩
 | cons g gs ih=>
  intro p h;rw [Arc,Bool.and_eq_true,Bool.and_eq_true] at h;obtain ⟨h1,h2⟩:=ih h.2.2
  refine ⟨List.Pairwise.cons h2 h1,fun f hf=>?_⟩;rcases List.mem_cons.1 hf with rfl | hf
  ·exact h.2.1
  ·exact CA9 h.2.1 (h2 f hf)
theorem UBi {d:BU} (h:Ap0 d=true):Sorted d.Ak:=by rw [Ap0,Bool.and_eq_true] at h;exact (TBi h.2).1
theorem FA9 {l:List BQ} {n:AA} (h:∀ f ∈ l,Op.bytesLess n.toList f.fName.toList=true):AsK l n=l/\NQ l n=[]/\AqJ l n=l:=by
 refine ⟨List.filter_eq_self.2 fun f hf=>?_,List.filter_eq_nil_iff.2 fun f hf=>?_,List.filter_eq_self.2 fun f hf=>?_⟩;·rw [show (f.fName.toList == n.toList)=false from beq_eq_false_iff_ne.2 (Ne.symm (EA9 (h f hf)))];rfl
 ·rw [DA9 (h f hf)];exact Bool.false_ne_true
 ·rw [DA9 (h f hf),show (f.fName.toList == n.toList)=false from beq_eq_false_iff_ne.2 (Ne.symm (EA9 (h f hf)))];rfl
theorem VBi:∀ {l:List BQ} {n:AA},Sorted l->Yi l n=AsK l n:=by
 intro l;induction l with
 | nil=>intro n _;rfl
 | cons g gs ih=>
  intro n h;obtain ⟨h1,h2⟩:=List.pairwise_cons.1 h
  rw [Yi,AsK,List.filter_cons];cases he:g.fName.toList == n.toList;·rw [Aq,Bool.not_false,if_pos rfl,ih h2,AsK]
  ·rw [Ar,DN,if_neg Bool.false_ne_true];rw [beq_iff_eq] at he;exact (FA9 (n:=n) (fun f hf=>by have:=h1 f hf;rwa [he] at this)).1.symm
theorem WBi:∀ {l:List BQ} {n:AA} {i:Nat},match Avc l n i with | some j=>l.take (j - i)++l.drop (j - i+1)=Yi l n | none=>Yi l n=l:=by
 intro l;induction l with
 | nil=>intro n i;rfl
 | cons g gs ih=>
  intro n i;rw [Avc,Yi];cases he:g.fName.toList == n.toList
  ·rw [if_neg Bool.false_ne_true,Aq];have:=ih (n:=n) (i:=i+1);cases hp:Avc gs n (i+1) with
   | none=>rw [hp] at this;show g::Yi gs n=g::gs;rw [this]
   | some j=>
    rw [hp] at this;have hj:=(Z8 hp).1;show (g::gs).take (j - i)++(g::gs).drop (j - i+1)=g::Yi gs n;rw [<-this,show j - i=(j - (i+1))+1 by omega,List.take_succ_cons,List.drop_succ_cons];rfl
  ·rw [if_pos rfl,Ar];show (g::gs).take (i - i)++(g::gs).drop (i - i+1)=gs;rw [Nat.sub_self];rfl
theorem XBi {f:BQ}:∀ {l:List BQ},Sorted l->WA (AsK l f.fName) f=AqY l f:=by
 intro l;induction l with
 | nil=>intro _;rfl
 | cons g gs ih=>
  intro h;obtain ⟨h1,h2⟩:=List.pairwise_cons.1 h
  cases hl:Op.bytesLess g.fName.toList f.fName.toList
  ·have hins:WA gs f=f::gs\/True:=.inr trivial;by_cases he:g.fName.toList=f.fName.toList
   ·have ho:=FA9 (l:=gs) (n:=f.fName) (fun x hx=>by have:=h1 x hx;rwa [he] at this);have hb:(g.fName.toList == f.fName.toList)=true:=beq_iff_eq.2 he;have e1:AsK (g::gs) f.fName=gs:=by rw [AsK,List.filter_cons,hb];exact ho.1
    have e2:NQ (g::gs) f.fName=[]:=by rw [NQ,List.filter_cons,hl];exact ho.2.1
    have e3:AqJ (g::gs) f.fName=gs:=by rw [AqJ,List.filter_cons,hl,hb];exact ho.2.2
    rw [e1,AqY,e2,e3];cases gs with
    | nil=>rfl
    | cons x xs=>
     have hx:=h1 x (List.mem_cons_self ..);rw [he] at hx;rw [WA,DA9 hx];rfl
   ·have hg:=SBi hl he
    have ho:=FA9 (l:=g::gs) (n:=f.fName) (fun x hx=>by
     rcases List.mem_cons.1 hx with rfl | hx
     ·exact hg
     ·exact CA9 hg (h1 x hx))
    rw [ho.1,AqY,ho.2.1,ho.2.2,WA,hl];rfl
  ·have hb:(g.fName.toList == f.fName.toList)=false:=beq_eq_false_iff_ne.2 (EA9 hl);have e1:AsK (g::gs) f.fName=g::AsK gs f.fName:=by rw [AsK,List.filter_cons,hb];rfl
   have e2:NQ (g::gs) f.fName=g::NQ gs f.fName:=by rw [NQ,List.filter_cons,hl];rfl
   have e3:AqJ (g::gs) f.fName=AqJ gs f.fName:=by rw [AqJ,List.filter_cons,hl];rfl
   rw [e1,WA,hl,Ar,ih h2,AqY,AqY,e2,e3];rfl
theorem YAp {α:Type} {l:List α} {p:α->Bool} {i:Nat} (hi:i<l.length):(l.drop i).filter p=(bif p l[i] then [l[i]] else [])++(l.drop (i+1)).filter p:=by grind [drop_at]
theorem YBJ (n:AA):∀ l:List BQ,(NQ l n).length+(AqJ l n).length<=l.length:=by intro l;induction l<;>grind [NQ,AqJ]
theorem ZBJ {d:BU} {f:BQ} (h:d.Ak.length*40<=140737488351232):CAj d f=some ⟨AqY d.Ak f⟩:=by
 have k1:∀ (j i m:Nat) (out:List BQ),i+j=d.Ak.length->out.length+(AqJ (d.Ak.drop i) f.fName).length<=d.Ak.length+1->Av3 (m+j+1) (.c1 (i:Int) d f [] out)=some ⟨out++AqJ (d.Ak.drop i) f.fName⟩:=by
  intro j;induction j with
  | zero=>
   simp_all [Av3,pG,mk,AqJ]
  | succ j ih=>
   intro i m out hi ho;have hil:i<d.Ak.length:=by omega
   have hw:AV ((i:Int)+1)=((i+1:Nat):Int):=by grind [A8]
   rw [AqJ,YAp hil,List.length_append] at ho;rw [AwB m j,Av3];simp only [pG,mk,show decide ((i:Int)<(d.Ak.length:Int))=true from Ba (by omega),show decide ((0:Int)<=(i:Int))=true from Ba (by omega),Bool.and_self,Ar,BR,hw,getD_at hil];rw [AqJ,YAp hil];cases hp : !(Op.bytesLess d.Ak[i].fName.toList f.fName.toList || (d.Ak[i].fName.toList == f.fName.toList));·rw [hp] at ho;rw [Aq,Aq,ih (i+1) m _ (by omega) (by simp_all [AqJ])];rfl
   ·rw [hp,Ar] at ho;have ho':out.length+(1+(AqJ (d.Ak.drop (i+1)) f.fName).length)<=d.Ak.length+1:=ho;rw [Ar,AL (Ba (by omega)),ih (i+1) m _ (by omega) (by grind),Ar,List.append_assoc];rfl
 have k0:∀ (j i m:Nat) (out:List BQ),i+j=d.Ak.length->out.length<=i->Av3 (m+d.Ak.length+1+j+1) (.c0 (i:Int) d f [] out)=Av3 (m+d.Ak.length+1) (.c1 0 d f [] (out++NQ (d.Ak.drop i) f.fName++[f])):=by
  intro j;induction j with
  | zero=>
   intro i m out hi ho;rw [Av3];grind [pG,NQ]
  | succ j ih=>
   intro i m out hi ho;have hil:i<d.Ak.length:=by omega
   have hw:AV ((i:Int)+1)=((i+1:Nat):Int):=by grind [A8]
   rw [show m+d.Ak.length+1+(j+1)+1=(m+d.Ak.length+1+j+1)+1 from rfl,Av3];simp only [pG,mk,show decide ((i:Int)<(d.Ak.length:Int))=true from Ba (by omega),show decide ((0:Int)<=(i:Int))=true from Ba (by omega),Bool.and_self,Ar,BR,hw,getD_at hil];rw [NQ,YAp hil];cases Op.bytesLess d.Ak[i].fName.toList f.fName.toList;·rw [Aq,Aq,ih (i+1) m _ (by omega) (by omega)];rfl
   ·rw [Ar,AL (Ba (by omega)),ih (i+1) m _ (by omega) (by simp_all),Ar];simp [NQ]
 obtain ⟨m,hm⟩:∃ m,AY=m+d.Ak.length+1+d.Ak.length+1:=⟨AY - (d.Ak.length+1+d.Ak.length+1),by have:=FM (n:=2*d.Ak.length+2) (by omega);omega⟩
 have hlh:=YBJ f.fName d.Ak;rw [CAj,BAw,hm];refine (k0 d.Ak.length 0 m [] (Nat.zero_add _) (Nat.le_refl _)).trans ((k1 d.Ak.length 0 m _ (Nat.zero_add _) (by grind)).trans ?_);rfl
theorem YBi {d:BU} {n:AA} (h:d.Ak.length*40<=140737488351232):EAj d n=some ⟨AsK d.Ak n⟩:=by
 have key:∀ (j i m:Nat) (out:List BQ),i+j=d.Ak.length->out.length<=i->pI (m+j+1) (.c0 n (i:Int) d [] out)=some ⟨out++AsK (d.Ak.drop i) n⟩:=by
  intro j;induction j with
  | zero=>
   simp_all [pI,DAj,mk,AsK]
  | succ j ih=>
   intro i m out hi ho;have hil:i<d.Ak.length:=by omega
   have hw:AV ((i:Int)+1)=((i+1:Nat):Int):=by grind [A8]
   have d1:decide ((i:Int)<(d.Ak.length:Int))=true:=Ba (by omega);have d0:decide ((0:Int)<=(i:Int))=true:=Ba (by omega);have d2:decide ((out.length+1)*40<=140737488355328)=true:=Ba (by omega);rw [AwB m j,pI];simp only [DAj,mk,d0,d1,d2,Bool.and_self,Ar,BR,hw,getD_at hil];rw [ih (i+1) m _ (by omega) (by simp_all),ih (i+1) m _ (by omega) (by omega),AsK,AsK,YAp hil];grind
 obtain ⟨m,hm⟩:=gm (n:=d.Ak.length) (by omega)
 rw [EAj,CAw,hm];exact key d.Ak.length 0 m [] (Nat.zero_add _) (Nat.le_refl _)
def doneD (l:List BQ):BU×Bool:=bif Ap0 ⟨l⟩ then (⟨l⟩,true) else (⟨[]⟩,false)
def YH (d:BU) (a:Ef) (f:BQ):BU×Bool:=
 bif a.Aj == 1 then doneD (AqY d.Ak ⟨f.fName,f.fText++a.fText,f.J3⟩)
 else bif a.Aj == 2 then doneD (AqY d.Ak ⟨f.fName,f.fText,(f.fText.size:Int)⟩)
 else bif a.Aj == 3 then (bif decide (f.J3<(f.fText.size:Int)) || (a.I8.toList == a.fName.toList) then (⟨[]⟩,false) else doneD (AqY (AsK d.Ak a.fName) ⟨a.I8,f.fText,f.J3⟩))
 else bif a.Aj == 4 then doneD (AsK d.Ak a.fName) else (⟨[]⟩,false)
def Gu (d:BU) (a:Ef):BU×Bool:=
 bif Ap0 d && ((a.Aj == 3 || a.I8.toList == (⟨#[]⟩:AA).toList) && (a.Aj == 1 || a.fText.toList == (⟨#[]⟩:AA).toList)) then
  match Avc d.Ak a.fName 0 with
  | some j=>YH d a (d.Ak.getD j nX)
  | none=>bif a.Aj == 1 then doneD (AqY d.Ak ⟨a.fName,(⟨#[]⟩:AA)++a.fText,0⟩) else (⟨[]⟩,false)
 else (⟨[]⟩,false)
theorem ZBi:∀ {l:List BQ} {p:AA},Arc p l=true->∀ f ∈ l,NH f=true:=by intro l;induction l<;>grind [Arc]
theorem nV {d:BU} (h:Ap0 d=true):d.Ak.length<=30/\∀ f ∈ d.Ak,NH f=true:=by grind [Ap0,ZBi]
theorem yR {f:BQ}:NH f=true↔(1<=(f.fName.size:Int)/\(f.fName.size:Int)<=8)/\(f.fText.size:Int)<=20000/\0<=f.J3/\f.J3<=(f.fText.size:Int):=by simp [NH,Aqo]
theorem AXu {l:List BQ} {f:BQ} (hf:f ∈ l) (h:NH f=false):doneD l=(⟨[]⟩,false):=by
 rw [doneD];cases hd:Ap0 ⟨l⟩;·rfl
 ·rw [(nV hd).2 f hf] at h;cases h
theorem BBK (l:List BQ) (f:BQ):f ∈ AqY l f:=by rw [AqY];simp
theorem CBK {f:BQ} (h:Ark (f.fName.size:Int) 1 8=false):NH f=false:=by rw [NH,h];rfl
theorem DBK (l:List BQ) (n:AA):(AsK l n).length<=l.length:=List.length_filter_le _ _
theorem Ag3 {l:List BQ} {n:AA} (h:Sorted l):Sorted (AsK l n):=List.Pairwise.filter _ h
theorem BBj {n:AA}:∀ {fs:List BQ} {i j:Nat},Avc fs n i=some j->(fs.getD (j - i) nX).fName.toList=n.toList:=by
 intro fs;induction fs with
 | nil=>intro i j h;cases h
 | cons f fs ih=>
  intro i j h;rw [Avc] at h;split at h;·simp_all
  ·have h1:=ih h;have h2:=(Z8 h).1;grind
theorem GA9 {d:BU} {n:AA} {j:Nat} (h:Ap0 d=true) (hp:Avc d.Ak n 0=some j):j<d.Ak.length/\NH (d.Ak.getD j nX)=true/\Ark (n.size:Int) 1 8=true/\(d.Ak.getD j nX).fName=n:=by have h1:=(Z8 hp).2;have h2:=BBj hp;grind [NH,nV,toList_inj]
theorem CBj {d:BU} {a:Ef} (hd:d.Ak.length*40<=140737488351232) (ha:a.fText.size<=140737488351232):zM d a=some (Gu d a):=by
 have ho:=DBK d.Ak a.fName;rw [zM,DAw,mk,Gu];simp only [XAp,WBJ,BA9 (d:=d) (n:=a.fName) (by omega),YBi (d:=d) (n:=a.fName) hd,fun f=>ZBJ (d:=d) (f:=f) hd,fun f=>ZBJ (d:=⟨AsK d.Ak a.fName⟩) (f:=f) (show (AsK d.Ak a.fName).length*40<=_ by omega),AP,bne];cases hdk:Ap0 d;·rfl
 obtain ⟨hl,hok⟩:=nV hdk
 have fin:∀ l:List BQ,(bif !Ap0 ⟨l⟩ then some ((⟨[]⟩:BU),false) else some (⟨l⟩,true))=some (doneD l):=fun l=>by grind [doneD]
 simp only [fin,Bool.true_and];cases hn:Ark (a.fName.size:Int) 1 8;·grind [GA9,AXu,BBK,CBK]
 have ht:∀ f,NH f=true->f.fText.size+a.fText.size<=9223372036854775807:=fun f hf=>by grind [yR]
 have hto:Ark (a.I8.size:Int) 1 8=false->∀ f:BQ,doneD (AqY (AsK d.Ak a.fName) ⟨a.I8,f.fText,f.J3⟩)=(⟨[]⟩,false):=fun h f=>AXu (BBK _ _) (CBK h)
 have key:∀ f:BQ,(bif !Ark (a.I8.size:Int) 1 8 then some ((⟨[]⟩:BU),false) else some (doneD (AqY (AsK d.Ak a.fName) ⟨a.I8,f.fText,f.J3⟩)))=some (doneD (AqY (AsK d.Ak a.fName) ⟨a.I8,f.fText,f.J3⟩)):=fun f=>by grind
 simp only [DN,Aq];cases hp:Avc d.Ak a.fName 0 with
 | some j=>
  obtain ⟨hj,hfo,_,_⟩:=GA9 hdk hp
  simp only [show AqB d a.fName=(j:Int) by rw [AqB,hp],BR,show decide ((j:Int)>=0)=true from Ba (by omega),show decide ((j:Int)<0)=false from D6 (by omega),show decide ((j:Int)<(d.Ak.length:Int))=true from Ba (by omega),Bool.and_self,Ar,Aq];grind [YH]
 | none=>
  have hs:decide ((⟨#[]⟩:AA).size+a.fText.size<=9223372036854775807)=true:=Ba (by show 0+a.fText.size<=_;omega);grind [AqB]
def Aqu:BU->List Ef->Int->BU×Int
 | d,[],i=>(d,i)
 | d,a::r,i=>bif (Gu d a).2 then Aqu (Gu d a).1 r (i+1) else (d,i)
theorem EBK {l:List BQ} (h:(doneD l).2=true):Ap0 (doneD l).1=true:=by grind [doneD]
theorem DBj {d:BU} {a:Ef} {f:BQ} (h:(YH d a f).2=true):Ap0 (YH d a f).1=true:=by grind [YH,EBK]
theorem FBK {d:BU} {a:Ef} (h:(Gu d a).2=true):Ap0 (Gu d a).1=true:=by grind [Gu,DBj,EBK]
theorem HA9 {d:BU} {l:List Ef} (hd:d.Ak.length*40<=140737488351232) (hl:l.length<=140737488351232) (ha:∀ a ∈ l,a.fText.size<=140737488351232):pJ d l=some (Aqu d l 0):=by
 have key:∀ (j i m:Nat) (out:List BQ),i+j=l.length->out.length*40<=140737488351232->pK (m+j+1) (.c0 l (i:Int) [] out)=some (Aqu ⟨out⟩ (l.drop i) (i:Int)):=by
  intro j;induction j with
  | zero=>
   simp_all [pK,FAj,mk,Aqu]
  | succ j ih=>
   intro i m out hi ho;have hil:i<l.length:=by omega
   have hw:AV ((i:Int)+1)=((i+1:Nat):Int):=by grind [A8]
   rw [AwB m j,pK];simp only [FAj,mk,show decide ((i:Int)<(l.length:Int))=true from Ba (by omega),show decide ((0:Int)<=(i:Int))=true from Ba (by omega),Bool.and_self,Ar,BR,hw,getD_at hil,CBj (d:=⟨out⟩) (a:=l[i]) ho (ha _ (List.getElem_mem hil)),AP];rw [drop_at hil,Aqu];cases hr:(Gu ⟨out⟩ l[i]).2;·rfl
   ·have h30:=(nV (FBK hr)).1;rw [DN,Aq,Ar,ih (i+1) m _ (by omega) (by omega)];rfl
 obtain ⟨m,hm⟩:=gm (n:=l.length) (by omega)
 rw [pJ,EAw,mk,AL (Ba (by omega)),hm];exact key l.length 0 m _ (Nat.zero_add _) hd
theorem GBK (t:AA):(frameT t).1.size<=9100:=by
 rw [frameT];cases h:Ark (t.size:Int) 1 9000;·exact DJ _
 grind [Aqo,Apv,Dj,Ard,bs_len,four]
def IA9:Ap:=⟨⟨#[]⟩,false,⟨[]⟩,⟨⟨#[]⟩,0,[],0,⟨#[]⟩,0⟩,[],[],0⟩
theorem HBK (k:AA) (c:Int) (r:Ah):(AwN k c r).1.length<=2/\∀ a ∈ (AwN k c r).1,a.fText.size<=140737488351232:=by
 rw [AwN];cases (ArP r).2 && Ark c 0 10000;·simp
 ·refine ⟨Nat.le_refl _,fun a h=>?_⟩;rw [Ar] at h;rcases List.mem_cons.1 h with rfl | h
  ·grind [GBK]
  ·rw [List.mem_singleton.1 h];exact DJ _
theorem JA9 {k:AA} {d:BU} {c:Int} {r:Ah} (hk:k.size<=900000000) (hd:d.Ak.length*40<=140737488351232):aF k d c r=some (Aqu d (AwN k c r).1 0).1:=by
 obtain ⟨h1,h2⟩:=HBK k c r
 rw [aF,GAw,ZA8 hk,AP,HA9 hd (by omega) h2];rfl
theorem ZAp {n:Nat} (h:n<=1000000000):X7 (n:Int)=some (ofBytes (List.replicate n 0)):=by simp only [X7,EA1,mk,BR];grind
theorem AFV {x:Int} (h:R32 x):WO x=some (ofBytes (four x)):=by
 obtain ⟨h1,h2⟩:=h
 have e1:Int.fdiv x (2 ^ (Min.min (24:Int).toNat (IntKind.bits IntKind.u32)))=x / 16777216:=Int.fdiv_eq_ediv_of_nonneg _ (by decide);have e2:Int.fdiv x (2 ^ (Min.min (16:Int).toNat (IntKind.bits IntKind.u32)))=x / 65536:=Int.fdiv_eq_ediv_of_nonneg _ (by decide);have e3:Int.fdiv x (2 ^ (Min.min (8:Int).toNat (IntKind.bits IntKind.u32)))=x / 256:=Int.fdiv_eq_ediv_of_nonneg _ (by decide);simp only [WO,FA1,mk,e1,e2,e3,bJ,four];grind
theorem EBj {n:Nat} (h:n<1099511627776):SAl (n:Int)=some (ofBytes (AsL (n:Int))):=by
 have e1:Int.fdiv (n:Int) (2 ^ (Min.min (32:Int).toNat (IntKind.bits IntKind.i64)))=(n:Int) / 4294967296:=Int.fdiv_eq_ediv_of_nonneg _ (by decide);simp only [SAl,GA1,mk,e1,AFV (Ol _),AP];rw [AL (by rfl)];congr 1;apply Aq3
 rw [Fa,Avo (Vx (Ol _)),Avo (Vx (Ol _)),Avo (fun x hx=>by
  simp only [AsL,List.mem_cons,List.not_mem_nil,or_false] at hx;omega)]
 simp only [four,AsL,y7,List.cons_append,List.nil_append,List.cons.injEq,and_true];omega
theorem FBj {n:Nat} (h:n<=100000000000):TAl (n:Int)=some (ofBytes (Hu n)):=by
 have e1:(AV (119 - ((n:Int).tmod 64))).tmod 64=(((119 - n % 64) % 64:Nat):Int):=by grind [A8]
 have e2:AV (8*(n:Int))=((8*n:Nat):Int):=by grind [A8]
 have h0:(⟨#[128]⟩:AA).size=1:=rfl;simp only [TAl,IA1,mk,e1,e2,ZAp (n:=(119 - n % 64) % 64) (by omega),EBj (n:=8*n) (by omega),AP];rw [AL (by grind [Dj]),AL (by rw [ByteArray.size_append,Dj,Dj];simp [h0,AsL];omega)];congr 1;apply Aq3;have hb:AsE (List.replicate ((119 - n % 64) % 64) (0:Int)):=fun x hx=>by grind
 have hb2:AsE (AsL ((8*n:Nat):Int)):=fun x hx=>by simp only [AsL,List.mem_cons,List.not_mem_nil,or_false] at hx;omega
 rw [Fa,Fa,Avo hb,Avo hb2,Avo (MA8 n),Hu];rfl
theorem GBj {x:Int} (h:R32 x) (n:Nat) (hn:0<n) (hn2:n<32) (k:Int) (hk:wu64 (((BitVec.toNat ((BitVec.ofInt (IntKind.bits IntKind.u64) (wu64 k)) &&& (BitVec.ofInt (IntKind.bits IntKind.u64) (31:Int)))):Nat):Int)=((32 - n:Nat):Int))
  (hk2:wu64 (32 - ((32 - n:Nat):Int))=(n:Int)):UAl x k=some (rt (2 ^ n) (2 ^ (32 - n)) x):=by
 have e1:Min.min ((32 - n:Nat):Int).toNat (IntKind.bits IntKind.u32)=32 - n:=by show Min.min ((32 - n:Nat):Int).toNat 32=_;omega
 have e2:Min.min (n:Int).toNat (IntKind.bits IntKind.u32)=n:=by show Min.min (n:Int).toNat 32=_;omega
 have e3:Int.fdiv x (2 ^ n)=x / 2 ^ n:=Int.fdiv_eq_ediv_of_nonneg _ (Int.le_of_lt (Int.pow_pos (by omega)));simp only [UAl,JA1,mk,hk,hk2,e1,e2,e3];grind [BBI,NBg]
theorem U1 {x:Int} (h:R32 x) (n:Nat) (hn:0<n) (hn2:n<32) (hk:wu64 (((BitVec.toNat ((BitVec.ofInt (IntKind.bits IntKind.u64) (wu64 (AV (0 - (n:Int))))) &&& (BitVec.ofInt (IntKind.bits IntKind.u64) (31:Int)))):Nat):Int)=((32 - n:Nat):Int))
  (hk2:wu64 (32 - ((32 - n:Nat):Int))=(n:Int)):ArY x (n:Int)=some (rt (2 ^ n) (2 ^ (32 - n)) x):=by
 simp only [ArY,KA1,mk,GBj h n hn hn2 _ hk hk2,AP]
theorem HBj {x:Int} (h:R32 x):ArY x 2=some (rt 4 1073741824 x):=U1 h 2 (by decide) (by decide) (by decide) (by decide)
theorem IBj {x:Int} (h:R32 x):ArY x 13=some (rt 8192 524288 x):=U1 h 13 (by decide) (by decide) (by decide) (by decide)
theorem JBj {x:Int} (h:R32 x):ArY x 22=some (rt 4194304 1024 x):=U1 h 22 (by decide) (by decide) (by decide) (by decide)
theorem KBj {x:Int} (h:R32 x):ArY x 6=some (rt 64 67108864 x):=U1 h 6 (by decide) (by decide) (by decide) (by decide)
theorem LBj {x:Int} (h:R32 x):ArY x 11=some (rt 2048 2097152 x):=U1 h 11 (by decide) (by decide) (by decide) (by decide)
theorem MBj {x:Int} (h:R32 x):ArY x 25=some (rt 33554432 128 x):=U1 h 25 (by decide) (by decide) (by decide) (by decide)
theorem NBj {x:Int} (h:R32 x):ArY x 7=some (rt 128 33554432 x):=U1 h 7 (by decide) (by decide) (by decide) (by decide)
theorem OBj {x:Int} (h:R32 x):ArY x 18=some (rt 262144 16384 x):=U1 h 18 (by decide) (by decide) (by decide) (by decide)
theorem PBj {x:Int} (h:R32 x):ArY x 17=some (rt 131072 32768 x):=U1 h 17 (by decide) (by decide) (by decide) (by decide)
theorem QBj {x:Int} (h:R32 x):ArY x 19=some (rt 524288 8192 x):=U1 h 19 (by decide) (by decide) (by decide) (by decide)
theorem RBj {a b:Int} (ha:0<=a/\a<16777216) (hb:0<=b/\b<=255):y8 (w32 (a*256)) (w32 b)=a*256+b:=by
 obtain ⟨x,rfl⟩:∃ x:Nat,a=(x:Int):=⟨a.toNat,by omega⟩
 obtain ⟨y,rfl⟩:∃ y:Nat,b=(y:Int):=⟨b.toNat,by omega⟩
 rw [Ar5 (by omega) (by omega),Ar5 (by omega) (by omega)];have:=CBI (a:=x) (b:=y) (s:=8) (by omega) (by omega) (by omega);assumption
def Aqb (l:List Int) (i:Nat):Nat->Int
 | 0=>0
 | k+1=>Aqb l i k*256+l.getD (4*i+k) 0
theorem SBj (l:List Int) (i:Nat):Aqb l i 4=wordAt l i:=by grind [Aqb,wordAt,be4]
theorem TBj {l:List Int} (h:AsE l) (i:Nat):∀ k,k<4->0<=Aqb l i k/\Aqb l i k<16777216
 | 0,_=>by simp [Aqb]
 | 1,_=>by have:=NI h (4*i+0);grind [Aqb]
 | 2,_=>by have:=NI h (4*i+0);have:=NI h (4*i+1);grind [Aqb]
 | 3,_=>by have:=NI h (4*i+0);have:=NI h (4*i+1);have:=NI h (4*i+2);grind [Aqb]
theorem UBj {b:AA} (hb:b.size=64) (v:List Int) (i:Nat) (hi:i<16):∀ (j k m:Nat),k+j=4->
  Av7 (m+j+1) (.c1 b (i:Int) (i:Int) (k:Int) v (Ht (bs b) i++Aqb (bs b) i k::List.replicate (63 - i) 0))=Av7 m (.c0 b ((i+1:Nat):Int) v (Ht (bs b) (i+1)++List.replicate (63 - i) 0)):=by
 have hby:=Jj b;intro j;induction j with
 | zero=>
  grind [A8,Av7,Yj,SBj,HBI]
 | succ j ih=>
  intro k m h;have hk:k<4:=by omega
  have hlen:(Ht (bs b) i++Aqb (bs b) i k::List.replicate (63 - i) 0).length=64:=by grind [dD]
  have e:AV ((k:Int)+1)=((k+1:Nat):Int):=by grind [A8]
  have e4:AV (4*(i:Int))=((4*i:Nat):Int):=by grind [A8]
  have e5:AV (((4*i:Nat):Int)+(k:Int))=((4*i+k:Nat):Int):=by grind [A8]
  have e8:(2:Int) ^ (Min.min (8:Int).toNat (IntKind.bits IntKind.u32))=256:=by decide
  have hg:(Ht (bs b) i++Aqb (bs b) i k::List.replicate (63 - i) 0).getD i 0=Aqb (bs b) i k:=by grind
  rw [show m+(j+1)+1=(m+j+1)+1 by omega,Av7];simp only [Yj,mk,e,e4,e5,e8,BR,hlen,hg,BBI];rw [AL (by grind),AL (by rfl),AL (by grind),AL (by simp;omega),AL (by rfl),AL (by grind)];rw [Ui (by omega),RBj (TBj hby i k hk) (NI hby _),dA (dD _ i)];exact ih (k+1) m (by omega)
theorem VBj {b:AA} (hb:b.size=64) (v:List Int):∀ (j i m:Nat),i+j=16->Av7 (m+6*j+1) (.c0 b (i:Int) v (Ht (bs b) i++List.replicate (64 - i) 0))=Av7 m (.c2 16 v (Ht (bs b) 16++List.replicate 48 0)):=by
 intro j;induction j with
 | zero=>
  grind [Av7,Yj]
 | succ j ih=>
  intro i m h;rw [show m+6*(j+1)+1=(m+6*j+1)+4+1+1 by omega,Av7];simp only [Yj,mk];rw [AL (by grind)];have h1:=UBj hb v i (by omega) 4 0 (m+6*j+1) (by omega);rw [show 64 - i=(63 - i)+1 by omega,List.replicate_succ];have h2:=ih (i+1) m (by omega);rw [show 64 - (i+1)=63 - i by omega] at h2;exact h1.trans h2
theorem WBj {w v:List Int} (hw:∀ x ∈ w,R32 x) (hwl:w.length=16) (hv:v.length=64):∀ (j i m:Nat),i+j=48->Av7 (m+j+1) (.c2 ((16+i:Nat):Int) v (sched w i++List.replicate (48 - i) 0))=some (sched w 48):=by
 intro j;induction j with
 | zero=>
  intro i m h;obtain rfl:i=48:=by omega
  simp_all [y9,Av7,Yj,mk]
 | succ j ih=>
  intro i m h;have hl:=y9 hwl i;have hr:=PAp hw i;have hlen:(sched w i++List.replicate (48 - i) 0).length=64:=by grind
  have e2:AV (((16+i:Nat):Int) - 2)=((16+i - 2:Nat):Int):=by grind [A8]
  have e7:AV (((16+i:Nat):Int) - 7)=((16+i - 7:Nat):Int):=by grind [A8]
  have e15:AV (((16+i:Nat):Int) - 15)=((16+i - 15:Nat):Int):=by grind [A8]
  have e16:AV (((16+i:Nat):Int) - 16)=((16+i - 16:Nat):Int):=by grind [A8]
  have e1:AV (((16+i:Nat):Int)+1)=((16+(i+1):Nat):Int):=by grind [A8]
  have g2:(sched w i++List.replicate (48 - i) 0).getD (16+i - 2) 0=(sched w i).getD (16+i - 2) 0:=NAp (by omega) 0;have g7:(sched w i++List.replicate (48 - i) 0).getD (16+i - 7) 0=(sched w i).getD (16+i - 7) 0:=NAp (by omega) 0;have g15:(sched w i++List.replicate (48 - i) 0).getD (16+i - 15) 0=(sched w i).getD (16+i - 15) 0:=NAp (by omega) 0;have g16:(sched w i++List.replicate (48 - i) 0).getD (16+i - 16) 0=(sched w i).getD (16+i - 16) 0:=NAp (by omega) 0;have f10:∀ x:Int,Int.fdiv x (2 ^ (Min.min (10:Int).toNat (IntKind.bits IntKind.u32)))=x / 1024:=fun x=>Int.fdiv_eq_ediv_of_nonneg _ (by decide)
  have f3:∀ x:Int,Int.fdiv x (2 ^ (Min.min (3:Int).toNat (IntKind.bits IntKind.u32)))=x / 8:=fun x=>Int.fdiv_eq_ediv_of_nonneg _ (by decide)
  have Bk:=zA hr (16+i - 15);have r2:=zA hr (16+i - 2);rw [show m+(j+1)+1=(m+j+1)+1 by omega,Av7];simp only [Yj,mk,e1,e2,e7,e15,e16,BR,hlen,g2,g7,g15,g16,NBj Bk,OBj Bk,PBj r2,QBj r2,AP,f10,f3,SG];rw [AL (by grind),AL (by rfl),AL (by grind),AL (by rfl),AL (by grind),AL (by rfl),AL (by grind),AL (by rfl),AL (by grind),AL (by rfl),AL (by grind)];rw [show 48 - i=(48 - (i+1))+1 by omega,List.replicate_succ,dA (by omega)];have h2:=ih (i+1) m (by omega);rw [sched,List.append_assoc] at h2;exact h2
theorem XBj {b:AA} (hb:b.size=64):zN b=some (sched (Ht (bs b) 16) 48):=by
 obtain ⟨m,hm⟩:∃ m,AY=(m+48+1)+6*16+1:=⟨AY - 146,by rfl⟩
 rw [zN,LA1,mk,hm];have h0:=VBj hb (List.replicate 64 0) 16 0 (m+48+1) (by omega);have h2:=WBj (w:=Ht (bs b) 16) (v:=List.replicate 64 0) (KA8 (Jj b) 16) (dD _ 16) (List.length_replicate ..) 48 0 m (by omega);rw [show Ht (bs b) 0++List.replicate (64 - 0) 0=List.replicate 64 (0:Int) from rfl,show ((0:Nat):Int)=0 from rfl] at h0;grind [sched]
theorem YBj (s r v:List Int) (hs:s.length=8) (hv:v.length=8) (f:Nat->Int) (hf:∀ i,i<8->f i=w32 (r.getD i 0+s.getD i 0)) (hr:r.length=8):∀ (j i m:Nat),i+j=8->ArR (m+j+1) (.c1 (i:Int) s v ((List.range i).map f++r.drop i))=some ((List.range 8).map f):=by
 intro j;induction j with
 | zero=>
  intro i m h;obtain rfl:i=8:=by omega
  simp_all [ArR,zO,mk]
 | succ j ih=>
  intro i m h;have e:AV ((i:Int)+1)=((i+1:Nat):Int):=by grind [A8]
  have hl:((List.range i).map f++r.drop i).length=8:=by grind
  have hm:((List.range i).map f).length=i:=by simp
  have hg:((List.range i).map f++r.drop i).getD i 0=r.getD i 0:=by grind
  rw [show m+(j+1)+1=(m+j+1)+1 by omega,ArR];simp only [zO,mk,e,BR,hl,hs,hg];rw [AL (by grind),AL (by rfl),AL (by grind),AL (by rfl),AL (by grind),AL (by rfl),AL (by grind)];rw [drop_at (by omega:i<r.length),dA hm,<-hf i (by omega)];have h2:=ih (i+1) m (by omega);simp_all [List.range_succ]
theorem ZBj (s v W:List Int) (hW:∀ x ∈ W,R32 x) (A1:W.length=64) (r:Reg) (hr:r.ok) (i m:Nat) (hi:i<64) :
  ArR (m+1) (.c0 r.a r.b r.c r.d r.e r.f r.g r.h (i:Int) s v W)=ArR m (.c0 (AqH r (keysL.getD i 0) (W.getD i 0)).a (AqH r (keysL.getD i 0) (W.getD i 0)).b (AqH r (keysL.getD i 0) (W.getD i 0)).c (AqH r (keysL.getD i 0) (W.getD i 0)).d (AqH r (keysL.getD i 0) (W.getD i 0)).e (AqH r (keysL.getD i 0) (W.getD i 0)).f (AqH r (keysL.getD i 0) (W.getD i 0)).g (AqH r (keysL.getD i 0) (W.getD i 0)).h ((i+1:Nat):Int) s v W):=by
 obtain ⟨h1,h2,h3,h4,h5,h6,h7,h8⟩:=hr
 have e:AV ((i:Int)+1)=((i+1:Nat):Int):=by grind [A8]
 rw [ArR];simp only [zO,mk,e,BR,A1,KBj h5,LBj h5,MBj h5,HBj h1,IBj h1,JBj h1,AP,SG,JA8,LBg h5];rw [AL (by grind),AL (by grind),AL (by simp_all),AL (by rfl),AL (by grind)];rfl
theorem Aiv (s v W:List Int) (hW:∀ x ∈ W,R32 x) (A1:W.length=64) (r:Reg) (hr:r.ok):∀ (j i m:Nat),i+j=64->
  ArR (m+j+1) (.c0 (LZ keysL W r i).a (LZ keysL W r i).b (LZ keysL W r i).c (LZ keysL W r i).d (LZ keysL W r i).e (LZ keysL W r i).f (LZ keysL W r i).g (LZ keysL W r i).h (i:Int) s v W)=ArR m (.c1 0 s v (LZ keysL W r 64).l):=by
 intro j;induction j with
 | zero=>
  intro i m h;obtain rfl:i=64:=by omega
  rfl
 | succ j ih=>
  intro i m h;rw [show m+(j+1)+1=(m+j+1)+1 by omega,ZBj s v W hW A1 _ (GBI keysL W hr i) i _ (by omega)];exact ih (i+1) m (by omega)
theorem BBk {s:Reg} (hs:s.ok) {b:AA} (hb:b.size=64):zQ s.l b=some (comp s (bs b)).l:=by
 obtain ⟨m,hm⟩:∃ m,AY=(m+8+1)+64+1:=⟨AY - 74,by rfl⟩
 have hr:=PAp (KA8 (Jj b) 16) 48;have hl:=y9 (dD (bs b) 16) 48;have hsl:s.l.length=8:=rfl;have z0:(0:Int).toNat=0:=rfl;have z1:(1:Int).toNat=1:=rfl;have z2:(2:Int).toNat=2:=rfl;have z3:(3:Int).toNat=3:=rfl;have z4:(4:Int).toNat=4:=rfl;have z5:(5:Int).toNat=5:=rfl;have z6:(6:Int).toNat=6:=rfl;have z7:(7:Int).toNat=7:=rfl;rw [zQ,MA1,mk,XBj hb,AP,hm];simp only [hl,hsl,List.length_replicate,z0,z1,z2,z3,z4,z5,z6,z7];rw [AL (by rfl),AL (by rfl),AL (by rfl),AL (by rfl),AL (by rfl),AL (by rfl),AL (by rfl),AL (by rfl),AL (by rfl),AL (by rfl),AL (by rfl),AL (by rfl),AL (by rfl),AL (by rfl),AL (by rfl),AL (by rfl),AL (by rfl)];have h0:=Aiv s.l [0,0,0,0,0,0,0,0] _ hr hl s hs 64 0 (m+8+1) (by omega);rw [show ((0:Nat):Int)=0 from rfl] at h0;have hf:∀ i,i<8->(fun i=>w32 ((LZ keysL (sched (Ht (bs b) 16) 48) s 64).l.getD i 0+s.l.getD i 0)) i=w32 ((LZ keysL (sched (Ht (bs b) 16) 48) s 64).l.getD i 0+s.l.getD i 0):=fun _ _=>rfl
 have h1:=YBj s.l (LZ keysL (sched (Ht (bs b) 16) 48) s 64).l [0,0,0,0,0,0,0,0] rfl rfl _ hf rfl 8 0 m (by omega);rw [show ((0:Nat):Int)=0 from rfl,List.range_zero,List.map_nil,List.nil_append,List.drop_zero] at h1;have e:(List.range 8).map (fun i=>w32 ((LZ keysL (sched (Ht (bs b) 16) 48) s 64).l.getD i 0+s.l.getD i 0))=(comp s (bs b)).l:=by
  apply List.ext_getElem;·rw [Reg.zB,List.length_map,List.length_range]
  ·intro i h1 h2;have hi:i<8:=by assumption
   rw [List.getElem_map,List.getElem_range,<-getD_at h2 0];grind [comp,FBh]
 rw [e] at h1;exact h0.trans h1
theorem CBk {s:Reg} (hs:s.ok) {t:AA} (ht:t.size<=1000000000000):WAl s.l t=some ((comps (t.size / 64) s (bs t)).l,t.extract (64*(t.size / 64)) t.size):=by
 have key:∀ (j:Nat) (s:Reg) (t:AA) (m:Nat),s.ok->t.size / 64=j->t.size<=1000000000000->pO (m+j+1) (.c0 t s.l [0,0,0,0,0,0,0,0])=some ((comps j s (bs t)).l,t.extract (64*j) t.size):=by
  intro j;induction j with
  | zero=>
   intro s t m hs hj ht;rw [pO];simp only [VAl,mk,Reg.zB];rw [BF (by grind),AL (by rfl),AL (by rfl),AL (by rfl)];congr 2;simp
  | succ j ih=>
   intro s t m hs hj ht;have h64:(64:Int).toNat=64:=rfl;have e1:bs (t.extract 0 64)=(bs t).take 64:=by simp [Ap3]
   have e2:bs (t.extract 64 t.size)=(bs t).drop 64:=by simp [Ap3,List.take_of_length_le,bs_len]
   rw [show m+(j+1)+1=(m+j+1)+1 by omega,pO];simp only [VAl,mk,h64,Reg.zB];rw [AL (by grind),AL (by rfl),AL (by grind)];rw [BBk hs (b:=t.extract 0 64) (by simp;omega),AP];rw [Reg.zB];rw [AL (by rfl)];grind [IBI,Aq3,Ap3,bs_len,List.drop_drop,comps]
 obtain ⟨m,hm⟩:∃ m,AY=m+t.size / 64+1:=⟨AY - (t.size / 64+1),by have:=FM (n:=t.size / 64+1) (by omega);omega⟩
 rw [WAl,NA1,hm];grind
theorem DBk {r:Reg} (hr:r.ok):XAl r.l=some (ofBytes (GI r.l)):=by
 have hl:r.l.length=8:=rfl;have hrl:=Reg.oJ hr;have hby:∀ i,AsE (GI (r.l.take i)):=fun i=>LA8 (fun x hx=>hrl x (List.mem_of_mem_take hx))
 have key:=PV (A:=Unit) (n:=8) (Lp:=zS) (st:=fun i _=>.c0 (ofBytes (GI (r.l.take i))) r.l (i:Int)) (Inv:=fun _ _=>True) (out:=fun _ _=>some (ofBytes (GI r.l)))
  (fun m _ _=>by
   rfl)
  (fun m i _ hi _=>.inr ⟨(),by
   have e:AV ((i:Int)+1)=((i+1:Nat):Int):=by grind [A8]
   have hg:r.l.getD i 0=r.l[i]'(by omega):=getD_at (by omega) 0;have hx:R32 (r.l.getD i 0):=zA hrl i;rw [zS];simp only [PA1,mk,e,BR,AFV hx,AP,hl];rw [AL (by grind),AL (by rfl),AL (by grind),AL (by grind [Dj,KBI,four])];congr 2;apply Aq3;rw [Fa,Avo (hby i),Avo (hby (i+1)),Avo (Vx hx),take_at (by omega),UBg,hg];rfl,trivial,rfl⟩)
 rw [XAl,OA1,mk,hl,AL (by rfl)];exact key AY 0 () (DJ _) (FM (by omega)) trivial
theorem EBk:DA1=some Aqw.l:=rfl
theorem Apw {s:AA} (hs:s.size<=1000000000):Ap8 s=some (EK s):=by
 have h1:=QAp s.size;have hsz:(s++ofBytes (Hu s.size)).size=s.size+(Hu s.size).length:=by simp [Dj]
 rw [Ap8,QA1,mk,EBk,AP,FBj (n:=s.size) (by omega),AP,AL (by grind),CBk dG (by omega),AP];simp only [Reg.zB];rw [AL (by rfl),AL (by rfl),DBk (dF dG _ _),AP,hsz,Fa,Avo (MA8 _),EK,Ap6,bs_len]
theorem KA9:G9 Nb=true:=G7.2 ⟨Qh _,by rfl,(by decide:(0:Int)<=0/\(0:Int)<=3),(by decide:0<=8),(by decide:(0:Int)<=0/\(0:Int)<=1000),(by decide:(0:Int)<=0/\(0:Int)<=10000),rfl⟩
def Gf (w:AA):Ah:=⟨1,EK w,0,⟨0,0,false,false,false,false,⟨#[]⟩,0⟩⟩
noncomputable def AsM (k w:AA):Ap×Bool:=
 bif !((k.size:Int) == 32) || decide ((w.size:Int) > 20) then (IA9,false)
 else (⟨k,true,(Aqu ⟨[]⟩ (AwN k 0 (Gf w)).1 0).1,(RZ Nb (Gf w)).1,[],[],0⟩,true)
theorem xJ (w:AA):ArP (Gf w)=(ofBytes [1]++EK w,true):=by grind [ArP,Gf,Qh,AwP]
theorem IBK (w:AA):(RZ Nb (Gf w)).2=true:=by rw [RZ,KA9,xJ,show decide (Nb.fCount>=10000)=false from rfl];rfl
theorem FBk {F:AA} (h:F.size<=20000):(Aqu ⟨[]⟩ [⟨1,Awh,F,⟨#[]⟩⟩,⟨2,Awh,⟨#[]⟩,⟨#[]⟩⟩] 0).2=2:=by
 have hz:((⟨#[]⟩:AA)++F).size=F.size:=by rw [AEY];exact Nat.zero_add _
 generalize hG:(⟨#[]⟩:AA)++F=G at hz;have ok:∀ k:Int,0<=k->k<=(G.size:Int)->Ap0 ⟨[⟨Awh,G,k⟩]⟩=true:=fun k h1 h2=>by have h3:NH ⟨Awh,G,k⟩=true:=yR.2 ⟨by show (1:Int)<=4/\(4:Int)<=8;omega,by show (G.size:Int)<=20000;omega,h1,h2⟩;rw [Ap0,Arc,Arc,h3,xU (s:=Awh) (by decide)];rfl
 have a1:Gu ⟨[]⟩ ⟨1,Awh,F,⟨#[]⟩⟩=(⟨[⟨Awh,G,0⟩]⟩,true):=by
  have:Gu ⟨[]⟩ ⟨1,Awh,F,⟨#[]⟩⟩=doneD [⟨Awh,(⟨#[]⟩:AA)++F,0⟩]:=by rw [Gu];simp only [Oe];rfl
  rw [this,hG,doneD,ok 0 (Int.le_refl 0) (by omega)];rfl
 have a2:Gu ⟨[⟨Awh,G,0⟩]⟩ ⟨2,Awh,⟨#[]⟩,⟨#[]⟩⟩=(⟨[⟨Awh,G,(G.size:Int)⟩]⟩,true):=by
  have h2:Avc [⟨Awh,G,0⟩] Awh 0=some 0:=by rw [Avc,if_pos (Oe _)]
  have hp:AqY [⟨Awh,G,0⟩] ⟨Awh,G,(G.size:Int)⟩=[⟨Awh,G,(G.size:Int)⟩]:=by rw [AqY,NQ,AqJ];simp only [List.filter_cons,zL,Bool.false_or,beq_self_eq_true,DN,Bool.false_eq_true,if_false,List.filter_nil,List.nil_append,List.append_nil]
  have h0:Gu ⟨[⟨Awh,G,0⟩]⟩ ⟨2,Awh,⟨#[]⟩,⟨#[]⟩⟩=YH ⟨[⟨Awh,G,0⟩]⟩ ⟨2,Awh,⟨#[]⟩,⟨#[]⟩⟩ ⟨Awh,G,0⟩:=by rw [Gu,ok 0 (Int.le_refl 0) (by omega)];simp only [h2,Oe];rfl
  rw [h0];have:YH ⟨[⟨Awh,G,0⟩]⟩ ⟨2,Awh,⟨#[]⟩,⟨#[]⟩⟩ ⟨Awh,G,0⟩=doneD (AqY [⟨Awh,G,0⟩] ⟨Awh,G,(G.size:Int)⟩):=rfl;rw [this,hp,doneD,ok _ (by omega) (Int.le_refl _)];rfl
 rw [Aqu,a1];show (Aqu ⟨[⟨Awh,G,0⟩]⟩ [⟨2,Awh,⟨#[]⟩,⟨#[]⟩⟩] 1).2=2;rw [Aqu,a2];rfl
theorem GBk (k w:AA):GAj k w=some (AsM k w):=by
 rw [GAj,HAw,mk,AsM,bne];cases hz:(k.size:Int) == 32;·rfl
 rw [beq_iff_eq] at hz;by_cases hw:(w.size:Int) > 20;·rw [Ba hw];rfl
 rw [D6 hw,LV (s:=w) (by omega),vJ];simp only [AP,TAp (b:=Nb) (DJ _),JA9 (k:=k) (d:=⟨[]⟩) (by omega) (DJ _)];rfl
theorem L9 {c:DZ} {n:Int} (hc:HY c):Ok (Av4 c n) fun r=>HY r.2:=by rw [Av4,JAw,mk];exact Ok.bind (OO hc) fun a ha=>Ok.ret ha.2
theorem JBK {c:DZ} {l:List Int} (hc:HY c) (hl:0<l.length):Ok (zT c l) fun r=>r.1 ∈ l/\HY r.2:=by
 rw [zT,LAw,mk];refine Ok.bind (OO hc) fun a ha=>?_
 simp_all [Ok.ret]
theorem BAq {c:DZ} {l:List AA} (hc:HY c) (hl:0<l.length):Ok (pR c l) fun r=>r.1 ∈ l/\HY r.2:=by
 rw [pR,MAw,mk];refine Ok.bind (OO hc) fun a ha=>?_
 simp_all [Ok.ret]
theorem HBk {c:DZ} {n:Int} (hc:HY c) (h0:0<=n):Ok (IAj c n) fun r=>(r.1.size:Int)=min n 5000/\HY r.2:=by
 have key:∀ (j i m:Nat) (N:Nat) (a b:Int) (out:List Int),i+j=N->N<=5000->out.length=i->0<=a->Ok (dR (m+j+1) (.c0 (N:Int) (i:Int) a b out)) fun r=>r.1.size=N/\HY r.2:=by
  intro j;induction j with
  | zero=>
   intro i m N a b out hi hN ho ha;rw [dR];simp only [HAj,mk];rw [BF (by simp_all)];exact Ok.ret ⟨by grind [Dj],ha⟩
  | succ j ih=>
   intro i m N a b out hi hN ho ha;have hw:AV ((i:Int)+1)=((i+1:Nat):Int):=by grind [A8]
   rw [AwB m j,dR];simp only [HAj,mk,hw];rw [AL (by grind)];exact Ok.bind (oG (c:=⟨(),a,b⟩) ha) fun r hr=>Ok.chk (by grind) (ih (i+1) m N _ _ _ (by omega) hN (by simp [ho]) hr.2.2)
 rw [IAj,NAw];have run:∀ N:Nat,N<=5000->Ok (dR AY (.c0 (N:Int) 0 c.fI c.AyA [])) fun r=>r.1.size=N/\HY r.2:=fun N hN=>by
  obtain ⟨m,hm⟩:=gm (n:=N) (by omega)
  rw [hm];exact key N 0 m N _ _ [] (Nat.zero_add _) hN rfl hc
 refine Ok.cond (fun h=>?_) fun h=>?_
 ·grind
 ·rw [decide_eq_false_iff_not] at h;have:=run n.toNat (by omega);grind
theorem KBK {s:AA} (h:s ∈ [(⟨#[97]⟩:AA),⟨#[98]⟩,⟨#[99]⟩]):s.size=1:=by simp only [List.mem_cons,List.not_mem_nil,or_false] at h;rcases h with rfl | rfl | rfl <;> rfl
theorem IBk {c:DZ} (hc:HY c):Ok (zU c) fun r=>Ar9 r.1=true/\HY r.2:=by
 rw [zU,OAw,mk];refine Ok.bind (OO hc) fun a ha=>Ok.bind (OO ha.2) fun b hb=>Ok.bind (L9 hb.2) fun d hd=>Ok.bind (L9 hd) fun e he=>?_
 have a1:=ha.1.2.1 (by omega);have b1:=hb.1.2.1 (by omega);have hi:AV (1+a.1)=1+a.1:=A8 (by omega) (by omega);have hk:AV (1+b.1)=1+b.1:=A8 (by omega) (by omega);rw [hi,hk];have base:Ark (1+a.1) 1 1000=true/\Ark (1+b.1) 1 3=true:=⟨Aqo.2 (by omega),Aqo.2 (by omega)⟩
 have hd32:∀ s:AA,((EK s).size:Int) == 32:=fun s=>by rfl
 refine Ok.cond (fun h3=>?_) fun h3=>Ok.cond (fun h2=>?_) fun h2=>?_
 ·refine Ok.bind (OO he) fun f hf=>Ok.bind (HBk hf.2 hf.1.1) fun g hg=>Ok.ret ⟨?_,hg.2⟩
  have f1:=hf.1.2.1 (by omega);rw [beq_iff_eq] at h3;rw [Ar9,base.1,base.2,h3,Ba (by omega:(g.1.size:Int)<=100)];rfl
 ·refine Ok.bind (OO he) fun f hf=>Ok.bind (L9 hf.2) fun g hg=>Ok.bind (BAq hg (by decide)) fun t ht=>Ok.bind (Ok.eq (LV (by simp_all [KBK]))) fun v hv=>Ok.ret ⟨?_,ht.2⟩
  grind [Ar9,Aqo]
 ·refine Ok.bind (L9 he) fun g hg=>Ok.bind (BAq hg (by decide)) fun t ht=>Ok.bind (Ok.eq (LV (by simp_all [KBK]))) fun v hv=>Ok.ret ⟨?_,ht.2⟩
  grind [Aqo,Ar9]
def Apz (b:Bo):List Ah->Bo×Bool
 | []=>(b,true)
 | r::rs=>bif (RZ b r).2 then Apz (RZ b r).1 rs else (oU,false)
theorem LA9 {b:Bo} {r:Ah} (h:(RZ b r).2=true):(RZ b r).1.AZ.length<=8:=(G7.1 (Arn h).2.2.2.1).2.2.2.1
theorem JBk {rs:List Ah}:∀ {b:Bo},G9 b=true->(Apz b rs).2=true->G9 (Apz b rs).1=true:=by induction rs<;>grind [Apz,RZ,Arn]
theorem fV {l k:List Ah}:∀ {b:Bo},Apz b (l++k)=bif (Apz b l).2 then Apz (Apz b l).1 k else (oU,false):=by induction l<;>grind [Apz]
theorem MA9 {b:Bo} {l:List Ah} (w:Nat) (h:(Apz b l).2=true):(Apz b (l.take w)).2=true:=by grind [fV,List.take_append_drop]
theorem KBk {l:List Ah}:∀ {b:Bo},(Apz b l).2=true->(Apz b l).1.fCount=b.fCount+(l.length:Int):=by induction l<;>grind [Apz,RZ]
def pw (k:Nat):Int:=128 ^ k
theorem WQ:pw 0=1:=rfl
theorem NA9 (k:Nat):pw (k+1)=pw k*128:=Int.pow_succ ..
theorem LBk {k:Nat} (h:k<5):pw k=1\/pw k=128\/pw k=16384\/pw k=2097152\/pw k=268435456:=by
 rcases (by omega:k=0\/k=1\/k=2\/k=3\/k=4) with rfl | rfl | rfl | rfl | rfl
 ·exact .inl rfl
 ·exact .inr (.inl rfl)
 ·exact .inr (.inr (.inl rfl))
 ·exact .inr (.inr (.inr (.inl rfl)))
 ·exact .inr (.inr (.inr (.inr rfl)))
def U2:Int×Int×Bool:=(0,0,false)
def AIW (text:AA) (a:Nat) (r:Int×Int×Bool):Prop:=r=U2\/∃ v:Int,∃ q:Nat,r=(v,((q:Nat):Int),true)/\0<=v/\v<=1000000000/\a<q/\q<=text.size
def At (text:AA) (p:Nat) (l:List Int):Prop:=∃ rest,(bs text).drop p=l++rest
theorem At.left {text:AA} {p:Nat} {l m:List Int} (h:At text p (l++m)):At text p l:=by obtain ⟨r,hr⟩:=h;exact ⟨m++r,by simp_all⟩
theorem At.right {text:AA} {p:Nat} {l m:List Int} (h:At text p (l++m)):At text (p+l.length) m:=by obtain ⟨r,hr⟩:=h;exact ⟨r,by grind [List.drop_drop,List.drop_left]⟩
theorem At.size {text:AA} {p:Nat} {l:List Int} (h:At text p l):l=[]\/p+l.length<=text.size:=by
 obtain ⟨r,hr⟩:=h
 have:=congrArg List.length hr;rw [List.length_drop,bs_len,List.length_append] at this;cases l<;>grind
theorem At.head {text:AA} {p:Nat} {x:Int} {l:List Int} (h:At text p (x::l)):p<text.size/\bt text (p:Int)=x:=by
 have hs:p+(x::l).length<=text.size:=by rcases h.size with h | h;all_goals simp_all
 simp only [List.length_cons] at hs;have hp:p<text.size:=by omega
 refine ⟨hp,?_⟩;rw [Zo hp];obtain ⟨r,hr⟩:=h
 simp_all [bs,List.drop_eq_getElem_cons]
theorem At.extract {text:AA} {p:Nat} {l:List Int} (h:At text p l) (hl:∀ n,n ∈ l->0<=n/\n<=255):text.extract p (p+l.length)=ofBytes l:=by
 apply Aq3;rw [Ap3,Avo hl];obtain ⟨r,hr⟩:=h
 simp_all [List.drop_take]
theorem Rz:∀ (n:Int),0<=n->∀ x,x ∈ SN n->0<=x/\x<=255:=by intro n;induction n using SN.induct<;>grind [SN,Nq]
theorem dS {n:Int} (h:0<=n) (h2:n<=127):SN n=[n]:=by grind [SN,Nq]
theorem LBK {n:Int} (h:n<=1000000000):(SN n).length<=5:=by have:=VBI 5 n (by omega);omega
theorem CAq {text:AA} {a k m:Nat} {n s:Int} (hs:text.size<=140737488351232) (ha:a<=text.size) (hi:text.size<=a+k\/5<=k):Avf (m+1) (.c0 text a n s ((a+k:Nat):Int))=some U2:=by
 simp only [Avf,RAj,mk];by_cases h:a+k<text.size;·rw [show decide (((a+k:Nat):Int)<(text.size:Int))=true from Ba (by omega),A8 (n:=(a:Int)+5) (by omega) (by omega),show decide (((a+k:Nat):Int)<(a:Int)+5)=false from D6 (by omega)];rfl
 ·rw [show decide (((a+k:Nat):Int)<(text.size:Int))=false from D6 (by omega)];rfl
theorem Yk {k:Nat} {n b:Int} (hk:k<5) (h0:0<=n) (h1:n<pw k) (hb:0<=b/\b<=255) :
  (b<128->b.tmod 128=b/\AV (b*pw k)=b*pw k/\AV (n+b*pw k)=n+b*pw k/\0<=n+b*pw k/\n+b*pw k<pw (k+1))/\
  (¬ b<128->b.tmod 128=b - 128/\AV ((b - 128)*pw k)=(b - 128)*pw k/\AV (n+(b - 128)*pw k)=n+(b - 128)*pw k/\0<=n+(b - 128)*pw k/\n+(b - 128)*pw k<pw (k+1))/\AV (pw k*128)=pw (k+1):=by
 rw [NA9];have e:b.tmod 128=b % 128:=Int.tmod_eq_emod_of_nonneg hb.1;refine ⟨fun h=>?_,fun h=>?_,?_⟩;all_goals grind [LBk,A8]
theorem DAq {text:AA} {a k m:Nat} {n b:Int} (hs:text.size<=140737488351232) (hk:k<5) (hi:a+k<text.size) (h0:0<=n) (h1:n<pw k) (hb:bt text ((a+k:Nat):Int)=b) :
  Avf (m+1) (.c0 text a n (pw k) ((a+k:Nat):Int))=if b<128 then (if n+b*pw k > 1000000000 then some U2 else if ofBytes (SN (n+b*pw k))=text.extract a (a+k+1) then some (n+b*pw k,((a+k+1:Nat):Int),true) else some U2) else Avf m (.c0 text a (n+(b - 128)*pw k) (pw (k+1)) ((a+k+1:Nat):Int)):=by
 have hb':=Rx text ((a+k:Nat):Int);rw [hb] at hb';obtain ⟨n1,n2,n3⟩:=Yk hk h0 h1 hb'
 have hw:AV (((a+k:Nat):Int)+1)=((a+k+1:Nat):Int):=by grind [A8]
 simp only [Avf,RAj,mk,hb,A8 (n:=b) (by omega) (by omega),n3,hw,BR]
 rw [show decide (((a+k:Nat):Int)<(text.size:Int))=true from Ba (by omega),A8 (n:=(a:Int)+5) (by omega) (by omega),show decide (((a+k:Nat):Int)<(a:Int)+5)=true from Ba (by omega),
  show decide ((0:Int)<=((a+k:Nat):Int))=true from Ba (by omega)]
 simp only [Bool.and_self,Ar];by_cases h:b<128
 ·obtain ⟨e1,e2,e3,e4,_⟩:=n1 h
  rw [if_pos h,e1,e2,e3,show decide (b<128)=true from Ba h];by_cases h2:n+b*pw k > 1000000000;·rw [if_pos h2,show decide (n+b*pw k > 1000000000)=true from Ba h2];rfl
  ·rw [if_neg h2,show decide (n+b*pw k > 1000000000)=false from D6 h2,Un (by omega)];simp only [Ar,Aq,AP];rw [show decide ((0:Int)<=(a:Int))=true from Ba (by omega),show decide ((a:Int)<=((a+k+1:Nat):Int))=true from Ba (by omega),show decide (((a+k+1:Nat):Int)<=(text.size:Int))=true from Ba (by omega),toList_inj];by_cases h3:ofBytes (SN (n+b*pw k))=text.extract a (a+k+1);·simp_all
   ·rw [if_neg h3,D6 h3];rfl
 grind
theorem MBk {text:AA} {a:Nat} (hs:text.size<=140737488351232) (ha:a<=text.size):∀ j k m n,k+j=5->j<m->0<=n->n<pw k->∃ r,Avf m (.c0 text a n (pw k) ((a+k:Nat):Int))=some r/\AIW text a r:=by
 intro j;induction j with
 | zero=>
  intro k m n hk hm _ _;obtain ⟨m,rfl⟩:∃ q,m=q+1:=⟨m - 1,by omega⟩
  exact ⟨_,CAq hs ha (.inr (by omega)),.inl rfl⟩
 | succ j ih=>
  intro k m n hk hm h0 h1;obtain ⟨m,rfl⟩:∃ q,m=q+1:=⟨m - 1,by omega⟩
  by_cases hi:a+k<text.size
  ·have hb:=Rx text ((a+k:Nat):Int);generalize hbe:bt text ((a+k:Nat):Int)=b at hb;obtain ⟨n1,n2,_⟩:=Yk (b:=b) (by omega:k<5) h0 h1 hb
   rw [DAq hs (by omega) hi h0 h1 hbe];split
   ·rename_i h;split;·exact ⟨_,rfl,.inl rfl⟩
    ·split;·exact ⟨_,rfl,.inr ⟨_,_,rfl,(n1 h).2.2.2.1,by omega,by omega,by omega⟩⟩
     ·exact ⟨_,rfl,.inl rfl⟩
   ·rename_i h;obtain ⟨_,_,_,e4,e5⟩:=n2 h
    exact ih (k+1) m _ (by omega) (by omega) e4 e5
  ·exact ⟨_,CAq hs ha (.inl (by omega)),.inl rfl⟩
theorem NBk {text:AA} {a:Nat} {V:Int} (hs:text.size<=140737488351232) (hV0:0<=V) (hV:V<=1000000000) (hA:At text a (SN V)):∀ U k m n,SN U=(SN V).drop k->0<=U->n+pw k*U=V->0<=n->n<pw k->5<m+k->Avf m (.c0 text a n (pw k) ((a+k:Nat):Int))=some (V,((a+(SN V).length:Nat):Int),true):=by
 have h5:=LBK hV;intro U;induction U using SN.induct with
 | case1 U hU ih=>
  intro k m n e1 u0 e2 h0 h1 hm;have hl:=congrArg List.length e1;rw [List.length_drop] at hl;have hp:=ArT U;have hk:k<5:=by omega
  obtain ⟨m,rfl⟩:∃ q,m=q+1:=⟨m - 1,by omega⟩
  have hA':At text (a+k) (SN U):=by
   have:At text a ((SN V).take k++(SN V).drop k):=by simp_all
   have:=this.right;grind
  have e3:=e1;rw [SN,if_pos hU] at hA' e3;obtain ⟨hi,hb⟩:=hA'.head
  obtain ⟨n1,n2,_⟩:=Yk (b:=128+U % 128) hk h0 h1 (by omega)
  obtain ⟨_,_,_,e4,e5⟩:=n2 (by omega)
  rw [DAq hs hk hi h0 h1 hb,if_neg (by omega)];refine ih (k+1) m _ ?_ (by omega) ?_ e4 e5 (by omega);·rw [<-List.drop_drop,<-e3];rfl
  grind [NA9]
 | case2 U hU=>
  intro k m n e1 u0 e2 h0 h1 hm;have hl:=congrArg List.length e1;rw [List.length_drop] at hl;have hp:=ArT U;have hk:k<5:=by omega
  obtain ⟨m,rfl⟩:∃ q,m=q+1:=⟨m - 1,by omega⟩
  have hA':At text (a+k) (SN U):=by
   have:At text a ((SN V).take k++(SN V).drop k):=by simp_all
   have:=this.right;grind
  rw [dS u0 (by omega)] at hA' hl;simp only [List.length_singleton] at hl;obtain ⟨hi,hb⟩:=hA'.head
  have e3:n+U*pw k=V:=by simp_all [Int.mul_comm]
  have e4:a+k+1=a+(SN V).length:=by omega
  rw [DAq hs hk hi h0 h1 hb,if_pos (by omega),e3,if_neg (by omega),e4,if_pos (hA.extract (Rz V hV0)).symm]
theorem OBk {text:AA} {a:Nat} (hs:text.size<=140737488351232) (ha:a<=text.size):∃ r,RH text a=some r/\AIW text a r:=by simp only [RH,zV,mk,Hf,AP];rw [show Ark (a:Int) 0 (text.size:Int)=true from Aqo.2 ⟨by omega,by omega⟩];exact MBk hs ha 5 0 AY 0 rfl (FM (by omega)) (by omega) (by simp [WQ])
theorem MBK {text:AA} {a:Nat} {V:Int} (hs:text.size<=140737488351232) (hV0:0<=V) (hV:V<=1000000000) (hA:At text a (SN V)):RH text a=some (V,((a+(SN V).length:Nat):Int),true):=by
 have ha:a+(SN V).length<=text.size:=by
  rcases hA.size with h | h
  all_goals grind [ArT]
 simp only [RH,zV,mk,Hf,AP];rw [show Ark (a:Int) 0 (text.size:Int)=true from Aqo.2 ⟨by omega,by omega⟩];exact NBk hs hV0 hV hA V 0 AY 0 (by simp) hV0 (by simp [WQ]) (by omega) (by simp [WQ]) (by simp [FM])
theorem Ti (x a b:Int):Fv x a b=some (Ark x a b):=by show (bif decide (a<=x) then some (decide (x<=b)) else some false)=some (Ark x a b);grind [Ark]
theorem PBk {k:Nat} (h:k<5):(2:Int) ^ (Min.min (AV (7*(k:Int))).toNat (IntKind.bits IntKind.i64))=pw k/\AV (7*(k:Int))=7*(k:Int):=by refine ⟨?_,A8 (by omega) (by omega)⟩;rcases (by omega:k=0\/k=1\/k=2\/k=3\/k=4) with rfl | rfl | rfl | rfl | rfl <;> kernel_rfl
theorem EAq {text:AA} {a k m:Nat} {n:Int} (hs:text.size<=140737488351232) (ha:a<=text.size) (hk:k<=5) (hi:text.size<=a+k\/5<=k):AqQ (m+1) (.c0 text a n k)=some U2:=by
 simp only [AqQ,UAm,mk];by_cases h:k<5;·rw [show decide ((k:Int)<5)=true from Ba (by omega),A8 (n:=(a:Int)+k) (by omega) (by omega),show decide ((a:Int)+k<(text.size:Int))=false from D6 (by omega)];rfl
 ·rw [show decide ((k:Int)<5)=false from D6 (by omega)];rfl
theorem FAq {text:AA} {a k m:Nat} {n b:Int} (hs:text.size<=140737488351232) (hk:k<5) (hi:a+k<text.size) (h0:0<=n) (h1:n<pw k) (hb:bt text ((a+k:Nat):Int)=b) :
  AqQ (m+1) (.c0 text a n k)=if b<128 then (if b=0/\0<k\/n+b*pw k > 1000000000 then some U2 else some (n+b*pw k,((a+k+1:Nat):Int),true)) else AqQ m (.c0 text a (n+(b - 128)*pw k) ((k+1:Nat):Int)):=by
 have hb':=Rx text ((a+k:Nat):Int);rw [hb] at hb';obtain ⟨n1,n2,n3⟩:=Yk hk h0 h1 hb'
 obtain ⟨p1,p2⟩:=PBk hk
 rw [p2] at p1;have ha:AV ((a:Int)+(k:Int))=((a+k:Nat):Int):=by grind [A8]
 have hw:AV (((a+k:Nat):Int)+1)=((a+k+1:Nat):Int):=by grind [A8]
 have hw2:AV ((k:Int)+1)=((k+1:Nat):Int):=by grind [A8]
 simp only [AqQ,UAm,mk,ha,hb,A8 (n:=b) (by omega) (by omega),p2,p1,hw,hw2]
 rw [show decide (((a+k:Nat):Int)<(text.size:Int))=true from Ba (by omega),show decide ((k:Int)<5)=true from Ba (by omega),show decide ((0:Int)<=7*(k:Int))=true from Ba (by omega),
  show decide ((0:Int)<=((a+k:Nat):Int))=true from Ba (by omega)]
 simp only [Bool.and_self,Ar];by_cases h:b<128
 ·obtain ⟨e1,e2,e3,e4,_⟩:=n1 h
  rw [if_pos h,e1,e2,e3,show decide (b<128)=true from Ba h];simp only [Ar];by_cases hz:b=0
  ·rw [show (b == 0)=true from beq_iff_eq.2 hz];by_cases hk0:0<k;·rw [if_pos (.inl ⟨hz,hk0⟩),show decide ((k:Int) > 0)=true from Ba (by omega)];rfl
   grind
  ·rw [show (b == 0)=false from beq_eq_false_iff_ne.2 hz];by_cases h2:n+b*pw k > 1000000000;·rw [if_pos (.inr h2),show decide (n+b*pw k > 1000000000)=true from Ba h2];rfl
   grind
 grind
theorem QBk {text:AA} {a:Nat} (hs:text.size<=140737488351232) (ha:a<=text.size):∀ j k m n,k+j=5->j<m->0<=n->n<pw k->∃ r,AqQ m (.c0 text a n k)=some r/\AIW text a r:=by
 intro j;induction j with
 | zero=>
  intro k m n hk hm _ _;obtain ⟨m,rfl⟩:∃ q,m=q+1:=⟨m - 1,by omega⟩
  exact ⟨_,EAq hs ha (by omega) (.inr (by omega)),.inl rfl⟩
 | succ j ih=>
  intro k m n hk hm h0 h1;obtain ⟨m,rfl⟩:∃ q,m=q+1:=⟨m - 1,by omega⟩
  by_cases hi:a+k<text.size
  ·have hb:=Rx text ((a+k:Nat):Int);generalize hbe:bt text ((a+k:Nat):Int)=b at hb;obtain ⟨n1,n2,_⟩:=Yk (b:=b) (by omega:k<5) h0 h1 hb
   rw [FAq hs (by omega) hi h0 h1 hbe];split
   ·rename_i h;split;·exact ⟨_,rfl,.inl rfl⟩
    ·exact ⟨_,rfl,.inr ⟨_,_,rfl,(n1 h).2.2.2.1,by omega,by omega,by omega⟩⟩
   ·rename_i h;obtain ⟨_,_,_,e4,e5⟩:=n2 h
    exact ih (k+1) m _ (by omega) (by omega) e4 e5
  ·exact ⟨_,EAq hs ha (by omega) (.inl (by omega)),.inl rfl⟩
theorem RBk {text:AA} {a:Nat} {V:Int} (hs:text.size<=140737488351232) (hV:V<=1000000000) (hA:At text a (SN V)):∀ U k m n,SN U=(SN V).drop k->0<=U->(0<k->0<U)->n+pw k*U=V->0<=n->n<pw k->5<m+k->AqQ m (.c0 text a n k)=some (V,((a+(SN V).length:Nat):Int),true):=by
 have h5:=LBK hV;intro U;induction U using SN.induct with
 | case1 U hU ih=>
  intro k m n e1 u0 Gc e2 h0 h1 hm;have hl:=congrArg List.length e1;rw [List.length_drop] at hl;have hp:=ArT U;have hk:k<5:=by omega
  obtain ⟨m,rfl⟩:∃ q,m=q+1:=⟨m - 1,by omega⟩
  have hA':At text (a+k) (SN U):=by
   have:At text a ((SN V).take k++(SN V).drop k):=by simp_all
   have:=this.right;grind
  have e3:=e1;rw [SN,if_pos hU] at hA' e3;obtain ⟨hi,hb⟩:=hA'.head
  obtain ⟨n1,n2,_⟩:=Yk (b:=128+U % 128) hk h0 h1 (by omega)
  obtain ⟨_,_,_,e4,e5⟩:=n2 (by omega)
  rw [FAq hs hk hi h0 h1 hb,if_neg (by omega)];refine ih (k+1) m _ ?_ (by omega) (fun _=>by omega) ?_ e4 e5 (by omega);·rw [<-List.drop_drop,<-e3];rfl
  grind [NA9]
 | case2 U hU=>
  intro k m n e1 u0 Gc e2 h0 h1 hm;have hl:=congrArg List.length e1;rw [List.length_drop] at hl;have hp:=ArT U;have hk:k<5:=by omega
  obtain ⟨m,rfl⟩:∃ q,m=q+1:=⟨m - 1,by omega⟩
  have hA':At text (a+k) (SN U):=by
   have:At text a ((SN V).take k++(SN V).drop k):=by simp_all
   have:=this.right;grind
  rw [dS u0 (by omega)] at hA' hl;simp only [List.length_singleton] at hl;obtain ⟨hi,hb⟩:=hA'.head
  grind [FAq]
theorem OA9 {text:AA} {a:Nat} (hs:text.size<=140737488351232) (ha:a<=text.size):∃ r,Us text a=some r/\AIW text a r:=by simp only [Us,zW,mk,Ti,AP];rw [show Ark (a:Int) 0 (text.size:Int)=true from Aqo.2 ⟨by omega,by omega⟩];exact QBk hs ha 5 0 AY 0 rfl (FM (by omega)) (by omega) (by simp [WQ])
theorem zX {text:AA} {a:Nat} {V:Int} (hs:text.size<=140737488351232) (hV0:0<=V) (hV:V<=1000000000) (hA:At text a (SN V)):Us text a=some (V,((a+(SN V).length:Nat):Int),true):=by
 have ha:a+(SN V).length<=text.size:=by
  rcases hA.size with h | h
  all_goals grind [ArT]
 simp only [Us,zW,mk,Ti,AP];rw [show Ark (a:Int) 0 (text.size:Int)=true from Aqo.2 ⟨by omega,by omega⟩];exact RBk hs hV hA V 0 AY 0 (by simp) hV0 (fun h=>absurd h (Nat.lt_irrefl 0)) (by simp [WQ]) (by omega) (by simp [WQ]) (by simp [FM])
def zY (text:AA) (a:Nat) (r:Int×Int×Bool):Prop:=r=U2\/∃ v:Int,r=(v,((a+(SN v).length:Nat):Int),true)/\0<=v/\v<=1000000000/\At text a (SN v)
theorem SBk {text:AA} {a:Nat} (hs:text.size<=140737488351232) (ha:a<=text.size):∀ j k m n,k+j=5->j<m->0<=n->n<pw k->∃ r,Avf m (.c0 text a n (pw k) ((a+k:Nat):Int))=some r/\zY text a r:=by
 intro j;induction j with
 | zero=>
  intro k m n hk hm _ _;obtain ⟨m,rfl⟩:∃ q,m=q+1:=⟨m - 1,by omega⟩
  exact ⟨_,CAq hs ha (.inr (by omega)),.inl rfl⟩
 | succ j ih=>
  intro k m n hk hm h0 h1;obtain ⟨m,rfl⟩:∃ q,m=q+1:=⟨m - 1,by omega⟩
  by_cases hi:a+k<text.size
  ·have hb:=Rx text ((a+k:Nat):Int);generalize hbe:bt text ((a+k:Nat):Int)=b at hb;obtain ⟨n1,n2,_⟩:=Yk (b:=b) (by omega:k<5) h0 h1 hb
   rw [DAq hs (by omega) hi h0 h1 hbe];split
   ·rename_i h;have hv0:=(n1 h).2.2.2.1;split;·exact ⟨_,rfl,.inl rfl⟩
    ·split;·rename_i h2;have h3:=congrArg bs h2;rw [Avo (Rz _ hv0),Ap3] at h3;have hl:=congrArg List.length h3;rw [List.length_drop,List.length_take,bs_len,Nat.min_eq_left (by omega)] at hl;refine ⟨_,rfl,.inr ⟨_,by rw [show a+k+1=a+(SN (n+b*pw k)).length by omega],hv0,by omega,(bs text).drop (a+k+1),?_⟩⟩;grind [List.drop_take,List.drop_drop,Nat.add_sub_cancel_left,List.take_append_drop]
     ·exact ⟨_,rfl,.inl rfl⟩
   ·rename_i h;obtain ⟨_,_,_,e4,e5⟩:=n2 h
    exact ih (k+1) m _ (by omega) (by omega) e4 e5
  ·exact ⟨_,CAq hs ha (.inl (by omega)),.inl rfl⟩
theorem NBK {text:AA} {p:Nat} (hp:p<text.size) {l:List Int} (h:At text (p+1) l):At text p (bt text (p:Int)::l):=by
 obtain ⟨r,hr⟩:=h
 refine ⟨r,?_⟩;simp_all [drop_at,bs_len,Zo]
theorem TBk {text:AA} {a:Nat} (hs:text.size<=140737488351232) (ha:a<=text.size):∀ j k m n,k+j=5->j<m->0<=n->n<pw k->∃ r,AqQ m (.c0 text a n k)=some r/\(r=U2\/∃ U:Int,r=(n+pw k*U,((a+k+(SN U).length:Nat):Int),true)/\0<=U/\(0<k->0<U)/\n+pw k*U<=1000000000/\At text (a+k) (SN U)):=by
 intro j;induction j with
 | zero=>
  intro k m n hk hm _ _;obtain ⟨m,rfl⟩:∃ q,m=q+1:=⟨m - 1,by omega⟩
  grind [EAq]
 | succ j ih=>
  intro k m n hk hm h0 h1;obtain ⟨m,rfl⟩:∃ q,m=q+1:=⟨m - 1,by omega⟩
  by_cases hi:a+k<text.size
  ·have hb:=Rx text ((a+k:Nat):Int);generalize hbe:bt text ((a+k:Nat):Int)=b at hb;obtain ⟨n1,n2,_⟩:=Yk (b:=b) (by omega:k<5) h0 h1 hb
   rw [FAq hs (by omega) hi h0 h1 hbe];split
   ·rename_i h;split;·simp
    ·rename_i h2;have e1:=dS hb.1 (by omega:b<=127);refine ⟨_,rfl,.inr ⟨b,by simp_all [Int.mul_comm],hb.1,fun hk0=>by omega,by simp_all [Int.mul_comm],?_⟩⟩;rw [e1,<-hbe];exact NBK hi ⟨_,rfl⟩
   ·rename_i h;obtain ⟨_,_,_,e4,e5⟩:=n2 h
    obtain ⟨r,hr,hR⟩:=ih (k+1) m _ (by omega) (by omega) e4 e5
    refine ⟨r,hr,?_⟩;rcases hR with hR | ⟨U,hR,hU,Gb,DA,hA⟩
    ·simp_all
    ·have Hj:=Gb (by omega);have e6:SN (b - 128+128*U)=b::SN U:=by rw [SN,if_pos (by omega),show (b - 128+128*U) / 128=U by omega,show 128+(b - 128+128*U) % 128=b by omega]
     have e7:n+(b - 128)*pw k+pw (k+1)*U=n+pw k*(b - 128+128*U):=by grind [pw]
     refine .inr ⟨b - 128+128*U,?_,by omega,fun _=>by omega,by omega,?_⟩;·rw [hR,e6,e7,List.length_cons,show a+(k+1)+(SN U).length=a+k+((SN U).length+1) by omega]
     ·rw [e6,<-hbe];exact NBK hi hA
  grind [EAq]
theorem UBk {text:AA} {a:Nat} (hs:text.size<=140737488351232) (ha:a<=text.size):∃ r,RH text a=some r/\zY text a r:=by simp only [RH,zV,mk,Hf,AP];rw [show Ark (a:Int) 0 (text.size:Int)=true from Aqo.2 ⟨by omega,by omega⟩];exact SBk hs ha 5 0 AY 0 rfl (FM (by omega)) (by omega) (by simp [WQ])
theorem VBk {text:AA} {a:Nat} (hs:text.size<=140737488351232) (ha:a<=text.size):∃ r,Us text a=some r/\zY text a r:=by
 simp only [Us,zW,mk,Ti,AP];rw [show Ark (a:Int) 0 (text.size:Int)=true from Aqo.2 ⟨by omega,by omega⟩];obtain ⟨r,hr,hR⟩:=TBk hs ha 5 0 AY 0 rfl (FM (by omega)) (by omega) (by simp [WQ])
 refine ⟨r,hr,?_⟩;rcases hR with hR | ⟨U,hR,hU,_,DA,hA⟩
 ·exact .inl hR
 ·rw [WQ,Int.zero_add,Int.one_mul] at hR DA;exact .inr ⟨U,hR,hU,DA,hA⟩
theorem PA9 {n:Int} (h:0<=n):(n<=127/\SN n=[n])\/(127<n/\SN n=(128+n % 128)::SN (n / 128)):=by grind [dS,SN]
theorem WBk:∀ (n:Nat) (v w:Int) (r s:List Int),v.toNat<=n->0<=v->0<=w->SN v++r=SN w++s->v=w:=by
 intro n;induction n with
 | zero=>
  intro v w r s hn hv hw h;have hv0:v=0:=by omega
  grind [dS,PA9]
 | succ n ih=>
  intro v w r s hn hv hw h;rcases PA9 hv with ⟨g1,g2⟩ | ⟨g1,g2⟩ <;> rcases PA9 hw with ⟨h1,h2⟩ | ⟨h1,h2⟩ <;> rw [g2,h2] at h <;> injection h with h3 h4
  ·omega
  ·omega
  ·have:=ih (v / 128) (w / 128) r s (by omega) (by omega) (by omega) h4;omega
theorem XBk {text:AA} {a:Nat} {v w:Int} (hv:0<=v) (hw:0<=w) (h:At text a (SN v)) (k:At text a (SN w)):v=w:=by
 obtain ⟨r,hr⟩:=h
 obtain ⟨s,hs⟩:=k
 exact WBk v.toNat v w r s (Nat.le_refl _) hv hw (hr.symm.trans hs)
noncomputable def Gl (text:AA) (a:Nat):Int×Int×Bool:=@dite _ (∃ v:Int,0<=v/\v<=1000000000/\At text a (SN v)) (Classical.propDecidable _) (fun h=>(h.choose,((a+(SN h.choose).length:Nat):Int),true)) (fun _=>U2)
theorem OBK {text:AA} {a:Nat} {o:Option (Int×Int×Bool)} (h1:∃ r,o=some r/\zY text a r) (h2:∀ V:Int,0<=V->V<=1000000000->At text a (SN V)->o=some (V,((a+(SN V).length:Nat):Int),true)):o=some (Gl text a):=by
 unfold Gl;split;·grind
 ·rename_i h;obtain ⟨r,hr,rfl | ⟨v,_,k1,k2,k3⟩⟩:=h1
  all_goals simp_all
theorem PBK {text:AA} {a:Nat} (hs:text.size<=140737488351232) (ha:a<=text.size):RH text a=some (Gl text a):=OBK (UBk hs ha) (fun V h0 h1 hA=>MBK hs h0 h1 hA)
theorem QBK {text:AA} {a:Nat} (hs:text.size<=140737488351232) (ha:a<=text.size):Us text a=some (Gl text a):=OBK (VBk hs ha) (fun V h0 h1 hA=>zX hs h0 h1 hA)
theorem tJ {text:AA} {a:Nat} (hs:text.size<=140737488351232) (ha:a<=text.size):zY text a (Gl text a):=by
 unfold Gl;split
 ·rename_i h;obtain ⟨k1,k2,k3⟩:=h.choose_spec
  exact .inr ⟨_,rfl,k1,k2,k3⟩
 ·exact .inl rfl
theorem QA9 {text:AA} {a:Nat} {V:Int} (hs:text.size<=140737488351232) (hV0:0<=V) (hV:V<=1000000000) (hA:At text a (SN V)):Gl text a=(V,((a+(SN V).length:Nat):Int),true):=by unfold Gl;split;all_goals grind [XBk]
noncomputable def N9 (file:AA) (a:Nat):Option (AA×Nat):=
 bif (Gl file a).2.2 && (Ark (Gl file a).1 1 9000 && (decide ((Gl file a).1<=(file.size:Int) - (Gl file a).2.1 - 4) &&
  (bs (file.extract (Gl file a).2.1.toNat ((Gl file a).2.1+4).toNat) == four (Uj (bs (file.extract ((Gl file a).2.1+4).toNat ((Gl file a).2.1+4+(Gl file a).1).toNat))))))
 then some (file.extract ((Gl file a).2.1+4).toNat ((Gl file a).2.1+4+(Gl file a).1).toNat,((Gl file a).2.1+4+(Gl file a).1).toNat) else none
noncomputable def Jf:Nat->AA->Nat->List AA×Nat
 | 0,_,a=>([],a)
 | j+1,file,a=>match N9 file a with
  | none=>([],a)
  | some p=>(p.1::(Jf j file p.2).1,(Jf j file p.2).2)
noncomputable def PL (file:AA):List AA×Int:=bif decide ((file.size:Int) > 20000) then ([],0) else ((Jf (file.size+1) file 0).1,((Jf (file.size+1) file 0).2:Int))
theorem kH {file:AA} {a:Nat} (hs:file.size<=140737488351232) (ha:a<=file.size):(N9 file a=none)\/∃ (v:Int) (q:Nat),Gl file a=(v,(q:Int),true)/\a<q/\q=a+(SN v).length/\1<=v/\v<=9000/\q+4+v.toNat<=file.size/\At file a (SN v)/\
  bs (file.extract q (q+4))=four (Uj (bs (file.extract (q+4) (q+4+v.toNat))))/\N9 file a=some (file.extract (q+4) (q+4+v.toNat),q+4+v.toNat):=by
 rw [N9];rcases tJ hs ha with h | ⟨v,h,h0,h1,hA⟩
 ·left;rw [h];rfl
 ·rw [h];have hp:=ArT v;have hsz:=hA.size.resolve_left (by grind);generalize hq:a+(SN v).length=q at hsz;simp only [Bool.true_and];cases h2:Ark v 1 9000;all_goals grind [Aqo]
def ArG:List AA->List Int
 | []=>[]
 | t::ts=>Ard (bs t)++ArG ts
def whole:List AA->Nat->Nat
 | [],_=>0
 | t::ts,K=>if (Ard (bs t)).length<=K then whole ts (K - (Ard (bs t)).length)+1 else 0
theorem yU (l:List Int):(Ard l).length=(SN (l.length:Int)).length+4+l.length:=by grind [four,Ard]
theorem RBK (ts us:List AA):ArG (ts++us)=ArG ts++ArG us:=by induction ts<;>simp_all [ArG]
theorem GAq (ts:List AA):∀ K,whole ts K<=K/\whole ts K<=ts.length/\(ArG (ts.take (whole ts K))).length<=K:=by induction ts<;>grind [whole,yU,ArG]
theorem RA9 (ts:List AA):∀ K,(ArG ts).length<=K->whole ts K=ts.length:=by induction ts<;>grind [ArG,whole]
theorem YBk {file l:AA} {a:Nat} (hs:file.size<=140737488351232) (h1:1<=l.size) (h2:l.size<=9000) (hA:At file a (Ard (bs l))):N9 file a=some (l,a+(Ard (bs l)).length):=by
 have hA':At file a (SN (l.size:Int)++(four (Uj (bs l))++bs l)):=by simp_all [Ard,bs_len]
 have e1:=QA9 hs (by omega) (by omega) hA'.left;have hB:=hA'.right;have hC:=hB.right;have h4:(four (Uj (bs l))).length=4:=rfl;have hx4:=hB.left.extract (Vx (X5 (bs l)));have hxl:=hC.extract (Jj l);rw [h4] at hx4 hxl hC;rw [bs_len,y5] at hxl;have hz:a+(SN (l.size:Int)).length+4+l.size<=file.size:=by
  rcases hC.size with h | h
  all_goals grind [bs_len]
 have hlen:=yU (bs l);rw [bs_len] at hlen;rw [N9,e1,hlen];generalize (SN (l.size:Int)).length=n at hx4 hxl hz;dsimp only;have t0:((a+n:Nat):Int).toNat=a+n:=BR _;have t1:(((a+n:Nat):Int)+4).toNat=a+n+4:=by omega
 have t2:(((a+n:Nat):Int)+4+(l.size:Int)).toNat=a+n+4+l.size:=by omega
 rw [t0,t1,t2,hx4,hxl,Avo (Vx (X5 (bs l))),beq_self_eq_true,Aqo.2 (show 1<=(l.size:Int)/\(l.size:Int)<=9000 by omega),show decide ((l.size:Int)<=(file.size:Int) - ((a+n:Nat):Int) - 4)=true from Ba (by omega)];grind
theorem ZBk {file l:AA} {a:Nat} {rest:List Int} (hs:file.size<=140737488000000) (ha:a<=file.size) (h2:l.size<=9000) (hr:0<rest.length) (hrb:AsE rest) (hA:(bs file).drop a++rest=Ard (bs l)):N9 file a=none:=by
 rcases kH (file:=file) (a:=a) (by omega) ha with h | ⟨v,q,_,hq,hq2,hv1,hv2,h3,hAv,_,_⟩
 ·exact h
 ·exfalso;have hl:=yU (bs l);rw [bs_len] at hl;have HL:=Apv (n:=(l.size:Int)) (by omega);have hlen:=congrArg List.length hA;rw [List.length_append,List.length_drop,bs_len] at hlen;have hb:bs (file++ofBytes rest)=bs file++rest:=by rw [Fa,Avo hrb]
  have hd:(bs (file++ofBytes rest)).drop a=Ard (bs l):=by simp_all [List.drop_append_of_le_length,bs_len]
  have hz:(file++ofBytes rest).size=file.size+rest.length:=by simp [Dj]
  have e1:=QA9 (text:=file++ofBytes rest) (a:=a) (V:=(l.size:Int)) (by omega) (by omega) (by omega) ⟨four (Uj (bs l))++bs l,by grind [Ard,bs_len]⟩;obtain ⟨x,hx⟩:=hAv
  have e2:=QA9 (text:=file++ofBytes rest) (a:=a) (V:=v) (by omega) (by omega) (by omega) ⟨x++rest,by simp_all⟩;grind
theorem AjI {file:AA} (hs:file.size<=140737488000000):∀ (ts:List AA) (K m a:Nat),(∀ t ∈ ts,1<=t.size/\t.size<=9000)->a<=file.size->(bs file).drop a=(ArG ts).take K->whole ts K<m->Jf m file a=(ts.take (whole ts K),a+(ArG (ts.take (whole ts K))).length):=by
 intro ts;induction ts with
 | nil=>
  intro K m a _ ha hd hm;obtain ⟨m,rfl⟩:∃ n,m=n+1:=⟨m - 1,by omega⟩
  grind [bs_len,ArG,Jf,kH]
 | cons t ts ih=>
  intro K m a ht ha hd hm;obtain ⟨m,rfl⟩:∃ n,m=n+1:=⟨m - 1,by omega⟩
  have ht0:=ht t (List.mem_cons_self ..);rw [whole] at hm ⊢;rw [ArG,List.take_append] at hd;split at hm
  ·rename_i h;rw [if_pos h];rw [List.take_of_length_le h] at hd;have hA:At file a (Ard (bs t)):=⟨_,hd⟩
   have hz:a+(Ard (bs t)).length<=file.size:=by
    rcases hA.size with h | h
    all_goals grind
   rw [Jf,YBk (by omega) ht0.1 ht0.2 hA];have hd2:(bs file).drop (a+(Ard (bs t)).length)=(ArG ts).take (K - (Ard (bs t)).length):=by grind [List.drop_drop,List.drop_left]
   dsimp only;rw [ih _ m _ (fun x hx=>ht x (List.mem_cons_of_mem _ hx)) hz hd2 (by omega),List.take_succ_cons,ArG,List.length_append];grind
  ·rename_i h;rw [if_neg h];rw [show K - (Ard (bs t)).length=0 by omega,List.take_zero,List.append_nil] at hd;rw [Jf,ZBk (file:=file) (l:=t) (rest:=(Ard (bs t)).drop K) hs ha ht0.2 (by grind) (fun n hn=>vI (Jj t) n (List.mem_of_mem_drop hn)) (by simp_all)];rfl
theorem HAq:∀ {a m:List Int},AsE a->a.length<=m.length->J6 (J6 a m) m=a
 | [],_,_,_=>by rfl
 | _::_,[],_,h=>by simp at h
 | x::a,y::m,hb,h=>by have h1:=HAq (a:=a) (m:=m) (fun n hn=>hb n (List.mem_cons_of_mem _ hn)) (by simpa using h);simp only [J6] at h1 ⊢;rw [List.zipWith_cons_cons,List.zipWith_cons_cons,h1,HBi (hb x (List.mem_cons_self ..))]
theorem BBl {k t:AA} {num:Int} (h:(EM k num t).2=true):16<=t.size/\MB num ((t.size:Int) - 16)=true/\PE (bs k) num ((bs t).take (t.size - 16))=(bs t).drop (t.size - 16)/\bs (EM k num t).1=J6 ((bs t).take (t.size - 16)) (Arw (bs k) (SN num) (t.size - 16))/\bs t=(bs t).take (t.size - 16)++PE (bs k) num ((bs t).take (t.size - 16)):=by
 rw [EM] at h ⊢;cases h1:decide ((t.size:Int)<16) || !(MB num ((t.size:Int) - 16))
 ·rw [h1,Aq] at h;rw [Bool.or_eq_false_iff,decide_eq_false_iff_not,Bool.not_eq_false'] at h1;cases h2:(PE (bs k) num ((bs t).take (t.size - 16)) == (bs t).drop (t.size - 16))
  ·simp_all
  ·rw [Aq,Ar,Avo (Ve _ _)];grind [List.take_append_drop]
 simp_all
theorem tH (k t:AA) (num:Int):(EM k num t).1.size<=t.size:=by
 have hl:=bs_len t;rw [EM];cases decide ((t.size:Int)<16) || !(MB num ((t.size:Int) - 16))
 ·rw [Aq];cases (PE (bs k) num ((bs t).take (t.size - 16)) == (bs t).drop (t.size - 16));·exact DJ _
  grind [Dj,J6]
 ·exact DJ _
theorem CBl {k:AA} {num:Int} {s:List Int} (hs:AsE s) (hm:MB num s.length=true):EM k num (ofBytes (NM (bs k) num s))=(ofBytes s,true):=by
 have hx:(J6 s (Arw (bs k) (SN num) s.length)).length=s.length:=bn (by simp [Ru]);have hb:AsE (NM (bs k) num s):=fun x hx=>by
  rcases List.mem_append.1 hx with hx | hx
  ·exact Ve _ _ x hx
  ·exact Tv _ _ _ x hx
 have hsz:(ofBytes (NM (bs k) num s)).size=s.length+16:=by simp_all [Dj,NM,nS]
 rw [EM,Avo hb,hsz,Nat.add_sub_cancel,show ((s.length+16:Nat):Int) - 16=(s.length:Int) by omega,hm];grind [NM,HAq,Ru]
theorem DBl {k t:AA} {num:Int} (h:(EM k num t).2=true):NM (bs k) num (bs (EM k num t).1)=bs t:=by
 obtain ⟨h1,h2,h3,h4,h5⟩:=BBl h
 have hl:((bs t).take (t.size - 16)).length=t.size - 16:=by grind [bs_len]
 have hx:(bs (EM k num t).1).length=t.size - 16:=by grind [bn,Ru]
 rw [NM,hx,h4,HAq (fun n hn=>Jj t n (List.mem_of_mem_take hn)) (by grind [Ru]),<-h5]
theorem EBl {k:AA} {num:Int} {a b:List Int} (ha:AsE a) (hb:AsE b) (h:NM (bs k) num a=NM (bs k) num b):a=b:=by grind [bn,Ru,NM,List.length_append,nS,List.append_inj,HAq]
def Yl (text:AA) (c:Jz):Prop:=∃ p:Nat,∃ b:Bool,c=⟨text,(p:Int),b⟩/\p<=text.size
theorem IAq {text:AA} {c:Jz} (hs:text.size<=140737488351232) (h:Yl text c):∃ v c',Ym c=some (v,c')/\Yl text c'/\0<=v/\v<=1000000000:=by
 obtain ⟨p,b,rfl,hp⟩:=h
 obtain ⟨r,hr,hR⟩:=OBk hs hp
 simp only [Ym,TAj,hr,AP];cases b
 ·rcases hR with rfl | ⟨v,q,rfl,h0,h1,_,h3⟩
  ·exact ⟨_,_,rfl,⟨p,true,rfl,hp⟩,by omega,by omega⟩
  ·exact ⟨_,_,rfl,⟨q,false,rfl,h3⟩,h0,h1⟩
 ·exact ⟨_,_,rfl,⟨p,true,rfl,hp⟩,by omega,by omega⟩
theorem zZ {text:AA} {a:Nat} {V:Int} (hs:text.size<=140737488351232) (hV0:0<=V) (hV:V<=1000000000) (hA:At text a (SN V)):Ym ⟨text,(a:Int),false⟩=some (V,⟨text,((a+(SN V).length:Nat):Int),false⟩):=by simp only [Ym,TAj,MBK hs hV0 hV hA,AP];rfl
theorem SA9 {text:AA} {c:Jz} {n:Int} (hs:text.size<=140737488351232) (h:Yl text c) (h0:0<=n) (h1:n<=1000000000):∃ s c',U3 c n=some (s,c')/\Yl text c'/\s.size<=1000000000/\(c'.I7=false->(s.size:Int)=n/\c.ER+n<=(text.size:Int)):=by
 obtain ⟨p,b,rfl,hp⟩:=h
 simp only [U3,UAj,mk];have e1:AV ((text.size:Int) - (p:Int))=(text.size:Int) - p:=A8 (by omega) (by omega);have e2:AV ((p:Int)+n)=p+n:=A8 (by omega) (by omega);have e3:AV ((p:Int)+n - n)=p:=by grind [A8]
 rw [e1,e2,e3];cases b
 ·by_cases hn:n > (text.size:Int) - p;·rw [show decide (n > (text.size:Int) - p)=true from Ba hn];exact ⟨_,_,rfl,⟨p,true,rfl,hp⟩,by show 0<=_;omega,fun h=>by cases h⟩
  ·rw [show decide (n > (text.size:Int) - p)=false from D6 hn,show decide ((0:Int)<=(p:Int))=true from Ba (by omega),show decide ((p:Int)<=p+n)=true from Ba (by omega),show decide ((p:Int)+n<=(text.size:Int))=true from Ba (by omega)];have hz:(text.extract (p:Int).toNat ((p:Int)+n).toNat).size=n.toNat:=by grind [ByteArray.size_extract]
   refine ⟨_,_,rfl,⟨((p:Int)+n).toNat,false,?_,by omega⟩,by omega,fun _=>⟨by omega,by omega⟩⟩;grind
 ·exact ⟨_,_,rfl,⟨p,true,rfl,hp⟩,by show 0<=_;omega,fun h=>by cases h⟩
theorem TA9 {text:AA} {p:Nat} {s:AA} (hs:text.size<=140737488351232) (hA:At text p (bs s)) (hp:p<=text.size):U3 ⟨text,(p:Int),false⟩ (s.size:Int)=some (s,⟨text,((p+s.size:Nat):Int),false⟩):=by
 have hz:p+s.size<=text.size:=by
  rcases hA.size with h | h
  all_goals grind [bs_len]
 have e1:AV ((text.size:Int) - (p:Int))=(text.size:Int) - p:=A8 (by omega) (by omega);have e2:AV ((p:Int)+(s.size:Int))=((p+s.size:Nat):Int):=by grind [A8]
 have e3:AV (((p+s.size:Nat):Int) - (s.size:Int))=p:=by grind [A8]
 simp only [U3,UAj,mk,e1,e2,e3,BR];have hx:=hA.extract (fun n hn=>IA8 hn);grind [bs_len,y5]
theorem UA9 {text:AA} {c:Jz} (hs:text.size<=140737488351232) (h:Yl text c):∃ v c',SY c=some (v,c')/\Yl text c'/\0<=v/\v<=255/\(c'.I7=true->v=0)/\(c'.I7=false->c.ER+1<=(text.size:Int)):=by
 obtain ⟨s,c',e,hc,_,hn⟩:=SA9 (n:=1) hs h (by omega) (by omega)
 simp only [SY,VAj,mk,e,AP];cases hb:c'.I7
 ·obtain ⟨h1,h2⟩:=hn hb
  rw [show decide ((0:Int)<=(0:Int))=true from rfl,show decide ((0:Int)<(s.size:Int))=true from Ba (by omega)];have:=Rx s 0;grind [A8]
 grind
theorem pU {text:AA} {p:Nat} {b:Int} (hs:text.size<=140737488351232) (hA:At text p [b]):SY ⟨text,(p:Int),false⟩=some (b,⟨text,((p+1:Nat):Int),false⟩):=by
 obtain ⟨h1,h2⟩:=hA.head
 have hb:=Rx text p;rw [h2] at hb;have hB:bs (ofBytes [b])=[b]:=Avo (by simp_all);have e:=TA9 (s:=ofBytes [b]) hs (by simp_all) (Nat.le_of_lt h1);have h0:bt (ofBytes [b]) 0=b:=by grind [Zo,Dj]
 simp only [SY,VAj,mk];rw [show U3 ⟨text,(p:Int),false⟩ 1=_ from e];simp only [AP,h0,A8 (n:=b) (by omega) (by omega)];rfl
theorem FBl {text:AA} {c:Jz} (hs:text.size<=140737488351232) (h:Yl text c):∃ s c',pV c=some (s,c')/\Yl text c'/\s.size<=1000000000:=by
 obtain ⟨v,c1,e1,h1,h2,h3⟩:=IAq hs h
 obtain ⟨s,c2,e2,h4,h5,_⟩:=SA9 hs h1 h2 h3
 simp only [pV,WAj,e1,e2,AP];grind
theorem GBl {text:AA} {p:Nat} {s:AA} (hs:text.size<=140737488351232) (hz:s.size<=1000000000) (hA:At text p (SN (s.size:Int)++bs s)):pV ⟨text,(p:Int),false⟩=some (s,⟨text,((p+(SN (s.size:Int)).length+s.size:Nat):Int),false⟩):=by
 have hp:p+(SN (s.size:Int)).length<=text.size:=by
  rcases hA.left.size with h | h
  all_goals grind [ArT]
 simp only [pV,WAj,zZ hs (by omega) (by omega) hA.left,TA9 hs hA.right hp,AP]
theorem HBl (x:Af):(((Avz x).tmod 2 == 1)=x.CY)/\(((AV ((Avz x).tdiv 2)).tmod 2 == 1)=x.CX)/\(((AV ((Avz x).tdiv 4)).tmod 2 == 1)=x.Gw)/\(((AV ((Avz x).tdiv 8)).tmod 2 == 1)=x.GH):=by unfold Avz;cases x.CY <;> cases x.CX <;> cases x.Gw <;> cases x.GH <;> decide
theorem SBK {x:Af} (h:Ar9 x=true):bs (Yd x)=SN x.fId++([x.Aj]++([Avz x]++((SN (x.fValue.size:Int)++bs x.fValue)++SN x.fNext))):=by
 obtain ⟨k1,k2,k3,k4,k5,k6,k7⟩:=MZ h
 have hf:=zF x;unfold Yd Av1;simp only [Fa,Avo (Rz x.fId (by omega)),Avo (Rz x.fNext (by omega)),Avo (Rz (x.fValue.size:Int) (by omega)),Avo (l:=[x.Aj]) (by grind),Avo (l:=[Avz x]) (by grind),List.append_assoc]
def JAq (text:AA) (r:Af×Bool):Prop:=(r.2=true/\Apu r.1=(text,true))\/r=(⟨(0:Int),(0:Int),false,false,false,false,(⟨#[]⟩:AA),(0:Int)⟩,false)
theorem TBK {text:AA} (hs:text.size<=140737488351232):∃ r,V7 text=some r/\JAq text r:=by
 obtain ⟨v0,c0,e0,h0,_⟩:=IAq hs (c:=⟨text,(0:Int),false⟩) ⟨0,false,rfl,by omega⟩
 obtain ⟨v1,c1,e1,h1,_⟩:=UA9 hs h0
 obtain ⟨v2,c2,e2,h2,_⟩:=UA9 hs h1
 obtain ⟨v3,c3,e3,h3,_⟩:=FBl hs h2
 obtain ⟨v4,c4,e4,h4,_⟩:=IAq hs h3
 simp only [V7,XAj,mk,e0,e1,e2,e3,e4,sV,AP];cases c4.I7
 ·cases h5:(Apu (⟨v0,v1,v2.tmod 2 == 1,(AV (v2.tdiv 2)).tmod 2 == 1,(AV (v2.tdiv 4)).tmod 2 == 1,(AV (v2.tdiv 8)).tmod 2 == 1,v3,v4⟩:Af)).2;·exact ⟨_,rfl,.inr rfl⟩
  ·rw [toList_inj];by_cases h6:(Apu (⟨v0,v1,v2.tmod 2 == 1,(AV (v2.tdiv 2)).tmod 2 == 1,(AV (v2.tdiv 4)).tmod 2 == 1,(AV (v2.tdiv 8)).tmod 2 == 1,v3,v4⟩:Af)).1=text;·rw [Ba h6];exact ⟨_,rfl,.inl ⟨rfl,Prod.ext h6 h5⟩⟩
   ·rw [D6 h6];exact ⟨_,rfl,.inr rfl⟩
 ·exact ⟨_,rfl,.inr rfl⟩
theorem VA9 {text:AA} {x:Af} (h:Apu x=(text,true)):Ar9 x=true/\text=Yd x:=by grind [Apu]
theorem UBK {text:AA} {x:Af} (hs:text.size<=140737488351232) (h:Apu x=(text,true)):V7 text=some (x,true):=by
 obtain ⟨ho,rfl⟩:=VA9 h
 obtain ⟨k1,k2,k3,k4,k5,k6,k7⟩:=MZ ho
 have hf:=zF x;have hA:At (Yd x) 0 _:=⟨[],by rw [List.drop_zero,SBK ho,List.append_nil]⟩
 have a1:=hA.right;have a2:=a1.right;have a3:=a2.right;have a4:=a3.right;have e0:=zZ hs (by omega) (by omega) hA.left;have e1:=pU hs a1.left;have e2:=pU hs a2.left;have e3:=GBl hs (by omega) a3.left;have e4:=zZ hs (by omega) (by omega) a4;simp only [List.length_append,bs_len,List.length_singleton,Nat.zero_add,<-Nat.add_assoc] at e0 e1 e2 e3 e4;obtain ⟨b1,b2,b3,b4⟩:=HBl x
 simp only [V7,XAj,mk];rw [show ((0:Int))=((0:Nat):Int) from rfl,e0];simp_all [sV]
def Pv:Ah:=⟨(0:Int),(⟨#[]⟩:AA),(0:Int),(⟨(0:Int),(0:Int),false,false,false,false,(⟨#[]⟩:AA),(0:Int)⟩:Af)⟩
def pW (text:AA) (r:Ah×Bool):Prop:=(r.2=true/\ArP r.1=(text,true))\/r=(Pv,false)
theorem pX {text:AA} (x:Ah) (bad:Bool):∃ r,(bif bad then some (Pv,false) else bif !(ArP x).2 then some (Pv,false) else bif !((ByteArray.toList (ArP x).1) == (ByteArray.toList text)) then some (Pv,false) else some (x,true))=some r/\pW text r:=by
 cases bad
 ·cases h5:(ArP x).2;·exact ⟨_,rfl,.inr rfl⟩
  ·rw [toList_inj];by_cases h6:(ArP x).1=text;·rw [Ba h6];exact ⟨_,rfl,.inl ⟨rfl,Prod.ext h6 h5⟩⟩
   ·rw [D6 h6];exact ⟨_,rfl,.inr rfl⟩
 ·exact ⟨_,rfl,.inr rfl⟩
theorem IBl {text:AA} (hs:text.size<=140737488351232):∃ r,Awc text=some r/\pW text r:=by
 obtain ⟨v0,c0,e0,h0,_,_,hz,hn⟩:=UA9 hs (c:=⟨text,(0:Int),false⟩) ⟨0,false,rfl,by omega⟩
 obtain ⟨v1,c1,e1,h1,_⟩:=SA9 (n:=32) hs h0 (by omega) (by omega)
 obtain ⟨v3,c3,e3,h3,_⟩:=IAq hs h0
 simp only [Awc,dU,mk,e0,e1,e3,dL,AP];cases v0 == 1
 ·simp only [Aq];cases v0 == 2
  ·simp only [Aq];cases v0 == 4
   ·simp only [Aq];cases h:v0 == 3;·exact pX _ _
    ·have hv:v0=3:=beq_iff_eq.1 h;have hsz:(0:Int)+1<=(text.size:Int):=by simp_all
     obtain ⟨r,e5,_⟩:=TBK (text:=text.extract (1:Int).toNat text.size) (by grind [ByteArray.size_extract])
     rw [show decide ((1:Int)<=(text.size:Int))=true from Ba (by omega),e5];exact pX _ _
   ·exact pX _ _
  ·exact pX _ _
 ·exact pX _ _
theorem VBK {text:AA} {x:Ah} (h:ArP x=(text,true)) :
  (∃ s:AA,x=⟨1,s,0,Pv.Ag⟩/\s.size=32/\text=ofBytes [1]++s)\/(∃ n:Int,x=⟨2,Pv.fText,n,Pv.Ag⟩/\0<=n/\n<=3/\text=ofBytes [2]++ofBytes (SN n))\/
  (∃ t:Af,∃ s:AA,x=⟨3,Pv.fText,0,t⟩/\Apu t=(s,true)/\text=ofBytes [3]++s)\/(∃ n:Int,x=⟨4,Pv.fText,n,Pv.Ag⟩/\1<=n/\n<=1000/\text=ofBytes [4]++ofBytes (SN n)):=by
 have hE:∀ s:AA,Ar0 s=true->s=⟨#[]⟩:=fun s h=>by grind [Ar0,toList_inj]
 have hZ:∀ t:Af,AwP t=true->t=Pv.Ag:=fun t h=>by
  unfold AwP at h;simp only [PA8] at h;obtain ⟨t1,t2,t3,t4,t5,t6,t7,t8⟩:=t
  simp only [Bool.and_eq_true,beq_iff_eq] at h;obtain ⟨rfl,rfl,rfl,rfl,rfl,rfl,h7,rfl,_⟩:=h
  rw [hE _ h7];rfl
 obtain ⟨k,s,n,t⟩:=x
 unfold ArP at h;simp only at h;cases k1:k == 1 <;> rw [k1] at h
 ·cases k2:k == 2 <;> rw [k2] at h
  ·cases k3:k == 3 <;> rw [k3] at h
   ·cases k4:k == 4 <;> rw [k4] at h;·exact Bool.noConfusion (congrArg Prod.snd h)
    ·simp only [Aq,Ar] at h;cases hc:Ar0 s && AwP t && Ark n 1 1000 <;> rw [hc] at h;·exact Bool.noConfusion (congrArg Prod.snd h)
     ·simp only [Bool.and_eq_true,Aqo] at hc;refine .inr (.inr (.inr ⟨n,?_,hc.2.1,hc.2.2,(congrArg Prod.fst h).symm⟩));rw [beq_iff_eq.1 k4,hE _ hc.1.1,hZ _ hc.1.2];rfl
   ·simp only [Aq,Ar] at h;cases hc:(Apu t).2 && Ar0 s && n == 0 <;> rw [hc] at h;·exact Bool.noConfusion (congrArg Prod.snd h)
    ·simp only [Bool.and_eq_true,beq_iff_eq] at hc;refine .inr (.inr (.inl ⟨t,(Apu t).1,?_,Prod.ext rfl hc.1.1,(congrArg Prod.fst h).symm⟩));rw [beq_iff_eq.1 k3,hE _ hc.1.2,hc.2];rfl
  ·simp only [Aq,Ar] at h;cases hc:Ar0 s && AwP t && Ark n 0 3 <;> rw [hc] at h;·exact Bool.noConfusion (congrArg Prod.snd h)
   ·simp only [Bool.and_eq_true,Aqo] at hc;refine .inr (.inl ⟨n,?_,hc.2.1,hc.2.2,(congrArg Prod.fst h).symm⟩);rw [beq_iff_eq.1 k2,hE _ hc.1.1,hZ _ hc.1.2];rfl
 ·simp only [Aq,Ar] at h;cases hc:(s.size:Int) == 32 && n == 0 && AwP t <;> rw [hc] at h;·exact Bool.noConfusion (congrArg Prod.snd h)
  grind
theorem dV {k:Int} {s:AA} (h0:0<=k) (h1:k<=255):At (ofBytes [k]++s) 0 ([k]++bs s):=⟨[],by simp_all [Fa,Avo]⟩
theorem WA9 {k:Int} {s:AA}:(ofBytes [k]++s).extract (1:Int).toNat (ofBytes [k]++s).size=s:=by apply Aq3;rw [Ap3,<-bs_len,List.take_length,Fa];rfl
theorem JBl {text:AA} {x:Ah} (hs:text.size<=140737488351232) (h:ArP x=(text,true)):Awc text=some (x,true):=by
 rcases VBK h with ⟨s,rfl,hz,rfl⟩ | ⟨n,rfl,h0,h1,rfl⟩ | ⟨t,s,rfl,ht,rfl⟩ | ⟨n,rfl,h0,h1,rfl⟩
 ·have hA:=dV (k:=1) (s:=s) (by omega) (by omega);have e0:=pU hs hA.left;have e1:=TA9 hs hA.right (by simp_all);simp only [List.length_singleton,Nat.zero_add,hz] at e0 e1;simp only [Awc,dU,mk];rw [show SY ⟨ofBytes [1]++s,(0:Int),false⟩=_ from e0];simp only [AP];rw [show U3 ⟨ofBytes [1]++s,((1:Nat):Int),false⟩ 32=_ from e1];have h':ArP ⟨1,s,0,⟨(0:Int),(0:Int),false,false,false,false,(⟨#[]⟩:AA),(0:Int)⟩⟩=_:=h;simp only [AP,dL,h',Oe];rfl
 ·have hA:=dV (k:=2) (s:=ofBytes (SN n)) (by omega) (by omega);rw [Avo (Rz n h0)] at hA;have e0:=pU hs hA.left;have e1:=zZ hs (by omega) (by omega) hA.right;simp only [List.length_singleton,Nat.zero_add] at e0 e1;simp only [Awc,dU,mk];rw [show SY ⟨ofBytes [2]++ofBytes (SN n),(0:Int),false⟩=_ from e0];have h':ArP ⟨2,⟨#[]⟩,n,⟨(0:Int),(0:Int),false,false,false,false,(⟨#[]⟩:AA),(0:Int)⟩⟩=_:=h;simp only [AP,e1,dL,h',Oe];rfl
 ·have hA:=dV (k:=3) (s:=s) (by omega) (by omega);have e0:=pU hs hA.left;have hsz:s.size<=140737488351232:=by grind
  have e1:=UBK hsz ht;simp only [List.length_singleton,Nat.zero_add] at e0;simp only [Awc,dU,mk];rw [show SY ⟨ofBytes [3]++s,(0:Int),false⟩=_ from e0];have h':ArP ⟨3,⟨#[]⟩,0,t⟩=_:=h;have hd:decide ((1:Int)<=((ofBytes [3]++s).size:Int))=true:=Ba (by grind [Dj]);simp only [AP,WA9,e1,dL,h',Oe,hd];rfl
 ·have hA:=dV (k:=4) (s:=ofBytes (SN n)) (by omega) (by omega);rw [Avo (Rz n (by omega))] at hA;have e0:=pU hs hA.left;have e1:=zZ hs (by omega) (by omega) hA.right;simp only [List.length_singleton,Nat.zero_add] at e0 e1;simp only [Awc,dU,mk];rw [show SY ⟨ofBytes [4]++ofBytes (SN n),(0:Int),false⟩=_ from e0];have h':ArP ⟨4,⟨#[]⟩,n,⟨(0:Int),(0:Int),false,false,false,false,(⟨#[]⟩:AA),(0:Int)⟩⟩=_:=h;simp only [AP,e1,dL,h',Oe];rfl
def KAq (text:AA) (c:Kw):Prop:=∃ p:Nat,∃ b:Bool,c=⟨text,(p:Int),b⟩/\p<=text.size
theorem LAq {text:AA} {c:Kw} (hs:text.size<=140737488351232) (h:KAq text c):∃ v c',pY c=some (v,c')/\KAq text c':=by
 obtain ⟨p,b,rfl,hp⟩:=h
 obtain ⟨r,hr,hR⟩:=OA9 hs hp
 simp only [pY,WAm,hr,AP];rcases hR with rfl | ⟨v,q,rfl,h0,h1,_,h3⟩
 ·exact ⟨_,_,rfl,⟨p,true,rfl,hp⟩⟩
 ·exact ⟨_,_,rfl,⟨q,b,rfl,h3⟩⟩
theorem MAq {text:AA} {a:Nat} {V:Int} (hs:text.size<=140737488351232) (hV0:0<=V) (hV:V<=1000000000) (hA:At text a (SN V)):pY ⟨text,(a:Int),false⟩=some (V,⟨text,((a+(SN V).length:Nat):Int),false⟩):=by simp only [pY,WAm,zX hs hV0 hV hA,AP];rfl
theorem KBl {text:AA} {a:Nat} (hs:text.size<=140737488351232) (ha:a<=text.size):∃ s q ok,WC text a=some (s,q,ok)/\(ok=true->∃ p:Nat,q=(p:Int)/\p<=text.size):=by
 obtain ⟨r,hr,hR⟩:=OA9 hs ha
 simp only [WC,yg,mk,hr,AP];rcases hR with rfl | ⟨v,q,rfl,h0,h1,h2,h3⟩
 ·exact ⟨_,_,_,rfl,fun h=>by cases h⟩
 ·rw [A8 (n:=(text.size:Int) - (q:Int)) (by omega) (by omega),A8 (n:=(q:Int)+v) (by omega) (by omega)];simp only [DN,Aq];cases decide (v > 20000)
  ·by_cases hv:v > (text.size:Int) - (q:Int)
   ·rw [Ba hv];simp
   ·rw [D6 hv,show decide ((0:Int)<=(q:Int))=true from Ba (by omega),show decide ((q:Int)<=q+v)=true from Ba (by omega),show decide ((q:Int)+v<=(text.size:Int))=true from Ba (by omega)];exact ⟨_,_,_,rfl,fun _=>⟨((q:Int)+v).toNat,by omega,by omega⟩⟩
  simp
theorem LBl {text:AA} {p:Nat} {s:AA} (hs:text.size<=140737488351232) (hz:s.size<=20000) (hA:At text p (SN (s.size:Int)++bs s)):WC text p=some (s,((p+(SN (s.size:Int)).length+s.size:Nat):Int),true):=by
 have hp:p+(SN (s.size:Int)).length<=text.size:=by
  rcases hA.left.size with h | h
  all_goals grind [ArT]
 have hA2:=hA.right;have hx:=hA2.extract (fun n hn=>IA8 hn);rw [bs_len,y5] at hx;simp only [WC,yg,mk,zX hs (by omega) (by omega) hA.left,AP];generalize p+(SN (s.size:Int)).length=q at *
 have hz:q+s.size<=text.size:=by
  rcases hA2.size with h | h
  all_goals grind [bs_len]
 grind [A8]
theorem MBl {text:AA} {c:Kw} (hs:text.size<=140737488351232) (h:KAq text c):∃ v c',pq c=some (v,c')/\KAq text c':=by
 obtain ⟨p,b,rfl,hp⟩:=h
 obtain ⟨s,q,ok,hr,hR⟩:=KBl hs hp
 simp only [pq,XAm,mk,hr,AP];cases ok;·exact ⟨_,_,rfl,⟨p,true,rfl,hp⟩⟩
 ·obtain ⟨q,rfl,h3⟩:=hR rfl
  exact ⟨_,_,rfl,⟨q,b,rfl,h3⟩⟩
theorem NBl {text:AA} {p:Nat} {s:AA} (hs:text.size<=140737488351232) (hz:s.size<=20000) (hA:At text p (SN (s.size:Int)++bs s)):pq ⟨text,(p:Int),false⟩=some (s,⟨text,((p+(SN (s.size:Int)).length+s.size:Nat):Int),false⟩):=by simp only [pq,XAm,mk,LBl hs hz hA,AP];rfl
theorem sJ (x:Af):WR x=some (Ar9 x):=by simp only [WR,SA1,mk,Ti,AP,Ar9,bne];grind [Aqo]
theorem X6 {n:Int} (h:n<=9223372036854775807):WS n=some (ofBytes (SN n)):=by
 have key:∀ (n:Int) (m:Nat) (out:List Int),n<=9223372036854775807->(SN n).length<=m->out.length+(SN n).length<=1000->pz m (.c0 n out)=some (ofBytes (out++SN n)):=by
  intro n;induction n using SN.induct with
  | case1 n hn ih=>
   intro m out h1 h2 h3;rw [SN,if_pos hn] at h2 h3 ⊢;simp only [List.length_cons] at h2 h3;obtain ⟨m,rfl⟩:∃ k,m=k+1:=⟨m - 1,by omega⟩
   grind [WBI,pz,ZAl]
  | case2 n hn=>
   intro m out h1 h2 h3;rw [SN,if_neg hn] at h2 h3 ⊢;simp at h2 h3;obtain ⟨m,rfl⟩:∃ k,m=k+1:=⟨m - 1,by omega⟩
   grind [pz,ZAl]
 have hl:=Apv h;exact key n AY [] h (Nat.le_of_lt (FM (by omega))) (by grind)
theorem AvD {n:Int} (h:0<=n) (h2:n<=255):Ar3 n=some (ofBytes [n]):=by simp_all [Ar3,TA1,mk,Nq]
theorem OBl {s:AA} (h:s.size<=140737488351232):CAm s=some (Av1 s):=by simp only [CAm,VA1,mk,X6 (n:=(s.size:Int)) (by omega),AP];have:=Apv (n:=(s.size:Int)) (by omega);rw [show decide ((ofBytes (SN (s.size:Int))).size+s.size<=9223372036854775807)=true from Ba (by grind [Dj])];rfl
theorem NAq (x:Af):qA x=some (Apu x):=by
 simp only [qA,WA1,mk,sJ,AP,Apu];cases h:Ar9 x;·rfl
 ·obtain ⟨k1,k2,k3,k4,k5,k6,k7⟩:=MZ h
  obtain ⟨z1,z2,z3⟩:=OA8 h
  have hf:=zF x;have e1:∀ n:Int,(ofBytes [n]).size=1:=fun n=>Dj _
  simp only [YBh,AP,X6 (n:=x.fId) (by omega),AvD (n:=x.Aj) (by omega) (by omega),AvD hf.1 (by omega),OBl (s:=x.fValue) (by omega),X6 (n:=x.fNext) (by omega),AEY,e1];simp only [DN,Aq,Ar]
  rw [show decide ((ofBytes (SN x.fId)).size+1<=9223372036854775807)=true from Ba (by omega),show decide ((ofBytes (SN x.fId)).size+1+1<=9223372036854775807)=true from Ba (by omega),
   show decide ((ofBytes (SN x.fId)).size+1+1+(Av1 x.fValue).size<=9223372036854775807)=true from Ba (by omega),show decide ((ofBytes (SN x.fId)).size+1+1+(Av1 x.fValue).size+(ofBytes (SN x.fNext)).size<=9223372036854775807)=true from Ba (by omega)]
  rfl
theorem PBl (x:Af):((AV (((BitVec.toNat ((BitVec.ofInt (IntKind.bits IntKind.i64) (Avz x)) &&& (BitVec.ofInt (IntKind.bits IntKind.i64) (1:Int)))):Nat):Int) != 0)=x.CY)/\((AV (((BitVec.toNat ((BitVec.ofInt (IntKind.bits IntKind.i64) (Avz x)) &&& (BitVec.ofInt (IntKind.bits IntKind.i64) (2:Int)))):Nat):Int) != 0)=x.CX)/\((AV (((BitVec.toNat ((BitVec.ofInt (IntKind.bits IntKind.i64) (Avz x)) &&& (BitVec.ofInt (IntKind.bits IntKind.i64) (4:Int)))):Nat):Int) != 0)=x.Gw)/\((AV (((BitVec.toNat ((BitVec.ofInt (IntKind.bits IntKind.i64) (Avz x)) &&& (BitVec.ofInt (IntKind.bits IntKind.i64) (8:Int)))):Nat):Int) != 0)=x.GH):=by unfold Avz;cases x.CY <;> cases x.CX <;> cases x.Gw <;> cases x.GH <;> refine ⟨?_,?_,?_,?_⟩ <;> kernel_rfl
theorem WBK {text:AA} (hs:text.size<=140737488351232):∃ r,AqX text=some r/\JAq text r:=by
 obtain ⟨v0,c0,e0,h0⟩:=LAq hs (c:=⟨text,(0:Int),false⟩) ⟨0,false,rfl,by omega⟩
 obtain ⟨v1,c1,e1,h1⟩:=LAq hs h0
 obtain ⟨v2,c2,e2,h2⟩:=LAq hs h1
 obtain ⟨v3,c3,e3,h3⟩:=MBl hs h2
 obtain ⟨v4,c4,e4,h4⟩:=LAq hs h3
 simp only [AqX,YAm,mk,e0,e1,e2,e3,e4,NAq,AP];generalize (AV (((BitVec.toNat ((BitVec.ofInt (IntKind.bits IntKind.i64) v2) &&& (BitVec.ofInt (IntKind.bits IntKind.i64) (1:Int)))):Nat):Int) != 0)=b1;generalize (AV (((BitVec.toNat ((BitVec.ofInt (IntKind.bits IntKind.i64) v2) &&& (BitVec.ofInt (IntKind.bits IntKind.i64) (2:Int)))):Nat):Int) != 0)=b2;generalize (AV (((BitVec.toNat ((BitVec.ofInt (IntKind.bits IntKind.i64) v2) &&& (BitVec.ofInt (IntKind.bits IntKind.i64) (4:Int)))):Nat):Int) != 0)=b3;generalize (AV (((BitVec.toNat ((BitVec.ofInt (IntKind.bits IntKind.i64) v2) &&& (BitVec.ofInt (IntKind.bits IntKind.i64) (8:Int)))):Nat):Int) != 0)=b4;cases c4.I7
 ·cases h5:(Apu (⟨v0,v1,b1,b2,b3,b4,v3,v4⟩:Af)).2;·exact ⟨_,rfl,.inr rfl⟩
  ·rw [toList_inj];by_cases h6:(Apu (⟨v0,v1,b1,b2,b3,b4,v3,v4⟩:Af)).1=text;·rw [Ba h6];exact ⟨_,rfl,.inl ⟨rfl,Prod.ext h6 h5⟩⟩
   ·rw [D6 h6];exact ⟨_,rfl,.inr rfl⟩
 ·exact ⟨_,rfl,.inr rfl⟩
theorem XBK {text:AA} {x:Af} (hs:text.size<=140737488351232) (h:Apu x=(text,true)):AqX text=some (x,true):=by
 obtain ⟨ho,rfl⟩:=VA9 h
 obtain ⟨k1,k2,k3,k4,k5,k6,k7⟩:=MZ ho
 have hf:=zF x;have hA:At (Yd x) 0 _:=⟨[],by rw [List.drop_zero,SBK ho,List.append_nil]⟩
 rw [<-dS (n:=x.Aj) (by omega) (by omega),<-dS (n:=Avz x) (by omega) (by omega)] at hA;have a1:=hA.right;have a2:=a1.right;have a3:=a2.right;have a4:=a3.right;have e0:=MAq hs (by omega) (by omega) hA.left;have e1:=MAq hs (by omega) (by omega) a1.left;have e2:=MAq hs (by omega) (by omega) a2.left;have e3:=NBl hs (by omega) a3.left;have e4:=MAq hs (by omega) (by omega) a4;simp only [List.length_append,bs_len,Nat.zero_add,<-Nat.add_assoc] at e0 e1 e2 e3 e4;obtain ⟨b1,b2,b3,b4⟩:=PBl x
 simp_all [AqX,YAm,mk,NAq]
theorem QBl {text:AA} (hs:text.size<=140737488351232):∃ r,V7 text=some r/\AqX text=some r/\JAq text r:=by
 obtain ⟨r,hr,h⟩:=TBK hs
 obtain ⟨q,hq,h'⟩:=WBK hs
 rcases h with ⟨h1,h2⟩ | h
 ·grind [XBK]
 ·rcases h' with ⟨h1,h2⟩ | h'
  ·grind [UBK]
  ·exact ⟨r,hr,by simp_all,.inr h⟩
theorem V9 {r:Ah} (g:r.DR<=9223372036854775807):qB r=some (ArP r):=by
 simp only [qB,YA1,mk,Ti,NAq,X6 g,AP,YBI];simp only [PA8,ArP];cases k1:r.Aj == 1
 ·simp only [Aq];cases k2:r.Aj == 2
  ·simp only [Aq];cases k3:r.Aj == 3
   ·simp only [Aq];cases k4:r.Aj == 4;·rfl
    ·have k:r.Aj=4:=by simp_all
     rw [k];simp only [beq_self_eq_true,AvD (n:=4) (by omega) (by omega),AP,Bool.true_and,Ar];cases h:Ark r.DR 1 1000;·cases Ar0 r.fText <;> cases AwP r.Ag <;> rfl
     ·cases Ar0 r.fText <;> cases AwP r.Ag <;> (try rfl);simp only [DN,Aq,Ar,Bool.and_self,Ba (SAp (by omega) h 4)]
   ·have k:r.Aj=3:=by simp_all
    rw [k];simp only [beq_self_eq_true,AvD (n:=3) (by omega) (by omega),AP,Bool.true_and,Ar,Bool.and_true];cases h:(Apu r.Ag).2;·rfl
    ·cases Ar0 r.fText <;> cases r.DR == 0 <;> (try rfl);simp_all [ZBI]
  ·have k:r.Aj=2:=by simp_all
   rw [k];simp only [beq_self_eq_true,AvD (n:=2) (by omega) (by omega),AP,Bool.true_and,Ar];cases h:Ark r.DR 0 3;·cases Ar0 r.fText <;> cases AwP r.Ag <;> rfl
   ·cases Ar0 r.fText <;> cases AwP r.Ag <;> (try rfl);simp only [DN,Aq,Ar,Bool.and_self,Ba (SAp (by omega) h 2)]
 ·have k:r.Aj=1:=by simp_all
  rw [k];simp only [beq_self_eq_true,AvD (n:=1) (by omega) (by omega),AP,Bool.true_and,Ar];cases h:(r.fText.size:Int) == 32 <;> cases r.DR == 0 <;> cases AwP r.Ag <;> (try rfl);grind [Dj]
theorem XA9 {text:AA} (x:Ah):∃ r,(bif !(ArP x).2 then some (Pv,false) else bif !((ByteArray.toList (ArP x).1) == (ByteArray.toList text)) then some (Pv,false) else some (x,true))=some r/\pW text r:=pX x false
theorem RBl {text:AA} (hs:text.size<=140737488351232):∃ r,AsN text=some r/\pW text r:=by
 simp only [AsN,dW,mk];rw [toList_inj];by_cases he:text=⟨#[]⟩
 ·rw [Ba he];exact ⟨_,rfl,.inr rfl⟩
 ·have hz:0<text.size:=by
   rcases Nat.eq_zero_or_pos text.size with h | h
   ·exact absurd (Aq3 (List.eq_nil_of_length_eq_zero (by simp_all [bs_len])):text=⟨#[]⟩) he
   omega
  rw [D6 he,show decide ((0:Int)<(text.size:Int))=true from Ba (by omega),show decide ((1:Int)<=(text.size:Int))=true from Ba (by omega)];have hb:=Rx text 0;rw [A8 (n:=bt text 0) (by omega) (by omega)];obtain ⟨⟨t,tb⟩,e1,_⟩:=WBK (text:=text.extract (1:Int).toNat text.size) (by grind [ByteArray.size_extract])
  obtain ⟨⟨v,q,ok⟩,e2,hR⟩:=OA9 (a:=1) hs hz
  have hv:v<=1000000000:=by
   rcases hR with h | ⟨v',_,h,_,h1,_⟩
   all_goals simp_all [U2]
  rw [e1,show Us text (1:Int)=_ from e2];simp only [AP,Aq,Ar,Bool.and_self];cases bt text 0 == 1
  ·simp only [Aq];cases bt text 0 == 3;·simp only [Aq];rw [V9 (by grind)];exact XA9 _
   ·simp only [Ar];rw [V9 (by simp)];exact XA9 _
  ·simp only [Ar];rw [V9 (by simp)];exact XA9 _
theorem YBK {text:AA} {x:Ah} (hs:text.size<=140737488351232) (h:ArP x=(text,true)):AsN text=some (x,true):=by
 have hne:∀ (k:Int) (s:AA),(decide (ofBytes [k]++s=⟨#[]⟩))=false:=fun k s=>D6 fun h=>by grind [ByteArray.size,AEY,Dj]
 have hd:∀ (k:Int) (s:AA),decide ((0:Int)<((ofBytes [k]++s).size:Int))=true/\decide ((1:Int)<=((ofBytes [k]++s).size:Int))=true:=fun k s=>by grind [Dj]
 have hk:∀ (k:Int) (s:AA),0<=k->k<=255->AV (bt (ofBytes [k]++s) 0)=k:=fun k s h0 h1=>by rw [(dV (k:=k) (s:=s) h0 h1).left.head.2 |> fun e=>(show bt (ofBytes [k]++s) 0=k from e),A8 (by omega) (by omega)]
 rcases VBK h with ⟨s,rfl,hz,rfl⟩ | ⟨n,rfl,h0,h1,rfl⟩ | ⟨t,s,rfl,ht,rfl⟩ | ⟨n,rfl,h0,h1,rfl⟩
 ·have h':ArP ⟨1,s,0,⟨(0:Int),(0:Int),false,false,false,false,(⟨#[]⟩:AA),(0:Int)⟩⟩=_:=h;simp only [AsN,dW,mk,hk 1 s (by omega) (by omega),hd,WA9,V9 (r:=⟨1,s,0,⟨(0:Int),(0:Int),false,false,false,false,(⟨#[]⟩:AA),(0:Int)⟩⟩) (by simp),h',AP,toList_inj,hne];rfl
 ·have hA:=dV (k:=2) (s:=ofBytes (SN n)) (by omega) (by omega);rw [Avo (Rz n h0)] at hA;have e1:=zX hs (by omega) (by omega) hA.right;simp only [List.length_singleton,Nat.zero_add] at e1;have e2:Us (ofBytes [2]++ofBytes (SN n)) (1:Int)=_:=e1;have h':ArP ⟨2,⟨#[]⟩,n,⟨(0:Int),(0:Int),false,false,false,false,(⟨#[]⟩:AA),(0:Int)⟩⟩=_:=h;simp only [AsN,dW,mk,hk 2 _ (by omega) (by omega),hd,e2,AP,V9 (r:=⟨2,⟨#[]⟩,n,⟨(0:Int),(0:Int),false,false,false,false,(⟨#[]⟩:AA),(0:Int)⟩⟩) (by grind),h',toList_inj,hne];rfl
 ·have hsz:s.size<=140737488351232:=by grind
  have e1:=XBK hsz ht;have h':ArP ⟨3,⟨#[]⟩,0,t⟩=_:=h;simp only [AsN,dW,mk,hk 3 s (by omega) (by omega),hd,WA9,e1,AP,V9 (r:=⟨3,⟨#[]⟩,0,t⟩) (by simp),h',toList_inj,hne];rfl
 ·have hA:=dV (k:=4) (s:=ofBytes (SN n)) (by omega) (by omega);rw [Avo (Rz n (by omega))] at hA;have e1:=zX hs (by omega) (by omega) hA.right;simp only [List.length_singleton,Nat.zero_add] at e1;have e2:Us (ofBytes [4]++ofBytes (SN n)) (1:Int)=_:=e1;have h':ArP ⟨4,⟨#[]⟩,n,⟨(0:Int),(0:Int),false,false,false,false,(⟨#[]⟩:AA),(0:Int)⟩⟩=_:=h;simp only [AsN,dW,mk,hk 4 _ (by omega) (by omega),hd,e2,AP,V9 (r:=⟨4,⟨#[]⟩,n,⟨(0:Int),(0:Int),false,false,false,false,(⟨#[]⟩:AA),(0:Int)⟩⟩) (by grind),h',toList_inj,hne];rfl
noncomputable def AqN (t:AA):Ah×Bool:=@dite _ (∃ x,ArP x=(t,true)) (Classical.propDecidable _) (fun h=>(h.choose,true)) (fun _=>(Pv,false))
theorem ZBK {t:AA} {o:Option (Ah×Bool)} (h1:∃ r,o=some r/\pW t r) (h2:∀ x,ArP x=(t,true)->o=some (x,true)):o=some (AqN t):=by
 unfold AqN;split;·grind
 ·rename_i h;obtain ⟨r,hr,⟨_,k⟩ | k⟩:=h1
  all_goals simp_all
theorem SBl {t:AA} (h:t.size<=140737488351232):Awc t=some (AqN t):=ZBK (IBl h) (fun _ hx=>JBl h hx)
theorem AWI {t:AA} (h:t.size<=140737488351232):AsN t=some (AqN t):=ZBK (RBl h) (fun _ hx=>YBK h hx)
theorem TBl {t:AA} (_:t.size<=140737488351232):pW t (AqN t):=by
 unfold AqN;split;·rename_i h;exact .inl ⟨rfl,h.choose_spec⟩
 ·exact .inr rfl
noncomputable def Avq (k:AA):Int->List AA->List Ah×Int
 | _,[]=>([],0)
 | i,f::fs=>bif (EM k i f).2 && (AqN (EM k i f).1).2 then ((AqN (EM k i f).1).1::(Avq k (i+1) fs).1,((frameT f).1.size:Int)+(Avq k (i+1) fs).2) else ([],0)
noncomputable def AsB (k file:AA):List Ah×Int:=Avq k 1 (PL file).1
theorem UBl {file:AA} (hs:file.size<=140737488351232):∀ (j a:Nat),a<=file.size->(∀ f ∈ (Jf j file a).1,f.size<=file.size)/\(Jf j file a).1.length+a<=file.size/\(Jf j file a).2<=file.size:=by
 intro j;induction j with
 | zero=>simp [Jf]
 | succ j ih=>
  intro a ha;rw [Jf];rcases kH hs ha with h | ⟨v,q,_,hq,_,_,_,h3,_,_,h⟩
  ·simp_all
  ·rw [h];obtain ⟨i1,i2,i3⟩:=ih (q+4+v.toNat) h3
   refine ⟨fun f hf=>?_,?_,i3⟩
   ·rcases List.mem_cons.1 hf with rfl | hf
    ·show (file.extract (q+4) (q+4+v.toNat)).size<=file.size;rw [ByteArray.size_extract];omega
    simp_all
   grind
theorem OAq {file:AA}:(∀ f ∈ (PL file).1,f.size<=20000)/\(PL file).1.length<=20000/\0<=(PL file).2/\(PL file).2<=(file.size:Int):=by
 rw [PL];by_cases h:(file.size:Int) > 20000;·simp_all
 ·rw [D6 h];obtain ⟨h1,h2,h3⟩:=UBl (file:=file) (by omega) (file.size+1) 0 (DJ _)
  grind
theorem VBl (k:AA):∀ (fs:List AA) (i:Int),(Avq k i fs).1.length<=fs.length:=by intro fs;induction fs<;>grind [Avq]
theorem WBl (k:List Int) (num:Int) (s:List Int):(NM k num s).length=s.length+16:=by simp [NM,bn,Ru,nS]
theorem XBl {k s:AA} {num:Int} (h:(Si k num s).2=true):EM k num (Si k num s).1=(s,true)/\(Si k num s).1.size=s.size+16:=by grind [Si,CBl,Jj,y5,Dj,WBl]
def tx (k:AA):Int->List Ah->List AA
 | _,[]=>[]
 | i,r::rs=>(Si k i (ArP r).1).1::tx k (i+1) rs
theorem Ua (k:AA):∀ (l:List Ah) (i:Int),(tx k i l).length=l.length
 | [],_=>rfl
 | r::rs,i=>by rw [tx,List.length_cons,List.length_cons,Ua k rs]
theorem aA (k:AA):∀ (l:List Ah) (i:Int) (w:Nat),(tx k i l).take w=tx k i (l.take w)
 | [],_,w=>by simp [tx]
 | r::rs,i,0=>rfl
 | r::rs,i,w+1=>by rw [tx,List.take_succ_cons,List.take_succ_cons,tx,aA k rs]
theorem YA9 (k:AA):∀ (l q:List Ah) (i:Int),tx k i (l++q)=tx k i l++tx k (i+l.length) q
 | [],q,i=>by simp [tx]
 | r::rs,q,i=>by rw [List.cons_append,tx,tx,YA9 k rs,List.length_cons,List.cons_append];rw [show i+1+(rs.length:Int)=i+((rs.length+1:Nat):Int) by omega]
def Sound (l:List Ah):Prop:=∀ r ∈ l,(ArP r).2=true
theorem yT (k:AA):∀ (l:List Ah) (i:Int),0<=i->i+l.length<=1000000000->∀ t ∈ tx k i l,1<=t.size/\t.size<=320
 | [],_,_,_,t,ht=>by cases ht
 | r::rs,i,h0,h1,t,ht=>by
  rw [List.length_cons] at h1;rw [tx] at ht;rcases List.mem_cons.1 ht with rfl | ht
  ·have:=(yP (k:=k) (s:=(ArP r).1) (num:=i) (by omega) (by have:=V8 r;omega)).2.2;have:=V8 r;omega
  ·exact yT k rs (i+1) (by omega) (by omega) t ht
theorem YBl {r:Ah} (h:(ArP r).2=true):AqN (ArP r).1=(r,true):=by have:=V8 r;have e1:=AWI (t:=(ArP r).1) (by omega);grind [YBK]
theorem BBL (k:AA):∀ (l:List Ah) (i:Int),0<=i->i+l.length<=1000000000->Sound l->Avq k i (tx k i l)=(l,((ArG (tx k i l)).length:Int))
 | [],_,_,_,_=>rfl
 | r::rs,i,h0,h1,hs=>by
  rw [List.length_cons] at h1;have hz:=V8 r;obtain ⟨l1,l2,l3⟩:=yP (k:=k) (s:=(ArP r).1) (num:=i) (by omega) (by omega)
  obtain ⟨f1,f2⟩:=YA8 (t:=(Si k i (ArP r).1).1) (by omega)
  rw [tx,Avq,(XBl l1).1];dsimp only;rw [YBl (hs r (List.mem_cons_self ..)),BBL k rs (i+1) (by omega) (by omega) (fun x hx=>hs x (List.mem_cons_of_mem _ hx)),f2,Dj,ArG,List.length_append];show (r::rs,_)=_;refine congrArg (fun n=>(r::rs,n)) ?_;show ((Ard _).length:Int)+((ArG _).length:Int)=_;omega
theorem PAq (k:AA) (ts:List AA) (h:∀ t ∈ ts,1<=t.size/\t.size<=320):(ArG ts).length<=334*ts.length:=by
 induction ts with
 | nil=>exact Nat.le_refl 0
 | cons t ts ih=>
  have h1:=ih fun x hx=>h x (List.mem_cons_of_mem _ hx)
  grind [yU,bs_len,Apv,ArG]
theorem ZA9 {k file:AA} {l:List Ah} {K:Nat} (hl:l.length<=50) (hs:Sound l) (hK:K<=(ArG (tx k 1 l)).length) (hf:bs file=(ArG (tx k 1 l)).take K):AsB k file=(l.take (whole (tx k 1 l) K),((ArG (tx k 1 (l.take (whole (tx k 1 l) K)))).length:Int)):=by
 have hsz:=yT k l 1 (by omega) (by omega);have hsm:=PAq k _ hsz;rw [Ua] at hsm;have hlen:file.size=K:=by grind [bs_len]
 obtain ⟨w1,w2,w3⟩:=GAq (tx k 1 l) K
 have hu:=AjI (file:=file) (by omega) (tx k 1 l) K (file.size+1) 0 (fun t ht=>by grind) (DJ _) (by assumption) (by omega);rw [AsB,PL,show decide ((file.size:Int) > 20000)=false from D6 (by omega),Aq,hu];dsimp only;rw [aA];exact BBL k _ 1 (by omega) (by grind) (fun r hr=>hs r (List.mem_of_mem_take hr))
theorem QAq {l:List Ah}:∀ {b:Bo},(Apz b l).2=true->Sound l:=by
 induction l with
 | nil=>intro b _ r hr;cases hr
 | cons x xs ih=>
  intro b h r hr;rw [Apz] at h;cases h2:(RZ b x).2;·simp_all
  ·rw [h2,Ar] at h;rcases List.mem_cons.1 hr with rfl | hr
   ·exact (Arn h2).2.1
   ·exact ih h r hr
theorem ZBl {file:AA} {a:Nat} (hs:file.size<=140737488351232) (ha:a<=file.size) {p:AA×Nat} (h:N9 file a=some p):p.2=a+(frameT p.1).1.size/\p.2<=file.size:=by grind [kH,ByteArray.size_extract,Aqo,frameT,Dj,Ard,bs_len]
theorem Aje (k:AA) {file:AA} (hs:file.size<=140737488351232):∀ (j a:Nat) (i:Int),a<=file.size->0<=(Avq k i (Jf j file a).1).2/\(a:Int)+(Avq k i (Jf j file a).1).2<=(file.size:Int):=by
 intro j;induction j with
 | zero=>intro a i ha;exact ⟨Int.le_refl 0,by show (a:Int)+0<=_;omega⟩
 | succ j ih=>
  intro a i ha;rw [Jf];cases h:N9 file a<;>grind [ZBl,Avq]
theorem CBL (k file:AA):0<=(AsB k file).2/\(AsB k file).2<=(file.size:Int):=by
 rw [AsB,PL];by_cases h:(file.size:Int) > 20000;·rw [Ba h];exact ⟨Int.le_refl 0,by show (0:Int)<=_;omega⟩
 ·rw [D6 h,Aq];have h2:=Aje k (file:=file) (by omega) (file.size+1) 0 1 (DJ _);simp_all
theorem AMQ {d:BU} {n:AA} {B:Nat} (hf:∀ f ∈ d.Ak,f.fText.size<=B):(Hl d n).1.size<=B:=by
 rw [Hl];cases h:Avc d.Ak n 0 with
 | none=>exact DJ _
 | some j=>
  have h1:=(Z8 h).2;simp_all
def DF:AA:=⟨#[98,111,111,107]⟩
def nNew:AA:=⟨#[98,111,111,107,43]⟩
noncomputable def ArE (k:AA) (d:BU):Bo×List Ef×Bool:=
 bif !(Ap0 d) || !(Apz Nb (AsB k (Hl d DF).1).1).2 then (oU,[],false)
 else ((Apz Nb (AsB k (Hl d DF).1).1).1,(bif decide (AqB d nNew>=0) then [⟨4,nNew,⟨#[]⟩,⟨#[]⟩⟩] else [])++(bif (AsB k (Hl d DF).1).2 == ((Hl d DF).1.size:Int) then [] else [⟨1,nNew,(Hl d DF).1.extract 0 (AsB k (Hl d DF).1).2.toNat,⟨#[]⟩⟩,⟨2,nNew,⟨#[]⟩,⟨#[]⟩⟩,⟨3,nNew,⟨#[]⟩,DF⟩]),true)
theorem BBm (k:AA):∀ (fs:List AA) (i:Int),(∀ f ∈ fs,f.size<=20000)->∀ r ∈ (Avq k i fs).1,r.DR<=9223372036854775807:=by
 intro fs;induction fs with
 | nil=>intro i _ r hr;cases hr
 | cons f fs ih=>
  intro i hf r hr;rw [Avq] at hr;cases h:(EM k i f).2 && (AqN (EM k i f).1).2;·simp_all
  ·rw [h,Ar] at hr;rcases List.mem_cons.1 hr with rfl | hr
   ·have hz:=tH k f i;have hfz:=hf f (List.mem_cons_self ..);rcases TBl (t:=(EM k i f).1) (by omega) with ⟨_,h2⟩ | h2
    ·have h3:(ArP (AqN (EM k i f).1).1).2=true:=by rw [h2]
     rcases lM h3 with ⟨hk,_⟩ | ⟨hk,hc⟩ | ⟨hk,_⟩ | ⟨hk,hc⟩
     ·rw [ArP,hk] at h3;simp only [show ((1:Int) == 1)=true from rfl,Ar] at h3;cases hc:(((AqN (EM k i f).1).1.fText.size:Int) == 32 && (AqN (EM k i f).1).1.DR == 0 && AwP (AqN (EM k i f).1).1.Ag)
      ·rw [hc] at h3;cases h3
      simp_all
     ·omega
     ·rw [ArP,hk] at h3;simp only [show ((3:Int) == 1)=false from rfl,show ((3:Int) == 2)=false from rfl,show ((3:Int) == 3)=true from rfl,Ar,Aq] at h3;cases hc:((Apu (AqN (EM k i f).1).1.Ag).2 && Ar0 (AqN (EM k i f).1).1.fText && (AqN (EM k i f).1).1.DR == 0)
      ·rw [hc] at h3;cases h3
      simp_all
     ·omega
    simp_all
   grind
theorem CBm (k file:AA):∀ r ∈ (AsB k file).1,r.DR<=9223372036854775807:=BBm k _ _ (OAq (file:=file)).1
theorem DBL (k file:AA):(AsB k file).1.length<=20000:=Nat.le_trans (VBl k _ _) (OAq (file:=file)).2.1
def dk (F:AA) (n:Int):BU:=⟨[⟨DF,F,n⟩]⟩
theorem EBL (G:AA):(⟨#[]⟩:AA)++G=G:=Aq3 (by rfl)
theorem qC:(DF.toList == nNew.toList)=false:=by rw [toList_inj];rfl
theorem BBA:Op.bytesLess DF.toList nNew.toList=true:=by rw [ByteArray.toList_eq,ByteArray.toList_eq];rfl
theorem zf {f:BQ} {fs:List BQ} {n:AA} {i:Nat} (h:(f.fName.toList == n.toList)=true):Avc (f::fs) n i=some i:=by simp_all [Avc]
theorem RAq {f:BQ} {fs:List BQ} {n:AA} {i:Nat} (h:(f.fName.toList == n.toList)=false):Avc (f::fs) n i=Avc fs n (i+1):=by simp_all [Avc]
theorem CBA {N F:AA} {n:Int} (hN:1<=N.size/\N.size<=8) (h:0<=n/\n<=(F.size:Int)) (hF:F.size<=20000):NH ⟨N,F,n⟩=true:=yR.2 ⟨⟨by grind,by grind⟩,by grind,h.1,h.2⟩
theorem ArZ {F:AA} {n:Int} (h:0<=n/\n<=(F.size:Int)) (hF:F.size<=20000):Ap0 (dk F n)=true:=by rw [dk,Ap0,Arc,Arc,CBA (by decide) h hF,xU (s:=DF) (by decide)];rfl
theorem SAq {F G:AA} {n m:Int} (h:0<=n/\n<=(F.size:Int)) (hF:F.size<=20000) (h2:0<=m/\m<=(G.size:Int)) (hG:G.size<=20000):Ap0 ⟨[⟨DF,F,n⟩,⟨nNew,G,m⟩]⟩=true:=by rw [Ap0,Arc,Arc,Arc,CBA (by decide) h hF,CBA (by decide) h2 hG,xU (s:=DF) (by decide),BBA];rfl
theorem DBA (F F':AA) (n n':Int):AqY [⟨DF,F,n⟩] ⟨DF,F',n'⟩=[⟨DF,F',n'⟩]:=by simp [AqY,NQ,AqJ,zL]
theorem DBm (F G:AA) (n m:Int):AqY [⟨DF,F,n⟩] ⟨nNew,G,m⟩=[⟨DF,F,n⟩,⟨nNew,G,m⟩]:=by simp [AqY,NQ,AqJ,BBA]
theorem EBm (F G G':AA) (n m m':Int):AqY [⟨DF,F,n⟩,⟨nNew,G,m⟩] ⟨nNew,G',m'⟩=[⟨DF,F,n⟩,⟨nNew,G',m'⟩]:=by simp [AqY,NQ,AqJ,BBA,zL]
theorem FBm (F G:AA) (n m:Int):AsK [⟨DF,F,n⟩,⟨nNew,G,m⟩] nNew=[⟨DF,F,n⟩]:=by simp [AsK,qC]
theorem qE {l:List BQ} (h:Ap0 ⟨l⟩=true):doneD l=(⟨l⟩,true):=by simp_all [doneD]
theorem GBm {T:AA} (hT:T.size<=20000):Gu ⟨[]⟩ ⟨1,DF,T,⟨#[]⟩⟩=(dk T 0,true):=by simp only [Gu,show Ap0 ⟨[]⟩=true from rfl,Oe,Bool.or_true,beq_self_eq_true,Bool.true_or,Bool.and_self,Ar,Avc,EBL];rw [show AqY [] (⟨DF,T,0⟩:BQ)=[⟨DF,T,0⟩] from rfl,qE (ArZ (by omega) hT)];rfl
theorem TAq {F T:AA} {n:Int} (h:0<=n/\n<=(F.size:Int)) (hF:(F++T).size<=20000):Gu (dk F n) ⟨1,DF,T,⟨#[]⟩⟩=(dk (F++T) n,true):=by have hz:(F++T).size=F.size+T.size:=ByteArray.size_append;have hp:Avc (dk F n).Ak DF 0=some 0:=zf (Oe _);simp only [Gu,ArZ h (show F.size<=20000 by omega),Oe,Bool.or_true,beq_self_eq_true,Bool.true_or,Bool.and_self,Ar,hp];show doneD (AqY [⟨DF,F,n⟩] ⟨DF,F++T,n⟩)=_;rw [DBA,qE (ArZ (by omega) hF)];rfl
theorem FBL {F:AA} {n:Int} (h:0<=n/\n<=(F.size:Int)) (hF:F.size<=20000):Gu (dk F n) ⟨2,DF,⟨#[]⟩,⟨#[]⟩⟩=(dk F F.size,true):=by have hp:Avc (dk F n).Ak DF 0=some 0:=zf (Oe _);simp only [Gu,ArZ h hF,Oe,Bool.or_true,beq_self_eq_true,Bool.true_or,Bool.and_self,Ar,hp];show doneD (AqY [⟨DF,F,n⟩] ⟨DF,F,(F.size:Int)⟩)=_;rw [DBA,qE (ArZ (by omega) hF)];rfl
def Apx (T:AA):List Ef:=[⟨1,DF,T,⟨#[]⟩⟩,⟨2,DF,⟨#[]⟩,⟨#[]⟩⟩]
theorem GBL {T:AA} (hT:T.size<=20000):Aqu ⟨[]⟩ (Apx T) 0=(dk T T.size,2):=by simp_all [Apx,Aqu,GBm,FBL]
theorem HBm {F T:AA} {n:Int} (h:0<=n/\n<=(F.size:Int)) (hF:(F++T).size<=20000):Aqu (dk F n) (Apx T) 0=(dk (F++T) (F++T).size,2):=by grind [Apx,Aqu,TAq,FBL]
def EBA (G:AA):List Ef:=[⟨1,nNew,G,⟨#[]⟩⟩,⟨2,nNew,⟨#[]⟩,⟨#[]⟩⟩,⟨3,nNew,⟨#[]⟩,DF⟩]
theorem IBm {F G:AA} {n:Int} (h:0<=n/\n<=(F.size:Int)) (hF:F.size<=20000) (hG:G.size<=20000):Gu (dk F n) ⟨1,nNew,G,⟨#[]⟩⟩=(⟨[⟨DF,F,n⟩,⟨nNew,G,0⟩]⟩,true):=by grind [Avc,dk,RAq,qC,Gu,ArZ,EBL,DBm,qE,SAq]
theorem JBm {F G:AA} {n:Int} (h:0<=n/\n<=(F.size:Int)) (hF:F.size<=20000) (hG:G.size<=20000):Gu ⟨[⟨DF,F,n⟩,⟨nNew,G,0⟩]⟩ ⟨2,nNew,⟨#[]⟩,⟨#[]⟩⟩=(⟨[⟨DF,F,n⟩,⟨nNew,G,(G.size:Int)⟩]⟩,true):=by
 have hp:Avc [(⟨DF,F,n⟩:BQ),⟨nNew,G,0⟩] nNew 0=some 1:=by simp [RAq,qC,zf]
 simp only [Gu,SAq h hF (m:=0) (G:=G) (by omega) hG,Oe,Bool.or_true,beq_self_eq_true,Bool.true_or,Bool.and_self,Ar,hp];show doneD (AqY [⟨DF,F,n⟩,⟨nNew,G,0⟩] ⟨nNew,G,(G.size:Int)⟩)=_;simp_all [EBm,qE,SAq]
theorem KBm {F G:AA} {n:Int} (h:0<=n/\n<=(F.size:Int)) (hF:F.size<=20000) (hG:G.size<=20000):Gu ⟨[⟨DF,F,n⟩,⟨nNew,G,(G.size:Int)⟩]⟩ ⟨3,nNew,⟨#[]⟩,DF⟩=(dk G G.size,true):=by
 have hp:Avc [(⟨DF,F,n⟩:BQ),⟨nNew,G,(G.size:Int)⟩] nNew 0=some 1:=by simp [RAq,qC,zf]
 simp only [Gu,SAq h hF (m:=(G.size:Int)) (G:=G) (by omega) hG,Oe,Bool.or_true,beq_self_eq_true,Bool.true_or,Bool.and_self,Ar,hp];show (bif decide ((G.size:Int)<(G.size:Int)) || (DF.toList == nNew.toList) then _ else doneD (AqY (AsK [⟨DF,F,n⟩,⟨nNew,G,(G.size:Int)⟩] nNew) ⟨DF,G,(G.size:Int)⟩))=_;rw [D6 (by omega),qC,Bool.or_self,Aq,FBm,DBA,qE (ArZ (by omega) hG)];rfl
theorem LBm {F G:AA} {n:Int} (h:0<=n/\n<=(F.size:Int)) (hF:F.size<=20000) (hG:G.size<=20000):Aqu (dk F n) (EBA G) 0=(dk G G.size,3):=by simp_all [EBA,Aqu,IBm,JBm,KBm]
theorem UAq (F:AA) (n:Int):Hl (dk F n) DF=(F,true):=by simp [Hl,dk,zf]
theorem MBm (F:AA) (n:Int):AqB (dk F n) nNew = -1:=by grind [AqB,Avc,dk,RAq,qC]
theorem HBL {k F:AA} {l:List Ah} {n:Int} {K:Nat} (hl:l.length<=50) (hs:Sound l) (he:(Apz Nb l).2=true) (hK:K<=(ArG (tx k 1 l)).length) (hf:bs F=(ArG (tx k 1 l)).take K) (hn:0<=n/\n<=(F.size:Int)) (hF:F.size<=20000) :
  ArE k (dk F n)=((Apz Nb (l.take (whole (tx k 1 l) K))).1,bif ((ArG (tx k 1 (l.take (whole (tx k 1 l) K)))).length:Int) == (F.size:Int) then [] else EBA (F.extract 0 (ArG (tx k 1 (l.take (whole (tx k 1 l) K)))).length),true):=by
 rw [ArE,ArZ hn hF,UAq,ZA9 hl hs hK hf];dsimp only;rw [MA9 _ he,MBm];rfl
theorem IBL (ts:List AA):∀ (j K:Nat),j<=ts.length->(ArG (ts.take j)).length<=K->j<=whole ts K:=by
 induction ts with
 | nil=>simp_all
 | cons t ts ih=>
  intro j K hj h;cases j with
  | zero=>omega
  | succ j=>
   rw [List.take_succ_cons,ArG,List.length_append] at h;rw [List.length_cons] at hj;rw [whole,if_pos (by omega)];have:=ih j (K - (Ard (bs t)).length) (by omega) (by omega);omega
def Small (d:BU):Prop:=d.Ak.length<=1/\∀ f ∈ d.Ak,f.fText.size<=20000
theorem JBL {F:AA} {n:Int} (h:F.size<=20000):Small (dk F n):=⟨Nat.le_refl _,fun f hf=>by
 have hf:f ∈ [(⟨DF,F,n⟩:BQ)]:=hf;simp_all⟩
theorem kP {k:AA} {l:List Ah} {i:Nat} (h:i<l.length):ArG (tx k 1 (l.take (i+1)))=ArG (tx k 1 (l.take i))++Ard (bs (Si k ((i:Int)+1) (ArP l[i]).1).1):=by rw [take_at h,YA9,RBK,List.length_take,Nat.min_eq_left (by omega),show (1:Int)+(i:Int)=(i:Int)+1 by omega,tx,tx,ArG,ArG,List.append_nil]
theorem VAq {k:AA} {l:List Ah} (hl:l.length<=50) (i:Nat):(ArG (tx k 1 (l.take i))).length<=16700:=by
 have hz:(l.take i).length<=50:=by grind
 have h:=PAq k _ (yT k (l.take i) 1 (by omega) (by omega));grind [Ua]
def OnD (k:AA) (l:List Ah) (i:Nat) (d:BU):Prop:=(i=0/\d=⟨[]⟩)\/∃ F:AA,d=dk F F.size/\bs F=ArG (tx k 1 (l.take i))
theorem xA {k:AA} {r:Ah} {i:Nat} (hr:(ArP r).2=true) (hi:i<=10000):∃ T,AwN k (i:Int) r=(Apx T,true)/\bs T=Ard (bs (Si k ((i:Int)+1) (ArP r).1).1):=by
 have hz:=V8 r;obtain ⟨l1,l2,l3⟩:=yP (k:=k) (s:=(ArP r).1) (num:=(i:Int)+1) (by omega) (by omega)
 obtain ⟨f1,f2⟩:=YA8 (t:=(Si k ((i:Int)+1) (ArP r).1).1) (by omega)
 refine ⟨(frameT (Si k ((i:Int)+1) (ArP r).1).1).1,?_,by rw [f2,Avo (vI (Jj _))]⟩;rw [AwN,hr,Aqo.2 (show 0<=(i:Int)/\(i:Int)<=10000 by omega)];rfl
theorem OBm {k T:AA} {l:List Ah} {i:Nat} (hl:l.length<=50) (hi:i<l.length) (hT:bs T=Ard (bs (Si k ((i:Int)+1) (ArP l[i]).1).1)):(ArG (tx k 1 (l.take i))).length+T.size<=16700:=by have h:=congrArg List.length (kP (k:=k) hi);grind [VAq,bs_len]
theorem PBm {k T:AA} {l:List Ah} {i:Nat} {d:BU} (hl:l.length<=50) (hi:i<l.length) (h:OnD k l i d) (hT:bs T=Ard (bs (Si k ((i:Int)+1) (ArP l[i]).1).1)):∃ E:AA,Aqu d (Apx T) 0=(dk E E.size,2)/\bs E=ArG (tx k 1 (l.take (i+1))):=by
 have hs:=OBm hl hi hT;rcases h with ⟨rfl,rfl⟩ | ⟨F,rfl,hF⟩
 ·exact ⟨T,GBL (by omega),by rw [kP hi,<-hT];rfl⟩
 ·have hz:(F++T).size=F.size+T.size:=ByteArray.size_append;have hF2:F.size=(ArG (tx k 1 (l.take i))).length:=by grind [bs_len]
  exact ⟨F++T,HBm (by omega) (by omega),by simp_all [Fa,kP]⟩
theorem QBm {k F:AA} {l:List Ah} {n:Int} (hl:l.length<=50) (hs:Sound l) (he:(Apz Nb l).2=true) (hf:bs F=ArG (tx k 1 l)) (hn:0<=n/\n<=(F.size:Int)):ArE k (dk F n)=((Apz Nb l).1,[],true):=by
 have hsm:=VAq (k:=k) hl l.length;rw [List.take_length] at hsm;have hF:F.size=(ArG (tx k 1 l)).length:=by grind [bs_len]
 have h:=HBL (k:=k) (F:=F) (l:=l) (n:=n) (K:=(ArG (tx k 1 l)).length) hl hs he (Nat.le_refl _) (by simp_all) hn (by omega);simp_all [RA9,Ua]
def Ue (b:Ap) (i:Nat):Bool:=match Aqg b.AU.AZ (b.BD.getD i ⟨0,0⟩).fId with
 | some x=>x.Aj == 2 && (Ark (b.BD.getD i ⟨0,0⟩).fNext 0 x.fNext && (i == 0 || !decide ((b.BD.getD (i - 1) ⟨0,0⟩).fId>=(b.BD.getD i ⟨0,0⟩).fId)))
 | none=>false
def Aqx (b:Ap):Nat->Nat->Bool
 | 0,_=>true
 | j+1,i=>Ue b i && Aqx b j (i+1)
def Va (b:Ap):Bool:=Aqx b b.BD.length 0
theorem RBm {b:Bo} {l:List Ah} (h:b.AZ.length<=2932031007317):(Apz b l).1.AZ.length<=2932031007317:=by
 induction l generalizing b with
 | nil=>exact h
 | cons r rs ih=>
  rw [Apz];cases h3:(RZ b r).2;·exact DJ _
  grind [LA9]
theorem WAq (k:AA) (d:BU):(ArE k d).1.AZ.length<=2932031007317/\(ArE k d).2.1.length<=4:=by
 rw [ArE];cases (!(Ap0 d) || !(Apz Nb (AsB k (Hl d DF).1).1).2);·refine ⟨RBm (DJ _),?_⟩;grind
 ·exact ⟨DJ _,DJ _⟩
def eqT (x y:Af):Bool:=(x.fId == y.fId) && ((x.Aj == y.Aj) && ((x.CY == y.CY) && ((x.CX == y.CX) && ((x.Gw == y.Gw) && ((x.GH == y.GH) && (((ByteArray.toList x.fValue) == (ByteArray.toList y.fValue)) && ((x.fNext == y.fNext) && true)))))))
theorem KBL (x y:Af):((x.fId == y.fId) && ((x.Aj == y.Aj) && ((x.CY == y.CY) && ((x.CX == y.CX) && ((x.Gw == y.Gw) && ((x.GH == y.GH) && (((ByteArray.toList x.fValue) == (ByteArray.toList y.fValue)) && ((x.fNext == y.fNext) && true))))))))=eqT x y:=rfl
theorem SBm {x y:Af}:eqT x y=true↔x=y:=by
 simp only [eqT,Bool.and_eq_true,beq_iff_eq];constructor
 ·rintro ⟨h1,h2,h3,h4,h5,h6,h7,h8,_⟩;have Hk:x.fValue=y.fValue:=by grind [toList_inj]
  cases x;simp_all
 grind
def QY:List Af->List Af->Bool
 | [],[]=>true
 | x::a,y::b=>eqT x y && QY a b
 | _,_=>false
theorem FBA:∀ {a b:List Af},QY a b=true↔a=b
 | [],[]=>by simp [QY]
 | x::a,y::b=>by simp [QY,SBm,FBA]
 | [],_::_=>by simp [QY]
 | _::_,[]=>by simp [QY]
theorem LBL {a b:List Af} (h:a.length≠b.length):QY a b=false:=by grind [FBA]
def SE (a b:Bo):Bool:=(a.Bv.toList == b.Bv.toList) && ((a.DU == b.DU) && (QY a.AZ b.AZ && ((a.BM == b.BM) && ((a.Dh.toList == b.Dh.toList) && (a.fCount == b.fCount)))))
theorem MBL {a b:Bo}:SE a b=true↔a=b:=by
 simp only [SE,Bool.and_eq_true,toList_inj,decide_eq_true_eq,beq_iff_eq,FBA];constructor;·rintro ⟨h1,h2,h3,h4,h5,h6⟩;cases a;simp_all
 grind
def aH (b:Ap) (i:Nat):Bool:=Ark (b.BP.getD i ⟨0,false⟩).fId 1 b.CW && (i == 0 || !decide ((b.BP.getD (i - 1) ⟨0,false⟩).fId>=(b.BP.getD i ⟨0,false⟩).fId))
def Oc (b:Ap):Nat->Nat->Bool
 | 0,_=>true
 | j+1,i=>aH b i && Oc b j (i+1)
noncomputable def Xw (b:Ap):Bool:=bif b.CZ then (ArE b.BO b.Bc).2.2 && (((ArE b.BO b.Bc).2.1.length:Int) == 0 && (G9 b.AU && (SE (ArE b.BO b.Bc).1 b.AU && Va b)))
 else (b.BP.length:Int) == 0 && ((b.BD.length:Int) == 0 && SE b.AU Nb)
noncomputable def QF (b:Ap):Bool:=(b.BO.size:Int) == 32 && (Ap0 b.Bc && (decide ((b.BP.length:Int)<=3) && (Ark b.CW 0 1000 && (Oc b b.BP.length 0 && Xw b))))
def kM (b:Ap):Ap:=⟨b.BO,false,b.Bc,Nb,[],[],0⟩
theorem TBm {k w:AA} (hk:k.size=32) (hw:w.size<=20):∃ T:AA,AsM k w=(⟨k,true,dk T T.size,(RZ Nb (Gf w)).1,[],[],0⟩,true)/\T.size<=20000/\bs T=ArG (tx k 1 [Gf w]):=by
 have hr:(ArP (Gf w)).2=true:=by rw [xJ]
 obtain ⟨T,t1,t2⟩:=xA (k:=k) (r:=Gf w) (i:=0) hr (DJ _)
 have hT:bs T=ArG (tx k 1 [Gf w]):=by simp_all [tx,ArG]
 have hsm:=PAq k _ (yT k [Gf w] 1 (by omega) (by simp));grind [Ua,bs_len,AsM,GBL]
theorem NBL {b:Ap} (hk:b.BO.size=32) (hd:Ap0 b.Bc=true):QF (kM b)=true:=by rw [QF,Xw,kM];simp only [hd,MBL.2 rfl,hk,Aq];rfl
structure Good (k:AA) (l:List Ah) (b:Ap):Prop where
 H6:k.size=32
 key:b.BO=k
 up:b.CZ=true
 disk:∃ F:AA,b.Bc=dk F F.size/\bs F=ArG (tx k 1 l)
 len:1<=l.length/\l.length<=50
 book:Apz Nb l=(b.AU,true)
 MX:b.BP.length<=3/\Oc b b.BP.length 0=true
 opn:0<=b.CW/\b.CW<=1000
 LH:Va b=true/\b.BD.length<=8
theorem Good.book1 {k:AA} {l:List Ah} {b:Ap} (g:Good k l b):(Apz Nb l).1=b.AU:=by rw [g.book]
theorem Good.ArF {k:AA} {l:List Ah} {b:Ap} (g:Good k l b):G9 b.AU=true:=by have:=JBk (rs:=l) KA9 (by rw [g.book]);rw [g.book] at this;omega
theorem Good.cnt {k:AA} {l:List Ah} {b:Ap} (g:Good k l b):b.AU.fCount=(l.length:Int):=by have:=KBk (l:=l) (b:=Nb) (by rw [g.book]);rw [g.book,show Nb.fCount=0 from rfl,Int.zero_add] at this;omega
theorem Good.sound {k:AA} {l:List Ah} {b:Ap} (g:Good k l b):Sound l:=QAq (b:=Nb) (by rw [g.book])
theorem Good.wz {k F:AA} {l:List Ah} (hl:l.length<=50) (hF:bs F=ArG (tx k 1 l)):F.size<=16700:=by grind [VAq,List.take_length,bs_len]
theorem Good.small {k:AA} {l:List Ah} {b:Ap} (g:Good k l b):Small b.Bc:=by
 obtain ⟨F,h1,h2⟩:=g.disk
 rw [h1];exact JBL (by have:=Good.wz g.len.2 h2;omega)
theorem Good.Xx {k:AA} {l:List Ah} {b:Ap} (g:Good k l b):b.AU.AZ.length<=8:=(G7.1 g.ArF).2.2.2.1
theorem Good.ok {k:AA} {l:List Ah} {b:Ap} (g:Good k l b):QF b=true:=by
 obtain ⟨F,h1,h2⟩:=g.disk
 have hz:=Good.wz g.len.2 h2;have hm:=QBm (k:=k) (F:=F) (l:=l) (n:=F.size) g.len.2 g.sound (by rw [g.book]) h2 (by omega);rw [g.book] at hm;have hd:=ArZ (F:=F) (n:=(F.size:Int)) (by omega) (by omega);have h3:=g.MX.1;rw [QF,Xw,g.up,g.key,h1,hd,hm,g.H6,g.ArF,g.MX.2,g.LH.1,show SE b.AU b.AU=true from MBL.2 rfl,Ba (by omega:(b.BP.length:Int)<=3),Aqo.2 g.opn];rfl
theorem OBL {b c:Ap} (h1:c.BP=b.BP) (h2:c.CW=b.CW):∀ j i,Oc c j i=Oc b j i:=by intro j;induction j<;>simp_all [Oc,aH]
theorem UBm {b c:Ap} (h1:c.BD=b.BD) (h2:c.AU.AZ=b.AU.AZ):∀ j i,Aqx c j i=Aqx b j i:=by intro j;induction j<;>simp_all [Aqx,Ue]
theorem rU {k w:AA} (hk:k.size=32) (hw:w.size<=20):(AsM k w).2=true/\Good k [Gf w] (AsM k w).1/\(AsM k w).1.BP=[]/\(AsM k w).1.BD=[]/\(AsM k w).1.CW=0/\(AsM k w).1.AU=(RZ Nb (Gf w)).1:=by
 obtain ⟨T,h1,h2,h3⟩:=TBm hk hw
 rw [h1];refine ⟨rfl,⟨hk,rfl,rfl,⟨T,rfl,h3⟩,⟨Nat.le_refl _,by simp⟩,?_,⟨DJ _,rfl⟩,⟨Int.le_refl _,by simp⟩,⟨rfl,DJ _⟩⟩,rfl,rfl,rfl,rfl⟩;simp [Apz,IBK]
def Aqi:List CS->Int->Nat->Option Nat
 | [],_,_=>none
 | l::ls,t,i=>if l.fId == t then some i else Aqi ls t (i+1)
theorem fP {t:Int}:∀ {ls:List CS} {i j:Nat},Aqi ls t i=some j->i<=j/\j<i+ls.length:=by intro ls;induction ls<;>grind [Aqi]
def atV (b:Ap) (t:Int):Int:=match Aqi b.BD t 0 with | some j=>(j:Int) | none=> -1
def Arx (b:Ap) (x:Af):Int:=match Aqi b.BD x.fId 0 with | some j=>(b.BD.getD j ⟨0,0⟩).fNext | none=>x.fNext
def AsP (b:Ap) (t:Int):Int:=match Aqg b.AU.AZ t with
 | some x=>bif x.Aj == 2 then Arx b x else -1
 | none=> -1
def GV:List CS->Int->Nat
 | [],_=>0
 | l::ls,id=>if l.fId<id then GV ls id+1 else 0
theorem PBL (id:Int):∀ ls:List CS,GV ls id<=ls.length
 | []=>Nat.le_refl _
 | l::ls=>by have:=PBL id ls;rw [GV,List.length_cons];split <;> omega
theorem QBL {id:Int}:∀ {ls:List CS} {i:Nat},i<GV ls id->(ls.getD i ⟨0,0⟩).fId<id
 | [],i,h=>absurd h (Nat.not_lt_zero _)
 | l::ls,i,h=>by
  rw [GV] at h;split at h
  ·cases i with
   | zero=>assumption
   | succ i=>exact QBL (ls:=ls) (by omega)
  ·omega
theorem RBL {id:Int}:∀ {ls:List CS},GV ls id<ls.length->¬ (ls.getD (GV ls id) ⟨0,0⟩).fId<id
 | [],h=>absurd h (Nat.not_lt_zero _)
 | l::ls,h=>by
  rw [GV] at h ⊢;split at h;·rename_i h1;rw [if_pos h1];exact RBL (ls:=ls) (by rw [List.length_cons] at h;omega)
  ·rename_i h1;rw [if_neg h1];exact h1
def aU (ls:List CS) (id n:Int):List CS:=match Aqi ls id 0 with
 | some j=>ls.set j ⟨(ls.getD j ⟨0,0⟩).fId,n⟩
 | none=>ls.take (GV ls id)++[⟨id,n⟩]++ls.drop (GV ls id)
def ZAq (b:Bo):Bool:=(b.Bv.size:Int) == 32 && ((b.Dh.size:Int) == 32 && (Ark b.DU 0 3 && (decide ((b.AZ.length:Int)<=8) && (Ark b.BM 0 1000 && Ark b.fCount 0 10000))))
theorem VBm {b:Bo} (hb:b.AZ.length<=140737488351232):∀ m i,i<=b.AZ.length->b.AZ.length - i<m->dX m (.c0 b.AZ b.AZ.length i b)=some (rise b.BM (Po b.AZ i) (b.AZ.drop i) && ZAq b):=fun m i h1 h2=>
 PV (A:=Unit) (n:=b.AZ.length) (Lp:=dX) (st:=fun i _=>.c0 b.AZ b.AZ.length i b) (Inv:=fun _ _=>True) (out:=fun i _=>some (rise b.BM (Po b.AZ i) (b.AZ.drop i) && ZAq b))
  (fun m _ _=>by
   simp only [dX,OAm,mk,Ti,AP,ZAq];rw [show decide ((b.AZ.length:Int)<(b.AZ.length:Int))=false from D6 (by omega),List.drop_of_length_le (Nat.le_refl _)];cases (b.Bv.size:Int) == 32 <;> cases (b.Dh.size:Int) == 32 <;> cases Ark b.DU 0 3 <;> cases decide ((b.AZ.length:Int)<=8) <;> cases Ark b.BM 0 1000 <;> rfl)
  (fun m i _ hi _=>by
   have hw:AV ((i:Int)+1)=((i+1:Nat):Int):=by grind [A8]
   simp only [AXi hi];simp only [dX,OAm,mk,BR,getD_at hi,sJ,AP,hw];rw [show decide ((i:Int)<(b.AZ.length:Int))=true from Ba (by omega),show decide ((0:Int)<=(i:Int))=true from Ba (by omega)];simp only [Bool.and_self,Ar];cases h1:Ar9 b.AZ[i];·simp
   ·cases h2:decide (b.AZ[i].fId > b.BM)
    ·by_cases h0:i=0;·subst h0;refine .inr ⟨(),rfl,trivial,?_⟩;rw [show decide (Po b.AZ 0>=b.AZ[0].fId)=false from D6 (by have:=(MZ h1).2.2.1;grind [Po])];rfl
     ·obtain ⟨j,rfl⟩:∃ j,i=j+1:=⟨i - 1,by omega⟩
      have hj:AV (((j+1:Nat):Int) - 1)=(j:Int):=by grind [A8]
      have hjl:j<b.AZ.length:=by omega
      rw [QA8 hjl];simp only [hj,BR,getD_at hjl,DN,Bool.not_false,Aq,Bool.true_and];rw [show decide (((j+1:Nat):Int) > 0)=true from Ba (by omega),show decide ((0:Int)<=(j:Int))=true from Ba (by omega),show decide ((j:Int)<(b.AZ.length:Int))=true from Ba (by omega)];simp only [Bool.and_self,Ar];cases h3:decide (b.AZ[j].fId>=b.AZ[j+1].fId);all_goals simp
    simp) m i () h1 h2 trivial
theorem SBL {b:Bo} (hb:b.AZ.length<=140737488351232):qF b=some (G9 b):=by have h0:=VBm hb AY 0 (DJ _) (FM (by omega));simp only [qF,UA2,mk];grind [G9,ZAq,Po]
theorem GBA {b:Bo} (h:b.AZ.length<=2932031007317):dY b=some b:=by rw [dY,VA2,mk,AL (by grind)]
theorem HBA {b:Bo} {t:Int} (h:b.AZ.length<=140737488351232):zh b t=some (match NK b.AZ t 0 with | some j=>(j:Int) | none=> -1):=by
 have key:∀ m i,i<=b.AZ.length->b.AZ.length - i<m->dZ m (.c0 t b.AZ b.AZ.length i)=some (match NK (b.AZ.drop i) t i with | some j=>(j:Int) | none=> -1):=fun m i h1 h2=>
  PV (A:=Unit) (n:=b.AZ.length) (Lp:=dZ) (st:=fun i _=>.c0 t b.AZ b.AZ.length i) (Inv:=fun _ _=>True) (out:=fun i _=>some (match NK (b.AZ.drop i) t i with | some j=>(j:Int) | none=> -1))
   (fun m _ _=>by simp [dZ,PAm,mk,NK])
   (fun m i _ hi _=>by
    have hw:AV ((i:Int)+1)=((i+1:Nat):Int):=by grind [A8]
    simp only [dZ,PAm,mk,BR,getD_at hi,hw,drop_at hi,NK];cases hq:b.AZ[i].fId == t;all_goals simp_all) m i () h1 h2 trivial
 have h0:=key AY 0 (DJ _) (FM (by omega));exact h0
theorem WBm (x y:Af):QAm x y=some (grown x y):=by rw [QAm,YA2,mk,grown,Vd,show decide (y.fNext>=x.fNext)=decide (x.fNext<=y.fNext) from rfl];grind
theorem XBm {b:Bo} {x:Af} (hb:G9 b=true) (hx:x.fId<=1000):RAm b x=some (match Ug b x with
 | some p=>(true,⟨b.Bv,b.DU,p.1,p.2,b.Dh,b.fCount⟩)
 | none=>(false,b)):=by
 obtain ⟨b1,b2,b3,b4,b5,b6,b7⟩:=G7.1 hb
 rw [RAm,ZA2,mk,HBA (by omega),AP,Ug];rcases TA8 (xs:=b.AZ) (id:=x.fId) with ⟨o,j,t1,t2,t3,t4,t5⟩ | ⟨t1,t2⟩
 ·have hg:∀ z,b.AZ.getD j z=o:=fun z=>by simp_all
  have hs:=(SA8 b7 t2).1;grind [WBm]
 grind [A8]
theorem TBL {b:Bo} {r:Ah} (hb:b.AZ.length<=140737488351232) (hr:r.DR<=9223372036854775807):qG b r=some (RZ b r):=by
 rw [qG,AQU,mk,V9 hr,AP,SBL hb,AP,RZ];cases h1:G9 b;·rfl
 cases h2:(ArP r).2;·rfl
 by_cases h3:b.fCount>=10000;·rw [Ba h3];rfl
 obtain ⟨b1,b2,b3,b4,b5,b6,b7⟩:=G7.1 h1
 have hz:=V8 r;have hw:AV (b.fCount+1)=b.fCount+1:=A8 (by omega) (by omega);have hdig:=Apw (s:=b.Dh++(ArP r).1) (by grind);have hsz:decide (b.Dh.size+(ArP r).1.size<=9223372036854775807)=true:=by grind
 simp only [D6 h3,DN,Bool.or_self,Aq,GBA (show b.AZ.length<=2932031007317 by omega),hdig,hsz,hw,AP,Ar];rcases lM h2 with ⟨hk,hc⟩ | ⟨hk,hc⟩ | ⟨hk,hc⟩ | ⟨hk,hc⟩
 ·simp_all
 ·simp_all
 ·rw [hk];simp only [show ((3:Int) == 1)=false from rfl,show ((3:Int) == 2)=false from rfl,show ((3:Int) == 3)=true from rfl,Ar,Aq];rw [XBm h1 (MZ hc).2.2.2.1,AP];cases Ug b r.Ag with
  | none=>rfl
  | some p=>simp_all
 ·rw [hk];simp only [show ((4:Int) == 1)=false from rfl,show ((4:Int) == 2)=false from rfl,show ((4:Int) == 3)=false from rfl,show ((4:Int) == 4)=true from rfl,Ar,Aq];rw [HBA hb,AP];rcases TA8 (xs:=b.AZ) (id:=r.DR) with ⟨o,j,t1,t2,t3,t4,t5⟩ | ⟨t1,t2⟩
  ·have hs:=(SA8 (x:=⟨r.DR,0,false,false,false,false,⟨#[]⟩,0⟩) b7 t2).2;rw [Nat.sub_zero] at hs;simp only at hs;rw [t1,t2];simp only [BR];have e:AV ((j:Int)+1)=((j+1:Nat):Int):=by grind [A8]
   simp only [e,BR,List.drop_zero,List.take_length,hs];grind
  ·rw [t1,t2];rfl
end Go.Proofs.YtkbbicgglblfiaaGreatDoor.G
