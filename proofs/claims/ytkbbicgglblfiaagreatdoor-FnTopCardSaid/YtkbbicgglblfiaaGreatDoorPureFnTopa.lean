/- The plain law of FnTop: whatever the arguments, it answers true. Conditions: what is read is in reach. Part 1 of 4. -/
import Derived.Test.YtkbbicgglblfiaaGreatDoorFFnTop
import Derived.Test.YtkbbicgglblfiaaGreatDoorOpens
import Derived.Test.YtkbbicgglblfiaaGreatDoorPBase
namespace Go.Proofs.YtkbbicgglblfiaaGreatDoor.G
open Go Go.Ev
set_option linter.unusedVariables false
set_option linter.unusedSimpArgs false
set_option linter.unusedSectionVars false
variable [PC]
theorem QBj (u:Unit):OAw u=some (decide ((KI.length:Int) > 1048576)):=rfl
def bs (s:AA):List Int:=s.data.toList.map fun b=>(b.toNat:Int)
theorem bs_len (s:AA):(bs s).length=s.size:=by simp [bs]
theorem DBB {s:AA} {n:Int} (h:n ∈ bs s):0<=n/\n<=255:=by unfold bs at h;rw [List.mem_map] at h;obtain ⟨b,_,rfl⟩:=h;have:=b.toNat_lt;omega
theorem Hr (a b:AA):bs (a++b)=bs a++bs b:=by simp [bs]
theorem JAg (s:AA):ofBytes (bs s)=s:=by simp [ofBytes,bs,Function.comp_def]
theorem KW {s t:AA} (h:bs s=bs t):s=t:=by grind [JAg]
theorem Oa {l:List Int} (h:∀ n,n ∈ l->0<=n/\n<=255):bs (ofBytes l)=l:=by
 simp only [bs,ofBytes,List.map_map];conv=>rhs;rw [<-List.map_id l]
 grind [List.map_congr_left,UInt8.toNat_ofNat']
theorem lW {s:AA} {i:Nat} (h:i<s.size):bt s (i:Int)=(bs s)[i]'(by simp_all [bs_len]):=by simp only [bt,BR,h,dite_true,bs,List.getElem_map];rfl
theorem Ud (s:AA) (i:Int):0<=bt s i/\bt s i<=255:=by
 unfold bt;split;·have:=(s[i.toNat]).toNat_lt;omega
 ·omega
theorem Awj (s:AA) (i j:Nat):bs (s.extract i j)=((bs s).take j).drop i:=by simp [bs,List.drop_take]
theorem IK {α:Type} {c:Bool} {a b:α} (h:c=true):(bif c then a else b)=a:=by simp_all
theorem TT {α:Type} {c:Bool} {a b:α} (h:c=false):(bif c then a else b)=b:=by simp_all
theorem V4 {s:AA} {i:Nat} (h:i<s.size):bt s (i:Int)=(bs s).getD i 0:=by grind [lW]
theorem LAr {α:Type} {a b:List α} {i:Nat} (h:i<a.length) (d:α):(a++b).getD i d=a.getD i d:=by simp_all [List.getElem?_append_left]
theorem gU {α:Type} {a b:List α} {x y:α} {i:Nat} (h:a.length=i):(a++x::b).set i y=a++y::b:=by simp_all
theorem RBj:bs (⟨#[]⟩:AA)=[]:=rfl
def Hw (l:List Int):Prop:=∀ n,n ∈ l->0<=n/\n<=255
theorem OC {l:List Int} (h:Hw l) (i:Nat):0<=l.getD i 0/\l.getD i 0<=255:=by
 by_cases hi:i<l.length;·rw [getD_at hi];exact h _ (List.getElem_mem hi)
 simp_all
theorem AxC (s:AA):Hw (bs s):=fun _ h=>DBB h
theorem pW (s:AA):bytesOf s=bs s:=rfl
def Ok {α:Type} (x:Option α) (Q:α->Prop):Prop:=∃ a,x=some a/\Q a
theorem Ok.bind {α β:Type} {x:Option α} {f:α->Option β} {Q:α->Prop} {R:β->Prop} (h:Ok x Q) (k:∀ a,Q a->Ok (f a) R):Ok (x.bind f) R:=by obtain ⟨a,rfl,h⟩:=h;simp_all
theorem Ok.cond {α:Type} {c:Bool} {a b:Option α} {R:α->Prop} (h1:c=true->Ok a R) (h2:c=false->Ok b R):Ok (bif c then a else b) R:=by grind
theorem Ok.chk {α:Type} {c:Bool} {a:Option α} {R:α->Prop} (hc:c=true) (h1:Ok a R):Ok (bif c then a else none) R:=by simp_all
theorem Ok.ret {α:Type} {a:α} {R:α->Prop} (h:R a):Ok (some a) R:=⟨a,rfl,h⟩
theorem Ok.eq {α:Type} {x:Option α} {a:α} (h:x=some a):Ok x (fun b=>b=a):=⟨a,h,rfl⟩
def Ie (c:DZ):Prop:=0<=c.fI
theorem MAr (n:Int):0<=AV ((BitVec.toNat (BitVec.ofInt (IntKind.bits IntKind.i64) n &&& BitVec.ofInt (IntKind.bits IntKind.i64) 255):Nat):Int)/\AV ((BitVec.toNat (BitVec.ofInt (IntKind.bits IntKind.i64) n &&& BitVec.ofInt (IntKind.bits IntKind.i64) 255):Nat):Int)<=255:=by grind [BitVec.ofInt,IntKind.bits,Nat.and_le_right,A8]
theorem SBj:Ok (XAj ()) Ie:=by
 have hl:KI.length<=140737488351232:=PC.hl;have key:∀ (j i m:Nat) (h:Int),i+j=KI.length->Ok (rC (m+j+1) (.c0 h (i:Int))) Ie:=by
  intro j;induction j with
  | zero=>
   intro i m h hi;rw [rC];simp only [WAj,mk];rw [TT (by simp_all)];exact Ok.ret (Int.le_refl 0)
  | succ j ih=>
   intro i m h hi;have hw:AV ((i:Int)+1)=((i+1:Nat):Int):=by grind [A8]
   rw [AwB m j,rC];simp only [WAj,mk,hw];refine Ok.cond (fun _=>Ok.cond (fun _=>?_) fun _=>Ok.ret (Int.le_refl 0)) fun _=>Ok.ret (Int.le_refl 0)
   refine Ok.chk (by simp_all) (Ok.chk (by simp_all) (ih (i+1) m _ (by omega)))
 obtain ⟨m,hm⟩:=gm (n:=KI.length) (by omega)
 rw [XAj,PAw,mk,hm];exact key KI.length 0 m _ (Nat.zero_add _)
theorem rD {c:DZ} (hc:Ie c):Ok (rE c) fun r=>0<=r.1/\r.1<=255/\Ie r.2:=by
 have hl:KI.length<=140737488351232:=PC.hl;have hc:0<=c.fI:=hc;rw [rE,QAw,mk];refine Ok.cond (fun h=>?_) fun h=>Ok.ret ⟨(MAr _).1,(MAr _).2,hc⟩
 rw [decide_eq_true_eq] at h;refine Ok.chk (by simp_all) (Ok.chk (Nat.ble_eq_true_of_le (by omega)) (Ok.ret ⟨(MAr _).1,(MAr _).2,?_⟩));show 0<=AV (c.fI+1);grind [A8]
theorem tmod_lt {a n:Int} (ha:0<=a) (hn:0<n):0<=a.tmod n/\a.tmod n<n:=⟨Int.tmod_nonneg _ ha,Int.tmod_lt_of_pos _ hn⟩
theorem Uu {c:DZ} {n:Int} (hc:Ie c):Ok (AyT c n) fun r=>(0<=r.1/\(0<n->r.1<n)/\(n<=0->r.1=0))/\Ie r.2:=by
 rw [AyT,RAw,mk];refine Ok.cond (fun h=>?_) fun h=>?_
 ·rw [decide_eq_true_eq] at h;exact Ok.ret ⟨⟨Int.le_refl 0,fun h2=>h2,fun _=>rfl⟩,hc⟩
 ·rw [decide_eq_false_iff_not] at h;have hn:(!(n == 0))=true:=by grind
  refine Ok.cond (fun _=>?_) fun _=>?_
  ·refine Ok.bind (rD hc) fun a ha=>Ok.chk hn (Ok.ret ?_)
   have:=tmod_lt ha.1 (show 0<n by omega);exact ⟨⟨this.1,fun _=>this.2,fun h2=>by omega⟩,ha.2.2⟩
  ·refine Ok.bind (rD hc) fun a ha=>Ok.bind (rD ha.2.2) fun b hb=>Ok.bind (rD hb.2.2) fun d hd=>Ok.bind (rD hd.2.2) fun e he=>Ok.chk hn (Ok.ret ?_)
   obtain ⟨a1,a2,_⟩:=ha
   obtain ⟨b1,b2,_⟩:=hb
   obtain ⟨d1,d2,_⟩:=hd
   obtain ⟨e1,e2,e3⟩:=he
   have hw:AV (AV (AV (AV (a.1*16777216)+AV (b.1*65536))+AV (d.1*256))+e.1)=a.1*16777216+b.1*65536+d.1*256+e.1:=by grind [A8]
   have:=tmod_lt (show 0<=a.1*16777216+b.1*65536+d.1*256+e.1 by omega) (show 0<n by omega);simp only [hw];exact ⟨⟨this.1,fun _=>this.2,fun h2=>by omega⟩,e3⟩
theorem WBK {n:Nat} {x:Int} (h:n<=1000000000):gV (n:Int) x=some (ofBytes (List.replicate n x)):=by
 have key:∀ (j i m:Nat),i+j=n->rF (m+j+1) (.c0 (n:Int) x (i:Int) (List.replicate i x++List.replicate (n - i) 0))=some (ofBytes (List.replicate n x)):=by
  intro j;induction j with
  | zero=>
   intro i m hi;obtain rfl:i=n:=by omega
   simp [rF,YAj,mk]
  | succ j ih=>
   intro i m hi;have e:AV ((i:Int)+1)=((i+1:Nat):Int):=by grind [A8]
   rw [show m+(j+1)+1=(m+j+1)+1 by omega,rF];simp only [YAj,mk,e,BR];rw [IK (by grind),IK (by simp;omega),show n - i=(n - (i+1))+1 by omega,List.replicate_succ,gU (by simp)];have h2:=ih (i+1) m (by omega);simp_all [List.replicate_succ']
 obtain ⟨m,hm⟩:=gm (n:=n) (by omega)
 have h0:=key n 0 m (by omega);rw [List.replicate_zero,List.nil_append,Nat.sub_zero] at h0;rw [gV,SAw,mk,IK (by simp;omega),hm];exact h0
theorem TBj {n x:Int} (h0:0<=n) (h1:n<=1000000000):Ok (gV n x) fun r=>(r.size:Int)=n:=by have h:=WBK (n:=n.toNat) (x:=x) (by omega);rw [show ((n.toNat:Nat):Int)=n by omega] at h;exact ⟨_,h,by grind [Dj]⟩
theorem KAg {n:Int}:w32 n=n % 4294967296:=by rfl
theorem Ry {n:Int} (h1:0<=n) (h2:n<4294967296):w32 n=n:=by grind [KAg]
def R32 (n:Int):Prop:=0<=n/\n<4294967296
theorem AxB (n:Int):R32 (w32 n):=by grind [R32,KAg]
def xr (x y:Int):Int:=w32 (((BitVec.toNat ((BitVec.ofInt (IntKind.bits IntKind.u32) x) ^^^ (BitVec.ofInt (IntKind.bits IntKind.u32) y))):Nat):Int)
def an (x y:Int):Int:=w32 (((BitVec.toNat ((BitVec.ofInt (IntKind.bits IntKind.u32) x) &&& (BitVec.ofInt (IntKind.bits IntKind.u32) y))):Nat):Int)
def ort (x y:Int):Int:=w32 (((BitVec.toNat ((BitVec.ofInt (IntKind.bits IntKind.u32) x) ||| (BitVec.ofInt (IntKind.bits IntKind.u32) y))):Nat):Int)
theorem Ui (x y:Int):w32 (((BitVec.toNat ((BitVec.ofInt (IntKind.bits IntKind.u32) x) ^^^ (BitVec.ofInt (IntKind.bits IntKind.u32) y))):Nat):Int)=xr x y:=rfl
theorem EBB (x y:Int):w32 (((BitVec.toNat ((BitVec.ofInt (IntKind.bits IntKind.u32) x) &&& (BitVec.ofInt (IntKind.bits IntKind.u32) y))):Nat):Int)=an x y:=rfl
theorem XBK (x y:Int):w32 (((BitVec.toNat ((BitVec.ofInt (IntKind.bits IntKind.u32) x) ||| (BitVec.ofInt (IntKind.bits IntKind.u32) y))):Nat):Int)=ort x y:=rfl
theorem pK (x y:Int):R32 (xr x y):=AxB _
theorem YBK {a b:Nat} {s:Nat} (hb:b<2 ^ s) (ha:a*2 ^ s<4294967296) (hs:b<4294967296):ort ((a*2 ^ s:Nat):Int) (b:Int)=((a*2 ^ s+b:Nat):Int):=by
 have e:a*2 ^ s ||| b=a*2 ^ s+b:=by have:=Nat.shiftLeft_add_eq_or_of_lt hb a;simp_all [Nat.shiftLeft_eq]
 unfold ort;have h3:a*2 ^ s ||| b<2 ^ 32:=Nat.or_lt_two_pow (by omega) (by omega)
 rw [BitVec.toNat_or];show w32 (((BitVec.ofInt 32 _).toNat ||| (BitVec.ofInt 32 _).toNat:Nat):Int)=_;rw [BitVec.ofInt_natCast,BitVec.ofInt_natCast,BitVec.toNat_ofNat,BitVec.toNat_ofNat,Nat.mod_eq_of_lt (by omega),Nat.mod_eq_of_lt (by omega),e];grind [Ry]
theorem UBj {e:Int} (h:R32 e):xr (ite ((IntKind.signed IntKind.u32)=true) (-(1:Int)) (IntKind.max IntKind.u32)) e=w32 (4294967295 - e):=by
 obtain ⟨h1,h2⟩:=h
 obtain ⟨n,rfl⟩:∃ n:Nat,e=(n:Int):=⟨e.toNat,by omega⟩
 have hn:n<4294967296:=by omega
 have e1:(ite ((IntKind.signed IntKind.u32)=true) (-(1:Int)) (IntKind.max IntKind.u32))=4294967295:=by decide
 rw [e1];unfold xr;show w32 (((BitVec.ofInt 32 4294967295 ^^^ BitVec.ofInt 32 (n:Int)).toNat:Nat):Int)=_;have e2:BitVec.ofInt 32 4294967295=BitVec.allOnes 32:=by decide
 rw [e2,BitVec.ofInt_natCast,BitVec.allOnes_xor,BitVec.toNat_not,BitVec.toNat_ofNat];grind
def rt (low high x:Int):Int:=x / low+x % low*high
theorem VBj {low high x:Int} (h:R32 x) (hl:0<low) (hh:0<high) (hlh:low*high=4294967296):R32 (rt low high x):=by
 unfold R32 rt at *
 have h1:0<=x / low:=Int.ediv_nonneg h.1 (by omega);have h2:0<=x % low:=Int.emod_nonneg _ (by omega);have h3:x % low<low:=Int.emod_lt_of_pos _ hl;have h4:x / low<high:=Int.ediv_lt_of_lt_mul hl (by simp_all [Int.mul_comm]);have h5:0<=x % low*high:=Int.mul_nonneg h2 (by omega);have h6:x % low*high<=(low - 1)*high:=Int.mul_le_mul_of_nonneg_right (by omega) (by omega);grind
theorem WBj {x:Int} (h:R32 x) (n:Nat) (hn:0<n) (hn2:n<32):ort (w32 (x*2 ^ (32 - n))) (x / 2 ^ n)=rt (2 ^ n) (2 ^ (32 - n)) x:=by
 obtain ⟨h1,h2⟩:=h
 obtain ⟨y,rfl⟩:∃ y:Nat,x=(y:Int):=⟨x.toNat,by omega⟩
 have hy:y<4294967296:=by omega
 have e0:(4294967296:Nat)=2 ^ n*2 ^ (32 - n):=by rw [<-Nat.pow_add,show n+(32 - n)=32 by omega]
 have e1:w32 ((y:Int)*2 ^ (32 - n))=((y % 2 ^ n*2 ^ (32 - n):Nat):Int):=by
  rw [KAg];have h5:((y:Int)*2 ^ (32 - n))=((y*2 ^ (32 - n):Nat):Int):=by rfl
  have h6:y*2 ^ (32 - n) % 4294967296=y % 2 ^ n*2 ^ (32 - n):=by rw [e0,Nat.mul_mod_mul_right]
  omega
 have e2:((y:Int) / 2 ^ n)=((y / 2 ^ n:Nat):Int):=by rfl
 have hp:0<2 ^ n:=Nat.two_pow_pos n;have hp2:0<2 ^ (32 - n):=Nat.two_pow_pos _;have hm:y % 2 ^ n<2 ^ n:=Nat.mod_lt _ hp;have hd:y / 2 ^ n<2 ^ (32 - n):=Nat.div_lt_of_lt_mul (by omega);rw [e1,e2,YBK hd (by simp_all) (Nat.lt_of_le_of_lt (Nat.div_le_self _ _) hy)];grind [rt]
def sg0 (x:Int):Int:=xr (xr (rt 128 33554432 x) (rt 262144 16384 x)) (x / 8)
def sg1 (x:Int):Int:=xr (xr (rt 131072 32768 x) (rt 524288 8192 x)) (x / 1024)
def ep1 (x:Int):Int:=xr (xr (rt 64 67108864 x) (rt 2048 2097152 x)) (rt 33554432 128 x)
def ep0 (x:Int):Int:=xr (xr (rt 4 1073741824 x) (rt 8192 524288 x)) (rt 4194304 1024 x)
def XBj (w:List Int) (t:Nat):Int:=w32 (w32 (w32 (sg1 (w.getD (t - 2) 0)+w.getD (t - 7) 0)+sg0 (w.getD (t - 15) 0))+w.getD (t - 16) 0)
def sched (w:List Int):Nat->List Int
 | 0=>w
 | n+1=>sched w n++[XBj (sched w n) (16+n)]
theorem MAg {w:List Int} (h:w.length=16) (n:Nat):(sched w n).length=16+n:=by induction n<;>grind [sched]
theorem NAr {w:List Int} (h:∀ x ∈ w,R32 x) (n:Nat):∀ x ∈ sched w n,R32 x:=by
 induction n with
 | zero=>exact h
 | succ n ih=>
  intro x hx;rw [sched,List.mem_append,List.mem_singleton] at hx;rcases hx with hx | rfl
  ·simp_all
  ·exact AxB _
theorem NAg {l:List Int} (h:∀ x ∈ l,R32 x) (i:Nat):R32 (l.getD i 0):=by grind [R32]
structure Reg where
 a:Int
 b:Int
 c:Int
 d:Int
 e:Int
 f:Int
 g:Int
 h:Int
def Reg.ok (r:Reg):Prop:=R32 r.a/\R32 r.b/\R32 r.c/\R32 r.d/\R32 r.e/\R32 r.f/\R32 r.g/\R32 r.h
def Reg.l (r:Reg):List Int:=[r.a,r.b,r.c,r.d,r.e,r.f,r.g,r.h]
theorem Reg.OAg (r:Reg):r.l.length=8:=rfl
def t1 (r:Reg) (k w:Int):Int:=w32 (w32 (w32 (w32 (r.h+ep1 r.e)+xr (an r.e r.f) (an (w32 (4294967295 - r.e)) r.g))+k)+w)
def t2 (r:Reg):Int:=w32 (ep0 r.a+xr (xr (an r.a r.b) (an r.a r.c)) (an r.b r.c))
def Uj (r:Reg) (k w:Int):Reg:=⟨w32 (t1 r k w+t2 r),r.a,r.b,r.c,w32 (r.d+t1 r k w),r.e,r.f,r.g⟩
theorem YBj {r:Reg} (h:r.ok) (k w:Int):(Uj r k w).ok:=⟨AxB _,h.1,h.2.1,h.2.2.1,AxB _,h.2.2.2.2.1,h.2.2.2.2.2.1,h.2.2.2.2.2.2.1⟩
def MP (K W:List Int) (r:Reg):Nat->Reg
 | 0=>r
 | n+1=>Uj (MP K W r n) (K.getD n 0) (W.getD n 0)
theorem CBL (K W:List Int) {r:Reg} (h:r.ok) (n:Nat):(MP K W r n).ok:=by
 induction n with
 | zero=>exact h
 | succ n ih=>exact YBj ih _ _
def PAg (s r:Reg):Reg:=⟨w32 (s.a+r.a),w32 (s.b+r.b),w32 (s.c+r.c),w32 (s.d+r.d),w32 (s.e+r.e),w32 (s.f+r.f),w32 (s.g+r.g),w32 (s.h+r.h)⟩
theorem ZBj (s r:Reg):(PAg s r).ok:=⟨AxB _,AxB _,AxB _,AxB _,AxB _,AxB _,AxB _,AxB _⟩
def keysL:List Int:=[1116352408,1899447441,3049323471,3921009573,961987163,1508970993,2453635748,2870763221,3624381080,310598401,607225278,1426881987,1925078388,2162078206,2614888103,3248222580,3835390401,4022224774,264347078,604807628,770255983,1249150122,1555081692,1996064986,2554220882,2821834349,2952996808,3210313671,3336571891,3584528711,113926993,338241895,666307205,773529912,1294757372,1396182291,1695183700,1986661051,2177026350,2456956037,2730485921,2820302411,3259730800,3345764771,3516065817,3600352804,4094571909,275423344,430227734,506948616,659060556,883997877,958139571,1322822218,1537002063,1747873779,1955562222,2024104815,2227730452,2361852424,2428436474,2756734187,3204031479,3329325298]
def be4 (a b c d:Int):Int:=a*16777216+b*65536+c*256+d
def wordAt (l:List Int) (i:Nat):Int:=be4 (l.getD (4*i) 0) (l.getD (4*i+1) 0) (l.getD (4*i+2) 0) (l.getD (4*i+3) 0)
def Vh (l:List Int) (n:Nat):List Int:=(List.range n).map (wordAt l)
theorem gW (l:List Int) (n:Nat):(Vh l n).length=n:=by simp [Vh]
theorem DBL (l:List Int) (n:Nat):Vh l (n+1)=Vh l n++[wordAt l n]:=by simp [Vh,List.range_succ]
theorem Ajw {a b c d:Int} (ha:0<=a/\a<=255) (hb:0<=b/\b<=255) (hc:0<=c/\c<=255) (hd:0<=d/\d<=255):R32 (be4 a b c d):=by grind [R32,be4]
theorem BBk {l:List Int} (h:Hw l) (i:Nat):R32 (wordAt l i):=Ajw (OC h _) (OC h _) (OC h _) (OC h _)
theorem FBB {l:List Int} (h:Hw l) (n:Nat):∀ x ∈ Vh l n,R32 x:=by grind [Vh,BBk]
def comp (s:Reg) (b:List Int):Reg:=PAg s (MP keysL (sched (Vh b 16) 48) s 64)
theorem EBL (s:Reg) (b:List Int):(comp s b).ok:=ZBj _ _
def comps:Nat->Reg->List Int->Reg
 | 0,s,_=>s
 | n+1,s,b=>comps n (comp s (b.take 64)) (b.drop 64)
theorem gX {s:Reg} (h:s.ok):∀ (n:Nat) (b:List Int),(comps n s b).ok:=by
 intro n;induction n generalizing s with
 | zero=>intro b;exact h
 | succ n ih=>intro b;exact ih (EBL _ _) _
theorem FBL (n m:Nat):∀ (s:Reg) (b:List Int),comps (n+m) s b=comps m (comps n s b) (b.drop (64*n)):=by induction n<;>grind [comps,List.drop_drop]
theorem CBk (n:Nat):∀ (s:Reg) (b c:List Int),64*n<=b.length->comps n s (b++c)=comps n s b:=by induction n<;>grind [comps]
def four (x:Int):List Int:=[x / 16777216,x / 65536 % 256,x / 256 % 256,x % 256]
theorem Xa {x:Int} (h:R32 x):Hw (four x):=by intro n hn;grind [R32,four]
def AyP (ws:List Int):List Int:=ws.flatMap four
theorem GBL (ws:List Int):(AyP ws).length=4*ws.length:=by induction ws<;>grind [AyP,four]
theorem GBB {ws:List Int} (h:∀ x ∈ ws,R32 x):Hw (AyP ws):=by
 intro n hn;simp only [AyP,List.mem_flatMap] at hn;obtain ⟨x,hx,hn⟩:=hn
 exact Xa (h x hx) n hn
theorem DBk (a b:List Int):AyP (a++b)=AyP a++AyP b:=by simp [AyP]
theorem EBk {x:Int} (h:R32 x):be4 (x / 16777216) (x / 65536 % 256) (x / 256 % 256) (x % 256)=x:=by grind [be4]
theorem HBL:∀ {ws:List Int} (_:∀ x ∈ ws,R32 x) {i:Nat} (hi:i<ws.length),wordAt (AyP ws) i=ws[i]
 | w::ws,h,0,_=>by simp_all [EBk,wordAt,AyP,four]
 | w::ws,h,i+1,hi=>by
  have ih:=HBL (ws:=ws) (fun x hx=>h x (List.mem_cons_of_mem _ hx)) (i:=i) (by simpa using hi);rw [List.getElem_cons_succ,<-ih];have e:∀ j,(AyP (w::ws)).getD (j+4) 0=(AyP ws).getD j 0:=fun j=>by simp [AyP,four,List.getD]
  unfold wordAt;rw [show 4*(i+1)=4*i+4 by omega,show 4*i+4+1=(4*i+1)+4 by omega,show 4*i+4+2=(4*i+2)+4 by omega,show 4*i+4+3=(4*i+3)+4 by omega,e,e,e,e]
theorem FBk {ws:List Int} (h:∀ x ∈ ws,R32 x):Vh (AyP ws) ws.length=ws:=by grind [List.ext_getElem,gW,Vh,HBL]
theorem Reg.rG {r:Reg} (h:r.ok):∀ x ∈ r.l,R32 x:=by
 intro x hx;simp only [Reg.l,List.mem_cons,List.not_mem_nil,or_false] at hx;obtain ⟨h1,h2,h3,h4,h5,h6,h7,h8⟩:=h
 grind
def Ayi:Reg:=⟨1779033703,3144134277,1013904242,2773480762,1359893119,2600822924,528734635,1541459225⟩
theorem gY:Ayi.ok:=by simp [Reg.ok,R32,Ayi]
def AyH (n:Int):List Int:=[0,0,0,n / 4294967296 % 256,n / 16777216 % 256,n / 65536 % 256,n / 256 % 256,n % 256]
def Aw4 (n:Nat):List Int:=128::(List.replicate ((119 - n % 64) % 64) 0++AyH (8*(n:Int)))
theorem OAr (n:Nat):(Aw4 n).length=9+(119 - n % 64) % 64:=by simp [Aw4,AyH];omega
theorem GBk (n:Nat):(n+(Aw4 n).length) % 64=0:=by grind [OAr]
theorem HBB (n:Nat):Hw (Aw4 n):=by intro x hx;simp only [Aw4,AyH,List.mem_cons,List.mem_append,List.mem_replicate,List.not_mem_nil,or_false] at hx;omega
def Rz (b:List Int):List Int:=AyP (comps ((b.length+(Aw4 b.length).length) / 64) Ayi (b++Aw4 b.length)).l
def Ed (s:AA):AA:=ofBytes (Rz (bs s))
theorem IBL (b:List Int):(Rz b).length=32:=by rfl
theorem JBL (b:List Int):Hw (Rz b):=GBB (Reg.rG (gX gY _ _))
theorem AxT (s:AA):(Ed s).size=32:=by rfl
theorem PAr (s:AA):bs (Ed s)=Rz (bs s):=Oa (JBL _)
theorem HBk {x:Int} (h:R32 x):[w8 (w32 (x.tdiv 16777216)),w8 ((w32 (x.tdiv 65536)).tmod 256),w8 ((w32 (x.tdiv 256)).tmod 256),w8 (x.tmod 256)]=four x:=by
 obtain ⟨h1,h2⟩:=h
 grind [Ry,four,bJ,List.cons.injEq]
theorem KBL {ws:List Int} (h:∀ x ∈ ws,R32 x) (hl:ws.length<=1000000000000):gZ ws=some (ofBytes (AyP ws)):=by
 have key:=PV (A:=Unit) (n:=ws.length) (Lp:=rH) (st:=fun i _=>.c0 ws (i:Int) (AyP (ws.take i))) (Inv:=fun _ _=>True) (out:=fun _ _=>some (ofBytes (AyP ws)))
  (fun m _ _=>by
   simp [rH,ZAj,mk])
  (fun m i _ hi _=>.inr ⟨(),by
   have e:AV ((i:Int)+1)=((i+1:Nat):Int):=by grind [A8]
   simp only [rH,ZAj,mk,e,BR];rw [IK (by simp_all),IK (by simp_all),IK (by grind [GBL])];grind [HBk,take_at,AyP],trivial,rfl⟩)
 exact key AY 0 () (DJ _) (FM (by omega)) trivial
def ZY:IW:=⟨ofBytes (AyP Ayi.l),⟨#[]⟩,0⟩
theorem IBk:UAw=some ZY:=by rfl
def AyM (x a b:Int):Bool:=decide (a<=x) && decide (x<=b)
theorem Na {x a b:Int}:AyM x a b=true↔a<=x/\x<=b:=by simp [AyM]
theorem Ih (x a b:Int):AzN x a b=some (AyM x a b):=by show (bif decide (a<=x) then some (decide (x<=b)) else some false)=some (AyM x a b);grind [AyM]
theorem LBL {h:IW} (h1:h.F7.size=32) (h2:h.Np.size<64) (h3:0<=h.fCount/\h.fCount<=1000000000) (h4:h.fCount % 64=(h.Np.size:Int)):Xo h=some true:=by
 have e:AyM h.fCount 0 1000000000=true:=by grind [Na]
 simp only [Xo,VAw,mk,Ih,AP,e];grind
theorem JBk {s:AA} {i:Nat} (h:4*i+4<=s.size) (hs:s.size<=9000000000000000000):BAW s ((4*i:Nat):Int)=some (wordAt (bs s) i):=by
 have hb:=AxC s;have e1:AV (((4*i:Nat):Int)+1)=((4*i+1:Nat):Int):=by grind [A8]
 have e2:AV (((4*i:Nat):Int)+2)=((4*i+2:Nat):Int):=by grind [A8]
 have e3:AV (((4*i:Nat):Int)+3)=((4*i+3:Nat):Int):=by grind [A8]
 simp only [BAW,WAw,mk,e1,e2,e3];rw [IK (by grind),IK (by grind),IK (by grind),IK (by grind)];rw [V4 (by omega),V4 (by omega),V4 (by omega),V4 (by omega)];have b0:=OC hb (4*i);have b1:=OC hb (4*i+1);have b2:=OC hb (4*i+2);have b3:=OC hb (4*i+3);unfold wordAt be4;grind [KAg]
theorem MBL {s:AA} (hs:s.size<=1000000000000):Xp s=some (Vh (bs s) (s.size / 4)):=by
 have key:=PV (A:=Unit) (n:=s.size / 4) (Lp:=rJ) (st:=fun i _=>.c0 s ((4*i:Nat):Int) (Vh (bs s) i)) (Inv:=fun _ _=>True) (out:=fun _ _=>some (Vh (bs s) (s.size / 4)))
  (fun m _ _=>by
   simp only [rJ,AIK,mk];rw [A8 (by omega) (by omega),TT (by simp;omega)])
  (fun m i _ hi _=>.inr ⟨(),by
   have e:AV (((4*i:Nat):Int)+4)=((4*(i+1):Nat):Int):=by rw [A8 (by omega) (by omega)];omega
   simp only [rJ,AIK,mk,e,JBk (s:=s) (i:=i) (by omega) (by omega),AP,gW,DBL];rw [IK (by simp;omega),IK (by simp;omega)],trivial,rfl⟩)
 exact key AY 0 () (DJ _) (FM (by omega)) trivial
theorem WA {x low high:Int} (h:R32 x) (hl:0<low) (hh:0<high) (hlh:low*high=4294967296):BAk x low high=some (rt low high x):=by
 have hr:=VBj h hl hh hlh;obtain ⟨h1,h2⟩:=h
 have e0:(!(low == 0))=true:=by grind
 have d1:0<=x / low:=Int.ediv_nonneg h1 (by omega);have d2:0<=x % low*high:=Int.mul_nonneg (Int.emod_nonneg _ (by omega)) (by omega);unfold R32 rt at hr;simp only [BAk,YAw,mk,e0,Ar,Int.tdiv_eq_ediv_of_nonneg h1,Int.tmod_eq_emod_of_nonneg h1];rw [Ry d1 (by omega),Ry d2 (by omega),Ry (by omega) (by omega)];rfl
theorem KBk {x:Int} (h:R32 x):Awv x 131072 524288 1024 true=some (sg1 x):=by
 have e1:w32 (w32 ((2147483648:Int).tdiv 131072)*2)=32768:=by decide
 have e2:w32 (w32 ((2147483648:Int).tdiv 524288)*2)=8192:=by decide
 have e3:w32 (x.tdiv 1024)=x / 1024:=by
  obtain ⟨h1,h2⟩:=h
  grind [Ry]
 simp only [Awv,rM,mk,e1,e2,e3,WA h (low:=131072) (high:=32768) (by omega) (by omega) (by omega),WA h (low:=524288) (high:=8192) (by omega) (by omega) (by omega),AP,Ui];rfl
theorem LBk {x:Int} (h:R32 x):Awv x 128 262144 8 true=some (sg0 x):=by
 have e1:w32 (w32 ((2147483648:Int).tdiv 128)*2)=33554432:=by decide
 have e2:w32 (w32 ((2147483648:Int).tdiv 262144)*2)=16384:=by decide
 have e3:w32 (x.tdiv 8)=x / 8:=by
  obtain ⟨h1,h2⟩:=h
  grind [Ry]
 simp only [Awv,rM,mk,e1,e2,e3,WA h (low:=128) (high:=33554432) (by omega) (by omega) (by omega),WA h (low:=262144) (high:=16384) (by omega) (by omega) (by omega),AP,Ui];rfl
theorem MBk {x:Int} (h:R32 x):Awv x 64 2048 33554432 false=some (ep1 x):=by
 have e1:w32 (w32 ((2147483648:Int).tdiv 64)*2)=67108864:=by decide
 have e2:w32 (w32 ((2147483648:Int).tdiv 2048)*2)=2097152:=by decide
 have e3:w32 (w32 ((2147483648:Int).tdiv 33554432)*2)=128:=by decide
 simp only [Awv,rM,mk,e1,e2,e3,WA h (low:=64) (high:=67108864) (by omega) (by omega) (by omega),WA h (low:=2048) (high:=2097152) (by omega) (by omega) (by omega),WA h (low:=33554432) (high:=128) (by omega) (by omega) (by omega),AP,Ui];rfl
theorem NBk {x:Int} (h:R32 x):Awv x 4 8192 4194304 false=some (ep0 x):=by
 have e1:w32 (w32 ((2147483648:Int).tdiv 4)*2)=1073741824:=by decide
 have e2:w32 (w32 ((2147483648:Int).tdiv 8192)*2)=524288:=by decide
 have e3:w32 (w32 ((2147483648:Int).tdiv 4194304)*2)=1024:=by decide
 simp only [Awv,rM,mk,e1,e2,e3,WA h (low:=4) (high:=1073741824) (by omega) (by omega) (by omega),WA h (low:=8192) (high:=524288) (by omega) (by omega) (by omega),WA h (low:=4194304) (high:=1024) (by omega) (by omega) (by omega),AP,Ui];rfl
theorem OBk (s r:Reg):∀ i,i<8->(PAg s r).l.getD i 0=w32 (s.l.getD i 0+r.l.getD i 0)
 | 0,_=>rfl | 1,_=>rfl | 2,_=>rfl | 3,_=>rfl | 4,_=>rfl | 5,_=>rfl | 6,_=>rfl | 7,_=>rfl
 | n+8,h=>by omega
def shL:Nat->List Int->List Int
 | 0,v=>v
 | i+1,v=>shL i (v.set (i+1) (v.getD i 0))
theorem PBk (t o W:List Int) (k T1 T2:Int) (hk:0<=k/\k<64):∀ (i m:Nat) (v:List Int),i<8->v.length=8->Tv (m+i+1) (.c2 t o k T1 T2 (i:Int) W v)=Tv m (.c1 t o (k+1) W (((shL i v).set 4 (w32 ((shL i v).getD 4 0+T1))).set 0 (w32 (T1+T2)))):=by
 intro i;induction i with
 | zero=>
  intro m v _ hl;have e:AV (k+1)=k+1:=A8 (by omega) (by omega);simp only [Tv,gq,mk,e];rw [TT (by simp),IK (by simp [hl]),IK (by simp [hl]),IK (by simp [hl])];rfl
 | succ i ih=>
  intro m v hi hl;have e:AV (((i+1:Nat):Int) - 1)=(i:Int):=by grind [A8]
  rw [show m+(i+1)+1=(m+i+1)+1 by omega];rw [Tv];simp only [gq,mk,e,BR];rw [IK (by simp),IK (by grind),IK (by grind),ih m _ (by omega) (by simp [hl])];rfl
theorem QBk (t W:List Int) (r:Reg) (hr:r.ok) (hW:∀ x ∈ W,R32 x) (Bx:W.length=64) (i m:Nat) (hi:i<64) :
  Tv (m+9) (.c1 t keysL (i:Int) W r.l)=Tv m (.c1 t keysL ((i:Int)+1) W (Uj r (keysL.getD i 0) (W.getD i 0)).l):=by
 obtain ⟨h1,h2,h3,h4,h5,h6,h7,h8⟩:=hr
 have hk:keysL.length=64:=rfl;have g (q:Reg):q.l.getD 0 0=q.a/\q.l.getD 1 0=q.b/\q.l.getD 2 0=q.c/\q.l.getD 4 0=q.e/\q.l.getD 5 0=q.f/\q.l.getD 6 0=q.g/\q.l.getD 7 0=q.h:=⟨rfl,rfl,rfl,rfl,rfl,rfl,rfl⟩
 obtain ⟨g0,g1,g2,g4,g5,g6,g7⟩:=g r
 have hl:r.l.length=8:=rfl;have z4:(4:Int).toNat=4:=rfl;have z5:(5:Int).toNat=5:=rfl;have z6:(6:Int).toNat=6:=rfl;have z7:(7:Int).toNat=7:=rfl;have z0:(0:Int).toNat=0:=rfl;have z1:(1:Int).toNat=1:=rfl;have z2:(2:Int).toNat=2:=rfl;rw [show m+9=(m+7+1)+1 by omega,Tv];simp only [gq,mk,z0,z1,z2,z4,z5,z6,z7,g0,g1,g2,g4,g5,g6,g7,hl,hk,Bx,MBk h5,NBk h1,AP,Ui,EBB,BR];rw [IK (by grind),IK (by simp),IK (by simp),IK (by simp),IK (by simp),IK (by grind),IK (by grind),IK (by simp),IK (by simp),IK (by simp),IK (by simp),IK (by simp),IK (by simp),IK (by simp)];exact PBk t keysL W (i:Int) (t1 r (keysL.getD i 0) (W.getD i 0)) (t2 r) (by omega) 7 m r.l (by omega) rfl
theorem RBk (s:Reg) (hs:s.ok) (W:List Int) (hW:∀ x ∈ W,R32 x) (Bx:W.length=64):∀ (j i m:Nat),i+j=64->Tv (m+9*j+10) (.c1 s.l keysL (i:Int) W (MP keysL W s i).l)=some (PAg s (MP keysL W s 64)).l:=by
 intro j;induction j with
 | zero=>
  intro i m h;obtain rfl:i=64:=by omega
  rfl
 | succ j ih=>
  intro i m h;rw [show m+9*(j+1)+10=(m+9*j+10)+9 by omega,QBk s.l W _ (CBL keysL W hs i) hW Bx i _ (by omega)];exact ih (i+1) m (by omega)
theorem SBk (s:Reg) (hs:s.ok) (w:List Int) (hw:∀ x ∈ w,R32 x) (hwl:w.length=16):∀ (j i m:Nat),i+j=48->Tv (m+9*64+10+1+j) (.c0 s.l keysL ((16+i:Nat):Int) (sched w i))=some (PAg s (MP keysL (sched w 48) s 64)).l:=by
 intro j;induction j with
 | zero=>
  intro i m h;obtain rfl:i=48:=by omega
  rw [show m+9*64+10+1+0=(m+9*64+10)+1 by omega,Tv];simp only [gq,mk];rw [TT (by simp),IK (by rfl)];exact RBk s hs _ (NAr hw 48) (MAg hwl 48) 64 0 m (by omega)
 | succ j ih=>
  intro i m h;have hl:=MAg hwl i;have hr:=NAr hw i;have e2:AV (((16+i:Nat):Int) - 2)=((16+i - 2:Nat):Int):=by grind [A8]
  have e7:AV (((16+i:Nat):Int) - 7)=((16+i - 7:Nat):Int):=by grind [A8]
  have e15:AV (((16+i:Nat):Int) - 15)=((16+i - 15:Nat):Int):=by grind [A8]
  have e16:AV (((16+i:Nat):Int) - 16)=((16+i - 16:Nat):Int):=by grind [A8]
  have e1:AV (((16+i:Nat):Int)+1)=((16+(i+1):Nat):Int):=by grind [A8]
  rw [show m+9*64+10+1+(j+1)=(m+9*64+10+1+j)+1 by omega,Tv];simp only [gq,mk,e1,e2,e7,e15,e16,BR,hl,KBk (NAg hr _),LBk (NAg hr _),AP];rw [IK (by grind),IK (by grind),IK (by grind),IK (by grind),IK (by grind),IK (by grind)];exact ih (i+1) m (by omega)
theorem NBL {s:Reg} (hs:s.ok) {b:AA} (hb:b.size=64):gu s.l keysL b=some (comp s (bs b)).l:=by
 have hr:=FBB (AxC b) 16;obtain ⟨m,hm⟩:∃ m,AY=m+9*64+10+1+48:=⟨AY - 635,by rfl⟩
 have h:=SBk s hs _ hr (gW _ 16) 48 0 m (by omega);have e0:((16+0:Nat):Int)=16:=rfl;rw [e0,show sched (Vh (bs b) 16) 0=Vh (bs b) 16 from rfl] at h;rw [gu,ZAw,MBL (s:=b) (by omega),AP,hb,hm];exact h
theorem OBL:rO=some keysL:=rfl
theorem TBk (b:List Int) (i:Nat):(b.take (64*i+64)).drop (64*i)=(b.drop (64*i)).take 64:=by simp [List.drop_take]
theorem PBL (i:Nat) (s:Reg) (b:List Int):comps (i+1) s b=comp (comps i s b) ((b.drop (64*i)).take 64):=by rw [FBL i 1];rfl
theorem QBL {r:Reg} (h:r.ok):Xp (ofBytes (AyP r.l))=some r.l:=by
 have hs:(ofBytes (AyP r.l)).size=32:=by rfl
 rw [MBL (by omega),hs,Oa (GBB (Reg.rG h))];exact congrArg some (FBk (Reg.rG h))
theorem UBk {s:AA} (hs:s.size<=1000000000):DAk ZY s=some ⟨ofBytes (AyP (comps (s.size / 64) Ayi (bs s)).l),s.extract (64*(s.size / 64)) s.size,(s.size:Int)⟩:=by
 have e0:Xo ZY=some true:=LBL (by rfl) (by decide) (by decide) (by decide);have e1:((⟨#[]⟩:AA)++s)=s:=KW (by rfl)
 have key:=PV (A:=Unit) (n:=s.size / 64) (Lp:=rP) (st:=fun i _=>.c0 s s ((64*i:Nat):Int) ZY (⟨(⟨#[]⟩:AA),(⟨#[]⟩:AA),(0:Int)⟩:IW) (comps i Ayi (bs s)).l keysL) (Inv:=fun _ _=>True)
  (out:=fun _ _=>some ⟨ofBytes (AyP (comps (s.size / 64) Ayi (bs s)).l),s.extract (64*(s.size / 64)) s.size,(s.size:Int)⟩)
  (fun m _ _=>by
   have hw:AV (ZY.fCount+(s.size:Int))=(s.size:Int):=by show AV ((0:Int)+(s.size:Int))=_;grind [A8]
   rw [rP];simp only [CAk,mk,hw,BR];rw [A8 (by omega) (by omega),TT (by grind),KBL (Reg.rG (gX gY _ _)) (by simp [Reg.l]),AP,IK (by simp;omega)])
  (fun m i _ hi _=>.inr ⟨(),by
   have e:AV (((64*i:Nat):Int)+64)=((64*(i+1):Nat):Int):=by grind [A8]
   rw [rP];simp only [CAk,mk,e,BR];rw [IK (by grind),IK (by simp;omega),NBL (gX gY _ _) (by simp;omega),AP,Awj,show 64*(i+1)=64*i+64 by omega,TBk,<-PBL],trivial,rfl⟩)
 rw [DAk,AQv,mk,e0,AP,TT (by rfl)];have hw:AV (ZY.fCount+(s.size:Int))=(s.size:Int):=by show AV ((0:Int)+(s.size:Int))=_;grind [A8]
 rw [hw,TT (by grind),show ZY.F7=ofBytes (AyP Ayi.l) from rfl,QBL gY,AP,OBL,AP,show ZY.Np=⟨#[]⟩ from rfl,e1];rw [IK (by grind)];exact key AY 0 () (DJ _) (FM (by omega)) trivial
def gy (b:Int):Nat->List Int
 | 0=>[]
 | i+1=>(b / 256 ^ i % 256)::gy b i
def WB:Nat->Nat
 | 0=>0
 | i+1=>WB i+(i+2)
theorem VBk (x:Int) (j:Nat):x / 256 / 256 ^ j=x / 256 ^ (j+1):=by simp [Int.ediv_ediv_of_nonneg,Int.pow_succ,Int.mul_comm]
theorem WBk (h:IW) (b:Int):∀ (j k i m:Nat) (x:Int) (t:List Int),k+j=i->i<=7->0<=x->x<=9223372036854775807->t.length<=1000->
  AwP (m+j+1) (.c2 b (i:Int) x (k:Int) h t)=AwP m (.c1 b ((i:Int) - 1) h (t++[x / 256 ^ j % 256])):=by
 intro j;induction j with
 | zero=>
  grind [A8,Nq,AwP,WC]
 | succ j ih=>
  intro k i m x t hk hi hx hx2 ht;have e:AV ((k:Int)+1)=((k+1:Nat):Int):=by grind [A8]
  have e2:AV (x.tdiv 256)=x / 256:=by grind [A8]
  rw [show m+(j+1)+1=(m+j+1)+1 by omega,AwP];simp only [WC,mk,e,e2];rw [IK (by grind),ih (k+1) i m (x / 256) t (by omega) hi (by omega) (by omega) ht,VBk]
theorem XBk (h:IW) (b:Int) (hb:0<=b) (hb2:b<=9223372036854775807):∀ (i m:Nat) (t:List Int),i<=8->t.length+i<=900->AwP (m+WB i) (.c1 b ((i:Int) - 1) h t)=AwP m (.c1 b (-1) h (t++gy b i)):=by
 intro i;induction i with
 | zero=>simp [WB,gy]
 | succ i ih=>
  intro m t hi ht;rw [WB,show m+(WB i+(i+2))=(m+WB i)+i+1+1 by omega,AwP,show ((i+1:Nat):Int) - 1=(i:Int) by omega];simp only [WC,mk];rw [IK (by simp),show (0:Int)=((0:Nat):Int) from rfl,WBk h b i 0 i _ b t (by omega) (by omega) hb hb2 (by omega),ih m _ (by omega) (by grind)];simp [gy]
theorem YBk {b:Int} (h:0<=b) (h2:b<1099511627776):gy b 8=AyH b:=by simp only [gy,AyH,List.cons.injEq,and_true];omega
theorem ZBk (r:Reg) (hr:r.ok) (t:List Int) (ht:Hw t) (n:Nat) (hn:t.length=64*n) (hn2:n<=100):∀ (j i m:Nat),i+j=n->AwP (m+j+1) (.c3 ((64*i:Nat):Int) t (comps i r t).l keysL)=some (ofBytes (AyP (comps n r t).l)):=by
 intro j;induction j with
 | zero=>
  intro i m h;obtain rfl:i=n:=by omega
  rw [AwP];simp only [WC,mk];rw [TT (by simp_all),KBL (Reg.rG (gX hr _ _)) (by simp [Reg.l]),AP]
 | succ j ih=>
  intro i m h;have e:AV (((64*i:Nat):Int)+64)=((64*(i+1):Nat):Int):=by grind [A8]
  have hl:((t.drop (64*i)).take (64*(i+1) - 64*i)).length=64:=by grind
  have hby:Hw ((t.drop (64*i)).take (64*(i+1) - 64*i)):=fun x hx=>ht x (List.mem_of_mem_drop (List.mem_of_mem_take hx))
  rw [show m+(j+1)+1=(m+j+1)+1 by omega,AwP];simp only [WC,mk,e,BR];rw [IK (by grind),IK (by simp;omega),NBL (gX hr _ _) (by rw [Dj,hl]),AP,Oa hby,show 64*(i+1) - 64*i=64 by omega,<-PBL];exact ih (i+1) m (by omega)
theorem AkM (h:IW) (r:List Int) (hr:r.length<64):∀ (j i m:Nat),i+j=(119 - r.length) % 64->AwP (m+j+1) (.c0 h (r++128::List.replicate i 0))=AwP m (.c1 (AV (8*h.fCount)) 7 h (r++128::List.replicate ((119 - r.length) % 64) 0)):=by
 intro j;induction j with
 | zero=>
  grind [AwP,WC]
 | succ j ih=>
  intro i m hi;rw [show m+(j+1)+1=(m+j+1)+1 by omega,AwP];simp only [WC,mk];rw [IK (by grind),IK (by grind)];have e:(r++128::List.replicate i (0:Int))++[0]=r++128::List.replicate (i+1) 0:=by simp [List.replicate_succ']
  grind
theorem BBl {r:Reg} (hr:r.ok) {s:AA} {n:Nat} (hs:s.size=n % 64) (hn:n<=1000000000):EAk ⟨ofBytes (AyP r.l),s,(n:Int)⟩=some (ofBytes (AyP (comps ((s.size+(Aw4 n).length) / 64) r (bs s++Aw4 n)).l)):=by
 have e0:Xo ⟨ofBytes (AyP r.l),s,(n:Int)⟩=some true:=LBL (by rfl) (by grind) (by grind) (by simp_all);have hl:=bs_len s
 obtain ⟨m,hm⟩:∃ m,AY=((m+((s.size+(Aw4 n).length) / 64)+1+1+WB 8)+((119 - (bs s).length) % 64)+1):=⟨AY - (((s.size+(Aw4 n).length) / 64)+1+1+WB 8+((119 - (bs s).length) % 64)+1),by
  have:=FM (n:=1000) (by omega);grind [OAr,WB]⟩
 have hw:AV (8*(n:Int))=8*(n:Int):=A8 (by omega) (by omega);have hrep:(bs s++128::List.replicate ((119 - (bs s).length) % 64) 0)++gy (8*(n:Int)) 8=bs s++Aw4 n:=by grind [YBk,Aw4]
 rw [EAk,BAx,mk,e0,AP,TT (by rfl),IK (by grind),pW,IK (by grind),hm];have h0:=AkM ⟨ofBytes (AyP r.l),s,(n:Int)⟩ (bs s) (by omega) ((119 - (bs s).length) % 64) 0 (m+((s.size+(Aw4 n).length) / 64)+1+1+WB 8) (by omega);rw [List.replicate_zero] at h0;rw [h0,show (7:Int)=((8:Nat):Int) - 1 from rfl];simp only [hw];rw [XBk _ _ (by omega) (by omega) 8 _ _ (by omega) (by grind),hrep,AwP];simp only [WC,mk];rw [TT (by simp),QBL hr,AP,OBL,AP];have hb:Hw (bs s++Aw4 n):=fun x hx=>by
  rcases List.mem_append.1 hx with hx | hx
  ·exact AxC s x hx
  ·exact HBB n x hx
 have hlen:(bs s++Aw4 n).length=64*((s.size+(Aw4 n).length) / 64):=by grind [GBk]
 exact ZBk r hr _ hb _ hlen (by grind [OAr]) ((s.size+(Aw4 n).length) / 64) 0 m (by omega)
theorem CBl (b:List Int):comps ((b.length+(Aw4 b.length).length) / 64) Ayi (b++Aw4 b.length)=comps ((b.length % 64+(Aw4 b.length).length) / 64) (comps (b.length / 64) Ayi b) (b.drop (64*(b.length / 64))++Aw4 b.length):=by rw [show (b.length+(Aw4 b.length).length) / 64=b.length / 64+(b.length % 64+(Aw4 b.length).length) / 64 by omega,FBL,CBk _ _ _ _ (by omega),List.drop_append_of_le_length (by omega)]
theorem ML {s:AA} (hs:s.size<=1000000000):Jt s=some (Ed s):=by
 have h1:(s.extract (64*(s.size / 64)) s.size).size=s.size % 64:=by simp;omega
 have h:=BBl (gX gY (s.size / 64) (bs s)) (s:=s.extract (64*(s.size / 64)) s.size) h1 hs;rw [Awj,h1,List.take_of_length_le (by simp [bs_len])] at h;rw [Jt,CAx,mk,IBk,AP,UBk hs,AP,h,AP,Ed,Rz,CBl,bs_len]
def DX:Bo:=⟨Ed ⟨#[]⟩,0,[],0,ofBytes (List.replicate 32 0),0⟩
theorem bU:Axn=some DX:=by rw [Axn,DAx,mk,ML (by decide),AP,show (32:Int)=((32:Nat):Int) from rfl,WBK (by omega),AP];rfl
def SN (n:Int):List Int:=if n > 127 then (128+n % 128)::SN (n / 128) else [w8 n]
termination_by n.toNat
decreasing_by omega
theorem RBL:∀ (k:Nat) (n:Int),n<128 ^ k->(SN n).length<=max k 1:=by intro k;induction k<;>grind [SN]
theorem KX {n:Int} (h:n<=9223372036854775807):(SN n).length<=10:=by have:=RBL 10 n (by omega);omega
theorem Avw (n:Int):1<=(SN n).length:=by grind [SN]
theorem SBL {n:Int} (h:n > 127) (h2:n<=9223372036854775807):AV (n.tdiv 128)=n / 128/\w8 (AV (n.tmod 128+128))=128+n % 128/\w8 (AV (128+n.tmod 128))=128+n % 128:=by grind [A8,Nq]
theorem V8 {n:Int} (h:n<=9223372036854775807):SC n=some (ofBytes (SN n)):=by
 have key:∀ (n:Int) (m:Nat) (out:List Int),n<=9223372036854775807->(SN n).length<=m->out.length+(SN n).length<=1000->rQ m (.c0 n out)=some (ofBytes (out++SN n)):=by
  intro n;induction n using SN.induct with
  | case1 n hn ih=>
   intro m out h1 h2 h3;rw [SN,if_pos hn] at h2 h3 ⊢;simp only [List.length_cons] at h2 h3;obtain ⟨m,rfl⟩:∃ k,m=k+1:=⟨m - 1,by omega⟩
   grind [SBL,rQ,FAk]
  | case2 n hn=>
   intro m out h1 h2 h3;rw [SN,if_neg hn] at h2 h3 ⊢;simp at h2 h3;obtain ⟨m,rfl⟩:∃ k,m=k+1:=⟨m - 1,by omega⟩
   grind [rQ,FAk]
 have hl:=KX h;exact key n AY [] h (Nat.le_of_lt (FM (by omega))) (by grind)
def AwH (x:Af):Bool:=AyM x.fId 1 1000 && AyM x.Aj 1 3 && AyM x.fNext 0 16 && ((x.Aj == 2) || ((x.fNext == 0) && !x.Gw)) && ((x.Aj == 1) || !x.GH) && (bif x.Aj == 3 then decide ((x.fValue.size:Int)<=100) else (x.fValue.size:Int) == 32)
theorem yH (x:Af):Xq x=some (AwH x):=by simp only [Xq,EAx,mk,Ih,AP,AwH,bne];grind
theorem Ny {x:Af} (h:AwH x=true):1<=x.Aj/\x.Aj<=3/\1<=x.fId/\x.fId<=1000/\0<=x.fNext/\x.fNext<=16/\x.fValue.size<=100:=by grind [AwH,Na]
theorem DBl (b:Bool) (n:Int):FAx b n=some (bif b then n else 0):=by cases b <;> rfl
theorem AxQ {n:Int} (h:0<=n) (h2:n<=255):Awm n=some (ofBytes [n]):=by
 have e:n.tmod 256=n:=by grind
 simp only [Awm,GAx,mk,e];grind [Nq]
def Avx (s:AA):AA:=ofBytes (SN (s.size:Int))++s
theorem EBl {s:AA} (h:s.size<=140737488351232):(Avx s).size<=s.size+10:=by grind [Avx,Dj,KX]
theorem FBl {s:AA} (h:s.size<=140737488351232):GAk s=some (Avx s):=by simp only [GAk,HAx,mk,V8 (n:=(s.size:Int)) (by omega),AP];have:=KX (n:=(s.size:Int)) (by omega);rw [show decide ((ofBytes (SN (s.size:Int))).size+s.size<=9223372036854775807)=true from Ba (by grind [Dj])];rfl
def Aw1 (x:Af):Int:=(bif x.CY then 1 else 0)+(bif x.CX then 2 else 0)+(bif x.Gw then 4 else 0)+(bif x.GH then 8 else 0)
theorem RAg (x:Af):0<=Aw1 x/\Aw1 x<=15:=by grind [Aw1]
theorem GBl (m:Nat) (a b c d:Bool):SAn (m+5) (.c0 0 4 0 [a,b,c,d])=some ((bif a then 1 else 0)+(bif b then 2 else 0)+(bif c then 4 else 0)+(bif d then 8 else 0)):=by cases a <;> cases b <;> cases c <;> cases d <;> kernel_rfl
theorem HBl (x:Af):TAn x=some (Aw1 x):=by
 obtain ⟨m,this⟩:∃ m,AY=m+5:=⟨AY - 5,rfl⟩
 unfold TAn CA4 mk;rw [this];exact GBl _ _ _ _ _
def Za (x:Af):AA:=ofBytes (SN x.fId)++ofBytes [x.Aj]++ofBytes [Aw1 x]++Avx x.fValue++ofBytes (SN x.fNext)
def IV (x:Af):AA×Bool:=bif AwH x then (Za x,true) else (⟨#[]⟩,false)
theorem JBB {x:Af} (h:AwH x=true):(ofBytes (SN x.fId)).size<=10/\(Avx x.fValue).size<=110/\(ofBytes (SN x.fNext)).size<=10:=by
 obtain ⟨_,_,_,h1,_,h2,h3⟩:=Ny h
 grind [Dj,KX,EBl]
theorem TBL {x:Af} (h:AwH x=true):(Za x).size<=200:=by grind [JBB,Za,Dj]
theorem x9 (x:Af):Zb x=some (IV x):=by
 simp only [Zb,IAx,mk,yH,AP,IV];cases h:AwH x;·rfl
 ·obtain ⟨k1,k2,k3,k4,k5,k6,k7⟩:=Ny h
  obtain ⟨z1,z2,z3⟩:=JBB h
  have hf:=RAg x;have e1:∀ n:Int,(ofBytes [n]).size=1:=fun n=>Dj _
  have ef:AV (AV (AV ((bif x.CY then (1:Int) else 0)+(bif x.CX then 2 else 0))+(bif x.Gw then 4 else 0))+(bif x.GH then 8 else 0))=Aw1 x:=by unfold Aw1;cases x.CY <;> cases x.CX <;> cases x.Gw <;> cases x.GH <;> rfl
  simp only [DBl,AP,ef,V8 (n:=x.fId) (by omega),AxQ (n:=x.Aj) (by omega) (by omega),AxQ hf.1 (by omega),FBl (s:=x.fValue) (by omega),V8 (n:=x.fNext) (by omega),AEY,e1];simp only [DN,Aq,Ar]
  rw [show decide ((ofBytes (SN x.fId)).size+1<=9223372036854775807)=true from Ba (by omega),show decide ((ofBytes (SN x.fId)).size+1+1<=9223372036854775807)=true from Ba (by omega),
   show decide ((ofBytes (SN x.fId)).size+1+1+(Avx x.fValue).size<=9223372036854775807)=true from Ba (by omega),show decide ((ofBytes (SN x.fId)).size+1+1+(Avx x.fValue).size+(ofBytes (SN x.fNext)).size<=9223372036854775807)=true from Ba (by omega)]
  rfl
def JC (x:Af):Bool:=(x.fId == 0) && ((x.Aj == 0) && ((x.CY == false) && ((x.CX == false) && ((x.Gw == false) && ((x.GH == false) && (((ByteArray.toList x.fValue) == (ByteArray.toList (⟨#[]⟩:AA))) && ((x.fNext == 0) && true)))))))
theorem UBL (x:Af):((x.fId == 0) && ((x.Aj == 0) && ((x.CY == false) && ((x.CX == false) && ((x.Gw == false) && ((x.GH == false) && (((ByteArray.toList x.fValue) == (ByteArray.toList (⟨#[]⟩:AA))) && ((x.fNext == 0) && true))))))))=JC x:=rfl
def JB (s:AA):Bool:=(ByteArray.toList s) == (ByteArray.toList (⟨#[]⟩:AA))
theorem KBB (s:AA):((ByteArray.toList s) == (ByteArray.toList (⟨#[]⟩:AA)))=JB s:=rfl
def noT:AA×Bool:=((⟨#[]⟩:AA),false)
def Ax8 (r:Ah):AA×Bool:=
 bif r.Aj == 1 then (bif (r.fText.size:Int) == 32 && r.DR == 0 && JC r.Ag then (ofBytes [1]++r.fText,true) else noT)
 else bif r.Aj == 2 then (bif JB r.fText && JC r.Ag && AyM r.DR 0 3 then (ofBytes [2]++ofBytes (SN r.DR),true) else noT)
 else bif r.Aj == 3 then (bif (IV r.Ag).2 && JB r.fText && r.DR == 0 then (ofBytes [3]++(IV r.Ag).1,true) else noT)
 else bif r.Aj == 4 then (bif JB r.fText && JC r.Ag && AyM r.DR 1 1000 then (ofBytes [4]++ofBytes (SN r.DR),true) else noT)
 else noT
theorem QAr {n a b:Int} (hb:b<=1000) (h:AyM n a b=true) (k:Int):(ofBytes [k]).size+(ofBytes (SN n)).size<=9223372036854775807:=by grind [Na,KX,Dj]
theorem VBL {x:Af} (h:(IV x).2=true) (k:Int):(ofBytes [k]).size+(IV x).1.size<=9223372036854775807:=by grind [IV,TBL,Dj]
theorem iC (r:Ah):iE r=some (Ax8 r):=by
 have h1:(⟨#[1]⟩:AA)=ofBytes [1]:=rfl;have h2:(⟨#[2]⟩:AA)=ofBytes [2]:=rfl;have h3:(⟨#[3]⟩:AA)=ofBytes [3]:=rfl;have h4:(⟨#[4]⟩:AA)=ofBytes [4]:=rfl;simp only [iE,JAx,mk,Ih,x9,AP,UBL,h1,h2,h3,h4];simp only [KBB,Ax8];cases r.Aj == 1
 ·simp only [Aq];cases r.Aj == 2
  ·simp only [Aq];cases r.Aj == 3
   ·simp only [Aq];cases r.Aj == 4;·rfl
    ·cases JB r.fText <;> cases JC r.Ag <;> (try rfl);cases h:AyM r.DR 1 1000;·rfl
     ·have h':=h;rw [Na] at h';simp only [Ar,V8 (n:=r.DR) (by omega),AP,Bool.and_self,Ba (QAr (by omega) h 4)]
   ·cases h:(IV r.Ag).2;·rfl
    ·cases JB r.fText <;> cases r.DR == 0 <;> (try rfl);simp_all [VBL]
  ·cases JB r.fText <;> cases JC r.Ag <;> (try rfl);cases h:AyM r.DR 0 3;·rfl
   ·have h':=h;rw [Na] at h';simp only [Ar,V8 (n:=r.DR) (by omega),AP,Bool.and_self,Ba (QAr (by omega) h 2)]
 ·cases h:(r.fText.size:Int) == 32 <;> cases r.DR == 0 <;> cases JC r.Ag <;> (try rfl);grind [Dj]
def rise (last:Int):Int->List Af->Bool
 | _,[]=>true
 | p,x::xs=>AwH x && (!decide (x.fId > last) && (!decide (p>=x.fId) && rise last x.fId xs))
def Qu (l:List Af):Nat->Int
 | 0=>0
 | i+1=>((l[i]?).map (·.fId)).getD 0
theorem LBB {l:List Af} {i:Nat} (hi:i<l.length):Qu l (i+1)=l[i].fId:=by simp [Qu,hi]
theorem WBL {l:List Af} {last:Int} {i:Nat} (hi:i<l.length):rise last (Qu l i) (l.drop i)=(AwH l[i] && (!decide (l[i].fId > last) && (!decide (Qu l i>=l[i].fId) && rise last (Qu l (i+1)) (l.drop (i+1))))):=by grind [drop_at,rise,LBB]
def Ia (b:Bo):Bool:=(b.Bv.size:Int) == 32 && ((b.Dh.size:Int) == 32 && (AyM b.DU 0 3 && (decide ((b.AZ.length:Int)<=8) && (AyM b.BM 0 1000 && (AyM b.fCount 0 10000 && rise b.BM 0 b.AZ)))))
theorem IBl {b:Bo} (hb:b.AZ.length<=140737488351232):∀ m i,i<=b.AZ.length->b.AZ.length - i<m->Zc m (.c0 i b)=some (rise b.BM (Qu b.AZ i) (b.AZ.drop i)):=fun m i h1 h2=>
 PV (A:=Unit) (n:=b.AZ.length) (Lp:=Zc) (st:=fun i _=>.c0 i b) (Inv:=fun _ _=>True) (out:=fun i _=>some (rise b.BM (Qu b.AZ i) (b.AZ.drop i)))
  (fun m _ _=>by
   simp only [Zc,IAk,mk];rw [show decide ((b.AZ.length:Int)<(b.AZ.length:Int))=false from D6 (by omega),List.drop_of_length_le (Nat.le_refl _)];rfl)
  (fun m i _ hi _=>by
   have hw:AV ((i:Int)+1)=((i+1:Nat):Int):=by grind [A8]
   simp only [WBL hi];simp only [Zc,IAk,mk,BR,getD_at hi,yH,AP,hw];rw [show decide ((i:Int)<(b.AZ.length:Int))=true from Ba (by omega),show decide ((0:Int)<=(i:Int))=true from Ba (by omega)];simp only [Bool.and_self,Ar];cases h1:AwH b.AZ[i];·simp
   ·cases h2:decide (b.AZ[i].fId > b.BM)
    ·by_cases h0:i=0;·subst h0;refine .inr ⟨(),rfl,trivial,?_⟩;rw [show decide (Qu b.AZ 0>=b.AZ[0].fId)=false from D6 (by have:=(Ny h1).2.2.1;grind [Qu])];rfl
     ·obtain ⟨j,rfl⟩:∃ j,i=j+1:=⟨i - 1,by omega⟩
      have hj:AV (((j+1:Nat):Int) - 1)=(j:Int):=by grind [A8]
      have hjl:j<b.AZ.length:=by omega
      rw [LBB hjl];simp only [hj,BR,getD_at hjl,DN,Bool.not_false,Aq,Bool.true_and];rw [show decide (((j+1:Nat):Int) > 0)=true from Ba (by omega),show decide ((0:Int)<=(j:Int))=true from Ba (by omega),show decide ((j:Int)<(b.AZ.length:Int))=true from Ba (by omega)];simp only [Bool.and_self,Ar];cases h3:decide (b.AZ[j].fId>=b.AZ[j+1].fId);all_goals simp
    simp) m i () h1 h2 trivial
theorem fD {b:Bo} (hb:b.AZ.length<=140737488351232):iG b=some (Ia b):=by have h0:Zc AY (.c0 0 b)=some (rise b.BM 0 b.AZ):=IBl hb AY 0 (DJ _) (FM (by omega));simp only [iG,LAx,mk,Ih,AP,Ia,bne,h0];grind
theorem MBB {b:Bo} (h:b.AZ.length<=2932031007317):Zd b=some b:=by rw [Zd,MAx,mk,IK (by grind)];try rfl
def AwV (xs:List Af) (t:Int):Option Af:=xs.find? fun x=>x.fId == t
def ZM:Af:=⟨0,0,false,false,false,false,⟨#[]⟩,0⟩
theorem bT {b:Bo} {t:Int} (h:b.AZ.length<=140737488351232):TU b t=some (match AwV b.AZ t with | some x=>(x,true) | none=>(ZM,false)):=by
 have key:∀ m i,i<=b.AZ.length->b.AZ.length - i<m->iH m (.c0 t i b ZM)=some (match AwV (b.AZ.drop i) t with | some x=>(x,true) | none=>(ZM,false)):=fun m i h1 h2=>
  PV (A:=Unit) (n:=b.AZ.length) (Lp:=iH) (st:=fun i _=>.c0 t i b ZM) (Inv:=fun _ _=>True) (out:=fun i _=>some (match AwV (b.AZ.drop i) t with | some x=>(x,true) | none=>(ZM,false)))
   (fun m _ _=>by simp [iH,JAk,mk,AwV,ZM])
   (fun m i _ hi _=>by
    have hw:AV ((i:Int)+1)=((i+1:Nat):Int):=by grind [A8]
    simp only [iH,JAk,mk,BR,getD_at hi,hw,drop_at hi,AwV,List.find?_cons];cases hq:b.AZ[i].fId == t;all_goals simp_all) m i () h1 h2 trivial
 have h0:=key AY 0 (DJ _) (FM (by omega));exact h0
theorem kE {r:Ah} (h:(Ax8 r).2=true):(r.Aj=1/\r.fText.size=32)\/(r.Aj=2/\0<=r.DR/\r.DR<=3)\/(r.Aj=3/\AwH r.Ag=true)\/(r.Aj=4/\1<=r.DR/\r.DR<=1000):=by
 rw [Ax8] at h;by_cases h1:r.Aj=1
 ·rw [show (r.Aj == 1)=true by simp_all,Ar] at h;cases hc:((r.fText.size:Int) == 32 && r.DR == 0 && JC r.Ag)
  ·rw [hc] at h;cases h
  grind
 rw [show (r.Aj == 1)=false by simp_all,Aq] at h;by_cases h2:r.Aj=2
 ·rw [show (r.Aj == 2)=true by simp_all,Ar] at h;cases hc:(JB r.fText && JC r.Ag && AyM r.DR 0 3)
  ·rw [hc] at h;cases h
  simp_all [Na]
 rw [show (r.Aj == 2)=false by simp_all,Aq] at h;by_cases h3:r.Aj=3
 ·rw [show (r.Aj == 3)=true by simp_all,Ar] at h;cases hc:((IV r.Ag).2 && JB r.fText && r.DR == 0)
  ·rw [hc] at h;cases h
  grind [IV]
 rw [show (r.Aj == 3)=false by simp_all,Aq] at h;by_cases h4:r.Aj=4
 ·rw [show (r.Aj == 4)=true by simp_all,Ar] at h;cases hc:(JB r.fText && JC r.Ag && AyM r.DR 1 1000)
  ·rw [hc] at h;cases h
  simp_all [Na]
 rw [show (r.Aj == 4)=false by simp_all] at h;cases h
theorem Xi (r:Ah):(Ax8 r).1.size<=300:=by
 rw [Ax8];have one:∀ n:Int,(ofBytes [n]).size=1:=fun n=>by rfl
 cases hk1:(r.Aj == 1)
 ·rw [Aq];cases hk2:(r.Aj == 2)
  ·rw [Aq];cases hk3:(r.Aj == 3)
   ·rw [Aq];cases hk4:(r.Aj == 4)
    ·exact DJ _
    ·rw [Ar];cases hc:(JB r.fText && JC r.Ag && AyM r.DR 1 1000)
     ·exact DJ _
     grind [Na,KX,Dj]
   ·rw [Ar];cases hc:((IV r.Ag).2 && JB r.fText && r.DR == 0)
    ·exact DJ _
    grind [IV,TBL]
  ·rw [Ar];cases hc:(JB r.fText && JC r.Ag && AyM r.DR 0 3)
   ·exact DJ _
   grind [Na,KX,Dj]
 ·rw [Ar];cases hc:((r.fText.size:Int) == 32 && r.DR == 0 && JC r.Ag)
  ·exact DJ _
  grind
def OE:List Af->Int->Nat->Option Nat
 | [],_,_=>none
 | x::xs,t,i=>if x.fId == t then some i else OE xs t (i+1)
theorem XBL (t:Int):∀ (xs:List Af) (i:Nat),match OE xs t i with | some j=>i<=j/\j<i+xs.length/\AwV xs t=xs[j - i]? | none=>AwV xs t=none:=by intro xs;induction xs<;>grind [OE,AwV]
theorem Ax0 {b:Bo}:Ia b=true↔b.Bv.size=32/\b.Dh.size=32/\(0<=b.DU/\b.DU<=3)/\b.AZ.length<=8/\(0<=b.BM/\b.BM<=1000)/\(0<=b.fCount/\b.fCount<=10000)/\rise b.BM 0 b.AZ=true:=by grind [Ia,Na]
theorem Rx {last p:Int} {x:Af} {xs:List Af}:rise last p (x::xs)=true↔AwH x=true/\x.fId<=last/\p<x.fId/\rise last x.fId xs=true:=by simp [rise]
theorem Axr {last:Int}:∀ {xs:List Af} {p:Int},rise last p xs=true->∀ x ∈ xs,p<x.fId/\x.fId<=last/\AwH x=true
 | [],_,_,x,hx=>by cases hx
 | y::ys,p,h,x,hx=>by
  obtain ⟨h1,h2,h3,h4⟩:=Rx.1 h
  rcases List.mem_cons.1 hx with rfl | hx
  ·simp_all
  ·have:=Axr h4 x hx;grind
theorem YBL {last last2:Int} (hl:last<=last2):∀ {xs:List Af} {p p2:Int},p2<=p->rise last p xs=true->rise last2 p2 xs=true
 | [],_,_,_,_=>rfl
 | y::ys,p,p2,hp,h=>by
  obtain ⟨h1,h2,h3,h4⟩:=Rx.1 h
  exact Rx.2 ⟨h1,by omega,by omega,YBL hl (Int.le_refl _) h4⟩
def Qc (x:Af) (ts:List Af):List Af:=ts.filter fun t=>decide (t.fId<x.fId)
def VW (x:Af) (ts:List Af):List Af:=ts.filter fun t=>decide (t.fId > x.fId)
def putAt (ts:List Af) (x:Af):List Af:=Qc x ts++x::VW x ts
def without (ts:List Af) (id:Int):List Af:=ts.filter fun t=>t.fId != id
theorem JBl {last:Int} {x:Af}:∀ {xs:List Af} {p:Int},x.fId<=p->rise last p xs=true->Qc x xs=[]/\VW x xs=xs/\without xs x.fId=xs:=by intro xs p hp h;have ha:=Axr h;refine ⟨List.filter_eq_nil_iff.2 fun t ht=>?_,List.filter_eq_self.2 fun t ht=>?_,List.filter_eq_self.2 fun t ht=>?_⟩;all_goals grind
theorem ZBL {id:Int}:∀ {xs:List Af} {i j:Nat},OE xs id i=some j->i<=j/\∃ x ∈ xs,x.fId=id:=by intro xs;induction xs<;>grind [OE]
theorem NBB {last:Int} {x:Af}:∀ {xs:List Af} {p:Int} {i j:Nat},rise last p xs=true->OE xs x.fId i=some j->xs.set (j - i) x=putAt xs x/\(xs.take (j - i)++xs.drop (j - i+1))=without xs x.fId:=by
 intro xs;induction xs with
 | nil=>intro p i j _ h;cases h
 | cons y ys ih=>
  intro p i j hr h;obtain ⟨h1,h2,h3,h4⟩:=Rx.1 hr
  rw [OE] at h;split at h
  ·rename_i hy;have hy:=beq_iff_eq.1 hy;cases h;obtain ⟨f1,f2,f3⟩:=JBl (x:=x) (by omega) h4
   grind [putAt,Qc,VW,without]
  ·rename_i hy;obtain ⟨h5,z,h6,h7⟩:=ZBL h
   have h8:=Axr h4 z h6;grind [putAt,Qc,VW,without]
theorem AY1 {last:Int} {x:Af} {xs:List Af} {p:Int} (h:rise last p xs=true) (hx:last<x.fId):putAt xs x=xs++[x]/\AwV xs x.fId=none:=by have ha:=Axr h;grind [putAt,Qc,VW,List.filter_eq_self,List.filter_eq_nil_iff,AwV]
theorem KBl {last:Int} {x:Af} (hx:AwH x=true) (hl:last<x.fId):∀ {xs:List Af} {p:Int},p<x.fId->rise last p xs=true->rise x.fId p (xs++[x])=true:=by
 intro xs;induction xs with
 | nil=>intro p hp _;exact Rx.2 ⟨hx,Int.le_refl _,hp,rfl⟩
 | cons y ys ih=>
  grind [Rx]
theorem LBl {last:Int} {x:Af} (hx:AwH x=true):∀ {xs:List Af} {p:Int} {i j:Nat},rise last p xs=true->OE xs x.fId i=some j->rise last p (xs.set (j - i) x)=true:=by
 intro xs;induction xs with
 | nil=>simp_all
 | cons y ys ih=>
  intro p i j hr h;obtain ⟨h1,h2,h3,h4⟩:=Rx.1 hr
  rw [OE] at h;split at h;·simp_all [Rx]
  ·have h5:=(ZBL h).1;have e:j - i=(j - (i+1))+1:=by omega
   simp_all [Rx]
theorem MBl {last:Int} (id:Int):∀ {xs:List Af} {p:Int},rise last p xs=true->rise last p (without xs id)=true:=by
 intro xs;induction xs with
 | nil=>intro p _;rfl
 | cons y ys ih=>
  intro p h;obtain ⟨h1,h2,h3,h4⟩:=Rx.1 h
  rw [without,List.filter_cons];split;·exact Rx.2 ⟨h1,h2,h3,ih h4⟩
  ·exact YBL (Int.le_refl _) (by omega) (ih h4)
def grown (x y:Af):Bool:=y.Aj == x.Aj && ((bs y.fValue == bs x.fValue) && (y.Gw == x.Gw && (y.GH == x.GH && (decide (x.fNext<=y.fNext) && ((y.CY || !x.CY) && (y.CX || !x.CX))))))
def rU:Bo:=⟨⟨#[]⟩,0,[],0,⟨#[]⟩,0⟩
def VU (b:Bo) (x:Af):Option (List Af×Int):=match AwV b.AZ x.fId with
 | some old=>bif grown old x then some (putAt b.AZ x,b.BM) else none
 | none=>bif x.fId != b.BM+1 || decide ((b.AZ.length:Int)>=8) then none else some (b.AZ++[x],x.fId)
def OZ (b:Bo) (r:Ah):Bo×Bool:=
 bif !(Ia b) || (!(Ax8 r).2 || decide (b.fCount>=10000)) then (rU,false)
 else bif r.Aj == 1 then (⟨r.fText,0,b.AZ,b.BM,Ed (b.Dh++(Ax8 r).1),b.fCount+1⟩,true)
 else bif r.Aj == 2 then (⟨b.Bv,r.DR,b.AZ,b.BM,Ed (b.Dh++(Ax8 r).1),b.fCount+1⟩,true)
 else bif r.Aj == 3 then (match VU b r.Ag with
  | some p=>(⟨b.Bv,b.DU,p.1,p.2,Ed (b.Dh++(Ax8 r).1),b.fCount+1⟩,true)
  | none=>(rU,false))
 else (match AwV b.AZ r.DR with
  | some _=>(⟨b.Bv,b.DU,without b.AZ r.DR,b.BM,Ed (b.Dh++(Ax8 r).1),b.fCount+1⟩,true)
  | none=>(rU,false))
theorem OBB {xs:List Af} {id:Int}:(∃ x j,AwV xs id=some x/\OE xs id 0=some j/\j<xs.length/\xs[j]?=some x/\x.fId=id)\/(AwV xs id=none/\OE xs id 0=none):=by grind [XBL,AwV]
theorem Qb {b:Bo} {r:Ah} (h:(OZ b r).2=true):Ia b=true/\(Ax8 r).2=true/\b.fCount<10000/\Ia (OZ b r).1=true/\(OZ b r).1.fCount=b.fCount+1/\(OZ b r).1.Dh=Ed (b.Dh++(Ax8 r).1):=by
 rw [OZ] at h ⊢;cases h1:Ia b;·simp_all
 cases h2:(Ax8 r).2;·simp_all
 by_cases h3:b.fCount>=10000;·simp_all
 rw [h1,h2,D6 h3] at h;rw [D6 h3];simp only [DN,Bool.or_false,Aq] at h ⊢;obtain ⟨b1,b2,b3,b4,b5,b6,b7⟩:=Ax0.1 h1
 refine ⟨trivial,trivial,by omega,?_⟩;have hd:∀ s,(Ed s).size=32:=AxT;rcases kE h2 with ⟨hk,hz⟩ | ⟨hk,hz⟩ | ⟨hk,hz⟩ | ⟨hk,hz⟩
 ·grind [Ax0]
 ·grind [Ax0]
 ·rw [hk] at h ⊢;simp only [show ((3:Int) == 1)=false from rfl,show ((3:Int) == 2)=false from rfl,show ((3:Int) == 3)=true from rfl,Ar,Aq] at h ⊢;rw [VU] at h ⊢;rcases OBB (xs:=b.AZ) (id:=r.Ag.fId) with ⟨x,j,t1,t2,t3,t4,t5⟩ | ⟨t1,t2⟩
  ·rw [t1] at h ⊢;simp only at h ⊢;cases hg:grown x r.Ag;·simp_all
   ·have e:=(NBB b7 t2).1;rw [Nat.sub_zero] at e;have hrs:=LBl hz b7 t2;grind [Ax0]
  ·rw [t1] at h ⊢;simp only at h ⊢;cases hg:(r.Ag.fId != b.BM+1 || decide ((b.AZ.length:Int)>=8))
   ·rw [Bool.or_eq_false_iff,bne_eq_false_iff_eq,decide_eq_false_iff_not] at hg;have hid:r.Ag.fId<=1000:=by simp_all [AwH,Na]
    exact ⟨Ax0.2 ⟨b1,hd _,b3,by grind,by grind,by grind,KBl hz (by omega) (by omega) b7⟩,rfl,rfl⟩
   simp_all
 grind [Ax0,without,MBl]
theorem AzS (a b:AA):(a.toList == b.toList)=(bs a == bs b):=by grind [toList_inj,KW]
theorem NBl (x y:Af):KAW x y=some (grown x y):=by
 rw [KAW,OAx,mk,grown,AzS,show (bs x.fValue == bs y.fValue)=(bs y.fValue == bs x.fValue) by grind,
  show (x.Aj == y.Aj)=(y.Aj == x.Aj) by grind]
 grind
theorem PBB {f:Af->Bool} {l:List Af} {i:Nat} (h:i<l.length):(l.take (i+1)).filter f=(l.take i).filter f++(bif f l[i] then [l[i]] else []):=by grind [take_at]
theorem BBM {l:List Af} {x:Af} (hl:l.length<=1000000000):NAW l x=some (putAt l x):=by
 have k1:∀ (j i m:Nat),i+j=l.length->WG (m+j) (.c1 l (i:Int) x (Qc x l++[x]++(l.take i).filter (fun t=>decide (t.fId > x.fId))))=WG m (.c1 l (l.length:Int) x (Qc x l++[x]++VW x l)):=by
  intro j;induction j with
  | zero=>(intro i m h;obtain rfl:i=l.length:=by omega);rw [List.take_length];rfl
  | succ j ih=>
   intro i m h;have hi:i<l.length:=by omega
   have e:AV ((i:Int)+1)=((i+1:Nat):Int):=by grind [A8]
   have h2:=ih (i+1) m (by omega);rw [PBB hi] at h2;have hf1:(Qc x l).length<=l.length:=List.length_filter_le ..;have hf2:((l.take i).filter (fun t=>decide (t.fId > x.fId))).length<=i:=Nat.le_trans (List.length_filter_le ..) (by grind);rw [show m+(j+1)=(m+j)+1 by omega,WG];simp only [rV,mk,e,BR,getD_at hi];grind
 have k0:∀ (j i m:Nat),i+j=l.length->WG (m+1+l.length+1+j) (.c0 l (i:Int) x ((l.take i).filter (fun t=>decide (t.fId<x.fId))))=some (putAt l x):=by
  intro j;induction j with
  | zero=>
   intro i m h;obtain rfl:i=l.length:=by omega
   have hf1:(Qc x l).length<=l.length:=List.length_filter_le ..;rw [List.take_length,show l.filter (fun t=>decide (t.fId<x.fId))=Qc x l from rfl,Nat.add_zero,WG];simp only [rV,mk];rw [TT (by simp),IK (by grind)];have h2:=k1 l.length 0 (m+1) (by omega);grind [WG,rV,putAt]
  | succ j ih=>
   intro i m h;have hi:i<l.length:=by omega
   have e:AV ((i:Int)+1)=((i+1:Nat):Int):=by grind [A8]
   have h2:=ih (i+1) m (by omega);rw [PBB hi] at h2;grind [WG,rV,BR]
 obtain ⟨m,hm⟩:∃ m,AY=m+1+l.length+1+l.length:=⟨AY - (2*l.length+2),by have:=FM (n:=2*l.length+2) (by omega);omega⟩
 rw [NAW,PAx,hm];have h:=k0 l.length 0 m (by omega);assumption
theorem xA {b:Bo} {r:Ah} (hb:b.AZ.length<=140737488351232):Rq b r=some (OZ b r):=by
 have hok:(OZ b r).2=true->_:=Qb (b:=b) (r:=r);rw [Rq,QAx,mk,iC,AP,fD hb,AP];rw [OZ] at hok ⊢;cases h1:Ia b;·rfl
 cases h2:(Ax8 r).2;·rfl
 obtain ⟨b1,b2,b3,b4,b5,b6,b7⟩:=Ax0.1 h1
 by_cases h3:b.fCount>=10000
 ·have h3':(b.fCount == 10000)=true:=by grind
  simp only [Ba h3,h3',DN,Bool.or_true,Bool.false_or,Aq,Ar];rfl
 have hz:=Xi r;have hw:AV (b.fCount+1)=b.fCount+1:=A8 (by omega) (by omega);have hdig:=ML (s:=b.Dh++(Ax8 r).1) (by grind);have hsz:decide (b.Dh.size+(Ax8 r).1.size<=9223372036854775807)=true:=by grind
 have h3':(b.fCount == 10000)=false:=by grind
 rw [h1,h2,D6 h3] at hok;simp only [DN,Bool.or_self,Aq] at hok;simp only [D6 h3,h3',DN,Bool.or_self,Aq,MBB (show b.AZ.length<=2932031007317 by omega),hdig,hsz,hw,AP,Ar];rcases kE h2 with ⟨hk,hc⟩ | ⟨hk,hc⟩ | ⟨hk,hc⟩ | ⟨hk,hc⟩
 ·grind [fD]
 ·grind [fD]
 ·rw [hk] at hok ⊢;simp only [show ((3:Int) == 1)=false from rfl,show ((3:Int) == 2)=false from rfl,show ((3:Int) == 3)=true from rfl,Ar,Aq] at hok ⊢;have hid:=(Ny hc)
  have hpl:(putAt b.AZ r.Ag).length<=1000:=by grind [Qc,VW,putAt]
  rw [bT hb,AP];rw [VU] at hok ⊢;cases ht:AwV b.AZ r.Ag.fId with
  | some o=>
   rw [ht] at hok;simp only [Ar,NBl,AP,DN,Aq,BBM (show b.AZ.length<=1000000000 by omega)] at hok ⊢;cases hg:grown o r.Ag;·rfl
   grind [fD]
  | none=>
   rw [ht] at hok;have hw2:AV (b.BM+1)=b.BM+1:=A8 (by omega) (by omega);simp only [Aq,Bool.not_false,Ar,hw2,BBM (show b.AZ.length<=1000000000 by omega),AP] at hok ⊢;cases hg:(r.Ag.fId != b.BM+1)
   ·rw [hg] at hok;rw [bne_eq_false_iff_eq] at hg;have hpn:=(AY1 b7 (show b.BM<r.Ag.fId by omega)).1;by_cases h8:(b.AZ.length:Int)>=8;·rw [Ba h8,Aq,IK (by grind)];rfl
    grind [fD]
   ·rfl
 ·rw [hk] at hok ⊢;simp only [show ((4:Int) == 1)=false from rfl,show ((4:Int) == 2)=false from rfl,show ((4:Int) == 3)=false from rfl,show ((4:Int) == 4)=true from rfl,Ar,Aq] at hok ⊢;rw [bT hb,AP];cases ht:AwV b.AZ r.DR with
  | none=>rfl
  | some o=>
   rw [ht] at hok;simp only [DN,Aq] at hok ⊢;have h5:=(hok trivial).2.2.2.1;have key:∀ (j i m:Nat),i+j=b.AZ.length->rW (m+j+1) (.c0 (Ax8 r).1 (i:Int) b r ⟨#[]⟩ 0 0 ⟨#[]⟩ 0 b.Bv b.DU b.BM b.Dh b.fCount ((b.AZ.take i).filter (fun t=>t.fId != r.DR)) [] b.AZ)=some (⟨b.Bv,b.DU,without b.AZ r.DR,b.BM,Ed (b.Dh++(Ax8 r).1),b.fCount+1⟩,true):=by
    intro j;induction j with
    | zero=>
     grind [without,List.take_length,rW,KAk,fD]
    | succ j ih=>
     intro i m hi;have hil:i<b.AZ.length:=by omega
     have e:AV ((i:Int)+1)=((i+1:Nat):Int):=by grind [A8]
     have h6:=ih (i+1) m (by omega);rw [PBB hil] at h6;have hf2:((b.AZ.take i).filter (fun t=>t.fId != r.DR)).length<=i:=Nat.le_trans (List.length_filter_le ..) (by grind);rw [show m+(j+1)+1=(m+j+1)+1 by omega,rW];grind [KAk]
   obtain ⟨m,hm⟩:=gm (n:=b.AZ.length) (by omega)
   have h0:=key b.AZ.length 0 m (by omega);simp_all
def xb (x y:Int):Int:=w8 (((BitVec.toNat ((BitVec.ofInt (IntKind.bits IntKind.u8) x) ^^^ (BitVec.ofInt (IntKind.bits IntKind.u8) y))):Nat):Int)
theorem QBB (x y:Int):w8 (((BitVec.toNat ((BitVec.ofInt (IntKind.bits IntKind.u8) x) ^^^ (BitVec.ofInt (IntKind.bits IntKind.u8) y))):Nat):Int)=xb x y:=rfl
theorem CBM (x y:Int):0<=xb x y/\xb x y<=255:=by grind [xb,bJ]
theorem OBl {x:Int} (h:0<=x/\x<=255) (y:Int):xb (xb x y) y=x:=by
 have e:∀ (a b:BitVec 8),BitVec.ofInt 8 (((a ^^^ b).toNat:Nat):Int) ^^^ b=a:=by simp [BitVec.xor_assoc]
 have h8:∀ (a b:BitVec 8),w8 (((a ^^^ b).toNat:Nat):Int)=(((a ^^^ b).toNat:Nat):Int):=fun a b=>by grind [Nq]
 unfold xb;show w8 (((BitVec.ofInt 8 (w8 (((BitVec.ofInt 8 x ^^^ BitVec.ofInt 8 y).toNat:Nat):Int)) ^^^ BitVec.ofInt 8 y).toNat:Nat):Int)=x;rw [h8 (BitVec.ofInt 8 x),e,BitVec.toNat_ofInt,bJ];omega
def OD (x:Int) (l:List Int):List Int:=l.map fun b=>xb b x
theorem RAr (x:Int) (l:List Int):(OD x l).length=l.length:=by simp [OD]
theorem SAr (x:Int) (l:List Int):Hw (OD x l):=fun n hn=>by
 simp only [OD,List.mem_map] at hn;obtain ⟨b,_,rfl⟩:=hn
 exact CBM _ _
def Um (k:List Int):List Int:=k++List.replicate (64 - k.length) 0
def Xc (k:List Int):List Int:=if 64<k.length then Um (Rz k) else Um k
theorem PBl (k:List Int):(Xc k).length=64:=by grind [Xc,Um,IBL]
def Xb (k s:List Int):List Int:=Rz (OD 92 (Xc k)++Rz (OD 54 (Xc k)++s))
def fP (k s:AA):AA:=ofBytes (Xb (bs k) (bs s))
theorem DBM (k s:List Int):(Xb k s).length=32:=IBL _
theorem TAr (k s:List Int):Hw (Xb k s):=JBL _
theorem EBM (k s:AA):bs (fP k s)=Xb (bs k) (bs s):=Oa (TAr _ _)
theorem QBl {α:Type} (f:α->α) {l:List α} {i:Nat} (h:i<l.length):((l.take i).map f++l.drop i).set i (f l[i])=(l.take (i+1)).map f++l.drop (i+1):=by grind [drop_at,gU]
theorem RBl (k:List Int) {i:Nat}:(Um k).getD i 0=k.getD i 0:=by grind [Um]
theorem SBl (f:Int->Int) {l:List Int} (hl:l.length=64) {i:Nat} (h:i<64) (y:Int) (hy:y=f (l.getD i 0)):((l.take i).map f++List.replicate (64 - i) 0).set i y=(l.take (i+1)).map f++List.replicate (64 - (i+1)) 0:=by rw [show 64 - i=(64 - (i+1))+1 by omega,List.replicate_succ,gU (by grind),take_at (by omega),hy,getD_at (by omega),List.map_append,List.append_assoc];rfl
theorem TBl {k:AA} (hk:k.size<=64) (x:Int):iI AY (.c0 k x (0:Int) (List.replicate (64:Int).toNat (0:Int)))=some (ofBytes (OD x (Um (bs k)))):=by
 have hl:(Um (bs k)).length=64:=by simp_all [Um,bs_len]
 have key:=PV (A:=Unit) (n:=64) (Lp:=iI) (st:=fun i _=>.c0 k x (i:Int) (((Um (bs k)).take i).map (fun b=>xb b x)++List.replicate (64 - i) 0)) (Inv:=fun _ _=>True) (out:=fun _ _=>some (ofBytes (OD x (Um (bs k)))))
  (fun m _ _=>by
   rw [iI];simp only [MAk,mk];rw [TT (by simp),List.take_of_length_le (by omega),Nat.sub_self,List.replicate_zero,List.append_nil];rfl)
  (fun m i _ hi _=>.inr ⟨(),by
   have e:AV ((i:Int)+1)=((i+1:Nat):Int):=by grind [A8]
   have hlen:(((Um (bs k)).take i).map (fun b=>xb b x)++List.replicate (64 - i) 0).length=64:=by grind
   have hm:(((Um (bs k)).take i).map (fun b=>xb b x)).length=i:=by grind
   rw [iI];simp only [MAk,mk,e,BR,List.length_set,hlen,QBB];grind [V4,List.set_set,SBl,RBl,bs_len],trivial,rfl⟩)
 exact key AY 0 () (DJ _) (FM (by omega)) trivial
theorem FBM {k:AA} (hk:k.size<=1000000000) (x:Int):NAk k x=some (ofBytes (OD x (Xc (bs k)))):=by rw [NAk,RAx,mk];grind [ML,TBl,AxT,Xc,bs_len,PAr]
theorem GBM {k s:AA} (hk:k.size<=900000000) (hs:s.size<=900000000):rX k s=some (fP k s):=by have x1:=RAr 92 (Xc (bs k));have x2:=RAr 54 (Xc (bs k));have x3:=PBl (bs k);rw [rX,SAx,mk,FBM (by omega),AP,FBM (by omega),AP,IK (by grind [Dj])];rw [ML (by grind [Dj]),AP,IK (by simp_all [Dj,AxT]),ML (by simp_all [Dj,AxT]),AP];rw [Ed,Hr,PAr,Hr,Oa (SAr _ _),Oa (SAr _ _),fP,Xb]
def ZK (k v:List Int):Nat->List Int
 | 0=>[]
 | i+1=>ZK k v i++Xb k (109::(v++[(i:Int)]))
theorem ZL (k v:List Int) (i:Nat):(ZK k v i).length=32*i:=by induction i<;>grind [ZK,DBM]
theorem HBM (k v:List Int) (i:Nat):Hw (ZK k v i):=by
 induction i with
 | zero=>intro n hn;cases hn
 | succ i ih=>
  intro n hn;rcases List.mem_append.1 hn with hn | hn
  ·exact ih n hn
  ·exact TAr _ _ n hn
def Qq (k v:List Int) (n:Nat):List Int:=(ZK k v ((n+31) / 32)).take n
theorem Ub (k v:List Int) (n:Nat):(Qq k v n).length=n:=by grind [Qq,ZL]
theorem yD (k v:List Int) (n:Nat):Hw (Qq k v n):=fun x hx=>HBM _ _ _ x (List.mem_of_mem_take hx)
def MB (num:Int) (n:Int):Bool:=AyM num 0 1000000000 && AyM n 0 8000
def Yx (k:AA) (num:Int) (n:Int):AA×Bool:=bif MB num n then (ofBytes (Qq (bs k) (SN num) n.toNat),true) else (⟨#[]⟩,false)
theorem V6:∀ {n:Int},0<=n->Hw (SN n):=by
 intro n;induction n using SN.induct with
 | case1 n hn ih=>
  intro h x hx;rw [SN,if_pos hn] at hx;rcases List.mem_cons.1 hx with rfl | hx
  ·omega
  ·exact ih (by omega) x hx
 | case2 n hn=>
  intro h x hx;grind [SN,bJ]
theorem IBM (k:AA) {num:Int} (hn:0<=num) (hn2:num<=1000000000) (i:Nat) (hi:i<=255) :
  fP k (((⟨#[109]⟩:AA)++ofBytes (SN num))++ofBytes [(i:Int)])=ofBytes (Xb (bs k) (109::(SN num++[(i:Int)]))):=by
 have e:bs (⟨#[109]⟩:AA)=[109]:=rfl;rw [fP,Hr,Hr,Oa (V6 hn),e,Oa (fun x hx=>by grind)];rfl
def AyY (a b:List Int):List Int:=List.zipWith xb a b
theorem gI {a b:List Int} (h:a.length<=b.length):(AyY a b).length=a.length:=by simp_all [AyY]
theorem XH (a b:List Int):Hw (AyY a b):=by
 intro n hn;rw [AyY,List.mem_iff_getElem] at hn;obtain ⟨i,hi,rfl⟩:=hn
 simp [CBM]
theorem RBB {α:Type} (f:α->α->α):∀ (a b:List α),List.zipWith f a (b.take a.length)=List.zipWith f a b
 | [],_=>rfl
 | _::_,[]=>rfl
 | x::a,y::b=>by simp [RBB]
theorem JBM {a b:List Int} {i:Nat} (h:i<a.length) (h2:i<b.length):(List.zipWith xb (a.take i) (b.take i)++a.drop i).set i (xb a[i] (b.getD i 0))=List.zipWith xb (a.take (i+1)) (b.take (i+1))++a.drop (i+1):=by rw [drop_at h,gU (by grind),take_at h,take_at h2,getD_at h2,List.zipWith_append (by grind),List.append_assoc];rfl
def Ql (k:List Int) (num:Int) (s:List Int):List Int:=(Xb k (116::(SN num++s))).take 16
theorem qc (k:List Int) (num:Int) (s:List Int):(Ql k num s).length=16:=by rfl
theorem Vf (k:List Int) (num:Int) (s:List Int):Hw (Ql k num s):=fun x hx=>TAr _ _ x (List.mem_of_mem_take hx)
def OG (k:List Int) (num:Int) (s:List Int):List Int:=AyY s (Qq k (SN num) s.length)++Ql k num (AyY s (Qq k (SN num) s.length))
def Axf (k:AA) (num:Int) (s:AA):AA×Bool:=bif MB num s.size then (ofBytes (OG (bs k) num (bs s)),true) else (⟨#[]⟩,false)
def Ee (k:AA) (num:Int) (t:AA):AA×Bool:=
 bif decide ((t.size:Int)<16) || !(MB num ((t.size:Int) - 16)) then (⟨#[]⟩,false)
 else bif Ql (bs k) num ((bs t).take (t.size - 16)) == (bs t).drop (t.size - 16) then (ofBytes (AyY ((bs t).take (t.size - 16)) (Qq (bs k) (SN num) (t.size - 16))),true)
 else (⟨#[]⟩,false)
theorem lH {num n:Int}:MB num n=true↔(0<=num/\num<=1000000000)/\0<=n/\n<=8000:=by simp [MB,Na]
theorem KBM {k:AA} {num n:Int} (hk:k.size<=900000000):RAW k num n=some (Yx k num n):=by
 rw [RAW,TAx,mk,Ih,AP,Yx,MB];cases h:AyM num 0 1000000000;·rfl
 ·rw [Na] at h;rw [TT (by rfl),Ih,AP];cases h2:AyM n 0 8000;·rfl
  ·rw [Na] at h2;rw [TT (by rfl),Bool.and_self,Ar];have hv:=KX (n:=num) (by omega);have hvb:=V6 h.1
   have key:=PV (A:=Unit) (n:=(n.toNat+31) / 32) (Lp:=rY) (st:=fun i _=>.c0 k num n (i:Int) (ZK (bs k) (SN num) i)) (Inv:=fun _ _=>True) (out:=fun _ _=>some (ofBytes (Qq (bs k) (SN num) n.toNat),true))
    (fun m _ _=>by
     rw [rY];simp only [OAk,mk];rw [TT (by grind [ZL]),IK (by grind [ZL])];rfl)
    (fun m i _ hi _=>.inr ⟨(),by
     have e:AV ((i:Int)+1)=((i+1:Nat):Int):=by grind [A8]
     have h9:(⟨#[109]⟩:AA).size=1:=rfl;rw [rY];simp only [OAk,mk,e];rw [IK (by grind [ZL]),V8 (by omega),AP,IK (by grind [Dj]),AxQ (by omega) (by omega),AP,IK (by grind [Dj])];rw [GBM hk (by grind [Dj]),AP,IBM k h.1 h.2 i (by omega),pW,Oa (TAr _ _),IK (by rfl),IK (by grind [ZL,DBM])];rfl,trivial,rfl⟩)
   exact key AY 0 () (DJ _) (FM (by omega)) trivial
theorem LBM {a b:AA} (ha:a.size<=140737488351232) (h:a.size<=b.size):TAW a b=some (ofBytes (AyY (bs a) (bs b))):=by
 have hl:=bs_len a;have hl2:=bs_len b
 have key:=PV (A:=Unit) (n:=(bs a).length) (Lp:=rZ) (st:=fun i _=>.c0 b (i:Int) (List.zipWith xb ((bs a).take i) ((bs b).take i)++(bs a).drop i)) (Inv:=fun _ _=>True) (out:=fun _ _=>some (ofBytes (AyY (bs a) (bs b))))
  (fun m _ _=>by
   grind [rZ,PAk,AyY,RBB])
  (fun m i _ hi _=>.inr ⟨(),by
   have e:AV ((i:Int)+1)=((i+1:Nat):Int):=by grind [A8]
   have hlen:(List.zipWith xb ((bs a).take i) ((bs b).take i)++(bs a).drop i).length=(bs a).length:=by grind
   grind [rZ,PAk,BR,QBB,V4,JBM],trivial,rfl⟩)
 rw [TAW,UAx,mk,IK (by grind),pW];exact key AY 0 () (DJ _) (FM (by omega)) trivial
theorem MBM {k s:AA} {num:Int} (hk:k.size<=900000000) (hn:0<=num/\num<=1000000000) (hs:s.size<=800000000):UAW k num s=some (ofBytes (Ql (bs k) num (bs s))):=by have hv:=KX (n:=num) (by omega);have h9:(⟨#[116]⟩:AA).size=1:=rfl;have e:bs (⟨#[116]⟩:AA)=[116]:=rfl;have h16:(16:Int).toNat=16:=rfl;rw [UAW,VAx,mk,V8 (by omega),AP,IK (by grind [Dj]),IK (by grind [Dj])];rw [GBM hk (by grind [Dj]),AP,IK (by rfl)];refine congrArg some (KW ?_);rw [Awj,EBM,h16,Oa (Vf _ _ _),Hr,Hr,e,Oa (V6 hn.1),Ql,List.drop_zero,List.append_assoc];rfl
theorem NBM {k s:AA} {num:Int} (hk:k.size<=900000000) (hs:s.size<=800000000):ru k num s=some (Axf k num s):=by
 rw [ru,WAx,mk,KBM hk,AP,Yx,Axf];cases h:MB num s.size;·rfl
 ·have h':=lH.1 h;have hm:=Ub (bs k) (SN num) ((s.size:Int).toNat);have hl:=bs_len s;rw [Ar,Ar,TT (by rfl),LBM (by omega) (by simp_all [Dj]),AP,Oa (yD _ _ _)];have hx:(AyY (bs s) (Qq (bs k) (SN num) (s.size:Int).toNat)).length=s.size:=by simp_all [gI]
  rw [MBM hk h'.1 (by simp_all [Dj]),AP,Oa (XH _ _),IK (by grind [Dj,qc])];refine congrArg (fun x=>some (x,true)) (KW ?_)
  rw [Hr,Oa (XH _ _),Oa (Vf _ _ _),Oa (fun x hx=>by
   rcases List.mem_append.1 hx with hx | hx
   ·exact XH _ _ x hx
   ·exact Vf _ _ _ x hx),OG,hl]
  rfl
def fO (s:Int):Int:=if s % 2=1 then xr (s / 2) 3558460437 else s / 2
def fM:Nat->Int->Int
 | 0,s=>s
 | n+1,s=>fM n (fO s)
def pO (s:Int) (l:List Int):Int:=l.foldl (fun s b=>fM 8 (xr s b)) s
theorem UBl {s:Int} (h:R32 s):R32 (fO s):=by grind [fO,pK,R32]
theorem OBM:∀ (n:Nat) {s:Int},R32 s->R32 (fM n s)
 | 0,_,h=>h
 | n+1,_,h=>OBM n (UBl h)
theorem PBM:∀ (l:List Int) {s:Int},R32 s->R32 (pO s l)
 | [],_,h=>h
 | b::l,s,_=>PBM l (OBM 8 (pK s b))
def V5 (l:List Int):Int:=pO 4294967295 l
theorem ZH (l:List Int):R32 (V5 l):=PBM l (by unfold R32;omega)
theorem VBl (t:AA) (i:Nat) (hi:i<t.size) (ht:t.size<=140737488351232):∀ (j k m:Nat) (s:Int),k+j=8->R32 s->WH (m+j+1) (.c1 s t (i:Int) (k:Int))=WH m (.c0 (fM j s) t ((i+1:Nat):Int)):=by
 intro j;induction j with
 | zero=>
  intro k m s hk hs;have e:AV ((i:Int)+1)=((i+1:Nat):Int):=by grind [A8]
  rw [WH];simp only [sD,mk,e];rw [TT (by simp_all)];rfl
 | succ j ih=>
  intro k m s hk hs;have e:AV ((k:Int)+1)=((k+1:Nat):Int):=by grind [A8]
  have h2:w32 (s.tdiv 2)=s / 2:=by
   obtain ⟨h1,h2⟩:=hs
   grind [Ry]
  have h3:s.tmod 2=s % 2:=Int.tmod_eq_emod_of_nonneg hs.1;rw [show m+(j+1)+1=(m+j+1)+1 by omega,WH];simp only [sD,mk,e,h2,h3,Ui];rw [IK (by grind),fM];by_cases h:s % 2=1;·rw [IK (by simp [h]),ih (k+1) m _ (by omega) (pK _ _),fO,if_pos h]
  ·rw [TT (by simp [h]),ih (k+1) m _ (by omega) (by grind [R32]),fO,if_neg h]
theorem WBl {t:AA} {s:Int} (ht:t.size<=140737488351232):QAk s t=some (pO s (bs t)):=by
 have hl:=bs_len t;have key:∀ (j i m:Nat) (s:Int),i+j=t.size->WH (m+10*j+1) (.c0 s t (i:Int))=some (pO s ((bs t).drop i)):=by
  intro j;induction j with
  | zero=>
   intro i m s h;rw [WH];simp only [sD,mk];rw [TT (by simp_all),List.drop_of_length_le (by omega)];rfl
  | succ j ih=>
   intro i m s h;have hb:=OC (AxC t) i;rw [show m+10*(j+1)+1=(m+10*j+1)+8+1+1 by omega,WH];simp only [sD,mk,Ui];rw [IK (by grind),IK (by grind),V4 (by omega),Ry (by omega) (by omega)];have h1:=VBl t i (by omega) ht 8 0 (m+10*j+1) (xr s ((bs t).getD i 0)) (by omega) (pK _ _);rw [show ((0:Nat):Int)=0 from rfl] at h1;rw [h1,ih (i+1) m _ (by omega),drop_at (by omega:i<(bs t).length),getD_at (by omega)];rfl
 obtain ⟨m,hm⟩:∃ m,AY=m+10*t.size+1:=⟨AY - (10*t.size+1),by have:=FM (n:=10*t.size+1) (by omega);omega⟩
 rw [QAk,XAx,hm];have:=key t.size 0 m s (by omega);assumption
theorem XBl {t:AA} (ht:t.size<=140737488351232):RAk t=some (V5 (bs t)):=by rw [RAk,YAx,WBl ht];rfl
theorem YBl {x:Int} (h:R32 x):SAk x=some (ofBytes (four x)):=by
 obtain ⟨h1,h2⟩:=h
 have e1:Int.fdiv x (2 ^ (Min.min (24:Int).toNat (IntKind.bits IntKind.u32)))=x / 16777216:=Int.fdiv_eq_ediv_of_nonneg _ (by decide);have e2:Int.fdiv x (2 ^ (Min.min (16:Int).toNat (IntKind.bits IntKind.u32)))=x / 65536:=Int.fdiv_eq_ediv_of_nonneg _ (by decide);have e3:Int.fdiv x (2 ^ (Min.min (8:Int).toNat (IntKind.bits IntKind.u32)))=x / 256:=Int.fdiv_eq_ediv_of_nonneg _ (by decide);simp only [SAk,ZAx,mk,e1,e2,e3,bJ,four];grind
def Hq (l:List Int):List Int:=SN (l.length:Int)++(four (V5 l)++l)
def frameT (t:AA):AA×Bool:=bif AyM (t.size:Int) 1 9000 then (ofBytes (Hq (bs t)),true) else (⟨#[]⟩,false)
theorem zJ {l:List Int} (h:Hw l):Hw (Hq l):=by
 intro x hx;rcases List.mem_append.1 hx with hx | hx
 ·exact V6 (by omega) x hx
 ·rcases List.mem_append.1 hx with hx | hx
  ·exact Xa (ZH l) x hx
  ·exact h x hx
theorem QBM (t:AA):(ofBytes (SN (t.size:Int))++ofBytes (four (V5 (bs t))))++t=ofBytes (Hq (bs t)):=by apply KW;rw [Hr,Hr,Oa (V6 (by omega)),Oa (Xa (ZH _)),Oa (zJ (AxC t)),Hq,bs_len,List.append_assoc]
theorem RBM {t:AA} (h:t.size<=140737488351232):(frameT t).1.size<=t.size+14:=by
 rw [frameT];cases AyM (t.size:Int) 1 9000;·exact DJ _
 grind [Dj,Hq,bs_len,four,KX]
theorem SBB {t:AA} (h:t.size<=140737488351232):Ze t=some (frameT t):=by
 rw [Ze,ART,mk,Ih,AP,frameT];cases h1:AyM (t.size:Int) 1 9000;·rfl
 ·rw [Na] at h1;have:=KX (n:=(t.size:Int)) (by omega);rw [TT (by rfl),V8 (by omega),AP,XBl h,AP,YBl (ZH _),AP,IK (by grind [Dj,four])];rw [IK (by grind [Dj,four]),QBM,Ar]
def Ht:AA:=⟨#[98,111,111,107]⟩
def AzW (k:AA) (count:Int) (r:Ah):List Ef×Bool:=
 bif (Ax8 r).2 && AyM count 0 10000 then ([⟨1,Ht,(frameT (Axf k (count+1) (Ax8 r).1).1).1,⟨#[]⟩⟩,⟨2,Ht,⟨#[]⟩,⟨#[]⟩⟩],true) else ([],false)
theorem WAg {k s:AA} {num:Int} (h:0<=num/\num<=1000000000) (hs:s.size<=8000):(Axf k num s).2=true/\(Axf k num s).1=ofBytes (OG (bs k) num (bs s))/\(Axf k num s).1.size=s.size+16:=by grind [lH,Axf,Dj,OG,gI,Ub,qc,bs_len]
theorem TBB {t:AA} (h:1<=t.size/\t.size<=9000):(frameT t).2=true/\(frameT t).1=ofBytes (Hq (bs t)):=by grind [Na,frameT]
theorem UBB {k:AA} {count:Int} {r:Ah} (hk:k.size<=900000000):sF k count r=some (AzW k count r):=by
 have hz:=Xi r;rw [sF,CAy,mk,iC,AP,AzW];cases h1:(Ax8 r).2;·rfl
 rw [TT (by rfl),Ih,AP,Bool.true_and];cases h2:AyM count 0 10000;·rfl
 rw [Na] at h2;obtain ⟨l1,l2,l3⟩:=WAg (k:=k) (s:=(Ax8 r).1) (num:=count+1) (by omega) (by omega)
 rw [TT (by rfl),A8 (by omega) (by omega),NBM hk (by omega),AP,SBB (by omega)];rfl
theorem SBM (s:AA):sG s=some (AyM (s.size:Int) 1 8):=by simp [sG,DAy,mk,Ih]
def OB (f:BQ):Bool:=AyM (f.fName.size:Int) 1 8 && (!decide ((f.fText.size:Int) > 20000) && AyM f.J3 0 (f.fText.size:Int))
def MO:AA->List BQ->Bool
 | _,[]=>true
 | p,f::fs=>OB f && (Op.bytesLess p.toList f.fName.toList && MO f.fName fs)
def XZ (l:List BQ):Nat->AA
 | 0=>⟨#[]⟩
 | i+1=>((l[i]?).map (·.fName)).getD ⟨#[]⟩
theorem VBB {l:List BQ} {i:Nat} (hi:i<l.length):XZ l (i+1)=l[i].fName:=by simp [XZ,hi]
theorem TBM {l:List BQ} {i:Nat} (hi:i<l.length):MO (XZ l i) (l.drop i)=(OB l[i] && (Op.bytesLess (XZ l i).toList l[i].fName.toList && MO (XZ l (i+1)) (l.drop (i+1)))):=by grind [drop_at,MO,VBB]
def Gq (d:BU):Bool:=decide ((d.Ak.length:Int)<=30) && MO ⟨#[]⟩ d.Ak
theorem zq {s:AA} (h:1<=s.size):Op.bytesLess (⟨#[]⟩:AA).toList s.toList=true:=by
 rw [ByteArray.toList_eq,ByteArray.toList_eq];obtain ⟨⟨l⟩⟩:=s
 cases l with
 | nil=>exact absurd h (Nat.not_succ_le_zero 0)
 | cons x l=>rfl
def Gp:List BQ->AA->Nat->Option Nat
 | [],_,_=>none
 | f::fs,n,i=>if f.fName.toList == n.toList then some i else Gp fs n (i+1)
theorem eU {n:AA}:∀ {fs:List BQ} {i j:Nat},Gp fs n i=some j->i<=j/\j<i+fs.length:=by intro fs;induction fs<;>grind [Gp]
def Aya (d:BU) (n:AA):Int:=match Gp d.Ak n 0 with | some j=>(j:Int) | none=> -1
def ql:BQ:=⟨⟨#[]⟩,⟨#[]⟩,0⟩
def Awy (d:BU) (n:AA):AA×Bool:=match Gp d.Ak n 0 with | some j=>((d.Ak.getD j ql).fText,true) | none=>(⟨#[]⟩,false)
theorem UAr (d:BU):Xr d=some (Gq d):=by
 rw [Xr,EAy,mk,Gq];by_cases h0:(d.Ak.length:Int)<=30
 ·rw [TT (by simp_all),Ba h0,Bool.true_and];have key:∀ (j i m:Nat),i+j=d.Ak.length->sH (m+j+1) (.c0 (i:Int) d)=some (MO (XZ d.Ak i) (d.Ak.drop i)):=by
   intro j;induction j with
   | zero=>
    intro i m h;obtain rfl:i=d.Ak.length:=by omega
    rw [sH];simp only [TAk,mk];rw [TT (by simp),List.drop_length];rfl
   | succ j ih=>
    intro i m h;have hi:i<d.Ak.length:=by omega
    have e:AV ((i:Int)+1)=((i+1:Nat):Int):=by grind [A8]
    have h2:=ih (i+1) m (by omega);rw [show m+(j+1)+1=(m+j+1)+1 by omega,sH];simp only [TAk,mk,e,BR,getD_at hi,SBM,Ih,AP];rw [IK (by simp_all),IK (by simp_all),TBM hi,OB,h2];cases hn:AyM (d.Ak[i].fName.size:Int) 1 8;·rfl
    cases decide ((d.Ak[i].fText.size:Int) > 20000)
    ·cases AyM d.Ak[i].J3 0 (d.Ak[i].fText.size:Int);·rfl
     ·by_cases hz:i=0;·grind [Na,XZ,zq]
      ·obtain ⟨i',rfl⟩:∃ q,i=q+1:=⟨i - 1,by omega⟩
       grind [A8,VBB]
    ·rfl
  obtain ⟨m,hm⟩:=gm (n:=d.Ak.length) (by omega)
  rw [hm];exact key d.Ak.length 0 m (by omega)
 simp_all [D6]
theorem WBB {d:BU} {n:AA} (h0:d.Ak.length<=140737488351232):sJ d n=some (Aya d n):=by
 have key:∀ (j i m:Nat),i+j=d.Ak.length->sK (m+j+1) (.c0 n (i:Int) d)=some (match Gp (d.Ak.drop i) n i with | some j=>(j:Int) | none=> -1):=by
  intro j;induction j with
  | zero=>
   intro i m h;obtain rfl:i=d.Ak.length:=by omega
   rw [sK];simp only [VAk,mk];rw [TT (by simp),List.drop_length];rfl
  | succ j ih=>
   intro i m h;have hi:i<d.Ak.length:=by omega
   have e:AV ((i:Int)+1)=((i+1:Nat):Int):=by grind [A8]
   grind [sK,VAk,BR,drop_at,Gp]
 obtain ⟨m,hm⟩:=gm (n:=d.Ak.length) (by omega)
 rw [sJ,FAy,hm,Aya];exact key d.Ak.length 0 m (by omega)
theorem YAg:∀ l:List UInt8,Op.bytesLess l l=false:=by intro l;induction l<;>simp_all [Op.bytesLess]
theorem XBB:∀ {a b c:List UInt8},Op.bytesLess a b=true->Op.bytesLess b c=true->Op.bytesLess a c=true:=by
 intro a;induction a with
 | nil=>
  intro b c h1 h2;cases c with
  | nil=>cases b <;> simp [Op.bytesLess] at h2
  | cons=>rfl
 | cons x a ih=>
  intro b c h1 h2;cases b with
  | nil=>simp [Op.bytesLess] at h1
  | cons y b=>
   cases c with
   | nil=>simp [Op.bytesLess] at h2
   | cons z c=>
    simp only [Op.bytesLess,Bool.or_eq_true,Bool.and_eq_true,decide_eq_true_eq,beq_iff_eq] at h1 h2 ⊢;rcases h1 with h1 | ⟨rfl,h1⟩ <;> rcases h2 with h2 | ⟨rfl,h2⟩
    ·exact .inl (UInt8.lt_trans h1 h2)
    ·exact .inl h1
    ·exact .inl h2
    ·exact .inr ⟨rfl,ih h1 h2⟩
theorem ZBl:∀ {a b:List UInt8},Op.bytesLess a b=false->a≠b->Op.bytesLess b a=true:=by
 intro a;induction a with
 | nil=>
  intro b h1 h2;cases b with
  | nil=>exact absurd rfl h2
  | cons=>simp [Op.bytesLess] at h1
 | cons x a ih=>
  intro b h1 h2;cases b with
  | nil=>rfl
  | cons y b=>
   simp only [Op.bytesLess,Bool.or_eq_false_iff,decide_eq_false_iff_not,Bool.and_eq_false_iff,beq_eq_false_iff_ne] at h1;simp only [Op.bytesLess,Bool.or_eq_true,Bool.and_eq_true,decide_eq_true_eq,beq_iff_eq];obtain ⟨h3,h4⟩:=h1
   by_cases he:x=y;·subst he;refine .inr ⟨rfl,ih (h4.resolve_left (fun h=>h rfl)) (fun h=>h2 (by rw [h]))⟩
   ·refine .inl (UInt8.lt_of_le_of_ne (UInt8.not_lt.1 h3) (Ne.symm he))
theorem YBB {a b:List UInt8} (h:Op.bytesLess a b=true):Op.bytesLess b a=false:=by
 cases h2:Op.bytesLess b a;·rfl
 ·have:=XBB h h2;rw [YAg] at this;cases this
theorem ZBB {a b:List UInt8} (h:Op.bytesLess a b=true):a≠b:=by rintro rfl;rw [YAg] at h;cases h
def Ve (l:List BQ) (n:AA):List BQ:=l.filter fun f=> !(f.fName.toList == n.toList)
def OI (l:List BQ) (n:AA):List BQ:=l.filter fun f=>Op.bytesLess f.fName.toList n.toList
def Ayw (l:List BQ) (n:AA):List BQ:=l.filter fun f=> !(Op.bytesLess f.fName.toList n.toList || (f.fName.toList == n.toList))
def Gs (l:List BQ) (f:BQ):List BQ:=OI l f.fName++[f]++Ayw l f.fName
def Zf:List BQ->AA->List BQ
 | [],_=>[]
 | g::gs,n=>bif g.fName.toList == n.toList then gs else g::Zf gs n
def Xk:List BQ->BQ->List BQ
 | [],f=>[f]
 | g::gs,f=>bif Op.bytesLess g.fName.toList f.fName.toList then g::Xk gs f else f::g::gs
def Sorted (l:List BQ):Prop:=l.Pairwise fun a b=>Op.bytesLess a.fName.toList b.fName.toList=true
theorem Akl:∀ {l:List BQ} {p:AA},MO p l=true->Sorted l/\∀ f ∈ l,Op.bytesLess p.toList f.fName.toList=true:=by
 intro l;induction l with
 | nil=>intro p _;exact ⟨List.Pairwise.nil,fun f hf=>by cases hf⟩
 | cons g gs ih=>
  intro p h;rw [MO,Bool.and_eq_true,Bool.and_eq_true] at h;obtain ⟨h1,h2⟩:=ih h.2.2
  refine ⟨List.Pairwise.cons h2 h1,fun f hf=>?_⟩;rcases List.mem_cons.1 hf with rfl | hf
  ·exact h.2.1
  ·exact XBB h.2.1 (h2 f hf)
theorem BBm {d:BU} (h:Gq d=true):Sorted d.Ak:=by rw [Gq,Bool.and_eq_true] at h;exact (Akl h.2).1
theorem BBC {l:List BQ} {n:AA} (h:∀ f ∈ l,Op.bytesLess n.toList f.fName.toList=true):Ve l n=l/\OI l n=[]/\Ayw l n=l:=by
 refine ⟨List.filter_eq_self.2 fun f hf=>?_,List.filter_eq_nil_iff.2 fun f hf=>?_,List.filter_eq_self.2 fun f hf=>?_⟩;·rw [show (f.fName.toList == n.toList)=false from beq_eq_false_iff_ne.2 (Ne.symm (ZBB (h f hf)))];rfl
 ·rw [YBB (h f hf)];exact Bool.false_ne_true
 ·rw [YBB (h f hf),show (f.fName.toList == n.toList)=false from beq_eq_false_iff_ne.2 (Ne.symm (ZBB (h f hf)))];rfl
theorem CBm:∀ {l:List BQ} {n:AA},Sorted l->Zf l n=Ve l n:=by
 intro l;induction l with
 | nil=>intro n _;rfl
 | cons g gs ih=>
  intro n h;obtain ⟨h1,h2⟩:=List.pairwise_cons.1 h
  rw [Zf,Ve,List.filter_cons];cases he:g.fName.toList == n.toList;·rw [Aq,Bool.not_false,if_pos rfl,ih h2,Ve]
  ·rw [Ar,DN,if_neg Bool.false_ne_true];rw [beq_iff_eq] at he;exact (BBC (n:=n) (fun f hf=>by have:=h1 f hf;rwa [he] at this)).1.symm
theorem DBm:∀ {l:List BQ} {n:AA} {i:Nat},match Gp l n i with | some j=>l.take (j - i)++l.drop (j - i+1)=Zf l n | none=>Zf l n=l:=by
 intro l;induction l with
 | nil=>intro n i;rfl
 | cons g gs ih=>
  intro n i;rw [Gp,Zf];cases he:g.fName.toList == n.toList
  ·rw [if_neg Bool.false_ne_true,Aq];have:=ih (n:=n) (i:=i+1);cases hp:Gp gs n (i+1) with
   | none=>rw [hp] at this;show g::Zf gs n=g::gs;rw [this]
   | some j=>
    rw [hp] at this;have hj:=(eU hp).1;show (g::gs).take (j - i)++(g::gs).drop (j - i+1)=g::Zf gs n;rw [<-this,show j - i=(j - (i+1))+1 by omega,List.take_succ_cons,List.drop_succ_cons];rfl
  ·rw [if_pos rfl,Ar];show (g::gs).take (i - i)++(g::gs).drop (i - i+1)=gs;rw [Nat.sub_self];rfl
theorem EBm {f:BQ}:∀ {l:List BQ},Sorted l->Xk (Ve l f.fName) f=Gs l f:=by
 intro l;induction l with
 | nil=>intro _;rfl
 | cons g gs ih=>
  intro h;obtain ⟨h1,h2⟩:=List.pairwise_cons.1 h
  cases hl:Op.bytesLess g.fName.toList f.fName.toList
  ·have hins:Xk gs f=f::gs\/True:=.inr trivial;by_cases he:g.fName.toList=f.fName.toList
   ·have ho:=BBC (l:=gs) (n:=f.fName) (fun x hx=>by have:=h1 x hx;rwa [he] at this);have hb:(g.fName.toList == f.fName.toList)=true:=beq_iff_eq.2 he;have e1:Ve (g::gs) f.fName=gs:=by rw [Ve,List.filter_cons,hb];exact ho.1
    have e2:OI (g::gs) f.fName=[]:=by rw [OI,List.filter_cons,hl];exact ho.2.1
    have e3:Ayw (g::gs) f.fName=gs:=by rw [Ayw,List.filter_cons,hl,hb];exact ho.2.2
    rw [e1,Gs,e2,e3];cases gs with
    | nil=>rfl
    | cons x xs=>
     have hx:=h1 x (List.mem_cons_self ..);rw [he] at hx;rw [Xk,YBB hx];rfl
   ·have hg:=ZBl hl he
    have ho:=BBC (l:=g::gs) (n:=f.fName) (fun x hx=>by
     rcases List.mem_cons.1 hx with rfl | hx
     ·exact hg
     ·exact XBB hg (h1 x hx))
    rw [ho.1,Gs,ho.2.1,ho.2.2,Xk,hl];rfl
  ·have hb:(g.fName.toList == f.fName.toList)=false:=beq_eq_false_iff_ne.2 (ZBB hl);have e1:Ve (g::gs) f.fName=g::Ve gs f.fName:=by rw [Ve,List.filter_cons,hb];rfl
   have e2:OI (g::gs) f.fName=g::OI gs f.fName:=by rw [OI,List.filter_cons,hl];rfl
   have e3:Ayw (g::gs) f.fName=Ayw gs f.fName:=by rw [Ayw,List.filter_cons,hl];rfl
   rw [e1,Xk,hl,Ar,ih h2,Gs,Gs,e2,e3];rfl
theorem VAr {α:Type} {l:List α} {p:α->Bool} {i:Nat} (hi:i<l.length):(l.drop i).filter p=(bif p l[i] then [l[i]] else [])++(l.drop (i+1)).filter p:=by grind [drop_at]
theorem UBM (n:AA):∀ l:List BQ,(OI l n).length+(Ayw l n).length<=l.length:=by intro l;induction l<;>grind [OI,Ayw]
theorem VBM {d:BU} {f:BQ} (h:d.Ak.length*40<=140737488351232):WAk d f=some ⟨Gs d.Ak f⟩:=by
 have k1:∀ (j i m:Nat) (out:List BQ),i+j=d.Ak.length->out.length+(Ayw (d.Ak.drop i) f.fName).length<=d.Ak.length+1->WI (m+j+1) (.c1 (i:Int) d f [] out)=some ⟨out++Ayw (d.Ak.drop i) f.fName⟩:=by
  intro j;induction j with
  | zero=>
   simp_all [WI,sN,mk,Ayw]
  | succ j ih=>
   intro i m out hi ho;have hil:i<d.Ak.length:=by omega
   have hw:AV ((i:Int)+1)=((i+1:Nat):Int):=by grind [A8]
   rw [Ayw,VAr hil,List.length_append] at ho;rw [AwB m j,WI];simp only [sN,mk,show decide ((i:Int)<(d.Ak.length:Int))=true from Ba (by omega),show decide ((0:Int)<=(i:Int))=true from Ba (by omega),Bool.and_self,Ar,BR,hw,getD_at hil];rw [Ayw,VAr hil];cases hp : !(Op.bytesLess d.Ak[i].fName.toList f.fName.toList || (d.Ak[i].fName.toList == f.fName.toList));·rw [hp] at ho;rw [Aq,Aq,ih (i+1) m _ (by omega) (by simp_all [Ayw])];rfl
   ·rw [hp,Ar] at ho;have ho':out.length+(1+(Ayw (d.Ak.drop (i+1)) f.fName).length)<=d.Ak.length+1:=ho;rw [Ar,IK (Ba (by omega)),ih (i+1) m _ (by omega) (by grind),Ar,List.append_assoc];rfl
 have k0:∀ (j i m:Nat) (out:List BQ),i+j=d.Ak.length->out.length<=i->WI (m+d.Ak.length+1+j+1) (.c0 (i:Int) d f [] out)=WI (m+d.Ak.length+1) (.c1 0 d f [] (out++OI (d.Ak.drop i) f.fName++[f])):=by
  intro j;induction j with
  | zero=>
   intro i m out hi ho;rw [WI];grind [sN,OI]
  | succ j ih=>
   intro i m out hi ho;have hil:i<d.Ak.length:=by omega
   have hw:AV ((i:Int)+1)=((i+1:Nat):Int):=by grind [A8]
   rw [show m+d.Ak.length+1+(j+1)+1=(m+d.Ak.length+1+j+1)+1 from rfl,WI];simp only [sN,mk,show decide ((i:Int)<(d.Ak.length:Int))=true from Ba (by omega),show decide ((0:Int)<=(i:Int))=true from Ba (by omega),Bool.and_self,Ar,BR,hw,getD_at hil];rw [OI,VAr hil];cases Op.bytesLess d.Ak[i].fName.toList f.fName.toList;·rw [Aq,Aq,ih (i+1) m _ (by omega) (by omega)];rfl
   ·rw [Ar,IK (Ba (by omega)),ih (i+1) m _ (by omega) (by simp_all),Ar];simp [OI]
 obtain ⟨m,hm⟩:∃ m,AY=m+d.Ak.length+1+d.Ak.length+1:=⟨AY - (d.Ak.length+1+d.Ak.length+1),by have:=FM (n:=2*d.Ak.length+2) (by omega);omega⟩
 have hlh:=UBM f.fName d.Ak;rw [WAk,HAy,hm];refine (k0 d.Ak.length 0 m [] (Nat.zero_add _) (Nat.le_refl _)).trans ((k1 d.Ak.length 0 m _ (Nat.zero_add _) (by grind)).trans ?_);rfl
theorem FBm {d:BU} {n:AA} (h:d.Ak.length*40<=140737488351232):YAk d n=some ⟨Ve d.Ak n⟩:=by
 have key:∀ (j i m:Nat) (out:List BQ),i+j=d.Ak.length->out.length<=i->sQ (m+j+1) (.c0 n (i:Int) d [] out)=some ⟨out++Ve (d.Ak.drop i) n⟩:=by
  intro j;induction j with
  | zero=>
   simp_all [sQ,XAk,mk,Ve]
  | succ j ih=>
   intro i m out hi ho;have hil:i<d.Ak.length:=by omega
   have hw:AV ((i:Int)+1)=((i+1:Nat):Int):=by grind [A8]
   have d1:decide ((i:Int)<(d.Ak.length:Int))=true:=Ba (by omega);have d0:decide ((0:Int)<=(i:Int))=true:=Ba (by omega);have d2:decide ((out.length+1)*40<=140737488355328)=true:=Ba (by omega);rw [AwB m j,sQ];simp only [XAk,mk,d0,d1,d2,Bool.and_self,Ar,BR,hw,getD_at hil];rw [ih (i+1) m _ (by omega) (by simp_all),ih (i+1) m _ (by omega) (by omega),Ve,Ve,VAr hil];grind
 obtain ⟨m,hm⟩:=gm (n:=d.Ak.length) (by omega)
 rw [YAk,IAy,hm];exact key d.Ak.length 0 m [] (Nat.zero_add _) (Nat.le_refl _)
def doneD (l:List BQ):BU×Bool:=bif Gq ⟨l⟩ then (⟨l⟩,true) else (⟨[]⟩,false)
def ZU (d:BU) (a:Ef) (f:BQ):BU×Bool:=
 bif a.Aj == 1 then doneD (Gs d.Ak ⟨f.fName,f.fText++a.fText,f.J3⟩)
 else bif a.Aj == 2 then doneD (Gs d.Ak ⟨f.fName,f.fText,(f.fText.size:Int)⟩)
 else bif a.Aj == 3 then (bif decide (f.J3<(f.fText.size:Int)) || (a.I8.toList == a.fName.toList) then (⟨[]⟩,false) else doneD (Gs (Ve d.Ak a.fName) ⟨a.I8,f.fText,f.J3⟩))
 else bif a.Aj == 4 then doneD (Ve d.Ak a.fName) else (⟨[]⟩,false)
def Ave (d:BU) (a:Ef):BU×Bool:=
 bif Gq d && ((a.Aj == 3 || a.I8.toList == (⟨#[]⟩:AA).toList) && (a.Aj == 1 || a.fText.toList == (⟨#[]⟩:AA).toList)) then
  match Gp d.Ak a.fName 0 with
  | some j=>ZU d a (d.Ak.getD j ql)
  | none=>bif a.Aj == 1 then doneD (Gs d.Ak ⟨a.fName,(⟨#[]⟩:AA)++a.fText,0⟩) else (⟨[]⟩,false)
 else (⟨[]⟩,false)
theorem GBm:∀ {l:List BQ} {p:AA},MO p l=true->∀ f ∈ l,OB f=true:=by intro l;induction l<;>grind [MO]
theorem qj {d:BU} (h:Gq d=true):d.Ak.length<=30/\∀ f ∈ d.Ak,OB f=true:=by grind [Gq,GBm]
theorem ZAg {f:BQ}:OB f=true↔(1<=(f.fName.size:Int)/\(f.fName.size:Int)<=8)/\(f.fText.size:Int)<=20000/\0<=f.J3/\f.J3<=(f.fText.size:Int):=by simp [OB,Na]
theorem WBM {l:List BQ} {f:BQ} (hf:f ∈ l) (h:OB f=false):doneD l=(⟨[]⟩,false):=by
 rw [doneD];cases hd:Gq ⟨l⟩;·rfl
 ·rw [(qj hd).2 f hf] at h;cases h
theorem XBM (l:List BQ) (f:BQ):f ∈ Gs l f:=by rw [Gs];simp
theorem YBM {f:BQ} (h:AyM (f.fName.size:Int) 1 8=false):OB f=false:=by rw [OB,h];rfl
theorem ZBM (l:List BQ) (n:AA):(Ve l n).length<=l.length:=List.length_filter_le _ _
theorem HBm {l:List BQ} {n:AA} (h:Sorted l):Sorted (Ve l n):=List.Pairwise.filter _ h
theorem IBm {n:AA}:∀ {fs:List BQ} {i j:Nat},Gp fs n i=some j->(fs.getD (j - i) ql).fName.toList=n.toList:=by
 intro fs;induction fs with
 | nil=>intro i j h;cases h
 | cons f fs ih=>
  intro i j h;rw [Gp] at h;split at h;·simp_all
  ·have h1:=ih h;have h2:=(eU h).1;grind
theorem CBC {d:BU} {n:AA} {j:Nat} (h:Gq d=true) (hp:Gp d.Ak n 0=some j):j<d.Ak.length/\OB (d.Ak.getD j ql)=true/\AyM (n.size:Int) 1 8=true/\(d.Ak.getD j ql).fName=n:=by have h1:=(eU hp).2;have h2:=IBm hp;grind [OB,qj,toList_inj]
theorem JBm {d:BU} {a:Ef} (hd:d.Ak.length*40<=140737488351232) (ha:a.fText.size<=140737488351232):AA3 d a=some (Ave d a):=by
 have ho:=ZBM d.Ak a.fName;rw [AA3,JAy,mk,Ave];simp only [UAr,SBM,WBB (d:=d) (n:=a.fName) (by omega),FBm (d:=d) (n:=a.fName) hd,fun f=>VBM (d:=d) (f:=f) hd,fun f=>VBM (d:=⟨Ve d.Ak a.fName⟩) (f:=f) (show (Ve d.Ak a.fName).length*40<=_ by omega),AP,bne];cases hdk:Gq d;·rfl
 obtain ⟨hl,hok⟩:=qj hdk
 have fin:∀ l:List BQ,(bif !Gq ⟨l⟩ then some ((⟨[]⟩:BU),false) else some (⟨l⟩,true))=some (doneD l):=fun l=>by grind [doneD]
 simp only [fin,Bool.true_and];cases hn:AyM (a.fName.size:Int) 1 8;·grind [CBC,WBM,XBM,YBM]
 have ht:∀ f,OB f=true->f.fText.size+a.fText.size<=9223372036854775807:=fun f hf=>by grind [ZAg]
 have hto:AyM (a.I8.size:Int) 1 8=false->∀ f:BQ,doneD (Gs (Ve d.Ak a.fName) ⟨a.I8,f.fText,f.J3⟩)=(⟨[]⟩,false):=fun h f=>WBM (XBM _ _) (YBM h)
 have key:∀ f:BQ,(bif !AyM (a.I8.size:Int) 1 8 then some ((⟨[]⟩:BU),false) else some (doneD (Gs (Ve d.Ak a.fName) ⟨a.I8,f.fText,f.J3⟩)))=some (doneD (Gs (Ve d.Ak a.fName) ⟨a.I8,f.fText,f.J3⟩)):=fun f=>by grind
 simp only [DN,Aq];cases hp:Gp d.Ak a.fName 0 with
 | some j=>
  obtain ⟨hj,hfo,_,_⟩:=CBC hdk hp
  simp only [show Aya d a.fName=(j:Int) by rw [Aya,hp],BR,show decide ((j:Int)>=0)=true from Ba (by omega),show decide ((j:Int)<0)=false from D6 (by omega),show decide ((j:Int)<(d.Ak.length:Int))=true from Ba (by omega),Bool.and_self,Ar,Aq];grind [ZU]
 | none=>
  have hs:decide ((⟨#[]⟩:AA).size+a.fText.size<=9223372036854775807)=true:=Ba (by show 0+a.fText.size<=_;omega);grind [Aya]
def AzA:BU->List Ef->Int->BU×Int
 | d,[],i=>(d,i)
 | d,a::r,i=>bif (Ave d a).2 then AzA (Ave d a).1 r (i+1) else (d,i)
theorem AZs {l:List BQ} (h:(doneD l).2=true):Gq (doneD l).1=true:=by grind [doneD]
theorem KBm {d:BU} {a:Ef} {f:BQ} (h:(ZU d a f).2=true):Gq (ZU d a f).1=true:=by grind [ZU,AZs]
theorem BBN {d:BU} {a:Ef} (h:(Ave d a).2=true):Gq (Ave d a).1=true:=by grind [Ave,KBm,AZs]
theorem DBC {d:BU} {l:List Ef} (hd:d.Ak.length*40<=140737488351232) (hl:l.length<=140737488351232) (ha:∀ a ∈ l,a.fText.size<=140737488351232):sS d l=some (AzA d l 0):=by
 have key:∀ (j i m:Nat) (out:List BQ),i+j=l.length->out.length*40<=140737488351232->sU (m+j+1) (.c0 l (i:Int) [] out)=some (AzA ⟨out⟩ (l.drop i) (i:Int)):=by
  intro j;induction j with
  | zero=>
   simp_all [sU,ZAk,mk,AzA]
  | succ j ih=>
   intro i m out hi ho;have hil:i<l.length:=by omega
   have hw:AV ((i:Int)+1)=((i+1:Nat):Int):=by grind [A8]
   rw [AwB m j,sU];simp only [ZAk,mk,show decide ((i:Int)<(l.length:Int))=true from Ba (by omega),show decide ((0:Int)<=(i:Int))=true from Ba (by omega),Bool.and_self,Ar,BR,hw,getD_at hil,JBm (d:=⟨out⟩) (a:=l[i]) ho (ha _ (List.getElem_mem hil)),AP];rw [drop_at hil,AzA];cases hr:(Ave ⟨out⟩ l[i]).2;·rfl
   ·have h30:=(qj (BBN hr)).1;rw [DN,Aq,Ar,ih (i+1) m _ (by omega) (by omega)];rfl
 obtain ⟨m,hm⟩:=gm (n:=l.length) (by omega)
 rw [sS,KAy,mk,IK (Ba (by omega)),hm];exact key l.length 0 m _ (Nat.zero_add _) hd
theorem CBN (t:AA):(frameT t).1.size<=9100:=by
 rw [frameT];cases h:AyM (t.size:Int) 1 9000;·exact DJ _
 grind [Na,KX,Dj,Hq,bs_len,four]
def EBC:Ap:=⟨⟨#[]⟩,false,⟨[]⟩,⟨⟨#[]⟩,0,[],0,⟨#[]⟩,0⟩,[],[],0⟩
theorem DBN (k:AA) (c:Int) (r:Ah):(AzW k c r).1.length<=2/\∀ a ∈ (AzW k c r).1,a.fText.size<=140737488351232:=by
 rw [AzW];cases (Ax8 r).2 && AyM c 0 10000;·simp
 ·refine ⟨Nat.le_refl _,fun a h=>?_⟩;rw [Ar] at h;rcases List.mem_cons.1 h with rfl | h
  ·grind [CBN]
  ·rw [List.mem_singleton.1 h];exact DJ _
theorem FBC {k:AA} {d:BU} {c:Int} {r:Ah} (hk:k.size<=900000000) (hd:d.Ak.length*40<=140737488351232):fB k d c r=some (AzA d (AzW k c r).1 0).1:=by
 obtain ⟨h1,h2⟩:=DBN k c r
 rw [fB,MAy,UBB hk,AP,DBC hd (by omega) h2];rfl
theorem WAr {n:Nat} (h:n<=1000000000):ZJ (n:Int)=some (ofBytes (List.replicate n 0)):=by simp only [ZJ,NA3,mk,BR];grind
theorem XAr {x:Int} (h:R32 x):Xt x=some (ofBytes (four x)):=by
 obtain ⟨h1,h2⟩:=h
 have e1:Int.fdiv x (2 ^ (Min.min (24:Int).toNat (IntKind.bits IntKind.u32)))=x / 16777216:=Int.fdiv_eq_ediv_of_nonneg _ (by decide);have e2:Int.fdiv x (2 ^ (Min.min (16:Int).toNat (IntKind.bits IntKind.u32)))=x / 65536:=Int.fdiv_eq_ediv_of_nonneg _ (by decide);have e3:Int.fdiv x (2 ^ (Min.min (8:Int).toNat (IntKind.bits IntKind.u32)))=x / 256:=Int.fdiv_eq_ediv_of_nonneg _ (by decide);simp only [Xt,OA3,mk,e1,e2,e3,bJ,four];grind
theorem LBm {n:Nat} (h:n<1099511627776):LAn (n:Int)=some (ofBytes (AyH (n:Int))):=by
 have e1:Int.fdiv (n:Int) (2 ^ (Min.min (32:Int).toNat (IntKind.bits IntKind.i64)))=(n:Int) / 4294967296:=Int.fdiv_eq_ediv_of_nonneg _ (by decide);simp only [LAn,PA3,mk,e1,XAr (AxB _),AP];rw [IK (by rfl)];congr 1;apply KW
 rw [Hr,Oa (Xa (AxB _)),Oa (Xa (AxB _)),Oa (fun x hx=>by
  simp only [AyH,List.mem_cons,List.not_mem_nil,or_false] at hx;omega)]
 simp only [four,AyH,KAg,List.cons_append,List.nil_append,List.cons.injEq,and_true];omega
theorem MBm {n:Nat} (h:n<=100000000000):MAn (n:Int)=some (ofBytes (Aw4 n)):=by
 have e1:(AV (119 - ((n:Int).tmod 64))).tmod 64=(((119 - n % 64) % 64:Nat):Int):=by grind [A8]
 have e2:AV (8*(n:Int))=((8*n:Nat):Int):=by grind [A8]
 have h0:(⟨#[128]⟩:AA).size=1:=rfl;simp only [MAn,QA3,mk,e1,e2,WAr (n:=(119 - n % 64) % 64) (by omega),LBm (n:=8*n) (by omega),AP];rw [IK (by grind [Dj]),IK (by rw [ByteArray.size_append,Dj,Dj];simp [h0,AyH];omega)];congr 1;apply KW;have hb:Hw (List.replicate ((119 - n % 64) % 64) (0:Int)):=fun x hx=>by grind
 have hb2:Hw (AyH ((8*n:Nat):Int)):=fun x hx=>by simp only [AyH,List.mem_cons,List.not_mem_nil,or_false] at hx;omega
 rw [Hr,Hr,Oa hb,Oa hb2,Oa (HBB n),Aw4];rfl
theorem NBm {x:Int} (h:R32 x) (n:Nat) (hn:0<n) (hn2:n<32) (k:Int) (hk:wu64 (((BitVec.toNat ((BitVec.ofInt (IntKind.bits IntKind.u64) (wu64 k)) &&& (BitVec.ofInt (IntKind.bits IntKind.u64) (31:Int)))):Nat):Int)=((32 - n:Nat):Int))
  (hk2:wu64 (32 - ((32 - n:Nat):Int))=(n:Int)):NAn x k=some (rt (2 ^ n) (2 ^ (32 - n)) x):=by
 have e1:Min.min ((32 - n:Nat):Int).toNat (IntKind.bits IntKind.u32)=32 - n:=by show Min.min ((32 - n:Nat):Int).toNat 32=_;omega
 have e2:Min.min (n:Int).toNat (IntKind.bits IntKind.u32)=n:=by show Min.min (n:Int).toNat 32=_;omega
 have e3:Int.fdiv x (2 ^ n)=x / 2 ^ n:=Int.fdiv_eq_ediv_of_nonneg _ (Int.le_of_lt (Int.pow_pos (by omega)));simp only [NAn,RA3,mk,hk,hk2,e1,e2,e3];grind [XBK,WBj]
theorem WJ {x:Int} (h:R32 x) (n:Nat) (hn:0<n) (hn2:n<32) (hk:wu64 (((BitVec.toNat ((BitVec.ofInt (IntKind.bits IntKind.u64) (wu64 (AV (0 - (n:Int))))) &&& (BitVec.ofInt (IntKind.bits IntKind.u64) (31:Int)))):Nat):Int)=((32 - n:Nat):Int))
  (hk2:wu64 (32 - ((32 - n:Nat):Int))=(n:Int)):AwN x (n:Int)=some (rt (2 ^ n) (2 ^ (32 - n)) x):=by
 simp only [AwN,SA3,mk,NBm h n hn hn2 _ hk hk2,AP]
theorem OBm {x:Int} (h:R32 x):AwN x 2=some (rt 4 1073741824 x):=WJ h 2 (by decide) (by decide) (by decide) (by decide)
theorem PBm {x:Int} (h:R32 x):AwN x 13=some (rt 8192 524288 x):=WJ h 13 (by decide) (by decide) (by decide) (by decide)
theorem QBm {x:Int} (h:R32 x):AwN x 22=some (rt 4194304 1024 x):=WJ h 22 (by decide) (by decide) (by decide) (by decide)
theorem RBm {x:Int} (h:R32 x):AwN x 6=some (rt 64 67108864 x):=WJ h 6 (by decide) (by decide) (by decide) (by decide)
theorem SBm {x:Int} (h:R32 x):AwN x 11=some (rt 2048 2097152 x):=WJ h 11 (by decide) (by decide) (by decide) (by decide)
theorem TBm {x:Int} (h:R32 x):AwN x 25=some (rt 33554432 128 x):=WJ h 25 (by decide) (by decide) (by decide) (by decide)
theorem UBm {x:Int} (h:R32 x):AwN x 7=some (rt 128 33554432 x):=WJ h 7 (by decide) (by decide) (by decide) (by decide)
theorem VBm {x:Int} (h:R32 x):AwN x 18=some (rt 262144 16384 x):=WJ h 18 (by decide) (by decide) (by decide) (by decide)
theorem WBm {x:Int} (h:R32 x):AwN x 17=some (rt 131072 32768 x):=WJ h 17 (by decide) (by decide) (by decide) (by decide)
theorem XBm {x:Int} (h:R32 x):AwN x 19=some (rt 524288 8192 x):=WJ h 19 (by decide) (by decide) (by decide) (by decide)
theorem YBm {a b:Int} (ha:0<=a/\a<16777216) (hb:0<=b/\b<=255):ort (w32 (a*256)) (w32 b)=a*256+b:=by
 obtain ⟨x,rfl⟩:∃ x:Nat,a=(x:Int):=⟨a.toNat,by omega⟩
 obtain ⟨y,rfl⟩:∃ y:Nat,b=(y:Int):=⟨b.toNat,by omega⟩
 rw [Ry (by omega) (by omega),Ry (by omega) (by omega)];have:=YBK (a:=x) (b:=y) (s:=8) (by omega) (by omega) (by omega);assumption
def SE (l:List Int) (i:Nat):Nat->Int
 | 0=>0
 | k+1=>SE l i k*256+l.getD (4*i+k) 0
theorem ZBm (l:List Int) (i:Nat):SE l i 4=wordAt l i:=by grind [SE,wordAt,be4]
theorem Ak6 {l:List Int} (h:Hw l) (i:Nat):∀ k,k<4->0<=SE l i k/\SE l i k<16777216
 | 0,_=>by simp [SE]
 | 1,_=>by have:=OC h (4*i+0);grind [SE]
 | 2,_=>by have:=OC h (4*i+0);have:=OC h (4*i+1);grind [SE]
 | 3,_=>by have:=OC h (4*i+0);have:=OC h (4*i+1);have:=OC h (4*i+2);grind [SE]
theorem BBn {b:AA} (hb:b.size=64) (v:List Int) (i:Nat) (hi:i<16):∀ (j k m:Nat),k+j=4->
  Qv (m+j+1) (.c1 b (i:Int) (i:Int) (k:Int) v (Vh (bs b) i++SE (bs b) i k::List.replicate (63 - i) 0))=Qv m (.c0 b ((i+1:Nat):Int) v (Vh (bs b) (i+1)++List.replicate (63 - i) 0)):=by
 have hby:=AxC b;intro j;induction j with
 | zero=>
  grind [A8,Qv,Zg,ZBm,DBL]
 | succ j ih=>
  intro k m h;have hk:k<4:=by omega
  have hlen:(Vh (bs b) i++SE (bs b) i k::List.replicate (63 - i) 0).length=64:=by grind [gW]
  have e:AV ((k:Int)+1)=((k+1:Nat):Int):=by grind [A8]
  have e4:AV (4*(i:Int))=((4*i:Nat):Int):=by grind [A8]
  have e5:AV (((4*i:Nat):Int)+(k:Int))=((4*i+k:Nat):Int):=by grind [A8]
  have e8:(2:Int) ^ (Min.min (8:Int).toNat (IntKind.bits IntKind.u32))=256:=by decide
  have hg:(Vh (bs b) i++SE (bs b) i k::List.replicate (63 - i) 0).getD i 0=SE (bs b) i k:=by grind
  rw [show m+(j+1)+1=(m+j+1)+1 by omega,Qv];simp only [Zg,mk,e,e4,e5,e8,BR,hlen,hg,XBK];rw [IK (by grind),IK (by rfl),IK (by grind),IK (by simp;omega),IK (by rfl),IK (by grind)];rw [V4 (by omega),YBm (Ak6 hby i k hk) (OC hby _),gU (gW _ i)];exact ih (k+1) m (by omega)
theorem CBn {b:AA} (hb:b.size=64) (v:List Int):∀ (j i m:Nat),i+j=16->Qv (m+6*j+1) (.c0 b (i:Int) v (Vh (bs b) i++List.replicate (64 - i) 0))=Qv m (.c2 16 v (Vh (bs b) 16++List.replicate 48 0)):=by
 intro j;induction j with
 | zero=>
  grind [Qv,Zg]
 | succ j ih=>
  intro i m h;rw [show m+6*(j+1)+1=(m+6*j+1)+4+1+1 by omega,Qv];simp only [Zg,mk];rw [IK (by grind)];have h1:=BBn hb v i (by omega) 4 0 (m+6*j+1) (by omega);rw [show 64 - i=(63 - i)+1 by omega,List.replicate_succ];have h2:=ih (i+1) m (by omega);rw [show 64 - (i+1)=63 - i by omega] at h2;exact h1.trans h2
theorem DBn {w v:List Int} (hw:∀ x ∈ w,R32 x) (hwl:w.length=16) (hv:v.length=64):∀ (j i m:Nat),i+j=48->Qv (m+j+1) (.c2 ((16+i:Nat):Int) v (sched w i++List.replicate (48 - i) 0))=some (sched w 48):=by
 intro j;induction j with
 | zero=>
  intro i m h;obtain rfl:i=48:=by omega
  simp_all [MAg,Qv,Zg,mk]
 | succ j ih=>
  intro i m h;have hl:=MAg hwl i;have hr:=NAr hw i;have hlen:(sched w i++List.replicate (48 - i) 0).length=64:=by grind
  have e2:AV (((16+i:Nat):Int) - 2)=((16+i - 2:Nat):Int):=by grind [A8]
  have e7:AV (((16+i:Nat):Int) - 7)=((16+i - 7:Nat):Int):=by grind [A8]
  have e15:AV (((16+i:Nat):Int) - 15)=((16+i - 15:Nat):Int):=by grind [A8]
  have e16:AV (((16+i:Nat):Int) - 16)=((16+i - 16:Nat):Int):=by grind [A8]
  have e1:AV (((16+i:Nat):Int)+1)=((16+(i+1):Nat):Int):=by grind [A8]
  have g2:(sched w i++List.replicate (48 - i) 0).getD (16+i - 2) 0=(sched w i).getD (16+i - 2) 0:=LAr (by omega) 0;have g7:(sched w i++List.replicate (48 - i) 0).getD (16+i - 7) 0=(sched w i).getD (16+i - 7) 0:=LAr (by omega) 0;have g15:(sched w i++List.replicate (48 - i) 0).getD (16+i - 15) 0=(sched w i).getD (16+i - 15) 0:=LAr (by omega) 0;have g16:(sched w i++List.replicate (48 - i) 0).getD (16+i - 16) 0=(sched w i).getD (16+i - 16) 0:=LAr (by omega) 0;have f10:∀ x:Int,Int.fdiv x (2 ^ (Min.min (10:Int).toNat (IntKind.bits IntKind.u32)))=x / 1024:=fun x=>Int.fdiv_eq_ediv_of_nonneg _ (by decide)
  have f3:∀ x:Int,Int.fdiv x (2 ^ (Min.min (3:Int).toNat (IntKind.bits IntKind.u32)))=x / 8:=fun x=>Int.fdiv_eq_ediv_of_nonneg _ (by decide)
  have B6:=NAg hr (16+i - 15);have r2:=NAg hr (16+i - 2);rw [show m+(j+1)+1=(m+j+1)+1 by omega,Qv];simp only [Zg,mk,e1,e2,e7,e15,e16,BR,hlen,g2,g7,g15,g16,UBm B6,VBm B6,WBm r2,XBm r2,AP,f10,f3,Ui];rw [IK (by grind),IK (by rfl),IK (by grind),IK (by rfl),IK (by grind),IK (by rfl),IK (by grind),IK (by rfl),IK (by grind),IK (by rfl),IK (by grind)];rw [show 48 - i=(48 - (i+1))+1 by omega,List.replicate_succ,gU (by omega)];have h2:=ih (i+1) m (by omega);rw [sched,List.append_assoc] at h2;exact h2
theorem EBn {b:AA} (hb:b.size=64):SAa b=some (sched (Vh (bs b) 16) 48):=by
 obtain ⟨m,hm⟩:∃ m,AY=(m+48+1)+6*16+1:=⟨AY - 146,by rfl⟩
 rw [SAa,TA3,mk,hm];have h0:=CBn hb (List.replicate 64 0) 16 0 (m+48+1) (by omega);have h2:=DBn (w:=Vh (bs b) 16) (v:=List.replicate 64 0) (FBB (AxC b) 16) (gW _ 16) (List.length_replicate ..) 48 0 m (by omega);rw [show Vh (bs b) 0++List.replicate (64 - 0) 0=List.replicate 64 (0:Int) from rfl,show ((0:Nat):Int)=0 from rfl] at h0;grind [sched]
theorem FBn (s r v:List Int) (hs:s.length=8) (hv:v.length=8) (f:Nat->Int) (hf:∀ i,i<8->f i=w32 (r.getD i 0+s.getD i 0)) (hr:r.length=8):∀ (j i m:Nat),i+j=8->Uo (m+j+1) (.c1 (i:Int) s v ((List.range i).map f++r.drop i))=some ((List.range 8).map f):=by
 intro j;induction j with
 | zero=>
  intro i m h;obtain rfl:i=8:=by omega
  simp_all [Uo,UAa,mk]
 | succ j ih=>
  intro i m h;have e:AV ((i:Int)+1)=((i+1:Nat):Int):=by grind [A8]
  have hl:((List.range i).map f++r.drop i).length=8:=by grind
  have hm:((List.range i).map f).length=i:=by simp
  have hg:((List.range i).map f++r.drop i).getD i 0=r.getD i 0:=by grind
  rw [show m+(j+1)+1=(m+j+1)+1 by omega,Uo];simp only [UAa,mk,e,BR,hl,hs,hg];rw [IK (by grind),IK (by rfl),IK (by grind),IK (by rfl),IK (by grind),IK (by rfl),IK (by grind)];rw [drop_at (by omega:i<r.length),gU hm,<-hf i (by omega)];have h2:=ih (i+1) m (by omega);simp_all [List.range_succ]
theorem GBn (s v W:List Int) (hW:∀ x ∈ W,R32 x) (Bx:W.length=64) (r:Reg) (hr:r.ok) (i m:Nat) (hi:i<64) :
  Uo (m+1) (.c0 r.a r.b r.c r.d r.e r.f r.g r.h (i:Int) s v W)=Uo m (.c0 (Uj r (keysL.getD i 0) (W.getD i 0)).a (Uj r (keysL.getD i 0) (W.getD i 0)).b (Uj r (keysL.getD i 0) (W.getD i 0)).c (Uj r (keysL.getD i 0) (W.getD i 0)).d (Uj r (keysL.getD i 0) (W.getD i 0)).e (Uj r (keysL.getD i 0) (W.getD i 0)).f (Uj r (keysL.getD i 0) (W.getD i 0)).g (Uj r (keysL.getD i 0) (W.getD i 0)).h ((i+1:Nat):Int) s v W):=by
 obtain ⟨h1,h2,h3,h4,h5,h6,h7,h8⟩:=hr
 have e:AV ((i:Int)+1)=((i+1:Nat):Int):=by grind [A8]
 rw [Uo];simp only [UAa,mk,e,BR,Bx,RBm h5,SBm h5,TBm h5,OBm h1,PBm h1,QBm h1,AP,Ui,EBB,UBj h5];rw [IK (by grind),IK (by grind),IK (by simp_all),IK (by rfl),IK (by grind)];rfl
theorem HBn (s v W:List Int) (hW:∀ x ∈ W,R32 x) (Bx:W.length=64) (r:Reg) (hr:r.ok):∀ (j i m:Nat),i+j=64->
  Uo (m+j+1) (.c0 (MP keysL W r i).a (MP keysL W r i).b (MP keysL W r i).c (MP keysL W r i).d (MP keysL W r i).e (MP keysL W r i).f (MP keysL W r i).g (MP keysL W r i).h (i:Int) s v W)=Uo m (.c1 0 s v (MP keysL W r 64).l):=by
 intro j;induction j with
 | zero=>
  intro i m h;obtain rfl:i=64:=by omega
  rfl
 | succ j ih=>
  intro i m h;rw [show m+(j+1)+1=(m+j+1)+1 by omega,GBn s v W hW Bx _ (CBL keysL W hr i) i _ (by omega)];exact ih (i+1) m (by omega)
theorem IBn {s:Reg} (hs:s.ok) {b:AA} (hb:b.size=64):VAa s.l b=some (comp s (bs b)).l:=by
 obtain ⟨m,hm⟩:∃ m,AY=(m+8+1)+64+1:=⟨AY - 74,by rfl⟩
 have hr:=NAr (FBB (AxC b) 16) 48;have hl:=MAg (gW (bs b) 16) 48;have hsl:s.l.length=8:=rfl;have z0:(0:Int).toNat=0:=rfl;have z1:(1:Int).toNat=1:=rfl;have z2:(2:Int).toNat=2:=rfl;have z3:(3:Int).toNat=3:=rfl;have z4:(4:Int).toNat=4:=rfl;have z5:(5:Int).toNat=5:=rfl;have z6:(6:Int).toNat=6:=rfl;have z7:(7:Int).toNat=7:=rfl;rw [VAa,UA3,mk,EBn hb,AP,hm];simp only [hl,hsl,List.length_replicate,z0,z1,z2,z3,z4,z5,z6,z7];rw [IK (by rfl),IK (by rfl),IK (by rfl),IK (by rfl),IK (by rfl),IK (by rfl),IK (by rfl),IK (by rfl),IK (by rfl),IK (by rfl),IK (by rfl),IK (by rfl),IK (by rfl),IK (by rfl),IK (by rfl),IK (by rfl),IK (by rfl)];have h0:=HBn s.l [0,0,0,0,0,0,0,0] _ hr hl s hs 64 0 (m+8+1) (by omega);rw [show ((0:Nat):Int)=0 from rfl] at h0;have hf:∀ i,i<8->(fun i=>w32 ((MP keysL (sched (Vh (bs b) 16) 48) s 64).l.getD i 0+s.l.getD i 0)) i=w32 ((MP keysL (sched (Vh (bs b) 16) 48) s 64).l.getD i 0+s.l.getD i 0):=fun _ _=>rfl
 have h1:=FBn s.l (MP keysL (sched (Vh (bs b) 16) 48) s 64).l [0,0,0,0,0,0,0,0] rfl rfl _ hf rfl 8 0 m (by omega);rw [show ((0:Nat):Int)=0 from rfl,List.range_zero,List.map_nil,List.nil_append,List.drop_zero] at h1;have e:(List.range 8).map (fun i=>w32 ((MP keysL (sched (Vh (bs b) 16) 48) s 64).l.getD i 0+s.l.getD i 0))=(comp s (bs b)).l:=by
  apply List.ext_getElem;·rw [Reg.OAg,List.length_map,List.length_range]
  ·intro i h1 h2;have hi:i<8:=by assumption
   rw [List.getElem_map,List.getElem_range,<-getD_at h2 0];grind [comp,OBk]
 rw [e] at h1;exact h0.trans h1
theorem JBn {s:Reg} (hs:s.ok) {t:AA} (ht:t.size<=1000000000000):PAn s.l t=some ((comps (t.size / 64) s (bs t)).l,t.extract (64*(t.size / 64)) t.size):=by
 have key:∀ (j:Nat) (s:Reg) (t:AA) (m:Nat),s.ok->t.size / 64=j->t.size<=1000000000000->sV (m+j+1) (.c0 t s.l [0,0,0,0,0,0,0,0])=some ((comps j s (bs t)).l,t.extract (64*j) t.size):=by
  intro j;induction j with
  | zero=>
   intro s t m hs hj ht;rw [sV];simp only [OAn,mk,Reg.OAg];rw [TT (by grind),IK (by rfl),IK (by rfl),IK (by rfl)];congr 2;simp
  | succ j ih=>
   intro s t m hs hj ht;have h64:(64:Int).toNat=64:=rfl;have e1:bs (t.extract 0 64)=(bs t).take 64:=by simp [Awj]
   have e2:bs (t.extract 64 t.size)=(bs t).drop 64:=by simp [Awj,List.take_of_length_le,bs_len]
   rw [show m+(j+1)+1=(m+j+1)+1 by omega,sV];simp only [OAn,mk,h64,Reg.OAg];rw [IK (by grind),IK (by rfl),IK (by grind)];rw [IBn hs (b:=t.extract 0 64) (by simp;omega),AP];rw [Reg.OAg];rw [IK (by rfl)];grind [EBL,KW,Awj,bs_len,List.drop_drop,comps]
 obtain ⟨m,hm⟩:∃ m,AY=m+t.size / 64+1:=⟨AY - (t.size / 64+1),by have:=FM (n:=t.size / 64+1) (by omega);omega⟩
 rw [PAn,VA3,hm];grind
theorem KBn {r:Reg} (hr:r.ok):QAn r.l=some (ofBytes (AyP r.l)):=by
 have hl:r.l.length=8:=rfl;have hrl:=Reg.rG hr;have hby:∀ i,Hw (AyP (r.l.take i)):=fun i=>GBB (fun x hx=>hrl x (List.mem_of_mem_take hx))
 have key:=PV (A:=Unit) (n:=8) (Lp:=YAa) (st:=fun i _=>.c0 (ofBytes (AyP (r.l.take i))) r.l (i:Int)) (Inv:=fun _ _=>True) (out:=fun _ _=>some (ofBytes (AyP r.l)))
  (fun m _ _=>by
   rfl)
  (fun m i _ hi _=>.inr ⟨(),by
   have e:AV ((i:Int)+1)=((i+1:Nat):Int):=by grind [A8]
   have hg:r.l.getD i 0=r.l[i]'(by omega):=getD_at (by omega) 0;have hx:R32 (r.l.getD i 0):=NAg hrl i;rw [YAa];simp only [XA3,mk,e,BR,XAr hx,AP,hl];rw [IK (by grind),IK (by rfl),IK (by grind),IK (by grind [Dj,GBL,four])];congr 2;apply KW;rw [Hr,Oa (hby i),Oa (hby (i+1)),Oa (Xa hx),take_at (by omega),DBk,hg];rfl,trivial,rfl⟩)
 rw [QAn,WA3,mk,hl,IK (by rfl)];exact key AY 0 () (DJ _) (FM (by omega)) trivial
theorem LBn:MA3=some Ayi.l:=rfl
theorem Oy {s:AA} (hs:s.size<=1000000000):J9 s=some (Ed s):=by
 have h1:=OAr s.size;have hsz:(s++ofBytes (Aw4 s.size)).size=s.size+(Aw4 s.size).length:=by simp [Dj]
 rw [J9,YA3,mk,LBn,AP,MBm (n:=s.size) (by omega),AP,IK (by grind),JBn gY (by omega),AP];simp only [Reg.OAg];rw [IK (by rfl),IK (by rfl),KBn (gX gY _ _),AP,hsz,Hr,Oa (HBB _),Ed,Rz,bs_len]
theorem GBC:Ia DX=true:=Ax0.2 ⟨AxT _,by rfl,(by decide:(0:Int)<=0/\(0:Int)<=3),(by decide:0<=8),(by decide:(0:Int)<=0/\(0:Int)<=1000),(by decide:(0:Int)<=0/\(0:Int)<=10000),rfl⟩
def Ayq (w:AA):Ah:=⟨1,Ed w,0,⟨0,0,false,false,false,false,⟨#[]⟩,0⟩⟩
noncomputable def Oo (k w:AA):Ap×Bool:=
 bif !((k.size:Int) == 32) || decide ((w.size:Int) > 20) then (EBC,false)
 else (⟨k,true,(AzA ⟨[]⟩ (AzW k 0 (Ayq w)).1 0).1,(OZ DX (Ayq w)).1,[],[],0⟩,true)
theorem zU (w:AA):Ax8 (Ayq w)=(ofBytes [1]++Ed w,true):=by grind [Ax8,Ayq,AxT,JC]
theorem EBN (w:AA):(OZ DX (Ayq w)).2=true:=by rw [OZ,GBC,zU,show decide (DX.fCount>=10000)=false from rfl];rfl
theorem MBn {F:AA} (h:F.size<=20000):(AzA ⟨[]⟩ [⟨1,Ht,F,⟨#[]⟩⟩,⟨2,Ht,⟨#[]⟩,⟨#[]⟩⟩] 0).2=2:=by
 have hz:((⟨#[]⟩:AA)++F).size=F.size:=by rw [AEY];exact Nat.zero_add _
 generalize hG:(⟨#[]⟩:AA)++F=G at hz;have ok:∀ k:Int,0<=k->k<=(G.size:Int)->Gq ⟨[⟨Ht,G,k⟩]⟩=true:=fun k h1 h2=>by have h3:OB ⟨Ht,G,k⟩=true:=ZAg.2 ⟨by show (1:Int)<=4/\(4:Int)<=8;omega,by show (G.size:Int)<=20000;omega,h1,h2⟩;rw [Gq,MO,MO,h3,zq (s:=Ht) (by decide)];rfl
 have a1:Ave ⟨[]⟩ ⟨1,Ht,F,⟨#[]⟩⟩=(⟨[⟨Ht,G,0⟩]⟩,true):=by
  have:Ave ⟨[]⟩ ⟨1,Ht,F,⟨#[]⟩⟩=doneD [⟨Ht,(⟨#[]⟩:AA)++F,0⟩]:=by rw [Ave];simp only [Oe];rfl
  rw [this,hG,doneD,ok 0 (Int.le_refl 0) (by omega)];rfl
 have a2:Ave ⟨[⟨Ht,G,0⟩]⟩ ⟨2,Ht,⟨#[]⟩,⟨#[]⟩⟩=(⟨[⟨Ht,G,(G.size:Int)⟩]⟩,true):=by
  have h2:Gp [⟨Ht,G,0⟩] Ht 0=some 0:=by rw [Gp,if_pos (Oe _)]
  have hp:Gs [⟨Ht,G,0⟩] ⟨Ht,G,(G.size:Int)⟩=[⟨Ht,G,(G.size:Int)⟩]:=by rw [Gs,OI,Ayw];simp only [List.filter_cons,YAg,Bool.false_or,beq_self_eq_true,DN,Bool.false_eq_true,if_false,List.filter_nil,List.nil_append,List.append_nil]
  have h0:Ave ⟨[⟨Ht,G,0⟩]⟩ ⟨2,Ht,⟨#[]⟩,⟨#[]⟩⟩=ZU ⟨[⟨Ht,G,0⟩]⟩ ⟨2,Ht,⟨#[]⟩,⟨#[]⟩⟩ ⟨Ht,G,0⟩:=by rw [Ave,ok 0 (Int.le_refl 0) (by omega)];simp only [h2,Oe];rfl
  rw [h0];have:ZU ⟨[⟨Ht,G,0⟩]⟩ ⟨2,Ht,⟨#[]⟩,⟨#[]⟩⟩ ⟨Ht,G,0⟩=doneD (Gs [⟨Ht,G,0⟩] ⟨Ht,G,(G.size:Int)⟩):=rfl;rw [this,hp,doneD,ok _ (by omega) (Int.le_refl _)];rfl
 rw [AzA,a1];show (AzA ⟨[⟨Ht,G,0⟩]⟩ [⟨2,Ht,⟨#[]⟩,⟨#[]⟩⟩] 1).2=2;rw [AzA,a2];rfl
theorem NBn (k w:AA):AIs k w=some (Oo k w):=by
 rw [AIs,NAy,mk,Oo,bne];cases hz:(k.size:Int) == 32;·rfl
 rw [beq_iff_eq] at hz;by_cases hw:(w.size:Int) > 20;·rw [Ba hw];rfl
 rw [D6 hw,ML (s:=w) (by omega),bU];simp only [AP,xA (b:=DX) (DJ _),FBC (k:=k) (d:=⟨[]⟩) (by omega) (DJ _)];rfl
theorem NJ {c:DZ} {n:Int} (hc:Ie c):Ok (Axp c n) fun r=>Ie r.2:=by rw [Axp,PAy,mk];exact Ok.bind (Uu hc) fun a ha=>Ok.ret ha.2
theorem FBN {c:DZ} {l:List Int} (hc:Ie c) (hl:0<l.length):Ok (CAX c l) fun r=>r.1 ∈ l/\Ie r.2:=by
 rw [CAX,RAy,mk];refine Ok.bind (Uu hc) fun a ha=>?_
 simp_all [Ok.ret]
theorem YAr {c:DZ} {l:List AA} (hc:Ie c) (hl:0<l.length):Ok (sW c l) fun r=>r.1 ∈ l/\Ie r.2:=by
 rw [sW,SAy,mk];refine Ok.bind (Uu hc) fun a ha=>?_
 simp_all [Ok.ret]
theorem OBn {c:DZ} {n:Int} (hc:Ie c) (h0:0<=n):Ok (CAl c n) fun r=>(r.1.size:Int)=min n 5000/\Ie r.2:=by
 have key:∀ (j i m:Nat) (N:Nat) (a b:Int) (out:List Int),i+j=N->N<=5000->out.length=i->0<=a->Ok (iJ (m+j+1) (.c0 (N:Int) (i:Int) a b out)) fun r=>r.1.size=N/\Ie r.2:=by
  intro j;induction j with
  | zero=>
   intro i m N a b out hi hN ho ha;rw [iJ];simp only [BAl,mk];rw [TT (by simp_all)];exact Ok.ret ⟨by grind [Dj],ha⟩
  | succ j ih=>
   intro i m N a b out hi hN ho ha;have hw:AV ((i:Int)+1)=((i+1:Nat):Int):=by grind [A8]
   rw [AwB m j,iJ];simp only [BAl,mk,hw];rw [IK (by grind)];exact Ok.bind (rD (c:=⟨(),a,b⟩) ha) fun r hr=>Ok.chk (by grind) (ih (i+1) m N _ _ _ (by omega) hN (by simp [ho]) hr.2.2)
 rw [CAl,TAy];have run:∀ N:Nat,N<=5000->Ok (iJ AY (.c0 (N:Int) 0 c.fI c.AyA [])) fun r=>r.1.size=N/\Ie r.2:=fun N hN=>by
  obtain ⟨m,hm⟩:=gm (n:=N) (by omega)
  rw [hm];exact key N 0 m N _ _ [] (Nat.zero_add _) hN rfl hc
 refine Ok.cond (fun h=>?_) fun h=>?_
 ·grind
 ·rw [decide_eq_false_iff_not] at h;have:=run n.toNat (by omega);grind
theorem GBN {s:AA} (h:s ∈ [(⟨#[97]⟩:AA),⟨#[98]⟩,⟨#[99]⟩]):s.size=1:=by simp only [List.mem_cons,List.not_mem_nil,or_false] at h;rcases h with rfl | rfl | rfl <;> rfl
theorem PBn {c:DZ} (hc:Ie c):Ok (EAX c) fun r=>AwH r.1=true/\Ie r.2:=by
 rw [EAX,UAy,mk];refine Ok.bind (Uu hc) fun a ha=>Ok.bind (Uu ha.2) fun b hb=>Ok.bind (NJ hb.2) fun d hd=>Ok.bind (NJ hd) fun e he=>?_
 have a1:=ha.1.2.1 (by omega);have b1:=hb.1.2.1 (by omega);have hi:AV (1+a.1)=1+a.1:=A8 (by omega) (by omega);have hk:AV (1+b.1)=1+b.1:=A8 (by omega) (by omega);rw [hi,hk];have base:AyM (1+a.1) 1 1000=true/\AyM (1+b.1) 1 3=true:=⟨Na.2 (by omega),Na.2 (by omega)⟩
 have hd32:∀ s:AA,((Ed s).size:Int) == 32:=fun s=>by rfl
 refine Ok.cond (fun h3=>?_) fun h3=>Ok.cond (fun h2=>?_) fun h2=>?_
 ·refine Ok.bind (Uu he) fun f hf=>Ok.bind (OBn hf.2 hf.1.1) fun g hg=>Ok.ret ⟨?_,hg.2⟩
  have f1:=hf.1.2.1 (by omega);rw [beq_iff_eq] at h3;rw [AwH,base.1,base.2,h3,Ba (by omega:(g.1.size:Int)<=100)];rfl
 ·refine Ok.bind (Uu he) fun f hf=>Ok.bind (NJ hf.2) fun g hg=>Ok.bind (YAr hg (by decide)) fun t ht=>Ok.bind (Ok.eq (ML (by simp_all [GBN]))) fun v hv=>Ok.ret ⟨?_,ht.2⟩
  grind [AwH,Na]
 ·refine Ok.bind (NJ he) fun g hg=>Ok.bind (YAr hg (by decide)) fun t ht=>Ok.bind (Ok.eq (ML (by simp_all [GBN]))) fun v hv=>Ok.ret ⟨?_,ht.2⟩
  grind [Na,AwH]
def Aye (b:Bo):List Ah->Bo×Bool
 | []=>(b,true)
 | r::rs=>bif (OZ b r).2 then Aye (OZ b r).1 rs else (rU,false)
theorem xB {b:Bo} {r:Ah} (h:(OZ b r).2=true):(OZ b r).1.AZ.length<=8:=(Ax0.1 (Qb h).2.2.2.1).2.2.2.1
theorem QBn {rs:List Ah}:∀ {b:Bo},Ia b=true->(Aye b rs).2=true->Ia (Aye b rs).1=true:=by induction rs<;>grind [Aye,OZ,Qb]
theorem kJ {l k:List Ah}:∀ {b:Bo},Aye b (l++k)=bif (Aye b l).2 then Aye (Aye b l).1 k else (rU,false):=by induction l<;>grind [Aye]
theorem HBC {b:Bo} {l:List Ah} (w:Nat) (h:(Aye b l).2=true):(Aye b (l.take w)).2=true:=by grind [kJ,List.take_append_drop]
theorem RBn {l:List Ah}:∀ {b:Bo},(Aye b l).2=true->(Aye b l).1.fCount=b.fCount+(l.length:Int):=by induction l<;>grind [Aye,OZ]
def pw (k:Nat):Int:=128 ^ k
theorem Xu:pw 0=1:=rfl
theorem IBC (k:Nat):pw (k+1)=pw k*128:=Int.pow_succ ..
theorem SBn {k:Nat} (h:k<5):pw k=1\/pw k=128\/pw k=16384\/pw k=2097152\/pw k=268435456:=by
 rcases (by omega:k=0\/k=1\/k=2\/k=3\/k=4) with rfl | rfl | rfl | rfl | rfl
 ·exact .inl rfl
 ·exact .inr (.inl rfl)
 ·exact .inr (.inr (.inl rfl))
 ·exact .inr (.inr (.inr (.inl rfl)))
 ·exact .inr (.inr (.inr (.inr rfl)))
def WL:Int×Int×Bool:=(0,0,false)
def AKc (text:AA) (a:Nat) (r:Int×Int×Bool):Prop:=r=WL\/∃ v:Int,∃ q:Nat,r=(v,((q:Nat):Int),true)/\0<=v/\v<=1000000000/\a<q/\q<=text.size
def At (text:AA) (p:Nat) (l:List Int):Prop:=∃ rest,(bs text).drop p=l++rest
theorem At.left {text:AA} {p:Nat} {l m:List Int} (h:At text p (l++m)):At text p l:=by obtain ⟨r,hr⟩:=h;exact ⟨m++r,by simp_all⟩
theorem At.right {text:AA} {p:Nat} {l m:List Int} (h:At text p (l++m)):At text (p+l.length) m:=by obtain ⟨r,hr⟩:=h;exact ⟨r,by grind [List.drop_drop,List.drop_left]⟩
theorem At.size {text:AA} {p:Nat} {l:List Int} (h:At text p l):l=[]\/p+l.length<=text.size:=by
 obtain ⟨r,hr⟩:=h
 have:=congrArg List.length hr;rw [List.length_drop,bs_len,List.length_append] at this;cases l<;>grind
theorem At.head {text:AA} {p:Nat} {x:Int} {l:List Int} (h:At text p (x::l)):p<text.size/\bt text (p:Int)=x:=by
 have hs:p+(x::l).length<=text.size:=by rcases h.size with h | h;all_goals simp_all
 simp only [List.length_cons] at hs;have hp:p<text.size:=by omega
 refine ⟨hp,?_⟩;rw [lW hp];obtain ⟨r,hr⟩:=h
 simp_all [bs,List.drop_eq_getElem_cons]
theorem At.extract {text:AA} {p:Nat} {l:List Int} (h:At text p l) (hl:∀ n,n ∈ l->0<=n/\n<=255):text.extract p (p+l.length)=ofBytes l:=by
 apply KW;rw [Awj,Oa hl];obtain ⟨r,hr⟩:=h
 simp_all [List.drop_take]
theorem Uf:∀ (n:Int),0<=n->∀ x,x ∈ SN n->0<=x/\x<=255:=by intro n;induction n using SN.induct<;>grind [SN,Nq]
theorem iK {n:Int} (h:0<=n) (h2:n<=127):SN n=[n]:=by grind [SN,Nq]
theorem HBN {n:Int} (h:n<=1000000000):(SN n).length<=5:=by have:=RBL 5 n (by omega);omega
theorem ZAr {text:AA} {a k m:Nat} {n s:Int} (hs:text.size<=140737488351232) (ha:a<=text.size) (hi:text.size<=a+k\/5<=k):AwJ (m+1) (.c0 text a n s ((a+k:Nat):Int))=some WL:=by
 simp only [AwJ,LAl,mk];by_cases h:a+k<text.size;·rw [show decide (((a+k:Nat):Int)<(text.size:Int))=true from Ba (by omega),A8 (n:=(a:Int)+5) (by omega) (by omega),show decide (((a+k:Nat):Int)<(a:Int)+5)=false from D6 (by omega)];rfl
 ·rw [show decide (((a+k:Nat):Int)<(text.size:Int))=false from D6 (by omega)];rfl
theorem Zh {k:Nat} {n b:Int} (hk:k<5) (h0:0<=n) (h1:n<pw k) (hb:0<=b/\b<=255) :
  (b<128->b.tmod 128=b/\AV (b*pw k)=b*pw k/\AV (n+b*pw k)=n+b*pw k/\0<=n+b*pw k/\n+b*pw k<pw (k+1))/\
  (¬ b<128->b.tmod 128=b - 128/\AV ((b - 128)*pw k)=(b - 128)*pw k/\AV (n+(b - 128)*pw k)=n+(b - 128)*pw k/\0<=n+(b - 128)*pw k/\n+(b - 128)*pw k<pw (k+1))/\AV (pw k*128)=pw (k+1):=by
 rw [IBC];have e:b.tmod 128=b % 128:=Int.tmod_eq_emod_of_nonneg hb.1;refine ⟨fun h=>?_,fun h=>?_,?_⟩;all_goals grind [SBn,A8]
theorem AIx {text:AA} {a k m:Nat} {n b:Int} (hs:text.size<=140737488351232) (hk:k<5) (hi:a+k<text.size) (h0:0<=n) (h1:n<pw k) (hb:bt text ((a+k:Nat):Int)=b) :
  AwJ (m+1) (.c0 text a n (pw k) ((a+k:Nat):Int))=if b<128 then (if n+b*pw k > 1000000000 then some WL else if ofBytes (SN (n+b*pw k))=text.extract a (a+k+1) then some (n+b*pw k,((a+k+1:Nat):Int),true) else some WL) else AwJ m (.c0 text a (n+(b - 128)*pw k) (pw (k+1)) ((a+k+1:Nat):Int)):=by
 have hb':=Ud text ((a+k:Nat):Int);rw [hb] at hb';obtain ⟨n1,n2,n3⟩:=Zh hk h0 h1 hb'
 have hw:AV (((a+k:Nat):Int)+1)=((a+k+1:Nat):Int):=by grind [A8]
 simp only [AwJ,LAl,mk,hb,A8 (n:=b) (by omega) (by omega),n3,hw,BR]
 rw [show decide (((a+k:Nat):Int)<(text.size:Int))=true from Ba (by omega),A8 (n:=(a:Int)+5) (by omega) (by omega),show decide (((a+k:Nat):Int)<(a:Int)+5)=true from Ba (by omega),
  show decide ((0:Int)<=((a+k:Nat):Int))=true from Ba (by omega)]
 simp only [Bool.and_self,Ar];by_cases h:b<128
 ·obtain ⟨e1,e2,e3,e4,_⟩:=n1 h
  rw [if_pos h,e1,e2,e3,show decide (b<128)=true from Ba h];by_cases h2:n+b*pw k > 1000000000;·rw [if_pos h2,show decide (n+b*pw k > 1000000000)=true from Ba h2];rfl
  ·rw [if_neg h2,show decide (n+b*pw k > 1000000000)=false from D6 h2,V8 (by omega)];simp only [Ar,Aq,AP];rw [show decide ((0:Int)<=(a:Int))=true from Ba (by omega),show decide ((a:Int)<=((a+k+1:Nat):Int))=true from Ba (by omega),show decide (((a+k+1:Nat):Int)<=(text.size:Int))=true from Ba (by omega),toList_inj];by_cases h3:ofBytes (SN (n+b*pw k))=text.extract a (a+k+1);·simp_all
   ·rw [if_neg h3,D6 h3];rfl
 grind
theorem TBn {text:AA} {a:Nat} (hs:text.size<=140737488351232) (ha:a<=text.size):∀ j k m n,k+j=5->j<m->0<=n->n<pw k->∃ r,AwJ m (.c0 text a n (pw k) ((a+k:Nat):Int))=some r/\AKc text a r:=by
 intro j;induction j with
 | zero=>
  intro k m n hk hm _ _;obtain ⟨m,rfl⟩:∃ q,m=q+1:=⟨m - 1,by omega⟩
  exact ⟨_,ZAr hs ha (.inr (by omega)),.inl rfl⟩
 | succ j ih=>
  intro k m n hk hm h0 h1;obtain ⟨m,rfl⟩:∃ q,m=q+1:=⟨m - 1,by omega⟩
  by_cases hi:a+k<text.size
  ·have hb:=Ud text ((a+k:Nat):Int);generalize hbe:bt text ((a+k:Nat):Int)=b at hb;obtain ⟨n1,n2,_⟩:=Zh (b:=b) (by omega:k<5) h0 h1 hb
   rw [AIx hs (by omega) hi h0 h1 hbe];split
   ·rename_i h;split;·exact ⟨_,rfl,.inl rfl⟩
    ·split;·exact ⟨_,rfl,.inr ⟨_,_,rfl,(n1 h).2.2.2.1,by omega,by omega,by omega⟩⟩
     ·exact ⟨_,rfl,.inl rfl⟩
   ·rename_i h;obtain ⟨_,_,_,e4,e5⟩:=n2 h
    exact ih (k+1) m _ (by omega) (by omega) e4 e5
  ·exact ⟨_,ZAr hs ha (.inl (by omega)),.inl rfl⟩
theorem UBn {text:AA} {a:Nat} {V:Int} (hs:text.size<=140737488351232) (hV0:0<=V) (hV:V<=1000000000) (hA:At text a (SN V)):∀ U k m n,SN U=(SN V).drop k->0<=U->n+pw k*U=V->0<=n->n<pw k->5<m+k->AwJ m (.c0 text a n (pw k) ((a+k:Nat):Int))=some (V,((a+(SN V).length:Nat):Int),true):=by
 have h5:=HBN hV;intro U;induction U using SN.induct with
 | case1 U hU ih=>
  intro k m n e1 u0 e2 h0 h1 hm;have hl:=congrArg List.length e1;rw [List.length_drop] at hl;have hp:=Avw U;have hk:k<5:=by omega
  obtain ⟨m,rfl⟩:∃ q,m=q+1:=⟨m - 1,by omega⟩
  have hA':At text (a+k) (SN U):=by
   have:At text a ((SN V).take k++(SN V).drop k):=by simp_all
   have:=this.right;grind
  have e3:=e1;rw [SN,if_pos hU] at hA' e3;obtain ⟨hi,hb⟩:=hA'.head
  obtain ⟨n1,n2,_⟩:=Zh (b:=128+U % 128) hk h0 h1 (by omega)
  obtain ⟨_,_,_,e4,e5⟩:=n2 (by omega)
  rw [AIx hs hk hi h0 h1 hb,if_neg (by omega)];refine ih (k+1) m _ ?_ (by omega) ?_ e4 e5 (by omega);·rw [<-List.drop_drop,<-e3];rfl
  grind [IBC]
 | case2 U hU=>
  intro k m n e1 u0 e2 h0 h1 hm;have hl:=congrArg List.length e1;rw [List.length_drop] at hl;have hp:=Avw U;have hk:k<5:=by omega
  obtain ⟨m,rfl⟩:∃ q,m=q+1:=⟨m - 1,by omega⟩
  have hA':At text (a+k) (SN U):=by
   have:At text a ((SN V).take k++(SN V).drop k):=by simp_all
   have:=this.right;grind
  rw [iK u0 (by omega)] at hA' hl;simp only [List.length_singleton] at hl;obtain ⟨hi,hb⟩:=hA'.head
  have e3:n+U*pw k=V:=by simp_all [Int.mul_comm]
  have e4:a+k+1=a+(SN V).length:=by omega
  rw [AIx hs hk hi h0 h1 hb,if_pos (by omega),e3,if_neg (by omega),e4,if_pos (hA.extract (Uf V hV0)).symm]
theorem VBn {text:AA} {a:Nat} (hs:text.size<=140737488351232) (ha:a<=text.size):∃ r,U0 text a=some r/\AKc text a r:=by simp only [U0,PAX,mk,Ih,AP];rw [show AyM (a:Int) 0 (text.size:Int)=true from Na.2 ⟨by omega,by omega⟩];exact TBn hs ha 5 0 AY 0 rfl (FM (by omega)) (by omega) (by simp [Xu])
theorem IBN {text:AA} {a:Nat} {V:Int} (hs:text.size<=140737488351232) (hV0:0<=V) (hV:V<=1000000000) (hA:At text a (SN V)):U0 text a=some (V,((a+(SN V).length:Nat):Int),true):=by
 have ha:a+(SN V).length<=text.size:=by
  rcases hA.size with h | h
  all_goals grind [Avw]
 simp only [U0,PAX,mk,Ih,AP];rw [show AyM (a:Int) 0 (text.size:Int)=true from Na.2 ⟨by omega,by omega⟩];exact UBn hs hV0 hV hA V 0 AY 0 (by simp) hV0 (by simp [Xu]) (by omega) (by simp [Xu]) (by simp [FM])
theorem AwE (x a b:Int):Gx x a b=some (AyM x a b):=by show (bif decide (a<=x) then some (decide (x<=b)) else some false)=some (AyM x a b);grind [AyM]
theorem WBn {k:Nat} (h:k<5):(2:Int) ^ (Min.min (AV (7*(k:Int))).toNat (IntKind.bits IntKind.i64))=pw k/\AV (7*(k:Int))=7*(k:Int):=by refine ⟨?_,A8 (by omega) (by omega)⟩;rcases (by omega:k=0\/k=1\/k=2\/k=3\/k=4) with rfl | rfl | rfl | rfl | rfl <;> kernel_rfl
theorem BAs {text:AA} {a k m:Nat} {n:Int} (hs:text.size<=140737488351232) (ha:a<=text.size) (hk:k<=5) (hi:text.size<=a+k\/5<=k):Ut (m+1) (.c0 text a n k)=some WL:=by
 simp only [Ut,MAo,mk];by_cases h:k<5;·rw [show decide ((k:Int)<5)=true from Ba (by omega),A8 (n:=(a:Int)+k) (by omega) (by omega),show decide ((a:Int)+k<(text.size:Int))=false from D6 (by omega)];rfl
 ·rw [show decide ((k:Int)<5)=false from D6 (by omega)];rfl
theorem CAs {text:AA} {a k m:Nat} {n b:Int} (hs:text.size<=140737488351232) (hk:k<5) (hi:a+k<text.size) (h0:0<=n) (h1:n<pw k) (hb:bt text ((a+k:Nat):Int)=b) :
  Ut (m+1) (.c0 text a n k)=if b<128 then (if b=0/\0<k\/n+b*pw k > 1000000000 then some WL else some (n+b*pw k,((a+k+1:Nat):Int),true)) else Ut m (.c0 text a (n+(b - 128)*pw k) ((k+1:Nat):Int)):=by
 have hb':=Ud text ((a+k:Nat):Int);rw [hb] at hb';obtain ⟨n1,n2,n3⟩:=Zh hk h0 h1 hb'
 obtain ⟨p1,p2⟩:=WBn hk
 rw [p2] at p1;have ha:AV ((a:Int)+(k:Int))=((a+k:Nat):Int):=by grind [A8]
 have hw:AV (((a+k:Nat):Int)+1)=((a+k+1:Nat):Int):=by grind [A8]
 have hw2:AV ((k:Int)+1)=((k+1:Nat):Int):=by grind [A8]
 simp only [Ut,MAo,mk,ha,hb,A8 (n:=b) (by omega) (by omega),p2,p1,hw,hw2]
 rw [show decide (((a+k:Nat):Int)<(text.size:Int))=true from Ba (by omega),show decide ((k:Int)<5)=true from Ba (by omega),show decide ((0:Int)<=7*(k:Int))=true from Ba (by omega),
  show decide ((0:Int)<=((a+k:Nat):Int))=true from Ba (by omega)]
 simp only [Bool.and_self,Ar];by_cases h:b<128
 ·obtain ⟨e1,e2,e3,e4,_⟩:=n1 h
  rw [if_pos h,e1,e2,e3,show decide (b<128)=true from Ba h];simp only [Ar];by_cases hz:b=0
  ·rw [show (b == 0)=true from beq_iff_eq.2 hz];by_cases hk0:0<k;·rw [if_pos (.inl ⟨hz,hk0⟩),show decide ((k:Int) > 0)=true from Ba (by omega)];rfl
   grind
  ·rw [show (b == 0)=false from beq_eq_false_iff_ne.2 hz];by_cases h2:n+b*pw k > 1000000000;·rw [if_pos (.inr h2),show decide (n+b*pw k > 1000000000)=true from Ba h2];rfl
   grind
 grind
theorem XBn {text:AA} {a:Nat} (hs:text.size<=140737488351232) (ha:a<=text.size):∀ j k m n,k+j=5->j<m->0<=n->n<pw k->∃ r,Ut m (.c0 text a n k)=some r/\AKc text a r:=by
 intro j;induction j with
 | zero=>
  intro k m n hk hm _ _;obtain ⟨m,rfl⟩:∃ q,m=q+1:=⟨m - 1,by omega⟩
  exact ⟨_,BAs hs ha (by omega) (.inr (by omega)),.inl rfl⟩
 | succ j ih=>
  intro k m n hk hm h0 h1;obtain ⟨m,rfl⟩:∃ q,m=q+1:=⟨m - 1,by omega⟩
  by_cases hi:a+k<text.size
  ·have hb:=Ud text ((a+k:Nat):Int);generalize hbe:bt text ((a+k:Nat):Int)=b at hb;obtain ⟨n1,n2,_⟩:=Zh (b:=b) (by omega:k<5) h0 h1 hb
   rw [CAs hs (by omega) hi h0 h1 hbe];split
   ·rename_i h;split;·exact ⟨_,rfl,.inl rfl⟩
    ·exact ⟨_,rfl,.inr ⟨_,_,rfl,(n1 h).2.2.2.1,by omega,by omega,by omega⟩⟩
   ·rename_i h;obtain ⟨_,_,_,e4,e5⟩:=n2 h
    exact ih (k+1) m _ (by omega) (by omega) e4 e5
  ·exact ⟨_,BAs hs ha (by omega) (.inl (by omega)),.inl rfl⟩
theorem YBn {text:AA} {a:Nat} {V:Int} (hs:text.size<=140737488351232) (hV:V<=1000000000) (hA:At text a (SN V)):∀ U k m n,SN U=(SN V).drop k->0<=U->(0<k->0<U)->n+pw k*U=V->0<=n->n<pw k->5<m+k->Ut m (.c0 text a n k)=some (V,((a+(SN V).length:Nat):Int),true):=by
 have h5:=HBN hV;intro U;induction U using SN.induct with
 | case1 U hU ih=>
  intro k m n e1 u0 G1 e2 h0 h1 hm;have hl:=congrArg List.length e1;rw [List.length_drop] at hl;have hp:=Avw U;have hk:k<5:=by omega
  obtain ⟨m,rfl⟩:∃ q,m=q+1:=⟨m - 1,by omega⟩
  have hA':At text (a+k) (SN U):=by
   have:At text a ((SN V).take k++(SN V).drop k):=by simp_all
   have:=this.right;grind
  have e3:=e1;rw [SN,if_pos hU] at hA' e3;obtain ⟨hi,hb⟩:=hA'.head
  obtain ⟨n1,n2,_⟩:=Zh (b:=128+U % 128) hk h0 h1 (by omega)
  obtain ⟨_,_,_,e4,e5⟩:=n2 (by omega)
  rw [CAs hs hk hi h0 h1 hb,if_neg (by omega)];refine ih (k+1) m _ ?_ (by omega) (fun _=>by omega) ?_ e4 e5 (by omega);·rw [<-List.drop_drop,<-e3];rfl
  grind [IBC]
 | case2 U hU=>
  intro k m n e1 u0 G1 e2 h0 h1 hm;have hl:=congrArg List.length e1;rw [List.length_drop] at hl;have hp:=Avw U;have hk:k<5:=by omega
  obtain ⟨m,rfl⟩:∃ q,m=q+1:=⟨m - 1,by omega⟩
  have hA':At text (a+k) (SN U):=by
   have:At text a ((SN V).take k++(SN V).drop k):=by simp_all
   have:=this.right;grind
  rw [iK u0 (by omega)] at hA' hl;simp only [List.length_singleton] at hl;obtain ⟨hi,hb⟩:=hA'.head
  grind [CAs]
theorem JBC {text:AA} {a:Nat} (hs:text.size<=140737488351232) (ha:a<=text.size):∃ r,O0 text a=some r/\AKc text a r:=by simp only [O0,BAc,mk,AwE,AP];rw [show AyM (a:Int) 0 (text.size:Int)=true from Na.2 ⟨by omega,by omega⟩];exact XBn hs ha 5 0 AY 0 rfl (FM (by omega)) (by omega) (by simp [Xu])
theorem CAh {text:AA} {a:Nat} {V:Int} (hs:text.size<=140737488351232) (hV0:0<=V) (hV:V<=1000000000) (hA:At text a (SN V)):O0 text a=some (V,((a+(SN V).length:Nat):Int),true):=by
 have ha:a+(SN V).length<=text.size:=by
  rcases hA.size with h | h
  all_goals grind [Avw]
 simp only [O0,BAc,mk,AwE,AP];rw [show AyM (a:Int) 0 (text.size:Int)=true from Na.2 ⟨by omega,by omega⟩];exact YBn hs hV hA V 0 AY 0 (by simp) hV0 (fun h=>absurd h (Nat.lt_irrefl 0)) (by simp [Xu]) (by omega) (by simp [Xu]) (by simp [FM])
def RVx (text:AA) (a:Nat) (r:Int×Int×Bool):Prop:=r=WL\/∃ v:Int,r=(v,((a+(SN v).length:Nat):Int),true)/\0<=v/\v<=1000000000/\At text a (SN v)
theorem ZBn {text:AA} {a:Nat} (hs:text.size<=140737488351232) (ha:a<=text.size):∀ j k m n,k+j=5->j<m->0<=n->n<pw k->∃ r,AwJ m (.c0 text a n (pw k) ((a+k:Nat):Int))=some r/\RVx text a r:=by
 intro j;induction j with
 | zero=>
  intro k m n hk hm _ _;obtain ⟨m,rfl⟩:∃ q,m=q+1:=⟨m - 1,by omega⟩
  exact ⟨_,ZAr hs ha (.inr (by omega)),.inl rfl⟩
 | succ j ih=>
  intro k m n hk hm h0 h1;obtain ⟨m,rfl⟩:∃ q,m=q+1:=⟨m - 1,by omega⟩
  by_cases hi:a+k<text.size
  ·have hb:=Ud text ((a+k:Nat):Int);generalize hbe:bt text ((a+k:Nat):Int)=b at hb;obtain ⟨n1,n2,_⟩:=Zh (b:=b) (by omega:k<5) h0 h1 hb
   rw [AIx hs (by omega) hi h0 h1 hbe];split
   ·rename_i h;have hv0:=(n1 h).2.2.2.1;split;·exact ⟨_,rfl,.inl rfl⟩
    ·split;·rename_i h2;have h3:=congrArg bs h2;rw [Oa (Uf _ hv0),Awj] at h3;have hl:=congrArg List.length h3;rw [List.length_drop,List.length_take,bs_len,Nat.min_eq_left (by omega)] at hl;refine ⟨_,rfl,.inr ⟨_,by rw [show a+k+1=a+(SN (n+b*pw k)).length by omega],hv0,by omega,(bs text).drop (a+k+1),?_⟩⟩;grind [List.drop_take,List.drop_drop,Nat.add_sub_cancel_left,List.take_append_drop]
     ·exact ⟨_,rfl,.inl rfl⟩
   ·rename_i h;obtain ⟨_,_,_,e4,e5⟩:=n2 h
    exact ih (k+1) m _ (by omega) (by omega) e4 e5
  ·exact ⟨_,ZAr hs ha (.inl (by omega)),.inl rfl⟩
theorem JBN {text:AA} {p:Nat} (hp:p<text.size) {l:List Int} (h:At text (p+1) l):At text p (bt text (p:Int)::l):=by
 obtain ⟨r,hr⟩:=h
 refine ⟨r,?_⟩;simp_all [drop_at,bs_len,lW]
theorem AlT {text:AA} {a:Nat} (hs:text.size<=140737488351232) (ha:a<=text.size):∀ j k m n,k+j=5->j<m->0<=n->n<pw k->∃ r,Ut m (.c0 text a n k)=some r/\(r=WL\/∃ U:Int,r=(n+pw k*U,((a+k+(SN U).length:Nat):Int),true)/\0<=U/\(0<k->0<U)/\n+pw k*U<=1000000000/\At text (a+k) (SN U)):=by
 intro j;induction j with
 | zero=>
  intro k m n hk hm _ _;obtain ⟨m,rfl⟩:∃ q,m=q+1:=⟨m - 1,by omega⟩
  grind [BAs]
 | succ j ih=>
  intro k m n hk hm h0 h1;obtain ⟨m,rfl⟩:∃ q,m=q+1:=⟨m - 1,by omega⟩
  by_cases hi:a+k<text.size
  ·have hb:=Ud text ((a+k:Nat):Int);generalize hbe:bt text ((a+k:Nat):Int)=b at hb;obtain ⟨n1,n2,_⟩:=Zh (b:=b) (by omega:k<5) h0 h1 hb
   rw [CAs hs (by omega) hi h0 h1 hbe];split
   ·rename_i h;split;·simp
    ·rename_i h2;have e1:=iK hb.1 (by omega:b<=127);refine ⟨_,rfl,.inr ⟨b,by simp_all [Int.mul_comm],hb.1,fun hk0=>by omega,by simp_all [Int.mul_comm],?_⟩⟩;rw [e1,<-hbe];exact JBN hi ⟨_,rfl⟩
   ·rename_i h;obtain ⟨_,_,_,e4,e5⟩:=n2 h
    obtain ⟨r,hr,hR⟩:=ih (k+1) m _ (by omega) (by omega) e4 e5
    refine ⟨r,hr,?_⟩;rcases hR with hR | ⟨U,hR,hU,Gk,DP,hA⟩
    ·simp_all
    ·have Hm:=Gk (by omega);have e6:SN (b - 128+128*U)=b::SN U:=by rw [SN,if_pos (by omega),show (b - 128+128*U) / 128=U by omega,show 128+(b - 128+128*U) % 128=b by omega]
     have e7:n+(b - 128)*pw k+pw (k+1)*U=n+pw k*(b - 128+128*U):=by grind [pw]
     refine .inr ⟨b - 128+128*U,?_,by omega,fun _=>by omega,by omega,?_⟩;·rw [hR,e6,e7,List.length_cons,show a+(k+1)+(SN U).length=a+k+((SN U).length+1) by omega]
     ·rw [e6,<-hbe];exact JBN hi hA
  grind [BAs]
theorem BBo {text:AA} {a:Nat} (hs:text.size<=140737488351232) (ha:a<=text.size):∃ r,U0 text a=some r/\RVx text a r:=by simp only [U0,PAX,mk,Ih,AP];rw [show AyM (a:Int) 0 (text.size:Int)=true from Na.2 ⟨by omega,by omega⟩];exact ZBn hs ha 5 0 AY 0 rfl (FM (by omega)) (by omega) (by simp [Xu])
theorem CBo {text:AA} {a:Nat} (hs:text.size<=140737488351232) (ha:a<=text.size):∃ r,O0 text a=some r/\RVx text a r:=by
 simp only [O0,BAc,mk,AwE,AP];rw [show AyM (a:Int) 0 (text.size:Int)=true from Na.2 ⟨by omega,by omega⟩];obtain ⟨r,hr,hR⟩:=AlT hs ha 5 0 AY 0 rfl (FM (by omega)) (by omega) (by simp [Xu])
 refine ⟨r,hr,?_⟩;rcases hR with hR | ⟨U,hR,hU,_,DP,hA⟩
 ·exact .inl hR
 ·rw [Xu,Int.zero_add,Int.one_mul] at hR DP;exact .inr ⟨U,hR,hU,DP,hA⟩
theorem KBC {n:Int} (h:0<=n):(n<=127/\SN n=[n])\/(127<n/\SN n=(128+n % 128)::SN (n / 128)):=by grind [iK,SN]
theorem DBo:∀ (n:Nat) (v w:Int) (r s:List Int),v.toNat<=n->0<=v->0<=w->SN v++r=SN w++s->v=w:=by
 intro n;induction n with
 | zero=>
  intro v w r s hn hv hw h;have hv0:v=0:=by omega
  grind [iK,KBC]
 | succ n ih=>
  intro v w r s hn hv hw h;rcases KBC hv with ⟨g1,g2⟩ | ⟨g1,g2⟩ <;> rcases KBC hw with ⟨h1,h2⟩ | ⟨h1,h2⟩ <;> rw [g2,h2] at h <;> injection h with h3 h4
  ·omega
  ·omega
  ·have:=ih (v / 128) (w / 128) r s (by omega) (by omega) (by omega) h4;omega
theorem EBo {text:AA} {a:Nat} {v w:Int} (hv:0<=v) (hw:0<=w) (h:At text a (SN v)) (k:At text a (SN w)):v=w:=by
 obtain ⟨r,hr⟩:=h
 obtain ⟨s,hs⟩:=k
 exact DBo v.toNat v w r s (Nat.le_refl _) hv hw (hr.symm.trans hs)
noncomputable def Avr (text:AA) (a:Nat):Int×Int×Bool:=@dite _ (∃ v:Int,0<=v/\v<=1000000000/\At text a (SN v)) (Classical.propDecidable _) (fun h=>(h.choose,((a+(SN h.choose).length:Nat):Int),true)) (fun _=>WL)
theorem KBN {text:AA} {a:Nat} {o:Option (Int×Int×Bool)} (h1:∃ r,o=some r/\RVx text a r) (h2:∀ V:Int,0<=V->V<=1000000000->At text a (SN V)->o=some (V,((a+(SN V).length:Nat):Int),true)):o=some (Avr text a):=by
 unfold Avr;split;·grind
 ·rename_i h;obtain ⟨r,hr,rfl | ⟨v,_,k1,k2,k3⟩⟩:=h1
  all_goals simp_all
theorem LBN {text:AA} {a:Nat} (hs:text.size<=140737488351232) (ha:a<=text.size):U0 text a=some (Avr text a):=KBN (BBo hs ha) (fun V h0 h1 hA=>IBN hs h0 h1 hA)
theorem MBN {text:AA} {a:Nat} (hs:text.size<=140737488351232) (ha:a<=text.size):O0 text a=some (Avr text a):=KBN (CBo hs ha) (fun V h0 h1 hA=>CAh hs h0 h1 hA)
theorem yF {text:AA} {a:Nat} (hs:text.size<=140737488351232) (ha:a<=text.size):RVx text a (Avr text a):=by
 unfold Avr;split
 ·rename_i h;obtain ⟨k1,k2,k3⟩:=h.choose_spec
  exact .inr ⟨_,rfl,k1,k2,k3⟩
 ·exact .inl rfl
theorem LBC {text:AA} {a:Nat} {V:Int} (hs:text.size<=140737488351232) (hV0:0<=V) (hV:V<=1000000000) (hA:At text a (SN V)):Avr text a=(V,((a+(SN V).length:Nat):Int),true):=by unfold Avr;split;all_goals grind [EBo]
noncomputable def Oz (file:AA) (a:Nat):Option (AA×Nat):=
 bif (Avr file a).2.2 && (AyM (Avr file a).1 1 9000 && (decide ((Avr file a).1<=(file.size:Int) - (Avr file a).2.1 - 4) &&
  (bs (file.extract (Avr file a).2.1.toNat ((Avr file a).2.1+4).toNat) == four (V5 (bs (file.extract ((Avr file a).2.1+4).toNat ((Avr file a).2.1+4+(Avr file a).1).toNat))))))
 then some (file.extract ((Avr file a).2.1+4).toNat ((Avr file a).2.1+4+(Avr file a).1).toNat,((Avr file a).2.1+4+(Avr file a).1).toNat) else none
noncomputable def KT:Nat->AA->Nat->List AA×Nat
 | 0,_,a=>([],a)
 | j+1,file,a=>match Oz file a with
  | none=>([],a)
  | some p=>(p.1::(KT j file p.2).1,(KT j file p.2).2)
noncomputable def Qw (file:AA):List AA×Int:=bif decide ((file.size:Int) > 20000) then ([],0) else ((KT (file.size+1) file 0).1,((KT (file.size+1) file 0).2:Int))
theorem nN {file:AA} {a:Nat} (hs:file.size<=140737488351232) (ha:a<=file.size):(Oz file a=none)\/∃ (v:Int) (q:Nat),Avr file a=(v,(q:Int),true)/\a<q/\q=a+(SN v).length/\1<=v/\v<=9000/\q+4+v.toNat<=file.size/\At file a (SN v)/\
  bs (file.extract q (q+4))=four (V5 (bs (file.extract (q+4) (q+4+v.toNat))))/\Oz file a=some (file.extract (q+4) (q+4+v.toNat),q+4+v.toNat):=by
 rw [Oz];rcases yF hs ha with h | ⟨v,h,h0,h1,hA⟩
 ·left;rw [h];rfl
 ·rw [h];have hp:=Avw v;have hsz:=hA.size.resolve_left (by grind);generalize hq:a+(SN v).length=q at hsz;simp only [Bool.true_and];cases h2:AyM v 1 9000;all_goals grind [Na]
def Axj:List AA->List Int
 | []=>[]
 | t::ts=>Hq (bs t)++Axj ts
def whole:List AA->Nat->Nat
 | [],_=>0
 | t::ts,K=>if (Hq (bs t)).length<=K then whole ts (K - (Hq (bs t)).length)+1 else 0
theorem FAh (l:List Int):(Hq l).length=(SN (l.length:Int)).length+4+l.length:=by grind [four,Hq]
theorem NBN (ts us:List AA):Axj (ts++us)=Axj ts++Axj us:=by induction ts<;>simp_all [Axj]
theorem DAs (ts:List AA):∀ K,whole ts K<=K/\whole ts K<=ts.length/\(Axj (ts.take (whole ts K))).length<=K:=by induction ts<;>grind [whole,FAh,Axj]
theorem MBC (ts:List AA):∀ K,(Axj ts).length<=K->whole ts K=ts.length:=by induction ts<;>grind [Axj,whole]
theorem FBo {file l:AA} {a:Nat} (hs:file.size<=140737488351232) (h1:1<=l.size) (h2:l.size<=9000) (hA:At file a (Hq (bs l))):Oz file a=some (l,a+(Hq (bs l)).length):=by
 have hA':At file a (SN (l.size:Int)++(four (V5 (bs l))++bs l)):=by simp_all [Hq,bs_len]
 have e1:=LBC hs (by omega) (by omega) hA'.left;have hB:=hA'.right;have hC:=hB.right;have h4:(four (V5 (bs l))).length=4:=rfl;have hx4:=hB.left.extract (Xa (ZH (bs l)));have hxl:=hC.extract (AxC l);rw [h4] at hx4 hxl hC;rw [bs_len,JAg] at hxl;have hz:a+(SN (l.size:Int)).length+4+l.size<=file.size:=by
  rcases hC.size with h | h
  all_goals grind [bs_len]
 have hlen:=FAh (bs l);rw [bs_len] at hlen;rw [Oz,e1,hlen];generalize (SN (l.size:Int)).length=n at hx4 hxl hz;dsimp only;have t0:((a+n:Nat):Int).toNat=a+n:=BR _;have t1:(((a+n:Nat):Int)+4).toNat=a+n+4:=by omega
 have t2:(((a+n:Nat):Int)+4+(l.size:Int)).toNat=a+n+4+l.size:=by omega
 rw [t0,t1,t2,hx4,hxl,Oa (Xa (ZH (bs l))),beq_self_eq_true,Na.2 (show 1<=(l.size:Int)/\(l.size:Int)<=9000 by omega),show decide ((l.size:Int)<=(file.size:Int) - ((a+n:Nat):Int) - 4)=true from Ba (by omega)];grind
theorem GBo {file l:AA} {a:Nat} {rest:List Int} (hs:file.size<=140737488000000) (ha:a<=file.size) (h2:l.size<=9000) (hr:0<rest.length) (hrb:Hw rest) (hA:(bs file).drop a++rest=Hq (bs l)):Oz file a=none:=by
 rcases nN (file:=file) (a:=a) (by omega) ha with h | ⟨v,q,_,hq,hq2,hv1,hv2,h3,hAv,_,_⟩
 ·exact h
 ·exfalso;have hl:=FAh (bs l);rw [bs_len] at hl;have HN:=KX (n:=(l.size:Int)) (by omega);have hlen:=congrArg List.length hA;rw [List.length_append,List.length_drop,bs_len] at hlen;have hb:bs (file++ofBytes rest)=bs file++rest:=by rw [Hr,Oa hrb]
  have hd:(bs (file++ofBytes rest)).drop a=Hq (bs l):=by simp_all [List.drop_append_of_le_length,bs_len]
  have hz:(file++ofBytes rest).size=file.size+rest.length:=by simp [Dj]
  have e1:=LBC (text:=file++ofBytes rest) (a:=a) (V:=(l.size:Int)) (by omega) (by omega) (by omega) ⟨four (V5 (bs l))++bs l,by grind [Hq,bs_len]⟩;obtain ⟨x,hx⟩:=hAv
  have e2:=LBC (text:=file++ofBytes rest) (a:=a) (V:=v) (by omega) (by omega) (by omega) ⟨x++rest,by simp_all⟩;grind
theorem HBo {file:AA} (hs:file.size<=140737488000000):∀ (ts:List AA) (K m a:Nat),(∀ t ∈ ts,1<=t.size/\t.size<=9000)->a<=file.size->(bs file).drop a=(Axj ts).take K->whole ts K<m->KT m file a=(ts.take (whole ts K),a+(Axj (ts.take (whole ts K))).length):=by
 intro ts;induction ts with
 | nil=>
  intro K m a _ ha hd hm;obtain ⟨m,rfl⟩:∃ n,m=n+1:=⟨m - 1,by omega⟩
  grind [bs_len,Axj,KT,nN]
 | cons t ts ih=>
  intro K m a ht ha hd hm;obtain ⟨m,rfl⟩:∃ n,m=n+1:=⟨m - 1,by omega⟩
  have ht0:=ht t (List.mem_cons_self ..);rw [whole] at hm ⊢;rw [Axj,List.take_append] at hd;split at hm
  ·rename_i h;rw [if_pos h];rw [List.take_of_length_le h] at hd;have hA:At file a (Hq (bs t)):=⟨_,hd⟩
   have hz:a+(Hq (bs t)).length<=file.size:=by
    rcases hA.size with h | h
    all_goals grind
   rw [KT,FBo (by omega) ht0.1 ht0.2 hA];have hd2:(bs file).drop (a+(Hq (bs t)).length)=(Axj ts).take (K - (Hq (bs t)).length):=by grind [List.drop_drop,List.drop_left]
   dsimp only;rw [ih _ m _ (fun x hx=>ht x (List.mem_cons_of_mem _ hx)) hz hd2 (by omega),List.take_succ_cons,Axj,List.length_append];grind
  ·rename_i h;rw [if_neg h];rw [show K - (Hq (bs t)).length=0 by omega,List.take_zero,List.append_nil] at hd;rw [KT,GBo (file:=file) (l:=t) (rest:=(Hq (bs t)).drop K) hs ha ht0.2 (by grind) (fun n hn=>zJ (AxC t) n (List.mem_of_mem_drop hn)) (by simp_all)];rfl
theorem EAs:∀ {a m:List Int},Hw a->a.length<=m.length->AyY (AyY a m) m=a
 | [],_,_,_=>by rfl
 | _::_,[],_,h=>by simp at h
 | x::a,y::m,hb,h=>by have h1:=EAs (a:=a) (m:=m) (fun n hn=>hb n (List.mem_cons_of_mem _ hn)) (by simpa using h);simp only [AyY] at h1 ⊢;rw [List.zipWith_cons_cons,List.zipWith_cons_cons,h1,OBl (hb x (List.mem_cons_self ..))]
theorem IBo {k t:AA} {num:Int} (h:(Ee k num t).2=true):16<=t.size/\MB num ((t.size:Int) - 16)=true/\Ql (bs k) num ((bs t).take (t.size - 16))=(bs t).drop (t.size - 16)/\bs (Ee k num t).1=AyY ((bs t).take (t.size - 16)) (Qq (bs k) (SN num) (t.size - 16))/\bs t=(bs t).take (t.size - 16)++Ql (bs k) num ((bs t).take (t.size - 16)):=by
 rw [Ee] at h ⊢;cases h1:decide ((t.size:Int)<16) || !(MB num ((t.size:Int) - 16))
 ·rw [h1,Aq] at h;rw [Bool.or_eq_false_iff,decide_eq_false_iff_not,Bool.not_eq_false'] at h1;cases h2:(Ql (bs k) num ((bs t).take (t.size - 16)) == (bs t).drop (t.size - 16))
  ·simp_all
  ·rw [Aq,Ar,Oa (XH _ _)];grind [List.take_append_drop]
 simp_all
theorem yE (k t:AA) (num:Int):(Ee k num t).1.size<=t.size:=by
 have hl:=bs_len t;rw [Ee];cases decide ((t.size:Int)<16) || !(MB num ((t.size:Int) - 16))
 ·rw [Aq];cases (Ql (bs k) num ((bs t).take (t.size - 16)) == (bs t).drop (t.size - 16));·exact DJ _
  grind [Dj,AyY]
 ·exact DJ _
theorem JBo {k:AA} {num:Int} {s:List Int} (hs:Hw s) (hm:MB num s.length=true):Ee k num (ofBytes (OG (bs k) num s))=(ofBytes s,true):=by
 have hx:(AyY s (Qq (bs k) (SN num) s.length)).length=s.length:=gI (by simp [Ub]);have hb:Hw (OG (bs k) num s):=fun x hx=>by
  rcases List.mem_append.1 hx with hx | hx
  ·exact XH _ _ x hx
  ·exact Vf _ _ _ x hx
 have hsz:(ofBytes (OG (bs k) num s)).size=s.length+16:=by simp_all [Dj,OG,qc]
 rw [Ee,Oa hb,hsz,Nat.add_sub_cancel,show ((s.length+16:Nat):Int) - 16=(s.length:Int) by omega,hm];grind [OG,EAs,Ub]
theorem KBo {k t:AA} {num:Int} (h:(Ee k num t).2=true):OG (bs k) num (bs (Ee k num t).1)=bs t:=by
 obtain ⟨h1,h2,h3,h4,h5⟩:=IBo h
 have hl:((bs t).take (t.size - 16)).length=t.size - 16:=by grind [bs_len]
 have hx:(bs (Ee k num t).1).length=t.size - 16:=by grind [gI,Ub]
 rw [OG,hx,h4,EAs (fun n hn=>AxC t n (List.mem_of_mem_take hn)) (by grind [Ub]),<-h5]
theorem LBo {k:AA} {num:Int} {a b:List Int} (ha:Hw a) (hb:Hw b) (h:OG (bs k) num a=OG (bs k) num b):a=b:=by grind [gI,Ub,OG,List.length_append,qc,List.append_inj,EAs]
def Zi (text:AA) (c:Jz):Prop:=∃ p:Nat,∃ b:Bool,c=⟨text,(p:Int),b⟩/\p<=text.size
theorem FAs {text:AA} {c:Jz} (hs:text.size<=140737488351232) (h:Zi text c):∃ v c',Zj c=some (v,c')/\Zi text c'/\0<=v/\v<=1000000000:=by
 obtain ⟨p,b,rfl,hp⟩:=h
 obtain ⟨r,hr,hR⟩:=VBn hs hp
 simp only [Zj,NAl,hr,AP];cases b
 ·rcases hR with rfl | ⟨v,q,rfl,h0,h1,_,h3⟩
  ·exact ⟨_,_,rfl,⟨p,true,rfl,hp⟩,by omega,by omega⟩
  ·exact ⟨_,_,rfl,⟨q,false,rfl,h3⟩,h0,h1⟩
 ·exact ⟨_,_,rfl,⟨p,true,rfl,hp⟩,by omega,by omega⟩
theorem HAh {text:AA} {a:Nat} {V:Int} (hs:text.size<=140737488351232) (hV0:0<=V) (hV:V<=1000000000) (hA:At text a (SN V)):Zj ⟨text,(a:Int),false⟩=some (V,⟨text,((a+(SN V).length:Nat):Int),false⟩):=by simp only [Zj,NAl,IBN hs hV0 hV hA,AP];rfl
theorem NBC {text:AA} {c:Jz} {n:Int} (hs:text.size<=140737488351232) (h:Zi text c) (h0:0<=n) (h1:n<=1000000000):∃ s c',Axv c n=some (s,c')/\Zi text c'/\s.size<=1000000000/\(c'.I7=false->(s.size:Int)=n/\c.ER+n<=(text.size:Int)):=by
 obtain ⟨p,b,rfl,hp⟩:=h
 simp only [Axv,OAl,mk];have e1:AV ((text.size:Int) - (p:Int))=(text.size:Int) - p:=A8 (by omega) (by omega);have e2:AV ((p:Int)+n)=p+n:=A8 (by omega) (by omega);have e3:AV ((p:Int)+n - n)=p:=by grind [A8]
 rw [e1,e2,e3];cases b
 ·by_cases hn:n > (text.size:Int) - p;·rw [show decide (n > (text.size:Int) - p)=true from Ba hn];exact ⟨_,_,rfl,⟨p,true,rfl,hp⟩,by show 0<=_;omega,fun h=>by cases h⟩
  ·rw [show decide (n > (text.size:Int) - p)=false from D6 hn,show decide ((0:Int)<=(p:Int))=true from Ba (by omega),show decide ((p:Int)<=p+n)=true from Ba (by omega),show decide ((p:Int)+n<=(text.size:Int))=true from Ba (by omega)];have hz:(text.extract (p:Int).toNat ((p:Int)+n).toNat).size=n.toNat:=by grind [ByteArray.size_extract]
   refine ⟨_,_,rfl,⟨((p:Int)+n).toNat,false,?_,by omega⟩,by omega,fun _=>⟨by omega,by omega⟩⟩;grind
 ·exact ⟨_,_,rfl,⟨p,true,rfl,hp⟩,by show 0<=_;omega,fun h=>by cases h⟩
theorem OBC {text:AA} {p:Nat} {s:AA} (hs:text.size<=140737488351232) (hA:At text p (bs s)) (hp:p<=text.size):Axv ⟨text,(p:Int),false⟩ (s.size:Int)=some (s,⟨text,((p+s.size:Nat):Int),false⟩):=by
 have hz:p+s.size<=text.size:=by
  rcases hA.size with h | h
  all_goals grind [bs_len]
 have e1:AV ((text.size:Int) - (p:Int))=(text.size:Int) - p:=A8 (by omega) (by omega);have e2:AV ((p:Int)+(s.size:Int))=((p+s.size:Nat):Int):=by grind [A8]
 have e3:AV (((p+s.size:Nat):Int) - (s.size:Int))=p:=by grind [A8]
 simp only [Axv,OAl,mk,e1,e2,e3,BR];have hx:=hA.extract (fun n hn=>DBB hn);grind [bs_len,JAg]
theorem PBC {text:AA} {c:Jz} (hs:text.size<=140737488351232) (h:Zi text c):∃ v c',Azc c=some (v,c')/\Zi text c'/\0<=v/\v<=255/\(c'.I7=true->v=0)/\(c'.I7=false->c.ER+1<=(text.size:Int)):=by
 obtain ⟨s,c',e,hc,_,hn⟩:=NBC (n:=1) hs h (by omega) (by omega)
 simp only [Azc,PAl,mk,e,AP];cases hb:c'.I7
 ·obtain ⟨h1,h2⟩:=hn hb
  rw [show decide ((0:Int)<=(0:Int))=true from rfl,show decide ((0:Int)<(s.size:Int))=true from Ba (by omega)];have:=Ud s 0;grind [A8]
 grind
theorem sZ {text:AA} {p:Nat} {b:Int} (hs:text.size<=140737488351232) (hA:At text p [b]):Azc ⟨text,(p:Int),false⟩=some (b,⟨text,((p+1:Nat):Int),false⟩):=by
 obtain ⟨h1,h2⟩:=hA.head
 have hb:=Ud text p;rw [h2] at hb;have hB:bs (ofBytes [b])=[b]:=Oa (by simp_all);have e:=OBC (s:=ofBytes [b]) hs (by simp_all) (Nat.le_of_lt h1);have h0:bt (ofBytes [b]) 0=b:=by grind [lW,Dj]
 simp only [Azc,PAl,mk];rw [show Axv ⟨text,(p:Int),false⟩ 1=_ from e];simp only [AP,h0,A8 (n:=b) (by omega) (by omega)];rfl
theorem MBo {text:AA} {c:Jz} (hs:text.size<=140737488351232) (h:Zi text c):∃ s c',su c=some (s,c')/\Zi text c'/\s.size<=1000000000:=by
 obtain ⟨v,c1,e1,h1,h2,h3⟩:=FAs hs h
 obtain ⟨s,c2,e2,h4,h5,_⟩:=NBC hs h1 h2 h3
 simp only [su,QAl,e1,e2,AP];grind
theorem NBo {text:AA} {p:Nat} {s:AA} (hs:text.size<=140737488351232) (hz:s.size<=1000000000) (hA:At text p (SN (s.size:Int)++bs s)):su ⟨text,(p:Int),false⟩=some (s,⟨text,((p+(SN (s.size:Int)).length+s.size:Nat):Int),false⟩):=by
 have hp:p+(SN (s.size:Int)).length<=text.size:=by
  rcases hA.left.size with h | h
  all_goals grind [Avw]
 simp only [su,QAl,HAh hs (by omega) (by omega) hA.left,OBC hs hA.right hp,AP]
theorem OBo (x:Af):(((Aw1 x).tmod 2 == 1)=x.CY)/\(((AV ((Aw1 x).tdiv 2)).tmod 2 == 1)=x.CX)/\(((AV ((Aw1 x).tdiv 4)).tmod 2 == 1)=x.Gw)/\(((AV ((Aw1 x).tdiv 8)).tmod 2 == 1)=x.GH):=by unfold Aw1;cases x.CY <;> cases x.CX <;> cases x.Gw <;> cases x.GH <;> decide
theorem OBN {x:Af} (h:AwH x=true):bs (Za x)=SN x.fId++([x.Aj]++([Aw1 x]++((SN (x.fValue.size:Int)++bs x.fValue)++SN x.fNext))):=by
 obtain ⟨k1,k2,k3,k4,k5,k6,k7⟩:=Ny h
 have hf:=RAg x;unfold Za Avx;simp only [Hr,Oa (Uf x.fId (by omega)),Oa (Uf x.fNext (by omega)),Oa (Uf (x.fValue.size:Int) (by omega)),Oa (l:=[x.Aj]) (by grind),Oa (l:=[Aw1 x]) (by grind),List.append_assoc]
def GAs (text:AA) (r:Af×Bool):Prop:=(r.2=true/\IV r.1=(text,true))\/r=(⟨(0:Int),(0:Int),false,false,false,false,(⟨#[]⟩:AA),(0:Int)⟩,false)
theorem PBN {text:AA} (hs:text.size<=140737488351232):∃ r,Xh text=some r/\GAs text r:=by
 obtain ⟨v0,c0,e0,h0,_⟩:=FAs hs (c:=⟨text,(0:Int),false⟩) ⟨0,false,rfl,by omega⟩
 obtain ⟨v1,c1,e1,h1,_⟩:=PBC hs h0
 obtain ⟨v2,c2,e2,h2,_⟩:=PBC hs h1
 obtain ⟨v3,c3,e3,h3,_⟩:=MBo hs h2
 obtain ⟨v4,c4,e4,h4,_⟩:=FAs hs h3
 simp only [Xh,RAl,mk,e0,e1,e2,e3,e4,x9,AP];cases c4.I7
 ·cases h5:(IV (⟨v0,v1,v2.tmod 2 == 1,(AV (v2.tdiv 2)).tmod 2 == 1,(AV (v2.tdiv 4)).tmod 2 == 1,(AV (v2.tdiv 8)).tmod 2 == 1,v3,v4⟩:Af)).2;·exact ⟨_,rfl,.inr rfl⟩
  ·rw [toList_inj];by_cases h6:(IV (⟨v0,v1,v2.tmod 2 == 1,(AV (v2.tdiv 2)).tmod 2 == 1,(AV (v2.tdiv 4)).tmod 2 == 1,(AV (v2.tdiv 8)).tmod 2 == 1,v3,v4⟩:Af)).1=text;·rw [Ba h6];exact ⟨_,rfl,.inl ⟨rfl,Prod.ext h6 h5⟩⟩
   ·rw [D6 h6];exact ⟨_,rfl,.inr rfl⟩
 ·exact ⟨_,rfl,.inr rfl⟩
theorem QBC {text:AA} {x:Af} (h:IV x=(text,true)):AwH x=true/\text=Za x:=by grind [IV]
theorem QBN {text:AA} {x:Af} (hs:text.size<=140737488351232) (h:IV x=(text,true)):Xh text=some (x,true):=by
 obtain ⟨ho,rfl⟩:=QBC h
 obtain ⟨k1,k2,k3,k4,k5,k6,k7⟩:=Ny ho
 have hf:=RAg x;have hA:At (Za x) 0 _:=⟨[],by rw [List.drop_zero,OBN ho,List.append_nil]⟩
 have a1:=hA.right;have a2:=a1.right;have a3:=a2.right;have a4:=a3.right;have e0:=HAh hs (by omega) (by omega) hA.left;have e1:=sZ hs a1.left;have e2:=sZ hs a2.left;have e3:=NBo hs (by omega) a3.left;have e4:=HAh hs (by omega) (by omega) a4;simp only [List.length_append,bs_len,List.length_singleton,Nat.zero_add,<-Nat.add_assoc] at e0 e1 e2 e3 e4;obtain ⟨b1,b2,b3,b4⟩:=OBo x
 simp only [Xh,RAl,mk];rw [show ((0:Int))=((0:Nat):Int) from rfl,e0];simp_all [x9]
def Rw:Ah:=⟨(0:Int),(⟨#[]⟩:AA),(0:Int),(⟨(0:Int),(0:Int),false,false,false,false,(⟨#[]⟩:AA),(0:Int)⟩:Af)⟩
def tC (text:AA) (r:Ah×Bool):Prop:=(r.2=true/\Ax8 r.1=(text,true))\/r=(Rw,false)
theorem tH {text:AA} (x:Ah) (bad:Bool):∃ r,(bif bad then some (Rw,false) else bif !(Ax8 x).2 then some (Rw,false) else bif !((ByteArray.toList (Ax8 x).1) == (ByteArray.toList text)) then some (Rw,false) else some (x,true))=some r/\tC text r:=by
 cases bad
 ·cases h5:(Ax8 x).2;·exact ⟨_,rfl,.inr rfl⟩
  ·rw [toList_inj];by_cases h6:(Ax8 x).1=text;·rw [Ba h6];exact ⟨_,rfl,.inl ⟨rfl,Prod.ext h6 h5⟩⟩
   ·rw [D6 h6];exact ⟨_,rfl,.inr rfl⟩
 ·exact ⟨_,rfl,.inr rfl⟩
theorem PBo {text:AA} (hs:text.size<=140737488351232):∃ r,Uw text=some r/\tC text r:=by
 obtain ⟨v0,c0,e0,h0,_,_,hz,hn⟩:=PBC hs (c:=⟨text,(0:Int),false⟩) ⟨0,false,rfl,by omega⟩
 obtain ⟨v1,c1,e1,h1,_⟩:=NBC (n:=32) hs h0 (by omega) (by omega)
 obtain ⟨v3,c3,e3,h3,_⟩:=FAs hs h0
 simp only [Uw,iL,mk,e0,e1,e3,iC,AP];cases v0 == 1
 ·simp only [Aq];cases v0 == 2
  ·simp only [Aq];cases v0 == 4
   ·simp only [Aq];cases h:v0 == 3;·exact tH _ _
    ·have hv:v0=3:=beq_iff_eq.1 h;have hsz:(0:Int)+1<=(text.size:Int):=by simp_all
     obtain ⟨r,e5,_⟩:=PBN (text:=text.extract (1:Int).toNat text.size) (by grind [ByteArray.size_extract])
     rw [show decide ((1:Int)<=(text.size:Int))=true from Ba (by omega),e5];exact tH _ _
   ·exact tH _ _
  ·exact tH _ _
 ·exact tH _ _
theorem RBC {text:AA} {x:Ah} (h:Ax8 x=(text,true)) :
  (∃ s:AA,x=⟨1,s,0,Rw.Ag⟩/\s.size=32/\text=ofBytes [1]++s)\/(∃ n:Int,x=⟨2,Rw.fText,n,Rw.Ag⟩/\0<=n/\n<=3/\text=ofBytes [2]++ofBytes (SN n))\/
  (∃ t:Af,∃ s:AA,x=⟨3,Rw.fText,0,t⟩/\IV t=(s,true)/\text=ofBytes [3]++s)\/(∃ n:Int,x=⟨4,Rw.fText,n,Rw.Ag⟩/\1<=n/\n<=1000/\text=ofBytes [4]++ofBytes (SN n)):=by
 have hE:∀ s:AA,JB s=true->s=⟨#[]⟩:=fun s h=>by grind [JB,toList_inj]
 have hZ:∀ t:Af,JC t=true->t=Rw.Ag:=fun t h=>by
  unfold JC at h;simp only [KBB] at h;obtain ⟨t1,t2,t3,t4,t5,t6,t7,t8⟩:=t
  simp only [Bool.and_eq_true,beq_iff_eq] at h;obtain ⟨rfl,rfl,rfl,rfl,rfl,rfl,h7,rfl,_⟩:=h
  rw [hE _ h7];rfl
 obtain ⟨k,s,n,t⟩:=x
 unfold Ax8 at h;simp only at h;cases k1:k == 1 <;> rw [k1] at h
 ·cases k2:k == 2 <;> rw [k2] at h
  ·cases k3:k == 3 <;> rw [k3] at h
   ·cases k4:k == 4 <;> rw [k4] at h;·exact Bool.noConfusion (congrArg Prod.snd h)
    ·simp only [Aq,Ar] at h;cases hc:JB s && JC t && AyM n 1 1000 <;> rw [hc] at h;·exact Bool.noConfusion (congrArg Prod.snd h)
     ·simp only [Bool.and_eq_true,Na] at hc;refine .inr (.inr (.inr ⟨n,?_,hc.2.1,hc.2.2,(congrArg Prod.fst h).symm⟩));rw [beq_iff_eq.1 k4,hE _ hc.1.1,hZ _ hc.1.2];rfl
   ·simp only [Aq,Ar] at h;cases hc:(IV t).2 && JB s && n == 0 <;> rw [hc] at h;·exact Bool.noConfusion (congrArg Prod.snd h)
    ·simp only [Bool.and_eq_true,beq_iff_eq] at hc;refine .inr (.inr (.inl ⟨t,(IV t).1,?_,Prod.ext rfl hc.1.1,(congrArg Prod.fst h).symm⟩));rw [beq_iff_eq.1 k3,hE _ hc.1.2,hc.2];rfl
  ·simp only [Aq,Ar] at h;cases hc:JB s && JC t && AyM n 0 3 <;> rw [hc] at h;·exact Bool.noConfusion (congrArg Prod.snd h)
   ·simp only [Bool.and_eq_true,Na] at hc;refine .inr (.inl ⟨n,?_,hc.2.1,hc.2.2,(congrArg Prod.fst h).symm⟩);rw [beq_iff_eq.1 k2,hE _ hc.1.1,hZ _ hc.1.2];rfl
 ·simp only [Aq,Ar] at h;cases hc:(s.size:Int) == 32 && n == 0 && JC t <;> rw [hc] at h;·exact Bool.noConfusion (congrArg Prod.snd h)
  grind
theorem iM {k:Int} {s:AA} (h0:0<=k) (h1:k<=255):At (ofBytes [k]++s) 0 ([k]++bs s):=⟨[],by simp_all [Hr,Oa]⟩
theorem SBC {k:Int} {s:AA}:(ofBytes [k]++s).extract (1:Int).toNat (ofBytes [k]++s).size=s:=by apply KW;rw [Awj,<-bs_len,List.take_length,Hr];rfl
theorem QBo {text:AA} {x:Ah} (hs:text.size<=140737488351232) (h:Ax8 x=(text,true)):Uw text=some (x,true):=by
 rcases RBC h with ⟨s,rfl,hz,rfl⟩ | ⟨n,rfl,h0,h1,rfl⟩ | ⟨t,s,rfl,ht,rfl⟩ | ⟨n,rfl,h0,h1,rfl⟩
 ·have hA:=iM (k:=1) (s:=s) (by omega) (by omega);have e0:=sZ hs hA.left;have e1:=OBC hs hA.right (by simp_all);simp only [List.length_singleton,Nat.zero_add,hz] at e0 e1;simp only [Uw,iL,mk];rw [show Azc ⟨ofBytes [1]++s,(0:Int),false⟩=_ from e0];simp only [AP];rw [show Axv ⟨ofBytes [1]++s,((1:Nat):Int),false⟩ 32=_ from e1];have h':Ax8 ⟨1,s,0,⟨(0:Int),(0:Int),false,false,false,false,(⟨#[]⟩:AA),(0:Int)⟩⟩=_:=h;simp only [AP,iC,h',Oe];rfl
 ·have hA:=iM (k:=2) (s:=ofBytes (SN n)) (by omega) (by omega);rw [Oa (Uf n h0)] at hA;have e0:=sZ hs hA.left;have e1:=HAh hs (by omega) (by omega) hA.right;simp only [List.length_singleton,Nat.zero_add] at e0 e1;simp only [Uw,iL,mk];rw [show Azc ⟨ofBytes [2]++ofBytes (SN n),(0:Int),false⟩=_ from e0];have h':Ax8 ⟨2,⟨#[]⟩,n,⟨(0:Int),(0:Int),false,false,false,false,(⟨#[]⟩:AA),(0:Int)⟩⟩=_:=h;simp only [AP,e1,iC,h',Oe];rfl
 ·have hA:=iM (k:=3) (s:=s) (by omega) (by omega);have e0:=sZ hs hA.left;have hsz:s.size<=140737488351232:=by grind
  have e1:=QBN hsz ht;simp only [List.length_singleton,Nat.zero_add] at e0;simp only [Uw,iL,mk];rw [show Azc ⟨ofBytes [3]++s,(0:Int),false⟩=_ from e0];have h':Ax8 ⟨3,⟨#[]⟩,0,t⟩=_:=h;have hd:decide ((1:Int)<=((ofBytes [3]++s).size:Int))=true:=Ba (by grind [Dj]);simp only [AP,SBC,e1,iC,h',Oe,hd];rfl
 ·have hA:=iM (k:=4) (s:=ofBytes (SN n)) (by omega) (by omega);rw [Oa (Uf n (by omega))] at hA;have e0:=sZ hs hA.left;have e1:=HAh hs (by omega) (by omega) hA.right;simp only [List.length_singleton,Nat.zero_add] at e0 e1;simp only [Uw,iL,mk];rw [show Azc ⟨ofBytes [4]++ofBytes (SN n),(0:Int),false⟩=_ from e0];have h':Ax8 ⟨4,⟨#[]⟩,n,⟨(0:Int),(0:Int),false,false,false,false,(⟨#[]⟩:AA),(0:Int)⟩⟩=_:=h;simp only [AP,e1,iC,h',Oe];rfl
def HAs (text:AA) (c:Kw):Prop:=∃ p:Nat,∃ b:Bool,c=⟨text,(p:Int),b⟩/\p<=text.size
theorem IAs {text:AA} {c:Kw} (hs:text.size<=140737488351232) (h:HAs text c):∃ v c',tJ c=some (v,c')/\HAs text c':=by
 obtain ⟨p,b,rfl,hp⟩:=h
 obtain ⟨r,hr,hR⟩:=JBC hs hp
 simp only [tJ,OAo,hr,AP];rcases hR with rfl | ⟨v,q,rfl,h0,h1,_,h3⟩
 ·exact ⟨_,_,rfl,⟨p,true,rfl,hp⟩⟩
 ·exact ⟨_,_,rfl,⟨q,b,rfl,h3⟩⟩
theorem JAs {text:AA} {a:Nat} {V:Int} (hs:text.size<=140737488351232) (hV0:0<=V) (hV:V<=1000000000) (hA:At text a (SN V)):tJ ⟨text,(a:Int),false⟩=some (V,⟨text,((a+(SN V).length:Nat):Int),false⟩):=by simp only [tJ,OAo,CAh hs hV0 hV hA,AP];rfl
theorem RBo {text:AA} {a:Nat} (hs:text.size<=140737488351232) (ha:a<=text.size):∃ s q ok,Xm text a=some (s,q,ok)/\(ok=true->∃ p:Nat,q=(p:Int)/\p<=text.size):=by
 obtain ⟨r,hr,hR⟩:=JBC hs ha
 simp only [Xm,FAc,mk,hr,AP];rcases hR with rfl | ⟨v,q,rfl,h0,h1,h2,h3⟩
 ·exact ⟨_,_,_,rfl,fun h=>by cases h⟩
 ·rw [A8 (n:=(text.size:Int) - (q:Int)) (by omega) (by omega),A8 (n:=(q:Int)+v) (by omega) (by omega)];simp only [DN,Aq];cases decide (v > 20000)
  ·by_cases hv:v > (text.size:Int) - (q:Int)
   ·rw [Ba hv];simp
   ·rw [D6 hv,show decide ((0:Int)<=(q:Int))=true from Ba (by omega),show decide ((q:Int)<=q+v)=true from Ba (by omega),show decide ((q:Int)+v<=(text.size:Int))=true from Ba (by omega)];exact ⟨_,_,_,rfl,fun _=>⟨((q:Int)+v).toNat,by omega,by omega⟩⟩
  simp
theorem SBo {text:AA} {p:Nat} {s:AA} (hs:text.size<=140737488351232) (hz:s.size<=20000) (hA:At text p (SN (s.size:Int)++bs s)):Xm text p=some (s,((p+(SN (s.size:Int)).length+s.size:Nat):Int),true):=by
 have hp:p+(SN (s.size:Int)).length<=text.size:=by
  rcases hA.left.size with h | h
  all_goals grind [Avw]
 have hA2:=hA.right;have hx:=hA2.extract (fun n hn=>DBB hn);rw [bs_len,JAg] at hx;simp only [Xm,FAc,mk,CAh hs (by omega) (by omega) hA.left,AP];generalize p+(SN (s.size:Int)).length=q at *
 have hz:q+s.size<=text.size:=by
  rcases hA2.size with h | h
  all_goals grind [bs_len]
 grind [A8]
theorem TBo {text:AA} {c:Kw} (hs:text.size<=140737488351232) (h:HAs text c):∃ v c',tK c=some (v,c')/\HAs text c':=by
 obtain ⟨p,b,rfl,hp⟩:=h
 obtain ⟨s,q,ok,hr,hR⟩:=RBo hs hp
 simp only [tK,PAo,mk,hr,AP];cases ok;·exact ⟨_,_,rfl,⟨p,true,rfl,hp⟩⟩
 ·obtain ⟨q,rfl,h3⟩:=hR rfl
  exact ⟨_,_,rfl,⟨q,b,rfl,h3⟩⟩
theorem UBo {text:AA} {p:Nat} {s:AA} (hs:text.size<=140737488351232) (hz:s.size<=20000) (hA:At text p (SN (s.size:Int)++bs s)):tK ⟨text,(p:Int),false⟩=some (s,⟨text,((p+(SN (s.size:Int)).length+s.size:Nat):Int),false⟩):=by simp only [tK,PAo,mk,SBo hs hz hA,AP];rfl
theorem xZ (x:Af):Xv x=some (AwH x):=by simp only [Xv,AR8,mk,AwE,AP,AwH,bne];grind [Na]
theorem ZI {n:Int} (h:n<=9223372036854775807):Xw n=some (ofBytes (SN n)):=by
 have key:∀ (n:Int) (m:Nat) (out:List Int),n<=9223372036854775807->(SN n).length<=m->out.length+(SN n).length<=1000->tN m (.c0 n out)=some (ofBytes (out++SN n)):=by
  intro n;induction n using SN.induct with
  | case1 n hn ih=>
   intro m out h1 h2 h3;rw [SN,if_pos hn] at h2 h3 ⊢;simp only [List.length_cons] at h2 h3;obtain ⟨m,rfl⟩:∃ k,m=k+1:=⟨m - 1,by omega⟩
   grind [SBL,tN,RAn]
  | case2 n hn=>
   intro m out h1 h2 h3;rw [SN,if_neg hn] at h2 h3 ⊢;simp at h2 h3;obtain ⟨m,rfl⟩:∃ k,m=k+1:=⟨m - 1,by omega⟩
   grind [tN,RAn]
 have hl:=KX h;exact key n AY [] h (Nat.le_of_lt (FM (by omega))) (by grind)
theorem Po {n:Int} (h:0<=n) (h2:n<=255):KP n=some (ofBytes [n]):=by simp_all [KP,BA4,mk,Nq]
theorem VBo {s:AA} (h:s.size<=140737488351232):UAn s=some (Avx s):=by simp only [UAn,DA4,mk,ZI (n:=(s.size:Int)) (by omega),AP];have:=KX (n:=(s.size:Int)) (by omega);rw [show decide ((ofBytes (SN (s.size:Int))).size+s.size<=9223372036854775807)=true from Ba (by grind [Dj])];rfl
theorem KAs (x:Af):tV x=some (IV x):=by
 simp only [tV,EA4,mk,xZ,AP,IV];cases h:AwH x;·rfl
 ·obtain ⟨k1,k2,k3,k4,k5,k6,k7⟩:=Ny h
  obtain ⟨z1,z2,z3⟩:=JBB h
  have hf:=RAg x;have e1:∀ n:Int,(ofBytes [n]).size=1:=fun n=>Dj _
  simp only [HBl,AP,ZI (n:=x.fId) (by omega),Po (n:=x.Aj) (by omega) (by omega),Po hf.1 (by omega),VBo (s:=x.fValue) (by omega),ZI (n:=x.fNext) (by omega),AEY,e1];simp only [DN,Aq,Ar]
  rw [show decide ((ofBytes (SN x.fId)).size+1<=9223372036854775807)=true from Ba (by omega),show decide ((ofBytes (SN x.fId)).size+1+1<=9223372036854775807)=true from Ba (by omega),
   show decide ((ofBytes (SN x.fId)).size+1+1+(Avx x.fValue).size<=9223372036854775807)=true from Ba (by omega),show decide ((ofBytes (SN x.fId)).size+1+1+(Avx x.fValue).size+(ofBytes (SN x.fNext)).size<=9223372036854775807)=true from Ba (by omega)]
  rfl
theorem WBo (x:Af):((AV (((BitVec.toNat ((BitVec.ofInt (IntKind.bits IntKind.i64) (Aw1 x)) &&& (BitVec.ofInt (IntKind.bits IntKind.i64) (1:Int)))):Nat):Int) != 0)=x.CY)/\((AV (((BitVec.toNat ((BitVec.ofInt (IntKind.bits IntKind.i64) (Aw1 x)) &&& (BitVec.ofInt (IntKind.bits IntKind.i64) (2:Int)))):Nat):Int) != 0)=x.CX)/\((AV (((BitVec.toNat ((BitVec.ofInt (IntKind.bits IntKind.i64) (Aw1 x)) &&& (BitVec.ofInt (IntKind.bits IntKind.i64) (4:Int)))):Nat):Int) != 0)=x.Gw)/\((AV (((BitVec.toNat ((BitVec.ofInt (IntKind.bits IntKind.i64) (Aw1 x)) &&& (BitVec.ofInt (IntKind.bits IntKind.i64) (8:Int)))):Nat):Int) != 0)=x.GH):=by unfold Aw1;cases x.CY <;> cases x.CX <;> cases x.Gw <;> cases x.GH <;> refine ⟨?_,?_,?_,?_⟩ <;> kernel_rfl
theorem RBN {text:AA} (hs:text.size<=140737488351232):∃ r,V7 text=some r/\GAs text r:=by
 obtain ⟨v0,c0,e0,h0⟩:=IAs hs (c:=⟨text,(0:Int),false⟩) ⟨0,false,rfl,by omega⟩
 obtain ⟨v1,c1,e1,h1⟩:=IAs hs h0
 obtain ⟨v2,c2,e2,h2⟩:=IAs hs h1
 obtain ⟨v3,c3,e3,h3⟩:=TBo hs h2
 obtain ⟨v4,c4,e4,h4⟩:=IAs hs h3
 simp only [V7,QAo,mk,e0,e1,e2,e3,e4,KAs,AP];generalize (AV (((BitVec.toNat ((BitVec.ofInt (IntKind.bits IntKind.i64) v2) &&& (BitVec.ofInt (IntKind.bits IntKind.i64) (1:Int)))):Nat):Int) != 0)=b1;generalize (AV (((BitVec.toNat ((BitVec.ofInt (IntKind.bits IntKind.i64) v2) &&& (BitVec.ofInt (IntKind.bits IntKind.i64) (2:Int)))):Nat):Int) != 0)=b2;generalize (AV (((BitVec.toNat ((BitVec.ofInt (IntKind.bits IntKind.i64) v2) &&& (BitVec.ofInt (IntKind.bits IntKind.i64) (4:Int)))):Nat):Int) != 0)=b3;generalize (AV (((BitVec.toNat ((BitVec.ofInt (IntKind.bits IntKind.i64) v2) &&& (BitVec.ofInt (IntKind.bits IntKind.i64) (8:Int)))):Nat):Int) != 0)=b4;cases c4.I7
 ·cases h5:(IV (⟨v0,v1,b1,b2,b3,b4,v3,v4⟩:Af)).2;·exact ⟨_,rfl,.inr rfl⟩
  ·rw [toList_inj];by_cases h6:(IV (⟨v0,v1,b1,b2,b3,b4,v3,v4⟩:Af)).1=text;·rw [Ba h6];exact ⟨_,rfl,.inl ⟨rfl,Prod.ext h6 h5⟩⟩
   ·rw [D6 h6];exact ⟨_,rfl,.inr rfl⟩
 ·exact ⟨_,rfl,.inr rfl⟩
theorem SBN {text:AA} {x:Af} (hs:text.size<=140737488351232) (h:IV x=(text,true)):V7 text=some (x,true):=by
 obtain ⟨ho,rfl⟩:=QBC h
 obtain ⟨k1,k2,k3,k4,k5,k6,k7⟩:=Ny ho
 have hf:=RAg x;have hA:At (Za x) 0 _:=⟨[],by rw [List.drop_zero,OBN ho,List.append_nil]⟩
 rw [<-iK (n:=x.Aj) (by omega) (by omega),<-iK (n:=Aw1 x) (by omega) (by omega)] at hA;have a1:=hA.right;have a2:=a1.right;have a3:=a2.right;have a4:=a3.right;have e0:=JAs hs (by omega) (by omega) hA.left;have e1:=JAs hs (by omega) (by omega) a1.left;have e2:=JAs hs (by omega) (by omega) a2.left;have e3:=UBo hs (by omega) a3.left;have e4:=JAs hs (by omega) (by omega) a4;simp only [List.length_append,bs_len,Nat.zero_add,<-Nat.add_assoc] at e0 e1 e2 e3 e4;obtain ⟨b1,b2,b3,b4⟩:=WBo x
 simp_all [V7,QAo,mk,KAs]
theorem XBo {text:AA} (hs:text.size<=140737488351232):∃ r,Xh text=some r/\V7 text=some r/\GAs text r:=by
 obtain ⟨r,hr,h⟩:=PBN hs
 obtain ⟨q,hq,h'⟩:=RBN hs
 rcases h with ⟨h1,h2⟩ | h
 ·grind [SBN]
 ·rcases h' with ⟨h1,h2⟩ | h'
  ·grind [QBN]
  ·exact ⟨r,hr,by simp_all,.inr h⟩
theorem Xj {r:Ah} (g:r.DR<=9223372036854775807):tX r=some (Ax8 r):=by
 simp only [tX,GA4,mk,AwE,KAs,ZI g,AP,UBL];simp only [KBB,Ax8];cases k1:r.Aj == 1
 ·simp only [Aq];cases k2:r.Aj == 2
  ·simp only [Aq];cases k3:r.Aj == 3
   ·simp only [Aq];cases k4:r.Aj == 4;·rfl
    ·have k:r.Aj=4:=by simp_all
     rw [k];simp only [beq_self_eq_true,Po (n:=4) (by omega) (by omega),AP,Bool.true_and,Ar];cases h:AyM r.DR 1 1000;·cases JB r.fText <;> cases JC r.Ag <;> rfl
     ·cases JB r.fText <;> cases JC r.Ag <;> (try rfl);simp only [DN,Aq,Ar,Bool.and_self,Ba (QAr (by omega) h 4)]
   ·have k:r.Aj=3:=by simp_all
    rw [k];simp only [beq_self_eq_true,Po (n:=3) (by omega) (by omega),AP,Bool.true_and,Ar,Bool.and_true];cases h:(IV r.Ag).2;·rfl
    ·cases JB r.fText <;> cases r.DR == 0 <;> (try rfl);simp_all [VBL]
  ·have k:r.Aj=2:=by simp_all
   rw [k];simp only [beq_self_eq_true,Po (n:=2) (by omega) (by omega),AP,Bool.true_and,Ar];cases h:AyM r.DR 0 3;·cases JB r.fText <;> cases JC r.Ag <;> rfl
   ·cases JB r.fText <;> cases JC r.Ag <;> (try rfl);simp only [DN,Aq,Ar,Bool.and_self,Ba (QAr (by omega) h 2)]
 ·have k:r.Aj=1:=by simp_all
  rw [k];simp only [beq_self_eq_true,Po (n:=1) (by omega) (by omega),AP,Bool.true_and,Ar];cases h:(r.fText.size:Int) == 32 <;> cases r.DR == 0 <;> cases JC r.Ag <;> (try rfl);grind [Dj]
theorem TBC {text:AA} (x:Ah):∃ r,(bif !(Ax8 x).2 then some (Rw,false) else bif !((ByteArray.toList (Ax8 x).1) == (ByteArray.toList text)) then some (Rw,false) else some (x,true))=some r/\tC text r:=tH x false
theorem YBo {text:AA} (hs:text.size<=140737488351232):∃ r,Ux text=some r/\tC text r:=by
 simp only [Ux,iO,mk];rw [toList_inj];by_cases he:text=⟨#[]⟩
 ·rw [Ba he];exact ⟨_,rfl,.inr rfl⟩
 ·have hz:0<text.size:=by
   rcases Nat.eq_zero_or_pos text.size with h | h
   ·exact absurd (KW (List.eq_nil_of_length_eq_zero (by simp_all [bs_len])):text=⟨#[]⟩) he
   omega
  rw [D6 he,show decide ((0:Int)<(text.size:Int))=true from Ba (by omega),show decide ((1:Int)<=(text.size:Int))=true from Ba (by omega)];have hb:=Ud text 0;rw [A8 (n:=bt text 0) (by omega) (by omega)];obtain ⟨⟨t,tb⟩,e1,_⟩:=RBN (text:=text.extract (1:Int).toNat text.size) (by grind [ByteArray.size_extract])
  obtain ⟨⟨v,q,ok⟩,e2,hR⟩:=JBC (a:=1) hs hz
  have hv:v<=1000000000:=by
   rcases hR with h | ⟨v',_,h,_,h1,_⟩
   all_goals simp_all [WL]
  rw [e1,show O0 text (1:Int)=_ from e2];simp only [AP,Aq,Ar,Bool.and_self];cases bt text 0 == 1
  ·simp only [Aq];cases bt text 0 == 3;·simp only [Aq];rw [Xj (by grind)];exact TBC _
   ·simp only [Ar];rw [Xj (by simp)];exact TBC _
  ·simp only [Ar];rw [Xj (by simp)];exact TBC _
theorem TBN {text:AA} {x:Ah} (hs:text.size<=140737488351232) (h:Ax8 x=(text,true)):Ux text=some (x,true):=by
 have hne:∀ (k:Int) (s:AA),(decide (ofBytes [k]++s=⟨#[]⟩))=false:=fun k s=>D6 fun h=>by grind [ByteArray.size,AEY,Dj]
 have hd:∀ (k:Int) (s:AA),decide ((0:Int)<((ofBytes [k]++s).size:Int))=true/\decide ((1:Int)<=((ofBytes [k]++s).size:Int))=true:=fun k s=>by grind [Dj]
 have hk:∀ (k:Int) (s:AA),0<=k->k<=255->AV (bt (ofBytes [k]++s) 0)=k:=fun k s h0 h1=>by rw [(iM (k:=k) (s:=s) h0 h1).left.head.2 |> fun e=>(show bt (ofBytes [k]++s) 0=k from e),A8 (by omega) (by omega)]
 rcases RBC h with ⟨s,rfl,hz,rfl⟩ | ⟨n,rfl,h0,h1,rfl⟩ | ⟨t,s,rfl,ht,rfl⟩ | ⟨n,rfl,h0,h1,rfl⟩
 ·have h':Ax8 ⟨1,s,0,⟨(0:Int),(0:Int),false,false,false,false,(⟨#[]⟩:AA),(0:Int)⟩⟩=_:=h;simp only [Ux,iO,mk,hk 1 s (by omega) (by omega),hd,SBC,Xj (r:=⟨1,s,0,⟨(0:Int),(0:Int),false,false,false,false,(⟨#[]⟩:AA),(0:Int)⟩⟩) (by simp),h',AP,toList_inj,hne];rfl
 ·have hA:=iM (k:=2) (s:=ofBytes (SN n)) (by omega) (by omega);rw [Oa (Uf n h0)] at hA;have e1:=CAh hs (by omega) (by omega) hA.right;simp only [List.length_singleton,Nat.zero_add] at e1;have e2:O0 (ofBytes [2]++ofBytes (SN n)) (1:Int)=_:=e1;have h':Ax8 ⟨2,⟨#[]⟩,n,⟨(0:Int),(0:Int),false,false,false,false,(⟨#[]⟩:AA),(0:Int)⟩⟩=_:=h;simp only [Ux,iO,mk,hk 2 _ (by omega) (by omega),hd,e2,AP,Xj (r:=⟨2,⟨#[]⟩,n,⟨(0:Int),(0:Int),false,false,false,false,(⟨#[]⟩:AA),(0:Int)⟩⟩) (by grind),h',toList_inj,hne];rfl
 ·have hsz:s.size<=140737488351232:=by grind
  have e1:=SBN hsz ht;have h':Ax8 ⟨3,⟨#[]⟩,0,t⟩=_:=h;simp only [Ux,iO,mk,hk 3 s (by omega) (by omega),hd,SBC,e1,AP,Xj (r:=⟨3,⟨#[]⟩,0,t⟩) (by simp),h',toList_inj,hne];rfl
 ·have hA:=iM (k:=4) (s:=ofBytes (SN n)) (by omega) (by omega);rw [Oa (Uf n (by omega))] at hA;have e1:=CAh hs (by omega) (by omega) hA.right;simp only [List.length_singleton,Nat.zero_add] at e1;have e2:O0 (ofBytes [4]++ofBytes (SN n)) (1:Int)=_:=e1;have h':Ax8 ⟨4,⟨#[]⟩,n,⟨(0:Int),(0:Int),false,false,false,false,(⟨#[]⟩:AA),(0:Int)⟩⟩=_:=h;simp only [Ux,iO,mk,hk 4 _ (by omega) (by omega),hd,e2,AP,Xj (r:=⟨4,⟨#[]⟩,n,⟨(0:Int),(0:Int),false,false,false,false,(⟨#[]⟩:AA),(0:Int)⟩⟩) (by grind),h',toList_inj,hne];rfl
noncomputable def Am (t:AA):Ah×Bool:=@dite _ (∃ x,Ax8 x=(t,true)) (Classical.propDecidable _) (fun h=>(h.choose,true)) (fun _=>(Rw,false))
theorem UBN {t:AA} {o:Option (Ah×Bool)} (h1:∃ r,o=some r/\tC t r) (h2:∀ x,Ax8 x=(t,true)->o=some (x,true)):o=some (Am t):=by
 unfold Am;split;·grind
 ·rename_i h;obtain ⟨r,hr,⟨_,k⟩ | k⟩:=h1
  all_goals simp_all
theorem ZBo {t:AA} (h:t.size<=140737488351232):Uw t=some (Am t):=UBN (PBo h) (fun _ hx=>QBo h hx)
theorem VBN {t:AA} (h:t.size<=140737488351232):Ux t=some (Am t):=UBN (YBo h) (fun _ hx=>TBN h hx)
theorem Alq {t:AA} (_:t.size<=140737488351232):tC t (Am t):=by
 unfold Am;split;·rename_i h;exact .inl ⟨rfl,h.choose_spec⟩
 ·exact .inr rfl
noncomputable def AxJ (k:AA):Int->List AA->List Ah×Int
 | _,[]=>([],0)
 | i,f::fs=>bif (Ee k i f).2 && (Am (Ee k i f).1).2 then ((Am (Ee k i f).1).1::(AxJ k (i+1) fs).1,((frameT f).1.size:Int)+(AxJ k (i+1) fs).2) else ([],0)
noncomputable def LM (k file:AA):List Ah×Int:=AxJ k 1 (Qw file).1
theorem BBp {file:AA} (hs:file.size<=140737488351232):∀ (j a:Nat),a<=file.size->(∀ f ∈ (KT j file a).1,f.size<=file.size)/\(KT j file a).1.length+a<=file.size/\(KT j file a).2<=file.size:=by
 intro j;induction j with
 | zero=>simp [KT]
 | succ j ih=>
  intro a ha;rw [KT];rcases nN hs ha with h | ⟨v,q,_,hq,_,_,_,h3,_,_,h⟩
  ·simp_all
  ·rw [h];obtain ⟨i1,i2,i3⟩:=ih (q+4+v.toNat) h3
   refine ⟨fun f hf=>?_,?_,i3⟩
   ·rcases List.mem_cons.1 hf with rfl | hf
    ·show (file.extract (q+4) (q+4+v.toNat)).size<=file.size;rw [ByteArray.size_extract];omega
    simp_all
   grind
theorem LAs {file:AA}:(∀ f ∈ (Qw file).1,f.size<=20000)/\(Qw file).1.length<=20000/\0<=(Qw file).2/\(Qw file).2<=(file.size:Int):=by
 rw [Qw];by_cases h:(file.size:Int) > 20000;·simp_all
 ·rw [D6 h];obtain ⟨h1,h2,h3⟩:=BBp (file:=file) (by omega) (file.size+1) 0 (DJ _)
  grind
theorem CBp (k:AA):∀ (fs:List AA) (i:Int),(AxJ k i fs).1.length<=fs.length:=by intro fs;induction fs<;>grind [AxJ]
theorem DBp (k:List Int) (num:Int) (s:List Int):(OG k num s).length=s.length+16:=by simp [OG,gI,Ub,qc]
theorem EBp {k s:AA} {num:Int} (h:(Axf k num s).2=true):Ee k num (Axf k num s).1=(s,true)/\(Axf k num s).1.size=s.size+16:=by grind [Axf,JBo,AxC,JAg,Dj,DBp]
def tx (k:AA):Int->List Ah->List AA
 | _,[]=>[]
 | i,r::rs=>(Axf k i (Ax8 r).1).1::tx k (i+1) rs
theorem Vp (k:AA):∀ (l:List Ah) (i:Int),(tx k i l).length=l.length
 | [],_=>rfl
 | r::rs,i=>by rw [tx,List.length_cons,List.length_cons,Vp k rs]
theorem eY (k:AA):∀ (l:List Ah) (i:Int) (w:Nat),(tx k i l).take w=tx k i (l.take w)
 | [],_,w=>by simp [tx]
 | r::rs,i,0=>rfl
 | r::rs,i,w+1=>by rw [tx,List.take_succ_cons,List.take_succ_cons,tx,eY k rs]
theorem UBC (k:AA):∀ (l q:List Ah) (i:Int),tx k i (l++q)=tx k i l++tx k (i+l.length) q
 | [],q,i=>by simp [tx]
 | r::rs,q,i=>by rw [List.cons_append,tx,tx,UBC k rs,List.length_cons,List.cons_append];rw [show i+1+(rs.length:Int)=i+((rs.length+1:Nat):Int) by omega]
def Sound (l:List Ah):Prop:=∀ r ∈ l,(Ax8 r).2=true
theorem JAh (k:AA):∀ (l:List Ah) (i:Int),0<=i->i+l.length<=1000000000->∀ t ∈ tx k i l,1<=t.size/\t.size<=320
 | [],_,_,_,t,ht=>by cases ht
 | r::rs,i,h0,h1,t,ht=>by
  rw [List.length_cons] at h1;rw [tx] at ht;rcases List.mem_cons.1 ht with rfl | ht
  ·have:=(WAg (k:=k) (s:=(Ax8 r).1) (num:=i) (by omega) (by have:=Xi r;omega)).2.2;have:=Xi r;omega
  ·exact JAh k rs (i+1) (by omega) (by omega) t ht
theorem FBp {r:Ah} (h:(Ax8 r).2=true):Am (Ax8 r).1=(r,true):=by have:=Xi r;have e1:=VBN (t:=(Ax8 r).1) (by omega);grind [TBN]
theorem WBN (k:AA):∀ (l:List Ah) (i:Int),0<=i->i+l.length<=1000000000->Sound l->AxJ k i (tx k i l)=(l,((Axj (tx k i l)).length:Int))
 | [],_,_,_,_=>rfl
 | r::rs,i,h0,h1,hs=>by
  rw [List.length_cons] at h1;have hz:=Xi r;obtain ⟨l1,l2,l3⟩:=WAg (k:=k) (s:=(Ax8 r).1) (num:=i) (by omega) (by omega)
  obtain ⟨f1,f2⟩:=TBB (t:=(Axf k i (Ax8 r).1).1) (by omega)
  rw [tx,AxJ,(EBp l1).1];dsimp only;rw [FBp (hs r (List.mem_cons_self ..)),WBN k rs (i+1) (by omega) (by omega) (fun x hx=>hs x (List.mem_cons_of_mem _ hx)),f2,Dj,Axj,List.length_append];show (r::rs,_)=_;refine congrArg (fun n=>(r::rs,n)) ?_;show ((Hq _).length:Int)+((Axj _).length:Int)=_;omega
theorem MAs (k:AA) (ts:List AA) (h:∀ t ∈ ts,1<=t.size/\t.size<=320):(Axj ts).length<=334*ts.length:=by
 induction ts with
 | nil=>exact Nat.le_refl 0
 | cons t ts ih=>
  have h1:=ih fun x hx=>h x (List.mem_cons_of_mem _ hx)
  grind [FAh,bs_len,KX,Axj]
theorem VBC {k file:AA} {l:List Ah} {K:Nat} (hl:l.length<=50) (hs:Sound l) (hK:K<=(Axj (tx k 1 l)).length) (hf:bs file=(Axj (tx k 1 l)).take K):LM k file=(l.take (whole (tx k 1 l) K),((Axj (tx k 1 (l.take (whole (tx k 1 l) K)))).length:Int)):=by
 have hsz:=JAh k l 1 (by omega) (by omega);have hsm:=MAs k _ hsz;rw [Vp] at hsm;have hlen:file.size=K:=by grind [bs_len]
 obtain ⟨w1,w2,w3⟩:=DAs (tx k 1 l) K
 have hu:=HBo (file:=file) (by omega) (tx k 1 l) K (file.size+1) 0 (fun t ht=>by grind) (DJ _) (by assumption) (by omega);rw [LM,Qw,show decide ((file.size:Int) > 20000)=false from D6 (by omega),Aq,hu];dsimp only;rw [eY];exact WBN k _ 1 (by omega) (by grind) (fun r hr=>hs r (List.mem_of_mem_take hr))
theorem xJ {l:List Ah}:∀ {b:Bo},(Aye b l).2=true->Sound l:=by
 induction l with
 | nil=>intro b _ r hr;cases hr
 | cons x xs ih=>
  intro b h r hr;rw [Aye] at h;cases h2:(OZ b x).2;·simp_all
  ·rw [h2,Ar] at h;rcases List.mem_cons.1 hr with rfl | hr
   ·exact (Qb h2).2.1
   ·exact ih h r hr
theorem GBp {file:AA} {a:Nat} (hs:file.size<=140737488351232) (ha:a<=file.size) {p:AA×Nat} (h:Oz file a=some p):p.2=a+(frameT p.1).1.size/\p.2<=file.size:=by grind [nN,ByteArray.size_extract,Na,frameT,Dj,Hq,bs_len]
theorem HBp (k:AA) {file:AA} (hs:file.size<=140737488351232):∀ (j a:Nat) (i:Int),a<=file.size->0<=(AxJ k i (KT j file a).1).2/\(a:Int)+(AxJ k i (KT j file a).1).2<=(file.size:Int):=by
 intro j;induction j with
 | zero=>intro a i ha;exact ⟨Int.le_refl 0,by show (a:Int)+0<=_;omega⟩
 | succ j ih=>
  intro a i ha;rw [KT];cases h:Oz file a<;>grind [GBp,AxJ]
theorem XBN (k file:AA):0<=(LM k file).2/\(LM k file).2<=(file.size:Int):=by
 rw [LM,Qw];by_cases h:(file.size:Int) > 20000;·rw [Ba h];exact ⟨Int.le_refl 0,by show (0:Int)<=_;omega⟩
 ·rw [D6 h,Aq];have h2:=HBp k (file:=file) (by omega) (file.size+1) 0 1 (DJ _);simp_all
theorem WBC {d:BU} {n:AA} {B:Nat} (hf:∀ f ∈ d.Ak,f.fText.size<=B):(Awy d n).1.size<=B:=by
 rw [Awy];cases h:Gp d.Ak n 0 with
 | none=>exact DJ _
 | some j=>
  have h1:=(eU h).2;simp_all
def AzD:AA:=⟨#[98,111,111,107]⟩
def nNew:AA:=⟨#[98,111,111,107,43]⟩
noncomputable def Awo (k:AA) (d:BU):Bo×List Ef×Bool:=
 bif !(Gq d) || !(Aye DX (LM k (Awy d AzD).1).1).2 then (rU,[],false)
 else ((Aye DX (LM k (Awy d AzD).1).1).1,(bif decide (Aya d nNew>=0) then [⟨4,nNew,⟨#[]⟩,⟨#[]⟩⟩] else [])++(bif (LM k (Awy d AzD).1).2 == ((Awy d AzD).1.size:Int) then [] else [⟨1,nNew,(Awy d AzD).1.extract 0 (LM k (Awy d AzD).1).2.toNat,⟨#[]⟩⟩,⟨2,nNew,⟨#[]⟩,⟨#[]⟩⟩,⟨3,nNew,⟨#[]⟩,AzD⟩]),true)
theorem IBp (k:AA):∀ (fs:List AA) (i:Int),(∀ f ∈ fs,f.size<=20000)->∀ r ∈ (AxJ k i fs).1,r.DR<=9223372036854775807:=by
 intro fs;induction fs with
 | nil=>intro i _ r hr;cases hr
 | cons f fs ih=>
  intro i hf r hr;rw [AxJ] at hr;cases h:(Ee k i f).2 && (Am (Ee k i f).1).2;·simp_all
  ·rw [h,Ar] at hr;rcases List.mem_cons.1 hr with rfl | hr
   ·have hz:=yE k f i;have hfz:=hf f (List.mem_cons_self ..);rcases Alq (t:=(Ee k i f).1) (by omega) with ⟨_,h2⟩ | h2
    ·have h3:(Ax8 (Am (Ee k i f).1).1).2=true:=by rw [h2]
     rcases kE h3 with ⟨hk,_⟩ | ⟨hk,hc⟩ | ⟨hk,_⟩ | ⟨hk,hc⟩
     ·rw [Ax8,hk] at h3;simp only [show ((1:Int) == 1)=true from rfl,Ar] at h3;cases hc:(((Am (Ee k i f).1).1.fText.size:Int) == 32 && (Am (Ee k i f).1).1.DR == 0 && JC (Am (Ee k i f).1).1.Ag)
      ·rw [hc] at h3;cases h3
      simp_all
     ·omega
     ·rw [Ax8,hk] at h3;simp only [show ((3:Int) == 1)=false from rfl,show ((3:Int) == 2)=false from rfl,show ((3:Int) == 3)=true from rfl,Ar,Aq] at h3;cases hc:((IV (Am (Ee k i f).1).1.Ag).2 && JB (Am (Ee k i f).1).1.fText && (Am (Ee k i f).1).1.DR == 0)
      ·rw [hc] at h3;cases h3
      simp_all
     ·omega
    simp_all
   grind
theorem JBp (k file:AA):∀ r ∈ (LM k file).1,r.DR<=9223372036854775807:=IBp k _ _ (LAs (file:=file)).1
theorem YBN (k file:AA):(LM k file).1.length<=20000:=Nat.le_trans (CBp k _ _) (LAs (file:=file)).2.1
def dk (F:AA) (n:Int):BU:=⟨[⟨AzD,F,n⟩]⟩
theorem ZBN (G:AA):(⟨#[]⟩:AA)++G=G:=KW (by rfl)
theorem tY:(AzD.toList == nNew.toList)=false:=by rw [toList_inj];rfl
theorem XBC:Op.bytesLess AzD.toList nNew.toList=true:=by rw [ByteArray.toList_eq,ByteArray.toList_eq];rfl
theorem LAh {f:BQ} {fs:List BQ} {n:AA} {i:Nat} (h:(f.fName.toList == n.toList)=true):Gp (f::fs) n i=some i:=by simp_all [Gp]
theorem NAs {f:BQ} {fs:List BQ} {n:AA} {i:Nat} (h:(f.fName.toList == n.toList)=false):Gp (f::fs) n i=Gp fs n (i+1):=by simp_all [Gp]
theorem YBC {N F:AA} {n:Int} (hN:1<=N.size/\N.size<=8) (h:0<=n/\n<=(F.size:Int)) (hF:F.size<=20000):OB ⟨N,F,n⟩=true:=ZAg.2 ⟨⟨by grind,by grind⟩,by grind,h.1,h.2⟩
theorem Uy {F:AA} {n:Int} (h:0<=n/\n<=(F.size:Int)) (hF:F.size<=20000):Gq (dk F n)=true:=by rw [dk,Gq,MO,MO,YBC (by decide) h hF,zq (s:=AzD) (by decide)];rfl
theorem OAs {F G:AA} {n m:Int} (h:0<=n/\n<=(F.size:Int)) (hF:F.size<=20000) (h2:0<=m/\m<=(G.size:Int)) (hG:G.size<=20000):Gq ⟨[⟨AzD,F,n⟩,⟨nNew,G,m⟩]⟩=true:=by rw [Gq,MO,MO,MO,YBC (by decide) h hF,YBC (by decide) h2 hG,zq (s:=AzD) (by decide),XBC];rfl
theorem ZBC (F F':AA) (n n':Int):Gs [⟨AzD,F,n⟩] ⟨AzD,F',n'⟩=[⟨AzD,F',n'⟩]:=by simp [Gs,OI,Ayw,YAg]
theorem KBp (F G:AA) (n m:Int):Gs [⟨AzD,F,n⟩] ⟨nNew,G,m⟩=[⟨AzD,F,n⟩,⟨nNew,G,m⟩]:=by simp [Gs,OI,Ayw,XBC]
theorem LBp (F G G':AA) (n m m':Int):Gs [⟨AzD,F,n⟩,⟨nNew,G,m⟩] ⟨nNew,G',m'⟩=[⟨AzD,F,n⟩,⟨nNew,G',m'⟩]:=by simp [Gs,OI,Ayw,XBC,YAg]
theorem MBp (F G:AA) (n m:Int):Ve [⟨AzD,F,n⟩,⟨nNew,G,m⟩] nNew=[⟨AzD,F,n⟩]:=by simp [Ve,tY]
theorem tZ {l:List BQ} (h:Gq ⟨l⟩=true):doneD l=(⟨l⟩,true):=by simp_all [doneD]
theorem NBp {T:AA} (hT:T.size<=20000):Ave ⟨[]⟩ ⟨1,AzD,T,⟨#[]⟩⟩=(dk T 0,true):=by simp only [Ave,show Gq ⟨[]⟩=true from rfl,Oe,Bool.or_true,beq_self_eq_true,Bool.true_or,Bool.and_self,Ar,Gp,ZBN];rw [show Gs [] (⟨AzD,T,0⟩:BQ)=[⟨AzD,T,0⟩] from rfl,tZ (Uy (by omega) hT)];rfl
theorem PAs {F T:AA} {n:Int} (h:0<=n/\n<=(F.size:Int)) (hF:(F++T).size<=20000):Ave (dk F n) ⟨1,AzD,T,⟨#[]⟩⟩=(dk (F++T) n,true):=by have hz:(F++T).size=F.size+T.size:=ByteArray.size_append;have hp:Gp (dk F n).Ak AzD 0=some 0:=LAh (Oe _);simp only [Ave,Uy h (show F.size<=20000 by omega),Oe,Bool.or_true,beq_self_eq_true,Bool.true_or,Bool.and_self,Ar,hp];show doneD (Gs [⟨AzD,F,n⟩] ⟨AzD,F++T,n⟩)=_;rw [ZBC,tZ (Uy (by omega) hF)];rfl
theorem AZ7 {F:AA} {n:Int} (h:0<=n/\n<=(F.size:Int)) (hF:F.size<=20000):Ave (dk F n) ⟨2,AzD,⟨#[]⟩,⟨#[]⟩⟩=(dk F F.size,true):=by have hp:Gp (dk F n).Ak AzD 0=some 0:=LAh (Oe _);simp only [Ave,Uy h hF,Oe,Bool.or_true,beq_self_eq_true,Bool.true_or,Bool.and_self,Ar,hp];show doneD (Gs [⟨AzD,F,n⟩] ⟨AzD,F,(F.size:Int)⟩)=_;rw [ZBC,tZ (Uy (by omega) hF)];rfl
def Avj (T:AA):List Ef:=[⟨1,AzD,T,⟨#[]⟩⟩,⟨2,AzD,⟨#[]⟩,⟨#[]⟩⟩]
theorem BBO {T:AA} (hT:T.size<=20000):AzA ⟨[]⟩ (Avj T) 0=(dk T T.size,2):=by simp_all [Avj,AzA,NBp,AZ7]
theorem OBp {F T:AA} {n:Int} (h:0<=n/\n<=(F.size:Int)) (hF:(F++T).size<=20000):AzA (dk F n) (Avj T) 0=(dk (F++T) (F++T).size,2):=by grind [Avj,AzA,PAs,AZ7]
def ASH (G:AA):List Ef:=[⟨1,nNew,G,⟨#[]⟩⟩,⟨2,nNew,⟨#[]⟩,⟨#[]⟩⟩,⟨3,nNew,⟨#[]⟩,AzD⟩]
theorem PBp {F G:AA} {n:Int} (h:0<=n/\n<=(F.size:Int)) (hF:F.size<=20000) (hG:G.size<=20000):Ave (dk F n) ⟨1,nNew,G,⟨#[]⟩⟩=(⟨[⟨AzD,F,n⟩,⟨nNew,G,0⟩]⟩,true):=by grind [Gp,dk,NAs,tY,Ave,Uy,ZBN,KBp,tZ,OAs]
theorem QBp {F G:AA} {n:Int} (h:0<=n/\n<=(F.size:Int)) (hF:F.size<=20000) (hG:G.size<=20000):Ave ⟨[⟨AzD,F,n⟩,⟨nNew,G,0⟩]⟩ ⟨2,nNew,⟨#[]⟩,⟨#[]⟩⟩=(⟨[⟨AzD,F,n⟩,⟨nNew,G,(G.size:Int)⟩]⟩,true):=by
 have hp:Gp [(⟨AzD,F,n⟩:BQ),⟨nNew,G,0⟩] nNew 0=some 1:=by simp [NAs,tY,LAh]
 simp only [Ave,OAs h hF (m:=0) (G:=G) (by omega) hG,Oe,Bool.or_true,beq_self_eq_true,Bool.true_or,Bool.and_self,Ar,hp];show doneD (Gs [⟨AzD,F,n⟩,⟨nNew,G,0⟩] ⟨nNew,G,(G.size:Int)⟩)=_;simp_all [LBp,tZ,OAs]
theorem RBp {F G:AA} {n:Int} (h:0<=n/\n<=(F.size:Int)) (hF:F.size<=20000) (hG:G.size<=20000):Ave ⟨[⟨AzD,F,n⟩,⟨nNew,G,(G.size:Int)⟩]⟩ ⟨3,nNew,⟨#[]⟩,AzD⟩=(dk G G.size,true):=by
 have hp:Gp [(⟨AzD,F,n⟩:BQ),⟨nNew,G,(G.size:Int)⟩] nNew 0=some 1:=by simp [NAs,tY,LAh]
 simp only [Ave,OAs h hF (m:=(G.size:Int)) (G:=G) (by omega) hG,Oe,Bool.or_true,beq_self_eq_true,Bool.true_or,Bool.and_self,Ar,hp];show (bif decide ((G.size:Int)<(G.size:Int)) || (AzD.toList == nNew.toList) then _ else doneD (Gs (Ve [⟨AzD,F,n⟩,⟨nNew,G,(G.size:Int)⟩] nNew) ⟨AzD,G,(G.size:Int)⟩))=_;rw [D6 (by omega),tY,Bool.or_self,Aq,MBp,ZBC,tZ (Uy (by omega) hG)];rfl
theorem SBp {F G:AA} {n:Int} (h:0<=n/\n<=(F.size:Int)) (hF:F.size<=20000) (hG:G.size<=20000):AzA (dk F n) (ASH G) 0=(dk G G.size,3):=by simp_all [ASH,AzA,PBp,QBp,RBp]
theorem QAs (F:AA) (n:Int):Awy (dk F n) AzD=(F,true):=by simp [Awy,dk,LAh]
theorem TBp (F:AA) (n:Int):Aya (dk F n) nNew = -1:=by grind [Aya,Gp,dk,NAs,tY]
theorem CBO {k F:AA} {l:List Ah} {n:Int} {K:Nat} (hl:l.length<=50) (hs:Sound l) (he:(Aye DX l).2=true) (hK:K<=(Axj (tx k 1 l)).length) (hf:bs F=(Axj (tx k 1 l)).take K) (hn:0<=n/\n<=(F.size:Int)) (hF:F.size<=20000) :
  Awo k (dk F n)=((Aye DX (l.take (whole (tx k 1 l) K))).1,bif ((Axj (tx k 1 (l.take (whole (tx k 1 l) K)))).length:Int) == (F.size:Int) then [] else ASH (F.extract 0 (Axj (tx k 1 (l.take (whole (tx k 1 l) K)))).length),true):=by
 rw [Awo,Uy hn hF,QAs,VBC hl hs hK hf];dsimp only;rw [HBC _ he,TBp];rfl
theorem DBO (ts:List AA):∀ (j K:Nat),j<=ts.length->(Axj (ts.take j)).length<=K->j<=whole ts K:=by
 induction ts with
 | nil=>simp_all
 | cons t ts ih=>
  intro j K hj h;cases j with
  | zero=>omega
  | succ j=>
   rw [List.take_succ_cons,Axj,List.length_append] at h;rw [List.length_cons] at hj;rw [whole,if_pos (by omega)];have:=ih j (K - (Hq (bs t)).length) (by omega) (by omega);omega
def Small (d:BU):Prop:=d.Ak.length<=1/\∀ f ∈ d.Ak,f.fText.size<=20000
theorem EBO {F:AA} {n:Int} (h:F.size<=20000):Small (dk F n):=⟨Nat.le_refl _,fun f hf=>by
 have hf:f ∈ [(⟨AzD,F,n⟩:BQ)]:=hf;simp_all⟩
theorem nV {k:AA} {l:List Ah} {i:Nat} (h:i<l.length):Axj (tx k 1 (l.take (i+1)))=Axj (tx k 1 (l.take i))++Hq (bs (Axf k ((i:Int)+1) (Ax8 l[i]).1).1):=by rw [take_at h,UBC,NBN,List.length_take,Nat.min_eq_left (by omega),show (1:Int)+(i:Int)=(i:Int)+1 by omega,tx,tx,Axj,Axj,List.append_nil]
theorem RAs {k:AA} {l:List Ah} (hl:l.length<=50) (i:Nat):(Axj (tx k 1 (l.take i))).length<=16700:=by
 have hz:(l.take i).length<=50:=by grind
 have h:=MAs k _ (JAh k (l.take i) 1 (by omega) (by omega));grind [Vp]
def OnD (k:AA) (l:List Ah) (i:Nat) (d:BU):Prop:=(i=0/\d=⟨[]⟩)\/∃ F:AA,d=dk F F.size/\bs F=Axj (tx k 1 (l.take i))
theorem zL {k:AA} {r:Ah} {i:Nat} (hr:(Ax8 r).2=true) (hi:i<=10000):∃ T,AzW k (i:Int) r=(Avj T,true)/\bs T=Hq (bs (Axf k ((i:Int)+1) (Ax8 r).1).1):=by
 have hz:=Xi r;obtain ⟨l1,l2,l3⟩:=WAg (k:=k) (s:=(Ax8 r).1) (num:=(i:Int)+1) (by omega) (by omega)
 obtain ⟨f1,f2⟩:=TBB (t:=(Axf k ((i:Int)+1) (Ax8 r).1).1) (by omega)
 refine ⟨(frameT (Axf k ((i:Int)+1) (Ax8 r).1).1).1,?_,by rw [f2,Oa (zJ (AxC _))]⟩;rw [AzW,hr,Na.2 (show 0<=(i:Int)/\(i:Int)<=10000 by omega)];rfl
theorem VBp {k T:AA} {l:List Ah} {i:Nat} (hl:l.length<=50) (hi:i<l.length) (hT:bs T=Hq (bs (Axf k ((i:Int)+1) (Ax8 l[i]).1).1)):(Axj (tx k 1 (l.take i))).length+T.size<=16700:=by have h:=congrArg List.length (nV (k:=k) hi);grind [RAs,bs_len]
theorem WBp {k T:AA} {l:List Ah} {i:Nat} {d:BU} (hl:l.length<=50) (hi:i<l.length) (h:OnD k l i d) (hT:bs T=Hq (bs (Axf k ((i:Int)+1) (Ax8 l[i]).1).1)):∃ E:AA,AzA d (Avj T) 0=(dk E E.size,2)/\bs E=Axj (tx k 1 (l.take (i+1))):=by
 have hs:=VBp hl hi hT;rcases h with ⟨rfl,rfl⟩ | ⟨F,rfl,hF⟩
 ·exact ⟨T,BBO (by omega),by rw [nV hi,<-hT];rfl⟩
 ·have hz:(F++T).size=F.size+T.size:=ByteArray.size_append;have hF2:F.size=(Axj (tx k 1 (l.take i))).length:=by grind [bs_len]
  exact ⟨F++T,OBp (by omega) (by omega),by simp_all [Hr,nV]⟩
theorem XBp {k F:AA} {l:List Ah} {n:Int} (hl:l.length<=50) (hs:Sound l) (he:(Aye DX l).2=true) (hf:bs F=Axj (tx k 1 l)) (hn:0<=n/\n<=(F.size:Int)):Awo k (dk F n)=((Aye DX l).1,[],true):=by
 have hsm:=RAs (k:=k) hl l.length;rw [List.take_length] at hsm;have hF:F.size=(Axj (tx k 1 l)).length:=by grind [bs_len]
 have h:=CBO (k:=k) (F:=F) (l:=l) (n:=n) (K:=(Axj (tx k 1 l)).length) hl hs he (Nat.le_refl _) (by simp_all) hn (by omega);simp_all [MBC,Vp]
def Vt (b:Ap) (i:Nat):Bool:=match AwV b.AU.AZ (b.BD.getD i ⟨0,0⟩).fId with
 | some x=>x.Aj == 2 && (AyM (b.BD.getD i ⟨0,0⟩).fNext 0 x.fNext && (i == 0 || !decide ((b.BD.getD (i - 1) ⟨0,0⟩).fId>=(b.BD.getD i ⟨0,0⟩).fId)))
 | none=>false
def Vy (b:Ap):Nat->Nat->Bool
 | 0,_=>true
 | j+1,i=>Vt b i && Vy b j (i+1)
def XF (b:Ap):Bool:=Vy b b.BD.length 0
theorem BBD {b:Bo} {l:List Ah} (h:b.AZ.length<=2932031007317):(Aye b l).1.AZ.length<=2932031007317:=by
 induction l generalizing b with
 | nil=>exact h
 | cons r rs ih=>
  rw [Aye];cases h3:(OZ b r).2;·exact DJ _
  grind [xB]
theorem SAs (k:AA) (d:BU):(Awo k d).1.AZ.length<=2932031007317/\(Awo k d).2.1.length<=4:=by
 rw [Awo];cases (!(Gq d) || !(Aye DX (LM k (Awy d AzD).1).1).2);·refine ⟨BBD (DJ _),?_⟩;grind
 ·exact ⟨DJ _,DJ _⟩
def eqT (x y:Af):Bool:=(x.fId == y.fId) && ((x.Aj == y.Aj) && ((x.CY == y.CY) && ((x.CX == y.CX) && ((x.Gw == y.Gw) && ((x.GH == y.GH) && (((ByteArray.toList x.fValue) == (ByteArray.toList y.fValue)) && ((x.fNext == y.fNext) && true)))))))
theorem FBO (x y:Af):((x.fId == y.fId) && ((x.Aj == y.Aj) && ((x.CY == y.CY) && ((x.CX == y.CX) && ((x.Gw == y.Gw) && ((x.GH == y.GH) && (((ByteArray.toList x.fValue) == (ByteArray.toList y.fValue)) && ((x.fNext == y.fNext) && true))))))))=eqT x y:=rfl
theorem YBp {x y:Af}:eqT x y=true↔x=y:=by
 simp only [eqT,Bool.and_eq_true,beq_iff_eq];constructor
 ·rintro ⟨h1,h2,h3,h4,h5,h6,h7,h8,_⟩;have Hn:x.fValue=y.fValue:=by grind [toList_inj]
  cases x;simp_all
 grind
def AxV:List Af->List Af->Bool
 | [],[]=>true
 | x::a,y::b=>eqT x y && AxV a b
 | _,_=>false
theorem CBD:∀ {a b:List Af},AxV a b=true↔a=b
 | [],[]=>by simp [AxV]
 | x::a,y::b=>by simp [AxV,YBp,CBD]
 | [],_::_=>by simp [AxV]
 | _::_,[]=>by simp [AxV]
theorem GBO {a b:List Af} (h:a.length≠b.length):AxV a b=false:=by grind [CBD]
def AyK (a b:Bo):Bool:=(a.Bv.toList == b.Bv.toList) && ((a.DU == b.DU) && (AxV a.AZ b.AZ && ((a.BM == b.BM) && ((a.Dh.toList == b.Dh.toList) && (a.fCount == b.fCount)))))
theorem UAs {a b:Bo}:AyK a b=true↔a=b:=by
 simp only [AyK,Bool.and_eq_true,toList_inj,decide_eq_true_eq,beq_iff_eq,CBD];constructor;·rintro ⟨h1,h2,h3,h4,h5,h6⟩;cases a;simp_all
 grind
def fE (b:Ap) (i:Nat):Bool:=AyM (b.BP.getD i ⟨0,false⟩).fId 1 b.CW && (i == 0 || !decide ((b.BP.getD (i - 1) ⟨0,false⟩).fId>=(b.BP.getD i ⟨0,false⟩).fId))
def AxI (b:Ap):Nat->Nat->Bool
 | 0,_=>true
 | j+1,i=>fE b i && AxI b j (i+1)
noncomputable def ZA (b:Ap):Bool:=bif b.CZ then (Awo b.BO b.Bc).2.2 && (((Awo b.BO b.Bc).2.1.length:Int) == 0 && (Ia b.AU && (AyK (Awo b.BO b.Bc).1 b.AU && XF b)))
 else (b.BP.length:Int) == 0 && ((b.BD.length:Int) == 0 && AyK b.AU DX)
noncomputable def Rt (b:Ap):Bool:=(b.BO.size:Int) == 32 && (Gq b.Bc && (decide ((b.BP.length:Int)<=3) && (AyM b.CW 0 1000 && (AxI b b.BP.length 0 && ZA b))))
def nT (b:Ap):Ap:=⟨b.BO,false,b.Bc,DX,[],[],0⟩
theorem ZBp {k w:AA} (hk:k.size=32) (hw:w.size<=20):∃ T:AA,Oo k w=(⟨k,true,dk T T.size,(OZ DX (Ayq w)).1,[],[],0⟩,true)/\T.size<=20000/\bs T=Axj (tx k 1 [Ayq w]):=by
 have hr:(Ax8 (Ayq w)).2=true:=by rw [zU]
 obtain ⟨T,t1,t2⟩:=zL (k:=k) (r:=Ayq w) (i:=0) hr (DJ _)
 have hT:bs T=Axj (tx k 1 [Ayq w]):=by simp_all [tx,Axj]
 have hsm:=MAs k _ (JAh k [Ayq w] 1 (by omega) (by simp));grind [Vp,bs_len,Oo,BBO]
theorem HBO {b:Ap} (hk:b.BO.size=32) (hd:Gq b.Bc=true):Rt (nT b)=true:=by rw [Rt,ZA,nT];simp only [hd,UAs.2 rfl,hk,Aq];rfl
structure Good (k:AA) (l:List Ah) (b:Ap):Prop where
 Io:k.size=32
 key:b.BO=k
 up:b.CZ=true
 disk:∃ F:AA,b.Bc=dk F F.size/\bs F=Axj (tx k 1 l)
 len:1<=l.length/\l.length<=50
 book:Aye DX l=(b.AU,true)
 Nu:b.BP.length<=3/\AxI b b.BP.length 0=true
 opn:0<=b.CW/\b.CW<=1000
 MC:XF b=true/\b.BD.length<=8
theorem Good.book1 {k:AA} {l:List Ah} {b:Ap} (g:Good k l b):(Aye DX l).1=b.AU:=by rw [g.book]
theorem Good.J7 {k:AA} {l:List Ah} {b:Ap} (g:Good k l b):Ia b.AU=true:=by have:=QBn (rs:=l) GBC (by rw [g.book]);rw [g.book] at this;omega
theorem Good.cnt {k:AA} {l:List Ah} {b:Ap} (g:Good k l b):b.AU.fCount=(l.length:Int):=by have:=RBn (l:=l) (b:=DX) (by rw [g.book]);rw [g.book,show DX.fCount=0 from rfl,Int.zero_add] at this;omega
theorem Good.sound {k:AA} {l:List Ah} {b:Ap} (g:Good k l b):Sound l:=xJ (b:=DX) (by rw [g.book])
theorem Good.zK {k F:AA} {l:List Ah} (hl:l.length<=50) (hF:bs F=Axj (tx k 1 l)):F.size<=16700:=by grind [RAs,List.take_length,bs_len]
theorem Good.small {k:AA} {l:List Ah} {b:Ap} (g:Good k l b):Small b.Bc:=by
 obtain ⟨F,h1,h2⟩:=g.disk
 rw [h1];exact EBO (by have:=Good.zK g.len.2 h2;omega)
theorem Good.ZB {k:AA} {l:List Ah} {b:Ap} (g:Good k l b):b.AU.AZ.length<=8:=(Ax0.1 g.J7).2.2.2.1
theorem Good.ok {k:AA} {l:List Ah} {b:Ap} (g:Good k l b):Rt b=true:=by
 obtain ⟨F,h1,h2⟩:=g.disk
 have hz:=Good.zK g.len.2 h2;have hm:=XBp (k:=k) (F:=F) (l:=l) (n:=F.size) g.len.2 g.sound (by rw [g.book]) h2 (by omega);rw [g.book] at hm;have hd:=Uy (F:=F) (n:=(F.size:Int)) (by omega) (by omega);have h3:=g.Nu.1;rw [Rt,ZA,g.up,g.key,h1,hd,hm,g.Io,g.J7,g.Nu.2,g.MC.1,show AyK b.AU b.AU=true from UAs.2 rfl,Ba (by omega:(b.BP.length:Int)<=3),Na.2 g.opn];rfl
theorem IBO {b c:Ap} (h1:c.BP=b.BP) (h2:c.CW=b.CW):∀ j i,AxI c j i=AxI b j i:=by intro j;induction j<;>simp_all [AxI,fE]
theorem AjO {b c:Ap} (h1:c.BD=b.BD) (h2:c.AU.AZ=b.AU.AZ):∀ j i,Vy c j i=Vy b j i:=by intro j;induction j<;>simp_all [Vy,Vt]
theorem xE {k w:AA} (hk:k.size=32) (hw:w.size<=20):(Oo k w).2=true/\Good k [Ayq w] (Oo k w).1/\(Oo k w).1.BP=[]/\(Oo k w).1.BD=[]/\(Oo k w).1.CW=0/\(Oo k w).1.AU=(OZ DX (Ayq w)).1:=by
 obtain ⟨T,h1,h2,h3⟩:=ZBp hk hw
 rw [h1];refine ⟨rfl,⟨hk,rfl,rfl,⟨T,rfl,h3⟩,⟨Nat.le_refl _,by simp⟩,?_,⟨DJ _,rfl⟩,⟨Int.le_refl _,by simp⟩,⟨rfl,DJ _⟩⟩,rfl,rfl,rfl,rfl⟩;simp [Aye,EBN]
def Ax4:List CS->Int->Nat->Option Nat
 | [],_,_=>none
 | l::ls,t,i=>if l.fId == t then some i else Ax4 ls t (i+1)
theorem kF {t:Int}:∀ {ls:List CS} {i j:Nat},Ax4 ls t i=some j->i<=j/\j<i+ls.length:=by intro ls;induction ls<;>grind [Ax4]
def atV (b:Ap) (t:Int):Int:=match Ax4 b.BD t 0 with | some j=>(j:Int) | none=> -1
def DY (b:Ap) (x:Af):Int:=match Ax4 b.BD x.fId 0 with | some j=>(b.BD.getD j ⟨0,0⟩).fNext | none=>x.fNext
def Avz (b:Ap) (t:Int):Int:=match AwV b.AU.AZ t with
 | some x=>bif x.Aj == 2 then DY b x else -1
 | none=> -1
def Ig:List CS->Int->Nat
 | [],_=>0
 | l::ls,id=>if l.fId<id then Ig ls id+1 else 0
theorem JBO (id:Int):∀ ls:List CS,Ig ls id<=ls.length
 | []=>Nat.le_refl _
 | l::ls=>by have:=JBO id ls;rw [Ig,List.length_cons];split <;> omega
theorem LBO {id:Int}:∀ {ls:List CS} {i:Nat},i<Ig ls id->(ls.getD i ⟨0,0⟩).fId<id
 | [],i,h=>absurd h (Nat.not_lt_zero _)
 | l::ls,i,h=>by
  rw [Ig] at h;split at h
  ·cases i with
   | zero=>assumption
   | succ i=>exact LBO (ls:=ls) (by omega)
  ·omega
theorem MBO {id:Int}:∀ {ls:List CS},Ig ls id<ls.length->¬ (ls.getD (Ig ls id) ⟨0,0⟩).fId<id
 | [],h=>absurd h (Nat.not_lt_zero _)
 | l::ls,h=>by
  rw [Ig] at h ⊢;split at h;·rename_i h1;rw [if_pos h1];exact MBO (ls:=ls) (by rw [List.length_cons] at h;omega)
  ·rename_i h1;rw [if_neg h1];exact h1
def fH (ls:List CS) (id n:Int):List CS:=match Ax4 ls id 0 with
 | some j=>ls.set j ⟨(ls.getD j ⟨0,0⟩).fId,n⟩
 | none=>ls.take (Ig ls id)++[⟨id,n⟩]++ls.drop (Ig ls id)
def WAs (b:Bo):Bool:=(b.Bv.size:Int) == 32 && ((b.Dh.size:Int) == 32 && (AyM b.DU 0 3 && (decide ((b.AZ.length:Int)<=8) && (AyM b.BM 0 1000 && AyM b.fCount 0 10000))))
theorem BBq {b:Bo} (hb:b.AZ.length<=140737488351232):∀ m i,i<=b.AZ.length->b.AZ.length - i<m->iP m (.c0 b.AZ b.AZ.length i b)=some (rise b.BM (Qu b.AZ i) (b.AZ.drop i) && WAs b):=fun m i h1 h2=>
 PV (A:=Unit) (n:=b.AZ.length) (Lp:=iP) (st:=fun i _=>.c0 b.AZ b.AZ.length i b) (Inv:=fun _ _=>True) (out:=fun i _=>some (rise b.BM (Qu b.AZ i) (b.AZ.drop i) && WAs b))
  (fun m _ _=>by
   simp only [iP,GAo,mk,AwE,AP,WAs];rw [show decide ((b.AZ.length:Int)<(b.AZ.length:Int))=false from D6 (by omega),List.drop_of_length_le (Nat.le_refl _)];cases (b.Bv.size:Int) == 32 <;> cases (b.Dh.size:Int) == 32 <;> cases AyM b.DU 0 3 <;> cases decide ((b.AZ.length:Int)<=8) <;> cases AyM b.BM 0 1000 <;> rfl)
  (fun m i _ hi _=>by
   have hw:AV ((i:Int)+1)=((i+1:Nat):Int):=by grind [A8]
   simp only [WBL hi];simp only [iP,GAo,mk,BR,getD_at hi,xZ,AP,hw];rw [show decide ((i:Int)<(b.AZ.length:Int))=true from Ba (by omega),show decide ((0:Int)<=(i:Int))=true from Ba (by omega)];simp only [Bool.and_self,Ar];cases h1:AwH b.AZ[i];·simp
   ·cases h2:decide (b.AZ[i].fId > b.BM)
    ·by_cases h0:i=0;·subst h0;refine .inr ⟨(),rfl,trivial,?_⟩;rw [show decide (Qu b.AZ 0>=b.AZ[0].fId)=false from D6 (by have:=(Ny h1).2.2.1;grind [Qu])];rfl
     ·obtain ⟨j,rfl⟩:∃ j,i=j+1:=⟨i - 1,by omega⟩
      have hj:AV (((j+1:Nat):Int) - 1)=(j:Int):=by grind [A8]
      have hjl:j<b.AZ.length:=by omega
      rw [LBB hjl];simp only [hj,BR,getD_at hjl,DN,Bool.not_false,Aq,Bool.true_and];rw [show decide (((j+1:Nat):Int) > 0)=true from Ba (by omega),show decide ((0:Int)<=(j:Int))=true from Ba (by omega),show decide ((j:Int)<(b.AZ.length:Int))=true from Ba (by omega)];simp only [Bool.and_self,Ar];cases h3:decide (b.AZ[j].fId>=b.AZ[j+1].fId);all_goals simp
    simp) m i () h1 h2 trivial
theorem NBO {b:Bo} (hb:b.AZ.length<=140737488351232):tq b=some (Ia b):=by have h0:=BBq hb AY 0 (DJ _) (FM (by omega));simp only [tq,BA5,mk];grind [Ia,WAs,Qu]
theorem DBD {b:Bo} (h:b.AZ.length<=2932031007317):iQ b=some b:=by rw [iQ,CA5,mk,IK (by grind)]
theorem EBD {b:Bo} {t:Int} (h:b.AZ.length<=140737488351232):UAb b t=some (match OE b.AZ t 0 with | some j=>(j:Int) | none=> -1):=by
 have key:∀ m i,i<=b.AZ.length->b.AZ.length - i<m->iR m (.c0 t b.AZ b.AZ.length i)=some (match OE (b.AZ.drop i) t i with | some j=>(j:Int) | none=> -1):=fun m i h1 h2=>
  PV (A:=Unit) (n:=b.AZ.length) (Lp:=iR) (st:=fun i _=>.c0 t b.AZ b.AZ.length i) (Inv:=fun _ _=>True) (out:=fun i _=>some (match OE (b.AZ.drop i) t i with | some j=>(j:Int) | none=> -1))
   (fun m _ _=>by simp [iR,HAo,mk,OE])
   (fun m i _ hi _=>by
    have hw:AV ((i:Int)+1)=((i+1:Nat):Int):=by grind [A8]
    simp only [iR,HAo,mk,BR,getD_at hi,hw,drop_at hi,OE];cases hq:b.AZ[i].fId == t;all_goals simp_all) m i () h1 h2 trivial
 have h0:=key AY 0 (DJ _) (FM (by omega));exact h0
theorem CBq (x y:Af):IAo x y=some (grown x y):=by rw [IAo,FA5,mk,grown,AzS,show decide (y.fNext>=x.fNext)=decide (x.fNext<=y.fNext) from rfl];grind
theorem DBq {b:Bo} {x:Af} (hb:Ia b=true) (hx:x.fId<=1000):JAo b x=some (match VU b x with
 | some p=>(true,⟨b.Bv,b.DU,p.1,p.2,b.Dh,b.fCount⟩)
 | none=>(false,b)):=by
 obtain ⟨b1,b2,b3,b4,b5,b6,b7⟩:=Ax0.1 hb
 rw [JAo,GA5,mk,EBD (by omega),AP,VU];rcases OBB (xs:=b.AZ) (id:=x.fId) with ⟨o,j,t1,t2,t3,t4,t5⟩ | ⟨t1,t2⟩
 ·have hg:∀ z,b.AZ.getD j z=o:=fun z=>by simp_all
  have hs:=(NBB b7 t2).1;grind [CBq]
 grind [A8]
theorem FBD {b:Bo} {r:Ah} (hb:b.AZ.length<=140737488351232) (hr:r.DR<=9223372036854775807):Zk b r=some (OZ b r):=by
 rw [Zk,HA5,mk,Xj hr,AP,NBO hb,AP,OZ];cases h1:Ia b;·rfl
 cases h2:(Ax8 r).2;·rfl
 by_cases h3:b.fCount>=10000;·rw [Ba h3];rfl
 obtain ⟨b1,b2,b3,b4,b5,b6,b7⟩:=Ax0.1 h1
 have hz:=Xi r;have hw:AV (b.fCount+1)=b.fCount+1:=A8 (by omega) (by omega);have hdig:=Oy (s:=b.Dh++(Ax8 r).1) (by grind);have hsz:decide (b.Dh.size+(Ax8 r).1.size<=9223372036854775807)=true:=by grind
 simp only [D6 h3,DN,Bool.or_self,Aq,DBD (show b.AZ.length<=2932031007317 by omega),hdig,hsz,hw,AP,Ar];rcases kE h2 with ⟨hk,hc⟩ | ⟨hk,hc⟩ | ⟨hk,hc⟩ | ⟨hk,hc⟩
 ·simp_all
 ·simp_all
 ·rw [hk];simp only [show ((3:Int) == 1)=false from rfl,show ((3:Int) == 2)=false from rfl,show ((3:Int) == 3)=true from rfl,Ar,Aq];rw [DBq h1 (Ny hc).2.2.2.1,AP];cases VU b r.Ag with
  | none=>rfl
  | some p=>simp_all
 ·rw [hk];simp only [show ((4:Int) == 1)=false from rfl,show ((4:Int) == 2)=false from rfl,show ((4:Int) == 3)=false from rfl,show ((4:Int) == 4)=true from rfl,Ar,Aq];rw [EBD hb,AP];rcases OBB (xs:=b.AZ) (id:=r.DR) with ⟨o,j,t1,t2,t3,t4,t5⟩ | ⟨t1,t2⟩
  ·have hs:=(NBB (x:=⟨r.DR,0,false,false,false,false,⟨#[]⟩,0⟩) b7 t2).2;rw [Nat.sub_zero] at hs;simp only at hs;rw [t1,t2];simp only [BR];have e:AV ((j:Int)+1)=((j+1:Nat):Int):=by grind [A8]
   simp only [e,BR,List.drop_zero,List.take_length,hs];grind
  ·rw [t1,t2];rfl
end Go.Proofs.YtkbbicgglblfiaaGreatDoor.G
