/- The plain law of FnLeaves: whatever the arguments, it answers true. Conditions: what is read is in reach. Part 3 of 4. -/
import Derived.Test.YtkbbicgglblfiaaGreatDoorPureFnLeavesb
namespace Go.Proofs.YtkbbicgglblfiaaGreatDoor.G
open Go Go.Ev
set_option linter.unusedVariables false
set_option linter.unusedSimpArgs false
set_option linter.unusedSectionVars false
variable [PC]
theorem VBP {S:AA} {p n:Nat} {x:F6} (hS:S.size=200) (h:L6 S p x) (hn:n<=4000):∃ x',ZN x (n:Int)=some (x',ofBytes (up (Mc S p n)))/\L6 S (p+n) x':=by
 have key:∀ (r m:Nat) (x:F6) (v:F6) (o:List Nat),n - o.length=r->r<m->o.length<=n->L6 S (p+o.length) x->∃ x',fZ m (.c0 (n:Int) (ofBytes (up o)) x v)=some (x',ofBytes (up (o++Mc S (p+o.length) (n - o.length))))/\L6 S (p+n) x':=by
  intro r;induction r using Nat.strongRecOn with
  | ind r ih=>
  intro m x v o hr hm ho hx;obtain ⟨m,rfl⟩:∃ m',m=m'+1:=⟨m - 1,by omega⟩
  have hos:(ofBytes (up o)).size=o.length:=by rw [Dj,Dq]
  rw [fZ];simp only [BA6,mk];by_cases hlt:o.length<n
  ·have en:AV ((n:Int) - ((ofBytes (up o)).size:Int))=((n - o.length:Nat):Int):=by grind [wn]
   rw [AL (by simp_all)];have go:∀ (q a k:Nat),168*q+a=p+o.length->a+k<=168->0<k->k<=n - o.length->∃ x',fZ m (.c0 (n:Int) (ofBytes (up o)++(H8 S q).extract a (a+k)) ⟨H8 S q,((a+k:Nat):Int)⟩ v)=some (x',ofBytes (up (o++Mc S (p+o.length) (n - o.length))))/\L6 S (p+n) x':=by
    intro q a k h1 h2 h3 h4;rw [<-DBp ((H8 S q).extract a (a+k)),chunk hS h2,EBp,h1];have hl:(o++Mc S (p+o.length) k).length=o.length+k:=by simp [QAr]
    obtain ⟨x',e1,e2⟩:=ih (n - (o.length+k)) (by omega) m ⟨H8 S q,((a+k:Nat):Int)⟩ v (o++Mc S (p+o.length) k) (by rw [hl]) (by omega) (by omega) ⟨q,a+k,rfl,by omega,h2⟩
    refine ⟨x',?_,e2⟩;rw [e1,hl,List.append_assoc,<-Nat.add_assoc,SBN,show k+(n - (o.length+k))=n - o.length by omega]
   obtain ⟨q,a,rfl,ha,ha2⟩:=hx
   have hz:=ZO hS q;have hz2:=ZO hS (q+1);have big:∀ (T:AA) (i j:Nat),T.size=200->decide ((ofBytes (up o)).size+(T.extract i j).size<=9223372036854775807)=true:=fun T i j hT=>by grind [ByteArray.size_extract]
   dsimp only;by_cases C3:a=168
   ·subst C3;rw [AL (by rfl),TBP hz,AP,show ZP (H8 S q)=H8 S (q+1) from rfl,en,show AV ((168:Int) - (0:Int))=168 by decide];by_cases hk:168<n - o.length;·have b1:=big (H8 S (q+1)) 0 (0+168) hz2;rw [if_pos (show (168:Int)<((n - o.length:Nat):Int) by omega),show AV (0+168)=((0+168:Nat):Int) by decide,show (0:Int).toNat=0 from rfl,BR,AL (by rw [Bool.and_eq_true,Bool.and_eq_true,decide_eq_true_eq,decide_eq_true_eq,decide_eq_true_eq];omega),b1,Ar];exact go (q+1) 0 168 (by omega) (by omega) (by omega) (by omega)
    ·have e0:AV (0+((n - o.length:Nat):Int))=((0+(n - o.length):Nat):Int):=by grind
     have b1:=big (H8 S (q+1)) 0 (0+(n - o.length)) hz2;rw [if_neg (show ¬ (168:Int)<((n - o.length:Nat):Int) by omega),e0,show (0:Int).toNat=0 from rfl,BR,AL (by grind),b1,Ar];exact go (q+1) 0 (n - o.length) (by omega) (by omega) (by omega) (Nat.le_refl _)
   ·have ea:AV (168 - (a:Int))=((168 - a:Nat):Int):=by grind [wn]
    rw [BF (by grind),en,ea,BR];by_cases hk:168 - a<n - o.length;·have e0:AV ((a:Int)+((168 - a:Nat):Int))=((a+(168 - a):Nat):Int):=wn (n:=a+(168 - a)) (by omega);have b1:=big (H8 S q) a (a+(168 - a)) hz;rw [if_pos (show ((168 - a:Nat):Int)<((n - o.length:Nat):Int) by omega),e0,BR,AL (by grind),b1,Ar];grind
    ·have e0:AV ((a:Int)+((n - o.length:Nat):Int))=((a+(n - o.length):Nat):Int):=wn (n:=a+(n - o.length)) (by omega);have b1:=big (H8 S q) a (a+(n - o.length)) hz;rw [if_neg (show ¬ ((168 - a:Nat):Int)<((n - o.length:Nat):Int) by omega),e0,BR,AL (by grind),b1,Ar];grind
  grind [Mc]
 obtain ⟨q,a,rfl,ha,ha2⟩:=h
 have h1:=ZO hS q;have hi1:Ark ((n:Nat):Int) 0 4000=true:=Aqo.2 (by omega);have hi2:Ark ((a:Nat):Int) 0 168=true:=Aqo.2 (by omega);rw [ZN,AIh,mk,Ti,AP,hi1,DN,Aq,BF (by simp_all),Ti,AP,hi2,DN,Aq];obtain ⟨x',e1,e2⟩:=key n AY ⟨H8 S q,(a:Int)⟩ ⟨⟨#[]⟩,0⟩ [] (by rfl) (FM (by omega)) (DJ _) ⟨q,a,rfl,ha,ha2⟩
 exact ⟨x',e1,e2⟩
theorem BBr {s:AA} {n:Nat} (h:s.size<=2000) (hn:n<=4000):gB s (n:Int)=some (ofBytes (up (Mc (sd s) 0 n)),true):=by
 obtain ⟨x',e,_⟩:=VBP (n:=n) (RAr s) (SAr s) hn
 rw [gB,CA6,mk,Ti,AP,Aqo.2 (by omega),DN,Aq,UBP h,AP,e];rfl
theorem ZQ {n:Int}:P8 n=some (n % 3329):=by
 have h:(AV ((n.tmod 3329)+3329)).tmod 3329=n % 3329:=by grind [A8]
 rw [P8,DA6,mk,h]
theorem WBP {seed:AA} {n:Nat} (h:seed.size<=1000) (hn:n<256):rV seed (n:Int)=some (up (Jt seed n)):=by
 have h1:Ar3 (n:Int)=some (Ih n):=AvD (by omega) (by omega);have hz:(Ih n).size=1:=by rfl
 have h2:=BBr (s:=seed++Ih n) (n:=128) (by grind) (by omega);have hs:(ofBytes (up (Mc (sd (seed++Ih n)) 0 128))).size=128:=by rfl
 have h2:gB (seed++Ih n) 128=_:=h2;rw [rV,EA6,mk,h1,AP,AL (by grind),h2,AP];dsimp only;rw [Jt];generalize ofBytes (up (Mc (sd (seed++Ih n)) 0 128))=s at hs;have c2:∀ k:Nat,(2:Int) ^ k=((2 ^ k:Nat):Int):=fun k=>by rfl
 have sl:=Qd (Lp:=gG) (st:=fun i o=>.c0 s ((256:Nat):Int) (i:Int) (up o)) (f:=fun i o=>o.set i (XR (Aqj s (i / 2) / 2 ^ (4*(i % 2))))) (P:=fun _ o=>o.length=256) (n:=256) 1 (fun m i o hi ho=>by
  refine ⟨?_,by simp_all⟩;have hb:=VY s (i / 2);have w1:AV ((i:Int)+1)=((i+1:Nat):Int):=wn (n:=i+1) (by omega);have e1:AV ((i:Int).tdiv 2)=((i / 2:Nat):Int):=wn (n:=i / 2) (by omega);have e2:(i:Int).tmod 2=((i % 2:Nat):Int):=rfl;have e3:AV (4*((i % 2:Nat):Int))=((4*(i % 2):Nat):Int):=wn (n:=4*(i % 2)) (by omega);have e4:Min.min (4*(i % 2)) (IntKind.bits IntKind.u8)=4*(i % 2):=Nat.min_eq_left (by show 4*(i % 2)<=8;omega);have fd:∀ (a k:Nat),Int.fdiv (a:Int) ((2 ^ k:Nat):Int)=((a / 2 ^ k:Nat):Int):=fun a k=>by grind
  have hb2:Aqj s (i / 2) / 2 ^ (4*(i % 2))<256:=Nat.lt_of_le_of_lt (Nat.div_le_self _ _) hb;have m1:Min.min (1:Int).toNat (IntKind.bits IntKind.i64)=1:=by decide
  have m2:Min.min (2:Int).toNat (IntKind.bits IntKind.i64)=2:=by decide
  have m3:Min.min (3:Int).toNat (IntKind.bits IntKind.i64)=3:=by decide
  rw [gG];simp only [FA6,mk,w1,e1,e2,e3,BR,e4,P9,m1,m2,m3,c2,fd];generalize Aqj s (i / 2) / 2 ^ (4*(i % 2))=b at hb2;have hd:∀ k,b / 2 ^ k<=b:=fun k=>Nat.div_le_self _ _
  have d1:=hd 1;have d2:=hd 2;have d3:=hd 3;rw [wn (n:=b) (by omega)];simp only [fd];rw [and1 (n:=b) (by omega),and1 (n:=b / 2 ^ 1) (by omega),and1 (n:=b / 2 ^ 2) (by omega),and1 (n:=b / 2 ^ 3) (by omega),show b / 2 ^ 1=b / 2 from rfl,show b / 2 ^ 2=b / 4 from rfl,show b / 2 ^ 3=b / 8 from rfl,A8 (n:=((b % 2:Nat):Int)+((b / 2 % 2:Nat):Int)) (by omega) (by omega),A8 (n:=((b % 2:Nat):Int)+((b / 2 % 2:Nat):Int) - ((b / 4 % 2:Nat):Int)) (by omega) (by omega),A8 (n:=((b % 2:Nat):Int)+((b / 2 % 2:Nat):Int) - ((b / 4 % 2:Nat):Int) - ((b / 8 % 2:Nat):Int)) (by omega) (by omega),ZQ,AP,show (((b % 2:Nat):Int)+((b / 2 % 2:Nat):Int) - ((b / 4 % 2:Nat):Int) - ((b / 8 % 2:Nat):Int)) % 3329=((XR b:Nat):Int) by rw [XR];omega,AsH,AL (by grind),GX (by omega),AL (by rfl),AL (Awg (by omega))])
 obtain ⟨m,hm⟩:∃ m,AY=m+1+256*1:=⟨AY - 257,by rfl⟩
 rw [hm,show (256:Int).toNat=256 from rfl,List.length_replicate,<-Aqz];refine (sl 256 0 (m+1) (List.replicate 256 0) (by omega) List.length_replicate).1.trans ?_;rw [rW (v:=fun i=>XR (Aqj s (i / 2) / 2 ^ (4*(i % 2)))) List.length_replicate,gG];rfl
theorem XBP {seed:AA} {f:Nat} (h:seed.size<=1000) (hf:f<255):ZR seed (f:Int)=some [up (Jt seed f),up (Jt seed (f+1))]:=by
 have e0:AV ((f:Int)+0)=(f:Int):=by grind [wn]
 have e1:AV ((f:Int)+1)=((f+1:Nat):Int):=wn (n:=f+1) (by omega);have w0:AV (0+1)=1:=by decide
 have w1:AV (1+1)=2:=by decide
 obtain ⟨m,hm⟩:∃ m,AY=m+3:=⟨AY - 3,rfl⟩
 rw [ZR,GA6,hm];rw [rX];simp only [LAo,mk];rw [AL (by rfl),e0,WBP h (by omega),AP,AL (by rfl),w0];rw [rX];simp only [LAo,mk];rw [AL (by rfl),e1,WBP h (by omega),AP,AL (by rfl),w1];rfl
theorem gI {l:List Nat} (h:Qb l):Aq9 (up l)=some true:=by
 have hl:=h.1
 have s:=Qd (Lp:=gJ) (st:=fun i (_:Unit)=>.c0 (up l) (up l) ((up l).length:Int) (i:Int)) (f:=fun _ a=>a) (P:=fun _ _=>True) (n:=256) 1 (fun m i _ hi _=>by
  refine ⟨?_,trivial⟩;have w1:AV ((i:Int)+1)=((i+1:Nat):Int):=wn (n:=i+1) (by omega);have hq:=h.get i;grind [gJ,MAo,BR,GN,Dq,Ti,Aqo])
 obtain ⟨m,hm⟩:∃ m,AY=m+1+256*1:=⟨AY - 257,by rfl⟩
 rw [Aq9,HA6,mk,hm];refine (s 256 0 (m+1) () (by omega) trivial).1.trans ?_;simp_all [gJ,MAo,mk,Dq]
theorem CBr {l:List Int} (h:l.length<=1000):rY l=some l:=by rw [rY,IA6,mk,AL (by grind)]
theorem YBP {n:Nat} (h:n<128):ZT (n:Int)=some ((t7 n:Nat):Int):=by
 have c2:∀ k:Nat,(2:Int) ^ k=((2 ^ k:Nat):Int):=fun k=>by rfl
 have fd:∀ (a k:Nat),Int.fdiv (a:Int) ((2 ^ k:Nat):Int)=((a / 2 ^ k:Nat):Int):=fun a k=>by grind
 have s:=Qd (Lp:=rZ) (st:=fun i (o:Nat)=>.c0 (n:Int) (o:Int) (i:Int)) (f:=fun i o=>2*o+n / 2 ^ i % 2) (P:=fun i o=>o<2 ^ i) (n:=7) 1 (fun m i o hi ho=>by
  have hp:2 ^ (i+1)<=2 ^ 7:=Nat.pow_le_pow_right (by decide) hi;have hlt:2*o+n / 2 ^ i % 2<2 ^ (i+1):=by omega
  refine ⟨?_,hlt⟩;have hd:n / 2 ^ i<=n:=Nat.div_le_self _ _;have F1:(2:Nat) ^ 7=128:=rfl;have w1:AV ((i:Int)+1)=((i+1:Nat):Int):=wn (n:=i+1) (by omega);have m1:Min.min i (IntKind.bits IntKind.i64)=i:=Nat.min_eq_left (by show i<=64;omega);have e3:AV (2*(o:Int))=((2*o:Nat):Int):=wn (n:=2*o) (by omega);have e4:AV (((2*o:Nat):Int)+((n / 2 ^ i % 2:Nat):Int))=((2*o+n / 2 ^ i % 2:Nat):Int):=wn (n:=2*o+n / 2 ^ i % 2) (by omega);rw [rZ];simp only [KA6,mk,w1,BR,m1,c2,fd,e3];rw [and1 (n:=n / 2 ^ i) (by omega),e4,AL (by grind),AL (by rfl)])
 obtain ⟨m,hm⟩:∃ m,AY=m+1+7*1:=⟨AY - 8,rfl⟩
 rw [ZT,JA6,hm];refine (s 7 0 (m+1) 0 (by omega) (by decide)).1.trans ?_;rfl
theorem ZBP {e:Nat} (he:e<1024):ZU 17 (e:Int)=some ((XT e:Nat):Int):=by
 have key:∀ (k b e o m:Nat),e<2 ^ k->b<3329->o<3329->e<1024->ru (m+k+1) (.c0 (b:Int) (e:Int) (o:Int))=some ((XU k b e o:Nat):Int):=by
  intro k;induction k with
  | zero=>
   intro b e o m h _ _ _;obtain rfl:e=0:=by omega
   rfl
  | succ k ih=>
   intro b e o m h hb ho he;rw [AwB m k,ru,XU];simp only [MA6,mk];by_cases h0:e=0;·simp_all
   ·have e1:AV ((e:Int).tdiv 2)=((e / 2:Nat):Int):=wn (n:=e / 2) (by omega);have e2:(e:Int).tmod 2=((e % 2:Nat):Int):=rfl;rw [AL (by grind),e1,e2,ZV hb hb,ZV ho hb,if_neg h0];have hk:e / 2<2 ^ k:=by omega
    by_cases h1:e % 2=1;·rw [if_pos h1,h1,AL (by rfl)];exact ih _ _ _ _ hk (Nat.mod_lt _ (by decide)) (Nat.mod_lt _ (by decide)) (by omega)
    ·rw [if_neg h1,BF (by simp_all)];exact ih _ _ _ _ hk (Nat.mod_lt _ (by decide)) ho (by omega)
 obtain ⟨m,hm⟩:∃ m,AY=m+10+1:=⟨AY - 11,rfl⟩
 rw [ZU,LA6,Ti,AP,Aqo.2 (by omega),DN,Aq,ZQ,AP,hm];exact key 10 17 e 1 m he (by decide) (by decide) he
theorem DBr {p:List Nat} (h:Qb p):ZW (up p)=some (up (gK p)):=by
 have inner:∀ (k size start z:Nat) (m:Nat) (o:List Nat),0<size->start+2*size<=256->z<3329->Qb o->O6 (m+size*1) (.c2 (k:Int) (size:Int) (start:Int) (z:Int) (start:Int) (up o))=O6 m (.c2 (k:Int) (size:Int) (start:Int) (z:Int) ((start+size:Nat):Int) (up (Ib (fun j o=>gQ z size (start+j) o) size 0 o))):=fun k size start z m o hs hst hz ho=>(Qd (Lp:=O6) (st:=fun j o=>.c2 (k:Int) (size:Int) (start:Int) (z:Int) ((start+j:Nat):Int) (up o)) (f:=fun j o=>gQ z size (start+j) o) (P:=fun _ o=>Qb o) (n:=size) 1 (fun m j o hj ho=>by
  refine ⟨?_,NBB ho _ _ _⟩;have hl:=ho.1;have h1:=ho.get (start+j);have h2:=ho.get (start+j+size);have e1:AV (((start+j:Nat):Int)+1)=((start+(j+1):Nat):Int):=wn (n:=start+(j+1)) (by omega);have e2:AV (((start+j:Nat):Int)+(size:Int))=((start+j+size:Nat):Int):=wn (n:=start+j+size) (by omega);have e3:AV ((start:Int)+(size:Int))=((start+size:Nat):Int):=wn (n:=start+size) (by omega);have hzb:z*o.getD (start+j+size) 0<3329*3329:=Nat.mul_lt_mul'' hz h2;have e4:AV ((z:Int)*((o.getD (start+j+size) 0:Nat):Int))=((z*o.getD (start+j+size) 0:Nat):Int):=by rw [show (z:Int)*((o.getD (start+j+size) 0:Nat):Int)=((z*o.getD (start+j+size) 0:Nat):Int) from (Int.natCast_mul _ _).symm];exact wn (by omega)
  rw [O6];simp only [ZX,mk,e1,e2,e3,BR,GN,e4];have e5:AV (((o.getD (start+j) 0:Nat):Int)+((z*o.getD (start+j+size) 0:Nat):Int)) % 3329=(((o.getD (start+j) 0+z*o.getD (start+j+size) 0 % 3329) % 3329:Nat):Int):=by grind [A8]
  have e6:AV (((o.getD (start+j) 0:Nat):Int) - ((z*o.getD (start+j+size) 0:Nat):Int)) % 3329=(((o.getD (start+j) 0+3329 - z*o.getD (start+j+size) 0 % 3329) % 3329:Nat):Int):=by grind [A8]
  rw [ZQ,AP,ZQ,AP,e5,e6,AsH,AsH,AL (by simp_all),AL (Awg (by omega)),AL (Awg (by omega)),AL (Awg (by omega)),AL (Awg (by omega)),AL (Awg (by grind)),List.set_comm _ _ (show start+j≠start+j+size by omega)];rfl) size 0 m o (by omega) ho).1
 have level:∀ (k0 size c:Nat) (m:Nat) (o:List Nat),1<size->size*c=128->k0=c->Qb o->O6 (m+1+c*(size+2)+1) (.c0 (k0:Int) (size:Int) (up o))=O6 m (.c0 ((k0+c:Nat):Int) ((size / 2:Nat):Int) (up (TY k0 size c o))):=by
  intro k0 size c m o hs hc hk ho;have hsc:size<=128/\c<=64:=by refine ⟨Nat.le_of_dvd (by decide) ⟨c,hc.symm⟩,?_⟩;have h2:2*c<=size*c:=Nat.mul_le_mul_right c hs;omega
  have s:=Qd (Lp:=O6) (st:=fun i o=>.c1 ((k0+i:Nat):Int) (size:Int) ((2*size*i:Nat):Int) (up o)) (f:=VAr k0 size) (P:=fun _ o=>Qb o) (n:=c) (size+2) (fun m i o hi ho=>by
   refine ⟨?_,OBB ho _ _ _⟩;have hb:size*(i+1)<=size*c:=Nat.mul_le_mul_left size hi;have hb2:2*size*i=2*(size*i):=Nat.mul_assoc 2 size i;have hb3:2*size*(i+1)=2*size*i+2*size:=Nat.mul_succ _ _;rw [Nat.mul_succ] at hb;have e1:AV (((k0+i:Nat):Int)+1)=((k0+(i+1):Nat):Int):=wn (n:=k0+(i+1)) (by omega);have e2:AV (2*(size:Int))=((2*size:Nat):Int):=wn (n:=2*size) (by omega);have e3:AV (((2*size*i:Nat):Int)+((2*size:Nat):Int))=((2*size*(i+1):Nat):Int):=by grind [wn]
   have e4:AV (((2*size*i:Nat):Int)+(size:Int))=((2*size*i+size:Nat):Int):=wn (n:=2*size*i+size) (by omega);have h7:=UAr (k0+i);rw [show m+(size+2)=m+1+size*1+1 by omega,O6];simp only [ZX,mk,e1];rw [AL (by grind),YBP (n:=k0+i) (by omega),AP,ZBP (e:=t7 (k0+i)) (by omega),AP];refine (inner (k0+(i+1)) size (2*size*i) _ (m+1) o (by omega) (by omega) (TAr _) ho).trans ?_;rw [O6];simp only [ZX,mk,e2,e3,e4];rw [BF (by simp)];rfl)
  rw [O6];simp only [ZX,mk];rw [AL (by grind)];refine (s c 0 (m+1) o (by omega) ho).1.trans ?_;have hb2:2*size*c=256:=by grind
  have e5:AV ((size:Int).tdiv 2)=((size / 2:Nat):Int):=wn (n:=size / 2) (by omega);rw [O6];simp only [ZX,mk,e5];rw [BF (by simp_all)];rfl
 have hl:=h.1;obtain ⟨m,hm⟩:∃ m,AY=m+1+1+64*(2+2)+1+1+32*(4+2)+1+1+16*(8+2)+1+1+8*(16+2)+1+1+4*(32+2)+1+1+2*(64+2)+1+1+1*(128+2)+1:=⟨AY - 1165,by rfl⟩
 rw [ZW,NA6,mk,gI h,AP,DN,Aq,CBr (by grind [Dq]),AP,hm];have o1:=Aro h 1 128 1;have o2:=Aro o1 2 64 2;have o3:=Aro o2 4 32 4;have o4:=Aro o3 8 16 8;have o5:=Aro o4 16 8 16;have o6:=Aro o5 32 4 32;refine (level 1 128 1 _ p (by omega) rfl rfl h).trans ?_;refine (level 2 64 2 _ _ (by omega) rfl rfl o1).trans ?_;refine (level 4 32 4 _ _ (by omega) rfl rfl o2).trans ?_;refine (level 8 16 8 _ _ (by omega) rfl rfl o3).trans ?_;refine (level 16 8 16 _ _ (by omega) rfl rfl o4).trans ?_;refine (level 32 4 32 _ _ (by omega) rfl rfl o5).trans ?_;refine (level 64 2 64 (m+1) _ (by omega) rfl rfl o6).trans ?_;rfl
theorem ASA {a b:List Nat} (ha:Qb a) (hb:Qb b):ZY [up a,up b]=some [up (gK a),up (gK b)]:=by
 have w0:AV (0+1)=1:=by decide
 have w1:AV (1+1)=2:=by decide
 obtain ⟨m,hm⟩:∃ m,AY=m+3:=⟨AY - 3,rfl⟩
 rw [ZY,OA6,hm];grind [OAo,PA6,DBr]
theorem BBQ {seed:AA} {i j:Nat} (h:seed.size<=1000) (hi:i<256) (hj:j<256):Za seed (i:Int) (j:Int)=some (up (Av5 seed i j)):=by
 have h1:Ar3 (i:Int)=some (Ih i):=AvD (by omega) (by omega);have h2:Ar3 (j:Int)=some (Ih j):=AvD (by omega) (by omega);have hz:∀ n,(Ih n).size=1:=fun n=>by rfl
 have hz1:=hz i;have hz2:=hz j;have hsz:((seed++Ih i)++Ih j).size=seed.size+2:=by simp_all
 rw [Za,QA6,mk,h1,AP,AL (by grind),h2,AP,AL (by grind),UBP (by omega),AP,Av5];generalize hS:sd ((seed++Ih i)++Ih j)=S;have hSz:S.size=200:=by grind [RAr]
 have inner:∀ (k:Nat) (x:F6) (m:Nat) (o:List Nat),k<4000->o.length<256->Qv (m+3) (.c1 (o.length:Int) (k:Int) 2 0 x (up (Ik o)) [((Aru S k:Nat):Int),((Ju S k:Nat):Int)])=Qv m (.c0 (((Nj S k o).length:Nat):Int) ((k+1:Nat):Int) x (up (Ik (Nj S k o)))):=by
  intro k x m o hk ho;have one:∀ (v:Nat) (m:Nat) (o:List Nat) (u:Int) (y:Nat),(u=0/\y=Aru S k\/u=1/\y=Ju S k)->o.length<=256->Qv (m+1) (.c1 (o.length:Int) (k:Int) 2 u x (up (Ik o)) [((Aru S k:Nat):Int),((Ju S k:Nat):Int)])=Qv m (.c1 (((QA y o).length:Nat):Int) (k:Int) 2 (u+1) x (up (Ik (QA y o))) [((Aru S k:Nat):Int),((Ju S k:Nat):Int)]):=by
   intro v m o u y hu ho;have hg:([((Aru S k:Nat):Int),((Ju S k:Nat):Int)]:List Int).getD u.toNat 0=(y:Int):=by grind
   have hc:(decide (0<=u) && decide (u<(([((Aru S k:Nat):Int),((Ju S k:Nat):Int)]:List Int).length:Int)))=true:=by grind
   have hu2:u<2/\AV (u+1)=u+1:=by rcases hu with ⟨rfl,rfl⟩ | ⟨rfl,rfl⟩ <;> decide
   have hw:AV ((o.length:Int)+1)=((o.length+1:Nat):Int):=wn (n:=o.length+1) (by omega);have hpl:(Ik o).length=256:=by simp_all [Ik]
   rw [Qv];simp only [gU,mk];rw [AL (by simp_all),hc,Ar,hg,hu2.2,hw,QA];by_cases h1:y<3329
   ·rw [AL (by grind)];by_cases h2:o.length<256;·rw [AL (by grind),AL (Awg (by omega)),BR,AsH,JBp h2,if_pos ⟨h1,h2⟩,List.length_append,List.length_singleton]
    grind
   grind
  have hl1:(QA (Aru S k) o).length<=256:=by grind [QA]
  have hw:AV ((k:Int)+1)=((k+1:Nat):Int):=wn (n:=k+1) (by omega);refine (one 0 (m+2) o 0 _ (.inl ⟨rfl,rfl⟩) (by omega)).trans ?_;refine (one 0 (m+1) _ (0+1) _ (.inr ⟨rfl,rfl⟩) hl1).trans ?_;rw [Qv];simp only [gU,mk,hw];rfl
 have key:∀ (r k:Nat) (m:Nat) (x:F6) (o:List Nat),k+r=4000->UQ o->L6 S (3*k) x->Qv (m+r*4+1) (.c0 (o.length:Int) (k:Int) x (up (Ik o)))=some (up (Ik (XV S r k o))):=by
  intro r;induction r with
  | zero=>
   intro k m x o hk ho hx;rw [Qv];simp only [gU,mk];rw [BF (by simp_all)];rfl
  | succ r ih=>
   intro k m x o hk ho hx;rw [show m+(r+1)*4+1=(m+r*4+1)+3+1 by omega,Qv,XV];simp only [gU,mk];rw [AL (by grind)];by_cases hlt:o.length<256
   ·obtain ⟨x',e,hx'⟩:=VBP (n:=3) hSz hx (by omega)
    have e:ZN x 3=_:=e;have hs3:(ofBytes (up (Mc S (3*k) 3))).size=3:=by rfl
    have t0:bt (ofBytes (up (Mc S (3*k) 3))) 0=((strm S (3*k):Nat):Int):=by grind [P9,VZ]
    have t1:bt (ofBytes (up (Mc S (3*k) 3))) 1=((strm S (3*k+1):Nat):Int):=by grind [P9,VZ]
    have t2:bt (ofBytes (up (Mc S (3*k) 3))) 2=((strm S (3*k+2):Nat):Int):=by rw [show (2:Int)=((2:Nat):Int) from rfl,P9,VZ S (by omega)]
    have l0:=Zb S (3*k);have l1:=Zb S (3*k+1);have l2:=Zb S (3*k+2);have va:AV (((strm S (3*k):Nat):Int)+AV (((strm S (3*k+1):Nat):Int).tmod 16*256))=((Aru S k:Nat):Int):=by grind [A8,Aru]
    have vb:AV (AV (((strm S (3*k+1):Nat):Int).tdiv 16)+AV (16*((strm S (3*k+2):Nat):Int)))=((Ju S k:Nat):Int):=by grind [A8,Ju]
    rw [AL (by grind),e,AP];dsimp only;rw [t0,t1,t2,wn (n:=strm S (3*k)) (by omega),wn (n:=strm S (3*k+1)) (by omega),wn (n:=strm S (3*k+2)) (by omega),va,vb,AL (by rfl),AL (by rfl),AL (by rfl),if_pos hlt];refine (inner k x' (m+r*4+1) o (by omega) hlt).trans ?_;exact ih (k+1) m x' _ (by omega) (Tc ho) (by omega)
   grind
 obtain ⟨m,hm⟩:∃ m,AY=m+4000*4+1:=⟨AY - 16001,by rfl⟩
 rw [hm,show (256:Int).toNat=256 from rfl,<-Aqz];refine key 4000 0 m ⟨S,0⟩ [] (by omega) ⟨DJ _,fun _ h=>by cases h⟩ ?_;grind [SAr]
theorem CBQ {rho:AA} {i:Nat} (h:rho.size<=1000) (hi:i<256):Zc rho (i:Int) false=some [up (Av5 rho 0 i),up (Av5 rho 1 i)]:=by
 have u0:Za rho 0 (i:Int)=some (up (Av5 rho 0 i)):=BBQ (i:=0) (j:=i) h (by decide) hi;have u1:Za rho 1 (i:Int)=some (up (Av5 rho 1 i)):=BBQ (i:=1) (j:=i) h (by decide) hi;have w0:AV (0+1)=1:=by decide
 have w1:AV (1+1)=2:=by decide
 obtain ⟨m,hm⟩:∃ m,AY=m+3:=⟨AY - 3,rfl⟩
 simp_all [Zc,RA6,PAo,SA6,mk]
theorem DBQ {a b:List Nat} (ha:Qb a) (hb:Qb b):sD (up a) (up b)=some (up (mulL a b)):=by
 have hal:=ha.1;have hbl:=hb.1
 have s:=Qd (Lp:=gV) (st:=fun i o=>.c0 (up a) (up b) (i:Int) (up o)) (f:=fun i o=>(o.set (2*i) (Nz a b (2*i))).set (2*i+1) (Nz a b (2*i+1))) (P:=fun _ o=>o.length=256) (n:=128) 1 (fun m i o hi ho=>by
  refine ⟨?_,by simp_all⟩;have h7:=UAr i;have w1:AV ((i:Int)+1)=((i+1:Nat):Int):=wn (n:=i+1) (by omega);have e1:AV (2*(i:Int))=((2*i:Nat):Int):=wn (n:=2*i) (by omega);have e2:AV (((2*i:Nat):Int)+1)=((2*i+1:Nat):Int):=wn (n:=2*i+1) (by omega);have e3:AV (2*((t7 i:Nat):Int))=((2*t7 i:Nat):Int):=wn (n:=2*t7 i) (by omega);have e4:AV (((2*t7 i:Nat):Int)+1)=((2*t7 i+1:Nat):Int):=wn (n:=2*t7 i+1) (by omega);have g:=TAr (2*t7 i+1);have a0:=ha.get (2*i);have a1:=ha.get (2*i+1);have b0:=hb.get (2*i);have b1:=hb.get (2*i+1);have p00:=mul_lt a0 b0;have p11:=mul_lt a1 b1;have p01:=mul_lt a0 b1;have p10:=mul_lt a1 b0;have hm:a.getD (2*i+1) 0*b.getD (2*i+1) 0 % 3329<3329:=Nat.mod_lt _ (by decide);have pg:=mul_lt hm g;rw [gV];simp only [UA6,mk,w1,e1,e2,BR,GN];rw [AL (by grind),YBP (by omega),AP,e3,e4,ZBP (by omega),AP,ZV a1 b1,XW hm g,XW a0 b0,XW a0 b1,XW a1 b0,ZQ,AP,ZQ,AP];have v1:(AV (((a.getD (2*i) 0*b.getD (2*i) 0:Nat):Int)+((a.getD (2*i+1) 0*b.getD (2*i+1) 0 % 3329*XT (2*t7 i+1):Nat):Int))) % 3329=((Nz a b (2*i):Nat):Int):=by grind [VBN,wn]
  have v2:(AV (((a.getD (2*i) 0*b.getD (2*i+1) 0:Nat):Int)+((a.getD (2*i+1) 0*b.getD (2*i) 0:Nat):Int))) % 3329=((Nz a b (2*i+1):Nat):Int):=by grind [WBN,wn]
  rw [v1,v2,AsH,AsH,AL (Awg (by omega)),AL (Awg (by omega)),AL (Awg (by omega)),AL (Awg (by omega)),AL (Awg (by omega)),AL (Awg (by grind))])
 obtain ⟨m,hm⟩:∃ m,AY=m+1+128*1:=⟨AY - 129,by rfl⟩
 rw [sD,TA6,mk,gI ha,AP,DN,Aq,gI hb,AP,DN,Aq,hm,show (256:Int).toNat=256 from rfl,<-Aqz];refine (s 128 0 (m+1) (List.replicate 256 0) (by omega) List.length_replicate).1.trans ?_;rw [XBN,show 2*128=256 from rfl,Nat.mul_zero,rW (v:=Nz a b) List.length_replicate,gV];rfl
theorem YBB {a b:List Nat} (ha:Qb a) (hb:Qb b):Ari (up a) (up b)=some (up (Zd a b)):=by
 have hal:=ha.1;have hbl:=hb.1;have hn:SAo (up a) (up b) 268=some (up (Zd a b)):=by
  have s:=Qd (Lp:=gW) (st:=fun i o=>.c0 (up a) (up b) 268 ((256:Nat):Int) (i:Int) (up o)) (f:=fun i o=>o.set i ((a.getD i 0+b.getD i 0) % 3329)) (P:=fun _ o=>o.length=256) (n:=256) 1 (fun m i o hi ho=>by
   refine ⟨?_,by rw [List.length_set,ho]⟩;have w1:AV ((i:Int)+1)=((i+1:Nat):Int):=wn (n:=i+1) (by omega);have a0:=ha.get i;have b0:=hb.get i;have v:(AV (((a.getD i 0:Nat):Int)+((b.getD i 0:Nat):Int))) % 3329=(((a.getD i 0+b.getD i 0) % 3329:Nat):Int):=by rw [<-Int.natCast_add,wn (by omega)];rfl
   rw [gW];simp only [RAo,mk,w1,BR,GN];rw [Ep (by omega),AL (Awg (by omega)),AL (Awg (by omega)),AL (by rfl),QAo,VA6,mk,AP,ZQ,AP,v,AsH,AL (Awg (by omega))])
  obtain ⟨m,hm⟩:∃ m,AY=m+1+256*1:=⟨AY - 257,by have:=FM (n:=257) (by omega);omega⟩
  rw [SAo,XA6,mk,gI ha,AP,DN,Aq,gI hb,AP,DN,Aq,hm,show (256:Int).toNat=256 from rfl,List.length_replicate,<-Aqz];refine (s 256 0 (m+1) (List.replicate 256 0) (by omega) List.length_replicate).1.trans ?_;rw [rW (v:=fun i=>(a.getD i 0+b.getD i 0) % 3329) List.length_replicate,gW];simp only [RAo,mk];rw [Jh (by omega)];rfl
 rw [Ari,YA6,mk,hn];rfl
theorem EBr {a0 a1 b0 b1:List Nat} (ha0:Qb a0) (ha1:Qb a1) (hb0:Qb b0) (hb1:Qb b1):XY [up a0,up a1] [up b0,up b1]=some (up (YAr a0 a1 b0 b1)):=by
 obtain ⟨m,hm⟩:∃ m,AY=m+1+1+1:=⟨AY - 3,rfl⟩
 rw [XY,ZA6,mk,hm,show (256:Int).toNat=256 from rfl,<-Aqz,gX];simp only [TAo,mk];rw [AL (by rfl),AL (by rfl),AL (by rfl),show ([up a0,up a1]:List (List Int)).getD (0:Int).toNat []=up a0 from rfl,show ([up b0,up b1]:List (List Int)).getD (0:Int).toNat []=up b0 from rfl,DBQ ha0 hb0,AP,YBB ASH (WAr _ _),AP,show AV (0+1)=1 by decide,gX];simp only [TAo,mk];rw [AL (by rfl),AL (by rfl),AL (by rfl),show ([up a0,up a1]:List (List Int)).getD (1:Int).toNat []=up a1 from rfl,show ([up b0,up b1]:List (List Int)).getD (1:Int).toNat []=up b1 from rfl,DBQ ha1 hb1,AP,YBB (XAr _ _) (WAr _ _),AP,show AV (1+1)=2 by decide,gX];rfl
def AvC (l:List Nat) (t:Nat):Nat:=l.getD (t / 12) 0 / 2 ^ (t % 12) % 2
def Rq (l:List Nat) (p:Nat):Nat->Nat
 | 0=>0
 | c+1=>Rq l p c+AvC l (8*p+c)*2 ^ c
theorem ZBB (l:List Nat) (p:Nat):∀ c,Rq l p c<2 ^ c
 | 0=>Nat.two_pow_pos _
 | c+1=>by have h1:=ZBB l p c;have h2:AvC l (8*p+c)<2:=Nat.mod_lt _ (by decide);have h3:(AvC l (8*p+c)+1)*2 ^ c<=2*2 ^ c:=Nat.mul_le_mul_right _ h2;grind [Rq]
theorem FBr {l:List Nat} (h:Qb l) (p:Nat):Rq l p 8=Iz l p:=by
 have hx:=h.get (2*(p / 3));have hy:=h.get (2*(p / 3)+1);have e:Rq l p 8=AvC l (8*p)+AvC l (8*p+1)*2+AvC l (8*p+2)*4+AvC l (8*p+3)*8+AvC l (8*p+4)*16+AvC l (8*p+5)*32+AvC l (8*p+6)*64+AvC l (8*p+7)*128:=by simp [Rq]
 have hp:p=3*(p / 3)+p % 3:=by omega
 generalize hq:p / 3=q at hp hx hy;have h3:p % 3<3:=Nat.mod_lt _ (by decide);have b:∀ t i k,t=12*i+k->k<12->AvC l t=l.getD i 0 / 2 ^ k % 2:=fun t i k h1 h2=>by rw [AvC,show t / 12=i by omega,show t % 12=k by omega]
 rcases (show p % 3=0\/p % 3=1\/p % 3=2 by omega) with h0 | h0 | h0
 ·rw [h0] at hp;subst hp;rw [e,Nat.add_zero,DBO,b _ (2*q) 0 (by omega) (by omega),b _ (2*q) 1 (by omega) (by omega),b _ (2*q) 2 (by omega) (by omega),b _ (2*q) 3 (by omega) (by omega),b _ (2*q) 4 (by omega) (by omega),b _ (2*q) 5 (by omega) (by omega),b _ (2*q) 6 (by omega) (by omega),b _ (2*q) 7 (by omega) (by omega)];omega
 ·rw [h0] at hp;subst hp;rw [e,EBO,b _ (2*q) 8 (by omega) (by omega),b _ (2*q) 9 (by omega) (by omega),b _ (2*q) 10 (by omega) (by omega),b _ (2*q) 11 (by omega) (by omega),b _ (2*q+1) 0 (by omega) (by omega),b _ (2*q+1) 1 (by omega) (by omega),b _ (2*q+1) 2 (by omega) (by omega),b _ (2*q+1) 3 (by omega) (by omega)];omega
 ·rw [h0] at hp;subst hp;rw [e,FBO,b _ (2*q+1) 4 (by omega) (by omega),b _ (2*q+1) 5 (by omega) (by omega),b _ (2*q+1) 6 (by omega) (by omega),b _ (2*q+1) 7 (by omega) (by omega),b _ (2*q+1) 8 (by omega) (by omega),b _ (2*q+1) 9 (by omega) (by omega),b _ (2*q+1) 10 (by omega) (by omega),b _ (2*q+1) 11 (by omega) (by omega)];omega
theorem Aps {a b:Nat} (ha:a<256) (hb:b<256):w8 (((BitVec.toNat ((BitVec.ofInt (IntKind.bits IntKind.u8) (a:Int)) ||| (BitVec.ofInt (IntKind.bits IntKind.u8) (b:Int)))):Nat):Int)=((a ||| b:Nat):Int):=by
 have h:a ||| b<256:=Nat.or_lt_two_pow (n:=8) ha hb
 grind [bv8,Nq]
def BBC (l:List Nat) (t:Nat) (o:List Nat):Prop:=o.length=384/\∀ p,p<384->o.getD p 0=Rq l p (min 8 (t - 8*p))
theorem GBr {l:List Nat} (h:Qb l):sF (up l) 12=some (L8 l):=by
 have hl:=h.1;have c2:∀ k:Nat,(2:Int) ^ k=((2 ^ k:Nat):Int):=fun k=>by rfl
 have fd:∀ (a k:Nat),Int.fdiv (a:Int) ((2 ^ k:Nat):Int)=((a / 2 ^ k:Nat):Int):=fun a k=>by grind
 have inner:∀ (i:Nat),i<256->∀ (m:Nat) (o:List Nat),BBC l (12*i) o->_:=fun i hi m o ho=>Qd (Lp:=XZ) (st:=fun k o=>.c1 12 (i:Int) ((l.getD i 0:Nat):Int) (up l) ((256:Nat):Int) (i:Int) 12 (k:Int) (up o)) (f:=fun k o=>o.set ((12*i+k) / 8) (o.getD ((12*i+k) / 8) 0 ||| AvC l (12*i+k)*2 ^ ((12*i+k) % 8))) (P:=fun k o=>BBC l (12*i+k) o) (n:=12) 1 (fun m k o hk ho=>by
  obtain ⟨hol,hok⟩:=ho
  have hx:=h.get i;have hbit:AvC l (12*i+k)=l.getD i 0 / 2 ^ k % 2:=by grind [AvC]
  have hw1:AV ((i:Int)*12)=((12*i:Nat):Int):=by grind [wn]
  have hw2:AV (((12*i:Nat):Int)+(k:Int))=((12*i+k:Nat):Int):=wn (n:=12*i+k) (by omega);obtain ⟨t,ht⟩:∃ t,t=12*i+k:=⟨_,rfl⟩
  rw [<-ht] at hbit hw2 hok ⊢;have hd:t / 8<384:=by omega
  have hv:=hok (t / 8) hd;rw [show min 8 (t - 8*(t / 8))=t % 8 by omega] at hv;have hpl:=ZBB l (t / 8) (t % 8);have hor:Rq l (t / 8) (t % 8) ||| AvC l t*2 ^ (t % 8)=Rq l (t / 8) (t % 8+1):=by have:=Nat.shiftLeft_add_eq_or_of_lt hpl (AvC l t);grind [Nat.shiftLeft_eq,Rq]
  have hlt:=ZBB l (t / 8) (t % 8+1);have h8:2 ^ (t % 8+1)<=2 ^ 8:=Nat.pow_le_pow_right (by decide) (by omega);have h80:2 ^ (t % 8)<=2 ^ 8:=Nat.pow_le_pow_right (by decide) (by omega);have h256:(2:Nat) ^ 8=256:=rfl;have hbp:AvC l t*2 ^ (t % 8)<256:=by grind [Rq]
  have hb2:AvC l t<2:=Nat.mod_lt _ (by decide);refine ⟨?_,by simp_all,fun p hp=>?_⟩;·have w1:AV ((k:Int)+1)=((k+1:Nat):Int):=wn (n:=k+1) (by omega);have e1:AV ((t:Int).tdiv 8)=((t / 8:Nat):Int):=wn (n:=t / 8) (by omega);have e2:(t:Int).tmod 8=((t % 8:Nat):Int):=rfl;have e3:Min.min (t % 8) (IntKind.bits IntKind.u8)=t % 8:=Nat.min_eq_left (by show t % 8<=8;omega);have e4:Min.min k (IntKind.bits IntKind.i64)=k:=Nat.min_eq_left (by show k<=64;omega);have hdv:l.getD i 0 / 2 ^ k<=l.getD i 0:=Nat.div_le_self _ _;rw [XZ];simp only [UAo,mk,w1,hw1,hw2,e1,e2,BR,e3,e4,c2,fd,GN];rw [and1 (n:=l.getD i 0 / 2 ^ k) (by omega),<-hbit,Nq (n:=((AvC l t:Nat):Int)) (by omega) (by omega),<-Int.natCast_mul,Nq (n:=((AvC l t*2 ^ (t % 8):Nat):Int)) (by omega) (by omega),hv,Aps (by omega) hbp,AsH,AL (by grind),AL (Awg (by omega)),AL (by rfl),AL (by rfl),AL (Awg (by omega))]
  grind) 12 0 m o (by omega) ho
 have so:=Qd (Lp:=XZ) (st:=fun i o=>.c0 12 (up l) ((256:Nat):Int) (i:Int) (up o)) (f:=fun i o=>Ib (fun k o=>o.set ((12*i+k) / 8) (o.getD ((12*i+k) / 8) 0 ||| AvC l (12*i+k)*2 ^ ((12*i+k) % 8))) 12 0 o) (P:=fun i o=>BBC l (12*i) o) (n:=256) 14 (fun m i o hi ho=>by
  obtain ⟨i1,i2⟩:=inner i hi (m+1) o ho
  refine ⟨?_,i2⟩;have w1:AV ((i:Int)+1)=((i+1:Nat):Int):=wn (n:=i+1) (by omega);grind [XZ,UAo,BR,GN,Awg])
 obtain ⟨m,hm⟩:∃ m,AY=m+1+256*14:=⟨AY - 3585,by rfl⟩
 have hz:(AV ((AV ((AV (((256:Nat):Int)*12))+7)).tdiv 8))=384:=by decide
 rw [sF,AJA,mk,Dq,hl,hz,hm,AL (by decide),show (384:Int).toNat=384 from rfl,<-Aqz]
 obtain ⟨a1,a2,a3⟩:=so 256 0 (m+1) (List.replicate 384 0) (by omega) ⟨List.length_replicate,fun p hp=>by
  rw [show min 8 (12*0 - 8*p)=0 by omega,List.getD_eq_getElem?_getD,List.getElem?_replicate];split <;> rfl⟩
 refine a1.trans ?_;generalize Ib (fun i o=>Ib (fun k o=>o.set ((12*i+k) / 8) (o.getD ((12*i+k) / 8) 0 ||| AvC l (12*i+k)*2 ^ ((12*i+k) % 8))) 12 0 o) 256 0 (List.replicate 384 0)=o at a2 a3;have hfin:o=(List.range 384).map (Iz l):=OAr (by rw [a2,List.length_map,List.length_range]) fun p hp=>by grind [FBr]
 rw [hfin,XZ];rfl
theorem EBQ {l:List Nat} (h:Qb l):Ze (up l)=some (L8 l):=by simp_all [Ze,BA7,mk,gI,GBr]
theorem FBQ {seed:AA} (h:seed.size=32):sG seed=some (⟨ArQ seed,O7 seed⟩,true):=by
 have z0:(⟨#[]⟩:AA).size=0:=rfl;have z1:(⟨#[114]⟩:AA).size=1:=rfl;have z2:(⟨#[115]⟩:AA).size=1:=rfl;have z3:(⟨#[122]⟩:AA).size=1:=rfl;have hd:=Qh seed;have hrs:(I4 seed).size=32:=Qh _;have hss:(Apy seed).size=32:=Qh _;have hps:=IBO seed;have hr:Ap8 (EK seed++⟨#[114]⟩)=some (I4 seed):=Apw (by simp_all);have hs:Ap8 (EK seed++⟨#[115]⟩)=some (Apy seed):=Apw (by simp_all);have hzz:Ap8 (EK seed++⟨#[122]⟩)=some (EK (EK seed++⟨#[122]⟩)):=Apw (by simp_all);have hpp:Ap8 (ArQ seed)=some (EK (ArQ seed)):=Apw (by omega);have m0:ZR (Apy seed) 0=some [up (Jt (Apy seed) 0),up (Jt (Apy seed) 1)]:=XBP (f:=0) (by omega) (by decide);have m2:ZR (Apy seed) 2=some [up (Jt (Apy seed) 2),up (Jt (Apy seed) 3)]:=XBP (f:=2) (by omega) (by decide);have n0:ZY [up (Jt (Apy seed) 0),up (Jt (Apy seed) 1)]=some [up (pS seed 0),up (pS seed 1)]:=ASA (gY _ _) (gY _ _);have n2:ZY [up (Jt (Apy seed) 2),up (Jt (Apy seed) 3)]=some [up (pS seed 2),up (pS seed 3)]:=ASA (gY _ _) (gY _ _);have r0:Zc (I4 seed) 0 false=some [up (Av5 (I4 seed) 0 0),up (Av5 (I4 seed) 1 0)]:=CBQ (i:=0) (by omega) (by decide);have r1:Zc (I4 seed) 1 false=some [up (Av5 (I4 seed) 0 1),up (Av5 (I4 seed) 1 1)]:=CBQ (i:=1) (by omega) (by decide);have b0:∀ i,Ze (up (pS seed i))=some (L8 (pS seed i)):=fun i=>EBQ (Xa _ _)
 have d0:∀ i,XY [up (Av5 (I4 seed) 0 i),up (Av5 (I4 seed) 1 i)] [up (pS seed 0),up (pS seed 1)]=some (up (Zf seed i)):=fun i=>EBr (ZAr _ _ _) (ZAr _ _ _) (Xa _ _) (Xa _ _)
 have a0:∀ i,Ari (up (Zf seed i)) (up (pS seed (2+i)))=some (up (pT seed i)):=fun i=>YBB (ZBN _ _ _ _) (Xa _ _)
 have F3:Ari (up (Zf seed 0)) (up (pS seed 2))=some (up (pT seed 0)):=a0 0;have F4:Ari (up (Zf seed 1)) (up (pS seed 3))=some (up (pT seed 1)):=a0 1;have t0:∀ i,Ze (up (pT seed i))=some (L8 (pT seed i)):=fun i=>EBQ (HBO _ _)
 have g0:∀ a b:List Int,([a,b]:List (List Int)).getD (0:Int).toNat []=a:=fun _ _=>rfl
 have g1:∀ a b:List Int,([a,b]:List (List Int)).getD (1:Int).toNat []=b:=fun _ _=>rfl
 have w0:AV (0+1)=1:=by decide
 have w1:AV (1+1)=2:=by decide
 obtain ⟨m,hm⟩:∃ m,AY=m+3:=⟨AY - 3,rfl⟩
 rw [sG,CA7,mk,BF (by simp_all),Apw (by omega),AP,AL (by rfl),hr,AP,AL (by rfl),hs,AP,m0,AP,n0,AP,m2,AP,n2,AP,hm];rw [gZ];simp only [sH,mk];rw [AL (by rfl),r0,AP,d0,AP,AL (by rfl),g0,F3,AP,t0,AP,AL (by rfl),AL (by rfl),g0,b0,AP,AL (by rfl),w0];rw [gZ];simp only [sH,mk];rw [AL (by rfl),r1,AP,d0,AP,AL (by rfl),g1,F4,AP,t0,AP,AL (by simp_all [Qy]),AL (by rfl),g1,b0,AP,AL (by simp_all [Qy]),w1];rw [gZ];simp only [sH,mk];rw [BF (by rfl),AL (by simp_all [Qy])];rw [show ((⟨#[]⟩:AA)++L8 (pT seed 0)++L8 (pT seed 1))++I4 seed=ArQ seed from rfl,AL (by simp_all [Qy]),hpp,AP,AL (by simp_all [Qh,Qy]),AL (by rfl),hzz,AP,AL (by simp_all [Qh,Qy])];rfl
theorem HBr {s t:AA} (h:t.size≠768):gq s t=some (⟨#[]⟩,false):=by rw [gq,NA7,mk,MA7,LA7,mk,KA7,IA7,mk,show ((t.size:Int) != 768)=true from bne_iff_ne.2 (by omega)];simp
theorem IBr (x:Af) (h f:Bool):VAo x h f=some (AqT x h f):=by rw [VAo,OA7,mk,sJ,AP,AqT];cases Ar9 x <;> cases x.CY <;> cases x.CX <;> cases h <;> cases f <;> rfl
theorem JBr {s:AA} (hs:s.size<=1000):WAo s=some (Aq8 (s++⟨#[116]⟩)):=by have z:(⟨#[116]⟩:AA).size=1:=rfl;rw [WAo,PA7,mk,AL (by grind),SBM (by grind)];rfl
theorem KBr (x:Af):XAo x=some (sK x):=by rw [XAo,QA7,mk,sJ,AP,sK];grind [FBQ,ZM,JBr]
theorem LBr {tk:AA->AA×Bool} {b:Ap} {c:CV} {x:Af} (h:PB b) (hc:c.fText.size<=1000) (hx:Aqg b.AU.AZ x.fId=some x) (htk:c.Au=12->∀ v:AA,v.size=32->gq (O7 v) c.fText=some (tk (O7 v))):YAo b c x=some (VW tk b c x):=by
 have hk:(Aqe b).size<=900000000:=by simp [Aqe,Qh]
 rw [YAo,RA7,mk,VW];simp only [O8 (n:=8) (by decide),O8 (n:=6) (by decide),HBo,NAq,QBP h.key,PBq hk,IBr,KBr,AP];cases c.Au == 6
 ·cases c.Au == 5
  ·cases c.Au == 10
   ·cases h12:c.Au == 12
    ·cases c.Au == 8
     ·cases c.Au == 7;·cases c.Au == 9 <;> rfl
      ·rfl
     ·rw [Ar,Ar];cases (AqT x c.CY c.CX).2 <;> rfl
    grind [OBO,ZM,FBQ]
   grind
  grind [OBq]
 grind
theorem MBr {tk:AA->AA×Bool} {b:Ap} {c:CV} (h:PB b) (hd:Dec b) (hok:Zg b=some true) (hu:b.CZ=true) (hc:OM c=true) (hn:b.AU.fCount<10000) (htk:c.Au=12->∀ v:AA,v.size=32->gq (O7 v) c.fText=some (tk (O7 v))):Qx b c=some (AsA tk b c):=by
 have hs:=h.MX;have ht:=h.things;have ho:=h.opn;have hz:=MBM hc;have h5:=(G7.1 h.ArF).2.2.1.1;rw [Qx,ZAo,mk,AsA,hok,AP,hu,LBM,hc,sN (by omega)];simp only [O8 (n:=9) (by decide),O8 (n:=1) (by decide),O8 (n:=2) (by decide),O8 (n:=5) (by decide),O8 (n:=6) (by decide),O8 (n:=7) (by decide),AP,DN,Aq];rw [BF (by simp_all),A8 (n:=b.CW+1) (by omega) (by omega),hd.opn];cases c.Au == 1
 ·rw [Aq,Aq];by_cases ha:Ar8 b c.EJ<0;·simp_all
  ·rw [D6 ha,Aq,Aq];have hlt:Ar8 b c.EJ<(b.BP.length:Int):=by
    rw [Ar8] at ha ⊢;cases hp:Jd b.BP c.EJ 0 with
    | none=>simp_all
    | some j=>have:=(DAr hp).2;simp_all
   cases c.Au == 13
   ·rw [Aq,Aq];cases c.Au == 2
    ·rw [Aq,Aq,AL (by simp_all)];cases (b.BP.getD (Ar8 b c.EJ).toNat ⟨0,false⟩).QW;·rfl
     ·rw [DN,Aq,Aq];cases c.Au == 3;·grind [Xb,Aqg,LBr,NBq,JBq]
      ·rw [Ar,Ar,Apw (by omega)];cases decide ((c.fText.size:Int) > 20) <;> rfl
    grind [MBn]
   ·rfl
 grind
def Jc:AA->AA×Bool:=fun _=>(⟨#[]⟩,false)
theorem NBr:((List.range 100).all fun m=>decide (Xc (m:Int)=some (Tj (m:Int))))=true:=by kernel_rfl
theorem GBQ {n:Int} (h:0<=n/\n<100):Xc n=some (Tj n):=by
 obtain ⟨m,rfl⟩:∃ m:Nat,n=(m:Int):=⟨n.toNat,by omega⟩
 exact of_decide_eq_true (List.all_eq_true.1 NBr m (List.mem_range.2 (by omega)))
theorem OBr {l:List Ah}:∀ {b:Bo},(Apz b l).2=true->(Apz b l).1.BM<=b.BM+(l.length:Int):=by induction l<;>grind [Apz,JBA]
theorem Good.PBr {k:AA} {l:List Ah} {b:Ap} (g:Good k l b):b.AU.BM<=(l.length:Int):=by have h:=OBr (l:=l) (b:=Nb) (by rw [g.book]);rw [g.book,show Nb.BM=0 from rfl,Int.zero_add] at h;exact h
def N8 (e:DW):Prop:=Rt e=true/\(e.BA.Au=12->e.BA.fText.size≠768)
theorem N8.call {e:DW} (h:N8 e) (hr:e.JY=false):OM e.BA=true:=by have h1:=h.1;simp_all [Rt]
structure AzZ (k:AA) (l:List Ah) (L:Bg):Prop where
 box:Good k l L.AX\/Down k l L.AX
 done:L.CO=l
 few:l.length<=L.Bq.length+1/\L.EN.length=L.Bq.length/\L.Cm.length<=L.Bq.length
 opn:L.AX.CW<=(L.Bq.length:Int)
theorem AzZ.down {k:AA} {l:List Ah} {L:Bg} (h:Down k l L.AX):L.AX.CZ=false/\L.AX.BD=[]/\L.AX.BP=[]/\L.AX.AU=Nb/\L.AX.CW=0/\L.AX.BO=k/\Small L.AX.Bc/\QF L.AX=true:=by
 obtain ⟨X,hX,Al,_⟩:=h.box
 rw [hX];exact ⟨rfl,rfl,rfl,rfl,rfl,rfl,JBL (by omega),NBL (b:=⟨k,false,dk X X.size,Nb,[],[],0⟩) h.H6 (ArZ (by omega) (by omega))⟩
theorem Good.dec {k:AA} {l:List Ah} {b:Ap} (g:Good k l b) (hl:l.length<60) (ho:b.CW<60):Dec b:=⟨GBQ (by have:=g.PBr;have:=g.pb.last;omega),GBQ (by have:=g.opn;omega)⟩
theorem Good.plan {k:AA} {l:List Ah} {b:Ap} {c:CV} (g:Good k l b) (hl:l.length<60) (ho:b.CW<60) (hc:OM c=true) (h12:c.Au=12->c.fText.size≠768):Qx b c=some (AsA Jc b c):=
 MBr g.pb (g.dec hl ho) g.pOk g.up hc (by have:=g.cnt;omega) fun h v _=>HBr (h12 h)
theorem Good.carry {k:AA} {l:List Ah} {b:Ap} {c:CV} {code leaf:Int} (g:Good k l b) (hl:leaf<=1000):LU b c code leaf=some (Ii b c code leaf):=KBP g.gu g.IAs.2 g.lives.2 hl
theorem HBQ {b:Ap} (hb:G9 b.AU=true) (hl:Va b=true) (t:Int):AsP b t<=16:=by
 rw [AsP];cases hx:Aqg b.AU.AZ t with
 | none=>simp
 | some x=>
  obtain ⟨e1,e2⟩:=Aq0 hx
  have h1:=MZ (AqL (G7.1 hb).2.2.2.2.2.2 x e2).2.2;have h2:=DAs hl (by rw [e1];exact hx) (by omega);grind
def VX (L:Bg) (e:DW) (code:Int):List D8:=bif e.BA.Au == 5 && code == 0 then L.Cm++[⟨e.BA.Ag,AsP L.AX e.BA.Ag,(L.Bq.length:Int)⟩] else L.Cm
inductive Step (k:AA) (e:DW) (l:List Ah) (L:Bg):List Ah->Bg->Prop
 | call (g:Good k l L.AX) (hr:e.JY=false) (hc:e.Nr=false\/(AsA Jc L.AX e.BA).1=[]):Step k e l L (l++(AsA Jc L.AX e.BA).1) ⟨Ny L.AX e.BA (AsA Jc L.AX e.BA),L.Bq++[(AsA Jc L.AX e.BA).2.1],L.EN++[(AsA Jc L.AX e.BA).2.2],VX L e (AsA Jc L.AX e.BA).2.1,L.CO++(AsA Jc L.AX e.BA).1⟩
 | cut (g:Good k l L.AX) (hr:e.JY=false) (r:Ah) (hp:(AsA Jc L.AX e.BA).1=[r]) (b':Ap) (l':List Ah) (d:Down k l' b') (hl:l'=l\/l'=l++[r]):Step k e l L l' ⟨b',L.Bq++[10],L.EN++[⟨#[]⟩],L.Cm,bif decide (l'.length > l.length) then L.CO++[r] else L.CO⟩
 | down (d:Down k l L.AX) (hr:e.JY=false):Step k e l L l ⟨L.AX,L.Bq++[9],L.EN++[sQ 9],L.Cm,L.CO⟩
 | up (d:Down k l L.AX) (hr:e.JY=true) (b':Ap) (g:Good k l b') (h1:b'.BP=[]) (h2:b'.BD=[]) (h3:b'.CW=0):Step k e l L l ⟨b',L.Bq++[0],L.EN++[⟨#[]⟩],L.Cm,L.CO⟩
 | stay (g:Good k l L.AX) (hr:e.JY=true):Step k e l L l ⟨L.AX,L.Bq++[1],L.EN++[⟨#[]⟩],L.Cm,L.CO⟩
theorem IBQ {l:Bg} {e:DW} {w code leaf:Int} {s:AA} {b2:Ap} (hp:Qx l.AX e.BA=some ([],code,s)) (hl:AqU l.AX e.BA.Ag=some leaf) (hc:LU l.AX e.BA code leaf=some b2) (z1:l.Bq.length<=1000) (z2:l.EN.length<=1000) (z4:l.Cm.length<=1000) :
  Av6 l e w=some ⟨b2,l.Bq++[code],l.EN++[s],bif e.BA.Au == 5 && code == 0 then l.Cm++[⟨e.BA.Ag,leaf,w⟩] else l.Cm,l.CO⟩:=by
 obtain ⟨m,hm⟩:∃ m,AY=m+1:=⟨AY - 1,rfl⟩
 rw [Av6,sS,mk,hp,AP,hl,hm];have key:∀ o,o=Zh (m+1) (.c0 w code s leaf ((([]:List Ah).length:Nat):Int) 0 l.AX.BO l.AX.CZ l.AX.AU.Bv l.AX.AU.DU l.AX.AU.BM l.AX.AU.Dh l.AX.AU.fCount l.AX.CW e [] l.AX.Bc.Ak l.AX.AU.AZ l.AX.BP l.AX.BD l.Bq l.EN l.Cm l.CO)->o=some ⟨b2,l.Bq++[code],l.EN++[s],bif e.BA.Au == 5 && code == 0 then l.Cm++[⟨e.BA.Ag,leaf,w⟩] else l.Cm,l.CO⟩:=by
  intro o ho;rw [ho,Zh];simp only [sU,mk];rw [BF (by rfl)];show (LU l.AX e.BA code leaf).bind _=_;rw [hc,AP,Xd (l:=⟨b2,l.Bq,l.EN,l.Cm,_⟩) (show l.Bq.length<=1000000 by omega) (show l.EN.length<=1000000 by omega),AP];cases e.BA.Au == 5;·rfl
  ·cases code == 0;·rfl
   ·rw [Ar,Ar,AL (by rw [decide_eq_true_eq];show (l.Cm.length+1)*24<=_;omega)];rfl
 cases e.Nr;·exact key _ rfl
 ·exact key _ rfl
theorem QBr {k:AA} {l:List Ah} {L:Bg} (h:Down k l L.AX) (c:CV):Qx L.AX c=some ([],9,sQ 9):=by
 obtain ⟨h1,h2,h3,h4,h5,h6,h7,h8⟩:=AzZ.down h
 rw [Qx,ZAo,mk,RBA (by have:=h7.1;omega) (fun f hf=>by have:=h7.2 f hf;omega) (by rw [h4];exact DJ _) (by simp_all) (by simp_all),h8,AP,h1,O8 (n:=9) (by decide)];rfl
theorem RBr (b:Ap) (c:CV) (code leaf:Int):(Ii b c code leaf).CW<=b.CW+1:=by
 rw [Ii,VU];cases code != 0
 ·cases c.Au == 1
  ·cases c.Au == 13
   ·cases c.Au == 2
    ·cases c.Au == 5;·cases c.Au == 9 <;> (show b.CW<=_;omega)
     ·cases Aqg b.AU.AZ c.Ag with
      | none=>grind
      | some x=>
       dsimp only;cases x.Aj == 2 && (decide (leaf>=0) && decide (leaf<x.fNext)) <;> (show b.CW<=_;omega)
    ·show b.CW<=_;omega
   ·show b.CW<=_;omega
  simp
 grind
theorem SBr (b:Ap) (c:CV) (p:PT):(Ny b c p).CW<=b.CW+1:=by rw [Ny];cases p.1 <;> exact RBr _ _ _ _
theorem TBr {tk:AA->AA×Bool} {k:AA} {l:List Ah} {b:Ap} {c:CV} (g:Good k l b):(AsA tk b c).1.length<=1:=by
 rcases XP (tk:=tk) (c:=c) g with h | ⟨r,h,_⟩ <;> rw [h]
 all_goals simp
theorem JAs {k:AA} {l l':List Ah} {L L':Bg} {e:DW} (h:AzZ k l L) (hn:L.Bq.length<45) (s:Step k e l L l' L'):AzZ k l' L'/\L'.Bq.length=L.Bq.length+1:=by
 obtain ⟨f1,f2,f3⟩:=h.few
 have ho:=h.opn;have app:∀ {α:Type} (xs:List α) (x:α),(xs++[x]).length=xs.length+1:=fun xs x=>by simp
 have HD:∀ c,(VX L e c).length<=L.Cm.length+1:=fun c=>by grind [VX]
 cases s with
 | call g hr hc=>
  have h1:=TBr (tk:=Jc) (c:=e.BA) g;refine ⟨⟨.inl (OBP g (by omega)),by rw [h.done],⟨?_,?_,?_⟩,?_⟩,app _ _⟩;·grind
  ·simp_all
  ·grind
  ·dsimp only;rw [app];have:=SBr L.AX e.BA (AsA Jc L.AX e.BA);omega
 | cut g hr r hp b' l2 d hl=>
  obtain ⟨X,hX,_⟩:=d.box
  refine ⟨⟨.inr d,?_,⟨?_,?_,?_⟩,?_⟩,app _ _⟩
  ·rcases hl with rfl | rfl
   ·dsimp only;rw [D6 (by omega),h.done];rfl
   ·dsimp only;rw [Ba (by simp),h.done];rfl
  all_goals grind
 | down d hr=>
  refine ⟨⟨.inr d,h.done,⟨?_,?_,?_⟩,?_⟩,app _ _⟩ <;> dsimp only <;> rw [app] <;> try rw [app]
  all_goals omega
 | up d hr b' g h1 h2 h3=>
  refine ⟨⟨.inl g,h.done,⟨?_,?_,?_⟩,?_⟩,app _ _⟩ <;> dsimp only <;> rw [app] <;> try rw [app]
  all_goals omega
 | stay g hr=>
  refine ⟨⟨.inl g,h.done,⟨?_,?_,?_⟩,?_⟩,app _ _⟩ <;> dsimp only <;> rw [app] <;> try rw [app]
  all_goals omega
structure DB (b:Ap):Prop where
 k:b.BO.size=32
 s:∀ x ∈ b.BP,0<=x.fId/\x.fId<=1000
 sl:b.BP.length<=1000
 t:∀ x ∈ b.AU.AZ,0<=x.fId/\x.fId<=1000
 tl:b.AU.AZ.length<=1000
structure CI (c:CV):Prop where
 o:1<=c.Au/\c.Au<=13
 s:0<=c.EJ/\c.EJ<=1000
 t:0<=c.Ag/\c.Ag<=1000
 k:0<=c.Aj/\c.Aj<=3
 x:c.Au=12->c.fText.size≠768
theorem AzZ.db {k:AA} {l:List Ah} {L:Bg} (h:AzZ k l L):DB L.AX:=by
 rcases h.box with g | d
 ·have b:=G7.1 g.ArF;exact ⟨by rw [g.key,g.H6],fun x hx=>by have:=g.IAs.1 x hx;have:=g.opn;omega,by have:=g.MX.1;omega,fun x hx=>by have:=AqL b.2.2.2.2.2.2 x hx;omega,by omega⟩
 ·obtain ⟨h1,h2,h3,h4,h5,h6,h7,h8⟩:=AzZ.down d
  exact ⟨by rw [h6,d.H6],fun x hx=>(by simp_all),by simp_all,fun x hx=>(by rw [h4] at hx;cases hx),by rw [h4];exact DJ _⟩
def CR (r:CV×DZ):Prop:=CI r.1/\HY r.2
theorem JBQ {m:Nat} {i h:Int} {y v:CV} (hi:0<=i) (hv:CI v):Ok (O9 (m+1) (.c4 i h y v)) CR:=by rw [O9];simp only [Xe,mk];exact Ok.bind (L9 (c:=⟨(),i,h⟩) hi) fun a ha=>Ok.cond (fun _=>Ok.bind (OO ha) fun b hb=>Ok.ret ⟨⟨hv.o,hv.s,by grind,hv.k,hv.x⟩,hb.2⟩) fun _=>Ok.ret ⟨hv,ha⟩
theorem Xf {m:Nat} {i h:Int} {y v:CV} (hi:0<=i) (hv:CI v):Ok (O9 (m+2) (.c3 i h y v)) CR:=by rw [O9];simp only [Xe,mk];exact Ok.bind (L9 (c:=⟨(),i,h⟩) hi) fun a ha=>Ok.cond (fun _=>Ok.bind (OO ha) fun b hb=>JBQ hb.2 ⟨hv.o,by grind,hv.t,hv.k,hv.x⟩) fun _=>JBQ ha hv
theorem UBr {x:Int} (h:x ∈ [(1:Int),2,2,2,3,3]):0<=x/\x<=3:=by grind
theorem CBC {m:Nat} {i h:Int} {b:Ap} {A:AA} {y v:CV} (hb:DB b) (hi:0<=i) (hv:CI v):Ok (O9 (m+3) (.c2 A i h b y v)) CR:=by
 have set:∀ {n:Int} {kd:Int} {t:AA} {p q:Bool},(v.Au == n)=true->n≠12->0<=kd/\kd<=3->CI ⟨v.Au,v.EJ,v.Ag,kd,t,p,q⟩:=fun hn h12 hk=>⟨hv.o,hv.s,hv.t,hk,fun e=>absurd ((beq_iff_eq.1 hn).symm.trans e) h12⟩
 rw [O9];simp only [Xe,mk];refine Ok.cond (fun h2=>Ok.bind (L9 (c:=⟨(),i,h⟩) hi) fun a ha=>Ok.cond (fun _=>Xf ha (set h2 (by decide) hv.k)) fun _=>Xf ha (set h2 (by decide) hv.k)) fun _=>?_
 refine Ok.cond (fun h3=>Xf hi (set h3 (by decide) hv.k)) fun _=>?_
 refine Ok.cond (fun h4=>Ok.bind (JBK (c:=⟨(),i,h⟩) hi (by decide)) fun a ha=>Ok.bind (BAq ha.2 (by decide)) fun d hd=>Ok.bind (L9 hd.2) fun e he=>Ok.bind (L9 he) fun f hf=>Xf hf (set h4 (by decide) (UBr ha.1))) fun _=>?_
 refine Ok.cond (fun h5=>Ok.bind (BAq (c:=⟨(),i,h⟩) hi (by decide)) fun a ha=>Xf ha.2 (set h5 (by decide) hv.k)) fun _=>?_
 refine Ok.cond (fun h8=>Ok.bind (L9 (c:=⟨(),i,h⟩) hi) fun a ha=>Ok.bind (L9 ha) fun d hd=>Xf hd (set h8 (by decide) hv.k)) fun _=>?_
 refine Ok.cond (fun h11=>Ok.bind (IBk (c:=⟨(),i,h⟩) hi) fun a ha=>Ok.bind (Ok.eq (sV _)) fun d hd=>Ok.bind (Ok.eq (RBB hb.k)) fun e he=>Ok.bind (Ok.eq (SBB (by simp_all [Aqe,Qh]))) fun f hf=>Xf ha.2 (set h11 (by decide) hv.k)) fun _=>Xf hi hv
theorem VBr {b:Ap} {A:AA} {y:CV} (hb:DB b):∀ (j i m:Nat) (ci h:Int) (v:CV),i+j=b.AU.AZ.length->0<=ci->CI v->Ok (O9 (m+3+j+1) (.c1 A (i:Int) ci h b y v)) CR:=by
 have htl:=hb.tl;intro j;induction j with
 | zero=>
  grind [O9,Xe,CBC]
 | succ j ih=>
  intro i m ci h v hi hc hv;have hlt:i<b.AU.AZ.length:=by omega
  have hw:=Fq (i:=i) (by omega);rw [AwB,O9];simp only [Xe,mk,hw,BR,getD_at hlt];rw [Ep (by omega),GX (by omega)];exact Ok.cond (fun _=>Ok.bind (L9 (c:=⟨(),ci,h⟩) hc) fun a ha=>Ok.cond (fun _=>Ok.chk (by simp_all) (ih (i+1) m _ _ _ (by omega) ha ⟨hv.o,hv.s,hb.t _ (List.getElem_mem hlt),hv.k,hv.x⟩)) fun _=>ih (i+1) m _ _ _ (by omega) ha hv) fun _=>ih (i+1) m _ _ _ (by omega) hc hv
theorem KAs {m:Nat} {i h:Int} {b:Ap} {A:AA} {y v:CV} (hb:DB b) (hi:0<=i) (hv:CI v):Ok (O9 (m+3+b.AU.AZ.length+1+1) (.c0 A i h b y v)) CR:=by
 have e:m+3+b.AU.AZ.length+1=(m+b.AU.AZ.length+1)+3:=by omega
 rw [O9];simp only [Xe,mk];refine Ok.cond (fun ht=>Ok.bind (OO (c:=⟨(),i,h⟩) hi) fun a ha=>?_) fun _=>(by simp_all [CBC])
 rw [decide_eq_true_eq] at ht;have h1:=ha.1.1;have h2:=ha.1.2.1 (by omega);have hv2:∀ d,CI ⟨v.Au,v.EJ,(b.AU.AZ.getD a.1.toNat d).fId,v.Aj,v.fText,v.CY,v.CX⟩:=fun d=>⟨hv.o,hv.s,by dsimp only;rw [getD_at (by omega)];exact hb.t _ (List.getElem_mem _),hv.k,hv.x⟩
 exact Ok.chk (by simp_all) (Ok.cond (fun _=>VBr hb b.AU.AZ.length 0 m _ _ _ (Nat.zero_add _) ha.2 (hv2 _)) fun _=>(by rw [e];exact CBC hb ha.2 (hv2 _)))
theorem KBQ {x:Int} (h:x ∈ [(1:Int),2,2,3,4,4,4,5,5,5,6,7,8,9,10,11,12,13]):1<=x/\x<=13:=by simp only [List.mem_cons,List.not_mem_nil,or_false] at h;omega
theorem WBr {c:DZ} {b:Ap} {A:AA} (hc:HY c) (hb:DB b):Ok (KAj c b A) CR:=by
 have hsl:=hb.sl;have htl:=hb.tl;obtain ⟨m,hm⟩:=gm (n:=3+b.AU.AZ.length+1) (by omega)
 have hm2:AY=m+3+b.AU.AZ.length+1+1:=by omega
 rw [KAj,TAw,mk,hm2];have e0:(⟨#[]⟩:AA).size≠768:=by decide
 refine Ok.bind (JBK hc (by decide)) fun a ha=>Ok.cond (fun _=>KAs hb ha.2 ⟨by simp,by simp,by simp,by simp,fun _=>e0⟩) fun hs=>?_
 have hs1:b.BP.length≠0:=fun q=>by simp_all
 have hgs:∀ (n:Nat) d,n<b.BP.length->0<=(b.BP.getD n d).fId/\(b.BP.getD n d).fId<=1000:=fun n d hn=>by rw [getD_at hn];exact hb.s _ (List.getElem_mem hn)
 refine Ok.bind (OO ha.2) fun d hd=>?_
 have h1:=hd.1.1;have h2:=hd.1.2.1 (by omega);have z:(decide ((0:Int)<=0) && decide ((0:Int)<(b.BP.length:Int)))=true:=by grind
 have some1:∀ {o:Int} {n:Nat} {q},(1<=o/\o<=13)->n<b.BP.length->CI ⟨o,(b.BP.getD n q).fId,0,0,⟨#[]⟩,false,false⟩:=fun ho hn=>⟨ho,hgs _ _ hn,by simp,by simp,fun _=>e0⟩
 exact Ok.chk (by simp_all) (Ok.chk z (Ok.cond (fun _=>Ok.bind (L9 hd.2) fun e he=>Ok.cond (fun _=>Ok.chk z (KAs hb he (some1 (by omega) (by omega)))) fun _=>KAs hb he (some1 (KBQ ha.1) (by omega))) fun _=>KAs hb hd.2 (some1 (KBQ ha.1) (by omega))))
def sW:DW:=⟨⟨0,0,0,0,⟨#[]⟩,false,false⟩,false,[],true⟩
def EvD (e:DW):Prop:=e=sW\/(CI e.BA/\e.Lc.length<=2)
theorem XBr {c:CV} (h:CI c) (hz:c.fText.size<=1000):OM c=true:=by rw [OM,Aqo.2 h.o,Aqo.2 h.s,Aqo.2 h.t,Aqo.2 h.k,Ba (by omega)];rfl
theorem LBQ {e:DW} (h:EvD e) (hz:e.BA.fText.size<=1000):N8 e:=by
 rcases h with rfl | ⟨h1,h2⟩
 ·have hn:gy sW.BA=true:=by rw [gy,show ((ByteArray.toList sW.BA.fText) == ByteArray.toList (⟨#[]⟩:AA))=true from Oe _];rfl
  exact ⟨by assumption,fun q=>by cases q⟩
 ·exact ⟨by grind [Rt,XBr],h1.x⟩
theorem YBr {e:DW} (h:EvD e) (hz:¬ e.BA.fText.size<=1000):N8 ⟨⟨e.BA.Au,e.BA.EJ,e.BA.Ag,e.BA.Aj,⟨#[108,111,110,103]⟩,e.BA.CY,e.BA.CX⟩,e.Nr,e.Lc,e.JY⟩:=by
 rcases h with rfl | ⟨h1,h2⟩
 ·exact absurd (DJ _) hz
 ·have h4:(⟨#[108,111,110,103]⟩:AA).size=4:=rfl;exact LBQ (.inr ⟨⟨h1.o,h1.s,h1.t,h1.k,fun _=>by simp_all⟩,h2⟩) (by simp_all)
def AKN (l:Bg) (r:DW×DZ×Bg):Prop:=EvD r.1/\HY r.2.1/\r.2.2=l
theorem LAs {c:DZ} {x:CV} {l:Bg} (hc:HY c) (hx:CI x):Ok ((Av4 ⟨(),c.fI,c.AyA⟩ 12).bind fun Bm=>bif Bm.1 then (PD ⟨(),Bm.2.fI,Bm.2.AyA⟩ 2000).bind fun Bk=>(PD ⟨(),Bk.2.fI,Bk.2.AyA⟩ 50).bind fun r16=>(Av4 ⟨(),r16.2.fI,r16.2.AyA⟩ 30).bind fun Bx=>bif Bx.1 then some (sW,(⟨(),Bx.2.fI,Bx.2.AyA⟩,l)) else some (⟨x,true,[Bk.1,r16.1],false⟩,(⟨(),Bx.2.fI,Bx.2.AyA⟩,l)) else (Av4 ⟨(),Bm.2.fI,Bm.2.AyA⟩ 30).bind fun B6=>bif B6.1 then some (sW,(⟨(),B6.2.fI,B6.2.AyA⟩,l)) else some (⟨x,false,[],false⟩,(⟨(),B6.2.fI,B6.2.AyA⟩,l))) (AKN l):=
 Ok.bind (L9 hc) fun a ha=>Ok.cond (fun _=>Ok.bind (OO ha) fun b hb=>Ok.bind (OO hb.2) fun d hd=>Ok.bind (L9 hd.2) fun f hf=>Ok.cond (fun _=>Ok.ret ⟨.inl rfl,hf,rfl⟩) fun _=>Ok.ret ⟨.inr ⟨hx,Nat.le_refl _⟩,hf,rfl⟩) fun _=>Ok.bind (L9 ha) fun f hf=>Ok.cond (fun _=>Ok.ret ⟨.inl rfl,hf,rfl⟩) fun _=>Ok.ret ⟨.inr ⟨hx,DJ _⟩,hf,rfl⟩
theorem ZBr {c:DZ} {l:Bg} (hc:HY c) (hb:DB l.AX):Ok (sZ c l) (AKN l):=by
 rw [sZ,UAw,mk];refine Ok.cond (fun _=>Ok.bind (L9 hc) fun a ha=>Ok.cond (fun _=>Ok.ret ⟨.inl rfl,ha,rfl⟩) fun _=>?_) fun _=>?_
 all_goals
  refine Ok.bind (WBr (by omega) hb) fun x hx=>Ok.cond (fun hr=>Ok.cond (fun h11=>Ok.bind (L9 hx.2) fun d hd=>Ok.cond (fun _=>Ok.bind (OO hd) fun f hf=>?_) fun _=>LAs hd hx.1) fun _=>LAs hx.2 hx.1) fun _=>LAs hx.2 hx.1
  rw [decide_eq_true_eq] at hr;have f1:=hf.1.1;have f2:=hf.1.2.1 hr;have x1:=hx.1;rw [beq_iff_eq] at h11;exact Ok.chk (by simp_all) (LAs hf.2 ⟨x1.o,x1.s,x1.t,x1.k,fun q=>absurd (h11.symm.trans q) (by decide)⟩)
theorem Tt {l:Bg} {c:Int} {s:AA} (h1:l.Bq.length<=1000000) (h2:l.EN.length<=1000000):Vb l c s=some (VBB l c s):=by
 rw [Vb,VAw,mk];try simp only [List.nil_append]
 rw [Ep (by omega),Ep (by omega),Ep (by omega),Ep (by omega)];rfl
theorem AbP {b:Ap} {t:Int} (h:b.BP.length<=140737488351232):NAj b t=some (Ar8 b t):=by
 have key:∀ (j i m:Nat),i+j=b.BP.length->iC (m+j+1) (.c0 t (i:Int) b)=some (match Jd (b.BP.drop i) t i with | some j=>(j:Int) | none=> -1):=by
  intro j;induction j with
  | zero=>
   intro i m hi;rw [iC];simp only [MAj,mk];rw [Jh (by omega),List.drop_of_length_le (by omega)];rfl
  | succ j ih=>
   intro i m hi;have hil:i<b.BP.length:=by omega
   grind [Fq,iC,drop_at,Jd,MAj,BR]
 obtain ⟨m,hm⟩:=gm (n:=b.BP.length) (by omega)
 rw [NAj,AJW,hm];exact key b.BP.length 0 m (Nat.zero_add _)
theorem CBs {b:Ap} {c:CV} (ht:0<=b.AU.DU/\b.AU.DU<=3) (hc:c.fText.size<=1000000000):OAj b c=some (iE b c):=by
 rw [OAj,BAx,mk,iE];simp only [LV hc,AP];by_cases h:b.AU.DU>=3;·rw [Ba h,show (b.AU.DU == 3)=true from beq_iff_eq.2 (by omega)];rfl
 ·rw [D6 h,show (b.AU.DU == 3)=false from beq_eq_false_iff_ne.2 (by omega),A8 (by omega) (by omega)];cases (EK c.fText).toList == b.AU.Bv.toList <;> cases b.AU.DU == 0 <;> rfl
theorem EBC {n:Int} (h:0<=n/\n<10000):iG n=some (Tj n):=by
 obtain ⟨m,rfl⟩:∃ m:Nat,n=(m:Int):=⟨n.toNat,by omega⟩
 exact JBo (by omega)
theorem MBQ {b:Ap} {c:CV} {x:Af} {ok:Bool} (h:PB b):su b c x ok=some (Xg b c x ok):=by have hl:=h.last;have h8:=h.things;rw [su,EAx,mk,Xg,newX,A8 (by omega) (by omega),EBC (by omega),show decide ((b.AU.AZ.length:Int)>=8)=((b.AU.AZ.length:Int) == 8) by grind,show decide (b.AU.BM>=1000)=(b.AU.BM == 1000) by grind];cases ok <;> cases (b.AU.AZ.length:Int) == 8 <;> cases b.AU.BM == 1000 <;> cases x.CY <;> cases x.CX <;> rfl
theorem NBQ {k t:AA} {num:Int} (hk:k.size<=900000000) (ht:t.size<=800000000):iH k num t=some (EM k num t):=by
 rw [iH,HAx,mk,EM];have hw:AV ((t.size:Int) - 16)=(t.size:Int) - 16:=A8 (by omega) (by omega);rw [hw];by_cases h:t.size<16;·grind
 ·obtain ⟨n,hn⟩:∃ n,t.size=n+16:=⟨t.size - 16,by omega⟩
  obtain ⟨e1,e2⟩:=HBM t hn
  have hz:(t.size:Int) - 16=(n:Int):=by omega
  have hb:=bs_len t;have hes:(t.extract 0 n).size=n:=by simp_all
  rw [BF (by grind),hz,BR,hes,AL (by grind),OBJ hk,AP,Xh,show decide ((t.size:Int)<16)=false by grind,Bool.false_or];cases hm:MB num n;·rfl
  ·have h':=iI.1 hm;have hml:=Ru (bs k) (SN num) n;rw [DN,Aq,Ar,BF (by rfl),BR,QBJ hk h'.1 (by omega),AP,AL (by grind)];simp only [GAx,FAx,mk,AP,Vd,Avo (Tv _ _ _),e1,e2];cases hc:(PE (bs k) num ((bs t).take (t.size - 16)) == (bs t).drop (t.size - 16))
   ·rfl
   ·rw [DN,Aq,PBJ (by omega) (by simp_all [Dj]),AP,Avo (tC _ _ _),e1,Ar,show t.size - 16=n by omega]
theorem DBs {k t:AA} (hk:k.size<=900000000) (ht:t.size<=800000000):SAj k t=some (Qw k t):=by
 have hz:=tH k t 0;have hr0:=PBK (text:=(EM k 0 t).1) (a:=0) (by omega) (DJ _);rw [show ((0:Nat):Int)=0 from rfl] at hr0;rw [SAj,JAx,mk,NBQ hk ht,AP,hr0,AP,Qw];cases ho:(EM k 0 t).2;·rfl
 ·have hx:=tJ (text:=(EM k 0 t).1) (a:=0) (by omega) (DJ _);have Er:=DBl ho;generalize (EM k 0 t).1=O at hz hx Er;rw [BF (by rfl),QI];rcases hx with hx | ⟨v,hx,h0,h1,hA⟩
  ·rw [hx];rfl
  ·rw [hx];have hsz:=hA.size.resolve_left (by grind [ArT]);simp only [DN,Aq,Bool.false_or];rw [A8 (n:=(O.size:Int) - ((0+(SN v).length:Nat):Int)) (by omega) (by omega)];by_cases h3:v > (O.size:Int) - ((0+(SN v).length:Nat):Int)
   ·grind
   ·rw [BF (by simp_all),A8 (n:=((0+(SN v).length:Nat):Int)+v) (by omega) (by omega),AL (by grind)];have hes:(O.extract ((0+(SN v).length:Nat):Int).toNat (((0+(SN v).length:Nat):Int)+v).toNat).size=v.toNat:=by grind [ByteArray.size_extract]
    generalize hS:O.extract ((0+(SN v).length:Nat):Int).toNat (((0+(SN v).length:Nat):Int)+v).toNat=S at hes;rw [SBB hk,AP,iJ];by_cases h4:v > 400;·grind
    ·have e1:decide ((S.size:Int) > 400)=false:=D6 (by omega);have e:(decide (v > 20000) || decide (v > (O.size:Int) - ((0+(SN v).length:Nat):Int)))=false:=by grind
     have h2:=XBA (l:=bs S) (by grind [bs_len]);have hl:=bs_len S;have hm:MB 0 ((ofBytes (QJ (bs S))).size:Int)=true:=by grind [iI,Dj]
     have hfb:=WBA (Jj S)
     rw [e,Aq,e1,Aq,Si,hm,Ar,Avo hfb,BF (by rfl),Vd,Avo (fun x hx=>by
      rcases List.mem_append.1 hx with hx | hx
      ·exact Ve _ _ x hx
      ·exact Tv _ _ _ x hx)]
     grind [EBl,Jj]
theorem EBs (x:Af):MAx x=some ⟨0,x.Aj,x.CY,x.CX,false,x.GH,x.fValue,0⟩:=rfl
theorem FBs {b:Ap} {c:CV} (h:PB b) (hc:c.fText.size<=1000):YAj b c=some (tK b c):=by
 have hz:=QBB (Aqe b) c.fText;have hr:=(PBB (t:=(Qw (Aqe b) c.fText).1) (by omega)).2.1;have hk:(Aqe b).size<=900000000:=by simp [Aqe,Qh]
 rw [YAj,NAx,mk,tK,inX];simp only [RBB h.key,DBs hk (show c.fText.size<=800000000 by omega),hr,EBs,MBQ h,AP];cases (Qw (Aqe b) c.fText).2 <;> rfl
theorem GBs (x:Af) (d:Int):ZAj x d=some (JM x d):=by rw [ZAj,OAx,mk,tN,AP,JM,bne];grind
theorem OBQ {b:Ap} {x:Af} (h:b.BD.length<=140737488351232):tV b x=some (Arx b x):=by
 have key:∀ (j i m:Nat),i+j=b.BD.length->iK (m+j+1) (.c0 (i:Int) b x)=some (match Aqi (b.BD.drop i) x.fId i with | some j=>(b.BD.getD j ⟨0,0⟩).fNext | none=>x.fNext):=by
  intro j;induction j with
  | zero=>
   intro i m hi;rw [iK];simp only [ADc,mk];rw [BF (by simp_all),List.drop_of_length_le (by omega)];rfl
  | succ j ih=>
   intro i m hi;have hil:i<b.BD.length:=by omega
   have hw:AV ((i:Int)+1)=((i+1:Nat):Int):=by grind [A8]
   grind [iK,ADc,BR,drop_at,Aqi]
 obtain ⟨m,hm⟩:=gm (n:=b.BD.length) (by omega)
 rw [tV,PAx,hm];exact key b.BD.length 0 m (Nat.zero_add _)
theorem tX {s:AA} (h:s.size<=1000000000):PG s=some (EF s):=by rw [PG,RAx,mk,LV h,AP,Qh,AL (by rfl)];rfl
theorem PBQ {s:AA} {leaf:Int} (hl:0<=leaf/\leaf<=255) (hs:s.size<=100000):iL s leaf=some (H9 s leaf 10):=by
 have key:∀ (j i m:Nat),i+j=10->Zi (m+j+1) (.c0 s leaf (i:Int) (H9 s leaf i))=some (H9 s leaf 10):=by
  intro j;induction j with
  | zero=>
   grind [Zi,CAk]
  | succ j ih=>
   intro i m hi;have hw:AV ((i:Int)+1)=((i+1:Nat):Int):=by grind [A8]
   have ho:(H9 s leaf i).length=i:=by simp [H9]
   have hm:H9 s leaf i++[keyAt s leaf (i:Int)]=H9 s leaf (i+1):=by simp [H9,List.range_succ]
   rw [AwB m j,Zi];simp only [CAk,mk,hw];rw [AL (by grind),OQ hl.1 hl.2,AP];show (bif decide (s.size+(b1 leaf).size<=_) then _ else _)=_;rw [AL (by grind [Avr]),OQ (by omega) (by omega),AP];show (bif decide ((s++b1 leaf).size+(b1 (i:Int)).size<=_) then _ else _)=_;rw [AL (by grind [Avr])];show (bif decide ((s++b1 leaf++b1 (i:Int)).size+Zj.size<=_) then _ else _)=_;have hO:Zj.size=1:=rfl;rw [AL (by grind [Avr])];show (PG (s++b1 leaf++b1 (i:Int)++Zj)).bind _=_;rw [tX (by grind [Avr]),AP,ho,AL (by grind)];show Zi (m+j+1) (.c0 s leaf ((i+1:Nat):Int) (H9 s leaf i++[keyAt s leaf (i:Int)]))=_;rw [hm];exact ih (i+1) m (by omega)
 obtain ⟨m,hm⟩:∃ m,AY=m+10+1:=⟨AY - 11,by rfl⟩
 rw [iL,SAx,hm];exact key 10 0 m rfl
theorem QBQ {x:AA} {leaf chain:Int} {f n:Nat} (hl:0<=leaf/\leaf<=255) (hc:0<=chain/\chain<=255) (hn:n<=15) (hf:f+n<=255) (hx:x.size<=100000):Zk x leaf chain (f:Int) (n:Int)=some (ArD leaf chain n f x):=by
 have hs:∀ i,(ArD leaf chain i f x).size<=100000:=fun i=>by
  cases i with
  | zero=>exact hx
  | succ i=>simp [Zl,Rw]
 have key:∀ (j i m:Nat),i+j=n->iM (m+j+1) (.c0 (ArD leaf chain i f x) leaf chain (f:Int) (n:Int) (i:Int))=some (ArD leaf chain n f x):=by
  intro j;induction j with
  | zero=>
   grind [iM,DAk]
  | succ j ih=>
   intro i m hi;have hw:AV ((i:Int)+1)=((i+1:Nat):Int):=by grind [A8]
   have hsi:=hs i;have hm:=Zl leaf chain f x i;rw [AwB m j,iM];simp only [DAk,mk,hw];have hfm:(f:Int).tmod 256=(f:Int):=by grind
   rw [AL (by grind),AL (by grind),OQ hl.1 hl.2,AP,OQ hc.1 hc.2,AP,hfm,A8 (by omega) (by omega),OQ (by omega) (by omega)];grind [b1,Avr,ArD,tX]
 obtain ⟨m,hm⟩:=gm (n:=n) (by omega)
 rw [Zk,TAx,hm];exact key n 0 m (Nat.zero_add _)
theorem HBs {keys:List AA} {leaf:Int} (hk:keys.length=10) (hl:0<=leaf/\leaf<=255) (hs:∀ x ∈ keys,x.size<=100000):tY keys leaf=some (Vf keys leaf):=by
 have key:∀ (j i m:Nat),i+j=10->iO (m+j+1) (.c0 keys leaf (Nc (Qr keys leaf i)) (i:Int))=some (Vf keys leaf):=by
  intro j;induction j with
  | zero=>
   intro i m hi;obtain rfl:i=10:=by omega
   have hz:=Tz (EAr (keys:=keys) (leaf:=leaf) (n:=10));rw [FAr] at hz;rw [iO];simp only [EAk,mk];rw [BF (by rfl),tX (by omega)];rfl
  | succ j ih=>
   intro i m hi;have hlt:i<keys.length:=by omega
   have hw:AV ((i:Int)+1)=((i+1:Nat):Int):=by grind [A8]
   have hz:=Tz (EAr (keys:=keys) (leaf:=leaf) (n:=i));rw [FAr] at hz;have hc:=Zl leaf (i:Int) 0 keys[i] 14;have hc2:(ArD leaf (i:Int) 15 0 keys[i]).size=4:=by simp_all [Rw]
   have hm:Nc (Qr keys leaf i)++ArD leaf (i:Int) 15 0 keys[i]=Nc (Qr keys leaf (i+1)):=by grind [Qr,List.range_succ,tZ,Nc,iP]
   grind [QBQ,iO,EAk,BR]
 obtain ⟨m,hm⟩:∃ m,AY=m+10+1:=⟨AY - 11,by rfl⟩
 rw [tY,UAx,mk,BF (by simp_all),hm];exact key 10 0 m rfl
theorem RBQ {s:AA} (hs:s.size<=100000):tq s=some (Md s 4):=by
 have key:∀ (j i m:Nat),i+j=4->iQ (m+j+1) (.c0 s (i:Int) (Md s i))=some (Md s 4):=by
  intro j;induction j with
  | zero=>
   grind [iQ,FAk]
  | succ j ih=>
   intro i m hi;have hw:AV ((i:Int)+1)=((i+1:Nat):Int):=by grind [A8]
   have ho:(Md s i).length=i:=by simp [Md]
   have hm:Md s i++[Vf (H9 s (i:Int) 10) (i:Int)]=Md s (i+1):=by simp [Md,List.range_succ]
   rw [AwB m j,iQ];simp only [FAk,mk,hw];rw [AL (by grind),PBQ (by omega) hs,AP,HBs (tu _ _ _) (by omega) (fun x hx=>by grind [uD]),AP,ho,AL (by grind),hm];exact ih (i+1) m (by omega)
 obtain ⟨m,hm⟩:∃ m,AY=m+4+1:=⟨AY - 5,by rfl⟩
 rw [tq,VAx,hm];exact key 4 0 m rfl
theorem FBC {level place:Int} {a b:AA} (hl:0<=level/\level<=255) (hp:0<=place/\place<=255) (ha:a.size<=100000) (hb:b.size<=100000):Xi level place a b=some (KQ level place a b):=by have hN:Zm.size=1:=rfl;rw [Xi,WAx,mk,OQ hl.1 hl.2,AP,OQ hp.1 hp.2,AP];show (bif decide ((b1 level).size+(b1 place).size<=_) then _ else _)=_;rw [AL (by rfl)];show (bif decide ((b1 level++b1 place).size+a.size<=_) then _ else _)=_;rw [AL (by grind [Avr])];show (bif decide ((b1 level++b1 place++a).size+b.size<=_) then _ else _)=_;rw [AL (by grind [Avr])];show (bif decide ((b1 level++b1 place++a++b).size+Zm.size<=_) then _ else _)=_;rw [AL (by grind [Avr])];show (PG (b1 level++b1 place++a++b++Zm)).bind _=_;rw [tX (by grind [Avr])];rfl
theorem SBQ {lv:Int} {a b c d:AA} (hl:0<=lv/\lv<=255) (ha:a.size<=100000) (hb:b.size<=100000) (hc:c.size<=100000) (hd:d.size<=100000):Vg lv [a,b,c,d]=some [KQ lv 0 a b,KQ lv 1 c d]:=by
 obtain ⟨m,hm⟩:∃ m,AY=m+1+1+1:=⟨AY - 3,rfl⟩
 rw [Vg,GAk,hm,Xj];simp only [uF,mk];rw [AL (by rfl),AL (by rfl),AL (by rfl)];show (Xi lv 0 a b).bind _=_;rw [FBC hl (by omega) ha hb,AP,AL (by rfl),Xj];simp only [uF,mk];rw [AL (by rfl),AL (by rfl),AL (by rfl)];show (Xi lv 1 c d).bind _=_;rw [FBC hl (by omega) hc hd,AP,AL (by rfl),Xj];rfl
theorem TBQ {lv:Int} {a b:AA} (hl:0<=lv/\lv<=255) (ha:a.size<=100000) (hb:b.size<=100000):Vg lv [a,b]=some [KQ lv 0 a b]:=by
 obtain ⟨m,hm⟩:∃ m,AY=m+1+1:=⟨AY - 2,rfl⟩
 rw [Vg,GAk,hm,Xj];simp only [uF,mk];rw [AL (by rfl),AL (by rfl),AL (by rfl)];show (Xi lv 0 a b).bind _=_;rw [FBC hl (by omega) ha hb,AP,AL (by rfl),Xj];rfl
theorem IBs {a b c d:AA} (ha:a.size<=100000) (hb:b.size<=100000) (hc:c.size<=100000) (hd:d.size<=100000):IAk [a,b,c,d]=some (TBA a b c d):=by
 obtain ⟨m,hm⟩:∃ m,AY=m+1+1+1:=⟨AY - 3,rfl⟩
 have n1:=Ara 1 0 a b;have n2:=Ara 1 1 c d;rw [IAk,XAx,mk,BF (by rfl),hm,iR];simp only [HAk,mk];rw [AL (by rfl),SBQ (by omega) ha hb hc hd,AP,show AV (1+1)=2 by rfl,iR];simp only [HAk,mk];rw [AL (by rfl),TBQ (by omega) (by omega) (by omega),AP,iR];rfl
theorem UBQ {s:AA} (hs:s.size<=100000):uG s=some (Aq8 s):=by rw [uG,YAx,mk,RBQ hs,AP,GAr,IBs (by simp [KR]) (by simp [KR]) (by simp [KR]) (by simp [KR])];rfl
theorem JBs {s:AA} (hs:s.size<=1000000000):uH s=some (QK s):=by
 have hz:=Rw s;have hin:=HAr (Jj (EF s));have hln:=uI (bs (EF s));rw [bs_len,hz] at hln;rw [uH,ZAx,tX hs,AP];have key:Zn AY (.c0 (EF s) (Lj (ArA ((bs (EF s)).take 0))) (0:Nat) (ArA ((bs (EF s)).take 0)))=some (QK s):=by
  refine Wj (L:=Zn) (fun i:Nat=>iU.c0 (EF s) (Lj (ArA ((bs (EF s)).take i))) (i:Int) (ArA ((bs (EF s)).take i))) 4 0 (by omega) (fun m=>?_) fun i hi m=>?_
  ·have h3:=uJ hin;rw [List.take_of_length_le (by grind [bs_len]),Zn];simp only [JAk,mk];rw [Jh (by omega),Ep (by omega),Int.tdiv_eq_ediv_of_nonneg h3.1,Int.tmod_eq_emod_of_nonneg h3.1,A8 (by omega) (by omega)];rfl
  ·have hlt:i<(EF s).size:=by omega
   have hlt2:i<(bs (EF s)).length:=by grind [bs_len]
   have hw:=Fq (i:=i) (by omega);have hb:=Rx (EF s) (i:Int);have hl:(ArA ((bs (EF s)).take i)).length<=8:=by grind [uI]
   have h3:=uJ (a:=ArA ((bs (EF s)).take i)) (HAr fun d hd=>Jj (EF s) d (List.mem_of_mem_take hd));have hm:ArA ((bs (EF s)).take i)++[bt (EF s) (i:Int) / 16,bt (EF s) (i:Int) % 16]=ArA ((bs (EF s)).take (i+1)):=by rw [take_at hlt2,TBM,Zo hlt];rfl
   have hr:Lj (ArA ((bs (EF s)).take i))+30 - bt (EF s) (i:Int) / 16 - bt (EF s) (i:Int) % 16=Lj (ArA ((bs (EF s)).take (i+1))):=by rw [<-hm,UBM,Lj,Lj,Lj];omega
   rw [Zn];simp only [JAk,mk,hw];rw [Ep (by omega),GX (by omega),GX (by omega),Ep (by omega),GX (by omega),GX (by omega),A8 (n:=bt (EF s) (i:Int)) (by omega) (by omega),Int.tdiv_eq_ediv_of_nonneg hb.1,Int.tmod_eq_emod_of_nonneg hb.1,A8 (n:=bt (EF s) (i:Int) / 16) (by omega) (by omega),A8 (n:=Lj _+30) (by omega) (by omega),A8 (n:=Lj _+30 - _) (by omega) (by omega),A8 (by omega) (by omega),hr,hm]
 exact key
theorem KBs {keys:List AA} {leaf:Int} {s:AA} (hk:keys.length=10) (hl:0<=leaf/\leaf<=255) (hs:∀ x ∈ keys,x.size<=100000) (hm:s.size<=1000000000):KAk keys leaf s=some (AqK keys leaf (QK s) 10):=by
 obtain ⟨d1,d2⟩:=VBM s
 have hdig:=JBs hm;generalize QK s=D at d1 d2 hdig;rw [KAk,AJx,mk,BF (by simp_all),hdig,AP];refine Wj (L:=uK) (fun i:Nat=>iV.c0 keys leaf (i:Int) (AqK keys leaf D i) D) 10 0 (by omega) (fun m=>?_) fun i hi m=>?_
 ·rfl
 ·have hlt:i<keys.length:=by omega
  have hlt2:i<D.length:=by omega
  have hw:=Fq (i:=i) (by omega);have hd:=d2 _ (List.getElem_mem hlt2);have ho:(AqK keys leaf D i).length=i:=by simp [AqK]
  grind [AqK,List.range_succ,QBQ,uK,BAy]
theorem LBs {a b c d:AA} {leaf:Int} (hl:0<=leaf/\leaf<=3) (ha:a.size<=100000) (hb:b.size<=100000) (hc:c.size<=100000) (hd:d.size<=100000):MAk [a,b,c,d] leaf=some (iW a b c d leaf):=by
 obtain ⟨m,hm⟩:∃ m,AY=m+1+1+1:=⟨AY - 3,rfl⟩
 have n1:=Ara 1 0 a b;have n2:=Ara 1 1 c d;have GM:=TBQ (lv:=2) (a:=KQ 1 0 a b) (b:=KQ 1 1 c d) (by omega) (by omega) (by omega);have GP:=SBQ (lv:=1) (by omega) ha hb hc hd;rw [MAk,CAy,mk,BF (by rfl),Hf,AP,Aqo.2 hl,DN,Aq,hm,uM];simp only [LAk,mk,GP,AP];have h4:leaf=0\/leaf=1\/leaf=2\/leaf=3:=by omega
 have e2:AV (1+1)=2:=by rfl
 rcases h4 with rfl | rfl | rfl | rfl
 all_goals
  rw [AL (by rfl)];first | rw [AL (by decide)] | rw [BF (by decide)]
  rw [AL (by rfl),AL (by rfl),uM];simp only [LAk,mk,e2,GM,AP];rfl
theorem VBQ {s m:AA} {leaf:Int} (hl:0<=leaf/\leaf<=3) (hs:s.size<=100000) (hm:m.size<=1000000000):uN s leaf m=some (iY s leaf m,true):=by rw [uN,DAy,mk,Hf,AP,Aqo.2 hl,DN,Aq,PBQ (by omega) hs,AP,KBs (tu _ _ _) (by omega) (fun x hx=>by grind [uD]) hm,AP,RBQ hs,AP,GAr,LBs hl (by simp [KR]) (by simp [KR]) (by simp [KR]) (by simp [KR])];rfl
theorem MBs {s m:AA} {i:Int} (hi:0<=i/\i<=15) (hs:s.size<=90000) (hm:m.size<=1000000000):NAk s i m=some (H7 s i m,true):=by
 have hL:iZ.size=1:=rfl;have hT:Zp.size=1:=rfl;have hlow:(QL s i).size=s.size+2:=by simp_all [QL,Avr]
 have e1:AV (i.tdiv 4)=i / 4:=by grind [A8]
 have e2:i.tmod 4=i % 4:=Int.tmod_eq_emod_of_nonneg hi.1;have hlo:BAk s (i / 4)=some (QL s i):=by rw [BAk,QAx,mk,OQ (by omega) (by omega),AP];show (bif decide (s.size+(b1 (i / 4)).size<=_) then (bif decide ((s++b1 (i / 4)).size+iZ.size<=_) then some (s++b1 (i / 4)++iZ) else none) else none)=_;rw [Ep (by grind [Avr]),Ep (by grind [Avr])];rfl
 rw [NAk,EAy,mk,Hf,AP,Aqo.2 hi,DN,Aq,e1,e2,hlo,AP,UBQ (by omega),AP,VBQ (by omega) (by omega) hm,AP];show (bif decide (s.size+Zp.size<=9223372036854775807) then (uN (s++Zp) (i / 4) (Aq8 (QL s i))).bind (fun r4=>some ((⟨r4.1,Aq8 (QL s i),iY (QL s i) (i % 4) m⟩:Nl),true)) else none)=_;rw [Ep (by omega),VBQ (by omega) (by grind) (by simp [uO])];rfl
theorem GBC {s:IL} (h:OT s):ig s=some true:=by
 obtain ⟨o1,o2⟩:=h.once
 obtain ⟨q1,q2⟩:=h.path
 rw [ig,FAy,mk,Hf,AP,Aqo.2 h.leaf,o1,q1];simp only [bne_self_eq_false,show ((10:Nat):Int)=10 from rfl,show ((2:Nat):Int)=2 from rfl,DN,Aq]
 have two:∀ m,Vh (m+2+1) (.c1 0 s)=some true:=AKj (L:=Vh) (fun i:Nat=>Zq.c1 (i:Int) s) 2 (fun m=>by
  simp_all [Vh,uQ,mk]) fun i hi m=>by
  grind [Fq,Vh,uQ]
 refine Wj (L:=Vh) (fun i:Nat=>Zq.c0 (i:Int) s) 10 3 (by omega) (fun m=>?_) fun i hi m=>?_
 all_goals grind [Vh,uQ,Fq]
theorem WBQ {s:IL} (h:OT s):OAk s=some (Ro s,true):=by
 obtain ⟨l1,s1⟩:=h.once
 obtain ⟨l2,s2⟩:=h.path
 have pre:∀ {l:List AA} {i:Nat} (hlt:i<l.length),Nc (l.take i)++l[i]=Nc (l.take (i+1)):=fun {l i} hlt=>by grind [take_at,tZ,Nc,iP]
 have CC:∀ {l:List AA} (i:Nat),(∀ x ∈ l,x.size=4)->l.length<=10->(Nc (l.take i)).size<=40:=fun {l} i hs hl=>by rw [Tz (fun x hx=>hs x (List.mem_of_mem_take hx)),List.length_take];omega
 have hO:=Tz s1
 have two:∀ m,UK (m+2+1) (.c1 (b1 s.Dv++Nc s.Fg++Nc (s.Gn.take 0)) 0 s)=some (Ro s,true):=AKj (L:=UK) (fun i:Nat=>Zr.c1 (b1 s.Dv++Nc s.Fg++Nc (s.Gn.take i)) (i:Int) s) 2 (fun m=>by
  rw [UK];simp only [iq,mk];rw [Jh (by omega),List.take_of_length_le (by omega)];rfl) fun i hi m=>by
  have hlt:i<s.Gn.length:=by omega
  have hw:=Fq (i:=i) (by omega);have hz:=CC i s2 (by omega);rw [UK];simp only [iq,mk,hw,BR,getD_at hlt];rw [Ep (by omega),GX (by omega),Ep (by grind [Avr]),Vj (b1 s.Dv++Nc s.Fg),pre hlt]
 rw [OAk,GAy,mk,GBC h,AP,DN,Aq,OQ h.leaf.1 (by have:=h.leaf.2;omega),AP,show ofBytes [s.Dv]=b1 s.Dv++Nc (s.Fg.take 0) by rfl];refine Wj (L:=UK) (fun i:Nat=>Zr.c0 (b1 s.Dv++Nc (s.Fg.take i)) (i:Int) s) 10 3 (by omega) (fun m=>?_) fun i hi m=>?_
 ·simp_all [UK,iq,mk,List.take_of_length_le,Nc,iP]
 ·have hlt:i<s.Fg.length:=by omega
  have hw:=Fq (i:=i) (by omega);have hz:=CC i s1 (by omega);rw [UK];simp only [iq,mk,hw,BR,getD_at hlt];rw [Ep (by omega),GX (by omega),Ep (by grind [Avr]),Vj (b1 s.Dv),pre hlt]
theorem NBs {s m:AA} {i:Int} (hi:0<=i/\i<=15):PAk (H7 s i m)=some (Arh (H7 s i m),true):=by have h1:OT (H7 s i m).QU:=Xk (by omega);have h2:OT (H7 s i m).QV:=Xk (by omega);have h3:(H7 s i m).QS.size=4:=uO _;have z1:=Zt h1;have z2:=Zt h2;rw [PAk,HAy,mk,WBQ h1,AP,WBQ h2,AP];dsimp only;rw [DN,Aq,Aq,BF (by simp_all),Ep (by omega),Ep (by simp_all)];rfl
theorem OBs {b:Ap} {c:CV} {x:Af} (h:PB b) (hc:c.fText.size<=1000) (hx:Aqg b.AU.AZ x.fId=some x) (hm:JM x 3=true):QAk b c x=some (XO b c x):=by
 obtain ⟨h1,h2,h3⟩:=EAs hm
 obtain ⟨_,_,_,_,n0,n1,_⟩:=MZ h1
 have hv:=ZM h1 (.inr h2);have hl:=DAs h.LH hx n0;rw [QAk,IAy,mk,XO,OBQ h.lln,AP];by_cases h16:Arx b x>=16;·rw [Ba h16,show (Arx b x == 16)=true from beq_iff_eq.2 (by omega)];rfl
 ·rw [D6 h16,show (Arx b x == 16)=false from beq_eq_false_iff_ne.2 (by omega),Aq,Aq,MBs (by omega) (by omega) (by omega),AP,NBs (by omega),AP,A8 (n:=x.fNext+3) (by omega) (by omega),bne,O3];cases Arx b x == x.fNext;·rfl
  ·by_cases q:16<x.fNext+3;·rw [if_pos q,Ba (by omega:x.fNext+3 > 16)];rfl
   ·rw [if_neg q,D6 (by omega:¬ x.fNext+3 > 16)];rfl
theorem XBQ {s:AA} {n:Nat} (h:s.size=8*n) (hn:n<=1000):iw s=some (up (Qn (Aqj s) n)):=by
 have inner:∀ i,i<n->∀ (m:Nat) (o:List Nat),_:=fun i hi=>fun m o=>(Qd (Lp:=Xl) (st:=fun j (x:Nat)=>.c1 s ((8*i:Nat):Int) (x:Int) (7 - (j:Int)) (up o)) (f:=fun j x=>x*256+Aqj s (8*i+(7 - j))) (P:=fun j x=>x<256 ^ j) (n:=8) 1 (fun m j x hj hx=>by
  have hb:=VY s (8*i+(7 - j));have hp:256 ^ (j+1)<=18446744073709551616:=Nat.le_trans (Nat.pow_le_pow_right (by decide) (show j+1<=8 by omega)) (by decide);have hx2:x*256+Aqj s (8*i+(7 - j))<256 ^ (j+1):=by omega
  have hlt:=Nat.lt_of_lt_of_le hx2 hp;refine ⟨?_,hx2⟩;have e1:AV (((8*i:Nat):Int)+(7 - (j:Int)))=((8*i+(7 - j):Nat):Int):=by grind [wn]
  have e2:AV (7 - (j:Int) - 1)=7 - ((j+1:Nat):Int):=by grind [A8]
  have e3:wu64 ((x:Int)*256)=((x*256:Nat):Int):=by rw [show (x:Int)*256=((x*256:Nat):Int) by omega];exact Ou (n:=x*256) (Nat.lt_of_le_of_lt (Nat.le_add_right _ _) hlt)
  have e4:wu64 ((Aqj s (8*i+(7 - j)):Nat):Int)=((Aqj s (8*i+(7 - j)):Nat):Int):=Ou (Nat.lt_trans hb (by decide));have e5:wu64 (((x*256:Nat):Int)+((Aqj s (8*i+(7 - j)):Nat):Int))=((x*256+Aqj s (8*i+(7 - j)):Nat):Int):=Ou (n:=x*256+Aqj s (8*i+(7 - j))) hlt;rw [Xl];simp only [uT,mk,e1,e2,P9,e3,e4,e5];grind) 8 0 m 0 rfl (by decide)).1
 have s1:=Qd (Lp:=Xl) (st:=fun i o=>.c0 s ((8*i:Nat):Int) (up o)) (f:=fun i o=>o++[Ary (Aqj s) i]) (P:=fun i o=>o.length=i) (n:=n) 10 (fun m i o hi ho=>by
  refine ⟨?_,by simp_all⟩;have e1:AV (((8*i:Nat):Int)+8)=((8*(i+1):Nat):Int):=wn (n:=8*(i+1)) (by omega);grind [Xl,uT,up,Ary])
 obtain ⟨m,hm⟩:∃ m,AY=m+1+n*10:=⟨AY - (1+n*10),by have:=FM (n:=1+n*10) (by omega);omega⟩
 rw [iw,JAy,hm];refine (s1 n 0 (m+1) [] (by omega) rfl).1.trans ?_;have e1:AV (((8*n:Nat):Int)+8)=((8*n+8:Nat):Int):=wn (n:=8*n+8) (by omega);rw [uU,Xl];simp only [uT,mk,e1];rw [BF (by grind)];rfl
theorem PBs:RAk=some (up QM):=by rfl
theorem QBs:uV=some (up UM):=by
 obtain ⟨m,hm⟩:∃ m,AY=m+300:=⟨AY - 300,rfl⟩
 rw [uV,LAy,hm];kernel_rfl
theorem YBQ {x n:Nat} (hx:x<18446744073709551616) (hn:n<64):iy (x:Int) (n:Int)=some ((Je n x:Nat):Int):=by
 obtain ⟨m,hm⟩:∃ m,AY=m+1+n*1:=⟨AY - (n+1),by have:=FM (n:=n+1) (by omega);omega⟩
 have hp:∀ i,i<=63->2 ^ i<=9223372036854775808:=fun i hi=>Nat.pow_le_pow_right (n:=2) (by decide) hi
 rw [iy,NAy,hm]
 have h:=Qd (Lp:=jA) (st:=fun i (low:Nat)=>.c0 (x:Int) (n:Int) (low:Int) (i:Int)) (f:=fun _ low=>low*2) (P:=fun i low=>low=2 ^ i) (n:=n) 1 (fun m i low hi hl=>by
  refine ⟨?_,by omega⟩;have h1:=hp (i+1) (by omega);rw [Nat.pow_succ,<-hl] at h1;have hw:AV ((i:Int)+1)=((i+1:Nat):Int):=wn (n:=i+1) (by omega);have hw2:wu64 ((low:Int)*2)=((low*2:Nat):Int):=Ou (n:=low*2) (by omega);simp_all [jA,SAk,mk]) n 0 (m+1) 1 (by omega) rfl
 refine h.1.trans ?_;rw [h.2,jA];simp only [SAk,mk];rw [BF (by simp)];by_cases h0:n=0;·simp_all [DBN]
 ·have e1:(9223372036854775808:Int).tdiv ((2 ^ n:Nat):Int)=((2 ^ (63 - n):Nat):Int):=by show ((9223372036854775808 / 2 ^ n:Nat):Int)=_;rw [show 9223372036854775808=2 ^ 63 from rfl,Nat.pow_div (by omega) (by decide)]
  have h1:=hp (63 - n) (by omega);have e2:wu64 (((2 ^ (63 - n):Nat):Int)*2)=((2 ^ (64 - n):Nat):Int):=by
   have:2 ^ (64 - n)=2 ^ (63 - n)*2:=by rw [<-Nat.pow_succ];grind
   grind [Ou]
  have e3:wu64 ((x:Int)*((2 ^ n:Nat):Int))=(((x*2 ^ n) % 18446744073709551616:Nat):Int):=ZBM (x*2 ^ n);grind [Ou,Je,jB]
theorem RBs {a:List Nat} (ha:Hg a) {c:Nat} (hc:c<18446744073709551616):uX (up a) (up QM) (c:Int)=some (up (jC a c)):=by
 obtain ⟨hl,hw⟩:=ha
 have ww:∀ n:Nat,n<100->AV (n:Int)=(n:Int):=fun n h=>wn (by omega)
 have w1:∀ i:Nat,i<30->AV ((i:Int)+1)=((i+1:Nat):Int):=fun i h=>ww (i+1) (by omega)
 have s1:=Qd (Lp:=Avp) (st:=fun i v=>.c0 (up a) (up QM) (c:Int) (i:Int) (up v)) (f:=fun i v=>v.set i (Ave a i)) (P:=fun _ v=>v.length=5) (n:=5) 1 (fun m i v hi hv=>by
  refine ⟨?_,HBN hv⟩;have e5:AV ((i:Int)+5)=((i+5:Nat):Int):=ww (i+5) (by omega);have e10:AV ((i:Int)+10)=((i+10:Nat):Int):=ww (i+10) (by omega);have e15:AV ((i:Int)+15)=((i+15:Nat):Int):=ww (i+15) (by omega);have e20:AV ((i:Int)+20)=((i+20:Nat):Int):=ww (i+20) (by omega);rw [Avp];simp only [Ry,mk,w1 i (by omega),e5,e10,e15,e20,BR,GN];rw [AL (by grind),AL (Awg (by omega)),AL (Awg (by omega)),AL (Awg (by omega)),AL (Awg (by omega)),AL (Awg (by omega)),AL (Awg (by omega)),Qu (hw.get _) (hw.get _),Qu (xlt (hw.get _) (hw.get _)) (hw.get _),Qu (xlt (xlt (hw.get _) (hw.get _)) (hw.get _)) (hw.get _),Qu (xlt (xlt (xlt (hw.get _) (hw.get _)) (hw.get _)) (hw.get _)) (hw.get _),AsH];rfl)
 have GQ:∀ x:Nat,x<5->∀ (m:Nat) (b:List Nat),b.length=25->_:=fun x hx=>fun m b hb=>(Qd (Lp:=Avp) (st:=fun y b=>.c2 (up a) (up QM) (c:Int) (x:Int) ((AIV a x:Nat):Int) (y:Int) (up ((List.range 5).map (Ave a))) (up b)) (f:=fun y b=>b.set (y+5*((2*x+3*y) % 5)) (Je (QM.getD (x+5*y) 0) (Art a (x+5*y)))) (P:=fun _ b=>b.length=25) (n:=5) 1 (fun m y b hy hb=>by
  refine ⟨?_,Zu hb⟩;have e1:AV (5*(y:Int))=((5*y:Nat):Int):=ww (5*y) (by omega);have e2:AV ((x:Int)+((5*y:Nat):Int))=((x+5*y:Nat):Int):=ww (x+5*y) (by omega);have e3:AV (2*(x:Int))=((2*x:Nat):Int):=ww (2*x) (by omega);have e4:AV (3*(y:Int))=((3*y:Nat):Int):=ww (3*y) (by omega);have e5:AV (((2*x:Nat):Int)+((3*y:Nat):Int))=((2*x+3*y:Nat):Int):=ww (2*x+3*y) (by omega);have e6:((2*x+3*y:Nat):Int).tmod 5=(((2*x+3*y) % 5:Nat):Int):=rfl;have hz:(2*x+3*y) % 5<5:=Nat.mod_lt _ (by decide);have e7:AV (5*(((2*x+3*y) % 5:Nat):Int))=((5*((2*x+3*y) % 5):Nat):Int):=ww (5*((2*x+3*y) % 5)) (by omega);have e8:AV ((y:Int)+((5*((2*x+3*y) % 5):Nat):Int))=((y+5*((2*x+3*y) % 5):Nat):Int):=ww (y+5*((2*x+3*y) % 5)) (by omega);have ht:a.getD (x+5*y) 0 ^^^ AIV a x=Art a (x+5*y):=by rw [Art,show (x+5*y) % 5=x by omega]
  rw [Avp];simp only [Ry,mk,w1 y (by omega),e1,e2,e3,e4,e5,e6,e7,e8,BR,GN];rw [AL (by grind),AL (Awg (by omega)),AL (Awg (by show x+5*y<25;omega)),Qu (hw.get _) (FBN hw _),ht,YBQ (AK1 hw _) (GBN _),AP,AL (Awg (by omega)),AsH]) 5 0 m b rfl hb)
 have s2:=Qd (Lp:=Avp) (st:=fun x b=>.c1 (up a) (up QM) (c:Int) (x:Int) (up ((List.range 5).map (Ave a))) (up b)) (f:=fun x b=>Ib (fun y b=>b.set (y+5*((2*x+3*y) % 5)) (Je (QM.getD (x+5*y) 0) (Art a (x+5*y)))) 5 0 b) (P:=fun _ b=>b.length=25) (n:=5) 7 (fun m x b hx hb=>by
  obtain ⟨i1,i2⟩:=GQ x hx (m+1) b hb
  refine ⟨?_,i2⟩;have e4:AV ((x:Int)+4)=((x+4:Nat):Int):=ww (x+4) (by omega);have e1:AV ((x:Int)+1)=((x+1:Nat):Int):=ww (x+1) (by omega);have e2:((x+4:Nat):Int).tmod 5=(((x+4) % 5:Nat):Int):=rfl;have e3:((x+1:Nat):Int).tmod 5=(((x+1) % 5:Nat):Int):=rfl;have h4:(x+4) % 5<5:=Nat.mod_lt _ (by decide);have h1:(x+1) % 5<5:=Nat.mod_lt _ (by decide);have hlen:((List.range 5).map (Ave a)).length=5:=by rfl
  rw [show m+7=m+1+5*1+1 from rfl,Avp];simp only [Ry,mk,e4,e1,e2,e3,BR,GN];rw [AL (by grind),AL (Awg (by omega)),AL (Awg (by omega)),uY h1,uY h4];have hr:iy ((Ave a ((x+1) % 5):Nat):Int) 1=some ((Je 1 (Ave a ((x+1) % 5)):Nat):Int):=YBQ (n:=1) (UU hw _) (by decide);rw [hr,AP,Qu (UU hw _) (jB (by decide) (UU hw _))];refine i1.trans ?_;grind [Avp,Ry])
 have hb:=LAr hw
 have GS:∀ x:Nat,x<5->∀ (m:Nat) (o:List Nat),o.length=25->_:=fun x hx=>fun m o ho=>(Qd (Lp:=Avp) (st:=fun y o=>.c4 (c:Int) (x:Int) (y:Int) (up (AqP a)) (up o)) (f:=fun y o=>o.set (x+5*y) (AsJ (AqP a) (x+5*y))) (P:=fun _ o=>o.length=25) (n:=5) 1 (fun m y o hy ho=>by
  refine ⟨?_,Zu ho⟩;have hbl:=hb.1;have e1:AV (5*(y:Int))=((5*y:Nat):Int):=ww (5*y) (by omega);have e2:AV ((x:Int)+((5*y:Nat):Int))=((x+5*y:Nat):Int):=ww (x+5*y) (by omega);have e3:AV ((x:Int)+1)=((x+1:Nat):Int):=ww (x+1) (by omega);have e4:AV ((x:Int)+2)=((x+2:Nat):Int):=ww (x+2) (by omega);have e5:((x+1:Nat):Int).tmod 5=(((x+1) % 5:Nat):Int):=rfl;have e6:((x+2:Nat):Int).tmod 5=(((x+2) % 5:Nat):Int):=rfl;have h1:(x+1) % 5<5:=Nat.mod_lt _ (by decide);have h2:(x+2) % 5<5:=Nat.mod_lt _ (by decide);have e7:AV ((((x+1) % 5:Nat):Int)+((5*y:Nat):Int))=(((x+1) % 5+5*y:Nat):Int):=ww ((x+1) % 5+5*y) (by omega);have e8:AV ((((x+2) % 5:Nat):Int)+((5*y:Nat):Int))=(((x+2) % 5+5*y:Nat):Int):=ww ((x+2) % 5+5*y) (by omega);have hv:(AqP a).getD (x+5*y) 0 ^^^ ((18446744073709551615 - (AqP a).getD ((x+1) % 5+5*y) 0) &&& (AqP a).getD ((x+2) % 5+5*y) 0)=AsJ (AqP a) (x+5*y):=by rw [AsJ,show (x+5*y) % 5=x by omega,show (x+5*y) / 5=y by omega]
  rw [Avp];simp only [Ry,mk,w1 y (by omega),e1,e2,e3,e4,e5,e6,e7,e8,BR,GN];rw [AL (by grind),AL (Awg (by omega)),AL (Awg (by omega)),AL (Awg (by omega)),AL (Awg (by omega)),LBo (hb.2.get _),n64 (by omega) (hb.2.get _),Qu (hb.2.get _) (nlt (by omega)),hv,AsH]) 5 0 m o rfl ho)
 have s3:=Qd (Lp:=Avp) (st:=fun x o=>.c3 (c:Int) (x:Int) (up (AqP a)) (up o)) (f:=fun x o=>Ib (fun y o=>o.set (x+5*y) (AsJ (AqP a) (x+5*y))) 5 0 o) (P:=fun _ o=>o.length=25) (n:=5) 7 (fun m x o hx ho=>by
  obtain ⟨i1,i2⟩:=GS x hx (m+1) o ho
  grind [Avp,Ry])
 obtain ⟨m,hm⟩:∃ m,AY=m+1+5*7+1+5*7+1+5*1:=⟨AY - 78,rfl⟩
 rw [uX,OAy,hm];obtain ⟨a1,a2⟩:=s1 5 0 (m+1+5*7+1+5*7+1) [0,0,0,0,0] rfl rfl
 refine a1.trans ?_;rw [OBo,Avp];simp only [Ry,mk];rw [BF (by rfl)];obtain ⟨b1,b2⟩:=s2 5 0 (m+1+5*7+1) (List.replicate 25 0) rfl rfl
 refine b1.trans ?_;rw [RBo (fun n q=>Je n (Art a q)),Avp];simp only [Ry,mk];rw [BF (by rfl)];obtain ⟨c1,c2⟩:=s3 5 0 (m+1) (List.replicate 25 0) rfl rfl
 refine c1.trans ?_;have hch:=BBB hb.2;rw [PBo,Avp];simp only [Ry,mk];rw [BF (by rfl),show (0:Int).toNat=0 from rfl,GN,Qu (hch.2.get _) hc,AsH];rfl
theorem ZBQ {a:List Nat} (ha:Hg a):jD (up a)=some (up (uZ a)):=by
 have s:=Qd (Lp:=uf) (st:=fun i a=>.c0 (i:Int) (up a) (up QM) (up UM)) (f:=fun i a=>jC a (UM.getD i 0)) (P:=fun _ a=>Hg a) (n:=24) 1 (fun m i a hi ha=>by
  refine ⟨?_,CBB ha.2 (ug i)⟩;have w1:AV ((i:Int)+1)=((i+1:Nat):Int):=wn (n:=i+1) (by omega);rw [uf];simp only [QAy,mk,w1,BR,GN];rw [AL (by grind),AL (Awg (by assumption)),RBs ha (ug i),AP])
 obtain ⟨m,hm⟩:∃ m,AY=m+1+24*1:=⟨AY - 25,rfl⟩
 rw [jD,PAy,PBs,AP,QBs,AP,hm];refine (s 24 0 (m+1) a rfl ha).1.trans ?_;rfl
theorem SBs (v:Nat->Nat->Nat):Ib (fun i o=>o++(List.range 8).map (v i)) 25 0 []=(List.range 200).map (fun p=>v (p / 8) (p % 8)):=by kernel_rfl
theorem ATA {a:List Nat} (ha:Hg a):jE (up a)=some (ofBytes (up (OZ a))):=by
 have hal:=ha.1
 have inner:∀ (i:Nat) (x:Nat) (m:Nat) (o:List Nat),x<18446744073709551616->o.length<=1000->_:=fun i x m o hx ho=>(Qd (Lp:=Vk) (st:=fun j o=>.c1 (up a) (i:Int) ((x / 2 ^ (8*j):Nat):Int) (j:Int) (up o)) (f:=fun j o=>o++[x / 2 ^ (8*j) % 256]) (P:=fun j o=>o.length<=1000+j) (n:=8) 1 (fun m j o hj ho=>by
  refine ⟨?_,by grind⟩;have w1:AV ((j:Int)+1)=((j+1:Nat):Int):=wn (n:=j+1) (by omega);have e1:wu64 (((x / 2 ^ (8*j):Nat):Int).tdiv 256)=((x / 2 ^ (8*(j+1)):Nat):Int):=by
   have:x / 2 ^ (8*(j+1))=x / 2 ^ (8*j) / 256:=by grind [Nat.div_div_eq_div_mul]
   rw [this];exact Ou (n:=x / 2 ^ (8*j) / 256) (Nat.lt_of_le_of_lt (Nat.div_le_self _ _) (Nat.lt_of_le_of_lt (Nat.div_le_self _ _) hx))
  grind [Nq,Vk,jF,up]) 8 0 m o rfl (by omega)).1
 have s1:=Qd (Lp:=Vk) (st:=fun i o=>.c0 (up a) (i:Int) (up o)) (f:=fun i o=>o++(List.range 8).map fun j=>a.getD i 0 / 2 ^ (8*j) % 256) (P:=fun i o=>o.length=8*i) (n:=25) 10 (fun m i o hi ho=>by
  refine ⟨?_,by grind⟩;have w1:AV ((i:Int)+1)=((i+1:Nat):Int):=wn (n:=i+1) (by omega);have hx:=ha.2.get i;rw [show m+10=m+1+8*1+1 from rfl,Vk];simp only [jF,mk,BR,GN];rw [AL (by grind [Dq]),AL (Awg (by omega))];have h:=inner i (a.getD i 0) (m+1) o hx (by omega);rw [show ((a.getD i 0 / 2 ^ (8*0):Nat):Int)=((a.getD i 0:Nat):Int) by omega] at h;refine h.trans ?_;rw [jG,List.range'_eq_map_range,Vk];simp_all [jF,mk])
 obtain ⟨m,hm⟩:∃ m,AY=m+1+25*10:=⟨AY - 251,by rfl⟩
 rw [jE,RAy,hm];refine (s1 25 0 (m+1) [] (by omega) rfl).1.trans ?_;rw [SBs (fun i j=>a.getD i 0 / 2 ^ (8*j) % 256),Vk];simp only [jF,mk];rw [BF (by simp_all [Dq])];rfl
theorem TBs {s:AA} {f:Nat} (hs:s.size<=2000) (hf:f<256):uh s 168 (f:Int)=some (jH s f):=by
 obtain ⟨q,hq,hq2⟩:=PBN s f
 have hbuf:=OBN s hf
 have sp:=Qd (Lp:=Oa) (st:=fun i l=>.c0 168 (up (List.replicate 25 0)) (up l)) (f:=fun _ l=>l++[0]) (P:=fun i l=>l.length=s.size+1+i) (n:=(168 - (s.size+1) % 168) % 168) 1 (fun m i l hi hl=>by
  grind [Oa,Xm,Dq,AwV])
 have si:∀ (p:Nat) (st:List Nat),p<q->Hg st->∀ m,Oa (m+21*1) (.c2 168 ((168*p:Nat):Int) ((0:Nat):Int) (up st) (up (AqF s f)) (up (Qn (fun i=>(AqF s f).getD (168*p+i) 0) 21)))=Oa m (.c2 168 ((168*p:Nat):Int) ((21:Nat):Int) (up (Zv st fun i=>(AqF s f).getD (168*p+i) 0)) (up (AqF s f)) (up (Qn (fun i=>(AqF s f).getD (168*p+i) 0) 21))):=by
  intro p st hp hst m;have hg:∀ i,(fun i=>(AqF s f).getD (168*p+i) 0) i<256:=fun i=>hbuf.get _
  generalize hgg:(fun i=>(AqF s f).getD (168*p+i) 0)=g at hg;have hll:(Qn g 21).length=21:=by rfl
  have D4:=WBo hg 21
  obtain ⟨a1,a2,a3,a4⟩:=Qd (Lp:=Oa) (st:=fun i v=>.c2 168 ((168*p:Nat):Int) (i:Int) (up v) (up (AqF s f)) (up (Qn g 21))) (f:=fun i v=>v.set i (v.getD i 0 ^^^ (Qn g 21).getD i 0)) (P:=fun i v=>v.length=25/\MC v/\∀ k,k<25->v.getD k 0=if k<i then st.getD k 0 ^^^ Ary g k else st.getD k 0) (n:=21) 1 (fun m i v hi hv=>by
   obtain ⟨v1,v2,v3⟩:=hv
   refine ⟨?_,Zu v1,v2.set _ (xlt (v2.get _) (D4.get _)),fun k hk=>?_⟩;·have w1:AV ((i:Int)+1)=((i+1:Nat):Int):=wn (n:=i+1) (by omega);rw [Oa];simp only [Xm,mk,w1,BR,GN];rw [Qu (v2.get _) (D4.get _),AsH,AL (by grind [Dq]),AL (Awg (by omega)),AL (Awg (by omega)),AL (Awg (by omega))]
   grind [Qn]) 21 0 m st (by omega) ⟨hst.1,hst.2,fun k hk=>by rfl⟩
  refine a1.trans ?_
  rw [show Ib (fun i v=>v.set i (v.getD i 0 ^^^ (Qn g 21).getD i 0)) 21 0 st=Zv st g from OAr (by assumption) fun k hk=>by
   simp_all [Zv]]
 have so:=Qd (Lp:=Oa) (st:=fun p st=>.c1 168 ((168*p:Nat):Int) (up st) (up (AqF s f))) (f:=jI (AqF s f)) (P:=fun _ st=>Hg st) (n:=q) 23 (fun m p st hp hst=>by
  refine ⟨?_,LBB hbuf hst⟩;have e1:AV (((168*p:Nat):Int)+168)=((168*(p+1):Nat):Int):=by rw [show ((168*p:Nat):Int)+168=((168*(p+1):Nat):Int) by omega];exact wn (n:=168*(p+1)) (by omega)
  have hbl:((up (AqF s f)).drop (168*p)).take (168*(p+1) - 168*p)=up (((AqF s f).drop (168*p)).take 168):=by grind [up,List.map_drop,List.map_take]
  have hsz:(ofBytes (up (((AqF s f).drop (168*p)).take 168))).size=8*21:=by grind [Dj,Dq]
  have hlt:∀ x ∈ ((AqF s f).drop (168*p)).take 168,x<256:=fun x hx=>hbuf x (List.mem_of_mem_drop (List.mem_of_mem_take hx))
  have E0:Qn (Aqj (ofBytes (up (((AqF s f).drop (168*p)).take 168)))) 21=Qn (fun i=>(AqF s f).getD (168*p+i) 0) 21:=by
   refine List.map_congr_left fun k hk=>?_
   grind [FBB,NAr]
  rw [show m+23=(m+1)+21*1+1 from rfl,Oa];simp only [Xm,mk,e1,BR];rw [AL (by simp_all [Dq]),AL (by rw [Bool.and_eq_true,Bool.and_eq_true,decide_eq_true_eq,decide_eq_true_eq,decide_eq_true_eq,Dq];omega),hbl,XBQ hsz (by omega),AP,E0];refine (si p st hp hst (m+1)).trans ?_;rw [Oa];simp only [Xm,mk,e1];rw [BF (by rfl),ZBQ (QBN hst fun _=>hbuf.get _),AP];rfl)
 have FR:(168 - (s.size+1) % 168) % 168<168:=Nat.mod_lt _ (by decide);have hl1:(FD s++[f]).length=s.size+1:=by simp [Zw]
 obtain ⟨m,hm⟩:∃ m,AY=(m+1+q*23)+1+((168 - (s.size+1) % 168) % 168)*1:=⟨AY - (1+q*23+1+(168 - (s.size+1) % 168) % 168),by have:=FM (n:=1+q*23+1+(168 - (s.size+1) % 168) % 168) (by omega);omega⟩
 have hzs:(bytesOf s).length=s.size:=by simp_all [Zx,Dq]
 rw [uh,SAy,mk,hm,AL (by grind),AL (by grind),Zx,AwV,show (25:Int).toNat=25 from rfl,<-Aqz];refine (sp ((168 - (s.size+1) % 168) % 168) 0 _ (FD s++[f]) (by omega) hl1).1.trans ?_;have hpl:Ib (fun _ l=>l++[0]) ((168 - (s.size+1) % 168) % 168) 0 (FD s++[f])=Am (FD s++[f]):=by simp_all [jG,Am]
 have C4:B8 (Am (FD s++[f])):=HBB (JBB s hf);have Cf:=GBB (FD s++[f]);rw [hl1] at Cf;have e2:((up (Am (FD s++[f]))).length:Int).tmod 168=(((up (Am (FD s++[f]))).length % 168:Nat):Int):=rfl;have e3:AV (((up (Am (FD s++[f]))).length:Int) - 1)=(((Am (FD s++[f])).length - 1:Nat):Int):=by grind [Dq,wn]
 rw [hpl,Oa];simp only [Xm,mk,e2,e3,BR,GN];rw [AL (by rfl),BF (by grind [Dq]),AL (Awg (by omega)),AL (Awg (by omega)),show (128:Int)=((128:Nat):Int) from rfl,x8 (C4.get _) (by decide),AsH];show Oa (m+1+q*23) (.c1 168 0 (up (List.replicate 25 0)) (up (AqF s f)))=_;refine (so q 0 (m+1) (List.replicate 25 0) (by omega) KBB).1.trans ?_;have hfin:Ib (jI (AqF s f)) q 0 (List.replicate 25 0)=jJ s f:=by simp_all [jJ]
 have hok:Hg (jJ s f):=PAr (fun _ _ h=>LBB hbuf h) _ _ _ KBB;rw [hfin,Oa];simp only [Xm,mk];rw [BF (by simp_all [Dq]),ATA hok];rfl
theorem BBR {s:AA} (h:s.size<=2000):jK s=some ⟨sd s,0⟩:=by have e:uh s 168 31=some (jH s 31):=TBs (f:=31) h (by decide);rw [jK,TAy,e];rfl
theorem UBs {s:AA} (h:s.size=200):uj s=some (ZP s):=by have hl:=LBN (VY s);rw [uj,UAy,mk,BF (by simp_all),XBQ (n:=25) h (by omega),AP,ZBQ hl,AP,ATA (DBB hl)];rfl
theorem CBR {S:AA} {p n:Nat} {x:F6} (hS:S.size=200) (h:L6 S p x) (hn:n<=4000):∃ x',Zy x (n:Int)=some (x',ofBytes (up (Mc S p n)))/\L6 S (p+n) x':=by
 have key:∀ (r m:Nat) (x:F6) (v:F6) (o:List Nat),n - o.length=r->r<m->o.length<=n->L6 S (p+o.length) x->∃ x',jL m (.c0 (n:Int) x v (up o))=some (x',ofBytes (up (o++Mc S (p+o.length) (n - o.length))))/\L6 S (p+n) x':=by
  intro r;induction r using Nat.strongRecOn with
  | ind r ih=>
  intro m x v o hr hm ho hx;obtain ⟨m,rfl⟩:∃ m',m=m'+1:=⟨m - 1,by omega⟩
  rw [jL];simp only [WAy,mk];by_cases hlt:o.length<n
  ·have en:AV ((n:Int) - ((up o).length:Int))=((n - o.length:Nat):Int):=by grind [Dq,wn]
   rw [AL (by simp_all [Dq])];have go:∀ (q a k:Nat),168*q+a=p+o.length->a+k<=168->0<k->k<=n - o.length->∃ x',jL m (.c0 (n:Int) ⟨H8 S q,((a+k:Nat):Int)⟩ v (up o++bytesOf ((H8 S q).extract a (a+k))))=some (x',ofBytes (up (o++Mc S (p+o.length) (n - o.length))))/\L6 S (p+n) x':=by
    intro q a k h1 h2 h3 h4;rw [Zx,chunk hS h2,show up o++up (Mc S (168*q+a) k)=up (o++Mc S (168*q+a) k) by simp [up],h1];have hl:(o++Mc S (p+o.length) k).length=o.length+k:=by simp [QAr]
    obtain ⟨x',e1,e2⟩:=ih (n - (o.length+k)) (by omega) m ⟨H8 S q,((a+k:Nat):Int)⟩ v (o++Mc S (p+o.length) k) (by rw [hl]) (by omega) (by omega) ⟨q,a+k,rfl,by omega,h2⟩
    refine ⟨x',?_,e2⟩;rw [e1,hl,List.append_assoc,<-Nat.add_assoc,SBN,show k+(n - (o.length+k))=n - o.length by omega]
   obtain ⟨q,a,rfl,ha,ha2⟩:=hx
   have hz:=ZO hS q;have hz2:=ZO hS (q+1);have big:∀ (T:AA) (i j:Nat),T.size=200->decide (((up o).length+(bytesOf (T.extract i j)).length)*1<=140737488355328)=true/\decide ((T.extract i j).size<=9223372036854775807)=true:=fun T i j hT=>by grind [ByteArray.size_extract,Zx,Dq,Zw]
   dsimp only;by_cases C3:a=168
   ·subst C3;rw [AL (by rfl),UBs hz,AP,show ZP (H8 S q)=H8 S (q+1) from rfl,en,show AV ((168:Int) - (0:Int))=168 by decide];by_cases hk:n - o.length<168
    ·have e0:AV (0+((n - o.length:Nat):Int))=((0+(n - o.length):Nat):Int):=by grind [wn]
     obtain ⟨b1,b2⟩:=big (H8 S (q+1)) 0 (0+(n - o.length)) hz2
     rw [AL (by grind),e0,show (0:Int).toNat=0 from rfl,BR,AL (by grind),b2,Ar,b1,Ar];exact go (q+1) 0 (n - o.length) (by omega) (by omega) (by omega) (Nat.le_refl _)
    ·obtain ⟨b1,b2⟩:=big (H8 S (q+1)) 0 (0+168) hz2
     rw [BF (by grind),show AV (0+168)=((0+168:Nat):Int) by decide,show (0:Int).toNat=0 from rfl,BR,AL (by rw [Bool.and_eq_true,Bool.and_eq_true,decide_eq_true_eq,decide_eq_true_eq,decide_eq_true_eq];omega),b2,Ar,b1,Ar];exact go (q+1) 0 168 (by omega) (by omega) (by omega) (by omega)
   ·have ea:AV (168 - (a:Int))=((168 - a:Nat):Int):=by grind [wn]
    rw [BF (by grind),en,ea,BR];by_cases hk:n - o.length<168 - a
    ·have e0:AV ((a:Int)+((n - o.length:Nat):Int))=((a+(n - o.length):Nat):Int):=wn (n:=a+(n - o.length)) (by omega);obtain ⟨b1,b2⟩:=big (H8 S q) a (a+(n - o.length)) hz
     rw [AL (by simp_all),e0,BR,AL (by grind),b2,Ar,b1,Ar];grind
    ·have e0:AV ((a:Int)+((168 - a:Nat):Int))=((a+(168 - a):Nat):Int):=wn (n:=a+(168 - a)) (by omega);obtain ⟨b1,b2⟩:=big (H8 S q) a (a+(168 - a)) hz
     rw [BF (by simp_all),e0,BR,AL (by grind),b2,Ar,b1,Ar];grind
  grind [Dq,Mc]
 obtain ⟨q,a,rfl,ha,ha2⟩:=h
 have h1:=ZO hS q;have hi1:Ark ((n:Nat):Int) 0 4000=true:=Aqo.2 (by omega);have hi2:Ark ((a:Nat):Int) 0 168=true:=Aqo.2 (by omega);rw [Zy,VAy,mk,Hf,AP,hi1,DN,Aq,BF (by simp_all),Hf,AP,hi2,DN,Aq];obtain ⟨x',e1,e2⟩:=key n AY ⟨H8 S q,(a:Int)⟩ ⟨⟨#[]⟩,0⟩ [] (by rfl) (FM (by omega)) (DJ _) ⟨q,a,rfl,ha,ha2⟩
 exact ⟨x',e1,e2⟩
theorem MAs {seed:AA} {i j:Nat} (h:seed.size<=1000) (hi:i<256) (hj:j<256):Vl seed (i:Int) (j:Int)=some (up (Av5 seed i j)):=by
 have h1:Arq (i:Int)=some (Ih i):=OQ (by omega) (by omega);have h2:Arq (j:Int)=some (Ih j):=OQ (by omega) (by omega);have hz:∀ n,(Ih n).size=1:=fun n=>by rfl
 have hz1:=hz i;have hz2:=hz j;have hsz:((seed++Ih i)++Ih j).size=seed.size+2:=by simp_all
 rw [Vl,XAy,mk,h1,AP,AL (by grind),h2,AP,AL (by grind),BBR (by omega),AP,Av5];generalize hS:sd ((seed++Ih i)++Ih j)=S;have hSz:S.size=200:=by grind [RAr]
 have pad:∀ (M:Nat) (o:List Nat),o.length<=256->UW (M+257) (.c1 (up o))=some (up (Ik o)):=by
  intro M o ho;obtain ⟨n,hn⟩:∃ n,n=256 - o.length:=⟨_,rfl⟩
  have s:=Qd (Lp:=UW) (st:=fun _ l=>.c1 (up l)) (f:=fun _ l=>l++[0]) (P:=fun i l=>l.length=o.length+i) (n:=n) 1 (fun m i l hi hl=>by
   refine ⟨?_,by grind⟩;have h1:(up l).length<256:=by grind [Dq]
   show (bif decide (((up l).length:Int)<256) then (bif decide (((up l).length+1)*8<=140737488355328) then UW m (.c1 (up l++[(0:Int)])) else none) else some (up l))=_;grind [AwV])
  have hp:Ik o=o++List.replicate n 0:=by rw [Ik,hn]
  have hpl:(up (Ik o)).length=256:=by simp_all [Dq]
  rw [show M+257=(M+o.length+1)+n*1 by omega];refine (s n 0 (M+o.length+1) o (by omega) rfl).1.trans ?_;rw [jG (fun _=>0),List.map_const',List.length_range',<-hp];show (bif decide (((up (Ik o)).length:Int)<256) then (bif decide (((up (Ik o)).length+1)*8<=140737488355328) then UW (M+o.length) (.c1 (up (Ik o)++[(0:Int)])) else none) else some (up (Ik o)))=_;simp_all
 have key:∀ (r k:Nat) (m:Nat) (x:F6) (buf:AA) (o:List Nat),k+r=4000->UQ o->(if k % 56=0 then L6 S (3*k) x else buf=ofBytes (up (Mc S (3*(k - k % 56)) 168))/\L6 S (3*(k - k % 56)+168) x)->UW (m+r+1+257) (.c0 buf (k:Int) x (up o))=some (up (Ik (XV S r k o))):=by
  intro r;induction r with
  | zero=>
   intro k m x buf o hk ho hx;rw [show m+0+1+257=(m+257)+1 by omega,UW];delta TAk mk;dsimp only;rw [BF (by simp_all)];exact pad m o ho.1
  | succ r ih=>
   intro k m x buf o hk ho hx;have w1:AV ((k:Int)+1)=((k+1:Nat):Int):=wn (n:=k+1) (by omega);have em:(k:Int).tmod 56=((k % 56:Nat):Int):=rfl;have e3:AV (((k % 56:Nat):Int)*3)=((k % 56*3:Nat):Int):=wn (n:=k % 56*3) (by omega);have e4:AV (((k % 56*3:Nat):Int)+1)=((k % 56*3+1:Nat):Int):=wn (n:=k % 56*3+1) (by omega);have e5:AV (((k % 56*3:Nat):Int)+2)=((k % 56*3+2:Nat):Int):=wn (n:=k % 56*3+2) (by omega);have l0:=Zb S (3*k);have l1:=Zb S (3*k+1);have l2:=Zb S (3*k+2);rw [show m+(r+1)+1+257=(m+r+1+257)+1 by omega,UW,XV];delta TAk mk;dsimp only;simp only [w1,em,e3,e4,e5];rw [AL (by grind)];by_cases hlt:o.length<256
   ·rw [AL (by grind [Dq])];by_cases EA:k % 56=0
    ·rw [if_pos EA] at hx;obtain ⟨x',e,hx'⟩:=CBR (n:=168) hSz hx (by omega)
     have e:Zy x 168=_:=e;have nx:(if (k+1) % 56=0 then L6 S (3*(k+1)) x' else ofBytes (up (Mc S (3*k) 168))=ofBytes (up (Mc S (3*(k+1 - (k+1) % 56)) 168))/\L6 S (3*(k+1 - (k+1) % 56)+168) x'):=by grind
     rw [AL (by simp_all),e,AP];dsimp only;have hs3:(ofBytes (up (Mc S (3*k) 168))).size=168:=by rfl
     have t0:bt (ofBytes (up (Mc S (3*k) 168))) ((k % 56*3:Nat):Int)=((strm S (3*k):Nat):Int):=by rw [P9,VZ S (by omega),show 3*k+k % 56*3=3*k by omega]
     have t1:bt (ofBytes (up (Mc S (3*k) 168))) ((k % 56*3+1:Nat):Int)=((strm S (3*k+1):Nat):Int):=by rw [P9,VZ S (by omega),show 3*k+(k % 56*3+1)=3*k+1 by omega]
     have t2:bt (ofBytes (up (Mc S (3*k) 168))) ((k % 56*3+2:Nat):Int)=((strm S (3*k+2):Nat):Int):=by rw [P9,VZ S (by omega),show 3*k+(k % 56*3+2)=3*k+2 by omega]
     have va:AV (((strm S (3*k):Nat):Int)+AV (256*((strm S (3*k+1):Nat):Int).tmod 16))=((Aru S k:Nat):Int):=by grind [A8,Aru]
     have vb:AV (AV (((strm S (3*k+1):Nat):Int).tdiv 16)+AV (16*((strm S (3*k+2):Nat):Int)))=((Ju S k:Nat):Int):=by grind [A8,Ju]
     rw [t0,t1,t2,wn (n:=strm S (3*k)) (by omega),wn (n:=strm S (3*k+1)) (by omega),wn (n:=strm S (3*k+2)) (by omega),va,vb,AL (by grind),AL (by grind),AL (by grind),AL (by grind),if_pos hlt];by_cases ha:Aru S k<3329
     ·have h1:QA (Aru S k) o=o++[Aru S k]:=if_pos ⟨ha,hlt⟩;have hl1:(o++[Aru S k]).length=o.length+1:=by simp
      rw [AL (by grind),AL (by grind [Dq]),AwV];by_cases hb:Ju S k<3329
      ·rw [AL (by grind)];by_cases hl:(o++[Aru S k]).length<256
       ·have h2:Nj S k o=(o++[Aru S k])++[Ju S k]:=by rw [Nj,h1];exact if_pos ⟨hb,hl⟩
        rw [AL (by grind [Dq]),AL (by grind [Dq]),AwV,<-h2];exact ih (k+1) m x' _ _ (by omega) (Tc ho) nx
       ·have h2:Nj S k o=o++[Aru S k]:=by rw [Nj,h1];exact if_neg (fun h=>hl h.2)
        rw [BF (by grind [Dq]),<-h2];exact ih (k+1) m x' _ _ (by omega) (Tc ho) nx
      ·have h2:Nj S k o=o++[Aru S k]:=by rw [Nj,h1];exact if_neg (fun h=>hb h.1)
       rw [BF (by grind),<-h2];exact ih (k+1) m x' _ _ (by omega) (Tc ho) nx
     ·have h1:QA (Aru S k) o=o:=if_neg (fun h=>ha h.1);rw [BF (by grind)];by_cases hb:Ju S k<3329
      ·have h2:Nj S k o=o++[Ju S k]:=by rw [Nj,h1];exact if_pos ⟨hb,hlt⟩
       rw [AL (by grind),AL (by grind [Dq]),AL (by grind [Dq]),AwV,<-h2];exact ih (k+1) m x' _ _ (by omega) (Tc ho) nx
      ·have h2:Nj S k o=o:=by rw [Nj,h1];exact if_neg (fun h=>hb h.1)
       rw [BF (by grind)];rw [h2];exact ih (k+1) m x' _ _ (by omega) ho nx
    ·rw [if_neg EA] at hx;obtain ⟨rfl,hx⟩:=hx
     have nx:(if (k+1) % 56=0 then L6 S (3*(k+1)) x else ofBytes (up (Mc S (3*(k - k % 56)) 168))=ofBytes (up (Mc S (3*(k+1 - (k+1) % 56)) 168))/\L6 S (3*(k+1 - (k+1) % 56)+168) x):=by grind
     rw [BF (by grind)];have hs3:(ofBytes (up (Mc S (3*(k - k % 56)) 168))).size=168:=by rfl
     have t0:bt (ofBytes (up (Mc S (3*(k - k % 56)) 168))) ((k % 56*3:Nat):Int)=((strm S (3*k):Nat):Int):=by rw [P9,VZ S (by omega),show 3*(k - k % 56)+k % 56*3=3*k by omega]
     have t1:bt (ofBytes (up (Mc S (3*(k - k % 56)) 168))) ((k % 56*3+1:Nat):Int)=((strm S (3*k+1):Nat):Int):=by rw [P9,VZ S (by omega),show 3*(k - k % 56)+(k % 56*3+1)=3*k+1 by omega]
     have t2:bt (ofBytes (up (Mc S (3*(k - k % 56)) 168))) ((k % 56*3+2:Nat):Int)=((strm S (3*k+2):Nat):Int):=by rw [P9,VZ S (by omega),show 3*(k - k % 56)+(k % 56*3+2)=3*k+2 by omega]
     have va:AV (((strm S (3*k):Nat):Int)+AV (256*((strm S (3*k+1):Nat):Int).tmod 16))=((Aru S k:Nat):Int):=by grind [A8,Aru]
     have vb:AV (AV (((strm S (3*k+1):Nat):Int).tdiv 16)+AV (16*((strm S (3*k+2):Nat):Int)))=((Ju S k:Nat):Int):=by grind [A8,Ju]
     rw [t0,t1,t2,wn (n:=strm S (3*k)) (by omega),wn (n:=strm S (3*k+1)) (by omega),wn (n:=strm S (3*k+2)) (by omega),va,vb,AL (by grind),AL (by grind),AL (by grind),AL (by grind),if_pos hlt];by_cases ha:Aru S k<3329
     ·have h1:QA (Aru S k) o=o++[Aru S k]:=if_pos ⟨ha,hlt⟩;have hl1:(o++[Aru S k]).length=o.length+1:=by simp
      rw [AL (by grind),AL (by grind [Dq]),AwV];by_cases hb:Ju S k<3329
      ·rw [AL (by grind)];by_cases hl:(o++[Aru S k]).length<256
       ·have h2:Nj S k o=(o++[Aru S k])++[Ju S k]:=by rw [Nj,h1];exact if_pos ⟨hb,hl⟩
        rw [AL (by grind [Dq]),AL (by grind [Dq]),AwV,<-h2];exact ih (k+1) m x _ _ (by omega) (Tc ho) nx
       ·have h2:Nj S k o=o++[Aru S k]:=by rw [Nj,h1];exact if_neg (fun h=>hl h.2)
        rw [BF (by grind [Dq]),<-h2];exact ih (k+1) m x _ _ (by omega) (Tc ho) nx
      ·have h2:Nj S k o=o++[Aru S k]:=by rw [Nj,h1];exact if_neg (fun h=>hb h.1)
       rw [BF (by grind),<-h2];exact ih (k+1) m x _ _ (by omega) (Tc ho) nx
     ·have h1:QA (Aru S k) o=o:=if_neg (fun h=>ha h.1);rw [BF (by grind)];by_cases hb:Ju S k<3329
      ·have h2:Nj S k o=o++[Ju S k]:=by rw [Nj,h1];exact if_pos ⟨hb,hlt⟩
       rw [AL (by grind),AL (by grind [Dq]),AL (by grind [Dq]),AwV,<-h2];exact ih (k+1) m x _ _ (by omega) (Tc ho) nx
      ·have h2:Nj S k o=o:=by rw [Nj,h1];exact if_neg (fun h=>hb h.1)
       rw [BF (by grind)];rw [h2];exact ih (k+1) m x _ _ (by omega) ho nx
   ·rw [BF (by grind [Dq]),if_neg hlt];have hp:=pad (m+r+1) o ho.1;exact hp
 obtain ⟨m,hm⟩:∃ m,AY=m+4000+1+257:=⟨AY - 4258,by rfl⟩
 rw [hm];refine key 4000 0 m ⟨S,0⟩ ⟨#[]⟩ [] (by omega) ⟨DJ _,fun _ h=>by cases h⟩ ?_;grind [SAr]
theorem VBs {rho:AA} (h:rho.size<=1000):um rho=some [up (Av5 rho 0 0),up (Av5 rho 1 0),up (Av5 rho 0 1),up (Av5 rho 1 1)]:=by
 have HP:Vl rho 0 0=some (up (Av5 rho 0 0)):=MAs (i:=0) (j:=0) h (by decide) (by decide);have u10:Vl rho 1 0=some (up (Av5 rho 1 0)):=MAs (i:=1) (j:=0) h (by decide) (by decide);have Hc:Vl rho 0 1=some (up (Av5 rho 0 1)):=MAs (i:=0) (j:=1) h (by decide) (by decide);have u11:Vl rho 1 1=some (up (Av5 rho 1 1)):=MAs (i:=1) (j:=1) h (by decide) (by decide);have w0:AV (0+1)=1:=by decide
 have w1:AV (1+1)=2:=by decide
 obtain ⟨m,hm⟩:∃ m,AY=m+9:=⟨AY - 9,rfl⟩
 simp_all [um,YAy,UAk,ZAy,mk]
theorem WBs {s:AA} {n:Nat} (h:s.size<=2000) (hn:n<=4000):jM s (n:Int)=some (ofBytes (up (Mc (sd s) 0 n)),true):=by
 obtain ⟨x',e,_⟩:=CBR (n:=n) (RAr s) (SAr s) hn
 rw [jM,ALP,mk,Hf,AP,Aqo.2 (by omega),DN,Aq,BBR h,AP,e];rfl
theorem NAs {seed:AA} {n:Nat} (h:seed.size<=1000) (hn:n<256):Vm seed (n:Int)=some (up (Jt seed n)):=by
 have h1:Arq (n:Int)=some (Ih n):=OQ (by omega) (by omega);have hz:(Ih n).size=1:=by rfl
 have h2:=WBs (s:=seed++Ih n) (n:=128) (by grind) (by omega);have hs:(ofBytes (up (Mc (sd (seed++Ih n)) 0 128))).size=128:=by rfl
 have h2:jM (seed++Ih n) 128=_:=h2;rw [Vm,BAz,mk,h1,AP,AL (by grind),h2,AP];dsimp only;rw [Jt];generalize ofBytes (up (Mc (sd (seed++Ih n)) 0 128))=s at hs
 have sl:=Qd (Lp:=jO) (st:=fun i o=>.c0 s (i:Int) (up o)) (f:=fun i o=>o++[XR (Aqj s (i / 2) / 2 ^ (4*(i % 2)))]) (P:=fun i o=>o.length=i) (n:=256) 1 (fun m i o hi ho=>by
  refine ⟨?_,by simp_all⟩;have hb:=VY s (i / 2);have w1:AV ((i:Int)+1)=((i+1:Nat):Int):=wn (n:=i+1) (by omega);have e1:AV ((i:Int).tdiv 2)=((i / 2:Nat):Int):=wn (n:=i / 2) (by omega);have e2:(i:Int).tmod 2=((i % 2:Nat):Int):=rfl;have e3:AV ((Aqj s (i / 2):Nat):Int)=((Aqj s (i / 2):Nat):Int):=wn (by omega);have val:∀ b:Nat,b<256->(AV ((AV ((AV ((AV (((b:Nat):Int).tmod 2+(AV (((b:Nat):Int).tdiv 2)).tmod 2)) - (AV (((b:Nat):Int).tdiv 4)).tmod 2)) - (AV (((b:Nat):Int).tdiv 8)).tmod 2))+3329)).tmod 3329=((XR b:Nat):Int):=by
   intro b hb;have a1:((b:Nat):Int).tmod 2=((b % 2:Nat):Int):=rfl;have a2:(AV (((b:Nat):Int).tdiv 2)).tmod 2=((b / 2 % 2:Nat):Int):=by rw [show ((b:Nat):Int).tdiv 2=((b / 2:Nat):Int) from rfl,wn (by omega)];rfl
   have a3:(AV (((b:Nat):Int).tdiv 4)).tmod 2=((b / 4 % 2:Nat):Int):=by rw [show ((b:Nat):Int).tdiv 4=((b / 4:Nat):Int) from rfl,wn (by omega)];rfl
   have a4:(AV (((b:Nat):Int).tdiv 8)).tmod 2=((b / 8 % 2:Nat):Int):=by rw [show ((b:Nat):Int).tdiv 8=((b / 8:Nat):Int) from rfl,wn (by omega)];rfl
   rw [a1,a2,a3,a4,A8 (n:=((b % 2:Nat):Int)+((b / 2 % 2:Nat):Int)) (by omega) (by omega),A8 (n:=((b % 2:Nat):Int)+((b / 2 % 2:Nat):Int) - ((b / 4 % 2:Nat):Int)) (by omega) (by omega),A8 (n:=((b % 2:Nat):Int)+((b / 2 % 2:Nat):Int) - ((b / 4 % 2:Nat):Int) - ((b / 8 % 2:Nat):Int)) (by omega) (by omega),A8 (by omega) (by omega),Int.tmod_eq_emod_of_nonneg (by omega),XR];omega
  rw [jO];simp only [CAz,mk,w1,e1,e2,P9,e3];rw [AL (by grind),GX (by omega)];by_cases h2:i % 2=1;·have e4:AV (((Aqj s (i / 2):Nat):Int).tdiv 16)=((Aqj s (i / 2) / 16:Nat):Int):=wn (n:=Aqj s (i / 2) / 16) (by omega);rw [AL (by simp_all),Ep (by rw [Dq];omega),e4,val _ (by omega),AwV,h2]
  ·have h0:i % 2=0:=by omega
   rw [BF (by simp_all),Ep (by rw [Dq];omega),val _ hb,AwV,h0,Nat.mul_zero,Nat.pow_zero,Nat.div_one])
 obtain ⟨m,hm⟩:∃ m,AY=m+1+256*1:=⟨AY - 257,by rfl⟩
 rw [hm];refine (sl 256 0 (m+1) [] (by omega) rfl).1.trans ?_;rw [uU,jO];rfl
theorem jP {l:List Nat} (h:Qb l):UY (up l)=some true:=by
 have hl:=h.1
 have s:=Qd (Lp:=jX) (st:=fun i (_:Unit)=>.c0 (up l) (i:Int)) (f:=fun _ a=>a) (P:=fun _ _=>True) (n:=256) 1 (fun m i _ hi _=>by
  refine ⟨?_,trivial⟩;have w1:AV ((i:Int)+1)=((i+1:Nat):Int):=wn (n:=i+1) (by omega);have hq:=h.get i;grind [jX,VAk,BR,GN,Dq,Hf,Aqo])
 obtain ⟨m,hm⟩:∃ m,AY=m+1+256*1:=⟨AY - 257,by rfl⟩
 rw [UY,DAz,mk,BF (by simp_all [Dq]),hm];refine (s 256 0 (m+1) () (by omega) trivial).1.trans ?_;simp_all [jX,VAk,mk,Dq]
theorem DBR {n:Nat} (h:n<128):Zz (n:Int)=some ((t7 n:Nat):Int):=by
 have s:=Qd (Lp:=uo) (st:=fun i (o:Nat)=>.c0 ((n / 2 ^ i:Nat):Int) (o:Int) (i:Int)) (f:=fun i o=>2*o+n / 2 ^ i % 2) (P:=fun i o=>o<2 ^ i) (n:=7) 1 (fun m i o hi ho=>by
  have hp:2 ^ (i+1)<=2 ^ 7:=Nat.pow_le_pow_right (by decide) hi;have hlt:2*o+n / 2 ^ i % 2<2 ^ (i+1):=by omega
  refine ⟨?_,hlt⟩;have hd:n / 2 ^ i<=n:=Nat.div_le_self _ _;have w1:AV ((i:Int)+1)=((i+1:Nat):Int):=wn (n:=i+1) (by omega);have e1:AV (((n / 2 ^ i:Nat):Int).tdiv 2)=((n / 2 ^ (i+1):Nat):Int):=by rw [show ((n / 2 ^ i:Nat):Int).tdiv 2=((n / 2 ^ i / 2:Nat):Int) from rfl,Nat.div_div_eq_div_mul,<-Nat.pow_succ];exact wn (Nat.lt_of_le_of_lt (Nat.div_le_self _ _) (by omega))
  have e2:((n / 2 ^ i:Nat):Int).tmod 2=((n / 2 ^ i % 2:Nat):Int):=rfl;have F1:(2:Nat) ^ 7=128:=rfl;have e3:AV (2*(o:Int))=((2*o:Nat):Int):=wn (n:=2*o) (by omega);have e4:AV (((2*o:Nat):Int)+((n / 2 ^ i % 2:Nat):Int))=((2*o+n / 2 ^ i % 2:Nat):Int):=wn (n:=2*o+n / 2 ^ i % 2) (by omega);grind [uo,FAz])
 obtain ⟨m,hm⟩:∃ m,AY=m+1+7*1:=⟨AY - 8,rfl⟩
 have e0:(n:Int).tmod 128=((n / 2 ^ 0:Nat):Int):=by grind
 rw [Zz,EAz,mk,e0,BF (by rfl),hm];refine (s 7 0 (m+1) 0 (by omega) (by decide)).1.trans ?_;rfl
theorem EBR {e:Nat} (he:e<1024):Z4 17 (e:Int)=some ((XT e:Nat):Int):=by
 have key:∀ (k b e o m:Nat),e<2 ^ k->b<3329->o<3329->e<1024->uq (m+k+1) (.c0 (b:Int) (e:Int) (o:Int))=some ((XU k b e o:Nat):Int):=by
  intro k;induction k with
  | zero=>
   intro b e o m h _ _ _;obtain rfl:e=0:=by omega
   rfl
  | succ k ih=>
   intro b e o m h hb ho he;rw [AwB m k,uq,XU];simp only [HAz,mk];by_cases h0:e=0;·simp_all
   ·have e1:AV ((e:Int).tdiv 2)=((e / 2:Nat):Int):=wn (n:=e / 2) (by omega);have e2:(e:Int).tmod 2=((e % 2:Nat):Int):=rfl;rw [AL (by grind),e1,e2,ZV hb hb,ZV ho hb,if_neg h0];have hk:e / 2<2 ^ k:=by omega
    by_cases h1:e % 2=1;·rw [if_pos h1,h1,AL (by rfl)];exact ih _ _ _ _ hk (Nat.mod_lt _ (by decide)) (Nat.mod_lt _ (by decide)) (by omega)
    ·rw [if_neg h1,BF (by simp_all)];exact ih _ _ _ _ hk (Nat.mod_lt _ (by decide)) ho (by omega)
 obtain ⟨m,hm⟩:∃ m,AY=m+10+1:=⟨AY - 11,rfl⟩
 rw [Z4,GAz,mk,Hf,AP,Aqo.2 (by omega),DN,Aq,BF (by decide),hm];exact key 10 17 e 1 m he (by decide) (by decide) he
theorem XBs {p:List Nat} (h:Qb p):Xn (up p)=some (up (gK p)):=by
 have inner:∀ (k size start z:Nat) (m:Nat) (o:List Nat),0<size->start+2*size<=256->z<3329->Qb o->PI (m+size*1) (.c2 (k:Int) (size:Int) (start:Int) (z:Int) (start:Int) (up o))=PI m (.c2 (k:Int) (size:Int) (start:Int) (z:Int) ((start+size:Nat):Int) (up (Ib (fun j o=>gQ z size (start+j) o) size 0 o))):=fun k size start z m o hs hst hz ho=>(Qd (Lp:=PI) (st:=fun j o=>.c2 (k:Int) (size:Int) (start:Int) (z:Int) ((start+j:Nat):Int) (up o)) (f:=fun j o=>gQ z size (start+j) o) (P:=fun _ o=>Qb o) (n:=size) 1 (fun m j o hj ho=>by
  refine ⟨?_,NBB ho _ _ _⟩;have hl:=ho.1;have h1:=ho.get (start+j);have h2:=ho.get (start+j+size);have e1:AV (((start+j:Nat):Int)+1)=((start+(j+1):Nat):Int):=wn (n:=start+(j+1)) (by omega);have e2:AV (((start+j:Nat):Int)+(size:Int))=((start+j+size:Nat):Int):=wn (n:=start+j+size) (by omega);have e3:AV ((start:Int)+(size:Int))=((start+size:Nat):Int):=wn (n:=start+size) (by omega);rw [PI];simp only [Z5,mk,e1,e2,e3,BR,GN];rw [ZV hz h2];have ht:z*o.getD (start+j+size) 0 % 3329<3329:=Nat.mod_lt _ (by decide);have e4:(AV (AV (((o.getD (start+j) 0:Nat):Int) - ((z*o.getD (start+j+size) 0 % 3329:Nat):Int))+3329)).tmod 3329=(((o.getD (start+j) 0+3329 - z*o.getD (start+j+size) 0 % 3329) % 3329:Nat):Int):=by grind [A8]
  rw [e4,AsH,GN,getD_set_ne (show start+j≠start+j+size by omega)];have e5:(AV (((o.getD (start+j) 0:Nat):Int)+((z*o.getD (start+j+size) 0 % 3329:Nat):Int))).tmod 3329=(((o.getD (start+j) 0+z*o.getD (start+j+size) 0 % 3329) % 3329:Nat):Int):=by grind [A8]
  rw [e5,AsH,AL (by simp_all),AL (Awg (by omega)),AL (Awg (by omega)),AL (Awg (by omega)),AL (Awg (by grind)),AL (Awg (by grind))];rfl) size 0 m o (by omega) ho).1
 have level:∀ (k0 size c:Nat) (m:Nat) (o:List Nat),1<size->size*c=128->k0=c->Qb o->PI (m+1+c*(size+2)+1) (.c0 (k0:Int) (size:Int) (up o))=PI m (.c0 ((k0+c:Nat):Int) ((size / 2:Nat):Int) (up (TY k0 size c o))):=by
  intro k0 size c m o hs hc hk ho;have hsc:size<=128/\c<=64:=by refine ⟨Nat.le_of_dvd (by decide) ⟨c,hc.symm⟩,?_⟩;have h2:2*c<=size*c:=Nat.mul_le_mul_right c hs;omega
  have s:=Qd (Lp:=PI) (st:=fun i o=>.c1 ((k0+i:Nat):Int) (size:Int) ((2*size*i:Nat):Int) (up o)) (f:=VAr k0 size) (P:=fun _ o=>Qb o) (n:=c) (size+2) (fun m i o hi ho=>by
   refine ⟨?_,OBB ho _ _ _⟩;have hb:size*(i+1)<=size*c:=Nat.mul_le_mul_left size hi;have hb2:2*size*i=2*(size*i):=Nat.mul_assoc 2 size i;have hb3:2*size*(i+1)=2*size*i+2*size:=Nat.mul_succ _ _;rw [Nat.mul_succ] at hb;have e1:AV (((k0+i:Nat):Int)+1)=((k0+(i+1):Nat):Int):=wn (n:=k0+(i+1)) (by omega);have e2:AV (2*(size:Int))=((2*size:Nat):Int):=wn (n:=2*size) (by omega);have e3:AV (((2*size*i:Nat):Int)+((2*size:Nat):Int))=((2*size*(i+1):Nat):Int):=by grind [wn]
   have e4:AV (((2*size*i:Nat):Int)+(size:Int))=((2*size*i+size:Nat):Int):=wn (n:=2*size*i+size) (by omega);have h7:=UAr (k0+i);rw [show m+(size+2)=m+1+size*1+1 by omega,PI];simp only [Z5,mk,e1];rw [AL (by grind),DBR (n:=k0+i) (by omega),AP,EBR (e:=t7 (k0+i)) (by omega),AP];refine (inner (k0+(i+1)) size (2*size*i) _ (m+1) o (by omega) (by omega) (TAr _) ho).trans ?_;rw [PI];simp only [Z5,mk,e2,e3,e4];rw [BF (by simp)];rfl)
  rw [PI];simp only [Z5,mk];rw [AL (by grind)];refine (s c 0 (m+1) o (by omega) ho).1.trans ?_;have hb2:2*size*c=256:=by grind
  have e5:AV ((size:Int).tdiv 2)=((size / 2:Nat):Int):=wn (n:=size / 2) (by omega);rw [PI];simp only [Z5,mk,e5];rw [BF (by simp_all)];rfl
 have hl:=h.1;obtain ⟨m,hm⟩:∃ m,AY=m+1+1+64*(2+2)+1+1+32*(4+2)+1+1+16*(8+2)+1+1+8*(16+2)+1+1+4*(32+2)+1+1+2*(64+2)+1+1+1*(128+2)+1:=⟨AY - 1165,by rfl⟩
 rw [Xn,IAz,mk,jP h,AP,DN,Aq,AL (by simp_all [Dq]),hm];try rw [List.nil_append]
 have o1:=Aro h 1 128 1;have o2:=Aro o1 2 64 2;have o3:=Aro o2 4 32 4;have o4:=Aro o3 8 16 8;have o5:=Aro o4 16 8 16;have o6:=Aro o5 32 4 32;refine (level 1 128 1 _ p (by omega) rfl rfl h).trans ?_;refine (level 2 64 2 _ _ (by omega) rfl rfl o1).trans ?_;refine (level 4 32 4 _ _ (by omega) rfl rfl o2).trans ?_;refine (level 8 16 8 _ _ (by omega) rfl rfl o3).trans ?_;refine (level 16 8 16 _ _ (by omega) rfl rfl o4).trans ?_;refine (level 32 4 32 _ _ (by omega) rfl rfl o5).trans ?_;refine (level 64 2 64 (m+1) _ (by omega) rfl rfl o6).trans ?_;rfl
theorem HBC {n:Nat} (h:n<=12):Xo (n:Int)=some ((2 ^ n:Nat):Int):=by
 have s:=Qd (Lp:=jw) (st:=fun i (o:Nat)=>.c0 (n:Int) (o:Int) (i:Int)) (f:=fun _ o=>2*o) (P:=fun i o=>o=2 ^ i) (n:=n) 1 (fun m i o hi ho=>by
  have hp:2 ^ (i+1)<=2 ^ 12:=Nat.pow_le_pow_right (by decide) (by omega);grind [wn,jw,XAk])
 obtain ⟨m,hm⟩:∃ m,AY=m+1+n*1:=⟨AY - (1+n),by have:=FM (n:=1+n) (by omega);omega⟩
 rw [Xo,JAz,hm];obtain ⟨a1,a2⟩:=s n 0 (m+1) 1 (by omega) rfl
 simp_all [jw,XAk,mk]
theorem YBs {l:List Nat} (h:Qb l):YAk (up l) 12=some (L8 l,true):=by
 have hl:=h.1;have t12:Xo 12=some 4096:=HBC (n:=12) (by omega);have t0:Xo 0=some 1:=HBC (n:=0) (by omega);have t4:Xo 4=some 16:=HBC (n:=4) (by omega)
 have s0:=Qd (Lp:=Ob) (st:=fun i (_:Unit)=>.c0 (up l) 12 (i:Int)) (f:=fun _ a=>a) (P:=fun _ _=>True) (n:=256) 1 (fun m i _ hi _=>by
  refine ⟨?_,trivial⟩;have w1:AV ((i:Int)+1)=((i+1:Nat):Int):=wn (n:=i+1) (by omega);have hq:=h.get i;rw [Ob];simp only [Qz,mk,w1,BR,GN];rw [AL (by grind [Dq]),AL (Awg (by omega)),t12,AP,Hf,AP,show AV (4096 - 1)=4095 by decide,Aqo.2 (by omega),DN,Aq])
 have s1:=Qd (Lp:=Ob) (st:=fun q o=>.c1 (up l) 12 0 0 ((2*q:Nat):Int) (up o)) (f:=fun q o=>o++[Iz l (3*q)]++[Iz l (3*q+1)]++[Iz l (3*q+2)]) (P:=fun q o=>o.length=3*q) (n:=128) 7 (fun m q o hq ho=>by
  refine ⟨?_,by grind⟩;have hx:=h.get (2*q);have hy:=h.get (2*q+1);have w1:AV (((2*q:Nat):Int)+1)=((2*q+1:Nat):Int):=wn (n:=2*q+1) (by omega);have w2:AV (((2*q+1:Nat):Int)+1)=((2*(q+1):Nat):Int):=wn (n:=2*(q+1)) (by omega);have p0:=DBO l q;have p1:=EBO l q;have p2:=FBO l q;rw [show m+7=m+1+1+1+1+1+1+1 from rfl,Ob];simp only [Qz,mk,BR,GN];rw [AL (by grind [Dq]),AL (Awg (by omega)),t0,AP];generalize l.getD (2*q) 0=x at hx p0 p1;have hl2:∀ k,(up (o++[k])).length=o.length+1:=fun k=>by simp [Dq]
  rw [show AV ((x:Int)*1)=(x:Int) by grind [wn],show AV (0+(x:Int))=(x:Int) by grind [wn],show AV (0+12)=12 by decide,Ob];simp only [Qz,mk];rw [AL (by rfl),AL (by grind [Dq]),show AV ((x:Int).tdiv 256)=((x / 256:Nat):Int) from wn (n:=x / 256) (by omega),show AV (12 - 8)=4 by decide,show w8 ((x:Int).tmod 256)=((Iz l (3*q):Nat):Int) by grind [Nq],AwV,Ob];simp only [Qz,mk,w1];rw [BF (by rfl),Ob];simp only [Qz,mk,BR,GN];rw [AL (by grind [Dq]),AL (Awg (by omega)),t4,AP];generalize l.getD (2*q+1) 0=y at hy p1 p2;have e16:AV ((y:Int)*16)=((y*16:Nat):Int):=wn (n:=y*16) (by omega);have eh:AV (((x / 256:Nat):Int)+((y*16:Nat):Int))=((x / 256+y*16:Nat):Int):=wn (n:=x / 256+y*16) (by omega);have d1:(x / 256+y*16) % 256=Iz l (3*q+1):=by omega
  have d2:(x / 256+y*16) / 256=Iz l (3*q+2):=by omega
  have hp2:Iz l (3*q+2)<256:=by omega
  rw [e16,eh,show AV (4+12)=16 by decide,Ob];simp only [Qz,mk];rw [AL (by rfl),AL (by grind),show AV (((x / 256+y*16:Nat):Int).tdiv 256)=((Iz l (3*q+2):Nat):Int) by rw [show ((x / 256+y*16:Nat):Int).tdiv 256=(((x / 256+y*16) / 256:Nat):Int) from rfl,d2];exact wn (by omega),show AV (16 - 8)=8 by decide,show w8 (((x / 256+y*16:Nat):Int).tmod 256)=((Iz l (3*q+1):Nat):Int) by grind [Nq],AwV,Ob];simp only [Qz,mk];rw [AL (by rfl),AL (by grind [Dq]),show AV (((Iz l (3*q+2):Nat):Int).tdiv 256)=0 by rw [show ((Iz l (3*q+2):Nat):Int).tdiv 256=((Iz l (3*q+2) / 256:Nat):Int) from rfl,Nat.div_eq_of_lt hp2];decide,show AV (8 - 8)=0 by decide,show w8 (((Iz l (3*q+2):Nat):Int).tmod 256)=((Iz l (3*q+2):Nat):Int) by grind [Nq],AwV,Ob];simp_all [Qz,mk])
 obtain ⟨m,hm⟩:∃ m,AY=(m+1+128*7)+1+256*1:=⟨AY - 1154,by rfl⟩
 rw [YAk,KAz,mk,Hf,AP,Aqo.2 (by omega),DN,Aq,hm];refine (s0 256 0 _ () (by omega) trivial).1.trans ?_;rw [Ob];simp only [Qz,mk];rw [BF (by simp_all [Dq])];refine (s1 128 0 (m+1) [] (by omega) rfl).1.trans ?_;rw [GBO (Iz l),show 3*128=384 from rfl,Nat.mul_zero,uU,Ob];simp only [Qz,mk];rw [BF (by simp_all [Dq]),BF (by rfl)];rfl
theorem FBR {l:List Nat} (h:Qb l):Z7 (up l)=some (L8 l):=by simp_all [Z7,LAz,mk,jP,YBs]
theorem GBR {a b:List Nat} (ha:Qb a) (hb:Qb b):uw (up a) (up b)=some (up (mulL a b)):=by
 have hal:=ha.1;have hbl:=hb.1
 have s:=Qd (Lp:=jy) (st:=fun i o=>.c0 (up a) (up b) (i:Int) (up o)) (f:=fun i o=>o++[Nz a b (2*i),Nz a b (2*i+1)]) (P:=fun i o=>o.length=2*i) (n:=128) 1 (fun m i o hi ho=>by
  refine ⟨?_,by grind⟩;have h7:=UAr i;have w1:AV ((i:Int)+1)=((i+1:Nat):Int):=wn (n:=i+1) (by omega);have e1:AV (2*(i:Int))=((2*i:Nat):Int):=wn (n:=2*i) (by omega);have e2:AV (((2*i:Nat):Int)+1)=((2*i+1:Nat):Int):=wn (n:=2*i+1) (by omega);have e3:AV (2*((t7 i:Nat):Int))=((2*t7 i:Nat):Int):=wn (n:=2*t7 i) (by omega);have e4:AV (((2*t7 i:Nat):Int)+1)=((2*t7 i+1:Nat):Int):=wn (n:=2*t7 i+1) (by omega);have g:=TAr (2*t7 i+1);have a0:=ha.get (2*i);have a1:=ha.get (2*i+1);have b0:=hb.get (2*i);have b1:=hb.get (2*i+1);have p00:=mul_lt a0 b0;have p11:=mul_lt a1 b1;have p01:=mul_lt a0 b1;have p10:=mul_lt a1 b0;have hm:a.getD (2*i+1) 0*b.getD (2*i+1) 0 % 3329<3329:=Nat.mod_lt _ (by decide);have pg:=mul_lt hm g;rw [jy];simp only [NAz,mk,w1,e1,e2,BR,GN];rw [AL (by grind),DBR (by omega),AP,e3,e4,EBR (by omega),AP,ZV a1 b1,XW hm g,XW a0 b0,XW a0 b1,XW a1 b0];have v1:(AV (((a.getD (2*i) 0*b.getD (2*i) 0:Nat):Int)+((a.getD (2*i+1) 0*b.getD (2*i+1) 0 % 3329*XT (2*t7 i+1):Nat):Int))).tmod 3329=((Nz a b (2*i):Nat):Int):=by grind [VBN,wn]
  have v2:(AV (((a.getD (2*i) 0*b.getD (2*i+1) 0:Nat):Int)+((a.getD (2*i+1) 0*b.getD (2*i) 0:Nat):Int))).tmod 3329=((Nz a b (2*i+1):Nat):Int):=by grind [WBN,wn]
  grind [up])
 obtain ⟨m,hm⟩:∃ m,AY=m+1+128*1:=⟨AY - 129,by rfl⟩
 rw [uw,MAz,mk,jP ha,AP,DN,Aq,jP hb,AP,DN,Aq,hm];refine (s 128 0 (m+1) [] (by omega) rfl).1.trans ?_;rw [YBN,show 2*128=256 from rfl,Nat.mul_zero,uU,jy];rfl
theorem IBC {a b:List Nat} (ha:Qb a) (hb:Qb b):Xp (up a) (up b)=some (up (Zd a b)):=by
 have hal:=ha.1;have hbl:=hb.1
 have s:=Qd (Lp:=kC) (st:=fun i o=>.c0 (up a) (up b) (i:Int) (up o)) (f:=fun i o=>o++[(a.getD i 0+b.getD i 0) % 3329]) (P:=fun i o=>o.length=i) (n:=256) 1 (fun m i o hi ho=>by
  refine ⟨?_,by simp_all⟩;have w1:AV ((i:Int)+1)=((i+1:Nat):Int):=wn (n:=i+1) (by omega);have a0:=ha.get i;have b0:=hb.get i;have v:(AV (((a.getD i 0:Nat):Int)+((b.getD i 0:Nat):Int))).tmod 3329=(((a.getD i 0+b.getD i 0) % 3329:Nat):Int):=by rw [<-Int.natCast_add,wn (by omega)];rfl
  rw [kC];simp only [PAz,mk,w1,BR,GN];rw [AL (by grind),jP ha,AP,Ar,jP hb,AP,Ar,v,AL (Awg (by omega)),AL (Awg (by omega)),AL (by grind [Dq]),AwV])
 obtain ⟨m,hm⟩:∃ m,AY=m+1+256*1:=⟨AY - 257,by rfl⟩
 rw [Xp,OAz,hm];refine (s 256 0 (m+1) [] (by omega) rfl).1.trans ?_;rw [uU (fun i=>(a.getD i 0+b.getD i 0) % 3329),kC];rfl
theorem ZBs {a0 a1 b0 b1:List Nat} (ha0:Qb a0) (ha1:Qb a1) (hb0:Qb b0) (hb1:Qb b1):UZ [up a0,up a1] [up b0,up b1]=some (up (YAr a0 a1 b0 b1)):=by
 obtain ⟨m,hm⟩:∃ m,AY=m+1+1+1:=⟨AY - 3,rfl⟩
 rw [UZ,QAz,mk,hm,show (256:Int).toNat=256 from rfl,<-Aqz,kD];simp only [ZAk,mk];rw [AL (by rfl),AL (by rfl),AL (by rfl),show ([up a0,up a1]:List (List Int)).getD (0:Int).toNat []=up a0 from rfl,show ([up b0,up b1]:List (List Int)).getD (0:Int).toNat []=up b0 from rfl,GBR ha0 hb0,AP,IBC ASH (WAr _ _),AP,show AV (0+1)=1 by decide,kD];simp only [ZAk,mk];rw [AL (by rfl),AL (by rfl),AL (by rfl),show ([up a0,up a1]:List (List Int)).getD (1:Int).toNat []=up a1 from rfl,show ([up b0,up b1]:List (List Int)).getD (1:Int).toNat []=up b1 from rfl,GBR ha1 hb1,AP,IBC (XAr _ _) (WAr _ _),AP,show AV (1+1)=2 by decide,kD];rfl
theorem HBR {seed:AA} (h:seed.size=32):uy seed=some (⟨ArQ seed,O7 seed⟩,true):=by
 have z0:(⟨#[]⟩:AA).size=0:=rfl;have z1:(⟨#[114]⟩:AA).size=1:=rfl;have z2:(⟨#[115]⟩:AA).size=1:=rfl;have z3:(⟨#[122]⟩:AA).size=1:=rfl;have hd:=Qh seed;have hrs:(I4 seed).size=32:=Qh _;have hss:(Apy seed).size=32:=Qh _;have hps:=IBO seed;have hr:JB (EK seed++⟨#[114]⟩)=some (I4 seed):=LV (by simp_all);have hs:JB (EK seed++⟨#[115]⟩)=some (Apy seed):=LV (by simp_all);have hzz:JB (EK seed++⟨#[122]⟩)=some (EK (EK seed++⟨#[122]⟩)):=LV (by simp_all);have hpp:JB (ArQ seed)=some (EK (ArQ seed)):=LV (by omega);have m0:Vm (Apy seed) 0=some (up (Jt (Apy seed) 0)):=NAs (n:=0) (by omega) (by decide);have m1:Vm (Apy seed) 1=some (up (Jt (Apy seed) 1)):=NAs (n:=1) (by omega) (by decide);have m2:Vm (Apy seed) 2=some (up (Jt (Apy seed) 2)):=NAs (n:=2) (by omega) (by decide);have m3:Vm (Apy seed) 3=some (up (Jt (Apy seed) 3)):=NAs (n:=3) (by omega) (by decide);have n0:∀ i,Xn (up (Jt (Apy seed) i))=some (up (pS seed i)):=fun i=>XBs (gY _ _)
 have b0:∀ i,Z7 (up (pS seed i))=some (L8 (pS seed i)):=fun i=>FBR (Xa _ _)
 have d0:∀ i,UZ [up (Av5 (I4 seed) 0 i),up (Av5 (I4 seed) 1 i)] [up (pS seed 0),up (pS seed 1)]=some (up (Zf seed i)):=fun i=>ZBs (ZAr _ _ _) (ZAr _ _ _) (Xa _ _) (Xa _ _)
 have a0:∀ i,Xp (up (Zf seed i)) (up (pS seed (2+i)))=some (up (pT seed i)):=fun i=>IBC (ZBN _ _ _ _) (Xa _ _)
 have t0:∀ i,Z7 (up (pT seed i))=some (L8 (pT seed i)):=fun i=>FBR (HBO _ _)
 have w0:AV (0+1)=1:=by decide
 have w1:AV (1+1)=2:=by decide
 have w2:AV (2+0)=2:=by decide
 have w3:AV (2+1)=3:=by decide
 obtain ⟨m,hm⟩:∃ m,AY=m+6:=⟨AY - 6,rfl⟩
 rw [uy,RAz,mk,BF (by simp_all),LV (by omega),AP,AL (by rfl),hr,AP,AL (by rfl),hs,AP,VBs (by omega),AP,hm];rw [Vo];simp only [Xq,mk];rw [AL (by rfl),m0,AP,n0,AP,AL (by rfl),b0,AP,AL (by rfl),w0];rw [Vo];simp only [Xq,mk];rw [AL (by rfl),m1,AP,n0,AP,AL (by rfl),b0,AP,AL (by simp_all [Qy]),w1];rw [Vo];simp only [Xq,mk];rw [BF (by rfl)];rw [Vo];simp only [Xq,mk];rw [AL (by rfl),AL (by rfl)];show (UZ [up (Av5 (I4 seed) 0 0),up (Av5 (I4 seed) 1 0)] [up (pS seed 0),up (pS seed 1)]).bind _=_;rw [d0,AP,w2,m2,AP,n0,AP,a0 0,AP,t0,AP,AL (by rfl),w0];rw [Vo];simp only [Xq,mk];rw [AL (by rfl),AL (by rfl)];show (UZ [up (Av5 (I4 seed) 0 1),up (Av5 (I4 seed) 1 1)] [up (pS seed 0),up (pS seed 1)]).bind _=_;rw [d0,AP,w3,m3,AP,n0,AP,a0 1,AP,t0,AP,AL (by simp_all [Qy]),w1];rw [Vo];simp only [Xq,mk];rw [BF (by rfl),AL (by simp_all [Qy])];rw [show ((⟨#[]⟩:AA)++L8 (pT seed 0)++L8 (pT seed 1))++I4 seed=ArQ seed from rfl,AL (by simp_all [Qy]),hpp,AP,AL (by simp_all [Qh,Qy]),AL (by rfl),hzz,AP,AL (by simp_all [Qh,Qy])];rfl
theorem IBR {s t:AA} (h:t.size≠768):kE s t=some (⟨#[]⟩,false):=by rw [kE,BA0,mk,ALk,ZAz,mk,YAz,WAz,mk,show ((t.size:Int) != 768)=true from bne_iff_ne.2 (by omega)];simp
theorem Abx (x:Af) (h f:Bool):AEA x h f=some (AqT x h f):=by rw [AEA,CA0,mk,tN,AP,AqT];cases Ar9 x <;> cases x.CY <;> cases x.CX <;> cases h <;> cases f <;> rfl
theorem BBt {s:AA} (hs:s.size<=1000):BAl s=some (Aq8 (s++⟨#[116]⟩)):=by have z:(⟨#[116]⟩:AA).size=1:=rfl;rw [BAl,DA0,mk,AL (by grind),UBQ (by grind)];rfl
theorem CBt (x:Af):CAl x=some (sK x):=by rw [CAl,EA0,mk,tN,AP,sK];grind [HBR,ZM,BBt]
theorem DBt {tk:AA->AA×Bool} {b:Ap} {c:CV} {x:Af} (h:PB b) (hc:c.fText.size<=1000) (hx:Aqg b.AU.AZ x.fId=some x) (htk:c.Au=12->∀ v:AA,v.size=32->kE (O7 v) c.fText=some (tk (O7 v))):DAl b c x=some (VW tk b c x):=by
 have hk:(Aqe b).size<=900000000:=by simp [Aqe,Qh]
 rw [DAl,FA0,mk,VW];simp only [GBs,sV,RBB h.key,SBB hk,Abx,CBt,AP];cases c.Au == 6
 ·cases c.Au == 5
  ·cases c.Au == 10
   ·cases h12:c.Au == 12
    ·cases c.Au == 8
     ·cases c.Au == 7;·cases c.Au == 9 <;> rfl
      ·rfl
     ·rw [Ar,Ar];cases (AqT x c.CY c.CX).2 <;> rfl
    ·rw [Ar,Ar];cases hm:JM x 4;·rfl
     ·obtain ⟨h1,h2⟩:=OBO hm
      have hv:=ZM h1 (.inl h2);rw [HBR hv,AP];dsimp only;rw [htk (beq_iff_eq.1 h12) _ hv,AP];simp only [Ar,Aq];cases (tk (O7 x.fValue)).2 <;> rfl
   ·rw [Ar,Ar];cases JM x 2 <;> rfl
  ·rw [Ar,Ar];cases hm:JM x 3;·rfl
   simp_all [OBs]
 ·rw [Ar,Ar];cases JM x 1 <;> rfl
theorem JBR {tk:AA->AA×Bool} {b:Ap} {c:CV} (h:PB b) (hc:OM c=true) (htk:c.Au=12->∀ v:AA,v.size=32->kE (O7 v) c.fText=some (tk (O7 v))):PK b c=some (AsA tk b c):=by
 have hs:=h.MX;have ht:=h.things;have ho:=h.opn;have hl:=h.last;have hz:=MBM hc;have h5:=(G7.1 h.ArF).2.2.1;have hd:=LBO (b.AU.BM+1);have h32:(⟨#[32]⟩:AA).size=1:=rfl;rw [PK,GA0,mk,AsA,AbP (by omega),A8 (n:=b.CW+1) (by omega) (by omega),EBC (n:=b.CW+1) (by omega),show decide ((b.BP.length:Int)>=3)=((b.BP.length:Int) == 3) by grind,show decide (b.CW>=1000)=(b.CW == 1000) by grind];cases c.Au == 1
 ·rw [Aq,Aq,AP];by_cases ha:Ar8 b c.EJ<0;·rw [Ba ha];rfl
  ·rw [D6 ha,Aq,Aq];have hlt:Ar8 b c.EJ<(b.BP.length:Int):=by
    rw [Ar8] at ha ⊢;cases hp:Jd b.BP c.EJ 0 with
    | none=>simp_all
    | some j=>have:=(DAr hp).2;simp_all
   cases c.Au == 13
   ·rw [Aq,Aq];cases c.Au == 2
    ·rw [Aq,Aq,GX (by omega)];cases (b.BP.getD (Ar8 b c.EJ).toNat ⟨0,false⟩).QW;·rfl
     ·rw [DN,Aq,Aq];cases c.Au == 3
      ·rw [Aq,Aq];cases c.Au == 4
       ·rw [Aq,Aq];cases c.Au == 11
        ·rw [Aq,Aq,kF (by omega),AP];cases hx:Aqg b.AU.AZ c.Ag with
         | none=>rfl
         | some x=>
          dsimp only;rw [DN,Aq,DBt h hz (by rw [(Aq0 hx).1];exact hx) htk];rfl
        simp_all [FBs]
       grind [CAs,AEF,A8,EBC,OBn,MBQ]
      ·rw [Ar,Ar,LV (by omega)];cases decide ((c.fText.size:Int) > 20) <;> rfl
    grind [CBs]
   ·rfl
 ·rw [Ar,Ar];cases (b.BP.length:Int) == 3 <;> cases b.CW == 1000 <;> rfl
theorem EBt {F:AA} {n:Int} {z:List Int} {v out:List BQ} {m:Nat}:uz (m+1) (.c0 z 1 (dk F n) v out)=some (⟨out⟩,true):=rfl
theorem KBR {d e c:BU} {T:AA} {z:List Int} (hT:T.size<=20000) (hd:d.Ak.length*40<=140737488351232) (ha:Gu d ⟨1,DF,T,⟨#[]⟩⟩=(e,true)) (h:vC e z=some (c,true)):vF d (Apx T) 1 z=some (c,true):=by
 have e1:Aqu d [⟨1,DF,T,⟨#[]⟩⟩] 0=(e,1):=by simp_all [Aqu]
 rw [vF,JA0,mk,Hf,AP,show Ark 1 0 ((Apx T).length:Int)=true from rfl,DN,Aq,AL (by rfl),show ((Apx T).take (1:Int).toNat).drop 0=[⟨1,DF,T,⟨#[]⟩⟩] from rfl,HA9 (l:=[⟨1,DF,T,⟨#[]⟩⟩]) hd (show (1:Nat)<=140737488351232 by omega) (fun a ha=>by grind),AP,e1];simp_all
theorem JBC {d:BU} {n:AA} (h0:d.Ak.length<=140737488351232):kG d n=some (Hl d n):=by
 rw [kG,KA0,mk,BA9 h0,AP,AqB,Hl];cases h:Avc d.Ak n 0 with
 | none=>rfl
 | some j=>
  have:=Z8 h;simp_all [BF]
theorem OAs (f:AA) {a b c:Nat} (h:a<=b) (h2:b<=c) (h3:c<=f.size):bs (f.extract a c)=bs (f.extract a b)++bs (f.extract b c):=by rw [Ap3,Ap3,Ap3,List.drop_take,List.drop_take,List.drop_take];rw [show (bs f).drop b=((bs f).drop a).drop (b - a) by simp_all];rw [show c - a=(b - a)+(c - b) by omega,List.take_add]
theorem FBt {f:AA} (hf:f.size<=140737488351232):vG f=some (PL f):=by
 rw [vG,LA0,mk,PL];by_cases h0:20000<f.size;·grind
 ·rw [BF (by grind),BF (by grind)];have key:∀ (j a m:Nat) (out:List AA),a<=f.size->f.size<a+j->out.length<=a->vH (m+j+1) (.c0 f (a:Int) out)=some (out++(Jf j f a).1,((Jf j f a).2:Int)):=by
   intro j;induction j with
   | zero=>omega
   | succ j ih=>
    intro a m out ha hj ho;rw [show m+(j+1)+1=(m+j+1)+1 by omega,vH];simp only [MA0,mk,Jf];by_cases he:a=f.size;·grind [kH]
    ·rw [AL (by grind),PBK hf ha,AP];rcases tJ hf ha with h | ⟨v,h,hv0,hv1,hA⟩
     ·rw [show N9 f a=none by rw [N9,h];rfl,h];rw [List.append_nil];rfl
     ·have hp:=ArT v;have hsz:=hA.size.resolve_left (by grind);have hn:=kH hf ha;have hex:bs (f.extract a (a+(SN v).length))=SN v:=by rw [hA.extract (Rz v hv0),Avo (Rz v hv0)]
      rw [h] at hn ⊢;generalize hq:a+(SN v).length=q at hsz hn hex;simp only [DN,Aq];rw [A8 (n:=(f.size:Int) - (q:Int)) (by omega) (by omega),A8 (n:=(f.size:Int) - (q:Int) - 4) (by omega) (by omega),A8 (n:=(q:Int)+4) (by omega) (by omega),A8 (n:=(q:Int)+4+v) (by omega) (by omega)];by_cases h3:v > (f.size:Int) - (q:Int) - 4;·grind
      ·have e2:((q:Int)+4).toNat=q+4:=by omega
       have e3:((q:Int)+4+v).toNat=q+4+v.toNat:=by omega
       have hxs:(f.extract (q+4) (q+4+v.toNat)).size=v.toNat:=by grind [ByteArray.size_extract]
       rw [BF (by simp_all),AL (by grind),e2,e3,BR,XA8 (by omega),AP,frameT,hxs];rcases hn with hn | ⟨v',q',he',_,_,h5,h6,h4,hA',hb,hn⟩
       ·rw [hn,List.append_nil];cases hr:Ark ((v.toNat:Nat):Int) 1 9000;·rfl
        ·rw [Ar,BF (by rfl),AL (by simp;omega)];rw [AL];rw [Bool.not_eq_true',Vd,Avo (vI (Jj _)),beq_eq_false_iff_ne];intro hc;rw [Ard,bs_len,hxs,show ((v.toNat:Nat):Int)=v by omega,OAs f (a:=a) (b:=q) (by omega) (by omega) (by omega),hex,OAs f (a:=q) (b:=q+4) (by omega) (by omega) (by omega)] at hc;have hc2:=(List.append_inj (List.append_cancel_left hc) (by simp_all)).1;grind [N9]
       ·simp only [Prod.mk.injEq,and_true] at he';obtain ⟨rfl,he'⟩:=he'
        have:q=q':=by omega
        subst this;have hr:Ark ((v.toNat:Nat):Int) 1 9000=true:=by grind [Aqo]
        rw [hn,hr,Ar,BF (by rfl),AL (by simp;omega)]
        rw [BF (by
         rw [Bool.not_eq_false',Vd,Avo (vI (Jj _)),beq_iff_eq];rw [Ard,bs_len,hxs,show ((v.toNat:Nat):Int)=v by omega,OAs f (a:=a) (b:=q) (by omega) (by omega) (by omega),hex,OAs f (a:=q) (b:=q+4) (by omega) (by omega) (by omega),hb])]
        grind
  obtain ⟨m,hm⟩:∃ m,AY=m+(f.size+1)+1:=⟨AY - (f.size+2),by have:=FM (n:=f.size+2) (by omega);omega⟩
  rw [hm,show (0:Int)=((0:Nat):Int) from rfl,key (f.size+1) 0 m [] (by omega) (by omega) (Nat.le_refl _)];rfl
theorem KBC {k file:AA} (hk:k.size<=900000000) (hf:file.size<=140737488351232):kJ k file=some (AsB k file):=by
 obtain ⟨u1,u2,_,_⟩:=OAq (file:=file)
 rw [kJ,NA0,FBt hf,AP,AsB];generalize (PL file).1=l at u1 u2;have key:∀ (j i m:Nat) (e:Int) (out:List Ah),i+j=l.length->0<=e->e<=30000*i->out.length<=i->kK (m+j+1) (.c0 k e (i:Int) out l)=some (out++(Avq k ((i:Int)+1) (l.drop i)).1,e+(Avq k ((i:Int)+1) (l.drop i)).2):=by
  intro j;induction j with
  | zero=>
   grind [kK,EAl,Avq]
  | succ j ih=>
   intro i m e out h he he2 ho;have hi:i<l.length:=by omega
   have hz:=u1 _ (List.getElem_mem hi);have ew:AV ((i:Int)+1)=((i+1:Nat):Int):=by grind [A8]
   have GW:=tH k l[i] ((i+1:Nat):Int);have hfz:=VBJ (t:=l[i]) (by omega);rw [show m+(j+1)+1=(m+j+1)+1 by omega,kK];simp only [EAl,mk,ew,BR,getD_at hi];rw [AL (by simp_all),AL (by simp_all),NBQ hk (by omega),AP,SBl (by omega),AP,drop_at hi,Avq,show ((i:Int)+1)=((i+1:Nat):Int) from rfl];cases (EM k ((i+1:Nat):Int) l[i]).2;·simp
   ·rw [BF (by rfl),Bool.true_and];cases (AqN (EM k ((i+1:Nat):Int) l[i]).1).2;·simp
    ·have h2:=ih (i+1) m (e+((frameT l[i]).1.size:Int)) (out++[(AqN (EM k ((i+1:Nat):Int) l[i]).1).1]) (by omega) (by omega) (by omega) (by simp_all);grind [XA8,A8]
 obtain ⟨m,hm⟩:=gm (n:=l.length) (by omega)
 have h0:=key l.length 0 m 0 [] (by omega) (by omega) (by omega) (Nat.le_refl _);simp_all
theorem LBC {l:Bg} {r:Ah} (h:l.CO.length<=1000000):Xr l r=some ⟨l.AX,l.Bq,l.EN,l.Cm,l.CO++[r]⟩:=by rw [Xr,OA0,mk];grind
theorem LBR {b:Ap} (h:b.Bc.Ak.length*40<=140737488355328):kL b=some (kM b):=by rw [kL,PA0,mk,AL (by simp_all),vJ];rfl
theorem MBR {x:AA×Bool×(List BQ)×AA×Int×Unit×Int×AA×Int×Unit×Unit×Int} (h:x.2.2.1.length*40<=140737488355328):kN x=some ⟨x.1,false,⟨x.2.2.1⟩,Nb,[],[],0⟩:=by simp_all [kN,QA0,mk,vJ]
theorem NBR {F:AA} {n:Int} (zs:List Int) (h:0<=n/\n<=(F.size:Int)) (hF:F.size<=20000):vC (dk F n) zs=some (SA F n zs,true):=by
 obtain ⟨m,hm⟩:∃ m,AY=m+1+1:=⟨AY - 2,rfl⟩
 have h1:((dk F n).Ak.length:Int)=1:=rfl;have h3:(([]:List BQ).length+1)*40=40:=rfl;have e:AV (0+1)=1:=by rfl
 have hg:(dk F n).Ak.getD (0:Int).toNat (⟨⟨#[]⟩,⟨#[]⟩,0⟩:BQ)=⟨DF,F,n⟩:=rfl;rw [vC,HA0,mk,XAp,AP,ArZ h hF,hm,uz];simp only [IA0,mk,h1,h3,e,hg,DN,Aq,List.nil_append];rw [AL (by rfl),AL (by rfl)];simp only [EBt];cases zs with
 | nil=>
  rw [BF (by rfl)];by_cases c:0<n;·rw [Ep c,GX (by omega),SA,show Jg F n []=n from if_pos c];rfl
  ·rw [Jh c,SA,show Jg F n []=0 from if_neg c];rfl
 | cons z zs=>
  have hz0:(z::zs).getD (0:Int).toNat 0=z:=rfl;have hl:(0:Int)<((z::zs).length:Int):=by simp
  rw [Ep hl,GX ⟨Int.le_refl _,hl⟩,hz0];by_cases c1:z > (F.size:Int);·rw [Ep c1,Jh (by omega),GX (by omega),SA,show Jg F n (z::zs)=(F.size:Int) by grind [Jg]];rfl
  ·rw [Jh c1];by_cases c2:z<n;·rw [Ep c2,GX (by omega),SA,show Jg F n (z::zs)=n by grind [Jg]];rfl
   ·rw [Jh c2,GX (by omega),SA,show Jg F n (z::zs)=z by grind [Jg]];rfl
theorem GBt {k:AA} {l:List Ah} {L:Bg} {r:Ah} (zs:List Int) (g:Good k l L.AX) (hl:l.length<50) (hn:r.DR<=9223372036854775807) (hr:(RZ L.AX.AU r).2=true) (z1:L.Bq.length<=1000) (z2:L.EN.length<=1000) (z3:L.CO.length<=1000):Xt L r zs=Xu L r zs:=by
 obtain ⟨m,hm⟩:∃ m,AY=m+1:=⟨AY - 1,rfl⟩
 obtain ⟨F,h1,h2⟩:=g.disk
 have EB:=Good.wz g.len.2 h2;obtain ⟨T,t1,t2⟩:=xA (k:=k) (r:=r) (i:=l.length) (Arn hr).2.1 (by omega)
 have hT:=congrArg List.length t2;rw [bs_len] at hT;have hz:(F++T).size=F.size+T.size:=ByteArray.size_append;have hlen:(l++[r]).length=l.length+1:=by rw [List.length_append];rfl
 have hat:(l++[r])[l.length]'(by omega)=r:=by simp
 have hall:ArG (tx k 1 (l++[r]))=ArG (tx k 1 l)++bs T:=by have e:=kP (k:=k) (l:=l++[r]) (i:=l.length) (by omega);rw [List.take_of_length_le (by omega),List.take_left,hat,<-t2] at e;exact e
 have hfl:=WBB (k:=k) (l:=l++[r]) (by omega);have hl1:=congrArg List.length hall;rw [List.length_append,bs_len,<-h2,bs_len] at hl1;have hact:=TAq (F:=F) (T:=T) (n:=(F.size:Int)) (by omega) (by omega);have hcut:=YBO (d:=dk F F.size) (E:=F++T) (T:=T) (n:=F.size) zs (by omega) (Nat.le_of_ble_eq_true rfl) hact (by omega) (by omega);have CD:=KBR (d:=dk F F.size) (T:=T) (z:=zs) (by omega) (Nat.le_of_ble_eq_true rfl) hact (NBR zs (by omega) (by omega));obtain ⟨q1,q2⟩:=GAs (F:=F++T) (n:=F.size) zs (by omega)
 unfold SA at hcut CD;generalize Jg (F++T) F.size zs=kk at hcut CD q1 q2;have Al:((F++T).extract 0 kk.toNat).size<=20000:=by rw [ByteArray.size_extract];omega
 generalize (F++T).extract 0 kk.toNat=X at hcut CD Al;have CE:Hl (dk X kk) ⟨#[98,111,111,107]⟩=(X,true):=UAq X _;rw [Xu,DAp,mk,g.cnt,TBB (by rw [g.key,g.H6];omega) hn,AP,g.key,t1,h1,hcut,AP,ZBO (by rw [h1];exact Nat.le_of_ble_eq_true rfl),AP];dsimp only;rw [Ar,PBA (by exact Nat.le_of_ble_eq_true rfl),AP,CE];dsimp only;rw [show (kM L.AX).BO=k from g.key,QBA (by rw [g.H6];omega) (by omega),AP];rw [Xt,FAl,mk,g.cnt,ZA8 (by rw [g.key,g.H6];omega),AP,g.key,t1,h1,CD,AP];dsimp only;rw [JBC (by exact Nat.le_of_ble_eq_true rfl),AP,CE];dsimp only;rw [KBC (by rw [g.H6];omega) (by omega),AP];cases decide (((AsB k X).1.length:Int) > (l.length:Int));·rw [Aq,Aq,hm,Z9];simp only [kQ,mk];rw [LBR (by exact Nat.le_of_ble_eq_true rfl),AP,Tt (by show L.Bq.length<=_;omega) (by show L.EN.length<=_;omega),AP,Xd (by show L.Bq.length<=_;omega) (by show L.EN.length<=_;omega)];rfl
 ·rw [Ar,Ar,Ep (by omega),LBC (by omega),AP,hm,Z9];simp only [kQ,mk];rw [MBR (by exact Nat.le_of_ble_eq_true rfl),AP,Tt (by show L.Bq.length<=_;omega) (by show L.EN.length<=_;omega),AP,Xd (by show L.Bq.length<=_;omega) (by show L.EN.length<=_;omega)];rfl
theorem HBt {k:AA} {l:List Ah} {L:Bg} {r:Ah} (zs:List Int) (g:Good k l L.AX) (hl:l.length<50) (hn:r.DR<=9223372036854775807) (hr:(RZ L.AX.AU r).2=true) (z1:L.Bq.length<=1000) (z2:L.EN.length<=1000) (z3:L.CO.length<=1000) :
  ∃ l' b',Xt L r zs=some ⟨b',L.Bq++[10],L.EN++[⟨#[]⟩],L.Cm,bif decide (l'.length > l.length) then L.CO++[r] else L.CO⟩/\Down k l' b'/\(l'=l\/l'=l++[r]):=by
 obtain ⟨F,h1,h2⟩:=g.disk
 have EB:=Good.wz g.len.2 h2;have hF2:F.size=(ArG (tx k 1 l)).length:=by grind [bs_len]
 obtain ⟨T,t1,t2⟩:=xA (k:=k) (r:=r) (i:=l.length) (Arn hr).2.1 (by omega)
 have hlen:(l++[r]).length=l.length+1:=by simp
 have hat:(l++[r])[l.length]'(by omega)=r:=by simp
 have hall:ArG (tx k 1 (l++[r]))=ArG (tx k 1 l)++bs T:=by have e:=kP (k:=k) (l:=l++[r]) (i:=l.length) (by omega);simp_all [List.take_of_length_le]
 have hfl:=WBB (k:=k) (l:=l++[r]) (by omega);have hl1:=congrArg List.length hall;rw [List.length_append,bs_len] at hl1;have hz:(F++T).size=F.size+T.size:=ByteArray.size_append;have hE:bs (F++T)=ArG (tx k 1 (l++[r])):=by simp_all [Fa]
 have hcut:=KBR (d:=dk F F.size) (T:=T) (z:=zs) (by omega) (Nat.le_of_ble_eq_true rfl) (TAq (by omega) (by omega)) (NBR zs (by omega) (by omega));obtain ⟨q1,q2⟩:=GAs (F:=F++T) (n:=F.size) zs (by omega)
 unfold SA at hcut;generalize Jg (F++T) F.size zs=kk at hcut q1 q2;obtain ⟨K,rfl⟩:∃ K:Nat,kk=(K:Int):=⟨kk.toNat,by omega⟩
 rw [BR] at hcut;have hX:bs ((F++T).extract 0 K)=(ArG (tx k 1 (l++[r]))).take K:=by simp_all [Ap3]
 have Al:((F++T).extract 0 K).size=K:=by grind [ByteArray.size_extract]
 generalize (F++T).extract 0 K=X at hcut hX Al;have hEl:(ArG (tx k 1 (l++[r]))).length=F.size+T.size:=by omega
 have he2:(Apz Nb (l++[r])).2=true:=by rw [fV,g.book];simp_all [Apz]
 have hrb:=ZA9 (k:=k) (file:=X) (l:=l++[r]) (K:=K) (by omega) (QAq he2) (by omega) hX;obtain ⟨w1,w2,w3⟩:=GAq (tx k 1 (l++[r])) K
 have w4:=IBL (tx k 1 (l++[r])) l.length K (by simp [Ua]) (by simp_all [aA]);have w5:=RA9 (tx k 1 (l++[r])) K;rw [Ua] at w2 w5;rw [aA] at w3;have CF:(l++[r]).take (whole (tx k 1 (l++[r])) K)=l\/(l++[r]).take (whole (tx k 1 (l++[r])) K)=l++[r]:=by grind [List.take_of_length_le]
 refine ⟨(l++[r]).take (whole (tx k 1 (l++[r])) K),⟨k,false,dk X X.size,Nb,[],[],0⟩,?_,⟨g.H6,?_,MA9 _ he2,⟨X,rfl,by omega,l++[r],K,by omega,he2,by omega,hX,rfl⟩⟩,CF⟩
 ·obtain ⟨m,hm⟩:∃ m,AY=m+1:=⟨AY - 1,rfl⟩
  have CE:Hl (dk X (K:Int)) ⟨#[98,111,111,107]⟩=(X,true):=UAq X _;rw [Xt,FAl,mk,g.cnt,ZA8 (by rw [g.key,g.H6];omega),AP,g.key,t1,h1,hcut,AP];dsimp only;rw [JBC (by exact Nat.le_of_ble_eq_true rfl),AP,CE];dsimp only;rw [KBC (by rw [g.H6];omega) (by omega),AP,hrb];dsimp only;have hd:decide ((((l++[r]).take (whole (tx k 1 (l++[r])) K)).length:Int) > (l.length:Int))=decide (((l++[r]).take (whole (tx k 1 (l++[r])) K)).length > l.length):=by simp
  rw [hd,Al];cases decide (((l++[r]).take (whole (tx k 1 (l++[r])) K)).length > l.length);·rw [Aq,Aq,hm,Z9];simp only [kQ,mk];rw [LBR (by exact Nat.le_of_ble_eq_true rfl),AP,Tt (by grind) (by grind)];rfl
  ·rw [Ar,Ar,LBC (by omega),AP,hm,Z9];simp only [kQ,mk];rw [MBR (by exact Nat.le_of_ble_eq_true rfl),AP,Tt (by grind) (by grind)];rfl
 ·have h3:=g.len;grind
theorem OBR {b:Ap} {t:Int} (h:b.BD.length<=140737488351232) (ht:b.AU.AZ.length<=140737488351232):Vp b t=some (AsP b t):=by rw [Vp,RA0,mk,kF ht,AP,AsP];grind [OBQ]
theorem PBR {b:Ap} (h:Uy b):Xv b=some b:=by have h1:=h.d;have h2:=h.s;have h3:=h.l;rw [Xv,SA0,mk,Ep (by omega),RA8 h.t,AP,Ep (by omega),Ep (by omega)]
theorem MBC {α:Type} {p:α->Bool} {l:List α} {i:Nat} (h:i<l.length):(l.take (i+1)).filter p=(l.take i).filter p++(bif p l[i] then [l[i]] else []):=by grind [take_at]
theorem PAs {α:Type} {p:α->Bool} {l:List α} {i:Nat}:((l.take i).filter p).length<=l.length:=
 Nat.le_trans (List.length_filter_le _ _) (by grind)
theorem IBt {α:Type} {f:α->α} {l:List α} {i:Nat} {d:α} (h:i<l.length):((l.take i).map f++l.drop i).getD i d=l[i]:=by grind
theorem map_set {α:Type} {f:α->α} {l:List α} {i:Nat} (h:i<l.length):((l.take i).map f++l.drop i).set i (f l[i])=(l.take (i+1)).map f++l.drop (i+1):=by
 have hz:((l.take i).map f).length=i:=by grind
 grind [List.set_append_right,drop_at,take_at]
theorem JBt {α:Type} {f:α->α} {l:List α} {i:Nat} (h:i<=l.length):((l.take i).map f++l.drop i).length=l.length:=by simp_all
theorem QBR (id:Int):∀ {ls:List CS},JG ls->ls.filter (fun v=>decide (v.fId<id))++ls.filter (fun v=>decide (v.fId > id))=Rn ls id
 | [],_=>rfl
 | v::vs,h=>by
  obtain ⟨hs,h2⟩:=List.pairwise_cons.1 h
  have ih:=QBR id h2;rw [Rn] at ih ⊢;rw [List.filter_cons,List.filter_cons,List.filter_cons];rcases Int.lt_trichotomy v.fId id with a | a | a
  ·rw [if_pos (Ba a),if_neg (by rw [decide_eq_true_eq];omega),if_pos (by rw [bne_iff_ne];omega),List.cons_append,ih]
  ·rw [if_neg (by rw [decide_eq_true_eq];omega),if_neg (by rw [decide_eq_true_eq];omega),if_neg (by rw [bne_iff_ne];exact fun q=>q a),ih]
  ·have e:vs.filter (fun v=>decide (v.fId<id))=[]:=List.filter_eq_nil_iff.2 fun w hw=>by have:=hs w hw;rw [decide_eq_true_eq];omega
   rw [e,List.nil_append] at ih;rw [if_neg (by rw [decide_eq_true_eq];omega),if_pos (Ba a),if_pos (by rw [bne_iff_ne];omega),e,List.nil_append,ih]
theorem RBR {ls:List CS} {id n:Int} (hl:ls.length<=8) (hV:JG ls):xB ls id n=some (bif decide (n>=0) then AqR ls id n else Rn ls id):=by
 have two:∀ (o:List CS),o.length<=9->∀ m,Ub (m+ls.length+1) (.c1 ls id 0 (o++(ls.take 0).filter (fun v=>decide (v.fId > id))))=some (o++ls.filter fun v=>decide (v.fId > id)):=fun o ho=>AKj (L:=Ub) (fun i:Nat=>aB.c1 ls id (i:Int) (o++(ls.take i).filter fun v=>decide (v.fId > id))) ls.length (fun m=>by
  simp [Ub,kR,mk]) fun i hi m=>by
  have hw:=Fq (i:=i) (by omega);have hz:=PAs (p:=fun v:CS=>decide (v.fId > id)) (l:=ls) (i:=i);rw [Ub];simp only [kR,mk,hw,BR,getD_at hi];grind [MBC]
 rw [xB,TA0];refine Wj (L:=Ub) (fun i:Nat=>aB.c0 ls id n (i:Int) ((ls.take i).filter fun v=>decide (v.fId<id))) ls.length (ls.length+1) (by omega) (fun m=>?_) fun i hi m=>?_
 ·have hz:=PAs (p:=fun v:CS=>decide (v.fId<id)) (l:=ls) (i:=ls.length);rw [List.take_length] at hz;rw [Ub];simp only [kR,mk];rw [Jh (by omega),List.take_length];cases decide (n>=0);·have h:=two (ls.filter fun v=>decide (v.fId<id)) (by omega) m;grind [QBR]
  ·have h:=two (ls.filter (fun v=>decide (v.fId<id))++[⟨id,n⟩]) (by grind) m;grind [ZBL]
 ·have hw:=Fq (i:=i) (by omega);have hz:=PAs (p:=fun v:CS=>decide (v.fId<id)) (l:=ls) (i:=i);rw [Ub];simp only [kR,mk,hw,BR,getD_at hi];grind [MBC]
theorem QAs {b:Ap} {c:CV} {code leaf:Int} (h:Uy b) (hV:JG b.BD) (hlf:leaf<=1000):Uc b c code leaf=some (Ii b c code leaf):=by
 have hs:=h.s;have ht:=h.t;have ho:=h.o;rw [Uc,UA0,mk,PBR h,AP,Ii,A8 (n:=b.CW+1) (by omega) (by omega)];cases code != 0
 ·rw [Aq,Aq];cases c.Au == 1
  ·rw [Aq,Aq];cases c.Au == 13
   ·rw [Aq,Aq];cases c.Au == 2
    ·rw [Aq,Aq];cases c.Au == 5
     ·rw [Aq,Aq];cases c.Au == 9;·rfl
      ·rw [Ar,Ar,RBR h.l hV];rfl
     ·rw [Ar,Ar,kF (by omega),AP,VU];cases Aqg b.AU.AZ c.Ag with
      | none=>rfl
      | some x=>
       dsimp only;rw [Ar];by_cases g1:leaf>=0;·rw [A8 (by omega) (by omega),RBR h.l hV,Ba g1,Ba (by omega:leaf+1>=0)];cases x.Aj == 2 <;> cases decide (leaf<x.fNext) <;> rfl
       simp_all [D6]
    ·rw [Ar,Ar]
     have key:=Wj (L:=Vq) (r:=some (kS b (xC b.BP c.EJ))) (fun i:Nat=>aC.c1 (i:Int) c ⟨#[]⟩ false ⟨#[]⟩ 0 0 ⟨#[]⟩ 0 0 b.BO b.CZ b.AU.Bv b.AU.DU b.AU.BM b.AU.Dh b.AU.fCount b.CW [] [] [] [] b.Bc.Ak b.AU.AZ ((b.BP.take i).map (fun s=>⟨s.fId,s.QW || s.fId == c.EJ⟩)++b.BP.drop i) b.BD) b.BP.length 0 (by omega) (fun m=>by
      rw [Vq];simp only [kT,mk];rw [Jh (by simp),List.take_length,List.drop_length,List.append_nil];rfl) fun i hi m=>by
      have hw:=Fq (i:=i) (by omega);rw [Vq];simp only [kT,mk,hw,BR,IBt hi,JBt (Nat.le_of_lt hi)];grind [map_set]
     exact key
   ·rw [Ar,Ar]
    have key:=Wj (L:=Vq) (r:=some (kS b (delS b.BP c.EJ))) (fun i:Nat=>aC.c0 (i:Int) b c ⟨#[]⟩ false ⟨#[]⟩ 0 0 ⟨#[]⟩ 0 0 b.BO b.CZ b.AU.Bv b.AU.DU b.AU.BM b.AU.Dh b.AU.fCount b.CW ((b.BP.take i).filter fun s=>s.fId != c.EJ) [] [] [] [] b.Bc.Ak b.AU.AZ b.BP b.BD) b.BP.length 0 (by omega) (fun m=>by
     rw [Vq];simp only [kT,mk];rw [Jh (by omega),List.take_length];rfl) fun i hi m=>by
     have hw:=Fq (i:=i) (by omega);have hz:=PAs (p:=fun s:EG=>s.fId != c.EJ) (l:=b.BP) (i:=i);rw [Vq];grind [kT,BR,MBC]
    exact key
  grind
 rfl
theorem SBR {l:Bg} {e:DW} {w:Int} (hu:l.AX.CZ=false) (z1:l.Bq.length<=1000) (z2:l.EN.length<=1000):Ud l w e=some (VBB l 9 (sQ 9)):=by rw [Ud,kU,mk,hu,Bool.not_false,Ar,Tt (by omega) (by omega)];rfl
theorem TBR {l l':Bg} {e:DW} {w code:Int} {s:AA} {r:Ah} (hu:l.AX.CZ=true) (hn:l.AX.AU.fCount<10000) (hp:PK l.AX e.BA=some ([r],code,s)) (hcut:e.Nr=true) (hc:Xt l r e.Lc=some l'):Ud l w e=some l':=by rw [Ud,kU,mk,hu,DN,Aq,Jh (by omega),hp,AP,hcut,Ar,AL (by rfl),AL (by rfl),show ([r],code,s).1.getD (0:Int).toNat (⟨0,⟨#[]⟩,0,⟨0,0,false,false,false,false,⟨#[]⟩,0⟩⟩:Ah)=r from rfl,hc];rfl
theorem UBR {l:Bg} {b b2:Ap} {d:List Ah} {e:DW} {w code leaf:Int} {s:AA} {y:List Ah} {n:Int} {m:Nat} (hn:(y.length:Int)<=n) (hc:Uc b e.BA code leaf=some b2) (z1:l.Bq.length<=1000) (z2:l.EN.length<=1000) (z4:l.Cm.length<=1000) :
  kV (m+1) (.c0 w code s leaf n b.BO b.CZ b.AU.Bv b.AU.DU b.AU.BM b.AU.Dh b.AU.fCount b.CW e y b.Bc.Ak b.AU.AZ b.BP b.BD l.Bq l.EN l.Cm d)=some ⟨b2,l.Bq++[code],l.EN++[s],bif e.BA.Au == 5 && code == 0 then l.Cm++[⟨e.BA.Ag,leaf,w⟩] else l.Cm,d⟩:=by
 have ht:∀ G,Vb ⟨b2,l.Bq,l.EN,G,d⟩ code s=some ⟨b2,l.Bq++[code],l.EN++[s],G,d⟩:=fun G=>Tt (l:=⟨b2,l.Bq,l.EN,G,d⟩) (show l.Bq.length<=1000000 by omega) (show l.EN.length<=1000000 by omega)
 rw [kV];simp only [GAl,mk,List.nil_append];rw [Jh (by omega)];show (Uc b e.BA code leaf).bind _=_;grind
theorem VBR {l:Bg} {e:DW} {w code leaf:Int} {s:AA} {b2:Ap} (hu:l.AX.CZ=true) (hn:l.AX.AU.fCount<10000) (hp:PK l.AX e.BA=some ([],code,s)) (hl:Vp l.AX e.BA.Ag=some leaf) (hc:Uc l.AX e.BA code leaf=some b2) (z1:l.Bq.length<=1000) (z2:l.EN.length<=1000) (z4:l.Cm.length<=1000) :
  Ud l w e=some ⟨b2,l.Bq++[code],l.EN++[s],bif e.BA.Au == 5 && code == 0 then l.Cm++[⟨e.BA.Ag,leaf,w⟩] else l.Cm,l.CO⟩:=by
 obtain ⟨m,hm⟩:∃ m,AY=m+1:=⟨AY - 1,rfl⟩
 have key:=UBR (l:=l) (d:=l.CO) (w:=w) (s:=s) (y:=[]) (n:=0) (m:=m) (Int.le_refl _) hc z1 z2 z4;simp_all [Ud,kU,mk,Jh]
theorem WBR {l:Bg} {e:DW} {w code leaf:Int} {s:AA} {r:Ah} {B:Bo} {D:BU} {b2:Ap} (hu:l.AX.CZ=true) (hn:l.AX.AU.fCount<10000) (hp:PK l.AX e.BA=some ([r],code,s)) (hcut:e.Nr=false) (hl:Vp l.AX e.BA.Ag=some leaf) (hw:aF l.AX.BO l.AX.Bc l.AX.AU.fCount r=some D) (hb:Arj l.AX.AU r=some (B,true)) (hc:Uc ⟨l.AX.BO,l.AX.CZ,D,B,l.AX.BP,l.AX.BD,l.AX.CW⟩ e.BA code leaf=some b2) (z1:l.Bq.length<=1000) (z2:l.EN.length<=1000) (z3:l.CO.length<=1000) (z4:l.Cm.length<=1000) :
  Ud l w e=some ⟨b2,l.Bq++[code],l.EN++[s],bif e.BA.Au == 5 && code == 0 then l.Cm++[⟨e.BA.Ag,leaf,w⟩] else l.Cm,l.CO++[r]⟩:=by
 obtain ⟨m,hm⟩:∃ m,AY=m+1+1:=⟨AY - 2,rfl⟩
 have h1:AV (0+1)=1:=by rfl
 have key:=UBR (l:=l) (d:=l.CO++[r]) (w:=w) (s:=s) (y:=[r]) (n:=1) (m:=m) (Int.le_refl _) hc z1 z2 z4;have hd:Xr ⟨⟨l.AX.BO,l.AX.CZ,D,B,l.AX.BP,l.AX.BD,l.AX.CW⟩,l.Bq,l.EN,l.Cm,l.CO⟩ r=some ⟨⟨l.AX.BO,l.AX.CZ,D,B,l.AX.BP,l.AX.BD,l.AX.CW⟩,l.Bq,l.EN,l.Cm,l.CO++[r]⟩:=LBC (by grind);simp_all [Ud,kU,mk,Jh,kV,GAl,mk]
theorem XBR {a b:Bo} (h0:a.AZ.length<=140737488351232):xE a b=some (SE a b):=by
 rw [xE,VA0,mk,SE];by_cases hl:a.AZ.length=b.AZ.length
 ·have key:∀ (j i m:Nat),i+j=a.AZ.length->kW (m+j+1) (.c0 (i:Int) a b)=some (QY (a.AZ.drop i) (b.AZ.drop i)):=by
   intro j;induction j with
   | zero=>
    intro i m h;obtain rfl:i=a.AZ.length:=by omega
    rw [kW];simp only [HAl,mk];rw [BF (by simp),List.drop_length,hl,List.drop_length];rfl
   | succ j ih=>
    intro i m h;have hi:i<a.AZ.length:=by omega
    have hi2:i<b.AZ.length:=by omega
    have e:AV ((i:Int)+1)=((i+1:Nat):Int):=by grind [A8]
    rw [show m+(j+1)+1=(m+j+1)+1 by omega,kW];simp only [HAl,mk,e,BR,getD_at hi,getD_at hi2,KBL,ih (i+1) m (by omega)];grind [drop_at,QY]
  obtain ⟨m,hm⟩:=gm (n:=a.AZ.length) (by omega)
  have hz:=key a.AZ.length 0 m (by omega);grind
 grind [LBL]
theorem KBt {b:Bo} {l:List Ah} (hb:b.AZ.length<=2932031007317) (hl:l.length<=140737488351232):JAl b l=some (Apz b l):=by
 have key:∀ (j i m:Nat) (b:Bo),i+j=l.length->b.AZ.length<=2932031007317->kX (m+j+1) (.c0 l (i:Int) ⟨#[]⟩ 0 0 ⟨#[]⟩ 0 b.Bv b.DU b.BM b.Dh b.fCount [] b.AZ)=some (Apz b (l.drop i)):=by
  intro j;induction j with
  | zero=>
   intro i m b h hb;obtain rfl:i=l.length:=by omega
   rw [kX];simp only [IAl,mk];rw [BF (by simp),List.drop_length];rfl
  | succ j ih=>
   intro i m b h hb;have hi:i<l.length:=by omega
   have e:AV ((i:Int)+1)=((i+1:Nat):Int):=by grind [A8]
   rw [show m+(j+1)+1=(m+j+1)+1 by omega,kX];simp only [IAl,mk,e,BR,getD_at hi];rw [AL (by simp_all),AL (by simp_all),TAp (by grind),AP,drop_at hi,Apz];cases h2:(RZ b l[i]).2;·rfl
   ·have h3:=LA9 h2;rw [BF (by rfl),Ar];exact ih (i+1) m (RZ b l[i]).1 (by omega) (by omega)
 obtain ⟨m,hm⟩:=gm (n:=l.length) (by omega)
 rw [JAl,WA0,mk,RA8 hb,AP,hm];exact key l.length 0 m b (by omega) hb
theorem YBR {k:AA} {d:BU} (hk:k.size<=900000000) (hd:d.Ak.length<=140737488351232) (hf:∀ f ∈ d.Ak,f.fText.size<=140737488351232):kY k d=some (ArE k d):=by
 have hfs:(Hl d DF).1.size<=140737488351232:=AMQ hf;obtain ⟨r1,r2⟩:=CBL k (Hl d DF).1
 have hl:=DBL k (Hl d DF).1;rw [kY,XA0,mk,XAp,AP,ArE];cases Ap0 d;·rfl
 rw [BF (by rfl),show (⟨#[98,111,111,107]⟩:AA)=DF from rfl,show (⟨#[98,111,111,107,43]⟩:AA)=nNew from rfl,JBC hd,AP,KBC hk hfs,AP,vJ,AP,KBt (DJ _) (by omega),AP,BA9 hd];cases (Apz Nb (AsB k (Hl d DF).1).1).2;·rfl
 grind
theorem LBt {b:Ap} (hl:b.BD.length<=140737488351232) (ht:b.AU.AZ.length<=140737488351232):xG b=some (Va b):=by
 have key:∀ (j i m:Nat),i+j=b.BD.length->kZ (m+j+1) (.c0 (i:Int) b)=some (Aqx b j i):=by
  intro j;induction j with
  | zero=>
   intro i m hi;rw [kZ];simp only [KAl,mk];rw [BF (by simp_all)];rfl
  | succ j ih=>
   intro i m hi;have hw:AV ((i:Int)+1)=((i+1:Nat):Int):=by grind [A8]
   have d1:decide ((i:Int)<(b.BD.length:Int))=true:=Ba (by omega);have d0:decide ((0:Int)<=(i:Int))=true:=Ba (by omega);rw [AwB m j,kZ];simp only [KAl,mk,kF ht,Hf,AP,d0,d1,Bool.and_self,Ar,BR,hw,ih (i+1) m (by omega),Aqx,Ue];grind [A8,BR]
 obtain ⟨m,hm⟩:=gm (n:=b.BD.length) (by omega)
 rw [xG,YA0,hm];exact key b.BD.length 0 m (Nat.zero_add _)
theorem MBt {b:Ap} (hd:b.Bc.Ak.length<=140737488351232) (hf:∀ f ∈ b.Bc.Ak,f.fText.size<=140737488351232) (ht:b.AU.AZ.length<=140737488351232) (hs:b.BP.length<=140737488351232) (hl:b.BD.length<=140737488351232):MAl b=some (QF b):=by
 rw [MAl,ZA0,mk,XAp,Hf,QF];simp only [AP,bne];cases hz:(b.BO.size:Int) == 32;·rfl
 have hk:b.BO.size<=900000000:=by grind
 obtain ⟨l1,l2⟩:=WAq b.BO b.Bc
 have key:∀ (j i m:Nat),i+j=b.BP.length->ku (m+j+1) (.c0 (i:Int) b)=some (Oc b j i && Xw b):=by
  intro j;induction j with
  | zero=>
   intro i m hi;rw [ku];simp only [LAl,mk];rw [BF (by simp_all),Xw];simp only [vJ,YBR hk hd hf,XBR ht,XBR (show (ArE b.BO b.Bc).1.AZ.length<=140737488351232 by omega),aG ht,LBt hl ht,AP];cases b.CZ;·cases (b.BP.length:Int) == 0 <;> cases (b.BD.length:Int) == 0 <;> rfl
   ·cases (ArE b.BO b.Bc).2.2 <;> cases ((ArE b.BO b.Bc).2.1.length:Int) == 0 <;> cases G9 b.AU <;> cases SE (ArE b.BO b.Bc).1 b.AU <;> rfl
  | succ j ih=>
   intro i m hi;have hw:AV ((i:Int)+1)=((i+1:Nat):Int):=by grind [A8]
   have d1:decide ((i:Int)<(b.BP.length:Int))=true:=Ba (by omega);have d0:decide ((0:Int)<=(i:Int))=true:=Ba (by omega);rw [AwB m j,ku];simp only [LAl,mk,Hf,AP,d0,d1,Bool.and_self,Ar,BR,hw,ih (i+1) m (by omega),Oc,aH];cases Ark (b.BP.getD i ⟨0,false⟩).fId 1 b.CW;all_goals grind [A8,decide,BR]
 obtain ⟨m,hm⟩:=gm (n:=b.BP.length) (by omega)
 have h0:=key b.BP.length 0 m (Nat.zero_add _);grind
theorem NBC {b:Ap} (hd:b.Bc.Ak.length*40<=140737488351232) (hf:∀ f ∈ b.Bc.Ak,f.fText.size<=140737488351232) (ht:b.AU.AZ.length<=140737488351232) (hs:b.BP.length<=140737488351232) (hl:b.BD.length<=140737488351232) (hk:b.BO.size<=900000000):xH b=some (aI b):=by
 obtain ⟨l1,l2⟩:=WAq b.BO b.Bc
 rw [xH,AMV,mk,aI];simp only [MBt (b:=b) (by omega) hf ht hs hl,YBR hk (show b.Bc.Ak.length<=_ by omega) hf,HA9 (d:=b.Bc) (l:=(ArE b.BO b.Bc).2.1) hd (by omega) (AVj hf),AP];cases b.CZ
 ·cases QF b;·rfl
  ·cases (ArE b.BO b.Bc).2.2;·rfl
   ·cases decide ((Aqu b.Bc (ArE b.BO b.Bc).2.1 0).2<((ArE b.BO b.Bc).2.1.length:Int)) <;> rfl
 ·rfl
theorem NBt {k:AA} {l:List Ah} {b:Ap} (h:Down k l b):∃ b',xH b=some (b',true)/\Good k l b'/\b'.BP=[]/\b'.BD=[]/\b'.CW=0/\b'.AU=(Apz Nb l).1:=by
 obtain ⟨X,rfl,Al,l2,K,hl2,he2,hK,hX,hl⟩:=h.box
 have Hh:X.size=K:=by grind [bs_len]
 have hs2:=QAq he2;have hm:=HBL (k:=k) (F:=X) (n:=X.size) hl2 hs2 he2 hK hX (by omega) (by omega);obtain ⟨w1,w2,w3⟩:=GAq (tx k 1 l2) K
 rw [aA] at w3;have hbk:Apz Nb l=((Apz Nb l).1,true):=Prod.ext rfl h.book;have hpre:ArG (tx k 1 l2)=ArG (tx k 1 (l2.take (whole (tx k 1 l2) K)))++ArG (tx k (1+((l2.take (whole (tx k 1 l2) K)).length:Int)) (l2.drop (whole (tx k 1 l2) K))):=by grind [RBK,YA9,List.take_append_drop]
 rw [<-hl] at hm w3 hpre;have hok:QF ⟨k,false,dk X X.size,Nb,[],[],0⟩=true:=NBL (b:=⟨k,false,dk X X.size,Nb,[],[],0⟩) h.H6 (ArZ (by omega) (by omega));have mk:∀ G:AA,bs G=ArG (tx k 1 l)->Good k l ⟨k,true,dk G G.size,(Apz Nb l).1,[],[],0⟩:=fun G hG=>⟨h.H6,rfl,rfl,⟨G,rfl,hG⟩,h.len,hbk,⟨DJ _,rfl⟩,⟨Int.le_refl _,by simp⟩,⟨rfl,DJ _⟩⟩
 have hR:=NBC (b:=⟨k,false,dk X X.size,Nb,[],[],0⟩) (Nat.le_of_ble_eq_true rfl) (fun f hf=>by
  have hf:f ∈ [(⟨DF,X,(X.size:Int)⟩:BQ)]:=hf;grind) (DJ _) (DJ _) (DJ _) (by show k.size<=_;rw [h.H6];omega)
 rw [hR,aI,hok];dsimp only;rw [hm];dsimp only;by_cases hc:((ArG (tx k 1 l)).length:Int)=(X.size:Int)
 ·rw [beq_iff_eq.2 hc,Ar];refine ⟨_,rfl,mk X ?_,rfl,rfl,rfl,rfl⟩;grind [List.take_of_length_le]
 ·rw [beq_eq_false_iff_ne.2 hc,Aq];have hG:bs (X.extract 0 (ArG (tx k 1 l)).length)=ArG (tx k 1 l):=by grind [Ap3]
  have Ga:(X.extract 0 (ArG (tx k 1 l)).length).size=(ArG (tx k 1 l)).length:=by grind [bs_len]
  generalize X.extract 0 (ArG (tx k 1 l)).length=G at hG Ga;rw [LBm (by omega) (by omega) (by omega)];exact ⟨_,rfl,mk G hG,rfl,rfl,rfl,rfl⟩
structure ATw (b:Ap):Prop where
 z:Uy b
 f:∀ f ∈ b.Bc.Ak,f.fText.size<=140737488351232
 k:b.BO.size<=900000000
 n:b.Bc.Ak.length*40<=140737488351232
theorem AzZ.bx {k:AA} {l:List Ah} {L:Bg} (h:AzZ k l L):ATw L.AX:=by
 rcases h.box with g | d
 ·exact ⟨g.gu,fun f hf=>by have:=g.small.2 f hf;omega,by rw [g.key,g.H6];omega,by have:=g.small.1;omega⟩
 ·obtain ⟨h1,h2,h3,h4,h5,h6,h7,h8⟩:=AzZ.down d
  exact ⟨⟨by have:=h7.1;omega,by rw [h4];exact DJ _,by simp_all,by simp_all,by omega⟩,fun f hf=>by have:=h7.2 f hf;omega,by rw [h6,d.H6];omega,by have:=h7.1;omega⟩
theorem RAs {k:AA} {l:List Ah} {L:Bg} {e:DW} (h:AzZ k l L) (he:N8 e) (hn:L.Bq.length<45):∃ l' L',Q7 L (L.Bq.length:Int) e=some L'/\Step k e l L l' L':=by
 obtain ⟨f1,f2,f3⟩:=h.few
 have ho:=h.opn;have hd:L.CO.length<=1000:=by rw [h.done];omega
 rw [Q7,NAl,mk];cases hr:e.JY
 ·rw [Bool.not_false,Ar];have one:∀ x:Option Bg,(x.bind fun r=>some r)=x:=fun x=>by simp
  rw [one];rcases h.box with g | d
  ·have hq:PK L.AX e.BA=some (AsA Jc L.AX e.BA):=JBR g.pb (he.call hr) fun h v _=>IBR (he.2 h)
   have hlf:=HBQ g.ArF g.LH.1 e.BA.Ag;have hcn:=g.cnt;have hll:=g.len.2;have hl2:Vp L.AX e.BA.Ag=some (AsP L.AX e.BA.Ag):=OBR (by have:=g.LH.2;omega) (by have:=g.Xx;omega);rcases XP (tk:=Jc) (c:=e.BA) g with h0 | ⟨r,h1,h2⟩
   ·have hq2:PK L.AX e.BA=some ([],(AsA Jc L.AX e.BA).2.1,(AsA Jc L.AX e.BA).2.2):=by grind
    refine ⟨_,_,?_,Step.call g hr (.inr h0)⟩;rw [VBR g.up (by omega) hq2 hl2 (QAs g.gu g.lives.2 (by omega)) (by omega) (by omega) (by omega),Ny,h0,List.append_nil];rfl
   ·have hq2:PK L.AX e.BA=some ([r],(AsA Jc L.AX e.BA).2.1,(AsA Jc L.AX e.BA).2.2):=by grind
    cases hc:e.Nr
    ·have e0:=((HAs g (by omega) h2.ent).2 [] (fun v hv=>by cases hv) List.Pairwise.nil).gu;have e1:Uy (Gt L.AX r):=⟨e0.d,e0.t,g.MX.1,g.LH.2,g.opn⟩
     have hE:Arj L.AX.AU r=some ((RZ L.AX.AU r).1,true):=by rw [TAp (by have:=g.Xx;omega),<-h2.ent]
     have hcar:Uc (Gt L.AX r) e.BA (AsA Jc L.AX e.BA).2.1 (AsP L.AX e.BA.Ag)=some (Ny L.AX e.BA (AsA Jc L.AX e.BA)):=by rw [Ny,h1];exact QAs e1 g.lives.2 (by omega)
     refine ⟨_,_,?_,Step.call g hr (.inl hc)⟩;rw [WBR g.up (by omega) hq2 hc hl2 (JA9 (by rw [g.key,g.H6];omega) (by have:=g.small.1;omega)) hE hcar (by omega) (by omega) (by omega) (by omega),h1];rfl
    ·obtain ⟨l',b',c1,c2,c3⟩:=HBt (r:=r) e.Lc g (by omega) h2.num h2.ent (by omega) (by omega) hd
     exact ⟨l',_,TBR g.up (by omega) hq2 hc c1,Step.cut g hr r h1 b' l' c2 c3⟩
  ·obtain ⟨h1,h2,h3,h4,h5,h6,h7,h8⟩:=AzZ.down d
   exact ⟨l,_,SBR h1 (by omega) (by omega),Step.down d hr⟩
 ·have x:=h.bx;have z:=x.z;have zt:=z.t;have zs:=z.s;have Avh:=z.l;have hR:=NBC x.n x.f (by omega) (by omega) (by omega) x.k;rw [DN,Aq,hR,AP];rcases h.box with g | d
  ·refine ⟨l,_,?_,Step.stay g hr⟩;rw [aI,g.up,Bool.true_or,Ar];dsimp only;rw [Bool.not_false,Ar,Tt (by omega) (by omega)];rfl
  ·obtain ⟨b',r1,r2,r3,r4,r5,_⟩:=NBt d
   rw [hR] at r1;injection r1 with r1
   refine ⟨l,_,?_,Step.up d hr b' r2 r3 r4 r5⟩;rw [r1,DN,Aq,Tt (by grind) (by grind)];rfl
theorem OBt {k:AA} {l:List Ah} {L:Bg} {e:DW} (h:AzZ k l L) (he:N8 e) (hn:L.Bq.length<45):Q7 L (L.Bq.length:Int) e=(bif e.JY then Xy L else Av6 L e (L.Bq.length:Int)):=by
 obtain ⟨f1,f2,f3⟩:=h.few
 have ho:=h.opn;have hd:L.CO.length<=1000:=by rw [h.done];omega
 rw [Q7,NAl,mk];cases hr:e.JY
 ·rw [Aq,Bool.not_false,Ar];have one:∀ x:Option Bg,(x.bind fun r=>some r)=x:=fun x=>by cases x <;> rfl
  rw [one];rcases h.box with g | d
  ·have hp:=g.plan (by omega) (by omega) (he.call hr) he.2;have hq:PK L.AX e.BA=some (AsA Jc L.AX e.BA):=JBR g.pb (he.call hr) fun h v _=>IBR (he.2 h)
   have hlf:=HBQ g.ArF g.LH.1 e.BA.Ag;have hcn:=g.cnt;have hll:=g.len.2;have hl2:Vp L.AX e.BA.Ag=some (AsP L.AX e.BA.Ag):=OBR (by have:=g.LH.2;omega) (by have:=g.Xx;omega);rcases XP (tk:=Jc) (c:=e.BA) g with h0 | ⟨r,h1,h2⟩
   ·have hp2:Qx L.AX e.BA=some ([],(AsA Jc L.AX e.BA).2.1,(AsA Jc L.AX e.BA).2.2):=by rw [hp,<-h0]
    have hq2:PK L.AX e.BA=some ([],(AsA Jc L.AX e.BA).2.1,(AsA Jc L.AX e.BA).2.2):=by rw [hq,<-h0]
    rw [IBQ hp2 (CBP g _) (g.carry (by omega)) (by omega) (by omega) (by omega),VBR g.up (by omega) hq2 hl2 (QAs g.gu g.lives.2 (by omega)) (by omega) (by omega) (by omega)]
   ·have hp2:Qx L.AX e.BA=some ([r],(AsA Jc L.AX e.BA).2.1,(AsA Jc L.AX e.BA).2.2):=by rw [hp,<-h1]
    have hq2:PK L.AX e.BA=some ([r],(AsA Jc L.AX e.BA).2.1,(AsA Jc L.AX e.BA).2.2):=by rw [hq,<-h1]
    cases hc:e.Nr
    ·have hb:Vr L.AX r=some (true,Gt L.AX r):=by rw [WBO (by rw [g.key,g.H6];omega) (by have:=g.small.1;omega) (by have:=g.Xx;omega) h2.num,(HAs g (by omega) h2.ent).1]
     have e0:=((HAs g (by omega) h2.ent).2 [] (fun v hv=>by cases hv) List.Pairwise.nil).gu;have e1:Uy (Gt L.AX r):=⟨e0.d,e0.t,g.MX.1,g.LH.2,g.opn⟩
     have hE:Arj L.AX.AU r=some ((RZ L.AX.AU r).1,true):=by rw [TAp (by have:=g.Xx;omega),<-h2.ent]
     rw [SBp hp2 hc (CBP g _) hb (KBP e1 g.IAs.2 g.lives.2 (by omega)) (by omega) (by omega) (by omega) (by omega),WBR g.up (by omega) hq2 hc hl2 (JA9 (by rw [g.key,g.H6];omega) (by have:=g.small.1;omega)) hE (QAs e1 g.lives.2 (by omega)) (by omega) (by omega) (by omega) (by omega)];rfl
    ·obtain ⟨l',b',c1,c2,c3,_⟩:=UBp (r:=r) e.Lc g (by omega) h2.num h2.ent (by omega) (by omega) hd
     rw [YBp hp2 hc c1,TBR g.up (by omega) hq2 hc ((GBt e.Lc g (by omega) h2.num h2.ent (by omega) (by omega) hd).trans c1)]
  ·obtain ⟨h1,h2,h3,h4,h5,h6,h7,h8⟩:=AzZ.down d
   have hlf:AqU L.AX e.BA.Ag=some (-1):=by rw [VBA (by rw [h2];exact DJ _) (by rw [h4];exact DJ _),AsP,h4];rfl
   rw [IBQ (QBr d _) hlf (PBO h.bx.z rfl) (by omega) (by omega) (by omega),SBR h1 (by omega) (by omega)];cases e.BA.Au == 5 <;> rfl
 ·have x:=h.bx;have z:=x.z;have zt:=z.t;have zs:=z.s;have Avh:=z.l;rw [Ar,DN,Aq,NBC x.n x.f (by omega) (by omega) (by omega) x.k,Xy,UA3,mk,VBp x.n x.f (by omega) (by omega) (by omega) x.k,AP,AP];cases (aI L.AX).2;·rw [Bool.not_false,Ar,Ar,Tt (by omega) (by omega),Xd (by omega) (by omega)]
  ·rw [DN,Aq,Aq,Tt (by show L.Bq.length<=_;omega) (by show L.EN.length<=_;omega),Xd (by show L.Bq.length<=_;omega) (by show L.EN.length<=_;omega)]
theorem PBt (k w:AA):xI k w=some (AsM k w):=by
 rw [xI,CA3,mk,AsM,bne];cases hz:(k.size:Int) == 32;·rfl
 rw [beq_iff_eq] at hz;by_cases hw:(w.size:Int) > 20;·rw [Ba hw];rfl
 rw [D6 hw,Apw (s:=w) (by omega),BAr];simp only [AP,WBO (b:=⟨k,true,⟨[]⟩,Nb,[],[],0⟩) (r:=⟨1,EK w,0,⟨0,0,false,false,false,false,⟨#[]⟩,0⟩⟩) (show k.size<=900000000 by omega) (DJ _) (DJ _) (show (0:Int)<=9223372036854775807 by decide)];have hb:AwN k 0 (Gf w)=([⟨1,Awh,(frameT (Si k 1 (ArP (Gf w)).1).1).1,⟨#[]⟩⟩,⟨2,Awh,⟨#[]⟩,⟨#[]⟩⟩],true):=by rw [AwN,show (ArP (Gf w)).2=true by rw [xJ]];rfl
 have h2:(Aqu ⟨[]⟩ (AwN k 0 (Gf w)).1 0).2=2:=by rw [hb];exact FBk (Nat.le_trans (GBK _) (by decide))
 rw [xK];have e1:=IBK w;have e2:(AwN k 0 (Gf w)).2=true:=by rw [hb]
 have e3:(AwN k 0 (Gf w)).1.length=2:=by rw [hb];rfl
 simp only [show (⟨1,EK w,0,⟨0,0,false,false,false,false,⟨#[]⟩,0⟩⟩:Ah)=Gf w from rfl,show Nb.fCount=0 from rfl,e1,e2,e3,h2];rfl
theorem QBt (e:DW):xM e=some (Rt e):=by simp only [xM,EA3,mk,LBM,AP,Rt];show (bif OM e.BA then _ else bif e.JY then bif gy e.BA then _ else _ else _)=_;cases decide ((e.Lc.length:Int)<=30) <;> cases OM e.BA <;> cases e.JY <;> cases gy e.BA <;> rfl
theorem RBt {es:List DW} {a0:AA} {a1:Bool} {a2:AA} {a3 a4:Int} {a5:AA} {a6 a7:Int} {c0:List BQ} {c1:List Af} {c2:List EG} {c3:List CS} {c4:List Int} {c5:List AA} {c6:List D8} {c7:List Ah} (hz:es.length<=1000):∀ (j i m:Nat) (l:Bg),i+j=es.length->
  Vs (m+j+1) (.c1 es (es.length:Int) (i:Int) a0 a1 a2 a3 a4 a5 a6 a7 l.AX.BO l.AX.CZ l.AX.AU.Bv l.AX.AU.DU l.AX.AU.BM l.AX.AU.Dh l.AX.AU.fCount l.AX.CW c0 c1 c2 c3 c4 c5 c6 c7 l.AX.Bc.Ak l.AX.AU.AZ l.AX.BP l.AX.BD l.Bq l.EN l.Cm l.CO)=(Xz (es.drop i) (i:Int) l).bind fun l=>some (l,true):=by
 intro j;induction j with
 | zero=>
  intro i m l hi;rw [Vs];simp only [lC,mk];rw [Jh (by omega),List.drop_of_length_le (by omega)];rfl
 | succ j ih=>
  intro i m l hi;have hlt:i<es.length:=by omega
  have hw:=Fq (i:=i) (by omega);rw [AwB m j,Vs,drop_at hlt,Xz];simp only [lC,mk,hw,BR,getD_at hlt];rw [Ep (by omega),GX (by omega)];cases es[i].JY
  ·rw [Aq,Aq];show (Av6 l es[i] (i:Int)).bind _=_;cases Av6 l es[i] (i:Int) with
   | none=>rfl
   | some l2=>exact ih (i+1) m l2 (by omega)
  ·rw [Ar,Ar];show (Xy l).bind _=_;cases Xy l with
   | none=>rfl
   | some l2=>exact ih (i+1) m l2 (by omega)
def SAs:Bg:=⟨⟨⟨#[]⟩,false,⟨[]⟩,⟨⟨#[]⟩,0,[],0,⟨#[]⟩,0⟩,[],[],0⟩,[],[],[],[]⟩
theorem SBt {w:AA} {es:List DW} {b:Ap} {a0:AA} {a1:Bool} {a2:AA} {a3 a4:Int} {a5:AA} {a6 a7:Int} {c0:List BQ} {c1:List Af} {c2:List EG} {c3:List CS} {c4:List Int} {c5:List AA} {c6:List D8} {c7:List Ah} (hz:es.length<=1000) (hw:w.size<=1000):∀ (j i m:Nat),i+j=es.length->
  Vs (m+es.length+1+j+1) (.c0 w es es (es.length:Int) (i:Int) a0 a1 a2 a3 a4 a5 a6 a7 b.BO b.CZ b.AU.Bv b.AU.DU b.AU.BM b.AU.Dh b.AU.fCount b.CW c0 c1 c2 c3 c4 c5 c6 c7 b.Bc.Ak b.AU.AZ b.BP b.BD)=bif (es.drop i).all Rt then (Xz es 0 ⟨b,[],[],[],[Gf w]⟩).bind fun l=>some (l,true) else some (SAs,false):=by
 intro j;induction j with
 | zero=>
  intro i m hi;rw [Vs];simp only [lC,mk];rw [Jh (by omega),List.drop_of_length_le (by omega),List.all_nil,Ar,Apw (by omega),AP];have h:=RBt (es:=es) (a0:=a0) (a1:=a1) (a2:=a2) (a3:=a3) (a4:=a4) (a5:=a5) (a6:=a6) (a7:=a7) (c0:=c0) (c1:=c1) (c2:=c2) (c3:=c3) (c4:=c4) (c5:=c5) (c6:=c6) (c7:=c7) hz es.length 0 m ⟨b,[],[],[],[Gf w]⟩ (Nat.zero_add _);rw [List.drop_zero] at h;exact h
 | succ j ih=>
  intro i m hi;have hlt:i<es.length:=by omega
  have hw:=Fq (i:=i) (by omega);rw [show m+es.length+1+(j+1)+1=(m+es.length+1+j+1)+1 from rfl,Vs,drop_at hlt,List.all_cons];simp only [lC,mk,hw,BR,getD_at hlt];rw [Ep (by omega),GX (by omega),QBt,AP];cases Rt es[i];·rfl
  ·rw [DN,Aq,Bool.true_and];exact ih (i+1) m (by omega)
theorem TBt {k w:AA} {es:List DW} (hz:es.length<=1000) (hw:w.size<=1000):lD k w es=bif (AsM k w).2 && decide (es.length<=40) then (bif es.all Rt then (Xz es 0 (ES k w)).bind fun l=>some (l,true) else some (SAs,false)) else some (SAs,false):=by
 rw [lD,YA7,mk,PBt,AP];cases (AsM k w).2;·rfl
 ·rw [DN,Aq,Bool.true_and];by_cases h:es.length<=40
  ·rw [Jh (by omega),Ba h,Ar];obtain ⟨m,hm⟩:∃ m,AY=m+es.length+1+es.length+1:=⟨AY - (es.length+1+es.length+1),by have:=FM (n:=es.length+1+es.length+1) (by omega);omega⟩
   rw [hm];exact SBt hz hw es.length 0 m (Nat.zero_add _)
  ·rw [Ep (by omega),D6 h];rfl
theorem ZBR {k w:AA} (hw:w.size<=1000):aJ k w=some (bif (AsM k w).2 then (ES k w,true) else (SAs,false)):=by
 rw [aJ,IAw,mk,GBk,AP];cases (AsM k w).2;·rfl
 ·rw [DN,Aq,LV (by omega)];rfl
noncomputable def Uf:List DW->Int->Bg->Option Bg
 | [],_,l=>some l
 | e::es,i,l=>(Q7 l i e).bind (Uf es (i+1))
theorem UBt {k:AA} {es:List DW} {a0:AA} {a1:Bool} {a2:AA} {a3 a4:Int} {a5:AA} {a6 a7:Int} {c0:List BQ} {c1:List Af} {c2:List EG} {c3:List CS} {c4:List Int} {c5:List AA} {c6:List D8} {c7:List Ah} (hz:es.length<=40) (he:∀ e ∈ es,N8 e):∀ (j i m:Nat) (r:List Ah) (l:Bg),i+j=es.length->AzZ k r l->l.Bq.length=i->
  Vt (m+j+1) (.c1 es (i:Int) a0 a1 a2 a3 a4 a5 a6 a7 l.AX.BO l.AX.CZ l.AX.AU.Bv l.AX.AU.DU l.AX.AU.BM l.AX.AU.Dh l.AX.AU.fCount l.AX.CW c0 c1 c2 c3 c4 c5 c6 c7 l.AX.Bc.Ak l.AX.AU.AZ l.AX.BP l.AX.BD l.Bq l.EN l.Cm l.CO)=(Uf (es.drop i) (i:Int) l).bind fun l=>some (l,true):=by
 intro j;induction j with
 | zero=>
  intro i m r l hi h hc;rw [Vt];simp only [lF,mk];rw [Jh (by omega),List.drop_of_length_le (by omega)];show (Xv l.AX).bind _=_;rw [PBR h.bx.z];rfl
 | succ j ih=>
  intro i m r l hi h hc;have hlt:i<es.length:=by omega
  have hw:=Fq (i:=i) (by omega);obtain ⟨r1,l1,s1,s2⟩:=RAs h (he _ (List.getElem_mem hlt)) (by omega)
  rw [hc] at s1;obtain ⟨g1,g2⟩:=JAs h (by omega) s2
  rw [AwB,Vt,drop_at hlt,Uf,s1];simp only [lF,mk,hw,BR,getD_at hlt];rw [Ep (by omega),GX (by omega)];show (Q7 l (i:Int) es[i]).bind _=_;rw [s1];exact ih (i+1) m r1 l1 (by omega) g1 (by omega)
theorem TAs {k w:AA} (hk:k.size=32) (hw:w.size<=20):AzZ k [Gf w] (ES k w):=by
 obtain ⟨s,_,h3,_⟩:=DBP hk hw
 exact ⟨.inl s.good,rfl,⟨Nat.le_refl _,rfl,Nat.le_refl _⟩,by omega⟩
theorem AVs {k w:AA} {es:List DW} (hk:k.size=32) (hw:w.size<=20) (hz:es.length<=40) (he:∀ e ∈ es,N8 e):aK k w es=(Uf es 0 (ES k w)).bind fun l=>some (l,true):=by
 have hn:(AsM k w).2=true:=(rU hk hw).1
 have key:=Wj (L:=Vt) (r:=(Uf es 0 (ES k w)).bind fun l=>some (l,true)) (fun i:Nat=>lG.c0 es true (i:Int) ⟨#[]⟩ false ⟨#[]⟩ 0 0 ⟨#[]⟩ 0 0 (ES k w).AX.BO (ES k w).AX.CZ (ES k w).AX.AU.Bv (ES k w).AX.AU.DU (ES k w).AX.AU.BM (ES k w).AX.AU.Dh (ES k w).AX.AU.fCount (ES k w).AX.CW [] [] [] [] [] [] [] [] (ES k w).AX.Bc.Ak (ES k w).AX.AU.AZ (ES k w).AX.BP (ES k w).AX.BD (ES k w).Bq (ES k w).EN (ES k w).Cm (ES k w).CO) es.length (es.length+1) (by omega) (fun m=>by
  rw [Vt];simp only [lF,mk];rw [Jh (by omega),DN,Aq];exact UBt hz he es.length 0 m [Gf w] (ES k w) (Nat.zero_add _) (TAs hk hw) rfl) fun i hi m=>by
  have hw:=Fq (i:=i) (by omega);rw [Vt];simp only [lF,mk,hw,BR,getD_at hi];rw [Ep (by omega),Ar,Ep (by omega),GX (by omega),LBp,AP,(he _ (List.getElem_mem hi)).1]
 rw [aK,CA8,mk,ZBR (by omega),hn,Ar,AP];omega
structure vU (r:PO):Prop where
 k:r.BO.size=32
 w:r.Bv.size<=20
 n:r.wG.length<=39
 e:∀ e ∈ r.wG,N8 e
theorem VBt {K w:AA} {x1 x2:AA} {x3:List DW} {n:Nat} (hK:K.size=32) (hw:w.size<=20) (hn:n<=39):∀ (j i m:Nat) (ci h:Int) (es:List DW) (r:List Ah) (l:Bg),i+j=n->0<=ci->es.length=i->(∀ e ∈ es,N8 e)->AzZ K r l->l.Bq.length=i->
  Ok (X0 (m+j+1) (.c0 (n:Int) (i:Int) ci h x1 x2 K w l.AX.BO l.AX.CZ l.AX.AU.Bv l.AX.AU.DU l.AX.AU.BM l.AX.AU.Dh l.AX.AU.fCount l.AX.CW x3 es l.AX.Bc.Ak l.AX.AU.AZ l.AX.BP l.AX.BD l.Bq l.EN l.Cm l.CO)) fun r=>vU r.1/\HY r.2:=by
 intro j;induction j with
 | zero=>
  intro i m ci h es r l hi hc hl he g hg;rw [X0];simp only [OAl,mk];rw [Jh (by omega)];exact Ok.ret ⟨⟨hK,hw,by simp_all,he⟩,hc⟩
 | succ j ih=>
  intro i m ci h es r l hi hc hl he g hg;have hup:=Fq (i:=i) (by omega);rw [AwB,X0];simp only [OAl,mk,hup];rw [Ep (by omega)];have one:∀ (c:DZ) (e:DW),HY c->N8 e->Ok ((Q7 l (i:Int) e).bind fun r2=>bif decide ((es.length+1)*96<=140737488355328) then X0 (m+j+1) (.c0 (n:Int) ((i+1:Nat):Int) c.fI c.AyA x1 x2 K w r2.AX.BO r2.AX.CZ r2.AX.AU.Bv r2.AX.AU.DU r2.AX.AU.BM r2.AX.AU.Dh r2.AX.AU.fCount r2.AX.CW x3 (es++[e]) r2.AX.Bc.Ak r2.AX.AU.AZ r2.AX.BP r2.AX.BD r2.Bq r2.EN r2.Cm r2.CO) else none) fun r=>vU r.1/\HY r.2:=by
   intro c e hc he1;obtain ⟨r1,l1,s3,s2⟩:=RAs g he1 (by omega)
   obtain ⟨g1,g2⟩:=JAs g (by omega) s2
   rw [hg] at s3;rw [s3,AP,Ep (by omega)];refine ih (i+1) m _ _ _ r1 l1 (by omega) hc (by simp_all) (fun x hx=>?_) g1 (by omega);grind
  refine Ok.bind (ZBr (c:=⟨(),ci,h⟩) (l:=l) hc g.db) fun a ha=>?_
  obtain ⟨ev,Hm,L⟩:=a
  obtain ⟨a1,a2,a3⟩:=ha
  grind [YBr,LBQ]
theorem WBt {c:DZ} (hc:HY c):Ok (PAl c ()) fun r=>vU r.1/\HY r.2:=by
 have hl:KI.length<=140737488351232:=PC.hl;have e39:(39:Int)=((39:Nat):Int):=rfl;have h8:AV (8+AV ((KI.length:Int).tdiv 12))=((8+KI.length / 12:Nat):Int):=by grind [A8]
 rw [PAl,BA1,mk,h8];refine Ok.bind (OO hc) fun a ha=>Ok.bind (KBg (by omega) (by omega)) fun K hK=>?_
 have hK2:K.size=32:=by omega
 have hw:(⟨#[119]⟩:AA).size<=20:=by decide
 rw [ZBR (by decide),(rU hK2 hw).1,Ar,AP];have go:∀ n:Nat,n<=39->Ok (X0 AY (.c0 (n:Int) ((0:Nat):Int) a.2.fI a.2.AyA ⟨#[]⟩ ⟨#[]⟩ K ⟨#[119]⟩ (ES K ⟨#[119]⟩).AX.BO (ES K ⟨#[119]⟩).AX.CZ (ES K ⟨#[119]⟩).AX.AU.Bv (ES K ⟨#[119]⟩).AX.AU.DU (ES K ⟨#[119]⟩).AX.AU.BM (ES K ⟨#[119]⟩).AX.AU.Dh (ES K ⟨#[119]⟩).AX.AU.fCount (ES K ⟨#[119]⟩).AX.CW [] [] (ES K ⟨#[119]⟩).AX.Bc.Ak (ES K ⟨#[119]⟩).AX.AU.AZ (ES K ⟨#[119]⟩).AX.BP (ES K ⟨#[119]⟩).AX.BD (ES K ⟨#[119]⟩).Bq (ES K ⟨#[119]⟩).EN (ES K ⟨#[119]⟩).Cm (ES K ⟨#[119]⟩).CO)) fun r=>vU r.1/\HY r.2:=fun n hn=>by
  obtain ⟨m,hm⟩:=gm (n:=n) (by omega)
  rw [hm];exact VBt hK2 hw hn n 0 m _ _ [] [Gf ⟨#[119]⟩] _ (Nat.zero_add _) ha.2 rfl (fun e h=>by cases h) (TAs hK2 hw) rfl
 exact Ok.cond (fun _=>go 39 (Nat.le_refl _)) fun h=>go _ (by grind)
def leafs (xs:List D8) (t:Int):List Int:=(xs.filter fun g=>g.Ag == t).map (·.Dv)
theorem BBS (x:D8) (xs:List D8) (t:Int):leafs (x::xs) t=(if (x.Ag == t)=true then [x.Dv] else [])++leafs xs t:=by unfold leafs;rw [List.filter_cons];split <;> simp
theorem XBt {a:List D8} {t:Int} (h:a.length*24<=140737488355328):IAp a t=some (leafs a t):=by
 have key:∀ m i out,i<=a.length->a.length - i<m->out.length<=i->aO m (.c0 t a a.length i out)=some (out++leafs (a.drop i) t):=fun m i out h1 h2 h3=>
  PV (A:=List Int) (n:=a.length) (Lp:=aO) (st:=fun i out=>.c0 t a a.length i out) (Inv:=fun i out=>out.length<=i) (out:=fun i out=>some (out++leafs (a.drop i) t))
   (fun m out _=>by simp [aO,HAp,mk,leafs])
   (fun m i out hi ho=>by
    have hw:=Fq (i:=i) (by omega);have hb:(out.length+1)*8<=140737488355328:=by omega
    simp only [aO,HAp,mk,BR,getD_at hi,hw,drop_at hi,BBS];cases a[i].Ag == t;·exact .inr ⟨out,by simp [hi],by omega,by simp⟩
    ·exact .inr ⟨out++[a[i].Dv],by simp [hi,hb],by simp;omega,by simp⟩) m i out h1 h2 h3
 have h0:=key AY 0 [] (DJ _) (FM (by omega)) (Nat.le_refl _);exact h0
theorem YBt {a:List D8} {t:Int} (h:a.length*24<=140737488355328):KAp a t=some (leafs a t):=by
 have key:∀ m i out,i<=a.length->a.length - i<m->out.length<=i->aP m (.c0 a t i out)=some (out++leafs (a.drop i) t):=fun m i out h1 h2 h3=>
  PV (A:=List Int) (n:=a.length) (Lp:=aP) (st:=fun i out=>.c0 a t i out) (Inv:=fun i out=>out.length<=i) (out:=fun i out=>some (out++leafs (a.drop i) t))
   (fun m out _=>by simp [aP,JAp,mk,leafs])
   (fun m i out hi ho=>by
    have hw:=Fq (i:=i) (by omega);have hb:(out.length+1)*8<=140737488355328:=by omega
    simp only [aP,JAp,mk,BR,getD_at hi,hw,drop_at hi,BBS];cases a[i].Ag == t;·exact .inr ⟨out,by simp [hi],by omega,by simp⟩
    ·exact .inr ⟨out++[a[i].Dv],by simp [hi,hb],by simp;omega,by simp⟩) m i out h1 h2 h3
 have h0:=key AY 0 [] (DJ _) (FM (by omega)) (Nat.le_refl _);exact h0
theorem ZBt {a:List Int} (h:a.length<=1000000):xO a a=some true:=by
 have key:∀ (j i m:Nat),i+j=a.length->lH (m+j+1) (.c0 a a (i:Int))=some true:=by
  intro j;induction j with
  | zero=>
   intro i m hi;rw [lH];simp only [LAp,mk];rw [Jh (by omega)]
  | succ j ih=>
   intro i m hi;have hw:=Fq (i:=i) (by omega);rw [AwB m j,lH];simp only [LAp,mk];rw [Ep (by omega),GX (by omega),GX (by omega),BF (bne_self_eq_false _),hw];exact ih (i+1) m (by omega)
 obtain ⟨m,hm⟩:=gm (n:=a.length) (by omega)
 rw [xO,DA8,mk,BF (bne_self_eq_false _),hm];exact key a.length 0 m (Nat.zero_add _)
theorem UAs {a b:AA} {i j:Nat} (hi:a.size<=i) (h:i<=j):(a++b).extract i j=b.extract (i - a.size) (j - a.size):=by refine Aq3 ?_;have:=bs_len a;rw [Ap3,Ap3,Fa,List.take_append,List.drop_append,List.take_of_length_le (by omega),List.drop_of_length_le (by omega),this,List.nil_append]
theorem OBC {a b:AA} {i j:Nat} (h:j<=a.size):(a++b).extract i j=a.extract i j:=by refine Aq3 ?_;have:=bs_len a;rw [Ap3,Ap3,Fa,List.take_append,show j - (bs a).length=0 by omega,List.take_zero,List.append_nil]
theorem VAs {a:AA} {j:Nat} (h:j=a.size):a.extract 0 j=a:=by refine Aq3 ?_;have:=bs_len a;rw [Ap3,List.drop_zero,List.take_of_length_le (by omega)]
theorem CBS:∀ {l:List AA} {i:Nat},(∀ x ∈ l,x.size=4)->(hi:i<l.length)->(Nc l).extract (4*i) (4*i+4)=l[i]
 | x::xs,0,h,_=>by have:=h x (List.mem_cons_self ..);rw [Nc,OBC (by omega),VAs (by omega)];rfl
 | x::xs,i+1,h,hi=>by have:=h x (List.mem_cons_self ..);rw [Nc,UAs (by omega) (by omega),show 4*(i+1) - x.size=4*i by omega,show 4*(i+1)+4 - x.size=4*i+4 by omega,CBS (fun y hy=>h y (List.mem_cons_of_mem _ hy)) (Nat.lt_of_succ_lt_succ hi)];rfl
theorem DBS {s:IL} (h:OT s):lI (Ro s)=some (s,true):=by
 obtain ⟨l1,s1⟩:=h.once
 obtain ⟨l2,s2⟩:=h.path
 obtain ⟨f1,f2⟩:=h.leaf
 have hz:=Zt h;have hbs:bs (Ro s)=s.Dv::bs (Nc s.Fg++Nc s.Gn):=by rw [Ro,Vj,Fa,b1,Avo (fun n hn=>by rw [List.mem_singleton] at hn;omega)];rfl
 have hb:bt (Ro s) ((0:Nat):Int)=s.Dv:=by rw [Zo (by omega)];simp [hbs]
 have hb:bt (Ro s) 0=s.Dv:=hb;have hsz:∀ x ∈ s.Fg++s.Gn,x.size=4:=fun x hx=>(List.mem_append.1 hx).elim (s1 x) (s2 x)
 have hat:∀ i (hi:i<(s.Fg++s.Gn).length),(Ro s).extract (1+4*i) (1+4*i+4)=(s.Fg++s.Gn)[i]:=fun i hi=>by rw [Ro,Vj,UAs (by rw [Avr];omega) (by omega),Avr,<-tZ,show 1+4*i - 1=4*i by omega,show 1+4*i+4 - 1=4*i+4 by omega,CBS hsz hi]
 rw [lI,EA8,mk,BF (by rw [hz];rfl),hz,AL (by rfl),hb,A8 (by omega) (by omega),Jh (by omega),AL (by rfl),show ([]:List AA)=s.Fg.take 0 from rfl];refine Wj (L:=lJ) (fun i:Nat=>lK.c0 (Ro s) (i:Int) 0 s.Dv (s.Fg.take 0) (s.Fg.take 0) (s.Fg.take i) (s.Gn.take (i - 10))) 12 0 (by omega) (fun m=>?_) fun i hi m=>?_
 ·rw [lJ];simp only [MAp,mk];rw [Jh (by omega),List.take_of_length_le (by omega),List.take_of_length_le (by omega)]
 ·have e1:AV (1+AV ((i:Int)*4))=((1+4*i:Nat):Int):=by rw [A8 (n:=(i:Int)*4) (by omega) (by omega),A8 (by omega) (by omega)];omega
  have e2:AV (1+AV (((i+1:Nat):Int)*4))=((1+4*i+4:Nat):Int):=by rw [A8 (n:=((i+1:Nat):Int)*4) (by omega) (by omega),A8 (by omega) (by omega)];omega
  have hlen:(s.Fg++s.Gn).length=12:=by rw [List.length_append,l1,l2]
  have hx:=hat i (by omega);rw [lJ];simp only [MAp,mk,Fq (i:=i) (by omega),e1,e2,BR,hx];rw [Ep (by omega),AL (by simp only [Bool.and_eq_true,decide_eq_true_eq];omega)];by_cases h10:i<10
  ·have hi1:i<s.Fg.length:=by omega
   rw [Ep (by omega),Ep (by rw [List.length_take];omega),List.getElem_append_left hi1,take_at hi1,show i - 10=0 by omega,show i+1 - 10=0 by omega]
  ·have hi1:i - 10<s.Gn.length:=by omega
   rw [Jh (by omega),Ep (by rw [List.length_take];omega),List.getElem_append_right (by omega),show s.Fg.take i=s.Fg.take (i+1) by rw [List.take_of_length_le (by omega),List.take_of_length_le (by omega)],show i+1 - 10=(i - 10)+1 by omega];have ht:=take_at hi1;simp only [l1] at *
   rw [ht]
theorem Aai {s m:AA} {i:Int} (hi:0<=i/\i<=15):xP (Arh (H7 s i m))=some (H7 s i m,true):=by
 have h1:OT (H7 s i m).QU:=Xk (by omega);have h2:OT (H7 s i m).QV:=Xk (by omega);have h3:(H7 s i m).QS.size=4:=uO _;generalize H7 s i m=h at h1 h2 h3;have z1:=Zt h1;have z2:=Zt h2;have hz:(Arh h).size=102:=by rw [Arh,ByteArray.size_append,ByteArray.size_append];omega
 have x1:(Arh h).extract 0 49=Ro h.QU:=by rw [Arh,Vj,OBC (by omega),VAs z1.symm]
 have x2:(Arh h).extract 53 102=Ro h.QV:=by rw [Arh,UAs (by rw [ByteArray.size_append];omega) (by omega),ByteArray.size_append,z1,h3,VAs (by omega)]
 have x3:(Arh h).extract 49 53=h.QS:=by rw [Arh,Vj,UAs (by omega) (by omega),z1,OBC (by omega),VAs (by omega)]
 have w1:AV ((AV ((2:Int)*(49:Int)))+4)=102:=by decide
 have w2:AV ((49:Int)+(4:Int))=53:=by decide
 rw [xP,FA8,mk,w1,w2,hz,BF (by rfl),AL (by rfl)];show (lI ((Arh h).extract 0 49)).bind _=_;rw [x1,DBS h1,AP,AL (by rfl)];show (lI ((Arh h).extract 53 102)).bind _=_;rw [x2,DBS h2,AP];dsimp only;rw [DN,Aq,Aq,AL (by rfl)];show some ((⟨h.QU,(Arh h).extract 49 53,h.QV⟩:Nl),true)=_;rw [x3]
theorem BBu {s m:AA} {i:Int} (hi:0<=i/\i<=15):xQ (H7 s i m)=some i:=by have h1:OT (H7 s i m).QU:=Xk (by omega);have h2:OT (H7 s i m).QV:=Xk (by omega);rw [xQ,GA8,mk,GBC h1,AP,DN,Aq,GBC h2,AP,DN,Aq];show some (AV ((AV (4*(i / 4)))+i % 4))=_;rw [A8 (n:=4*(i / 4)) (by omega) (by omega),A8 (by omega) (by omega)];congr 1;omega
theorem EBS {k:AA} {P:List Ah->Bg->Prop}:∀ {es:List DW} {l:List Ah} {L:Bg},(∀ e ∈ es,N8 e)->(∀ l L l' L' e,e ∈ es->AzZ k l L->P l L->Step k e l L l' L'->P l' L')->AzZ k l L->P l L->L.Bq.length+es.length<=45->
  ∃ l' L',Uf es (L.Bq.length:Int) L=some L'/\AzZ k l' L'/\P l' L'/\L'.Bq.length=L.Bq.length+es.length
 | [],l,L,_,_,h,hp,_=>⟨l,L,rfl,h,hp,rfl⟩
 | e::es,l,L,he,hs,h,hp,hn=>by
  rw [List.length_cons] at hn;obtain ⟨l1,L1,s1,s2⟩:=RAs h (he e (List.mem_cons_self ..)) (by omega)
  obtain ⟨g1,g2⟩:=JAs h (by omega) s2
  obtain ⟨l2,L2,r1,r2,r3,r4⟩:=EBS (fun e h=>he e (List.mem_cons_of_mem _ h)) (fun l L l' L' e h=>hs l L l' L' e (List.mem_cons_of_mem _ h)) g1 (hs _ _ _ _ e (List.mem_cons_self ..) h hp s2) (by omega)
  grind [Uf]
theorem FBS {k:AA}:∀ {es:List DW} {l:List Ah} {L:Bg},(∀ e ∈ es,N8 e)->AzZ k l L->L.Bq.length+es.length<=45->Xz es (L.Bq.length:Int) L=Uf es (L.Bq.length:Int) L
 | [],_,_,_,_,_=>rfl
 | e::es,l,L,he,h,hn=>by
  rw [List.length_cons] at hn;obtain ⟨l1,L1,s1,s2⟩:=RAs h (he e (List.mem_cons_self ..)) (by omega)
  obtain ⟨g1,g2⟩:=JAs h (by omega) s2
  have ih:=FBS (fun e h=>he e (List.mem_cons_of_mem _ h)) g1 (by omega);rw [g2] at ih;rw [Xz,<-OBt h (he e (List.mem_cons_self ..)) (by omega),Uf,s1,AP,AP];exact ih
theorem CBu:Ok (xR ()) fun r=>r.1.size=32/\r.2.1.size<=20/\r.2.2.length<=39/\∀ e ∈ r.2.2,N8 e:=by rw [xR,CA1,mk];exact Ok.bind JBg fun c hc=>Ok.bind (WBt hc) fun a ha=>Ok.ret ⟨ha.1.k,ha.1.w,ha.1.n,ha.1.e⟩
theorem DBu {P:List Ah->Bg->Prop} {k w:AA} {es:List DW} (hk:k.size=32) (hw:w.size<=20) (hn:es.length<=39) (he:∀ e ∈ es,N8 e) (h0:P [Gf w] (ES k w)) (hs:∀ l L l' L' e,e ∈ es->AzZ k l L->P l L->Step k e l L l' L'->P l' L'):∃ l L,aK k w es=some (L,true)/\AzZ k l L/\P l L/\L.Bq.length=es.length:=by
 obtain ⟨l,L,h1,h2,h3,h4⟩:=EBS he hs (TAs hk hw) h0 (by show 0+es.length<=45;omega)
 grind [ES,AVs]
theorem EBu {k w:AA} {es:List DW} (hk:k.size=32) (hw:w.size<=20) (hn:es.length<=39) (he:∀ e ∈ es,N8 e):lD k w es=aK k w es:=by
 have h1:Xz es 0 (ES k w)=Uf es 0 (ES k w):=FBS he (TAs hk hw) (by show 0+es.length<=45;omega);have hall:es.all Rt=true:=List.all_eq_true.2 fun e h=>(he e h).1
 rw [TBt (by omega) (by omega),(rU hk hw).1,Ba (by omega:es.length<=40),hall,AVs hk hw (by omega) he,h1];rfl
def aQ (l:List Ah) (t:Int):Nat->Nat->Int->Int
 | 0,_,n=>n
 | j+1,i,n=>aQ l t j (i+1) (bif (l.getD i ⟨0,⟨#[]⟩,0,⟨0,0,false,false,false,false,⟨#[]⟩,0⟩⟩).Aj == 3 && (l.getD i ⟨0,⟨#[]⟩,0,⟨0,0,false,false,false,false,⟨#[]⟩,0⟩⟩).Ag.fId == t then (l.getD i ⟨0,⟨#[]⟩,0,⟨0,0,false,false,false,false,⟨#[]⟩,0⟩⟩).Ag.fNext else n)
def lastOf (l:List Ah) (t:Int):Int:=aQ l t l.length 0 0
theorem FBu (l:List Ah) (r:Ah) (t:Int):∀ (j i:Nat) (n:Int),i+j=l.length->aQ (l++[r]) t (j+1) i n=bif r.Aj == 3 && r.Ag.fId == t then r.Ag.fNext else aQ l t j i n:=by
 intro j;induction j with
 | zero=>
  intro i n h;have e:(l++[r]).getD i ⟨0,⟨#[]⟩,0,⟨0,0,false,false,false,false,⟨#[]⟩,0⟩⟩=r:=by rw [getD_at (by rw [List.length_append,List.length_singleton];omega),List.getElem_append_right (by omega)];simp
  have e2:aQ (l++[r]) t (0+1) i n=bif ((l++[r]).getD i ⟨0,⟨#[]⟩,0,⟨0,0,false,false,false,false,⟨#[]⟩,0⟩⟩).Aj == 3 && ((l++[r]).getD i ⟨0,⟨#[]⟩,0,⟨0,0,false,false,false,false,⟨#[]⟩,0⟩⟩).Ag.fId == t then ((l++[r]).getD i ⟨0,⟨#[]⟩,0,⟨0,0,false,false,false,false,⟨#[]⟩,0⟩⟩).Ag.fNext else n:=rfl
  rw [e2,e];rfl
 | succ j ih=>
  intro i n h;have e:(l++[r]).getD i ⟨0,⟨#[]⟩,0,⟨0,0,false,false,false,false,⟨#[]⟩,0⟩⟩=l.getD i ⟨0,⟨#[]⟩,0,⟨0,0,false,false,false,false,⟨#[]⟩,0⟩⟩:=by rw [getD_at (by rw [List.length_append,List.length_singleton];omega),getD_at (by omega),List.getElem_append_left (by omega)]
  rw [aQ,e,ih (i+1) _ (by omega)];conv=>rhs;rw [aQ]
theorem PBC (l:List Ah) (r:Ah) (t:Int):lastOf (l++[r]) t=bif r.Aj == 3 && r.Ag.fId == t then r.Ag.fNext else lastOf l t:=by rw [lastOf,List.length_append,List.length_singleton,FBu l r t l.length 0 0 (Nat.zero_add _)];rfl
theorem rQ {b:Bo} {r:Ah} (h:(RZ b r).2=true):(r.Aj≠3/\r.Aj≠4/\(RZ b r).1.AZ=b.AZ/\(RZ b r).1.BM=b.BM)\/(r.Aj=3/\∃ o,Aqg b.AZ r.Ag.fId=some o/\grown o r.Ag=true/\(RZ b r).1.AZ=putAt b.AZ r.Ag/\(RZ b r).1.BM=b.BM)\/(r.Aj=3/\(RZ b r).1.AZ=b.AZ++[r.Ag]/\r.Ag.fId=b.BM+1/\(RZ b r).1.BM=b.BM+1)\/(r.Aj=4/\(RZ b r).1.AZ=without b.AZ r.DR/\(RZ b r).1.BM=b.BM):=by
 have h2:=(Arn h).2.1;rw [RZ] at h ⊢;cases hc:(!(G9 b) || (!(ArP r).2 || decide (b.fCount>=10000)))
 ·rw [hc] at h;simp only [Aq] at h ⊢;rcases lM h2 with ⟨hk,hz⟩ | ⟨hk,hz⟩ | ⟨hk,hz⟩ | ⟨hk,hz⟩
  ·rw [hk];exact .inl ⟨by decide,by decide,rfl,rfl⟩
  ·rw [hk];exact .inl ⟨by decide,by decide,rfl,rfl⟩
  ·rw [hk] at h ⊢;simp only [show ((3:Int) == 1)=false from rfl,show ((3:Int) == 2)=false from rfl,show ((3:Int) == 3)=true from rfl,Ar,Aq] at h ⊢;rw [Ug] at h ⊢;cases ht:Aqg b.AZ r.Ag.fId with
   | some o=>
    rw [ht] at h;simp only at h ⊢;cases hg:grown o r.Ag;·rw [hg] at h;cases h
    ·exact .inr (.inl ⟨trivial,o,rfl,hg,rfl,rfl⟩)
   | none=>
    rw [ht] at h;simp only at h ⊢;cases hg:(r.Ag.fId != b.BM+1 || decide ((b.AZ.length:Int)>=8))
    ·rw [Bool.or_eq_false_iff,bne_eq_false_iff_eq] at hg;exact .inr (.inr (.inl ⟨trivial,rfl,hg.1,hg.1⟩))
    ·rw [hg] at h;cases h
  ·rw [hk] at h ⊢;simp only [show ((4:Int) == 1)=false from rfl,show ((4:Int) == 2)=false from rfl,show ((4:Int) == 3)=false from rfl,Aq] at h ⊢;cases ht:Aqg b.AZ r.DR with
   | none=>rw [ht] at h;cases h
   | some x=>exact .inr (.inr (.inr ⟨trivial,rfl,rfl⟩))
 ·rw [hc] at h;cases h
def NB (l:List Ah) (b:Bo):Prop:=∀ x ∈ b.AZ,lastOf l x.fId=x.fNext
theorem GBS {l:List Ah} {b:Bo} {r:Ah} (hn:NB l b) (h:(RZ b r).2=true):NB (l++[r]) (RZ b r).1:=by
 have hr:=(G7.1 (Arn h).1).2.2.2.2.2.2;intro x hx;rw [PBC];rcases rQ h with ⟨k3,_,e,_⟩ | ⟨k3,o,ho,_,e,_⟩ | ⟨k3,e,hid,_⟩ | ⟨k4,e,_⟩
 ·rw [beq_eq_false_iff_ne.2 k3];exact hn x (by rw [<-e];exact hx)
 ·rw [k3];rw [e,putAt,List.mem_append,List.mem_cons,AwK,TU,List.mem_filter,List.mem_filter,decide_eq_true_eq,decide_eq_true_eq] at hx;rcases hx with ⟨h1,h2⟩ | rfl | ⟨h1,h2⟩
  ·rw [beq_eq_false_iff_ne.2 (by omega:r.Ag.fId≠x.fId),Bool.and_false];exact hn x h1
  ·rw [beq_self_eq_true,beq_self_eq_true];rfl
  ·rw [beq_eq_false_iff_ne.2 (by omega:r.Ag.fId≠x.fId),Bool.and_false];exact hn x h1
 ·rw [k3];rw [e,List.mem_append,List.mem_singleton] at hx;rcases hx with h1 | rfl
  ·have:=AqL hr x h1;rw [beq_eq_false_iff_ne.2 (by omega:r.Ag.fId≠x.fId),Bool.and_false];exact hn x h1
  ·rw [beq_self_eq_true,beq_self_eq_true];rfl
 ·rw [k4];rw [e,without,List.mem_filter] at hx;exact hn x hx.1
theorem HBS {l:List Ah} {b:Bo} {r:Ah} {t:Int} (hn:NB l b) (h:(RZ b r).2=true) (ht:t<=b.BM):lastOf l t<=lastOf (l++[r]) t:=by
 rw [PBC];cases hq:r.Aj == 3 && r.Ag.fId == t;·exact Int.le_refl _
 ·rw [Ar];rw [Bool.and_eq_true,beq_iff_eq,beq_iff_eq] at hq;rcases rQ h with ⟨k3,_⟩ | ⟨_,o,ho,hg,_⟩ | ⟨_,_,hid,_⟩ | ⟨k4,_⟩
  ·exact absurd hq.1 k3
  ·obtain ⟨e1,e2⟩:o.fId=r.Ag.fId/\o ∈ b.AZ:=by rw [Aqg] at ho;have h9:=List.find?_some ho;exact ⟨beq_iff_eq.1 h9,List.mem_of_find?_eq_some ho⟩
   have h1:=hn o e2;have h2:=(KBA hg).2.2.2.2;rw [e1,hq.2] at h1;omega
  ·omega
  ·omega
def stay (x y:Af):Bool:=x.Aj == y.Aj && ((bs x.fValue == bs y.fValue) && ((!x.CY || y.CY) && ((!x.CX || y.CX) && !decide (y.fNext<x.fNext))))
end Go.Proofs.YtkbbicgglblfiaaGreatDoor.G
