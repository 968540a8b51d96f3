/- The plain law of FnKept: whatever the arguments, it answers true. Conditions: what is read is in reach. Part 3 of 4. -/
import Derived.Test.YtkbbicgglblfiaaGreatDoorPureFnKeptb
namespace Go.Proofs.YtkbbicgglblfiaaGreatDoor.G
open Go Go.Ev
set_option linter.unusedVariables false
set_option linter.unusedSimpArgs false
set_option linter.unusedSectionVars false
variable [PC]
theorem UBQ {S:AA} {p n:Nat} {x:F6} (hS:S.size=200) (h:Aqf S p x) (hn:n<=4000):∃ x',ZU x (n:Int)=some (x',ofBytes (up (Qc S p n)))/\Aqf S (p+n) x':=by
 have key:∀ (r m:Nat) (x:F6) (v:F6) (o:List Nat),n - o.length=r->r<m->o.length<=n->Aqf S (p+o.length) x->∃ x',gW m (.c0 (n:Int) (ofBytes (up o)) x v)=some (x',ofBytes (up (o++Qc S (p+o.length) (n - o.length))))/\Aqf S (p+n) x':=by
  intro r;induction r using Nat.strongRecOn with
  | ind r ih=>
  intro m x v o hr hm ho hx;obtain ⟨m,rfl⟩:∃ m',m=m'+1:=⟨m - 1,by omega⟩
  have hos:(ofBytes (up o)).size=o.length:=by rw [Dj,Dt]
  rw [gW];simp only [XA6,mk];by_cases hlt:o.length<n
  ·have en:AV ((n:Int) - ((ofBytes (up o)).size:Int))=((n - o.length:Nat):Int):=by grind [wn]
   rw [AL (by simp_all)];have go:∀ (q a k:Nat),168*q+a=p+o.length->a+k<=168->0<k->k<=n - o.length->∃ x',gW m (.c0 (n:Int) (ofBytes (up o)++(H9 S q).extract a (a+k)) ⟨H9 S q,((a+k:Nat):Int)⟩ v)=some (x',ofBytes (up (o++Qc S (p+o.length) (n - o.length))))/\Aqf S (p+n) x':=by
    intro q a k h1 h2 h3 h4;rw [<-AbK ((H9 S q).extract a (a+k)),chunk hS h2,BBq,h1];have hl:(o++Qc S (p+o.length) k).length=o.length+k:=by simp [IAs]
    obtain ⟨x',e1,e2⟩:=ih (n - (o.length+k)) (by omega) m ⟨H9 S q,((a+k:Nat):Int)⟩ v (o++Qc S (p+o.length) k) (by rw [hl]) (by omega) (by omega) ⟨q,a+k,rfl,by omega,h2⟩
    refine ⟨x',?_,e2⟩;rw [e1,hl,List.append_assoc,<-Nat.add_assoc,SBO,show k+(n - (o.length+k))=n - o.length by omega]
   obtain ⟨q,a,rfl,ha,ha2⟩:=hx
   have hz:=ZV hS q;have hz2:=ZV hS (q+1);have big:∀ (T:AA) (i j:Nat),T.size=200->decide ((ofBytes (up o)).size+(T.extract i j).size<=9223372036854775807)=true:=fun T i j hT=>by grind [ByteArray.size_extract]
   dsimp only;by_cases C3:a=168
   ·subst C3;rw [AL (by rfl),SBQ hz,AP,show ZW (H9 S q)=H9 S (q+1) from rfl,en,show AV ((168:Int) - (0:Int))=168 by decide];by_cases hk:168<n - o.length;·have b1:=big (H9 S (q+1)) 0 (0+168) hz2;rw [if_pos (show (168:Int)<((n - o.length:Nat):Int) by omega),show AV (0+168)=((0+168:Nat):Int) by decide,show (0:Int).toNat=0 from rfl,BR,AL (by rw [Bool.and_eq_true,Bool.and_eq_true,decide_eq_true_eq,decide_eq_true_eq,decide_eq_true_eq];omega),b1,Ar];exact go (q+1) 0 168 (by omega) (by omega) (by omega) (by omega)
    ·have e0:AV (0+((n - o.length:Nat):Int))=((0+(n - o.length):Nat):Int):=by grind
     have b1:=big (H9 S (q+1)) 0 (0+(n - o.length)) hz2;rw [if_neg (show ¬ (168:Int)<((n - o.length:Nat):Int) by omega),e0,show (0:Int).toNat=0 from rfl,BR,AL (by grind),b1,Ar];exact go (q+1) 0 (n - o.length) (by omega) (by omega) (by omega) (Nat.le_refl _)
   ·have ea:AV (168 - (a:Int))=((168 - a:Nat):Int):=by grind [wn]
    rw [AsB (by grind),en,ea,BR];by_cases hk:168 - a<n - o.length;·have e0:AV ((a:Int)+((168 - a:Nat):Int))=((a+(168 - a):Nat):Int):=wn (n:=a+(168 - a)) (by omega);have b1:=big (H9 S q) a (a+(168 - a)) hz;rw [if_pos (show ((168 - a:Nat):Int)<((n - o.length:Nat):Int) by omega),e0,BR,AL (by grind),b1,Ar];grind
    ·have e0:AV ((a:Int)+((n - o.length:Nat):Int))=((a+(n - o.length):Nat):Int):=wn (n:=a+(n - o.length)) (by omega);have b1:=big (H9 S q) a (a+(n - o.length)) hz;rw [if_neg (show ¬ ((168 - a:Nat):Int)<((n - o.length:Nat):Int) by omega),e0,BR,AL (by grind),b1,Ar];grind
  grind [Qc]
 obtain ⟨q,a,rfl,ha,ha2⟩:=h
 have h1:=ZV hS q;have hi1:Bl ((n:Nat):Int) 0 4000=true:=Na.2 (by omega);have hi2:Bl ((a:Nat):Int) 0 168=true:=Na.2 (by omega);rw [ZU,WA6,mk,AvD,AP,hi1,DN,Aq,AsB (by simp_all),AvD,AP,hi2,DN,Aq];obtain ⟨x',e1,e2⟩:=key n AY ⟨H9 S q,(a:Int)⟩ ⟨⟨#[]⟩,0⟩ [] (by rfl) (FM (by omega)) (DJ _) ⟨q,a,rfl,ha,ha2⟩
 exact ⟨x',e1,e2⟩
theorem YBr {s:AA} {n:Nat} (h:s.size<=2000) (hn:n<=4000):gX s (n:Int)=some (ofBytes (up (Qc (sd s) 0 n)),true):=by
 obtain ⟨x',e,_⟩:=UBQ (n:=n) (JAs s) (KAs s) hn
 rw [gX,YA6,mk,AvD,AP,Na.2 (by omega),DN,Aq,TBQ h,AP,e];rfl
theorem ZX {n:Int}:ArQ n=some (n % 3329):=by
 have h:(AV ((n.tmod 3329)+3329)).tmod 3329=n % 3329:=by grind [A8]
 rw [ArQ,ZA6,mk,h]
theorem VBQ {seed:AA} {n:Nat} (h:seed.size<=1000) (hn:n<256):sJ seed (n:Int)=some (up (J6 seed n)):=by
 have h1:Jf (n:Int)=some (ArF n):=LD (by omega) (by omega);have hz:(ArF n).size=1:=by rfl
 have h2:=YBr (s:=seed++ArF n) (n:=128) (by grind) (by omega);have hs:(ofBytes (up (Qc (sd (seed++ArF n)) 0 128))).size=128:=by rfl
 have h2:gX (seed++ArF n) 128=_:=h2;rw [sJ,AI1,mk,h1,AP,AL (by grind),h2,AP];dsimp only;rw [J6];generalize ofBytes (up (Qc (sd (seed++ArF n)) 0 128))=s at hs;have c2:∀ k:Nat,(2:Int) ^ k=((2 ^ k:Nat):Int):=fun k=>by rfl
 have sl:=AwV (Lp:=gY) (st:=fun i o=>.c0 s ((256:Nat):Int) (i:Int) (up o)) (f:=fun i o=>o.set i (XW (AwY s (i / 2) / 2 ^ (4*(i % 2))))) (P:=fun _ o=>o.length=256) (n:=256) 1 (fun m i o hi ho=>by
  refine ⟨?_,by simp_all⟩;have hb:=Ve s (i / 2);have w1:AV ((i:Int)+1)=((i+1:Nat):Int):=wn (n:=i+1) (by omega);have e1:AV ((i:Int).tdiv 2)=((i / 2:Nat):Int):=wn (n:=i / 2) (by omega);have e2:(i:Int).tmod 2=((i % 2:Nat):Int):=rfl;have e3:AV (4*((i % 2:Nat):Int))=((4*(i % 2):Nat):Int):=wn (n:=4*(i % 2)) (by omega);have e4:Min.min (4*(i % 2)) (IntKind.bits IntKind.u8)=4*(i % 2):=Nat.min_eq_left (by show 4*(i % 2)<=8;omega);have fd:∀ (a k:Nat),Int.fdiv (a:Int) ((2 ^ k:Nat):Int)=((a / 2 ^ k:Nat):Int):=fun a k=>by grind
  have hb2:AwY s (i / 2) / 2 ^ (4*(i % 2))<256:=Nat.lt_of_le_of_lt (Nat.div_le_self _ _) hb;have m1:Min.min (1:Int).toNat (IntKind.bits IntKind.i64)=1:=by decide
  have m2:Min.min (2:Int).toNat (IntKind.bits IntKind.i64)=2:=by decide
  have m3:Min.min (3:Int).toNat (IntKind.bits IntKind.i64)=3:=by decide
  rw [gY];simp only [BA7,mk,w1,e1,e2,e3,BR,e4,Awn,m1,m2,m3,c2,fd];generalize AwY s (i / 2) / 2 ^ (4*(i % 2))=b at hb2;have hd:∀ k,b / 2 ^ k<=b:=fun k=>Nat.div_le_self _ _
  have d1:=hd 1;have d2:=hd 2;have d3:=hd 3;rw [wn (n:=b) (by omega)];simp only [fd];rw [and1 (n:=b) (by omega),and1 (n:=b / 2 ^ 1) (by omega),and1 (n:=b / 2 ^ 2) (by omega),and1 (n:=b / 2 ^ 3) (by omega),show b / 2 ^ 1=b / 2 from rfl,show b / 2 ^ 2=b / 4 from rfl,show b / 2 ^ 3=b / 8 from rfl,A8 (n:=((b % 2:Nat):Int)+((b / 2 % 2:Nat):Int)) (by omega) (by omega),A8 (n:=((b % 2:Nat):Int)+((b / 2 % 2:Nat):Int) - ((b / 4 % 2:Nat):Int)) (by omega) (by omega),A8 (n:=((b % 2:Nat):Int)+((b / 2 % 2:Nat):Int) - ((b / 4 % 2:Nat):Int) - ((b / 8 % 2:Nat):Int)) (by omega) (by omega),ZX,AP,show (((b % 2:Nat):Int)+((b / 2 % 2:Nat):Int) - ((b / 4 % 2:Nat):Int) - ((b / 8 % 2:Nat):Int)) % 3329=((XW b:Nat):Int) by rw [XW];omega,AsA,AL (by grind),GX (by omega),AL (by rfl),AL (AwI (by omega))])
 obtain ⟨m,hm⟩:∃ m,AY=m+1+256*1:=⟨AY - 257,by rfl⟩
 rw [hm,show (256:Int).toNat=256 from rfl,List.length_replicate,<-TY];refine (sl 256 0 (m+1) (List.replicate 256 0) (by omega) List.length_replicate).1.trans ?_;rw [sK (v:=fun i=>XW (AwY s (i / 2) / 2 ^ (4*(i % 2)))) List.length_replicate,gY];rfl
theorem WBQ {seed:AA} {f:Nat} (h:seed.size<=1000) (hf:f<255):ZY seed (f:Int)=some [up (J6 seed f),up (J6 seed (f+1))]:=by
 have e0:AV ((f:Int)+0)=(f:Int):=by grind [wn]
 have e1:AV ((f:Int)+1)=((f+1:Nat):Int):=wn (n:=f+1) (by omega);have w0:AV (0+1)=1:=by decide
 have w1:AV (1+1)=2:=by decide
 obtain ⟨m,hm⟩:∃ m,AY=m+3:=⟨AY - 3,rfl⟩
 rw [ZY,CA7,hm];rw [sN];simp only [UAo,mk];rw [AL (by rfl),e0,VBQ h (by omega),AP,AL (by rfl),w0];rw [sN];simp only [UAo,mk];rw [AL (by rfl),e1,VBQ h (by omega),AP,AL (by rfl),w1];rfl
theorem gZ {l:List Nat} (h:ArE l):AqX (up l)=some true:=by
 have hl:=h.1
 have s:=AwV (Lp:=gq) (st:=fun i (_:Unit)=>.c0 (up l) (up l) ((up l).length:Int) (i:Int)) (f:=fun _ a=>a) (P:=fun _ _=>True) (n:=256) 1 (fun m i _ hi _=>by
  refine ⟨?_,trivial⟩;have w1:AV ((i:Int)+1)=((i+1:Nat):Int):=wn (n:=i+1) (by omega);have hq:=h.get i;grind [gq,VAo,BR,Gg,Dt,AvD,Na])
 obtain ⟨m,hm⟩:∃ m,AY=m+1+256*1:=⟨AY - 257,by rfl⟩
 rw [AqX,DA7,mk,hm];refine (s 256 0 (m+1) () (by omega) trivial).1.trans ?_;simp_all [gq,VAo,mk,Dt]
theorem ZBr {l:List Int} (h:l.length<=1000):sQ l=some l:=by rw [sQ,EA7,mk,AL (by grind)]
theorem XBQ {n:Nat} (h:n<128):Za (n:Int)=some ((t7 n:Nat):Int):=by
 have c2:∀ k:Nat,(2:Int) ^ k=((2 ^ k:Nat):Int):=fun k=>by rfl
 have fd:∀ (a k:Nat),Int.fdiv (a:Int) ((2 ^ k:Nat):Int)=((a / 2 ^ k:Nat):Int):=fun a k=>by grind
 have s:=AwV (Lp:=sS) (st:=fun i (o:Nat)=>.c0 (n:Int) (o:Int) (i:Int)) (f:=fun i o=>2*o+n / 2 ^ i % 2) (P:=fun i o=>o<2 ^ i) (n:=7) 1 (fun m i o hi ho=>by
  have hp:2 ^ (i+1)<=2 ^ 7:=Nat.pow_le_pow_right (by decide) hi;have hlt:2*o+n / 2 ^ i % 2<2 ^ (i+1):=by omega
  refine ⟨?_,hlt⟩;have hd:n / 2 ^ i<=n:=Nat.div_le_self _ _;have F1:(2:Nat) ^ 7=128:=rfl;have w1:AV ((i:Int)+1)=((i+1:Nat):Int):=wn (n:=i+1) (by omega);have m1:Min.min i (IntKind.bits IntKind.i64)=i:=Nat.min_eq_left (by show i<=64;omega);have e3:AV (2*(o:Int))=((2*o:Nat):Int):=wn (n:=2*o) (by omega);have e4:AV (((2*o:Nat):Int)+((n / 2 ^ i % 2:Nat):Int))=((2*o+n / 2 ^ i % 2:Nat):Int):=wn (n:=2*o+n / 2 ^ i % 2) (by omega);rw [sS];simp only [GA7,mk,w1,BR,m1,c2,fd,e3];rw [and1 (n:=n / 2 ^ i) (by omega),e4,AL (by grind),AL (by rfl)])
 obtain ⟨m,hm⟩:∃ m,AY=m+1+7*1:=⟨AY - 8,rfl⟩
 rw [Za,FA7,hm];refine (s 7 0 (m+1) 0 (by omega) (by decide)).1.trans ?_;rfl
theorem YBQ {e:Nat} (he:e<1024):Zb 17 (e:Int)=some ((XY e:Nat):Int):=by
 have key:∀ (k b e o m:Nat),e<2 ^ k->b<3329->o<3329->e<1024->sU (m+k+1) (.c0 (b:Int) (e:Int) (o:Int))=some ((XZ k b e o:Nat):Int):=by
  intro k;induction k with
  | zero=>
   intro b e o m h _ _ _;obtain rfl:e=0:=by omega
   rfl
  | succ k ih=>
   intro b e o m h hb ho he;rw [AwB m k,sU,XZ];simp only [IA7,mk];by_cases h0:e=0;·simp_all
   ·have e1:AV ((e:Int).tdiv 2)=((e / 2:Nat):Int):=wn (n:=e / 2) (by omega);have e2:(e:Int).tmod 2=((e % 2:Nat):Int):=rfl;rw [AL (by grind),e1,e2,Zc hb hb,Zc ho hb,if_neg h0];have hk:e / 2<2 ^ k:=by omega
    by_cases h1:e % 2=1;·rw [if_pos h1,h1,AL (by rfl)];exact ih _ _ _ _ hk (Nat.mod_lt _ (by decide)) (Nat.mod_lt _ (by decide)) (by omega)
    ·rw [if_neg h1,AsB (by simp_all)];exact ih _ _ _ _ hk (Nat.mod_lt _ (by decide)) ho (by omega)
 obtain ⟨m,hm⟩:∃ m,AY=m+10+1:=⟨AY - 11,rfl⟩
 rw [Zb,HA7,AvD,AP,Na.2 (by omega),DN,Aq,ZX,AP,hm];exact key 10 17 e 1 m he (by decide) (by decide) he
theorem AbO {p:List Nat} (h:ArE p):Zd (up p)=some (up (gu p)):=by
 have inner:∀ (k size start z:Nat) (m:Nat) (o:List Nat),0<size->start+2*size<=256->z<3329->ArE o->Pv (m+size*1) (.c2 (k:Int) (size:Int) (start:Int) (z:Int) (start:Int) (up o))=Pv m (.c2 (k:Int) (size:Int) (start:Int) (z:Int) ((start+size:Nat):Int) (up (AwK (fun j o=>gy z size (start+j) o) size 0 o))):=fun k size start z m o hs hst hz ho=>(AwV (Lp:=Pv) (st:=fun j o=>.c2 (k:Int) (size:Int) (start:Int) (z:Int) ((start+j:Nat):Int) (up o)) (f:=fun j o=>gy z size (start+j) o) (P:=fun _ o=>ArE o) (n:=size) 1 (fun m j o hj ho=>by
  refine ⟨?_,SBC ho _ _ _⟩;have hl:=ho.1;have h1:=ho.get (start+j);have h2:=ho.get (start+j+size);have e1:AV (((start+j:Nat):Int)+1)=((start+(j+1):Nat):Int):=wn (n:=start+(j+1)) (by omega);have e2:AV (((start+j:Nat):Int)+(size:Int))=((start+j+size:Nat):Int):=wn (n:=start+j+size) (by omega);have e3:AV ((start:Int)+(size:Int))=((start+size:Nat):Int):=wn (n:=start+size) (by omega);have hzb:z*o.getD (start+j+size) 0<3329*3329:=Nat.mul_lt_mul'' hz h2;have e4:AV ((z:Int)*((o.getD (start+j+size) 0:Nat):Int))=((z*o.getD (start+j+size) 0:Nat):Int):=by rw [show (z:Int)*((o.getD (start+j+size) 0:Nat):Int)=((z*o.getD (start+j+size) 0:Nat):Int) from (Int.natCast_mul _ _).symm];exact wn (by omega)
  rw [Pv];simp only [Ze,mk,e1,e2,e3,BR,Gg,e4];have e5:AV (((o.getD (start+j) 0:Nat):Int)+((z*o.getD (start+j+size) 0:Nat):Int)) % 3329=(((o.getD (start+j) 0+z*o.getD (start+j+size) 0 % 3329) % 3329:Nat):Int):=by grind [A8]
  have e6:AV (((o.getD (start+j) 0:Nat):Int) - ((z*o.getD (start+j+size) 0:Nat):Int)) % 3329=(((o.getD (start+j) 0+3329 - z*o.getD (start+j+size) 0 % 3329) % 3329:Nat):Int):=by grind [A8]
  rw [ZX,AP,ZX,AP,e5,e6,AsA,AsA,AL (by simp_all),AL (AwI (by omega)),AL (AwI (by omega)),AL (AwI (by omega)),AL (AwI (by omega)),AL (AwI (by grind)),List.set_comm _ _ (show start+j≠start+j+size by omega)];rfl) size 0 m o (by omega) ho).1
 have level:∀ (k0 size c:Nat) (m:Nat) (o:List Nat),1<size->size*c=128->k0=c->ArE o->Pv (m+1+c*(size+2)+1) (.c0 (k0:Int) (size:Int) (up o))=Pv m (.c0 ((k0+c:Nat):Int) ((size / 2:Nat):Int) (up (Td k0 size c o))):=by
  intro k0 size c m o hs hc hk ho;have hsc:size<=128/\c<=64:=by refine ⟨Nat.le_of_dvd (by decide) ⟨c,hc.symm⟩,?_⟩;have h2:2*c<=size*c:=Nat.mul_le_mul_right c hs;omega
  have s:=AwV (Lp:=Pv) (st:=fun i o=>.c1 ((k0+i:Nat):Int) (size:Int) ((2*size*i:Nat):Int) (up o)) (f:=NAs k0 size) (P:=fun _ o=>ArE o) (n:=c) (size+2) (fun m i o hi ho=>by
   refine ⟨?_,TBC ho _ _ _⟩;have hb:size*(i+1)<=size*c:=Nat.mul_le_mul_left size hi;have hb2:2*size*i=2*(size*i):=Nat.mul_assoc 2 size i;have hb3:2*size*(i+1)=2*size*i+2*size:=Nat.mul_succ _ _;rw [Nat.mul_succ] at hb;have e1:AV (((k0+i:Nat):Int)+1)=((k0+(i+1):Nat):Int):=wn (n:=k0+(i+1)) (by omega);have e2:AV (2*(size:Int))=((2*size:Nat):Int):=wn (n:=2*size) (by omega);have e3:AV (((2*size*i:Nat):Int)+((2*size:Nat):Int))=((2*size*(i+1):Nat):Int):=by grind [wn]
   have e4:AV (((2*size*i:Nat):Int)+(size:Int))=((2*size*i+size:Nat):Int):=wn (n:=2*size*i+size) (by omega);have h7:=MAs (k0+i);rw [show m+(size+2)=m+1+size*1+1 by omega,Pv];simp only [Ze,mk,e1];rw [AL (by grind),XBQ (n:=k0+i) (by omega),AP,YBQ (e:=t7 (k0+i)) (by omega),AP];refine (inner (k0+(i+1)) size (2*size*i) _ (m+1) o (by omega) (by omega) (LAs _) ho).trans ?_;rw [Pv];simp only [Ze,mk,e2,e3,e4];rw [AsB (by simp)];rfl)
  rw [Pv];simp only [Ze,mk];rw [AL (by grind)];refine (s c 0 (m+1) o (by omega) ho).1.trans ?_;have hb2:2*size*c=256:=by grind
  have e5:AV ((size:Int).tdiv 2)=((size / 2:Nat):Int):=wn (n:=size / 2) (by omega);rw [Pv];simp only [Ze,mk,e5];rw [AsB (by simp_all)];rfl
 have hl:=h.1;obtain ⟨m,hm⟩:∃ m,AY=m+1+1+64*(2+2)+1+1+32*(4+2)+1+1+16*(8+2)+1+1+8*(16+2)+1+1+4*(32+2)+1+1+2*(64+2)+1+1+1*(128+2)+1:=⟨AY - 1165,by rfl⟩
 rw [Zd,JA7,mk,gZ h,AP,DN,Aq,ZBr (by grind [Dt]),AP,hm];have o1:=LG h 1 128 1;have o2:=LG o1 2 64 2;have o3:=LG o2 4 32 4;have o4:=LG o3 8 16 8;have o5:=LG o4 16 8 16;have o6:=LG o5 32 4 32;refine (level 1 128 1 _ p (by omega) rfl rfl h).trans ?_;refine (level 2 64 2 _ _ (by omega) rfl rfl o1).trans ?_;refine (level 4 32 4 _ _ (by omega) rfl rfl o2).trans ?_;refine (level 8 16 8 _ _ (by omega) rfl rfl o3).trans ?_;refine (level 16 8 16 _ _ (by omega) rfl rfl o4).trans ?_;refine (level 32 4 32 _ _ (by omega) rfl rfl o5).trans ?_;refine (level 64 2 64 (m+1) _ (by omega) rfl rfl o6).trans ?_;rfl
theorem ZBQ {a b:List Nat} (ha:ArE a) (hb:ArE b):Zf [up a,up b]=some [up (gu a),up (gu b)]:=by
 have w0:AV (0+1)=1:=by decide
 have w1:AV (1+1)=2:=by decide
 obtain ⟨m,hm⟩:∃ m,AY=m+3:=⟨AY - 3,rfl⟩
 rw [Zf,KA7,hm];grind [XAo,LA7,AbO]
theorem ASi {seed:AA} {i j:Nat} (h:seed.size<=1000) (hi:i<256) (hj:j<256):Zg seed (i:Int) (j:Int)=some (up (Aqo seed i j)):=by
 have h1:Jf (i:Int)=some (ArF i):=LD (by omega) (by omega);have h2:Jf (j:Int)=some (ArF j):=LD (by omega) (by omega);have hz:∀ n,(ArF n).size=1:=fun n=>by rfl
 have hz1:=hz i;have hz2:=hz j;have hsz:((seed++ArF i)++ArF j).size=seed.size+2:=by simp_all
 rw [Zg,MA7,mk,h1,AP,AL (by grind),h2,AP,AL (by grind),TBQ (by omega),AP,Aqo];generalize hS:sd ((seed++ArF i)++ArF j)=S;have hSz:S.size=200:=by grind [JAs]
 have inner:∀ (k:Nat) (x:F6) (m:Nat) (o:List Nat),k<4000->o.length<256->Ar1 (m+3) (.c1 (o.length:Int) (k:Int) 2 0 x (up (Io o)) [((Gm S k:Nat):Int),((J7 S k:Nat):Int)])=Ar1 m (.c0 (((Iy S k o).length:Nat):Int) ((k+1:Nat):Int) x (up (Io (Iy S k o)))):=by
  intro k x m o hk ho;have one:∀ (v:Nat) (m:Nat) (o:List Nat) (u:Int) (y:Nat),(u=0/\y=Gm S k\/u=1/\y=J7 S k)->o.length<=256->Ar1 (m+1) (.c1 (o.length:Int) (k:Int) 2 u x (up (Io o)) [((Gm S k:Nat):Int),((J7 S k:Nat):Int)])=Ar1 m (.c1 (((Aw4 y o).length:Nat):Int) (k:Int) 2 (u+1) x (up (Io (Aw4 y o))) [((Gm S k:Nat):Int),((J7 S k:Nat):Int)]):=by
   intro v m o u y hu ho;have hg:([((Gm S k:Nat):Int),((J7 S k:Nat):Int)]:List Int).getD u.toNat 0=(y:Int):=by grind
   have hc:(decide (0<=u) && decide (u<(([((Gm S k:Nat):Int),((J7 S k:Nat):Int)]:List Int).length:Int)))=true:=by grind
   have hu2:u<2/\AV (u+1)=u+1:=by rcases hu with ⟨rfl,rfl⟩ | ⟨rfl,rfl⟩ <;> decide
   have hw:AV ((o.length:Int)+1)=((o.length+1:Nat):Int):=wn (n:=o.length+1) (by omega);have hpl:(Io o).length=256:=by simp_all [Io]
   rw [Ar1];simp only [iC,mk];rw [AL (by simp_all),hc,Ar,hg,hu2.2,hw,Aw4];by_cases h1:y<3329
   ·rw [AL (by grind)];by_cases h2:o.length<256;·rw [AL (by grind),AL (AwI (by omega)),BR,AsA,GBq h2,if_pos ⟨h1,h2⟩,List.length_append,List.length_singleton]
    grind
   grind
  have hl1:(Aw4 (Gm S k) o).length<=256:=by grind [Aw4]
  have hw:AV ((k:Int)+1)=((k+1:Nat):Int):=wn (n:=k+1) (by omega);refine (one 0 (m+2) o 0 _ (.inl ⟨rfl,rfl⟩) (by omega)).trans ?_;refine (one 0 (m+1) _ (0+1) _ (.inr ⟨rfl,rfl⟩) hl1).trans ?_;rw [Ar1];simp only [iC,mk,hw];rfl
 have key:∀ (r k:Nat) (m:Nat) (x:F6) (o:List Nat),k+r=4000->UQ o->Aqf S (3*k) x->Ar1 (m+r*4+1) (.c0 (o.length:Int) (k:Int) x (up (Io o)))=some (up (Io (Xa S r k o))):=by
  intro r;induction r with
  | zero=>
   intro k m x o hk ho hx;rw [Ar1];simp only [iC,mk];rw [AsB (by simp_all)];rfl
  | succ r ih=>
   intro k m x o hk ho hx;rw [show m+(r+1)*4+1=(m+r*4+1)+3+1 by omega,Ar1,Xa];simp only [iC,mk];rw [AL (by grind)];by_cases hlt:o.length<256
   ·obtain ⟨x',e,hx'⟩:=UBQ (n:=3) hSz hx (by omega)
    have e:ZU x 3=_:=e;have hs3:(ofBytes (up (Qc S (3*k) 3))).size=3:=by rfl
    have t0:bt (ofBytes (up (Qc S (3*k) 3))) 0=((strm S (3*k):Nat):Int):=by grind [Awn,Vf]
    have t1:bt (ofBytes (up (Qc S (3*k) 3))) 1=((strm S (3*k+1):Nat):Int):=by grind [Awn,Vf]
    have t2:bt (ofBytes (up (Qc S (3*k) 3))) 2=((strm S (3*k+2):Nat):Int):=by rw [show (2:Int)=((2:Nat):Int) from rfl,Awn,Vf S (by omega)]
    have l0:=Zh S (3*k);have l1:=Zh S (3*k+1);have l2:=Zh S (3*k+2);have va:AV (((strm S (3*k):Nat):Int)+AV (((strm S (3*k+1):Nat):Int).tmod 16*256))=((Gm S k:Nat):Int):=by grind [A8,Gm]
    have vb:AV (AV (((strm S (3*k+1):Nat):Int).tdiv 16)+AV (16*((strm S (3*k+2):Nat):Int)))=((J7 S k:Nat):Int):=by grind [A8,J7]
    rw [AL (by grind),e,AP];dsimp only;rw [t0,t1,t2,wn (n:=strm S (3*k)) (by omega),wn (n:=strm S (3*k+1)) (by omega),wn (n:=strm S (3*k+2)) (by omega),va,vb,AL (by rfl),AL (by rfl),AL (by rfl),if_pos hlt];refine (inner k x' (m+r*4+1) o (by omega) hlt).trans ?_;exact ih (k+1) m x' _ (by omega) (Tf ho) (by omega)
   grind
 obtain ⟨m,hm⟩:∃ m,AY=m+4000*4+1:=⟨AY - 16001,by rfl⟩
 rw [hm,show (256:Int).toNat=256 from rfl,<-TY];refine key 4000 0 m ⟨S,0⟩ [] (by omega) ⟨DJ _,fun _ h=>by cases h⟩ ?_;grind [KAs]
theorem BBR {rho:AA} {i:Nat} (h:rho.size<=1000) (hi:i<256):Zi rho (i:Int) false=some [up (Aqo rho 0 i),up (Aqo rho 1 i)]:=by
 have u0:Zg rho 0 (i:Int)=some (up (Aqo rho 0 i)):=ASi (i:=0) (j:=i) h (by decide) hi;have u1:Zg rho 1 (i:Int)=some (up (Aqo rho 1 i)):=ASi (i:=1) (j:=i) h (by decide) hi;have w0:AV (0+1)=1:=by decide
 have w1:AV (1+1)=2:=by decide
 obtain ⟨m,hm⟩:∃ m,AY=m+3:=⟨AY - 3,rfl⟩
 simp_all [Zi,NA7,YAo,OA7,mk]
theorem CBR {a b:List Nat} (ha:ArE a) (hb:ArE b):sV (up a) (up b)=some (up (mulL a b)):=by
 have hal:=ha.1;have hbl:=hb.1
 have s:=AwV (Lp:=iE) (st:=fun i o=>.c0 (up a) (up b) (i:Int) (up o)) (f:=fun i o=>(o.set (2*i) (Nh a b (2*i))).set (2*i+1) (Nh a b (2*i+1))) (P:=fun _ o=>o.length=256) (n:=128) 1 (fun m i o hi ho=>by
  refine ⟨?_,by simp_all⟩;have h7:=MAs i;have w1:AV ((i:Int)+1)=((i+1:Nat):Int):=wn (n:=i+1) (by omega);have e1:AV (2*(i:Int))=((2*i:Nat):Int):=wn (n:=2*i) (by omega);have e2:AV (((2*i:Nat):Int)+1)=((2*i+1:Nat):Int):=wn (n:=2*i+1) (by omega);have e3:AV (2*((t7 i:Nat):Int))=((2*t7 i:Nat):Int):=wn (n:=2*t7 i) (by omega);have e4:AV (((2*t7 i:Nat):Int)+1)=((2*t7 i+1:Nat):Int):=wn (n:=2*t7 i+1) (by omega);have g:=LAs (2*t7 i+1);have a0:=ha.get (2*i);have a1:=ha.get (2*i+1);have b0:=hb.get (2*i);have b1:=hb.get (2*i+1);have p00:=mul_lt a0 b0;have p11:=mul_lt a1 b1;have p01:=mul_lt a0 b1;have p10:=mul_lt a1 b0;have hm:a.getD (2*i+1) 0*b.getD (2*i+1) 0 % 3329<3329:=Nat.mod_lt _ (by decide);have pg:=mul_lt hm g;rw [iE];simp only [QA7,mk,w1,e1,e2,BR,Gg];rw [AL (by grind),XBQ (by omega),AP,e3,e4,YBQ (by omega),AP,Zc a1 b1,Xb hm g,Xb a0 b0,Xb a0 b1,Xb a1 b0,ZX,AP,ZX,AP];have v1:(AV (((a.getD (2*i) 0*b.getD (2*i) 0:Nat):Int)+((a.getD (2*i+1) 0*b.getD (2*i+1) 0 % 3329*XY (2*t7 i+1):Nat):Int))) % 3329=((Nh a b (2*i):Nat):Int):=by grind [VBO,wn]
  have v2:(AV (((a.getD (2*i) 0*b.getD (2*i+1) 0:Nat):Int)+((a.getD (2*i+1) 0*b.getD (2*i) 0:Nat):Int))) % 3329=((Nh a b (2*i+1):Nat):Int):=by grind [WBO,wn]
  rw [v1,v2,AsA,AsA,AL (AwI (by omega)),AL (AwI (by omega)),AL (AwI (by omega)),AL (AwI (by omega)),AL (AwI (by omega)),AL (AwI (by grind))])
 obtain ⟨m,hm⟩:∃ m,AY=m+1+128*1:=⟨AY - 129,by rfl⟩
 rw [sV,PA7,mk,gZ ha,AP,DN,Aq,gZ hb,AP,DN,Aq,hm,show (256:Int).toNat=256 from rfl,<-TY];refine (s 128 0 (m+1) (List.replicate 256 0) (by omega) List.length_replicate).1.trans ?_;rw [XBO,show 2*128=256 from rfl,Nat.mul_zero,sK (v:=Nh a b) List.length_replicate,iE];rfl
theorem DBD {a b:List Nat} (ha:ArE a) (hb:ArE b):Avc (up a) (up b)=some (up (Zj a b)):=by
 have hal:=ha.1;have hbl:=hb.1;have hn:BAp (up a) (up b) 268=some (up (Zj a b)):=by
  have s:=AwV (Lp:=iG) (st:=fun i o=>.c0 (up a) (up b) 268 ((256:Nat):Int) (i:Int) (up o)) (f:=fun i o=>o.set i ((a.getD i 0+b.getD i 0) % 3329)) (P:=fun _ o=>o.length=256) (n:=256) 1 (fun m i o hi ho=>by
   refine ⟨?_,by rw [List.length_set,ho]⟩;have w1:AV ((i:Int)+1)=((i+1:Nat):Int):=wn (n:=i+1) (by omega);have a0:=ha.get i;have b0:=hb.get i;have v:(AV (((a.getD i 0:Nat):Int)+((b.getD i 0:Nat):Int))) % 3329=(((a.getD i 0+b.getD i 0) % 3329:Nat):Int):=by rw [<-Int.natCast_add,wn (by omega)];rfl
   rw [iG];simp only [ADR,mk,w1,BR,Gg];rw [Ep (by omega),AL (AwI (by omega)),AL (AwI (by omega)),AL (by rfl),ZAo,RA7,mk,AP,ZX,AP,v,AsA,AL (AwI (by omega))])
  obtain ⟨m,hm⟩:∃ m,AY=m+1+256*1:=⟨AY - 257,by have:=FM (n:=257) (by omega);omega⟩
  rw [BAp,TA7,mk,gZ ha,AP,DN,Aq,gZ hb,AP,DN,Aq,hm,show (256:Int).toNat=256 from rfl,List.length_replicate,<-TY];refine (s 256 0 (m+1) (List.replicate 256 0) (by omega) List.length_replicate).1.trans ?_;rw [sK (v:=fun i=>(a.getD i 0+b.getD i 0) % 3329) List.length_replicate,iG];simp only [ADR,mk];rw [Jh (by omega)];rfl
 rw [Avc,UA7,mk,hn];rfl
theorem CBs {a0 a1 b0 b1:List Nat} (ha0:ArE a0) (ha1:ArE a1) (hb0:ArE b0) (hb1:ArE b1):Xc [up a0,up a1] [up b0,up b1]=some (up (QAs a0 a1 b0 b1)):=by
 obtain ⟨m,hm⟩:∃ m,AY=m+1+1+1:=⟨AY - 3,rfl⟩
 rw [Xc,VA7,mk,hm,show (256:Int).toNat=256 from rfl,<-TY,iH];simp only [CAp,mk];rw [AL (by rfl),AL (by rfl),AL (by rfl),show ([up a0,up a1]:List (List Int)).getD (0:Int).toNat []=up a0 from rfl,show ([up b0,up b1]:List (List Int)).getD (0:Int).toNat []=up b0 from rfl,CBR ha0 hb0,AP,DBD ASo (OAs _ _),AP,show AV (0+1)=1 by decide,iH];simp only [CAp,mk];rw [AL (by rfl),AL (by rfl),AL (by rfl),show ([up a0,up a1]:List (List Int)).getD (1:Int).toNat []=up a1 from rfl,show ([up b0,up b1]:List (List Int)).getD (1:Int).toNat []=up b1 from rfl,CBR ha1 hb1,AP,DBD (PAs _ _) (OAs _ _),AP,show AV (1+1)=2 by decide,iH];rfl
def ArM (l:List Nat) (t:Nat):Nat:=l.getD (t / 12) 0 / 2 ^ (t % 12) % 2
def Rt (l:List Nat) (p:Nat):Nat->Nat
 | 0=>0
 | c+1=>Rt l p c+ArM l (8*p+c)*2 ^ c
theorem EBD (l:List Nat) (p:Nat):∀ c,Rt l p c<2 ^ c
 | 0=>Nat.two_pow_pos _
 | c+1=>by have h1:=EBD l p c;have h2:ArM l (8*p+c)<2:=Nat.mod_lt _ (by decide);have h3:(ArM l (8*p+c)+1)*2 ^ c<=2*2 ^ c:=Nat.mul_le_mul_right _ h2;grind [Rt]
theorem DBs {l:List Nat} (h:ArE l) (p:Nat):Rt l p 8=I4 l p:=by
 have hx:=h.get (2*(p / 3));have hy:=h.get (2*(p / 3)+1);have e:Rt l p 8=ArM l (8*p)+ArM l (8*p+1)*2+ArM l (8*p+2)*4+ArM l (8*p+3)*8+ArM l (8*p+4)*16+ArM l (8*p+5)*32+ArM l (8*p+6)*64+ArM l (8*p+7)*128:=by simp [Rt]
 have hp:p=3*(p / 3)+p % 3:=by omega
 generalize hq:p / 3=q at hp hx hy;have h3:p % 3<3:=Nat.mod_lt _ (by decide);have b:∀ t i k,t=12*i+k->k<12->ArM l t=l.getD i 0 / 2 ^ k % 2:=fun t i k h1 h2=>by rw [ArM,show t / 12=i by omega,show t % 12=k by omega]
 rcases (show p % 3=0\/p % 3=1\/p % 3=2 by omega) with h0 | h0 | h0
 ·rw [h0] at hp;subst hp;rw [e,Nat.add_zero,DBP,b _ (2*q) 0 (by omega) (by omega),b _ (2*q) 1 (by omega) (by omega),b _ (2*q) 2 (by omega) (by omega),b _ (2*q) 3 (by omega) (by omega),b _ (2*q) 4 (by omega) (by omega),b _ (2*q) 5 (by omega) (by omega),b _ (2*q) 6 (by omega) (by omega),b _ (2*q) 7 (by omega) (by omega)];omega
 ·rw [h0] at hp;subst hp;rw [e,EBP,b _ (2*q) 8 (by omega) (by omega),b _ (2*q) 9 (by omega) (by omega),b _ (2*q) 10 (by omega) (by omega),b _ (2*q) 11 (by omega) (by omega),b _ (2*q+1) 0 (by omega) (by omega),b _ (2*q+1) 1 (by omega) (by omega),b _ (2*q+1) 2 (by omega) (by omega),b _ (2*q+1) 3 (by omega) (by omega)];omega
 ·rw [h0] at hp;subst hp;rw [e,FBP,b _ (2*q+1) 4 (by omega) (by omega),b _ (2*q+1) 5 (by omega) (by omega),b _ (2*q+1) 6 (by omega) (by omega),b _ (2*q+1) 7 (by omega) (by omega),b _ (2*q+1) 8 (by omega) (by omega),b _ (2*q+1) 9 (by omega) (by omega),b _ (2*q+1) 10 (by omega) (by omega),b _ (2*q+1) 11 (by omega) (by omega)];omega
theorem AqV {a b:Nat} (ha:a<256) (hb:b<256):w8 (((BitVec.toNat ((BitVec.ofInt (IntKind.bits IntKind.u8) (a:Int)) ||| (BitVec.ofInt (IntKind.bits IntKind.u8) (b:Int)))):Nat):Int)=((a ||| b:Nat):Int):=by
 have h:a ||| b<256:=Nat.or_lt_two_pow (n:=8) ha hb
 grind [bv8,Nq]
def FBD (l:List Nat) (t:Nat) (o:List Nat):Prop:=o.length=384/\∀ p,p<384->o.getD p 0=Rt l p (min 8 (t - 8*p))
theorem EBs {l:List Nat} (h:ArE l):sW (up l) 12=some (Ar4 l):=by
 have hl:=h.1;have c2:∀ k:Nat,(2:Int) ^ k=((2 ^ k:Nat):Int):=fun k=>by rfl
 have fd:∀ (a k:Nat),Int.fdiv (a:Int) ((2 ^ k:Nat):Int)=((a / 2 ^ k:Nat):Int):=fun a k=>by grind
 have inner:∀ (i:Nat),i<256->∀ (m:Nat) (o:List Nat),FBD l (12*i) o->_:=fun i hi m o ho=>AwV (Lp:=Xd) (st:=fun k o=>.c1 12 (i:Int) ((l.getD i 0:Nat):Int) (up l) ((256:Nat):Int) (i:Int) 12 (k:Int) (up o)) (f:=fun k o=>o.set ((12*i+k) / 8) (o.getD ((12*i+k) / 8) 0 ||| ArM l (12*i+k)*2 ^ ((12*i+k) % 8))) (P:=fun k o=>FBD l (12*i+k) o) (n:=12) 1 (fun m k o hk ho=>by
  obtain ⟨hol,hok⟩:=ho
  have hx:=h.get i;have hbit:ArM l (12*i+k)=l.getD i 0 / 2 ^ k % 2:=by grind [ArM]
  have hw1:AV ((i:Int)*12)=((12*i:Nat):Int):=by grind [wn]
  have hw2:AV (((12*i:Nat):Int)+(k:Int))=((12*i+k:Nat):Int):=wn (n:=12*i+k) (by omega);obtain ⟨t,ht⟩:∃ t,t=12*i+k:=⟨_,rfl⟩
  rw [<-ht] at hbit hw2 hok ⊢;have hd:t / 8<384:=by omega
  have hv:=hok (t / 8) hd;rw [show min 8 (t - 8*(t / 8))=t % 8 by omega] at hv;have hpl:=EBD l (t / 8) (t % 8);have hor:Rt l (t / 8) (t % 8) ||| ArM l t*2 ^ (t % 8)=Rt l (t / 8) (t % 8+1):=by have:=Nat.shiftLeft_add_eq_or_of_lt hpl (ArM l t);grind [Nat.shiftLeft_eq,Rt]
  have hlt:=EBD l (t / 8) (t % 8+1);have h8:2 ^ (t % 8+1)<=2 ^ 8:=Nat.pow_le_pow_right (by decide) (by omega);have h80:2 ^ (t % 8)<=2 ^ 8:=Nat.pow_le_pow_right (by decide) (by omega);have h256:(2:Nat) ^ 8=256:=rfl;have hbp:ArM l t*2 ^ (t % 8)<256:=by grind [Rt]
  have hb2:ArM l t<2:=Nat.mod_lt _ (by decide);refine ⟨?_,by simp_all,fun p hp=>?_⟩;·have w1:AV ((k:Int)+1)=((k+1:Nat):Int):=wn (n:=k+1) (by omega);have e1:AV ((t:Int).tdiv 8)=((t / 8:Nat):Int):=wn (n:=t / 8) (by omega);have e2:(t:Int).tmod 8=((t % 8:Nat):Int):=rfl;have e3:Min.min (t % 8) (IntKind.bits IntKind.u8)=t % 8:=Nat.min_eq_left (by show t % 8<=8;omega);have e4:Min.min k (IntKind.bits IntKind.i64)=k:=Nat.min_eq_left (by show k<=64;omega);have hdv:l.getD i 0 / 2 ^ k<=l.getD i 0:=Nat.div_le_self _ _;rw [Xd];simp only [DAp,mk,w1,hw1,hw2,e1,e2,BR,e3,e4,c2,fd,Gg];rw [and1 (n:=l.getD i 0 / 2 ^ k) (by omega),<-hbit,Nq (n:=((ArM l t:Nat):Int)) (by omega) (by omega),<-Int.natCast_mul,Nq (n:=((ArM l t*2 ^ (t % 8):Nat):Int)) (by omega) (by omega),hv,AqV (by omega) hbp,AsA,AL (by grind),AL (AwI (by omega)),AL (by rfl),AL (by rfl),AL (AwI (by omega))]
  grind) 12 0 m o (by omega) ho
 have so:=AwV (Lp:=Xd) (st:=fun i o=>.c0 12 (up l) ((256:Nat):Int) (i:Int) (up o)) (f:=fun i o=>AwK (fun k o=>o.set ((12*i+k) / 8) (o.getD ((12*i+k) / 8) 0 ||| ArM l (12*i+k)*2 ^ ((12*i+k) % 8))) 12 0 o) (P:=fun i o=>FBD l (12*i) o) (n:=256) 14 (fun m i o hi ho=>by
  obtain ⟨i1,i2⟩:=inner i hi (m+1) o ho
  refine ⟨?_,i2⟩;have w1:AV ((i:Int)+1)=((i+1:Nat):Int):=wn (n:=i+1) (by omega);grind [Xd,DAp,BR,Gg,AwI])
 obtain ⟨m,hm⟩:∃ m,AY=m+1+256*14:=⟨AY - 3585,by rfl⟩
 have hz:(AV ((AV ((AV (((256:Nat):Int)*12))+7)).tdiv 8))=384:=by decide
 rw [sW,WA7,mk,Dt,hl,hz,hm,AL (by decide),show (384:Int).toNat=384 from rfl,<-TY]
 obtain ⟨a1,a2,a3⟩:=so 256 0 (m+1) (List.replicate 384 0) (by omega) ⟨List.length_replicate,fun p hp=>by
  rw [show min 8 (12*0 - 8*p)=0 by omega,List.getD_eq_getElem?_getD,List.getElem?_replicate];split <;> rfl⟩
 refine a1.trans ?_;generalize AwK (fun i o=>AwK (fun k o=>o.set ((12*i+k) / 8) (o.getD ((12*i+k) / 8) 0 ||| ArM l (12*i+k)*2 ^ ((12*i+k) % 8))) 12 0 o) 256 0 (List.replicate 384 0)=o at a2 a3;have hfin:o=(List.range 384).map (I4 l):=GAs (by rw [a2,List.length_map,List.length_range]) fun p hp=>by grind [DBs]
 rw [hfin,Xd];rfl
theorem DBR {l:List Nat} (h:ArE l):Zk (up l)=some (Ar4 l):=by simp_all [Zk,XA7,mk,gZ,EBs]
theorem EBR {seed:AA} (h:seed.size=32):sZ seed=some (⟨ArJ seed,O6 seed⟩,true):=by
 have z0:(⟨#[]⟩:AA).size=0:=rfl;have z1:(⟨#[114]⟩:AA).size=1:=rfl;have z2:(⟨#[115]⟩:AA).size=1:=rfl;have z3:(⟨#[122]⟩:AA).size=1:=rfl;have hd:=Aro seed;have hrs:(AvC seed).size=32:=Aro _;have hss:(ArU seed).size=32:=Aro _;have hps:=IBP seed;have hr:JQ (EM seed++⟨#[114]⟩)=some (AvC seed):=Ar2 (by simp_all);have hs:JQ (EM seed++⟨#[115]⟩)=some (ArU seed):=Ar2 (by simp_all);have hzz:JQ (EM seed++⟨#[122]⟩)=some (EM (EM seed++⟨#[122]⟩)):=Ar2 (by simp_all);have hpp:JQ (ArJ seed)=some (EM (ArJ seed)):=Ar2 (by omega);have m0:ZY (ArU seed) 0=some [up (J6 (ArU seed) 0),up (J6 (ArU seed) 1)]:=WBQ (f:=0) (by omega) (by decide);have m2:ZY (ArU seed) 2=some [up (J6 (ArU seed) 2),up (J6 (ArU seed) 3)]:=WBQ (f:=2) (by omega) (by decide);have n0:Zf [up (J6 (ArU seed) 0),up (J6 (ArU seed) 1)]=some [up (pS seed 0),up (pS seed 1)]:=ZBQ (iI _ _) (iI _ _);have n2:Zf [up (J6 (ArU seed) 2),up (J6 (ArU seed) 3)]=some [up (pS seed 2),up (pS seed 3)]:=ZBQ (iI _ _) (iI _ _);have r0:Zi (AvC seed) 0 false=some [up (Aqo (AvC seed) 0 0),up (Aqo (AvC seed) 1 0)]:=BBR (i:=0) (by omega) (by decide);have r1:Zi (AvC seed) 1 false=some [up (Aqo (AvC seed) 0 1),up (Aqo (AvC seed) 1 1)]:=BBR (i:=1) (by omega) (by decide);have b0:∀ i,Zk (up (pS seed i))=some (Ar4 (pS seed i)):=fun i=>DBR (Xe _ _)
 have d0:∀ i,Xc [up (Aqo (AvC seed) 0 i),up (Aqo (AvC seed) 1 i)] [up (pS seed 0),up (pS seed 1)]=some (up (Zl seed i)):=fun i=>CBs (RAs _ _ _) (RAs _ _ _) (Xe _ _) (Xe _ _)
 have a0:∀ i,Avc (up (Zl seed i)) (up (pS seed (2+i)))=some (up (pT seed i)):=fun i=>DBD (ZBO _ _ _ _) (Xe _ _)
 have F3:Avc (up (Zl seed 0)) (up (pS seed 2))=some (up (pT seed 0)):=a0 0;have F4:Avc (up (Zl seed 1)) (up (pS seed 3))=some (up (pT seed 1)):=a0 1;have t0:∀ i,Zk (up (pT seed i))=some (Ar4 (pT seed i)):=fun i=>DBR (HBP _ _)
 have g0:∀ a b:List Int,([a,b]:List (List Int)).getD (0:Int).toNat []=a:=fun _ _=>rfl
 have g1:∀ a b:List Int,([a,b]:List (List Int)).getD (1:Int).toNat []=b:=fun _ _=>rfl
 have w0:AV (0+1)=1:=by decide
 have w1:AV (1+1)=2:=by decide
 obtain ⟨m,hm⟩:∃ m,AY=m+3:=⟨AY - 3,rfl⟩
 rw [sZ,YA7,mk,AsB (by simp_all),Ar2 (by omega),AP,AL (by rfl),hr,AP,AL (by rfl),hs,AP,m0,AP,n0,AP,m2,AP,n2,AP,hm];rw [iJ];simp only [su,mk];rw [AL (by rfl),r0,AP,d0,AP,AL (by rfl),g0,F3,AP,t0,AP,AL (by rfl),AL (by rfl),g0,b0,AP,AL (by rfl),w0];rw [iJ];simp only [su,mk];rw [AL (by rfl),r1,AP,d0,AP,AL (by rfl),g1,F4,AP,t0,AP,AL (by simp_all [Avp]),AL (by rfl),g1,b0,AP,AL (by simp_all [Avp]),w1];rw [iJ];simp only [su,mk];rw [AsB (by rfl),AL (by simp_all [Avp])];rw [show ((⟨#[]⟩:AA)++Ar4 (pT seed 0)++Ar4 (pT seed 1))++AvC seed=ArJ seed from rfl,AL (by simp_all [Avp]),hpp,AP,AL (by simp_all [Aro,Avp]),AL (by rfl),hzz,AP,AL (by simp_all [Aro,Avp])];rfl
theorem FBs {s t:AA} (h:t.size≠768):iK s t=some (⟨#[]⟩,false):=by rw [iK,JA8,mk,IA8,HA8,mk,GA8,EA8,mk,show ((t.size:Int) != 768)=true from bne_iff_ne.2 (by omega)];simp
theorem GBs (x:Af) (h f:Bool):EAp x h f=some (Tj x h f):=by rw [EAp,KA8,mk,tC,AP,Tj];cases Awj x <;> cases x.CY <;> cases x.CX <;> cases h <;> cases f <;> rfl
theorem HBs {s:AA} (hs:s.size<=1000):FAp s=some (Tn (s++⟨#[116]⟩)):=by have z:(⟨#[116]⟩:AA).size=1:=rfl;rw [FAp,LA8,mk,AL (by grind),RBN (by grind)];rfl
theorem IBs (x:Af):GAp x=some (tH x):=by rw [GAp,MA8,mk,tC,AP,tH];grind [EBR,ZQ,HBs]
theorem JBs {tk:AA->AA×Bool} {b:Ap} {c:CV} {x:Af} (h:PB b) (hc:c.fText.size<=1000) (hx:C9 b.AU.AZ x.fId=some x) (htk:c.Au=12->∀ v:AA,v.size=32->iK (O6 v) c.fText=some (tk (O6 v))):HAp b c x=some (Vb tk b c x):=by
 have hk:(KP b).size<=900000000:=by simp [KP,Aro]
 rw [HAp,NA8,mk,Vb];simp only [O7 (n:=8) (by decide),O7 (n:=6) (by decide),EBp,BAr,PBQ h.key,MBr hk,GBs,IBs,AP];cases c.Au == 6
 ·cases c.Au == 5
  ·cases c.Au == 10
   ·cases h12:c.Au == 12
    ·cases c.Au == 8
     ·cases c.Au == 7;·cases c.Au == 9 <;> rfl
      ·rfl
     ·rw [Ar,Ar];cases (Tj x c.CY c.CX).2 <;> rfl
    grind [NBP,ZQ,EBR]
   grind
  grind [LBr]
 grind
theorem KBs {tk:AA->AA×Bool} {b:Ap} {c:CV} (h:PB b) (hd:Dec b) (hok:Zm b=some true) (hu:b.CZ=true) (hc:OL c=true) (hn:b.AU.fCount<10000) (htk:c.Au=12->∀ v:AA,v.size=32->iK (O6 v) c.fText=some (tk (O6 v))):Avi b c=some (Fb tk b c):=by
 have hs:=h.MP;have ht:=h.things;have ho:=h.opn;have hz:=LBN hc;have h5:=(HY.1 h.Jk).2.2.1.1;rw [Avi,IAp,mk,Fb,hok,AP,hu,KBN,hc,tJ (by omega)];simp only [O7 (n:=9) (by decide),O7 (n:=1) (by decide),O7 (n:=2) (by decide),O7 (n:=5) (by decide),O7 (n:=6) (by decide),O7 (n:=7) (by decide),AP,DN,Aq];rw [AsB (by simp_all),A8 (n:=b.CW+1) (by omega) (by omega),hd.opn];cases c.Au == 1
 ·rw [Aq,Aq];by_cases ha:Gl b c.EJ<0;·simp_all
  ·rw [D6 ha,Aq,Aq];have hlt:Gl b c.EJ<(b.BP.length:Int):=by
    rw [Gl] at ha ⊢;cases hp:Jg b.BP c.EJ 0 with
    | none=>simp_all
    | some j=>have:=(QAr hp).2;simp_all
   cases c.Au == 13
   ·rw [Aq,Aq];cases c.Au == 2
    ·rw [Aq,Aq,AL (by simp_all)];cases (b.BP.getD (Gl b c.EJ).toNat ⟨0,false⟩).QW;·rfl
     ·rw [DN,Aq,Aq];cases c.Au == 3;·grind [Vg,C9,JBs,KBr,GBr]
      ·rw [Ar,Ar,Ar2 (by omega)];cases decide ((c.fText.size:Int) > 20) <;> rfl
    grind [JBo]
   ·rfl
 grind
def Ar6:AA->AA×Bool:=fun _=>(⟨#[]⟩,false)
theorem LBs:((List.range 100).all fun m=>decide (Xf (m:Int)=some (Tq (m:Int))))=true:=by kernel_rfl
theorem FBR {n:Int} (h:0<=n/\n<100):Xf n=some (Tq n):=by
 obtain ⟨m,rfl⟩:∃ m:Nat,n=(m:Int):=⟨n.toNat,by omega⟩
 exact of_decide_eq_true (List.all_eq_true.1 LBs m (List.mem_range.2 (by omega)))
theorem MBs {l:List Ah}:∀ {b:Bo},(Dl b l).2=true->(Dl b l).1.BM<=b.BM+(l.length:Int):=by induction l<;>grind [Dl,LBB]
theorem Good.NBs {k:AA} {l:List Ah} {b:Ap} (g:Good k l b):b.AU.BM<=(l.length:Int):=by have h:=MBs (l:=l) (b:=DI) (by rw [g.book]);rw [g.book,show DI.BM=0 from rfl,Int.zero_add] at h;exact h
def Nk (e:DW):Prop:=Ru e=true/\(e.BA.Au=12->e.BA.fText.size≠768)
theorem Nk.call {e:DW} (h:Nk e) (hr:e.JY=false):OL e.BA=true:=by have h1:=h.1;simp_all [Ru]
structure AzZ (k:AA) (l:List Ah) (L:Bg):Prop where
 box:Good k l L.AX\/Down k l L.AX
 done:L.CO=l
 few:l.length<=L.Bq.length+1/\L.EN.length=L.Bq.length/\L.Cm.length<=L.Bq.length
 opn:L.AX.CW<=(L.Bq.length:Int)
theorem AzZ.down {k:AA} {l:List Ah} {L:Bg} (h:Down k l L.AX):L.AX.CZ=false/\L.AX.BD=[]/\L.AX.BP=[]/\L.AX.AU=DI/\L.AX.CW=0/\L.AX.BO=k/\Small L.AX.Bc/\O4 L.AX=true:=by
 obtain ⟨X,hX,Al,_⟩:=h.box
 rw [hX];exact ⟨rfl,rfl,rfl,rfl,rfl,rfl,KBM (by omega),NBM (b:=⟨k,false,dk X X.size,DI,[],[],0⟩) h.Hu (QD (by omega) (by omega))⟩
theorem Good.dec {k:AA} {l:List Ah} {b:Ap} (g:Good k l b) (hl:l.length<60) (ho:b.CW<60):Dec b:=⟨FBR (by have:=g.NBs;have:=g.pb.last;omega),FBR (by have:=g.opn;omega)⟩
theorem Good.plan {k:AA} {l:List Ah} {b:Ap} {c:CV} (g:Good k l b) (hl:l.length<60) (ho:b.CW<60) (hc:OL c=true) (h12:c.Au=12->c.fText.size≠768):Avi b c=some (Fb Ar6 b c):=
 KBs g.pb (g.dec hl ho) g.pOk g.up hc (by have:=g.cnt;omega) fun h v _=>FBs (h12 h)
theorem Good.carry {k:AA} {l:List Ah} {b:Ap} {c:CV} {code leaf:Int} (g:Good k l b) (hl:leaf<=1000):Aq2 b c code leaf=some (Ij b c code leaf):=JBQ g.iL g.ADh.2 g.lives.2 hl
theorem GBR {b:Ap} (hb:G9 b.AU=true) (hl:Vh b=true) (t:Int):Lj b t<=16:=by
 rw [Lj];cases hx:C9 b.AU.AZ t with
 | none=>simp
 | some x=>
  obtain ⟨e1,e2⟩:=Oo hx
  have h1:=Arq (ArP (HY.1 hb).2.2.2.2.2.2 x e2).2.2;have h2:=VAs hl (by rw [e1];exact hx) (by omega);grind
def ZR (L:Bg) (e:DW) (code:Int):List D8:=bif e.BA.Au == 5 && code == 0 then L.Cm++[⟨e.BA.Ag,Lj L.AX e.BA.Ag,(L.Bq.length:Int)⟩] else L.Cm
inductive Step (k:AA) (e:DW) (l:List Ah) (L:Bg):List Ah->Bg->Prop
 | call (g:Good k l L.AX) (hr:e.JY=false) (hc:e.Nr=false\/(Fb Ar6 L.AX e.BA).1=[]):Step k e l L (l++(Fb Ar6 L.AX e.BA).1) ⟨Nc L.AX e.BA (Fb Ar6 L.AX e.BA),L.Bq++[(Fb Ar6 L.AX e.BA).2.1],L.EN++[(Fb Ar6 L.AX e.BA).2.2],ZR L e (Fb Ar6 L.AX e.BA).2.1,L.CO++(Fb Ar6 L.AX e.BA).1⟩
 | cut (g:Good k l L.AX) (hr:e.JY=false) (r:Ah) (hp:(Fb Ar6 L.AX e.BA).1=[r]) (b':Ap) (l':List Ah) (d:Down k l' b') (hl:l'=l\/l'=l++[r]):Step k e l L l' ⟨b',L.Bq++[10],L.EN++[⟨#[]⟩],L.Cm,bif decide (l'.length > l.length) then L.CO++[r] else L.CO⟩
 | down (d:Down k l L.AX) (hr:e.JY=false):Step k e l L l ⟨L.AX,L.Bq++[9],L.EN++[tK 9],L.Cm,L.CO⟩
 | up (d:Down k l L.AX) (hr:e.JY=true) (b':Ap) (g:Good k l b') (h1:b'.BP=[]) (h2:b'.BD=[]) (h3:b'.CW=0):Step k e l L l ⟨b',L.Bq++[0],L.EN++[⟨#[]⟩],L.Cm,L.CO⟩
 | stay (g:Good k l L.AX) (hr:e.JY=true):Step k e l L l ⟨L.AX,L.Bq++[1],L.EN++[⟨#[]⟩],L.Cm,L.CO⟩
theorem HBR {l:Bg} {e:DW} {w code leaf:Int} {s:AA} {b2:Ap} (hp:Avi l.AX e.BA=some ([],code,s)) (hl:ArG l.AX e.BA.Ag=some leaf) (hc:Aq2 l.AX e.BA code leaf=some b2) (z1:l.Bq.length<=1000) (z2:l.EN.length<=1000) (z4:l.Cm.length<=1000) :
  Ar0 l e w=some ⟨b2,l.Bq++[code],l.EN++[s],bif e.BA.Au == 5 && code == 0 then l.Cm++[⟨e.BA.Ag,leaf,w⟩] else l.Cm,l.CO⟩:=by
 obtain ⟨m,hm⟩:∃ m,AY=m+1:=⟨AY - 1,rfl⟩
 rw [Ar0,tN,mk,hp,AP,hl,hm];have key:∀ o,o=Zn (m+1) (.c0 w code s leaf ((([]:List Ah).length:Nat):Int) 0 l.AX.BO l.AX.CZ l.AX.AU.Bv l.AX.AU.DU l.AX.AU.BM l.AX.AU.Dh l.AX.AU.fCount l.AX.CW e [] l.AX.Bc.Ak l.AX.AU.AZ l.AX.BP l.AX.BD l.Bq l.EN l.Cm l.CO)->o=some ⟨b2,l.Bq++[code],l.EN++[s],bif e.BA.Au == 5 && code == 0 then l.Cm++[⟨e.BA.Ag,leaf,w⟩] else l.Cm,l.CO⟩:=by
  intro o ho;rw [ho,Zn];simp only [tV,mk];rw [AsB (by rfl)];show (Aq2 l.AX e.BA code leaf).bind _=_;rw [hc,AP,Xg (l:=⟨b2,l.Bq,l.EN,l.Cm,_⟩) (show l.Bq.length<=1000000 by omega) (show l.EN.length<=1000000 by omega),AP];cases e.BA.Au == 5;·rfl
  ·cases code == 0;·rfl
   ·rw [Ar,Ar,AL (by rw [decide_eq_true_eq];show (l.Cm.length+1)*24<=_;omega)];rfl
 cases e.Nr;·exact key _ rfl
 ·exact key _ rfl
theorem OBs {k:AA} {l:List Ah} {L:Bg} (h:Down k l L.AX) (c:CV):Avi L.AX c=some ([],9,tK 9):=by
 obtain ⟨h1,h2,h3,h4,h5,h6,h7,h8⟩:=AzZ.down h
 rw [Avi,IAp,mk,VBB (by have:=h7.1;omega) (fun f hf=>by have:=h7.2 f hf;omega) (by rw [h4];exact DJ _) (by simp_all) (by simp_all),h8,AP,h1,O7 (n:=9) (by decide)];rfl
theorem PBs (b:Ap) (c:CV) (code leaf:Int):(Ij b c code leaf).CW<=b.CW+1:=by
 rw [Ij,Va];cases code != 0
 ·cases c.Au == 1
  ·cases c.Au == 13
   ·cases c.Au == 2
    ·cases c.Au == 5;·cases c.Au == 9 <;> (show b.CW<=_;omega)
     ·cases C9 b.AU.AZ c.Ag with
      | none=>grind
      | some x=>
       dsimp only;cases x.Aj == 2 && (decide (leaf>=0) && decide (leaf<x.fNext)) <;> (show b.CW<=_;omega)
    ·show b.CW<=_;omega
   ·show b.CW<=_;omega
  simp
 grind
theorem QBs (b:Ap) (c:CV) (p:PT):(Nc b c p).CW<=b.CW+1:=by rw [Nc];cases p.1 <;> exact PBs _ _ _ _
theorem RBs {tk:AA->AA×Bool} {k:AA} {l:List Ah} {b:Ap} {c:CV} (g:Good k l b):(Fb tk b c).1.length<=1:=by
 rcases XU (tk:=tk) (c:=c) g with h | ⟨r,h,_⟩ <;> rw [h]
 all_goals simp
theorem BAt {k:AA} {l l':List Ah} {L L':Bg} {e:DW} (h:AzZ k l L) (hn:L.Bq.length<45) (s:Step k e l L l' L'):AzZ k l' L'/\L'.Bq.length=L.Bq.length+1:=by
 obtain ⟨f1,f2,f3⟩:=h.few
 have ho:=h.opn;have app:∀ {α:Type} (xs:List α) (x:α),(xs++[x]).length=xs.length+1:=fun xs x=>by simp
 have HC:∀ c,(ZR L e c).length<=L.Cm.length+1:=fun c=>by grind [ZR]
 cases s with
 | call g hr hc=>
  have h1:=RBs (tk:=Ar6) (c:=e.BA) g;refine ⟨⟨.inl (NBQ g (by omega)),by rw [h.done],⟨?_,?_,?_⟩,?_⟩,app _ _⟩;·grind
  ·simp_all
  ·grind
  ·dsimp only;rw [app];have:=QBs L.AX e.BA (Fb Ar6 L.AX e.BA);omega
 | cut g hr r hp b' l2 d hl=>
  obtain ⟨X,hX,_⟩:=d.box
  refine ⟨⟨.inr d,?_,⟨?_,?_,?_⟩,?_⟩,app _ _⟩
  ·rcases hl with rfl | rfl
   ·dsimp only;rw [D6 (by omega),h.done];rfl
   ·dsimp only;rw [Ba (by simp),h.done];rfl
  all_goals grind
 | down d hr=>
  refine ⟨⟨.inr d,h.done,⟨?_,?_,?_⟩,?_⟩,app _ _⟩ <;> dsimp only <;> rw [app] <;> try rw [app]
  all_goals omega
 | up d hr b' g h1 h2 h3=>
  refine ⟨⟨.inl g,h.done,⟨?_,?_,?_⟩,?_⟩,app _ _⟩ <;> dsimp only <;> rw [app] <;> try rw [app]
  all_goals omega
 | stay g hr=>
  refine ⟨⟨.inl g,h.done,⟨?_,?_,?_⟩,?_⟩,app _ _⟩ <;> dsimp only <;> rw [app] <;> try rw [app]
  all_goals omega
structure DB (b:Ap):Prop where
 k:b.BO.size=32
 s:∀ x ∈ b.BP,0<=x.fId/\x.fId<=1000
 sl:b.BP.length<=1000
 t:∀ x ∈ b.AU.AZ,0<=x.fId/\x.fId<=1000
 tl:b.AU.AZ.length<=1000
structure CI (c:CV):Prop where
 o:1<=c.Au/\c.Au<=13
 s:0<=c.EJ/\c.EJ<=1000
 t:0<=c.Ag/\c.Ag<=1000
 k:0<=c.Aj/\c.Aj<=3
 x:c.Au=12->c.fText.size≠768
theorem AzZ.db {k:AA} {l:List Ah} {L:Bg} (h:AzZ k l L):DB L.AX:=by
 rcases h.box with g | d
 ·have b:=HY.1 g.Jk;exact ⟨by rw [g.key,g.Hu],fun x hx=>by have:=g.ADh.1 x hx;have:=g.opn;omega,by have:=g.MP.1;omega,fun x hx=>by have:=ArP b.2.2.2.2.2.2 x hx;omega,by omega⟩
 ·obtain ⟨h1,h2,h3,h4,h5,h6,h7,h8⟩:=AzZ.down d
  exact ⟨by rw [h6,d.Hu],fun x hx=>(by simp_all),by simp_all,fun x hx=>(by rw [h4] at hx;cases hx),by rw [h4];exact DJ _⟩
def CR (r:CV×DZ):Prop:=CI r.1/\Hg r.2
theorem IBR {m:Nat} {i h:Int} {y v:CV} (hi:0<=i) (hv:CI v):Ok (O8 (m+1) (.c4 i h y v)) CR:=by rw [O8];simp only [Xh,mk];exact Ok.bind (Ar9 (c:=⟨(),i,h⟩) hi) fun a ha=>Ok.cond (fun _=>Ok.bind (OM ha) fun b hb=>Ok.ret ⟨⟨hv.o,hv.s,by grind,hv.k,hv.x⟩,hb.2⟩) fun _=>Ok.ret ⟨hv,ha⟩
theorem Xi {m:Nat} {i h:Int} {y v:CV} (hi:0<=i) (hv:CI v):Ok (O8 (m+2) (.c3 i h y v)) CR:=by rw [O8];simp only [Xh,mk];exact Ok.bind (Ar9 (c:=⟨(),i,h⟩) hi) fun a ha=>Ok.cond (fun _=>Ok.bind (OM ha) fun b hb=>IBR hb.2 ⟨hv.o,by grind,hv.t,hv.k,hv.x⟩) fun _=>IBR ha hv
theorem SBs {x:Int} (h:x ∈ [(1:Int),2,2,2,3,3]):0<=x/\x<=3:=by grind
theorem GBD {m:Nat} {i h:Int} {b:Ap} {A:AA} {y v:CV} (hb:DB b) (hi:0<=i) (hv:CI v):Ok (O8 (m+3) (.c2 A i h b y v)) CR:=by
 have set:∀ {n:Int} {kd:Int} {t:AA} {p q:Bool},(v.Au == n)=true->n≠12->0<=kd/\kd<=3->CI ⟨v.Au,v.EJ,v.Ag,kd,t,p,q⟩:=fun hn h12 hk=>⟨hv.o,hv.s,hv.t,hk,fun e=>absurd ((beq_iff_eq.1 hn).symm.trans e) h12⟩
 rw [O8];simp only [Xh,mk];refine Ok.cond (fun h2=>Ok.bind (Ar9 (c:=⟨(),i,h⟩) hi) fun a ha=>Ok.cond (fun _=>Xi ha (set h2 (by decide) hv.k)) fun _=>Xi ha (set h2 (by decide) hv.k)) fun _=>?_
 refine Ok.cond (fun h3=>Xi hi (set h3 (by decide) hv.k)) fun _=>?_
 refine Ok.cond (fun h4=>Ok.bind (LBL (c:=⟨(),i,h⟩) hi (by decide)) fun a ha=>Ok.bind (PAq ha.2 (by decide)) fun d hd=>Ok.bind (Ar9 hd.2) fun e he=>Ok.bind (Ar9 he) fun f hf=>Xi hf (set h4 (by decide) (SBs ha.1))) fun _=>?_
 refine Ok.cond (fun h5=>Ok.bind (PAq (c:=⟨(),i,h⟩) hi (by decide)) fun a ha=>Xi ha.2 (set h5 (by decide) hv.k)) fun _=>?_
 refine Ok.cond (fun h8=>Ok.bind (Ar9 (c:=⟨(),i,h⟩) hi) fun a ha=>Ok.bind (Ar9 ha) fun d hd=>Xi hd (set h8 (by decide) hv.k)) fun _=>?_
 refine Ok.cond (fun h11=>Ok.bind (IBl (c:=⟨(),i,h⟩) hi) fun a ha=>Ok.bind (Ok.eq (tX _)) fun d hd=>Ok.bind (Ok.eq (WBC hb.k)) fun e he=>Ok.bind (Ok.eq (XBC (by simp_all [KP,Aro]))) fun f hf=>Xi ha.2 (set h11 (by decide) hv.k)) fun _=>Xi hi hv
theorem TBs {b:Ap} {A:AA} {y:CV} (hb:DB b):∀ (j i m:Nat) (ci h:Int) (v:CV),i+j=b.AU.AZ.length->0<=ci->CI v->Ok (O8 (m+3+j+1) (.c1 A (i:Int) ci h b y v)) CR:=by
 have htl:=hb.tl;intro j;induction j with
 | zero=>
  grind [O8,Xh,GBD]
 | succ j ih=>
  intro i m ci h v hi hc hv;have hlt:i<b.AU.AZ.length:=by omega
  have hw:=Fq (i:=i) (by omega);rw [AwB,O8];simp only [Xh,mk,hw,BR,getD_at hlt];rw [Ep (by omega),GX (by omega)];exact Ok.cond (fun _=>Ok.bind (Ar9 (c:=⟨(),ci,h⟩) hc) fun a ha=>Ok.cond (fun _=>Ok.chk (by simp_all) (ih (i+1) m _ _ _ (by omega) ha ⟨hv.o,hv.s,hb.t _ (List.getElem_mem hlt),hv.k,hv.x⟩)) fun _=>ih (i+1) m _ _ _ (by omega) ha hv) fun _=>ih (i+1) m _ _ _ (by omega) hc hv
theorem CAt {m:Nat} {i h:Int} {b:Ap} {A:AA} {y v:CV} (hb:DB b) (hi:0<=i) (hv:CI v):Ok (O8 (m+3+b.AU.AZ.length+1+1) (.c0 A i h b y v)) CR:=by
 have e:m+3+b.AU.AZ.length+1=(m+b.AU.AZ.length+1)+3:=by omega
 rw [O8];simp only [Xh,mk];refine Ok.cond (fun ht=>Ok.bind (OM (c:=⟨(),i,h⟩) hi) fun a ha=>?_) fun _=>(by simp_all [GBD])
 rw [decide_eq_true_eq] at ht;have h1:=ha.1.1;have h2:=ha.1.2.1 (by omega);have hv2:∀ d,CI ⟨v.Au,v.EJ,(b.AU.AZ.getD a.1.toNat d).fId,v.Aj,v.fText,v.CY,v.CX⟩:=fun d=>⟨hv.o,hv.s,by dsimp only;rw [getD_at (by omega)];exact hb.t _ (List.getElem_mem _),hv.k,hv.x⟩
 exact Ok.chk (by simp_all) (Ok.cond (fun _=>TBs hb b.AU.AZ.length 0 m _ _ _ (Nat.zero_add _) ha.2 (hv2 _)) fun _=>(by rw [e];exact GBD hb ha.2 (hv2 _)))
theorem JBR {x:Int} (h:x ∈ [(1:Int),2,2,3,4,4,4,5,5,5,6,7,8,9,10,11,12,13]):1<=x/\x<=13:=by simp only [List.mem_cons,List.not_mem_nil,or_false] at h;omega
theorem UBs {c:DZ} {b:Ap} {A:AA} (hc:Hg c) (hb:DB b):Ok (WAj c b A) CR:=by
 have hsl:=hb.sl;have htl:=hb.tl;obtain ⟨m,hm⟩:=gm (n:=3+b.AU.AZ.length+1) (by omega)
 have hm2:AY=m+3+b.AU.AZ.length+1+1:=by omega
 rw [WAj,MAx,mk,hm2];have e0:(⟨#[]⟩:AA).size≠768:=by decide
 refine Ok.bind (LBL hc (by decide)) fun a ha=>Ok.cond (fun _=>CAt hb ha.2 ⟨by simp,by simp,by simp,by simp,fun _=>e0⟩) fun hs=>?_
 have hs1:b.BP.length≠0:=fun q=>by simp_all
 have hgs:∀ (n:Nat) d,n<b.BP.length->0<=(b.BP.getD n d).fId/\(b.BP.getD n d).fId<=1000:=fun n d hn=>by rw [getD_at hn];exact hb.s _ (List.getElem_mem hn)
 refine Ok.bind (OM ha.2) fun d hd=>?_
 have h1:=hd.1.1;have h2:=hd.1.2.1 (by omega);have z:(decide ((0:Int)<=0) && decide ((0:Int)<(b.BP.length:Int)))=true:=by grind
 have some1:∀ {o:Int} {n:Nat} {q},(1<=o/\o<=13)->n<b.BP.length->CI ⟨o,(b.BP.getD n q).fId,0,0,⟨#[]⟩,false,false⟩:=fun ho hn=>⟨ho,hgs _ _ hn,by simp,by simp,fun _=>e0⟩
 exact Ok.chk (by simp_all) (Ok.chk z (Ok.cond (fun _=>Ok.bind (Ar9 hd.2) fun e he=>Ok.cond (fun _=>Ok.chk z (CAt hb he (some1 (by omega) (by omega)))) fun _=>CAt hb he (some1 (JBR ha.1) (by omega))) fun _=>CAt hb hd.2 (some1 (JBR ha.1) (by omega))))
def tY:DW:=⟨⟨0,0,0,0,⟨#[]⟩,false,false⟩,false,[],true⟩
def EvD (e:DW):Prop:=e=tY\/(CI e.BA/\e.Lc.length<=2)
theorem VBs {c:CV} (h:CI c) (hz:c.fText.size<=1000):OL c=true:=by rw [OL,Na.2 h.o,Na.2 h.s,Na.2 h.t,Na.2 h.k,Ba (by omega)];rfl
theorem KBR {e:DW} (h:EvD e) (hz:e.BA.fText.size<=1000):Nk e:=by
 rcases h with rfl | ⟨h1,h2⟩
 ·have hn:iM tY.BA=true:=by rw [iM,show ((ByteArray.toList tY.BA.fText) == ByteArray.toList (⟨#[]⟩:AA))=true from Oe _];rfl
  exact ⟨by assumption,fun q=>by cases q⟩
 ·exact ⟨by grind [Ru,VBs],h1.x⟩
theorem WBs {e:DW} (h:EvD e) (hz:¬ e.BA.fText.size<=1000):Nk ⟨⟨e.BA.Au,e.BA.EJ,e.BA.Ag,e.BA.Aj,⟨#[108,111,110,103]⟩,e.BA.CY,e.BA.CX⟩,e.Nr,e.Lc,e.JY⟩:=by
 rcases h with rfl | ⟨h1,h2⟩
 ·exact absurd (DJ _) hz
 ·have h4:(⟨#[108,111,110,103]⟩:AA).size=4:=rfl;exact KBR (.inr ⟨⟨h1.o,h1.s,h1.t,h1.k,fun _=>by simp_all⟩,h2⟩) (by simp_all)
def AKN (l:Bg) (r:DW×DZ×Bg):Prop:=EvD r.1/\Hg r.2.1/\r.2.2=l
theorem DAt {c:DZ} {x:CV} {l:Bg} (hc:Hg c) (hx:CI x):Ok ((Avm ⟨(),c.fI,c.AyA⟩ 12).bind fun Bm=>bif Bm.1 then (AsP ⟨(),Bm.2.fI,Bm.2.AyA⟩ 2000).bind fun Bk=>(AsP ⟨(),Bk.2.fI,Bk.2.AyA⟩ 50).bind fun r16=>(Avm ⟨(),r16.2.fI,r16.2.AyA⟩ 30).bind fun Bx=>bif Bx.1 then some (tY,(⟨(),Bx.2.fI,Bx.2.AyA⟩,l)) else some (⟨x,true,[Bk.1,r16.1],false⟩,(⟨(),Bx.2.fI,Bx.2.AyA⟩,l)) else (Avm ⟨(),Bm.2.fI,Bm.2.AyA⟩ 30).bind fun B6=>bif B6.1 then some (tY,(⟨(),B6.2.fI,B6.2.AyA⟩,l)) else some (⟨x,false,[],false⟩,(⟨(),B6.2.fI,B6.2.AyA⟩,l))) (AKN l):=
 Ok.bind (Ar9 hc) fun a ha=>Ok.cond (fun _=>Ok.bind (OM ha) fun b hb=>Ok.bind (OM hb.2) fun d hd=>Ok.bind (Ar9 hd.2) fun f hf=>Ok.cond (fun _=>Ok.ret ⟨.inl rfl,hf,rfl⟩) fun _=>Ok.ret ⟨.inr ⟨hx,Nat.le_refl _⟩,hf,rfl⟩) fun _=>Ok.bind (Ar9 ha) fun f hf=>Ok.cond (fun _=>Ok.ret ⟨.inl rfl,hf,rfl⟩) fun _=>Ok.ret ⟨.inr ⟨hx,DJ _⟩,hf,rfl⟩
theorem XBs {c:DZ} {l:Bg} (hc:Hg c) (hb:DB l.AX):Ok (tZ c l) (AKN l):=by
 rw [tZ,NAx,mk];refine Ok.cond (fun _=>Ok.bind (Ar9 hc) fun a ha=>Ok.cond (fun _=>Ok.ret ⟨.inl rfl,ha,rfl⟩) fun _=>?_) fun _=>?_
 all_goals
  refine Ok.bind (UBs (by omega) hb) fun x hx=>Ok.cond (fun hr=>Ok.cond (fun h11=>Ok.bind (Ar9 hx.2) fun d hd=>Ok.cond (fun _=>Ok.bind (OM hd) fun f hf=>?_) fun _=>DAt hd hx.1) fun _=>DAt hx.2 hx.1) fun _=>DAt hx.2 hx.1
  rw [decide_eq_true_eq] at hr;have f1:=hf.1.1;have f2:=hf.1.2.1 hr;have x1:=hx.1;rw [beq_iff_eq] at h11;exact Ok.chk (by simp_all) (DAt hf.2 ⟨x1.o,x1.s,x1.t,x1.k,fun q=>absurd (h11.symm.trans q) (by decide)⟩)
theorem Tz {l:Bg} {c:Int} {s:AA} (h1:l.Bq.length<=1000000) (h2:l.EN.length<=1000000):Vj l c s=some (AJl l c s):=by
 rw [Vj,OAx,mk];try simp only [List.nil_append]
 rw [Ep (by omega),Ep (by omega),Ep (by omega),Ep (by omega)];rfl
theorem YBs {b:Ap} {t:Int} (h:b.BP.length<=140737488351232):ZAj b t=some (Gl b t):=by
 have key:∀ (j i m:Nat),i+j=b.BP.length->iO (m+j+1) (.c0 t (i:Int) b)=some (match Jg (b.BP.drop i) t i with | some j=>(j:Int) | none=> -1):=by
  intro j;induction j with
  | zero=>
   intro i m hi;rw [iO];simp only [YAj,mk];rw [Jh (by omega),List.drop_of_length_le (by omega)];rfl
  | succ j ih=>
   intro i m hi;have hil:i<b.BP.length:=by omega
   grind [Fq,iO,drop_at,Jg,YAj,BR]
 obtain ⟨m,hm⟩:=gm (n:=b.BP.length) (by omega)
 rw [ZAj,TAx,hm];exact key b.BP.length 0 m (Nat.zero_add _)
theorem ZBs {b:Ap} {c:CV} (ht:0<=b.AU.DU/\b.AU.DU<=3) (hc:c.fText.size<=1000000000):ADp b c=some (iP b c):=by
 rw [ADp,UAx,mk,iP];simp only [LJ hc,AP];by_cases h:b.AU.DU>=3;·rw [Ba h,show (b.AU.DU == 3)=true from beq_iff_eq.2 (by omega)];rfl
 ·rw [D6 h,show (b.AU.DU == 3)=false from beq_eq_false_iff_ne.2 (by omega),A8 (by omega) (by omega)];cases (EM c.fText).toList == b.AU.Bv.toList <;> cases b.AU.DU == 0 <;> rfl
theorem IBD {n:Int} (h:0<=n/\n<10000):iQ n=some (Tq n):=by
 obtain ⟨m,rfl⟩:∃ m:Nat,n=(m:Int):=⟨n.toNat,by omega⟩
 exact GBp (by omega)
theorem LBR {b:Ap} {c:CV} {x:Af} {ok:Bool} (h:PB b):tq b c x ok=some (Xj b c x ok):=by have hl:=h.last;have h8:=h.things;rw [tq,XAx,mk,Xj,newX,A8 (by omega) (by omega),IBD (by omega),show decide ((b.AU.AZ.length:Int)>=8)=((b.AU.AZ.length:Int) == 8) by grind,show decide (b.AU.BM>=1000)=(b.AU.BM == 1000) by grind];cases ok <;> cases (b.AU.AZ.length:Int) == 8 <;> cases b.AU.BM == 1000 <;> cases x.CY <;> cases x.CX <;> rfl
theorem MBR {k t:AA} {num:Int} (hk:k.size<=900000000) (ht:t.size<=800000000):iR k num t=some (EP k num t):=by
 rw [iR,AJr,mk,EP];have hw:AV ((t.size:Int) - 16)=(t.size:Int) - 16:=A8 (by omega) (by omega);rw [hw];by_cases h:t.size<16;·grind
 ·obtain ⟨n,hn⟩:∃ n,t.size=n+16:=⟨t.size - 16,by omega⟩
  obtain ⟨e1,e2⟩:=GBN t hn
  have hz:(t.size:Int) - 16=(n:Int):=by omega
  have hb:=bs_len t;have hes:(t.extract 0 n).size=n:=by simp_all
  rw [AsB (by grind),hz,BR,hes,AL (by grind),QBK hk,AP,Xk,show decide ((t.size:Int)<16)=false by grind,Bool.false_or];cases hm:MB num n;·rfl
  ·have h':=iU.1 hm;have hml:=Rw (bs k) (SN num) n;rw [DN,Aq,Ar,AsB (by rfl),BR,SBK hk h'.1 (by omega),AP,AL (by grind)];simp only [ZAx,YAx,mk,AP,Rx,AsM (UH _ _ _),e1,e2];cases hc:(Aqe (bs k) num ((bs t).take (t.size - 16)) == (bs t).drop (t.size - 16))
   ·rfl
   ·rw [DN,Aq,RBK (by omega) (by simp_all [Dj]),AP,AsM (tu _ _ _),e1,Ar,show t.size - 16=n by omega]
theorem Aby {k t:AA} (hk:k.size<=900000000) (ht:t.size<=800000000):EAk k t=some (Awy k t):=by
 have hz:=uD k t 0;have hr0:=RBL (text:=(EP k 0 t).1) (a:=0) (by omega) (DJ _);rw [show ((0:Nat):Int)=0 from rfl] at hr0;rw [EAk,CAy,mk,MBR hk ht,AP,hr0,AP,Awy];cases ho:(EP k 0 t).2;·rfl
 ·have hx:=uF (text:=(EP k 0 t).1) (a:=0) (by omega) (DJ _);have Er:=DBm ho;generalize (EP k 0 t).1=O at hz hx Er;rw [AsB (by rfl),QF];rcases hx with hx | ⟨v,hx,h0,h1,hA⟩
  ·rw [hx];rfl
  ·rw [hx];have hsz:=hA.size.resolve_left (by grind [Qy]);simp only [DN,Aq,Bool.false_or];rw [A8 (n:=(O.size:Int) - ((0+(SN v).length:Nat):Int)) (by omega) (by omega)];by_cases h3:v > (O.size:Int) - ((0+(SN v).length:Nat):Int)
   ·grind
   ·rw [AsB (by simp_all),A8 (n:=((0+(SN v).length:Nat):Int)+v) (by omega) (by omega),AL (by grind)];have hes:(O.extract ((0+(SN v).length:Nat):Int).toNat (((0+(SN v).length:Nat):Int)+v).toNat).size=v.toNat:=by grind [ByteArray.size_extract]
    generalize hS:O.extract ((0+(SN v).length:Nat):Int).toNat (((0+(SN v).length:Nat):Int)+v).toNat=S at hes;rw [XBC hk,AP,iV];by_cases h4:v > 400;·grind
    ·have e1:decide ((S.size:Int) > 400)=false:=D6 (by omega);have e:(decide (v > 20000) || decide (v > (O.size:Int) - ((0+(SN v).length:Nat):Int)))=false:=by grind
     have h2:=CBC (l:=bs S) (by grind [bs_len]);have hl:=bs_len S;have hm:MB 0 ((ofBytes (QG (bs S))).size:Int)=true:=by grind [iU,Dj]
     have hfb:=BBC (Jj S)
     rw [e,Aq,e1,Aq,Ti,hm,Ar,AsM hfb,AsB (by rfl),Rx,AsM (fun x hx=>by
      rcases List.mem_append.1 hx with hx | hx
      ·exact Vk _ _ x hx
      ·exact UH _ _ _ x hx)]
     grind [EBm,Jj]
theorem BBt (x:Af):FAy x=some ⟨0,x.Aj,x.CY,x.CX,false,x.GH,x.fValue,0⟩:=rfl
theorem CBt {b:Ap} {c:CV} (h:PB b) (hc:c.fText.size<=1000):KAk b c=some (uG b c):=by
 have hz:=VBC (KP b) c.fText;have hr:=(UBC (t:=(Awy (KP b) c.fText).1) (by omega)).2.1;have hk:(KP b).size<=900000000:=by simp [KP,Aro]
 rw [KAk,GAy,mk,uG,inX];simp only [WBC h.key,Aby hk (show c.fText.size<=800000000 by omega),hr,BBt,LBR h,AP];cases (Awy (KP b) c.fText).2 <;> rfl
theorem DBt (x:Af) (d:Int):LAk x d=some (Qk x d):=by rw [LAk,HAy,mk,uH,AP,Qk,bne];grind
theorem NBR {b:Ap} {x:Af} (h:b.BD.length<=140737488351232):uI b x=some (DF b x):=by
 have key:∀ (j i m:Nat),i+j=b.BD.length->iW (m+j+1) (.c0 (i:Int) b x)=some (match AxB (b.BD.drop i) x.fId i with | some j=>(b.BD.getD j ⟨0,0⟩).fNext | none=>x.fNext):=by
  intro j;induction j with
  | zero=>
   intro i m hi;rw [iW];simp only [MAk,mk];rw [AsB (by simp_all),List.drop_of_length_le (by omega)];rfl
  | succ j ih=>
   intro i m hi;have hil:i<b.BD.length:=by omega
   have hw:AV ((i:Int)+1)=((i+1:Nat):Int):=by grind [A8]
   grind [iW,MAk,BR,drop_at,AxB]
 obtain ⟨m,hm⟩:=gm (n:=b.BD.length) (by omega)
 rw [uI,IAy,hm];exact key b.BD.length 0 m (Nat.zero_add _)
theorem uJ {s:AA} (h:s.size<=1000000000):PE s=some (EK s):=by rw [PE,KAy,mk,LJ h,AP,Aro,AL (by rfl)];rfl
theorem OBR {s:AA} {leaf:Int} (hl:0<=leaf/\leaf<=255) (hs:s.size<=100000):iY s leaf=some (IC s leaf 10):=by
 have key:∀ (j i m:Nat),i+j=10->Zo (m+j+1) (.c0 s leaf (i:Int) (IC s leaf i))=some (IC s leaf 10):=by
  intro j;induction j with
  | zero=>
   grind [Zo,OAk]
  | succ j ih=>
   intro i m hi;have hw:AV ((i:Int)+1)=((i+1:Nat):Int):=by grind [A8]
   have ho:(IC s leaf i).length=i:=by simp [IC]
   have hm:IC s leaf i++[keyAt s leaf (i:Int)]=IC s leaf (i+1):=by simp [IC,List.range_succ]
   rw [AwB m j,Zo];simp only [OAk,mk,hw];rw [AL (by grind),OO hl.1 hl.2,AP];show (bif decide (s.size+(b1 leaf).size<=_) then _ else _)=_;rw [AL (by grind [Hl]),OO (by omega) (by omega),AP];show (bif decide ((s++b1 leaf).size+(b1 (i:Int)).size<=_) then _ else _)=_;rw [AL (by grind [Hl])];show (bif decide ((s++b1 leaf++b1 (i:Int)).size+Zp.size<=_) then _ else _)=_;have hO:Zp.size=1:=rfl;rw [AL (by grind [Hl])];show (PE (s++b1 leaf++b1 (i:Int)++Zp)).bind _=_;rw [uJ (by grind [Hl]),AP,ho,AL (by grind)];show Zo (m+j+1) (.c0 s leaf ((i+1:Nat):Int) (IC s leaf i++[keyAt s leaf (i:Int)]))=_;rw [hm];exact ih (i+1) m (by omega)
 obtain ⟨m,hm⟩:∃ m,AY=m+10+1:=⟨AY - 11,by rfl⟩
 rw [iY,LAy,hm];exact key 10 0 m rfl
theorem PBR {x:AA} {leaf chain:Int} {f n:Nat} (hl:0<=leaf/\leaf<=255) (hc:0<=chain/\chain<=255) (hn:n<=15) (hf:f+n<=255) (hx:x.size<=100000):Zq x leaf chain (f:Int) (n:Int)=some (Arh leaf chain n f x):=by
 have hs:∀ i,(Arh leaf chain i f x).size<=100000:=fun i=>by
  cases i with
  | zero=>exact hx
  | succ i=>simp [Zr,Ry]
 have key:∀ (j i m:Nat),i+j=n->iZ (m+j+1) (.c0 (Arh leaf chain i f x) leaf chain (f:Int) (n:Int) (i:Int))=some (Arh leaf chain n f x):=by
  intro j;induction j with
  | zero=>
   grind [iZ,PAk]
  | succ j ih=>
   intro i m hi;have hw:AV ((i:Int)+1)=((i+1:Nat):Int):=by grind [A8]
   have hsi:=hs i;have hm:=Zr leaf chain f x i;rw [AwB m j,iZ];simp only [PAk,mk,hw];have hfm:(f:Int).tmod 256=(f:Int):=by grind
   rw [AL (by grind),AL (by grind),OO hl.1 hl.2,AP,OO hc.1 hc.2,AP,hfm,A8 (by omega) (by omega),OO (by omega) (by omega)];grind [b1,Hl,Arh,uJ]
 obtain ⟨m,hm⟩:=gm (n:=n) (by omega)
 rw [Zq,MAy,hm];exact key n 0 m (Nat.zero_add _)
theorem EBt {keys:List AA} {leaf:Int} (hk:keys.length=10) (hl:0<=leaf/\leaf<=255) (hs:∀ x ∈ keys,x.size<=100000):uK keys leaf=some (Vl keys leaf):=by
 have key:∀ (j i m:Nat),i+j=10->ig (m+j+1) (.c0 keys leaf (Aqg (MR keys leaf i)) (i:Int))=some (Vl keys leaf):=by
  intro j;induction j with
  | zero=>
   intro i m hi;obtain rfl:i=10:=by omega
   have hz:=Av1 (SAr (keys:=keys) (leaf:=leaf) (n:=10));rw [TAr] at hz;rw [ig];simp only [QAk,mk];rw [AsB (by rfl),uJ (by omega)];rfl
  | succ j ih=>
   intro i m hi;have hlt:i<keys.length:=by omega
   have hw:AV ((i:Int)+1)=((i+1:Nat):Int):=by grind [A8]
   have hz:=Av1 (SAr (keys:=keys) (leaf:=leaf) (n:=i));rw [TAr] at hz;have hc:=Zr leaf (i:Int) 0 keys[i] 14;have hc2:(Arh leaf (i:Int) 15 0 keys[i]).size=4:=by simp_all [Ry]
   have hm:Aqg (MR keys leaf i)++Arh leaf (i:Int) 15 0 keys[i]=Aqg (MR keys leaf (i+1)):=by grind [MR,List.range_succ,RAr,Aqg,iq]
   grind [PBR,ig,QAk,BR]
 obtain ⟨m,hm⟩:∃ m,AY=m+10+1:=⟨AY - 11,by rfl⟩
 rw [uK,NAy,mk,AsB (by simp_all),hm];exact key 10 0 m rfl
theorem QBR {s:AA} (hs:s.size<=100000):uM s=some (MS s 4):=by
 have key:∀ (j i m:Nat),i+j=4->iw (m+j+1) (.c0 s (i:Int) (MS s i))=some (MS s 4):=by
  intro j;induction j with
  | zero=>
   grind [iw,RAk]
  | succ j ih=>
   intro i m hi;have hw:AV ((i:Int)+1)=((i+1:Nat):Int):=by grind [A8]
   have ho:(MS s i).length=i:=by simp [MS]
   have hm:MS s i++[Vl (IC s (i:Int) 10) (i:Int)]=MS s (i+1):=by simp [MS,List.range_succ]
   rw [AwB m j,iw];simp only [RAk,mk,hw];rw [AL (by grind),OBR (by omega) hs,AP,EBt (uN _ _ _) (by omega) (fun x hx=>by grind [uO]),AP,ho,AL (by grind),hm];exact ih (i+1) m (by omega)
 obtain ⟨m,hm⟩:∃ m,AY=m+4+1:=⟨AY - 5,by rfl⟩
 rw [uM,OAy,hm];exact key 4 0 m rfl
theorem JBD {level place:Int} {a b:AA} (hl:0<=level/\level<=255) (hp:0<=place/\place<=255) (ha:a.size<=100000) (hb:b.size<=100000):Xl level place a b=some (Arc level place a b):=by have hN:Zt.size=1:=rfl;rw [Xl,PAy,mk,OO hl.1 hl.2,AP,OO hp.1 hp.2,AP];show (bif decide ((b1 level).size+(b1 place).size<=_) then _ else _)=_;rw [AL (by rfl)];show (bif decide ((b1 level++b1 place).size+a.size<=_) then _ else _)=_;rw [AL (by grind [Hl])];show (bif decide ((b1 level++b1 place++a).size+b.size<=_) then _ else _)=_;rw [AL (by grind [Hl])];show (bif decide ((b1 level++b1 place++a++b).size+Zt.size<=_) then _ else _)=_;rw [AL (by grind [Hl])];show (PE (b1 level++b1 place++a++b++Zt)).bind _=_;rw [uJ (by grind [Hl])];rfl
theorem RBR {lv:Int} {a b c d:AA} (hl:0<=lv/\lv<=255) (ha:a.size<=100000) (hb:b.size<=100000) (hc:c.size<=100000) (hd:d.size<=100000):Vm lv [a,b,c,d]=some [Arc lv 0 a b,Arc lv 1 c d]:=by
 obtain ⟨m,hm⟩:∃ m,AY=m+1+1+1:=⟨AY - 3,rfl⟩
 rw [Vm,SAk,hm,Xm];simp only [uQ,mk];rw [AL (by rfl),AL (by rfl),AL (by rfl)];show (Xl lv 0 a b).bind _=_;rw [JBD hl (by omega) ha hb,AP,AL (by rfl),Xm];simp only [uQ,mk];rw [AL (by rfl),AL (by rfl),AL (by rfl)];show (Xl lv 1 c d).bind _=_;rw [JBD hl (by omega) hc hd,AP,AL (by rfl),Xm];rfl
theorem SBR {lv:Int} {a b:AA} (hl:0<=lv/\lv<=255) (ha:a.size<=100000) (hb:b.size<=100000):Vm lv [a,b]=some [Arc lv 0 a b]:=by
 obtain ⟨m,hm⟩:∃ m,AY=m+1+1:=⟨AY - 2,rfl⟩
 rw [Vm,SAk,hm,Xm];simp only [uQ,mk];rw [AL (by rfl),AL (by rfl),AL (by rfl)];show (Xl lv 0 a b).bind _=_;rw [JBD hl (by omega) ha hb,AP,AL (by rfl),Xm];rfl
theorem FBt {a b c d:AA} (ha:a.size<=100000) (hb:b.size<=100000) (hc:c.size<=100000) (hd:d.size<=100000):UAk [a,b,c,d]=some (XBB a b c d):=by
 obtain ⟨m,hm⟩:∃ m,AY=m+1+1+1:=⟨AY - 3,rfl⟩
 have n1:=Aq5 1 0 a b;have n2:=Aq5 1 1 c d;rw [UAk,QAy,mk,AsB (by rfl),hm,iy];simp only [TAk,mk];rw [AL (by rfl),RBR (by omega) ha hb hc hd,AP,show AV (1+1)=2 by rfl,iy];simp only [TAk,mk];rw [AL (by rfl),SBR (by omega) (by omega) (by omega),AP,iy];rfl
theorem TBR {s:AA} (hs:s.size<=100000):uT s=some (Tn s):=by rw [uT,RAy,mk,QBR hs,AP,UAr,FBt (by simp [Ary]) (by simp [Ary]) (by simp [Ary]) (by simp [Ary])];rfl
theorem GBt {s:AA} (hs:s.size<=1000000000):uU s=some (QH s):=by
 have hz:=Ry s;have hin:=WAr (Jj (EK s));have hln:=uV (bs (EK s));rw [bs_len,hz] at hln;rw [uU,SAy,uJ hs,AP];have key:Zu AY (.c0 (EK s) (Nj (Awa ((bs (EK s)).take 0))) (0:Nat) (Awa ((bs (EK s)).take 0)))=some (QH s):=by
  refine Wj (L:=Zu) (fun i:Nat=>jA.c0 (EK s) (Nj (Awa ((bs (EK s)).take i))) (i:Int) (Awa ((bs (EK s)).take i))) 4 0 (by omega) (fun m=>?_) fun i hi m=>?_
  ·have h3:=uX hin;rw [List.take_of_length_le (by grind [bs_len]),Zu];simp only [VAk,mk];rw [Jh (by omega),Ep (by omega),Int.tdiv_eq_ediv_of_nonneg h3.1,Int.tmod_eq_emod_of_nonneg h3.1,A8 (by omega) (by omega)];rfl
  ·have hlt:i<(EK s).size:=by omega
   have hlt2:i<(bs (EK s)).length:=by grind [bs_len]
   have hw:=Fq (i:=i) (by omega);have hb:=Rz (EK s) (i:Int);have hl:(Awa ((bs (EK s)).take i)).length<=8:=by grind [uV]
   have h3:=uX (a:=Awa ((bs (EK s)).take i)) (WAr fun d hd=>Jj (EK s) d (List.mem_of_mem_take hd));have hm:Awa ((bs (EK s)).take i)++[bt (EK s) (i:Int) / 16,bt (EK s) (i:Int) % 16]=Awa ((bs (EK s)).take (i+1)):=by rw [take_at hlt2,SBN,jB hlt];rfl
   have hr:Nj (Awa ((bs (EK s)).take i))+30 - bt (EK s) (i:Int) / 16 - bt (EK s) (i:Int) % 16=Nj (Awa ((bs (EK s)).take (i+1))):=by rw [<-hm,TBN,Nj,Nj,Nj];omega
   rw [Zu];simp only [VAk,mk,hw];rw [Ep (by omega),GX (by omega),GX (by omega),Ep (by omega),GX (by omega),GX (by omega),A8 (n:=bt (EK s) (i:Int)) (by omega) (by omega),Int.tdiv_eq_ediv_of_nonneg hb.1,Int.tmod_eq_emod_of_nonneg hb.1,A8 (n:=bt (EK s) (i:Int) / 16) (by omega) (by omega),A8 (n:=Nj _+30) (by omega) (by omega),A8 (n:=Nj _+30 - _) (by omega) (by omega),A8 (by omega) (by omega),hr,hm]
 exact key
theorem HBt {keys:List AA} {leaf:Int} {s:AA} (hk:keys.length=10) (hl:0<=leaf/\leaf<=255) (hs:∀ x ∈ keys,x.size<=100000) (hm:s.size<=1000000000):WAk keys leaf s=some (MV keys leaf (QH s) 10):=by
 obtain ⟨d1,d2⟩:=UBN s
 have hdig:=GBt hm;generalize QH s=D at d1 d2 hdig;rw [WAk,TAy,mk,AsB (by simp_all),hdig,AP];refine Wj (L:=uY) (fun i:Nat=>jC.c0 keys leaf (i:Int) (MV keys leaf D i) D) 10 0 (by omega) (fun m=>?_) fun i hi m=>?_
 ·rfl
 ·have hlt:i<keys.length:=by omega
  have hlt2:i<D.length:=by omega
  have hw:=Fq (i:=i) (by omega);have hd:=d2 _ (List.getElem_mem hlt2);have ho:(MV keys leaf D i).length=i:=by simp [MV]
  grind [MV,List.range_succ,PBR,uY,UAy]
theorem IBt {a b c d:AA} {leaf:Int} (hl:0<=leaf/\leaf<=3) (ha:a.size<=100000) (hb:b.size<=100000) (hc:c.size<=100000) (hd:d.size<=100000):YAk [a,b,c,d] leaf=some (jD a b c d leaf):=by
 obtain ⟨m,hm⟩:∃ m,AY=m+1+1+1:=⟨AY - 3,rfl⟩
 have n1:=Aq5 1 0 a b;have n2:=Aq5 1 1 c d;have GM:=SBR (lv:=2) (a:=Arc 1 0 a b) (b:=Arc 1 1 c d) (by omega) (by omega) (by omega);have GP:=RBR (lv:=1) (by omega) ha hb hc hd;rw [YAk,VAy,mk,AsB (by rfl),Ho,AP,Na.2 hl,DN,Aq,hm,uZ];simp only [XAk,mk,GP,AP];have h4:leaf=0\/leaf=1\/leaf=2\/leaf=3:=by omega
 have e2:AV (1+1)=2:=by rfl
 rcases h4 with rfl | rfl | rfl | rfl
 all_goals
  rw [AL (by rfl)];first | rw [AL (by decide)] | rw [AsB (by decide)]
  rw [AL (by rfl),AL (by rfl),uZ];simp only [XAk,mk,e2,GM,AP];rfl
theorem UBR {s m:AA} {leaf:Int} (hl:0<=leaf/\leaf<=3) (hs:s.size<=100000) (hm:m.size<=1000000000):uf s leaf m=some (jE s leaf m,true):=by rw [uf,WAy,mk,Ho,AP,Na.2 hl,DN,Aq,OBR (by omega) hs,AP,HBt (uN _ _ _) (by omega) (fun x hx=>by grind [uO]) hm,AP,QBR hs,AP,UAr,IBt hl (by simp [Ary]) (by simp [Ary]) (by simp [Ary]) (by simp [Ary])];rfl
theorem JBt {s m:AA} {i:Int} (hi:0<=i/\i<=15) (hs:s.size<=90000) (hm:m.size<=1000000000):ZAk s i m=some (O3 s i m,true):=by
 have hL:jF.size=1:=rfl;have hT:Zv.size=1:=rfl;have hlow:(QI s i).size=s.size+2:=by simp_all [QI,Hl]
 have e1:AV (i.tdiv 4)=i / 4:=by grind [A8]
 have e2:i.tmod 4=i % 4:=Int.tmod_eq_emod_of_nonneg hi.1;have hlo:NAk s (i / 4)=some (QI s i):=by rw [NAk,JAy,mk,OO (by omega) (by omega),AP];show (bif decide (s.size+(b1 (i / 4)).size<=_) then (bif decide ((s++b1 (i / 4)).size+jF.size<=_) then some (s++b1 (i / 4)++jF) else none) else none)=_;rw [Ep (by grind [Hl]),Ep (by grind [Hl])];rfl
 rw [ZAk,XAy,mk,Ho,AP,Na.2 hi,DN,Aq,e1,e2,hlo,AP,TBR (by omega),AP,UBR (by omega) (by omega) hm,AP];show (bif decide (s.size+Zv.size<=9223372036854775807) then (uf (s++Zv) (i / 4) (Tn (QI s i))).bind (fun r4=>some ((⟨r4.1,Tn (QI s i),jE (QI s i) (i % 4) m⟩:Nl),true)) else none)=_;rw [Ep (by omega),UBR (by omega) (by grind) (by simp [VAr])];rfl
theorem KBt {s:IL} (h:UU s):ug s=some true:=by
 obtain ⟨o1,o2⟩:=h.once
 obtain ⟨q1,q2⟩:=h.path
 rw [ug,YAy,mk,Ho,AP,Na.2 h.leaf,o1,q1];simp only [bne_self_eq_false,show ((10:Nat):Int)=10 from rfl,show ((2:Nat):Int)=2 from rfl,DN,Aq]
 have two:∀ m,Vo (m+2+1) (.c1 0 s)=some true:=AKj (L:=Vo) (fun i:Nat=>Zw.c1 (i:Int) s) 2 (fun m=>by
  simp_all [Vo,uh,mk]) fun i hi m=>by
  grind [Fq,Vo,uh]
 refine Wj (L:=Vo) (fun i:Nat=>Zw.c0 (i:Int) s) 10 3 (by omega) (fun m=>?_) fun i hi m=>?_
 all_goals grind [Vo,uh,Fq]
theorem VBR {s:IL} (h:UU s):AEE s=some (Vp s,true):=by
 obtain ⟨l1,s1⟩:=h.once
 obtain ⟨l2,s2⟩:=h.path
 have pre:∀ {l:List AA} {i:Nat} (hlt:i<l.length),Aqg (l.take i)++l[i]=Aqg (l.take (i+1)):=fun {l i} hlt=>by grind [take_at,RAr,Aqg,iq]
 have CC:∀ {l:List AA} (i:Nat),(∀ x ∈ l,x.size=4)->l.length<=10->(Aqg (l.take i)).size<=40:=fun {l} i hs hl=>by rw [Av1 (fun x hx=>hs x (List.mem_of_mem_take hx)),List.length_take];omega
 have hO:=Av1 s1
 have two:∀ m,UW (m+2+1) (.c1 (b1 s.Dv++Aqg s.Fg++Aqg (s.Gn.take 0)) 0 s)=some (Vp s,true):=AKj (L:=UW) (fun i:Nat=>Zx.c1 (b1 s.Dv++Aqg s.Fg++Aqg (s.Gn.take i)) (i:Int) s) 2 (fun m=>by
  rw [UW];simp only [jG,mk];rw [Jh (by omega),List.take_of_length_le (by omega)];rfl) fun i hi m=>by
  have hlt:i<s.Gn.length:=by omega
  have hw:=Fq (i:=i) (by omega);have hz:=CC i s2 (by omega);rw [UW];simp only [jG,mk,hw,BR,getD_at hlt];rw [Ep (by omega),GX (by omega),Ep (by grind [Hl]),uj (b1 s.Dv++Aqg s.Fg),pre hlt]
 rw [AEE,ZAy,mk,KBt h,AP,DN,Aq,OO h.leaf.1 (by have:=h.leaf.2;omega),AP,show ofBytes [s.Dv]=b1 s.Dv++Aqg (s.Fg.take 0) by rfl];refine Wj (L:=UW) (fun i:Nat=>Zx.c0 (b1 s.Dv++Aqg (s.Fg.take i)) (i:Int) s) 10 3 (by omega) (fun m=>?_) fun i hi m=>?_
 ·simp_all [UW,jG,mk,List.take_of_length_le,Aqg,iq]
 ·have hlt:i<s.Fg.length:=by omega
  have hw:=Fq (i:=i) (by omega);have hz:=CC i s1 (by omega);rw [UW];simp only [jG,mk,hw,BR,getD_at hlt];rw [Ep (by omega),GX (by omega),Ep (by grind [Hl]),uj (b1 s.Dv),pre hlt]
theorem LBt {s m:AA} {i:Int} (hi:0<=i/\i<=15):BAl (O3 s i m)=some (BAs (O3 s i m),true):=by have h1:UU (O3 s i m).QU:=ZAr (by omega);have h2:UU (O3 s i m).QV:=ZAr (by omega);have h3:(O3 s i m).QS.size=4:=VAr _;have z1:=AEH h1;have z2:=AEH h2;rw [BAl,ALC,mk,VBR h1,AP,VBR h2,AP];dsimp only;rw [DN,Aq,Aq,AsB (by simp_all),Ep (by omega),Ep (by simp_all)];rfl
theorem MBt {b:Ap} {c:CV} {x:Af} (h:PB b) (hc:c.fText.size<=1000) (hx:C9 b.AU.AZ x.fId=some x) (hm:Qk x 3=true):CAl b c x=some (XT b c x):=by
 obtain ⟨h1,h2,h3⟩:=WAs hm
 obtain ⟨_,_,_,_,n0,n1,_⟩:=Arq h1
 have hv:=ZQ h1 (.inr h2);have hl:=VAs h.Kt hx n0;rw [CAl,BAz,mk,XT,NBR h.lln,AP];by_cases h16:DF b x>=16;·rw [Ba h16,show (DF b x == 16)=true from beq_iff_eq.2 (by omega)];rfl
 ·rw [D6 h16,show (DF b x == 16)=false from beq_eq_false_iff_ne.2 (by omega),Aq,Aq,JBt (by omega) (by omega) (by omega),AP,LBt (by omega),AP,A8 (n:=x.fNext+3) (by omega) (by omega),bne,O1];cases DF b x == x.fNext;·rfl
  ·by_cases q:16<x.fNext+3;·rw [if_pos q,Ba (by omega:x.fNext+3 > 16)];rfl
   ·rw [if_neg q,D6 (by omega:¬ x.fNext+3 > 16)];rfl
theorem WBR {s:AA} {n:Nat} (h:s.size=8*n) (hn:n<=1000):jH s=some (up (ArB (AwY s) n)):=by
 have inner:∀ i,i<n->∀ (m:Nat) (o:List Nat),_:=fun i hi=>fun m o=>(AwV (Lp:=Xn) (st:=fun j (x:Nat)=>.c1 s ((8*i:Nat):Int) (x:Int) (7 - (j:Int)) (up o)) (f:=fun j x=>x*256+AwY s (8*i+(7 - j))) (P:=fun j x=>x<256 ^ j) (n:=8) 1 (fun m j x hj hx=>by
  have hb:=Ve s (8*i+(7 - j));have hp:256 ^ (j+1)<=18446744073709551616:=Nat.le_trans (Nat.pow_le_pow_right (by decide) (show j+1<=8 by omega)) (by decide);have hx2:x*256+AwY s (8*i+(7 - j))<256 ^ (j+1):=by omega
  have hlt:=Nat.lt_of_lt_of_le hx2 hp;refine ⟨?_,hx2⟩;have e1:AV (((8*i:Nat):Int)+(7 - (j:Int)))=((8*i+(7 - j):Nat):Int):=by grind [wn]
  have e2:AV (7 - (j:Int) - 1)=7 - ((j+1:Nat):Int):=by grind [A8]
  have e3:wu64 ((x:Int)*256)=((x*256:Nat):Int):=by rw [show (x:Int)*256=((x*256:Nat):Int) by omega];exact OQ (n:=x*256) (Nat.lt_of_le_of_lt (Nat.le_add_right _ _) hlt)
  have e4:wu64 ((AwY s (8*i+(7 - j)):Nat):Int)=((AwY s (8*i+(7 - j)):Nat):Int):=OQ (Nat.lt_trans hb (by decide));have e5:wu64 (((x*256:Nat):Int)+((AwY s (8*i+(7 - j)):Nat):Int))=((x*256+AwY s (8*i+(7 - j)):Nat):Int):=OQ (n:=x*256+AwY s (8*i+(7 - j))) hlt;rw [Xn];simp only [um,mk,e1,e2,Awn,e3,e4,e5];grind) 8 0 m 0 rfl (by decide)).1
 have s1:=AwV (Lp:=Xn) (st:=fun i o=>.c0 s ((8*i:Nat):Int) (up o)) (f:=fun i o=>o++[ArV (AwY s) i]) (P:=fun i o=>o.length=i) (n:=n) 10 (fun m i o hi ho=>by
  refine ⟨?_,by simp_all⟩;have e1:AV (((8*i:Nat):Int)+8)=((8*(i+1):Nat):Int):=wn (n:=8*(i+1)) (by omega);grind [Xn,um,up,ArV])
 obtain ⟨m,hm⟩:∃ m,AY=m+1+n*10:=⟨AY - (1+n*10),by have:=FM (n:=1+n*10) (by omega);omega⟩
 rw [jH,CAz,hm];refine (s1 n 0 (m+1) [] (by omega) rfl).1.trans ?_;have e1:AV (((8*n:Nat):Int)+8)=((8*n+8:Nat):Int):=wn (n:=8*n+8) (by omega);rw [uo,Xn];simp only [um,mk,e1];rw [AsB (by grind)];rfl
theorem NBt:DAl=some (up QJ):=by rfl
theorem OBt:uq=some (up UY):=by
 obtain ⟨m,hm⟩:∃ m,AY=m+300:=⟨AY - 300,rfl⟩
 rw [uq,EAz,hm];kernel_rfl
theorem XBR {x n:Nat} (hx:x<18446744073709551616) (hn:n<64):jI (x:Int) (n:Int)=some ((Arp n x:Nat):Int):=by
 obtain ⟨m,hm⟩:∃ m,AY=m+1+n*1:=⟨AY - (n+1),by have:=FM (n:=n+1) (by omega);omega⟩
 have hp:∀ i,i<=63->2 ^ i<=9223372036854775808:=fun i hi=>Nat.pow_le_pow_right (n:=2) (by decide) hi
 rw [jI,GAz,hm]
 have h:=AwV (Lp:=jJ) (st:=fun i (low:Nat)=>.c0 (x:Int) (n:Int) (low:Int) (i:Int)) (f:=fun _ low=>low*2) (P:=fun i low=>low=2 ^ i) (n:=n) 1 (fun m i low hi hl=>by
  refine ⟨?_,by omega⟩;have h1:=hp (i+1) (by omega);rw [Nat.pow_succ,<-hl] at h1;have hw:AV ((i:Int)+1)=((i+1:Nat):Int):=wn (n:=i+1) (by omega);have hw2:wu64 ((low:Int)*2)=((low*2:Nat):Int):=OQ (n:=low*2) (by omega);simp_all [jJ,EAl,mk]) n 0 (m+1) 1 (by omega) rfl
 refine h.1.trans ?_;rw [h.2,jJ];simp only [EAl,mk];rw [AsB (by simp)];by_cases h0:n=0;·simp_all [CBO]
 ·have e1:(9223372036854775808:Int).tdiv ((2 ^ n:Nat):Int)=((2 ^ (63 - n):Nat):Int):=by show ((9223372036854775808 / 2 ^ n:Nat):Int)=_;rw [show 9223372036854775808=2 ^ 63 from rfl,Nat.pow_div (by omega) (by decide)]
  have h1:=hp (63 - n) (by omega);have e2:wu64 (((2 ^ (63 - n):Nat):Int)*2)=((2 ^ (64 - n):Nat):Int):=by
   have:2 ^ (64 - n)=2 ^ (63 - n)*2:=by rw [<-Nat.pow_succ];grind
   grind [OQ]
  have e3:wu64 ((x:Int)*((2 ^ n:Nat):Int))=(((x*2 ^ n) % 18446744073709551616:Nat):Int):=YBN (x*2 ^ n);grind [OQ,Arp,jK]
theorem PBt {a:List Nat} (ha:Lh a) {c:Nat} (hc:c<18446744073709551616):uw (up a) (up QJ) (c:Int)=some (up (jL a c)):=by
 obtain ⟨hl,hw⟩:=ha
 have ww:∀ n:Nat,n<100->AV (n:Int)=(n:Int):=fun n h=>wn (by omega)
 have w1:∀ i:Nat,i<30->AV ((i:Int)+1)=((i+1:Nat):Int):=fun i h=>ww (i+1) (by omega)
 have s1:=AwV (Lp:=Qq) (st:=fun i v=>.c0 (up a) (up QJ) (c:Int) (i:Int) (up v)) (f:=fun i v=>v.set i (LK a i)) (P:=fun _ v=>v.length=5) (n:=5) 1 (fun m i v hi hv=>by
  refine ⟨?_,GBO hv⟩;have e5:AV ((i:Int)+5)=((i+5:Nat):Int):=ww (i+5) (by omega);have e10:AV ((i:Int)+10)=((i+10:Nat):Int):=ww (i+10) (by omega);have e15:AV ((i:Int)+15)=((i+15:Nat):Int):=ww (i+15) (by omega);have e20:AV ((i:Int)+20)=((i+20:Nat):Int):=ww (i+20) (by omega);rw [Qq];simp only [SA,mk,w1 i (by omega),e5,e10,e15,e20,BR,Gg];rw [AL (by grind),AL (AwI (by omega)),AL (AwI (by omega)),AL (AwI (by omega)),AL (AwI (by omega)),AL (AwI (by omega)),AL (AwI (by omega)),Ou (hw.get _) (hw.get _),Ou (xlt (hw.get _) (hw.get _)) (hw.get _),Ou (xlt (xlt (hw.get _) (hw.get _)) (hw.get _)) (hw.get _),Ou (xlt (xlt (xlt (hw.get _) (hw.get _)) (hw.get _)) (hw.get _)) (hw.get _),AsA];rfl)
 have GQ:∀ x:Nat,x<5->∀ (m:Nat) (b:List Nat),b.length=25->_:=fun x hx=>fun m b hb=>(AwV (Lp:=Qq) (st:=fun y b=>.c2 (up a) (up QJ) (c:Int) (x:Int) ((AIm a x:Nat):Int) (y:Int) (up ((List.range 5).map (LK a))) (up b)) (f:=fun y b=>b.set (y+5*((2*x+3*y) % 5)) (Arp (QJ.getD (x+5*y) 0) (AxG a (x+5*y)))) (P:=fun _ b=>b.length=25) (n:=5) 1 (fun m y b hy hb=>by
  refine ⟨?_,Zy hb⟩;have e1:AV (5*(y:Int))=((5*y:Nat):Int):=ww (5*y) (by omega);have e2:AV ((x:Int)+((5*y:Nat):Int))=((x+5*y:Nat):Int):=ww (x+5*y) (by omega);have e3:AV (2*(x:Int))=((2*x:Nat):Int):=ww (2*x) (by omega);have e4:AV (3*(y:Int))=((3*y:Nat):Int):=ww (3*y) (by omega);have e5:AV (((2*x:Nat):Int)+((3*y:Nat):Int))=((2*x+3*y:Nat):Int):=ww (2*x+3*y) (by omega);have e6:((2*x+3*y:Nat):Int).tmod 5=(((2*x+3*y) % 5:Nat):Int):=rfl;have hz:(2*x+3*y) % 5<5:=Nat.mod_lt _ (by decide);have e7:AV (5*(((2*x+3*y) % 5:Nat):Int))=((5*((2*x+3*y) % 5):Nat):Int):=ww (5*((2*x+3*y) % 5)) (by omega);have e8:AV ((y:Int)+((5*((2*x+3*y) % 5):Nat):Int))=((y+5*((2*x+3*y) % 5):Nat):Int):=ww (y+5*((2*x+3*y) % 5)) (by omega);have ht:a.getD (x+5*y) 0 ^^^ AIm a x=AxG a (x+5*y):=by rw [AxG,show (x+5*y) % 5=x by omega]
  rw [Qq];simp only [SA,mk,w1 y (by omega),e1,e2,e3,e4,e5,e6,e7,e8,BR,Gg];rw [AL (by grind),AL (AwI (by omega)),AL (AwI (by show x+5*y<25;omega)),Ou (hw.get _) (EBO hw _),ht,XBR (FBC hw _) (FBO _),AP,AL (AwI (by omega)),AsA]) 5 0 m b rfl hb)
 have s2:=AwV (Lp:=Qq) (st:=fun x b=>.c1 (up a) (up QJ) (c:Int) (x:Int) (up ((List.range 5).map (LK a))) (up b)) (f:=fun x b=>AwK (fun y b=>b.set (y+5*((2*x+3*y) % 5)) (Arp (QJ.getD (x+5*y) 0) (AxG a (x+5*y)))) 5 0 b) (P:=fun _ b=>b.length=25) (n:=5) 7 (fun m x b hx hb=>by
  obtain ⟨i1,i2⟩:=GQ x hx (m+1) b hb
  refine ⟨?_,i2⟩;have e4:AV ((x:Int)+4)=((x+4:Nat):Int):=ww (x+4) (by omega);have e1:AV ((x:Int)+1)=((x+1:Nat):Int):=ww (x+1) (by omega);have e2:((x+4:Nat):Int).tmod 5=(((x+4) % 5:Nat):Int):=rfl;have e3:((x+1:Nat):Int).tmod 5=(((x+1) % 5:Nat):Int):=rfl;have h4:(x+4) % 5<5:=Nat.mod_lt _ (by decide);have h1:(x+1) % 5<5:=Nat.mod_lt _ (by decide);have hlen:((List.range 5).map (LK a)).length=5:=by rfl
  rw [show m+7=m+1+5*1+1 from rfl,Qq];simp only [SA,mk,e4,e1,e2,e3,BR,Gg];rw [AL (by grind),AL (AwI (by omega)),AL (AwI (by omega)),uy h1,uy h4];have hr:jI ((LK a ((x+1) % 5):Nat):Int) 1=some ((Arp 1 (LK a ((x+1) % 5)):Nat):Int):=XBR (n:=1) (UZ hw _) (by decide);rw [hr,AP,Ou (UZ hw _) (jK (by decide) (UZ hw _))];refine i1.trans ?_;grind [Qq,SA])
 have hb:=DAs hw
 have GS:∀ x:Nat,x<5->∀ (m:Nat) (o:List Nat),o.length=25->_:=fun x hx=>fun m o ho=>(AwV (Lp:=Qq) (st:=fun y o=>.c4 (c:Int) (x:Int) (y:Int) (up (Aw8 a)) (up o)) (f:=fun y o=>o.set (x+5*y) (Qu (Aw8 a) (x+5*y))) (P:=fun _ o=>o.length=25) (n:=5) 1 (fun m y o hy ho=>by
  refine ⟨?_,Zy ho⟩;have hbl:=hb.1;have e1:AV (5*(y:Int))=((5*y:Nat):Int):=ww (5*y) (by omega);have e2:AV ((x:Int)+((5*y:Nat):Int))=((x+5*y:Nat):Int):=ww (x+5*y) (by omega);have e3:AV ((x:Int)+1)=((x+1:Nat):Int):=ww (x+1) (by omega);have e4:AV ((x:Int)+2)=((x+2:Nat):Int):=ww (x+2) (by omega);have e5:((x+1:Nat):Int).tmod 5=(((x+1) % 5:Nat):Int):=rfl;have e6:((x+2:Nat):Int).tmod 5=(((x+2) % 5:Nat):Int):=rfl;have h1:(x+1) % 5<5:=Nat.mod_lt _ (by decide);have h2:(x+2) % 5<5:=Nat.mod_lt _ (by decide);have e7:AV ((((x+1) % 5:Nat):Int)+((5*y:Nat):Int))=(((x+1) % 5+5*y:Nat):Int):=ww ((x+1) % 5+5*y) (by omega);have e8:AV ((((x+2) % 5:Nat):Int)+((5*y:Nat):Int))=(((x+2) % 5+5*y:Nat):Int):=ww ((x+2) % 5+5*y) (by omega);have hv:(Aw8 a).getD (x+5*y) 0 ^^^ ((18446744073709551615 - (Aw8 a).getD ((x+1) % 5+5*y) 0) &&& (Aw8 a).getD ((x+2) % 5+5*y) 0)=Qu (Aw8 a) (x+5*y):=by rw [Qu,show (x+5*y) % 5=x by omega,show (x+5*y) / 5=y by omega]
  rw [Qq];simp only [SA,mk,w1 y (by omega),e1,e2,e3,e4,e5,e6,e7,e8,BR,Gg];rw [AL (by grind),AL (AwI (by omega)),AL (AwI (by omega)),AL (AwI (by omega)),AL (AwI (by omega)),IBp (hb.2.get _),n64 (by omega) (hb.2.get _),Ou (hb.2.get _) (nlt (by omega)),hv,AsA]) 5 0 m o rfl ho)
 have s3:=AwV (Lp:=Qq) (st:=fun x o=>.c3 (c:Int) (x:Int) (up (Aw8 a)) (up o)) (f:=fun x o=>AwK (fun y o=>o.set (x+5*y) (Qu (Aw8 a) (x+5*y))) 5 0 o) (P:=fun _ o=>o.length=25) (n:=5) 7 (fun m x o hx ho=>by
  obtain ⟨i1,i2⟩:=GS x hx (m+1) o ho
  grind [Qq,SA])
 obtain ⟨m,hm⟩:∃ m,AY=m+1+5*7+1+5*7+1+5*1:=⟨AY - 78,rfl⟩
 rw [uw,HAz,hm];obtain ⟨a1,a2⟩:=s1 5 0 (m+1+5*7+1+5*7+1) [0,0,0,0,0] rfl rfl
 refine a1.trans ?_;rw [LBp,Qq];simp only [SA,mk];rw [AsB (by rfl)];obtain ⟨b1,b2⟩:=s2 5 0 (m+1+5*7+1) (List.replicate 25 0) rfl rfl
 refine b1.trans ?_;rw [OBp (fun n q=>Arp n (AxG a q)),Qq];simp only [SA,mk];rw [AsB (by rfl)];obtain ⟨c1,c2⟩:=s3 5 0 (m+1) (List.replicate 25 0) rfl rfl
 refine c1.trans ?_;have hch:=GBC hb.2;rw [MBp,Qq];simp only [SA,mk];rw [AsB (by rfl),show (0:Int).toNat=0 from rfl,Gg,Ou (hch.2.get _) hc,AsA];rfl
theorem YBR {a:List Nat} (ha:Lh a):jM (up a)=some (up (uz a)):=by
 have s:=AwV (Lp:=vC) (st:=fun i a=>.c0 (i:Int) (up a) (up QJ) (up UY)) (f:=fun i a=>jL a (UY.getD i 0)) (P:=fun _ a=>Lh a) (n:=24) 1 (fun m i a hi ha=>by
  refine ⟨?_,HBC ha.2 (vF i)⟩;have w1:AV ((i:Int)+1)=((i+1:Nat):Int):=wn (n:=i+1) (by omega);rw [vC];simp only [JAz,mk,w1,BR,Gg];rw [AL (by grind),AL (AwI (by assumption)),PBt ha (vF i),AP])
 obtain ⟨m,hm⟩:∃ m,AY=m+1+24*1:=⟨AY - 25,rfl⟩
 rw [jM,IAz,NBt,AP,OBt,AP,hm];refine (s 24 0 (m+1) a rfl ha).1.trans ?_;rfl
theorem QBt (v:Nat->Nat->Nat):AwK (fun i o=>o++(List.range 8).map (v i)) 25 0 []=(List.range 200).map (fun p=>v (p / 8) (p % 8)):=by kernel_rfl
theorem ZBR {a:List Nat} (ha:Lh a):jO (up a)=some (ofBytes (up (AxE a))):=by
 have hal:=ha.1
 have inner:∀ (i:Nat) (x:Nat) (m:Nat) (o:List Nat),x<18446744073709551616->o.length<=1000->_:=fun i x m o hx ho=>(AwV (Lp:=Vq) (st:=fun j o=>.c1 (up a) (i:Int) ((x / 2 ^ (8*j):Nat):Int) (j:Int) (up o)) (f:=fun j o=>o++[x / 2 ^ (8*j) % 256]) (P:=fun j o=>o.length<=1000+j) (n:=8) 1 (fun m j o hj ho=>by
  refine ⟨?_,by grind⟩;have w1:AV ((j:Int)+1)=((j+1:Nat):Int):=wn (n:=j+1) (by omega);have e1:wu64 (((x / 2 ^ (8*j):Nat):Int).tdiv 256)=((x / 2 ^ (8*(j+1)):Nat):Int):=by
   have:x / 2 ^ (8*(j+1))=x / 2 ^ (8*j) / 256:=by grind [Nat.div_div_eq_div_mul]
   rw [this];exact OQ (n:=x / 2 ^ (8*j) / 256) (Nat.lt_of_le_of_lt (Nat.div_le_self _ _) (Nat.lt_of_le_of_lt (Nat.div_le_self _ _) hx))
  grind [Nq,Vq,jP,up]) 8 0 m o rfl (by omega)).1
 have s1:=AwV (Lp:=Vq) (st:=fun i o=>.c0 (up a) (i:Int) (up o)) (f:=fun i o=>o++(List.range 8).map fun j=>a.getD i 0 / 2 ^ (8*j) % 256) (P:=fun i o=>o.length=8*i) (n:=25) 10 (fun m i o hi ho=>by
  refine ⟨?_,by grind⟩;have w1:AV ((i:Int)+1)=((i+1:Nat):Int):=wn (n:=i+1) (by omega);have hx:=ha.2.get i;rw [show m+10=m+1+8*1+1 from rfl,Vq];simp only [jP,mk,BR,Gg];rw [AL (by grind [Dt]),AL (AwI (by omega))];have h:=inner i (a.getD i 0) (m+1) o hx (by omega);rw [show ((a.getD i 0 / 2 ^ (8*0):Nat):Int)=((a.getD i 0:Nat):Int) by omega] at h;refine h.trans ?_;rw [jX,List.range'_eq_map_range,Vq];simp_all [jP,mk])
 obtain ⟨m,hm⟩:∃ m,AY=m+1+25*10:=⟨AY - 251,by rfl⟩
 rw [jO,KAz,hm];refine (s1 25 0 (m+1) [] (by omega) rfl).1.trans ?_;rw [QBt (fun i j=>a.getD i 0 / 2 ^ (8*j) % 256),Vq];simp only [jP,mk];rw [AsB (by simp_all [Dt])];rfl
theorem RBt {s:AA} {f:Nat} (hs:s.size<=2000) (hf:f<256):vG s 168 (f:Int)=some (jw s f):=by
 obtain ⟨q,hq,hq2⟩:=PBO s f
 have hbuf:=OBO s hf
 have sp:=AwV (Lp:=OY) (st:=fun i l=>.c0 168 (up (List.replicate 25 0)) (up l)) (f:=fun _ l=>l++[0]) (P:=fun i l=>l.length=s.size+1+i) (n:=(168 - (s.size+1) % 168) % 168) 1 (fun m i l hi hl=>by
  grind [OY,Xo,Dt,MX])
 have si:∀ (p:Nat) (st:List Nat),p<q->Lh st->∀ m,OY (m+21*1) (.c2 168 ((168*p:Nat):Int) ((0:Nat):Int) (up st) (up (Awf s f)) (up (ArB (fun i=>(Awf s f).getD (168*p+i) 0) 21)))=OY m (.c2 168 ((168*p:Nat):Int) ((21:Nat):Int) (up (Zz st fun i=>(Awf s f).getD (168*p+i) 0)) (up (Awf s f)) (up (ArB (fun i=>(Awf s f).getD (168*p+i) 0) 21))):=by
  intro p st hp hst m;have hg:∀ i,(fun i=>(Awf s f).getD (168*p+i) 0) i<256:=fun i=>hbuf.get _
  generalize hgg:(fun i=>(Awf s f).getD (168*p+i) 0)=g at hg;have hll:(ArB g 21).length=21:=by rfl
  have D4:=TBp hg 21
  obtain ⟨a1,a2,a3,a4⟩:=AwV (Lp:=OY) (st:=fun i v=>.c2 168 ((168*p:Nat):Int) (i:Int) (up v) (up (Awf s f)) (up (ArB g 21))) (f:=fun i v=>v.set i (v.getD i 0 ^^^ (ArB g 21).getD i 0)) (P:=fun i v=>v.length=25/\Lm v/\∀ k,k<25->v.getD k 0=if k<i then st.getD k 0 ^^^ ArV g k else st.getD k 0) (n:=21) 1 (fun m i v hi hv=>by
   obtain ⟨v1,v2,v3⟩:=hv
   refine ⟨?_,Zy v1,v2.set _ (xlt (v2.get _) (D4.get _)),fun k hk=>?_⟩;·have w1:AV ((i:Int)+1)=((i+1:Nat):Int):=wn (n:=i+1) (by omega);rw [OY];simp only [Xo,mk,w1,BR,Gg];rw [Ou (v2.get _) (D4.get _),AsA,AL (by grind [Dt]),AL (AwI (by omega)),AL (AwI (by omega)),AL (AwI (by omega))]
   grind [ArB]) 21 0 m st (by omega) ⟨hst.1,hst.2,fun k hk=>by rfl⟩
  refine a1.trans ?_
  rw [show AwK (fun i v=>v.set i (v.getD i 0 ^^^ (ArB g 21).getD i 0)) 21 0 st=Zz st g from GAs (by assumption) fun k hk=>by
   simp_all [Zz]]
 have so:=AwV (Lp:=OY) (st:=fun p st=>.c1 168 ((168*p:Nat):Int) (up st) (up (Awf s f))) (f:=jy (Awf s f)) (P:=fun _ st=>Lh st) (n:=q) 23 (fun m p st hp hst=>by
  refine ⟨?_,QBC hbuf hst⟩;have e1:AV (((168*p:Nat):Int)+168)=((168*(p+1):Nat):Int):=by rw [show ((168*p:Nat):Int)+168=((168*(p+1):Nat):Int) by omega];exact wn (n:=168*(p+1)) (by omega)
  have hbl:((up (Awf s f)).drop (168*p)).take (168*(p+1) - 168*p)=up (((Awf s f).drop (168*p)).take 168):=by grind [up,List.map_drop,List.map_take]
  have hsz:(ofBytes (up (((Awf s f).drop (168*p)).take 168))).size=8*21:=by grind [Dj,Dt]
  have hlt:∀ x ∈ ((Awf s f).drop (168*p)).take 168,x<256:=fun x hx=>hbuf x (List.mem_of_mem_drop (List.mem_of_mem_take hx))
  have E0:ArB (AwY (ofBytes (up (((Awf s f).drop (168*p)).take 168)))) 21=ArB (fun i=>(Awf s f).getD (168*p+i) 0) 21:=by
   refine List.map_congr_left fun k hk=>?_
   grind [KBC,FAs]
  rw [show m+23=(m+1)+21*1+1 from rfl,OY];simp only [Xo,mk,e1,BR];rw [AL (by simp_all [Dt]),AL (by rw [Bool.and_eq_true,Bool.and_eq_true,decide_eq_true_eq,decide_eq_true_eq,decide_eq_true_eq,Dt];omega),hbl,WBR hsz (by omega),AP,E0];refine (si p st hp hst (m+1)).trans ?_;rw [OY];simp only [Xo,mk,e1];rw [AsB (by rfl),YBR (QBO hst fun _=>hbuf.get _),AP];rfl)
 have FR:(168 - (s.size+1) % 168) % 168<168:=Nat.mod_lt _ (by decide);have hl1:(FI s++[f]).length=s.size+1:=by simp [Z4]
 obtain ⟨m,hm⟩:∃ m,AY=(m+1+q*23)+1+((168 - (s.size+1) % 168) % 168)*1:=⟨AY - (1+q*23+1+(168 - (s.size+1) % 168) % 168),by have:=FM (n:=1+q*23+1+(168 - (s.size+1) % 168) % 168) (by omega);omega⟩
 have hzs:(bytesOf s).length=s.size:=by simp_all [Z5,Dt]
 rw [vG,LAz,mk,hm,AL (by grind),AL (by grind),Z5,MX,show (25:Int).toNat=25 from rfl,<-TY];refine (sp ((168 - (s.size+1) % 168) % 168) 0 _ (FI s++[f]) (by omega) hl1).1.trans ?_;have hpl:AwK (fun _ l=>l++[0]) ((168 - (s.size+1) % 168) % 168) 0 (FI s++[f])=J8 (FI s++[f]):=by simp_all [jX,J8]
 have C4:B8 (J8 (FI s++[f])):=MBC (OBC s hf);have Cf:=LBC (FI s++[f]);rw [hl1] at Cf;have e2:((up (J8 (FI s++[f]))).length:Int).tmod 168=(((up (J8 (FI s++[f]))).length % 168:Nat):Int):=rfl;have e3:AV (((up (J8 (FI s++[f]))).length:Int) - 1)=(((J8 (FI s++[f])).length - 1:Nat):Int):=by grind [Dt,wn]
 rw [hpl,OY];simp only [Xo,mk,e2,e3,BR,Gg];rw [AL (by rfl),AsB (by grind [Dt]),AL (AwI (by omega)),AL (AwI (by omega)),show (128:Int)=((128:Nat):Int) from rfl,x8 (C4.get _) (by decide),AsA];show OY (m+1+q*23) (.c1 168 0 (up (List.replicate 25 0)) (up (Awf s f)))=_;refine (so q 0 (m+1) (List.replicate 25 0) (by omega) PBC).1.trans ?_;have hfin:AwK (jy (Awf s f)) q 0 (List.replicate 25 0)=kC s f:=by simp_all [kC]
 have hok:Lh (kC s f):=HAs (fun _ _ h=>QBC hbuf h) _ _ _ PBC;rw [hfin,OY];simp only [Xo,mk];rw [AsB (by simp_all [Dt]),ZBR hok];rfl
theorem ATk {s:AA} (h:s.size<=2000):kD s=some ⟨sd s,0⟩:=by have e:vG s 168 31=some (jw s 31):=RBt (f:=31) h (by decide);rw [kD,MAz,e];rfl
theorem SBt {s:AA} (h:s.size=200):vH s=some (ZW s):=by have hl:=LBO (Ve s);rw [vH,NAz,mk,AsB (by simp_all),WBR (n:=25) h (by omega),AP,YBR hl,AP,ZBR (IBC hl)];rfl
theorem BBS {S:AA} {p n:Nat} {x:F6} (hS:S.size=200) (h:Aqf S p x) (hn:n<=4000):∃ x',Z7 x (n:Int)=some (x',ofBytes (up (Qc S p n)))/\Aqf S (p+n) x':=by
 have key:∀ (r m:Nat) (x:F6) (v:F6) (o:List Nat),n - o.length=r->r<m->o.length<=n->Aqf S (p+o.length) x->∃ x',kE m (.c0 (n:Int) x v (up o))=some (x',ofBytes (up (o++Qc S (p+o.length) (n - o.length))))/\Aqf S (p+n) x':=by
  intro r;induction r using Nat.strongRecOn with
  | ind r ih=>
  intro m x v o hr hm ho hx;obtain ⟨m,rfl⟩:∃ m',m=m'+1:=⟨m - 1,by omega⟩
  rw [kE];simp only [PAz,mk];by_cases hlt:o.length<n
  ·have en:AV ((n:Int) - ((up o).length:Int))=((n - o.length:Nat):Int):=by grind [Dt,wn]
   rw [AL (by simp_all [Dt])];have go:∀ (q a k:Nat),168*q+a=p+o.length->a+k<=168->0<k->k<=n - o.length->∃ x',kE m (.c0 (n:Int) ⟨H9 S q,((a+k:Nat):Int)⟩ v (up o++bytesOf ((H9 S q).extract a (a+k))))=some (x',ofBytes (up (o++Qc S (p+o.length) (n - o.length))))/\Aqf S (p+n) x':=by
    intro q a k h1 h2 h3 h4;rw [Z5,chunk hS h2,show up o++up (Qc S (168*q+a) k)=up (o++Qc S (168*q+a) k) by simp [up],h1];have hl:(o++Qc S (p+o.length) k).length=o.length+k:=by simp [IAs]
    obtain ⟨x',e1,e2⟩:=ih (n - (o.length+k)) (by omega) m ⟨H9 S q,((a+k:Nat):Int)⟩ v (o++Qc S (p+o.length) k) (by rw [hl]) (by omega) (by omega) ⟨q,a+k,rfl,by omega,h2⟩
    refine ⟨x',?_,e2⟩;rw [e1,hl,List.append_assoc,<-Nat.add_assoc,SBO,show k+(n - (o.length+k))=n - o.length by omega]
   obtain ⟨q,a,rfl,ha,ha2⟩:=hx
   have hz:=ZV hS q;have hz2:=ZV hS (q+1);have big:∀ (T:AA) (i j:Nat),T.size=200->decide (((up o).length+(bytesOf (T.extract i j)).length)*1<=140737488355328)=true/\decide ((T.extract i j).size<=9223372036854775807)=true:=fun T i j hT=>by grind [ByteArray.size_extract,Z5,Dt,Z4]
   dsimp only;by_cases C3:a=168
   ·subst C3;rw [AL (by rfl),SBt hz,AP,show ZW (H9 S q)=H9 S (q+1) from rfl,en,show AV ((168:Int) - (0:Int))=168 by decide];by_cases hk:n - o.length<168
    ·have e0:AV (0+((n - o.length:Nat):Int))=((0+(n - o.length):Nat):Int):=by grind [wn]
     obtain ⟨b1,b2⟩:=big (H9 S (q+1)) 0 (0+(n - o.length)) hz2
     rw [AL (by grind),e0,show (0:Int).toNat=0 from rfl,BR,AL (by grind),b2,Ar,b1,Ar];exact go (q+1) 0 (n - o.length) (by omega) (by omega) (by omega) (Nat.le_refl _)
    ·obtain ⟨b1,b2⟩:=big (H9 S (q+1)) 0 (0+168) hz2
     rw [AsB (by grind),show AV (0+168)=((0+168:Nat):Int) by decide,show (0:Int).toNat=0 from rfl,BR,AL (by rw [Bool.and_eq_true,Bool.and_eq_true,decide_eq_true_eq,decide_eq_true_eq,decide_eq_true_eq];omega),b2,Ar,b1,Ar];exact go (q+1) 0 168 (by omega) (by omega) (by omega) (by omega)
   ·have ea:AV (168 - (a:Int))=((168 - a:Nat):Int):=by grind [wn]
    rw [AsB (by grind),en,ea,BR];by_cases hk:n - o.length<168 - a
    ·have e0:AV ((a:Int)+((n - o.length:Nat):Int))=((a+(n - o.length):Nat):Int):=wn (n:=a+(n - o.length)) (by omega);obtain ⟨b1,b2⟩:=big (H9 S q) a (a+(n - o.length)) hz
     rw [AL (by simp_all),e0,BR,AL (by grind),b2,Ar,b1,Ar];grind
    ·have e0:AV ((a:Int)+((168 - a:Nat):Int))=((a+(168 - a):Nat):Int):=wn (n:=a+(168 - a)) (by omega);obtain ⟨b1,b2⟩:=big (H9 S q) a (a+(168 - a)) hz
     rw [AsB (by simp_all),e0,BR,AL (by grind),b2,Ar,b1,Ar];grind
  grind [Dt,Qc]
 obtain ⟨q,a,rfl,ha,ha2⟩:=h
 have h1:=ZV hS q;have hi1:Bl ((n:Nat):Int) 0 4000=true:=Na.2 (by omega);have hi2:Bl ((a:Nat):Int) 0 168=true:=Na.2 (by omega);rw [Z7,OAz,mk,Ho,AP,hi1,DN,Aq,AsB (by simp_all),Ho,AP,hi2,DN,Aq];obtain ⟨x',e1,e2⟩:=key n AY ⟨H9 S q,(a:Int)⟩ ⟨⟨#[]⟩,0⟩ [] (by rfl) (FM (by omega)) (DJ _) ⟨q,a,rfl,ha,ha2⟩
 exact ⟨x',e1,e2⟩
theorem EAt {seed:AA} {i j:Nat} (h:seed.size<=1000) (hi:i<256) (hj:j<256):Vr seed (i:Int) (j:Int)=some (up (Aqo seed i j)):=by
 have h1:J9 (i:Int)=some (ArF i):=OO (by omega) (by omega);have h2:J9 (j:Int)=some (ArF j):=OO (by omega) (by omega);have hz:∀ n,(ArF n).size=1:=fun n=>by rfl
 have hz1:=hz i;have hz2:=hz j;have hsz:((seed++ArF i)++ArF j).size=seed.size+2:=by simp_all
 rw [Vr,QAz,mk,h1,AP,AL (by grind),h2,AP,AL (by grind),ATk (by omega),AP,Aqo];generalize hS:sd ((seed++ArF i)++ArF j)=S;have hSz:S.size=200:=by grind [JAs]
 have pad:∀ (M:Nat) (o:List Nat),o.length<=256->Ua (M+257) (.c1 (up o))=some (up (Io o)):=by
  intro M o ho;obtain ⟨n,hn⟩:∃ n,n=256 - o.length:=⟨_,rfl⟩
  have s:=AwV (Lp:=Ua) (st:=fun _ l=>.c1 (up l)) (f:=fun _ l=>l++[0]) (P:=fun i l=>l.length=o.length+i) (n:=n) 1 (fun m i l hi hl=>by
   refine ⟨?_,by grind⟩;have h1:(up l).length<256:=by grind [Dt]
   show (bif decide (((up l).length:Int)<256) then (bif decide (((up l).length+1)*8<=140737488355328) then Ua m (.c1 (up l++[(0:Int)])) else none) else some (up l))=_;grind [MX])
  have hp:Io o=o++List.replicate n 0:=by rw [Io,hn]
  have hpl:(up (Io o)).length=256:=by simp_all [Dt]
  rw [show M+257=(M+o.length+1)+n*1 by omega];refine (s n 0 (M+o.length+1) o (by omega) rfl).1.trans ?_;rw [jX (fun _=>0),List.map_const',List.length_range',<-hp];show (bif decide (((up (Io o)).length:Int)<256) then (bif decide (((up (Io o)).length+1)*8<=140737488355328) then Ua (M+o.length) (.c1 (up (Io o)++[(0:Int)])) else none) else some (up (Io o)))=_;simp_all
 have key:∀ (r k:Nat) (m:Nat) (x:F6) (buf:AA) (o:List Nat),k+r=4000->UQ o->(if k % 56=0 then Aqf S (3*k) x else buf=ofBytes (up (Qc S (3*(k - k % 56)) 168))/\Aqf S (3*(k - k % 56)+168) x)->Ua (m+r+1+257) (.c0 buf (k:Int) x (up o))=some (up (Io (Xa S r k o))):=by
  intro r;induction r with
  | zero=>
   intro k m x buf o hk ho hx;rw [show m+0+1+257=(m+257)+1 by omega,Ua];delta FAl mk;dsimp only;rw [AsB (by simp_all)];exact pad m o ho.1
  | succ r ih=>
   intro k m x buf o hk ho hx;have w1:AV ((k:Int)+1)=((k+1:Nat):Int):=wn (n:=k+1) (by omega);have em:(k:Int).tmod 56=((k % 56:Nat):Int):=rfl;have e3:AV (((k % 56:Nat):Int)*3)=((k % 56*3:Nat):Int):=wn (n:=k % 56*3) (by omega);have e4:AV (((k % 56*3:Nat):Int)+1)=((k % 56*3+1:Nat):Int):=wn (n:=k % 56*3+1) (by omega);have e5:AV (((k % 56*3:Nat):Int)+2)=((k % 56*3+2:Nat):Int):=wn (n:=k % 56*3+2) (by omega);have l0:=Zh S (3*k);have l1:=Zh S (3*k+1);have l2:=Zh S (3*k+2);rw [show m+(r+1)+1+257=(m+r+1+257)+1 by omega,Ua,Xa];delta FAl mk;dsimp only;simp only [w1,em,e3,e4,e5];rw [AL (by grind)];by_cases hlt:o.length<256
   ·rw [AL (by grind [Dt])];by_cases EA:k % 56=0
    ·rw [if_pos EA] at hx;obtain ⟨x',e,hx'⟩:=BBS (n:=168) hSz hx (by omega)
     have e:Z7 x 168=_:=e;have nx:(if (k+1) % 56=0 then Aqf S (3*(k+1)) x' else ofBytes (up (Qc S (3*k) 168))=ofBytes (up (Qc S (3*(k+1 - (k+1) % 56)) 168))/\Aqf S (3*(k+1 - (k+1) % 56)+168) x'):=by grind
     rw [AL (by simp_all),e,AP];dsimp only;have hs3:(ofBytes (up (Qc S (3*k) 168))).size=168:=by rfl
     have t0:bt (ofBytes (up (Qc S (3*k) 168))) ((k % 56*3:Nat):Int)=((strm S (3*k):Nat):Int):=by rw [Awn,Vf S (by omega),show 3*k+k % 56*3=3*k by omega]
     have t1:bt (ofBytes (up (Qc S (3*k) 168))) ((k % 56*3+1:Nat):Int)=((strm S (3*k+1):Nat):Int):=by rw [Awn,Vf S (by omega),show 3*k+(k % 56*3+1)=3*k+1 by omega]
     have t2:bt (ofBytes (up (Qc S (3*k) 168))) ((k % 56*3+2:Nat):Int)=((strm S (3*k+2):Nat):Int):=by rw [Awn,Vf S (by omega),show 3*k+(k % 56*3+2)=3*k+2 by omega]
     have va:AV (((strm S (3*k):Nat):Int)+AV (256*((strm S (3*k+1):Nat):Int).tmod 16))=((Gm S k:Nat):Int):=by grind [A8,Gm]
     have vb:AV (AV (((strm S (3*k+1):Nat):Int).tdiv 16)+AV (16*((strm S (3*k+2):Nat):Int)))=((J7 S k:Nat):Int):=by grind [A8,J7]
     rw [t0,t1,t2,wn (n:=strm S (3*k)) (by omega),wn (n:=strm S (3*k+1)) (by omega),wn (n:=strm S (3*k+2)) (by omega),va,vb,AL (by grind),AL (by grind),AL (by grind),AL (by grind),if_pos hlt];by_cases ha:Gm S k<3329
     ·have h1:Aw4 (Gm S k) o=o++[Gm S k]:=if_pos ⟨ha,hlt⟩;have hl1:(o++[Gm S k]).length=o.length+1:=by simp
      rw [AL (by grind),AL (by grind [Dt]),MX];by_cases hb:J7 S k<3329
      ·rw [AL (by grind)];by_cases hl:(o++[Gm S k]).length<256
       ·have h2:Iy S k o=(o++[Gm S k])++[J7 S k]:=by rw [Iy,h1];exact if_pos ⟨hb,hl⟩
        rw [AL (by grind [Dt]),AL (by grind [Dt]),MX,<-h2];exact ih (k+1) m x' _ _ (by omega) (Tf ho) nx
       ·have h2:Iy S k o=o++[Gm S k]:=by rw [Iy,h1];exact if_neg (fun h=>hl h.2)
        rw [AsB (by grind [Dt]),<-h2];exact ih (k+1) m x' _ _ (by omega) (Tf ho) nx
      ·have h2:Iy S k o=o++[Gm S k]:=by rw [Iy,h1];exact if_neg (fun h=>hb h.1)
       rw [AsB (by grind),<-h2];exact ih (k+1) m x' _ _ (by omega) (Tf ho) nx
     ·have h1:Aw4 (Gm S k) o=o:=if_neg (fun h=>ha h.1);rw [AsB (by grind)];by_cases hb:J7 S k<3329
      ·have h2:Iy S k o=o++[J7 S k]:=by rw [Iy,h1];exact if_pos ⟨hb,hlt⟩
       rw [AL (by grind),AL (by grind [Dt]),AL (by grind [Dt]),MX,<-h2];exact ih (k+1) m x' _ _ (by omega) (Tf ho) nx
      ·have h2:Iy S k o=o:=by rw [Iy,h1];exact if_neg (fun h=>hb h.1)
       rw [AsB (by grind)];rw [h2];exact ih (k+1) m x' _ _ (by omega) ho nx
    ·rw [if_neg EA] at hx;obtain ⟨rfl,hx⟩:=hx
     have nx:(if (k+1) % 56=0 then Aqf S (3*(k+1)) x else ofBytes (up (Qc S (3*(k - k % 56)) 168))=ofBytes (up (Qc S (3*(k+1 - (k+1) % 56)) 168))/\Aqf S (3*(k+1 - (k+1) % 56)+168) x):=by grind
     rw [AsB (by grind)];have hs3:(ofBytes (up (Qc S (3*(k - k % 56)) 168))).size=168:=by rfl
     have t0:bt (ofBytes (up (Qc S (3*(k - k % 56)) 168))) ((k % 56*3:Nat):Int)=((strm S (3*k):Nat):Int):=by rw [Awn,Vf S (by omega),show 3*(k - k % 56)+k % 56*3=3*k by omega]
     have t1:bt (ofBytes (up (Qc S (3*(k - k % 56)) 168))) ((k % 56*3+1:Nat):Int)=((strm S (3*k+1):Nat):Int):=by rw [Awn,Vf S (by omega),show 3*(k - k % 56)+(k % 56*3+1)=3*k+1 by omega]
     have t2:bt (ofBytes (up (Qc S (3*(k - k % 56)) 168))) ((k % 56*3+2:Nat):Int)=((strm S (3*k+2):Nat):Int):=by rw [Awn,Vf S (by omega),show 3*(k - k % 56)+(k % 56*3+2)=3*k+2 by omega]
     have va:AV (((strm S (3*k):Nat):Int)+AV (256*((strm S (3*k+1):Nat):Int).tmod 16))=((Gm S k:Nat):Int):=by grind [A8,Gm]
     have vb:AV (AV (((strm S (3*k+1):Nat):Int).tdiv 16)+AV (16*((strm S (3*k+2):Nat):Int)))=((J7 S k:Nat):Int):=by grind [A8,J7]
     rw [t0,t1,t2,wn (n:=strm S (3*k)) (by omega),wn (n:=strm S (3*k+1)) (by omega),wn (n:=strm S (3*k+2)) (by omega),va,vb,AL (by grind),AL (by grind),AL (by grind),AL (by grind),if_pos hlt];by_cases ha:Gm S k<3329
     ·have h1:Aw4 (Gm S k) o=o++[Gm S k]:=if_pos ⟨ha,hlt⟩;have hl1:(o++[Gm S k]).length=o.length+1:=by simp
      rw [AL (by grind),AL (by grind [Dt]),MX];by_cases hb:J7 S k<3329
      ·rw [AL (by grind)];by_cases hl:(o++[Gm S k]).length<256
       ·have h2:Iy S k o=(o++[Gm S k])++[J7 S k]:=by rw [Iy,h1];exact if_pos ⟨hb,hl⟩
        rw [AL (by grind [Dt]),AL (by grind [Dt]),MX,<-h2];exact ih (k+1) m x _ _ (by omega) (Tf ho) nx
       ·have h2:Iy S k o=o++[Gm S k]:=by rw [Iy,h1];exact if_neg (fun h=>hl h.2)
        rw [AsB (by grind [Dt]),<-h2];exact ih (k+1) m x _ _ (by omega) (Tf ho) nx
      ·have h2:Iy S k o=o++[Gm S k]:=by rw [Iy,h1];exact if_neg (fun h=>hb h.1)
       rw [AsB (by grind),<-h2];exact ih (k+1) m x _ _ (by omega) (Tf ho) nx
     ·have h1:Aw4 (Gm S k) o=o:=if_neg (fun h=>ha h.1);rw [AsB (by grind)];by_cases hb:J7 S k<3329
      ·have h2:Iy S k o=o++[J7 S k]:=by rw [Iy,h1];exact if_pos ⟨hb,hlt⟩
       rw [AL (by grind),AL (by grind [Dt]),AL (by grind [Dt]),MX,<-h2];exact ih (k+1) m x _ _ (by omega) (Tf ho) nx
      ·have h2:Iy S k o=o:=by rw [Iy,h1];exact if_neg (fun h=>hb h.1)
       rw [AsB (by grind)];rw [h2];exact ih (k+1) m x _ _ (by omega) ho nx
   ·rw [AsB (by grind [Dt]),if_neg hlt];have hp:=pad (m+r+1) o ho.1;exact hp
 obtain ⟨m,hm⟩:∃ m,AY=m+4000+1+257:=⟨AY - 4258,by rfl⟩
 rw [hm];refine key 4000 0 m ⟨S,0⟩ ⟨#[]⟩ [] (by omega) ⟨DJ _,fun _ h=>by cases h⟩ ?_;grind [KAs]
theorem TBt {rho:AA} (h:rho.size<=1000):vI rho=some [up (Aqo rho 0 0),up (Aqo rho 1 0),up (Aqo rho 0 1),up (Aqo rho 1 1)]:=by
 have HO:Vr rho 0 0=some (up (Aqo rho 0 0)):=EAt (i:=0) (j:=0) h (by decide) (by decide);have u10:Vr rho 1 0=some (up (Aqo rho 1 0)):=EAt (i:=1) (j:=0) h (by decide) (by decide);have HP:Vr rho 0 1=some (up (Aqo rho 0 1)):=EAt (i:=0) (j:=1) h (by decide) (by decide);have u11:Vr rho 1 1=some (up (Aqo rho 1 1)):=EAt (i:=1) (j:=1) h (by decide) (by decide);have w0:AV (0+1)=1:=by decide
 have w1:AV (1+1)=2:=by decide
 obtain ⟨m,hm⟩:∃ m,AY=m+9:=⟨AY - 9,rfl⟩
 simp_all [vI,RAz,GAl,SAz,mk]
theorem UBt {s:AA} {n:Nat} (h:s.size<=2000) (hn:n<=4000):kF s (n:Int)=some (ofBytes (up (Qc (sd s) 0 n)),true):=by
 obtain ⟨x',e,_⟩:=BBS (n:=n) (JAs s) (KAs s) hn
 rw [kF,TAz,mk,Ho,AP,Na.2 (by omega),DN,Aq,ATk h,AP,e];rfl
theorem FAt {seed:AA} {n:Nat} (h:seed.size<=1000) (hn:n<256):Vs seed (n:Int)=some (up (J6 seed n)):=by
 have h1:J9 (n:Int)=some (ArF n):=OO (by omega) (by omega);have hz:(ArF n).size=1:=by rfl
 have h2:=UBt (s:=seed++ArF n) (n:=128) (by grind) (by omega);have hs:(ofBytes (up (Qc (sd (seed++ArF n)) 0 128))).size=128:=by rfl
 have h2:kF (seed++ArF n) 128=_:=h2;rw [Vs,UAz,mk,h1,AP,AL (by grind),h2,AP];dsimp only;rw [J6];generalize ofBytes (up (Qc (sd (seed++ArF n)) 0 128))=s at hs
 have sl:=AwV (Lp:=kG) (st:=fun i o=>.c0 s (i:Int) (up o)) (f:=fun i o=>o++[XW (AwY s (i / 2) / 2 ^ (4*(i % 2)))]) (P:=fun i o=>o.length=i) (n:=256) 1 (fun m i o hi ho=>by
  refine ⟨?_,by simp_all⟩;have hb:=Ve s (i / 2);have w1:AV ((i:Int)+1)=((i+1:Nat):Int):=wn (n:=i+1) (by omega);have e1:AV ((i:Int).tdiv 2)=((i / 2:Nat):Int):=wn (n:=i / 2) (by omega);have e2:(i:Int).tmod 2=((i % 2:Nat):Int):=rfl;have e3:AV ((AwY s (i / 2):Nat):Int)=((AwY s (i / 2):Nat):Int):=wn (by omega);have val:∀ b:Nat,b<256->(AV ((AV ((AV ((AV (((b:Nat):Int).tmod 2+(AV (((b:Nat):Int).tdiv 2)).tmod 2)) - (AV (((b:Nat):Int).tdiv 4)).tmod 2)) - (AV (((b:Nat):Int).tdiv 8)).tmod 2))+3329)).tmod 3329=((XW b:Nat):Int):=by
   intro b hb;have a1:((b:Nat):Int).tmod 2=((b % 2:Nat):Int):=rfl;have a2:(AV (((b:Nat):Int).tdiv 2)).tmod 2=((b / 2 % 2:Nat):Int):=by rw [show ((b:Nat):Int).tdiv 2=((b / 2:Nat):Int) from rfl,wn (by omega)];rfl
   have a3:(AV (((b:Nat):Int).tdiv 4)).tmod 2=((b / 4 % 2:Nat):Int):=by rw [show ((b:Nat):Int).tdiv 4=((b / 4:Nat):Int) from rfl,wn (by omega)];rfl
   have a4:(AV (((b:Nat):Int).tdiv 8)).tmod 2=((b / 8 % 2:Nat):Int):=by rw [show ((b:Nat):Int).tdiv 8=((b / 8:Nat):Int) from rfl,wn (by omega)];rfl
   rw [a1,a2,a3,a4,A8 (n:=((b % 2:Nat):Int)+((b / 2 % 2:Nat):Int)) (by omega) (by omega),A8 (n:=((b % 2:Nat):Int)+((b / 2 % 2:Nat):Int) - ((b / 4 % 2:Nat):Int)) (by omega) (by omega),A8 (n:=((b % 2:Nat):Int)+((b / 2 % 2:Nat):Int) - ((b / 4 % 2:Nat):Int) - ((b / 8 % 2:Nat):Int)) (by omega) (by omega),A8 (by omega) (by omega),Int.tmod_eq_emod_of_nonneg (by omega),XW];omega
  rw [kG];simp only [VAz,mk,w1,e1,e2,Awn,e3];rw [AL (by grind),GX (by omega)];by_cases h2:i % 2=1;·have e4:AV (((AwY s (i / 2):Nat):Int).tdiv 16)=((AwY s (i / 2) / 16:Nat):Int):=wn (n:=AwY s (i / 2) / 16) (by omega);rw [AL (by simp_all),Ep (by rw [Dt];omega),e4,val _ (by omega),MX,h2]
  ·have h0:i % 2=0:=by omega
   rw [AsB (by simp_all),Ep (by rw [Dt];omega),val _ hb,MX,h0,Nat.mul_zero,Nat.pow_zero,Nat.div_one])
 obtain ⟨m,hm⟩:∃ m,AY=m+1+256*1:=⟨AY - 257,by rfl⟩
 rw [hm];refine (sl 256 0 (m+1) [] (by omega) rfl).1.trans ?_;rw [uo,kG];rfl
theorem kH {l:List Nat} (h:ArE l):Ub (up l)=some true:=by
 have hl:=h.1
 have s:=AwV (Lp:=kJ) (st:=fun i (_:Unit)=>.c0 (up l) (i:Int)) (f:=fun _ a=>a) (P:=fun _ _=>True) (n:=256) 1 (fun m i _ hi _=>by
  refine ⟨?_,trivial⟩;have w1:AV ((i:Int)+1)=((i+1:Nat):Int):=wn (n:=i+1) (by omega);have hq:=h.get i;grind [kJ,HAl,BR,Gg,Dt,Ho,Na])
 obtain ⟨m,hm⟩:∃ m,AY=m+1+256*1:=⟨AY - 257,by rfl⟩
 rw [Ub,WAz,mk,AsB (by simp_all [Dt]),hm];refine (s 256 0 (m+1) () (by omega) trivial).1.trans ?_;simp_all [kJ,HAl,mk,Dt]
theorem CBS {n:Nat} (h:n<128):Z8 (n:Int)=some ((t7 n:Nat):Int):=by
 have s:=AwV (Lp:=vJ) (st:=fun i (o:Nat)=>.c0 ((n / 2 ^ i:Nat):Int) (o:Int) (i:Int)) (f:=fun i o=>2*o+n / 2 ^ i % 2) (P:=fun i o=>o<2 ^ i) (n:=7) 1 (fun m i o hi ho=>by
  have hp:2 ^ (i+1)<=2 ^ 7:=Nat.pow_le_pow_right (by decide) hi;have hlt:2*o+n / 2 ^ i % 2<2 ^ (i+1):=by omega
  refine ⟨?_,hlt⟩;have hd:n / 2 ^ i<=n:=Nat.div_le_self _ _;have w1:AV ((i:Int)+1)=((i+1:Nat):Int):=wn (n:=i+1) (by omega);have e1:AV (((n / 2 ^ i:Nat):Int).tdiv 2)=((n / 2 ^ (i+1):Nat):Int):=by rw [show ((n / 2 ^ i:Nat):Int).tdiv 2=((n / 2 ^ i / 2:Nat):Int) from rfl,Nat.div_div_eq_div_mul,<-Nat.pow_succ];exact wn (Nat.lt_of_le_of_lt (Nat.div_le_self _ _) (by omega))
  have e2:((n / 2 ^ i:Nat):Int).tmod 2=((n / 2 ^ i % 2:Nat):Int):=rfl;have F1:(2:Nat) ^ 7=128:=rfl;have e3:AV (2*(o:Int))=((2*o:Nat):Int):=wn (n:=2*o) (by omega);have e4:AV (((2*o:Nat):Int)+((n / 2 ^ i % 2:Nat):Int))=((2*o+n / 2 ^ i % 2:Nat):Int):=wn (n:=2*o+n / 2 ^ i % 2) (by omega);grind [vJ,YAz])
 obtain ⟨m,hm⟩:∃ m,AY=m+1+7*1:=⟨AY - 8,rfl⟩
 have e0:(n:Int).tmod 128=((n / 2 ^ 0:Nat):Int):=by grind
 rw [Z8,XAz,mk,e0,AsB (by rfl),hm];refine (s 7 0 (m+1) 0 (by omega) (by decide)).1.trans ?_;rfl
theorem DBS {e:Nat} (he:e<1024):Z9 17 (e:Int)=some ((XY e:Nat):Int):=by
 have key:∀ (k b e o m:Nat),e<2 ^ k->b<3329->o<3329->e<1024->wz (m+k+1) (.c0 (b:Int) (e:Int) (o:Int))=some ((XZ k b e o:Nat):Int):=by
  intro k;induction k with
  | zero=>
   intro b e o m h _ _ _;obtain rfl:e=0:=by omega
   rfl
  | succ k ih=>
   intro b e o m h hb ho he;rw [AwB m k,wz,XZ];simp only [ALl,mk];by_cases h0:e=0;·simp_all
   ·have e1:AV ((e:Int).tdiv 2)=((e / 2:Nat):Int):=wn (n:=e / 2) (by omega);have e2:(e:Int).tmod 2=((e % 2:Nat):Int):=rfl;rw [AL (by grind),e1,e2,Zc hb hb,Zc ho hb,if_neg h0];have hk:e / 2<2 ^ k:=by omega
    by_cases h1:e % 2=1;·rw [if_pos h1,h1,AL (by rfl)];exact ih _ _ _ _ hk (Nat.mod_lt _ (by decide)) (Nat.mod_lt _ (by decide)) (by omega)
    ·rw [if_neg h1,AsB (by simp_all)];exact ih _ _ _ _ hk (Nat.mod_lt _ (by decide)) ho (by omega)
 obtain ⟨m,hm⟩:∃ m,AY=m+10+1:=⟨AY - 11,rfl⟩
 rw [Z9,ZAz,mk,Ho,AP,Na.2 (by omega),DN,Aq,AsB (by decide),hm];exact key 10 17 e 1 m he (by decide) (by decide) he
theorem VBt {p:List Nat} (h:ArE p):Xp (up p)=some (up (gu p)):=by
 have inner:∀ (k size start z:Nat) (m:Nat) (o:List Nat),0<size->start+2*size<=256->z<3329->ArE o->PG (m+size*1) (.c2 (k:Int) (size:Int) (start:Int) (z:Int) (start:Int) (up o))=PG m (.c2 (k:Int) (size:Int) (start:Int) (z:Int) ((start+size:Nat):Int) (up (AwK (fun j o=>gy z size (start+j) o) size 0 o))):=fun k size start z m o hs hst hz ho=>(AwV (Lp:=PG) (st:=fun j o=>.c2 (k:Int) (size:Int) (start:Int) (z:Int) ((start+j:Nat):Int) (up o)) (f:=fun j o=>gy z size (start+j) o) (P:=fun _ o=>ArE o) (n:=size) 1 (fun m j o hj ho=>by
  refine ⟨?_,SBC ho _ _ _⟩;have hl:=ho.1;have h1:=ho.get (start+j);have h2:=ho.get (start+j+size);have e1:AV (((start+j:Nat):Int)+1)=((start+(j+1):Nat):Int):=wn (n:=start+(j+1)) (by omega);have e2:AV (((start+j:Nat):Int)+(size:Int))=((start+j+size:Nat):Int):=wn (n:=start+j+size) (by omega);have e3:AV ((start:Int)+(size:Int))=((start+size:Nat):Int):=wn (n:=start+size) (by omega);rw [PG];simp only [aA,mk,e1,e2,e3,BR,Gg];rw [Zc hz h2];have ht:z*o.getD (start+j+size) 0 % 3329<3329:=Nat.mod_lt _ (by decide);have e4:(AV (AV (((o.getD (start+j) 0:Nat):Int) - ((z*o.getD (start+j+size) 0 % 3329:Nat):Int))+3329)).tmod 3329=(((o.getD (start+j) 0+3329 - z*o.getD (start+j+size) 0 % 3329) % 3329:Nat):Int):=by grind [A8]
  rw [e4,AsA,Gg,getD_set_ne (show start+j≠start+j+size by omega)];have e5:(AV (((o.getD (start+j) 0:Nat):Int)+((z*o.getD (start+j+size) 0 % 3329:Nat):Int))).tmod 3329=(((o.getD (start+j) 0+z*o.getD (start+j+size) 0 % 3329) % 3329:Nat):Int):=by grind [A8]
  rw [e5,AsA,AL (by simp_all),AL (AwI (by omega)),AL (AwI (by omega)),AL (AwI (by omega)),AL (AwI (by grind)),AL (AwI (by grind))];rfl) size 0 m o (by omega) ho).1
 have level:∀ (k0 size c:Nat) (m:Nat) (o:List Nat),1<size->size*c=128->k0=c->ArE o->PG (m+1+c*(size+2)+1) (.c0 (k0:Int) (size:Int) (up o))=PG m (.c0 ((k0+c:Nat):Int) ((size / 2:Nat):Int) (up (Td k0 size c o))):=by
  intro k0 size c m o hs hc hk ho;have hsc:size<=128/\c<=64:=by refine ⟨Nat.le_of_dvd (by decide) ⟨c,hc.symm⟩,?_⟩;have h2:2*c<=size*c:=Nat.mul_le_mul_right c hs;omega
  have s:=AwV (Lp:=PG) (st:=fun i o=>.c1 ((k0+i:Nat):Int) (size:Int) ((2*size*i:Nat):Int) (up o)) (f:=NAs k0 size) (P:=fun _ o=>ArE o) (n:=c) (size+2) (fun m i o hi ho=>by
   refine ⟨?_,TBC ho _ _ _⟩;have hb:size*(i+1)<=size*c:=Nat.mul_le_mul_left size hi;have hb2:2*size*i=2*(size*i):=Nat.mul_assoc 2 size i;have hb3:2*size*(i+1)=2*size*i+2*size:=Nat.mul_succ _ _;rw [Nat.mul_succ] at hb;have e1:AV (((k0+i:Nat):Int)+1)=((k0+(i+1):Nat):Int):=wn (n:=k0+(i+1)) (by omega);have e2:AV (2*(size:Int))=((2*size:Nat):Int):=wn (n:=2*size) (by omega);have e3:AV (((2*size*i:Nat):Int)+((2*size:Nat):Int))=((2*size*(i+1):Nat):Int):=by grind [wn]
   have e4:AV (((2*size*i:Nat):Int)+(size:Int))=((2*size*i+size:Nat):Int):=wn (n:=2*size*i+size) (by omega);have h7:=MAs (k0+i);rw [show m+(size+2)=m+1+size*1+1 by omega,PG];simp only [aA,mk,e1];rw [AL (by grind),CBS (n:=k0+i) (by omega),AP,DBS (e:=t7 (k0+i)) (by omega),AP];refine (inner (k0+(i+1)) size (2*size*i) _ (m+1) o (by omega) (by omega) (LAs _) ho).trans ?_;rw [PG];simp only [aA,mk,e2,e3,e4];rw [AsB (by simp)];rfl)
  rw [PG];simp only [aA,mk];rw [AL (by grind)];refine (s c 0 (m+1) o (by omega) ho).1.trans ?_;have hb2:2*size*c=256:=by grind
  have e5:AV ((size:Int).tdiv 2)=((size / 2:Nat):Int):=wn (n:=size / 2) (by omega);rw [PG];simp only [aA,mk,e5];rw [AsB (by simp_all)];rfl
 have hl:=h.1;obtain ⟨m,hm⟩:∃ m,AY=m+1+1+64*(2+2)+1+1+32*(4+2)+1+1+16*(8+2)+1+1+8*(16+2)+1+1+4*(32+2)+1+1+2*(64+2)+1+1+1*(128+2)+1:=⟨AY - 1165,by rfl⟩
 rw [Xp,BA0,mk,kH h,AP,DN,Aq,AL (by simp_all [Dt]),hm];try rw [List.nil_append]
 have o1:=LG h 1 128 1;have o2:=LG o1 2 64 2;have o3:=LG o2 4 32 4;have o4:=LG o3 8 16 8;have o5:=LG o4 16 8 16;have o6:=LG o5 32 4 32;refine (level 1 128 1 _ p (by omega) rfl rfl h).trans ?_;refine (level 2 64 2 _ _ (by omega) rfl rfl o1).trans ?_;refine (level 4 32 4 _ _ (by omega) rfl rfl o2).trans ?_;refine (level 8 16 8 _ _ (by omega) rfl rfl o3).trans ?_;refine (level 16 8 16 _ _ (by omega) rfl rfl o4).trans ?_;refine (level 32 4 32 _ _ (by omega) rfl rfl o5).trans ?_;refine (level 64 2 64 (m+1) _ (by omega) rfl rfl o6).trans ?_;rfl
theorem KBD {n:Nat} (h:n<=12):Xq (n:Int)=some ((2 ^ n:Nat):Int):=by
 have s:=AwV (Lp:=kK) (st:=fun i (o:Nat)=>.c0 (n:Int) (o:Int) (i:Int)) (f:=fun _ o=>2*o) (P:=fun i o=>o=2 ^ i) (n:=n) 1 (fun m i o hi ho=>by
  have hp:2 ^ (i+1)<=2 ^ 12:=Nat.pow_le_pow_right (by decide) (by omega);grind [wn,kK,JAl])
 obtain ⟨m,hm⟩:∃ m,AY=m+1+n*1:=⟨AY - (1+n),by have:=FM (n:=1+n) (by omega);omega⟩
 rw [Xq,CA0,hm];obtain ⟨a1,a2⟩:=s n 0 (m+1) 1 (by omega) rfl
 simp_all [kK,JAl,mk]
theorem WBt {l:List Nat} (h:ArE l):KAl (up l) 12=some (Ar4 l,true):=by
 have hl:=h.1;have t12:Xq 12=some 4096:=KBD (n:=12) (by omega);have t0:Xq 0=some 1:=KBD (n:=0) (by omega);have t4:Xq 4=some 16:=KBD (n:=4) (by omega)
 have s0:=AwV (Lp:=OZ) (st:=fun i (_:Unit)=>.c0 (up l) 12 (i:Int)) (f:=fun _ a=>a) (P:=fun _ _=>True) (n:=256) 1 (fun m i _ hi _=>by
  refine ⟨?_,trivial⟩;have w1:AV ((i:Int)+1)=((i+1:Nat):Int):=wn (n:=i+1) (by omega);have hq:=h.get i;rw [OZ];simp only [Q5,mk,w1,BR,Gg];rw [AL (by grind [Dt]),AL (AwI (by omega)),t12,AP,Ho,AP,show AV (4096 - 1)=4095 by decide,Na.2 (by omega),DN,Aq])
 have s1:=AwV (Lp:=OZ) (st:=fun q o=>.c1 (up l) 12 0 0 ((2*q:Nat):Int) (up o)) (f:=fun q o=>o++[I4 l (3*q)]++[I4 l (3*q+1)]++[I4 l (3*q+2)]) (P:=fun q o=>o.length=3*q) (n:=128) 7 (fun m q o hq ho=>by
  refine ⟨?_,by grind⟩;have hx:=h.get (2*q);have hy:=h.get (2*q+1);have w1:AV (((2*q:Nat):Int)+1)=((2*q+1:Nat):Int):=wn (n:=2*q+1) (by omega);have w2:AV (((2*q+1:Nat):Int)+1)=((2*(q+1):Nat):Int):=wn (n:=2*(q+1)) (by omega);have p0:=DBP l q;have p1:=EBP l q;have p2:=FBP l q;rw [show m+7=m+1+1+1+1+1+1+1 from rfl,OZ];simp only [Q5,mk,BR,Gg];rw [AL (by grind [Dt]),AL (AwI (by omega)),t0,AP];generalize l.getD (2*q) 0=x at hx p0 p1;have hl2:∀ k,(up (o++[k])).length=o.length+1:=fun k=>by simp [Dt]
  rw [show AV ((x:Int)*1)=(x:Int) by grind [wn],show AV (0+(x:Int))=(x:Int) by grind [wn],show AV (0+12)=12 by decide,OZ];simp only [Q5,mk];rw [AL (by rfl),AL (by grind [Dt]),show AV ((x:Int).tdiv 256)=((x / 256:Nat):Int) from wn (n:=x / 256) (by omega),show AV (12 - 8)=4 by decide,show w8 ((x:Int).tmod 256)=((I4 l (3*q):Nat):Int) by grind [Nq],MX,OZ];simp only [Q5,mk,w1];rw [AsB (by rfl),OZ];simp only [Q5,mk,BR,Gg];rw [AL (by grind [Dt]),AL (AwI (by omega)),t4,AP];generalize l.getD (2*q+1) 0=y at hy p1 p2;have e16:AV ((y:Int)*16)=((y*16:Nat):Int):=wn (n:=y*16) (by omega);have eh:AV (((x / 256:Nat):Int)+((y*16:Nat):Int))=((x / 256+y*16:Nat):Int):=wn (n:=x / 256+y*16) (by omega);have d1:(x / 256+y*16) % 256=I4 l (3*q+1):=by omega
  have d2:(x / 256+y*16) / 256=I4 l (3*q+2):=by omega
  have hp2:I4 l (3*q+2)<256:=by omega
  rw [e16,eh,show AV (4+12)=16 by decide,OZ];simp only [Q5,mk];rw [AL (by rfl),AL (by grind),show AV (((x / 256+y*16:Nat):Int).tdiv 256)=((I4 l (3*q+2):Nat):Int) by rw [show ((x / 256+y*16:Nat):Int).tdiv 256=(((x / 256+y*16) / 256:Nat):Int) from rfl,d2];exact wn (by omega),show AV (16 - 8)=8 by decide,show w8 (((x / 256+y*16:Nat):Int).tmod 256)=((I4 l (3*q+1):Nat):Int) by grind [Nq],MX,OZ];simp only [Q5,mk];rw [AL (by rfl),AL (by grind [Dt]),show AV (((I4 l (3*q+2):Nat):Int).tdiv 256)=0 by rw [show ((I4 l (3*q+2):Nat):Int).tdiv 256=((I4 l (3*q+2) / 256:Nat):Int) from rfl,Nat.div_eq_of_lt hp2];decide,show AV (8 - 8)=0 by decide,show w8 (((I4 l (3*q+2):Nat):Int).tmod 256)=((I4 l (3*q+2):Nat):Int) by grind [Nq],MX,OZ];simp_all [Q5,mk])
 obtain ⟨m,hm⟩:∃ m,AY=(m+1+128*7)+1+256*1:=⟨AY - 1154,by rfl⟩
 rw [KAl,DA0,mk,Ho,AP,Na.2 (by omega),DN,Aq,hm];refine (s0 256 0 _ () (by omega) trivial).1.trans ?_;rw [OZ];simp only [Q5,mk];rw [AsB (by simp_all [Dt])];refine (s1 128 0 (m+1) [] (by omega) rfl).1.trans ?_;rw [GBP (I4 l),show 3*128=384 from rfl,Nat.mul_zero,uo,OZ];simp only [Q5,mk];rw [AsB (by simp_all [Dt]),AsB (by rfl)];rfl
theorem EBS {l:List Nat} (h:ArE l):aB (up l)=some (Ar4 l):=by simp_all [aB,EA0,mk,kH,WBt]
theorem FBS {a b:List Nat} (ha:ArE a) (hb:ArE b):xA (up a) (up b)=some (up (mulL a b)):=by
 have hal:=ha.1;have hbl:=hb.1
 have s:=AwV (Lp:=kL) (st:=fun i o=>.c0 (up a) (up b) (i:Int) (up o)) (f:=fun i o=>o++[Nh a b (2*i),Nh a b (2*i+1)]) (P:=fun i o=>o.length=2*i) (n:=128) 1 (fun m i o hi ho=>by
  refine ⟨?_,by grind⟩;have h7:=MAs i;have w1:AV ((i:Int)+1)=((i+1:Nat):Int):=wn (n:=i+1) (by omega);have e1:AV (2*(i:Int))=((2*i:Nat):Int):=wn (n:=2*i) (by omega);have e2:AV (((2*i:Nat):Int)+1)=((2*i+1:Nat):Int):=wn (n:=2*i+1) (by omega);have e3:AV (2*((t7 i:Nat):Int))=((2*t7 i:Nat):Int):=wn (n:=2*t7 i) (by omega);have e4:AV (((2*t7 i:Nat):Int)+1)=((2*t7 i+1:Nat):Int):=wn (n:=2*t7 i+1) (by omega);have g:=LAs (2*t7 i+1);have a0:=ha.get (2*i);have a1:=ha.get (2*i+1);have b0:=hb.get (2*i);have b1:=hb.get (2*i+1);have p00:=mul_lt a0 b0;have p11:=mul_lt a1 b1;have p01:=mul_lt a0 b1;have p10:=mul_lt a1 b0;have hm:a.getD (2*i+1) 0*b.getD (2*i+1) 0 % 3329<3329:=Nat.mod_lt _ (by decide);have pg:=mul_lt hm g;rw [kL];simp only [GA0,mk,w1,e1,e2,BR,Gg];rw [AL (by grind),CBS (by omega),AP,e3,e4,DBS (by omega),AP,Zc a1 b1,Xb hm g,Xb a0 b0,Xb a0 b1,Xb a1 b0];have v1:(AV (((a.getD (2*i) 0*b.getD (2*i) 0:Nat):Int)+((a.getD (2*i+1) 0*b.getD (2*i+1) 0 % 3329*XY (2*t7 i+1):Nat):Int))).tmod 3329=((Nh a b (2*i):Nat):Int):=by grind [VBO,wn]
  have v2:(AV (((a.getD (2*i) 0*b.getD (2*i+1) 0:Nat):Int)+((a.getD (2*i+1) 0*b.getD (2*i) 0:Nat):Int))).tmod 3329=((Nh a b (2*i+1):Nat):Int):=by grind [WBO,wn]
  grind [up])
 obtain ⟨m,hm⟩:∃ m,AY=m+1+128*1:=⟨AY - 129,by rfl⟩
 rw [xA,FA0,mk,kH ha,AP,DN,Aq,kH hb,AP,DN,Aq,hm];refine (s 128 0 (m+1) [] (by omega) rfl).1.trans ?_;rw [YBO,show 2*128=256 from rfl,Nat.mul_zero,uo,kL];rfl
theorem LBD {a b:List Nat} (ha:ArE a) (hb:ArE b):Xr (up a) (up b)=some (up (Zj a b)):=by
 have hal:=ha.1;have hbl:=hb.1
 have s:=AwV (Lp:=kM) (st:=fun i o=>.c0 (up a) (up b) (i:Int) (up o)) (f:=fun i o=>o++[(a.getD i 0+b.getD i 0) % 3329]) (P:=fun i o=>o.length=i) (n:=256) 1 (fun m i o hi ho=>by
  refine ⟨?_,by simp_all⟩;have w1:AV ((i:Int)+1)=((i+1:Nat):Int):=wn (n:=i+1) (by omega);have a0:=ha.get i;have b0:=hb.get i;have v:(AV (((a.getD i 0:Nat):Int)+((b.getD i 0:Nat):Int))).tmod 3329=(((a.getD i 0+b.getD i 0) % 3329:Nat):Int):=by rw [<-Int.natCast_add,wn (by omega)];rfl
  rw [kM];simp only [IA0,mk,w1,BR,Gg];rw [AL (by grind),kH ha,AP,Ar,kH hb,AP,Ar,v,AL (AwI (by omega)),AL (AwI (by omega)),AL (by grind [Dt]),MX])
 obtain ⟨m,hm⟩:∃ m,AY=m+1+256*1:=⟨AY - 257,by rfl⟩
 rw [Xr,HA0,hm];refine (s 256 0 (m+1) [] (by omega) rfl).1.trans ?_;rw [uo (fun i=>(a.getD i 0+b.getD i 0) % 3329),kM];rfl
theorem XBt {a0 a1 b0 b1:List Nat} (ha0:ArE a0) (ha1:ArE a1) (hb0:ArE b0) (hb1:ArE b1):Uc [up a0,up a1] [up b0,up b1]=some (up (QAs a0 a1 b0 b1)):=by
 obtain ⟨m,hm⟩:∃ m,AY=m+1+1+1:=⟨AY - 3,rfl⟩
 rw [Uc,JA0,mk,hm,show (256:Int).toNat=256 from rfl,<-TY,kN];simp only [LAl,mk];rw [AL (by rfl),AL (by rfl),AL (by rfl),show ([up a0,up a1]:List (List Int)).getD (0:Int).toNat []=up a0 from rfl,show ([up b0,up b1]:List (List Int)).getD (0:Int).toNat []=up b0 from rfl,FBS ha0 hb0,AP,LBD ASo (OAs _ _),AP,show AV (0+1)=1 by decide,kN];simp only [LAl,mk];rw [AL (by rfl),AL (by rfl),AL (by rfl),show ([up a0,up a1]:List (List Int)).getD (1:Int).toNat []=up a1 from rfl,show ([up b0,up b1]:List (List Int)).getD (1:Int).toNat []=up b1 from rfl,FBS ha1 hb1,AP,LBD (PAs _ _) (OAs _ _),AP,show AV (1+1)=2 by decide,kN];rfl
theorem GBS {seed:AA} (h:seed.size=32):xB seed=some (⟨ArJ seed,O6 seed⟩,true):=by
 have z0:(⟨#[]⟩:AA).size=0:=rfl;have z1:(⟨#[114]⟩:AA).size=1:=rfl;have z2:(⟨#[115]⟩:AA).size=1:=rfl;have z3:(⟨#[122]⟩:AA).size=1:=rfl;have hd:=Aro seed;have hrs:(AvC seed).size=32:=Aro _;have hss:(ArU seed).size=32:=Aro _;have hps:=IBP seed;have hr:JC (EM seed++⟨#[114]⟩)=some (AvC seed):=LJ (by simp_all);have hs:JC (EM seed++⟨#[115]⟩)=some (ArU seed):=LJ (by simp_all);have hzz:JC (EM seed++⟨#[122]⟩)=some (EM (EM seed++⟨#[122]⟩)):=LJ (by simp_all);have hpp:JC (ArJ seed)=some (EM (ArJ seed)):=LJ (by omega);have m0:Vs (ArU seed) 0=some (up (J6 (ArU seed) 0)):=FAt (n:=0) (by omega) (by decide);have m1:Vs (ArU seed) 1=some (up (J6 (ArU seed) 1)):=FAt (n:=1) (by omega) (by decide);have m2:Vs (ArU seed) 2=some (up (J6 (ArU seed) 2)):=FAt (n:=2) (by omega) (by decide);have m3:Vs (ArU seed) 3=some (up (J6 (ArU seed) 3)):=FAt (n:=3) (by omega) (by decide);have n0:∀ i,Xp (up (J6 (ArU seed) i))=some (up (pS seed i)):=fun i=>VBt (iI _ _)
 have b0:∀ i,aB (up (pS seed i))=some (Ar4 (pS seed i)):=fun i=>EBS (Xe _ _)
 have d0:∀ i,Uc [up (Aqo (AvC seed) 0 i),up (Aqo (AvC seed) 1 i)] [up (pS seed 0),up (pS seed 1)]=some (up (Zl seed i)):=fun i=>XBt (RAs _ _ _) (RAs _ _ _) (Xe _ _) (Xe _ _)
 have a0:∀ i,Xr (up (Zl seed i)) (up (pS seed (2+i)))=some (up (pT seed i)):=fun i=>LBD (ZBO _ _ _ _) (Xe _ _)
 have t0:∀ i,aB (up (pT seed i))=some (Ar4 (pT seed i)):=fun i=>EBS (HBP _ _)
 have w0:AV (0+1)=1:=by decide
 have w1:AV (1+1)=2:=by decide
 have w2:AV (2+0)=2:=by decide
 have w3:AV (2+1)=3:=by decide
 obtain ⟨m,hm⟩:∃ m,AY=m+6:=⟨AY - 6,rfl⟩
 rw [xB,KA0,mk,AsB (by simp_all),LJ (by omega),AP,AL (by rfl),hr,AP,AL (by rfl),hs,AP,TBt (by omega),AP,hm];rw [Vt];simp only [Xt,mk];rw [AL (by rfl),m0,AP,n0,AP,AL (by rfl),b0,AP,AL (by rfl),w0];rw [Vt];simp only [Xt,mk];rw [AL (by rfl),m1,AP,n0,AP,AL (by rfl),b0,AP,AL (by simp_all [Avp]),w1];rw [Vt];simp only [Xt,mk];rw [AsB (by rfl)];rw [Vt];simp only [Xt,mk];rw [AL (by rfl),AL (by rfl)];show (Uc [up (Aqo (AvC seed) 0 0),up (Aqo (AvC seed) 1 0)] [up (pS seed 0),up (pS seed 1)]).bind _=_;rw [d0,AP,w2,m2,AP,n0,AP,a0 0,AP,t0,AP,AL (by rfl),w0];rw [Vt];simp only [Xt,mk];rw [AL (by rfl),AL (by rfl)];show (Uc [up (Aqo (AvC seed) 0 1),up (Aqo (AvC seed) 1 1)] [up (pS seed 0),up (pS seed 1)]).bind _=_;rw [d0,AP,w3,m3,AP,n0,AP,a0 1,AP,t0,AP,AL (by simp_all [Avp]),w1];rw [Vt];simp only [Xt,mk];rw [AsB (by rfl),AL (by simp_all [Avp])];rw [show ((⟨#[]⟩:AA)++Ar4 (pT seed 0)++Ar4 (pT seed 1))++AvC seed=ArJ seed from rfl,AL (by simp_all [Avp]),hpp,AP,AL (by simp_all [Aro,Avp]),AL (by rfl),hzz,AP,AL (by simp_all [Aro,Avp])];rfl
theorem HBS {s t:AA} (h:t.size≠768):kP s t=some (⟨#[]⟩,false):=by rw [kP,UA0,mk,TA0,SA0,mk,RA0,PA0,mk,show ((t.size:Int) != 768)=true from bne_iff_ne.2 (by omega)];simp
theorem YBt (x:Af) (h f:Bool):MAl x h f=some (Tj x h f):=by rw [MAl,VA0,mk,uH,AP,Tj];cases Awj x <;> cases x.CY <;> cases x.CX <;> cases h <;> cases f <;> rfl
theorem ZBt {s:AA} (hs:s.size<=1000):NAl s=some (Tn (s++⟨#[116]⟩)):=by have z:(⟨#[116]⟩:AA).size=1:=rfl;rw [NAl,WA0,mk,AL (by grind),TBR (by grind)];rfl
theorem Afw (x:Af):OAl x=some (tH x):=by rw [OAl,XA0,mk,uH,AP,tH];grind [GBS,ZQ,ZBt]
theorem BBu {tk:AA->AA×Bool} {b:Ap} {c:CV} {x:Af} (h:PB b) (hc:c.fText.size<=1000) (hx:C9 b.AU.AZ x.fId=some x) (htk:c.Au=12->∀ v:AA,v.size=32->kP (O6 v) c.fText=some (tk (O6 v))):PAl b c x=some (Vb tk b c x):=by
 have hk:(KP b).size<=900000000:=by simp [KP,Aro]
 rw [PAl,YA0,mk,Vb];simp only [DBt,tX,WBC h.key,XBC hk,YBt,Afw,AP];cases c.Au == 6
 ·cases c.Au == 5
  ·cases c.Au == 10
   ·cases h12:c.Au == 12
    ·cases c.Au == 8
     ·cases c.Au == 7;·cases c.Au == 9 <;> rfl
      ·rfl
     ·rw [Ar,Ar];cases (Tj x c.CY c.CX).2 <;> rfl
    ·rw [Ar,Ar];cases hm:Qk x 4;·rfl
     ·obtain ⟨h1,h2⟩:=NBP hm
      have hv:=ZQ h1 (.inl h2);rw [GBS hv,AP];dsimp only;rw [htk (beq_iff_eq.1 h12) _ hv,AP];simp only [Ar,Aq];cases (tk (O6 x.fValue)).2 <;> rfl
   ·rw [Ar,Ar];cases Qk x 2 <;> rfl
  ·rw [Ar,Ar];cases hm:Qk x 3;·rfl
   simp_all [MBt]
 ·rw [Ar,Ar];cases Qk x 1 <;> rfl
theorem IBS {tk:AA->AA×Bool} {b:Ap} {c:CV} (h:PB b) (hc:OL c=true) (htk:c.Au=12->∀ v:AA,v.size=32->kP (O6 v) c.fText=some (tk (O6 v))):PI b c=some (Fb tk b c):=by
 have hs:=h.MP;have ht:=h.things;have ho:=h.opn;have hl:=h.last;have hz:=LBN hc;have h5:=(HY.1 h.Jk).2.2.1;have hd:=KBP (b.AU.BM+1);have h32:(⟨#[32]⟩:AA).size=1:=rfl;rw [PI,ZA0,mk,Fb,YBs (by omega),A8 (n:=b.CW+1) (by omega) (by omega),IBD (n:=b.CW+1) (by omega),show decide ((b.BP.length:Int)>=3)=((b.BP.length:Int) == 3) by grind,show decide (b.CW>=1000)=(b.CW == 1000) by grind];cases c.Au == 1
 ·rw [Aq,Aq,AP];by_cases ha:Gl b c.EJ<0;·rw [Ba ha];rfl
  ·rw [D6 ha,Aq,Aq];have hlt:Gl b c.EJ<(b.BP.length:Int):=by
    rw [Gl] at ha ⊢;cases hp:Jg b.BP c.EJ 0 with
    | none=>simp_all
    | some j=>have:=(QAr hp).2;simp_all
   cases c.Au == 13
   ·rw [Aq,Aq];cases c.Au == 2
    ·rw [Aq,Aq,GX (by omega)];cases (b.BP.getD (Gl b c.EJ).toNat ⟨0,false⟩).QW;·rfl
     ·rw [DN,Aq,Aq];cases c.Au == 3
      ·rw [Aq,Aq];cases c.Au == 4
       ·rw [Aq,Aq];cases c.Au == 11
        ·rw [Aq,Aq,aC (by omega),AP];cases hx:C9 b.AU.AZ c.Ag with
         | none=>rfl
         | some x=>
          dsimp only;rw [DN,Aq,BBu h hz (by rw [(Oo hx).1];exact hx) htk];rfl
        simp_all [CBt]
       grind [UAs,SAs,A8,IBD,LBo,LBR]
      ·rw [Ar,Ar,LJ (by omega)];cases decide ((c.fText.size:Int) > 20) <;> rfl
    grind [ZBs]
   ·rfl
 ·rw [Ar,Ar];cases (b.BP.length:Int) == 3 <;> cases b.CW == 1000 <;> rfl
theorem CBu {F:AA} {n:Int} {z:List Int} {v out:List BQ} {m:Nat}:xC (m+1) (.c0 z 1 (dk F n) v out)=some (⟨out⟩,true):=rfl
theorem JBS {d e c:BU} {T:AA} {z:List Int} (hT:T.size<=20000) (hd:d.Ak.length*40<=140737488351232) (ha:Aqd d ⟨1,Fa,T,⟨#[]⟩⟩=(e,true)) (h:xE e z=some (c,true)):xG d (AwG T) 1 z=some (c,true):=by
 have e1:FT d [⟨1,Fa,T,⟨#[]⟩⟩] 0=(e,1):=by simp_all [FT]
 rw [xG,CA1,mk,Ho,AP,show Bl 1 0 ((AwG T).length:Int)=true from rfl,DN,Aq,AL (by rfl),show ((AwG T).take (1:Int).toNat).drop 0=[⟨1,Fa,T,⟨#[]⟩⟩] from rfl,HBA (l:=[⟨1,Fa,T,⟨#[]⟩⟩]) hd (show (1:Nat)<=140737488351232 by omega) (fun a ha=>by grind),AP,e1];simp_all
theorem MBD {d:BU} {n:AA} (h0:d.Ak.length<=140737488351232):kQ d n=some (Ih d n):=by
 rw [kQ,DA1,mk,BBA h0,AP,AwN,Ih];cases h:AwR d.Ak n 0 with
 | none=>rfl
 | some j=>
  have:=aF h;simp_all [AsB]
theorem GAt (f:AA) {a b c:Nat} (h:a<=b) (h2:b<=c) (h3:c<=f.size):bs (f.extract a c)=bs (f.extract a b)++bs (f.extract b c):=by rw [Ls,Ls,Ls,List.drop_take,List.drop_take,List.drop_take];rw [show (bs f).drop b=((bs f).drop a).drop (b - a) by simp_all];rw [show c - a=(b - a)+(c - b) by omega,List.take_add]
theorem DBu {f:AA} (hf:f.size<=140737488351232):xH f=some (AwS f):=by
 rw [xH,EA1,mk,AwS];by_cases h0:20000<f.size;·grind
 ·rw [AsB (by grind),AsB (by grind)];have key:∀ (j a m:Nat) (out:List AA),a<=f.size->f.size<a+j->out.length<=a->xI (m+j+1) (.c0 f (a:Int) out)=some (out++(Ll j f a).1,((Ll j f a).2:Int)):=by
   intro j;induction j with
   | zero=>omega
   | succ j ih=>
    intro a m out ha hj ho;rw [show m+(j+1)+1=(m+j+1)+1 by omega,xI];simp only [FA1,mk,Ll];by_cases he:a=f.size;·grind [kR]
    ·rw [AL (by grind),RBL hf ha,AP];rcases uF hf ha with h | ⟨v,h,hv0,hv1,hA⟩
     ·rw [show Nu f a=none by rw [Nu,h];rfl,h];rw [List.append_nil];rfl
     ·have hp:=Qy v;have hsz:=hA.size.resolve_left (by grind);have hn:=kR hf ha;have hex:bs (f.extract a (a+(SN v).length))=SN v:=by rw [hA.extract (SC v hv0),AsM (SC v hv0)]
      rw [h] at hn ⊢;generalize hq:a+(SN v).length=q at hsz hn hex;simp only [DN,Aq];rw [A8 (n:=(f.size:Int) - (q:Int)) (by omega) (by omega),A8 (n:=(f.size:Int) - (q:Int) - 4) (by omega) (by omega),A8 (n:=(q:Int)+4) (by omega) (by omega),A8 (n:=(q:Int)+4+v) (by omega) (by omega)];by_cases h3:v > (f.size:Int) - (q:Int) - 4;·grind
      ·have e2:((q:Int)+4).toNat=q+4:=by omega
       have e3:((q:Int)+4+v).toNat=q+4+v.toNat:=by omega
       have hxs:(f.extract (q+4) (q+4+v.toNat)).size=v.toNat:=by grind [ByteArray.size_extract]
       rw [AsB (by simp_all),AL (by grind),e2,e3,BR,XA9 (by omega),AP,frameT,hxs];rcases hn with hn | ⟨v',q',he',_,_,h5,h6,h4,hA',hb,hn⟩
       ·rw [hn,List.append_nil];cases hr:Bl ((v.toNat:Nat):Int) 1 9000;·rfl
        ·rw [Ar,AsB (by rfl),AL (by simp;omega)];rw [AL];rw [Bool.not_eq_true',Rx,AsM (xJ (Jj _)),beq_eq_false_iff_ne];intro hc;rw [GV,bs_len,hxs,show ((v.toNat:Nat):Int)=v by omega,GAt f (a:=a) (b:=q) (by omega) (by omega) (by omega),hex,GAt f (a:=q) (b:=q+4) (by omega) (by omega) (by omega)] at hc;have hc2:=(List.append_inj (List.append_cancel_left hc) (by simp_all)).1;grind [Nu]
       ·simp only [Prod.mk.injEq,and_true] at he';obtain ⟨rfl,he'⟩:=he'
        have:q=q':=by omega
        subst this;have hr:Bl ((v.toNat:Nat):Int) 1 9000=true:=by grind [Na]
        rw [hn,hr,Ar,AsB (by rfl),AL (by simp;omega)]
        rw [AsB (by
         rw [Bool.not_eq_false',Rx,AsM (xJ (Jj _)),beq_iff_eq];rw [GV,bs_len,hxs,show ((v.toNat:Nat):Int)=v by omega,GAt f (a:=a) (b:=q) (by omega) (by omega) (by omega),hex,GAt f (a:=q) (b:=q+4) (by omega) (by omega) (by omega),hb])]
        grind
  obtain ⟨m,hm⟩:∃ m,AY=m+(f.size+1)+1:=⟨AY - (f.size+2),by have:=FM (n:=f.size+2) (by omega);omega⟩
  rw [hm,show (0:Int)=((0:Nat):Int) from rfl,key (f.size+1) 0 m [] (by omega) (by omega) (Nat.le_refl _)];rfl
theorem NBD {k file:AA} (hk:k.size<=900000000) (hf:file.size<=140737488351232):kS k file=some (AwM k file):=by
 obtain ⟨u1,u2,_,_⟩:=CAr (file:=file)
 rw [kS,GA1,DBu hf,AP,AwM];generalize (AwS file).1=l at u1 u2;have key:∀ (j i m:Nat) (e:Int) (out:List Ah),i+j=l.length->0<=e->e<=30000*i->out.length<=i->kT (m+j+1) (.c0 k e (i:Int) out l)=some (out++(Ara k ((i:Int)+1) (l.drop i)).1,e+(Ara k ((i:Int)+1) (l.drop i)).2):=by
  intro j;induction j with
  | zero=>
   grind [kT,QAl,Ara]
  | succ j ih=>
   intro i m e out h he he2 ho;have hi:i<l.length:=by omega
   have hz:=u1 _ (List.getElem_mem hi);have ew:AV ((i:Int)+1)=((i+1:Nat):Int):=by grind [A8]
   have GW:=uD k l[i] ((i+1:Nat):Int);have hfz:=XBK (t:=l[i]) (by omega);rw [show m+(j+1)+1=(m+j+1)+1 by omega,kT];simp only [QAl,mk,ew,BR,getD_at hi];rw [AL (by simp_all),AL (by simp_all),MBR hk (by omega),AP,SBm (by omega),AP,drop_at hi,Ara,show ((i:Int)+1)=((i+1:Nat):Int) from rfl];cases (EP k ((i+1:Nat):Int) l[i]).2;·simp
   ·rw [AsB (by rfl),Bool.true_and];cases (Aqj (EP k ((i+1:Nat):Int) l[i]).1).2;·simp
    ·have h2:=ih (i+1) m (e+((frameT l[i]).1.size:Int)) (out++[(Aqj (EP k ((i+1:Nat):Int) l[i]).1).1]) (by omega) (by omega) (by omega) (by simp_all);grind [XA9,A8]
 obtain ⟨m,hm⟩:=gm (n:=l.length) (by omega)
 have h0:=key l.length 0 m 0 [] (by omega) (by omega) (by omega) (Nat.le_refl _);simp_all
theorem OBD {l:Bg} {r:Ah} (h:l.CO.length<=1000000):Xu l r=some ⟨l.AX,l.Bq,l.EN,l.Cm,l.CO++[r]⟩:=by rw [Xu,IA1,mk];grind
theorem KBS {b:Ap} (h:b.Bc.Ak.length*40<=140737488355328):kU b=some (kV b):=by rw [kU,JA1,mk,AL (by simp_all),aG];rfl
theorem LBS {x:AA×Bool×(List BQ)×AA×Int×Unit×Int×AA×Int×Unit×Unit×Int} (h:x.2.2.1.length*40<=140737488355328):kW x=some ⟨x.1,false,⟨x.2.2.1⟩,DI,[],[],0⟩:=by simp_all [kW,KA1,mk,aG]
theorem MBS {F:AA} {n:Int} (zs:List Int) (h:0<=n/\n<=(F.size:Int)) (hF:F.size<=20000):xE (dk F n) zs=some (SE F n zs,true):=by
 obtain ⟨m,hm⟩:∃ m,AY=m+1+1:=⟨AY - 2,rfl⟩
 have h1:((dk F n).Ak.length:Int)=1:=rfl;have h3:(([]:List BQ).length+1)*40=40:=rfl;have e:AV (0+1)=1:=by rfl
 have hg:(dk F n).Ak.getD (0:Int).toNat (⟨⟨#[]⟩,⟨#[]⟩,0⟩:BQ)=⟨Fa,F,n⟩:=rfl;rw [xE,AMN,mk,LAq,AP,QD h hF,hm,xC];simp only [BA1,mk,h1,h3,e,hg,DN,Aq,List.nil_append];rw [AL (by rfl),AL (by rfl)];simp only [CBu];cases zs with
 | nil=>
  rw [AsB (by rfl)];by_cases c:0<n;·rw [Ep c,GX (by omega),SE,show AwO F n []=n from if_pos c];rfl
  ·rw [Jh c,SE,show AwO F n []=0 from if_neg c];rfl
 | cons z zs=>
  have hz0:(z::zs).getD (0:Int).toNat 0=z:=rfl;have hl:(0:Int)<((z::zs).length:Int):=by simp
  rw [Ep hl,GX ⟨Int.le_refl _,hl⟩,hz0];by_cases c1:z > (F.size:Int);·rw [Ep c1,Jh (by omega),GX (by omega),SE,show AwO F n (z::zs)=(F.size:Int) by grind [AwO]];rfl
  ·rw [Jh c1];by_cases c2:z<n;·rw [Ep c2,GX (by omega),SE,show AwO F n (z::zs)=n by grind [AwO]];rfl
   ·rw [Jh c2,GX (by omega),SE,show AwO F n (z::zs)=z by grind [AwO]];rfl
theorem EBu {k:AA} {l:List Ah} {L:Bg} {r:Ah} (zs:List Int) (g:Good k l L.AX) (hl:l.length<50) (hn:r.DR<=9223372036854775807) (hr:(Awv L.AX.AU r).2=true) (z1:L.Bq.length<=1000) (z2:L.EN.length<=1000) (z3:L.CO.length<=1000):Xv L r zs=Xw L r zs:=by
 obtain ⟨m,hm⟩:∃ m,AY=m+1:=⟨AY - 1,rfl⟩
 obtain ⟨F,h1,h2⟩:=g.disk
 have EB:=Good.xK g.len.2 h2;obtain ⟨T,t1,t2⟩:=xM (k:=k) (r:=r) (i:=l.length) (Tv hr).2.1 (by omega)
 have hT:=congrArg List.length t2;rw [bs_len] at hT;have hz:(F++T).size=F.size+T.size:=ByteArray.size_append;have hlen:(l++[r]).length=l.length+1:=by rw [List.length_append];rfl
 have hat:(l++[r])[l.length]'(by omega)=r:=by simp
 have hall:Av7 (tx k 1 (l++[r]))=Av7 (tx k 1 l)++bs T:=by have e:=kX (k:=k) (l:=l++[r]) (i:=l.length) (by omega);rw [List.take_of_length_le (by omega),List.take_left,hat,<-t2] at e;exact e
 have hfl:=BBD (k:=k) (l:=l++[r]) (by omega);have hl1:=congrArg List.length hall;rw [List.length_append,bs_len,<-h2,bs_len] at hl1;have hact:=GAr (F:=F) (T:=T) (n:=(F.size:Int)) (by omega) (by omega);have hcut:=XBP (d:=dk F F.size) (E:=F++T) (T:=T) (n:=F.size) zs (by omega) (Nat.le_of_ble_eq_true rfl) hact (by omega) (by omega);have CD:=JBS (d:=dk F F.size) (T:=T) (z:=zs) (by omega) (Nat.le_of_ble_eq_true rfl) hact (MBS zs (by omega) (by omega));obtain ⟨q1,q2⟩:=YAs (F:=F++T) (n:=F.size) zs (by omega)
 unfold SE at hcut CD;generalize AwO (F++T) F.size zs=kk at hcut CD q1 q2;have Al:((F++T).extract 0 kk.toNat).size<=20000:=by rw [ByteArray.size_extract];omega
 generalize (F++T).extract 0 kk.toNat=X at hcut CD Al;have CE:Ih (dk X kk) ⟨#[98,111,111,107]⟩=(X,true):=HAr X _;rw [Xw,MAp,mk,g.cnt,YBC (by rw [g.key,g.Hu];omega) hn,AP,g.key,t1,h1,hcut,AP,YBP (by rw [h1];exact Nat.le_of_ble_eq_true rfl),AP];dsimp only;rw [Ar,SBB (by exact Nat.le_of_ble_eq_true rfl),AP,CE];dsimp only;rw [show (kV L.AX).BO=k from g.key,TBB (by rw [g.Hu];omega) (by omega),AP];rw [Xv,RAl,mk,g.cnt,ZA9 (by rw [g.key,g.Hu];omega),AP,g.key,t1,h1,CD,AP];dsimp only;rw [MBD (by exact Nat.le_of_ble_eq_true rfl),AP,CE];dsimp only;rw [NBD (by rw [g.Hu];omega) (by omega),AP];cases decide (((AwM k X).1.length:Int) > (l.length:Int));·rw [Aq,Aq,hm,aH];simp only [kY,mk];rw [KBS (by exact Nat.le_of_ble_eq_true rfl),AP,Tz (by show L.Bq.length<=_;omega) (by show L.EN.length<=_;omega),AP,Xg (by show L.Bq.length<=_;omega) (by show L.EN.length<=_;omega)];rfl
 ·rw [Ar,Ar,Ep (by omega),OBD (by omega),AP,hm,aH];simp only [kY,mk];rw [LBS (by exact Nat.le_of_ble_eq_true rfl),AP,Tz (by show L.Bq.length<=_;omega) (by show L.EN.length<=_;omega),AP,Xg (by show L.Bq.length<=_;omega) (by show L.EN.length<=_;omega)];rfl
theorem FBu {k:AA} {l:List Ah} {L:Bg} {r:Ah} (zs:List Int) (g:Good k l L.AX) (hl:l.length<50) (hn:r.DR<=9223372036854775807) (hr:(Awv L.AX.AU r).2=true) (z1:L.Bq.length<=1000) (z2:L.EN.length<=1000) (z3:L.CO.length<=1000) :
  ∃ l' b',Xv L r zs=some ⟨b',L.Bq++[10],L.EN++[⟨#[]⟩],L.Cm,bif decide (l'.length > l.length) then L.CO++[r] else L.CO⟩/\Down k l' b'/\(l'=l\/l'=l++[r]):=by
 obtain ⟨F,h1,h2⟩:=g.disk
 have EB:=Good.xK g.len.2 h2;have hF2:F.size=(Av7 (tx k 1 l)).length:=by grind [bs_len]
 obtain ⟨T,t1,t2⟩:=xM (k:=k) (r:=r) (i:=l.length) (Tv hr).2.1 (by omega)
 have hlen:(l++[r]).length=l.length+1:=by simp
 have hat:(l++[r])[l.length]'(by omega)=r:=by simp
 have hall:Av7 (tx k 1 (l++[r]))=Av7 (tx k 1 l)++bs T:=by have e:=kX (k:=k) (l:=l++[r]) (i:=l.length) (by omega);simp_all [List.take_of_length_le]
 have hfl:=BBD (k:=k) (l:=l++[r]) (by omega);have hl1:=congrArg List.length hall;rw [List.length_append,bs_len] at hl1;have hz:(F++T).size=F.size+T.size:=ByteArray.size_append;have hE:bs (F++T)=Av7 (tx k 1 (l++[r])):=by simp_all [Aq7]
 have hcut:=JBS (d:=dk F F.size) (T:=T) (z:=zs) (by omega) (Nat.le_of_ble_eq_true rfl) (GAr (by omega) (by omega)) (MBS zs (by omega) (by omega));obtain ⟨q1,q2⟩:=YAs (F:=F++T) (n:=F.size) zs (by omega)
 unfold SE at hcut;generalize AwO (F++T) F.size zs=kk at hcut q1 q2;obtain ⟨K,rfl⟩:∃ K:Nat,kk=(K:Int):=⟨kk.toNat,by omega⟩
 rw [BR] at hcut;have hX:bs ((F++T).extract 0 K)=(Av7 (tx k 1 (l++[r]))).take K:=by simp_all [Ls]
 have Al:((F++T).extract 0 K).size=K:=by grind [ByteArray.size_extract]
 generalize (F++T).extract 0 K=X at hcut hX Al;have hEl:(Av7 (tx k 1 (l++[r]))).length=F.size+T.size:=by omega
 have he2:(Dl DI (l++[r])).2=true:=by rw [gQ,g.book];simp_all [Dl]
 have hrb:=ZBA (k:=k) (file:=X) (l:=l++[r]) (K:=K) (by omega) (sH he2) (by omega) hX;obtain ⟨w1,w2,w3⟩:=UAq (tx k 1 (l++[r])) K
 have w4:=JBM (tx k 1 (l++[r])) l.length K (by simp [Avj]) (by simp_all [aI]);have w5:=QBA (tx k 1 (l++[r])) K;rw [Avj] at w2 w5;rw [aI] at w3;have CF:(l++[r]).take (whole (tx k 1 (l++[r])) K)=l\/(l++[r]).take (whole (tx k 1 (l++[r])) K)=l++[r]:=by grind [List.take_of_length_le]
 refine ⟨(l++[r]).take (whole (tx k 1 (l++[r])) K),⟨k,false,dk X X.size,DI,[],[],0⟩,?_,⟨g.Hu,?_,LBA _ he2,⟨X,rfl,by omega,l++[r],K,by omega,he2,by omega,hX,rfl⟩⟩,CF⟩
 ·obtain ⟨m,hm⟩:∃ m,AY=m+1:=⟨AY - 1,rfl⟩
  have CE:Ih (dk X (K:Int)) ⟨#[98,111,111,107]⟩=(X,true):=HAr X _;rw [Xv,RAl,mk,g.cnt,ZA9 (by rw [g.key,g.Hu];omega),AP,g.key,t1,h1,hcut,AP];dsimp only;rw [MBD (by exact Nat.le_of_ble_eq_true rfl),AP,CE];dsimp only;rw [NBD (by rw [g.Hu];omega) (by omega),AP,hrb];dsimp only;have hd:decide ((((l++[r]).take (whole (tx k 1 (l++[r])) K)).length:Int) > (l.length:Int))=decide (((l++[r]).take (whole (tx k 1 (l++[r])) K)).length > l.length):=by simp
  rw [hd,Al];cases decide (((l++[r]).take (whole (tx k 1 (l++[r])) K)).length > l.length);·rw [Aq,Aq,hm,aH];simp only [kY,mk];rw [KBS (by exact Nat.le_of_ble_eq_true rfl),AP,Tz (by grind) (by grind)];rfl
  ·rw [Ar,Ar,OBD (by omega),AP,hm,aH];simp only [kY,mk];rw [LBS (by exact Nat.le_of_ble_eq_true rfl),AP,Tz (by grind) (by grind)];rfl
 ·have h3:=g.len;grind
theorem NBS {b:Ap} {t:Int} (h:b.BD.length<=140737488351232) (ht:b.AU.AZ.length<=140737488351232):Vu b t=some (Lj b t):=by rw [Vu,LA1,mk,aC ht,AP,Lj];grind [NBR]
theorem OBS {b:Ap} (h:AsC b):Xx b=some b:=by have h1:=h.d;have h2:=h.s;have h3:=h.l;rw [Xx,MA1,mk,Ep (by omega),RA9 h.t,AP,Ep (by omega),Ep (by omega)]
theorem PBD {α:Type} {p:α->Bool} {l:List α} {i:Nat} (h:i<l.length):(l.take (i+1)).filter p=(l.take i).filter p++(bif p l[i] then [l[i]] else []):=by grind [take_at]
theorem IAt {α:Type} {p:α->Bool} {l:List α} {i:Nat}:((l.take i).filter p).length<=l.length:=
 Nat.le_trans (List.length_filter_le _ _) (by grind)
theorem GBu {α:Type} {f:α->α} {l:List α} {i:Nat} {d:α} (h:i<l.length):((l.take i).map f++l.drop i).getD i d=l[i]:=by grind
theorem map_set {α:Type} {f:α->α} {l:List α} {i:Nat} (h:i<l.length):((l.take i).map f++l.drop i).set i (f l[i])=(l.take (i+1)).map f++l.drop (i+1):=by
 have hz:((l.take i).map f).length=i:=by grind
 grind [List.set_append_right,drop_at,take_at]
theorem HBu {α:Type} {f:α->α} {l:List α} {i:Nat} (h:i<=l.length):((l.take i).map f++l.drop i).length=l.length:=by simp_all
theorem PBS (id:Int):∀ {ls:List CS},Arw ls->ls.filter (fun v=>decide (v.fId<id))++ls.filter (fun v=>decide (v.fId > id))=Rq ls id
 | [],_=>rfl
 | v::vs,h=>by
  obtain ⟨hs,h2⟩:=List.pairwise_cons.1 h
  have ih:=PBS id h2;rw [Rq] at ih ⊢;rw [List.filter_cons,List.filter_cons,List.filter_cons];rcases Int.lt_trichotomy v.fId id with a | a | a
  ·rw [if_pos (Ba a),if_neg (by rw [decide_eq_true_eq];omega),if_pos (by rw [bne_iff_ne];omega),List.cons_append,ih]
  ·rw [if_neg (by rw [decide_eq_true_eq];omega),if_neg (by rw [decide_eq_true_eq];omega),if_neg (by rw [bne_iff_ne];exact fun q=>q a),ih]
  ·have e:vs.filter (fun v=>decide (v.fId<id))=[]:=List.filter_eq_nil_iff.2 fun w hw=>by have:=hs w hw;rw [decide_eq_true_eq];omega
   rw [e,List.nil_append] at ih;rw [if_neg (by rw [decide_eq_true_eq];omega),if_pos (Ba a),if_pos (by rw [bne_iff_ne];omega),e,List.nil_append,ih]
theorem QBS {ls:List CS} {id n:Int} (hl:ls.length<=8) (hV:Arw ls):xO ls id n=some (bif decide (n>=0) then Am ls id n else Rq ls id):=by
 have two:∀ (o:List CS),o.length<=9->∀ m,Ue (m+ls.length+1) (.c1 ls id 0 (o++(ls.take 0).filter (fun v=>decide (v.fId > id))))=some (o++ls.filter fun v=>decide (v.fId > id)):=fun o ho=>AKj (L:=Ue) (fun i:Nat=>aJ.c1 ls id (i:Int) (o++(ls.take i).filter fun v=>decide (v.fId > id))) ls.length (fun m=>by
  simp [Ue,kZ,mk]) fun i hi m=>by
  have hw:=Fq (i:=i) (by omega);have hz:=IAt (p:=fun v:CS=>decide (v.fId > id)) (l:=ls) (i:=i);rw [Ue];simp only [kZ,mk,hw,BR,getD_at hi];grind [PBD]
 rw [xO,NA1];refine Wj (L:=Ue) (fun i:Nat=>aJ.c0 ls id n (i:Int) ((ls.take i).filter fun v=>decide (v.fId<id))) ls.length (ls.length+1) (by omega) (fun m=>?_) fun i hi m=>?_
 ·have hz:=IAt (p:=fun v:CS=>decide (v.fId<id)) (l:=ls) (i:=ls.length);rw [List.take_length] at hz;rw [Ue];simp only [kZ,mk];rw [Jh (by omega),List.take_length];cases decide (n>=0);·have h:=two (ls.filter fun v=>decide (v.fId<id)) (by omega) m;grind [PBS]
  ·have h:=two (ls.filter (fun v=>decide (v.fId<id))++[⟨id,n⟩]) (by grind) m;grind [ZBM]
 ·have hw:=Fq (i:=i) (by omega);have hz:=IAt (p:=fun v:CS=>decide (v.fId<id)) (l:=ls) (i:=i);rw [Ue];simp only [kZ,mk,hw,BR,getD_at hi];grind [PBD]
theorem JAt {b:Ap} {c:CV} {code leaf:Int} (h:AsC b) (hV:Arw b.BD) (hlf:leaf<=1000):Uf b c code leaf=some (Ij b c code leaf):=by
 have hs:=h.s;have ht:=h.t;have ho:=h.o;rw [Uf,OA1,mk,OBS h,AP,Ij,A8 (n:=b.CW+1) (by omega) (by omega)];cases code != 0
 ·rw [Aq,Aq];cases c.Au == 1
  ·rw [Aq,Aq];cases c.Au == 13
   ·rw [Aq,Aq];cases c.Au == 2
    ·rw [Aq,Aq];cases c.Au == 5
     ·rw [Aq,Aq];cases c.Au == 9;·rfl
      ·rw [Ar,Ar,QBS h.l hV];rfl
     ·rw [Ar,Ar,aC (by omega),AP,Va];cases C9 b.AU.AZ c.Ag with
      | none=>rfl
      | some x=>
       dsimp only;rw [Ar];by_cases g1:leaf>=0;·rw [A8 (by omega) (by omega),QBS h.l hV,Ba g1,Ba (by omega:leaf+1>=0)];cases x.Aj == 2 <;> cases decide (leaf<x.fNext) <;> rfl
       simp_all [D6]
    ·rw [Ar,Ar]
     have key:=Wj (L:=Vw) (r:=some (ku b (xP b.BP c.EJ))) (fun i:Nat=>aK.c1 (i:Int) c ⟨#[]⟩ false ⟨#[]⟩ 0 0 ⟨#[]⟩ 0 0 b.BO b.CZ b.AU.Bv b.AU.DU b.AU.BM b.AU.Dh b.AU.fCount b.CW [] [] [] [] b.Bc.Ak b.AU.AZ ((b.BP.take i).map (fun s=>⟨s.fId,s.QW || s.fId == c.EJ⟩)++b.BP.drop i) b.BD) b.BP.length 0 (by omega) (fun m=>by
      rw [Vw];simp only [lC,mk];rw [Jh (by simp),List.take_length,List.drop_length,List.append_nil];rfl) fun i hi m=>by
      have hw:=Fq (i:=i) (by omega);rw [Vw];simp only [lC,mk,hw,BR,GBu hi,HBu (Nat.le_of_lt hi)];grind [map_set]
     exact key
   ·rw [Ar,Ar]
    have key:=Wj (L:=Vw) (r:=some (ku b (delS b.BP c.EJ))) (fun i:Nat=>aK.c0 (i:Int) b c ⟨#[]⟩ false ⟨#[]⟩ 0 0 ⟨#[]⟩ 0 0 b.BO b.CZ b.AU.Bv b.AU.DU b.AU.BM b.AU.Dh b.AU.fCount b.CW ((b.BP.take i).filter fun s=>s.fId != c.EJ) [] [] [] [] b.Bc.Ak b.AU.AZ b.BP b.BD) b.BP.length 0 (by omega) (fun m=>by
     rw [Vw];simp only [lC,mk];rw [Jh (by omega),List.take_length];rfl) fun i hi m=>by
     have hw:=Fq (i:=i) (by omega);have hz:=IAt (p:=fun s:EG=>s.fId != c.EJ) (l:=b.BP) (i:=i);rw [Vw];grind [lC,BR,PBD]
    exact key
  grind
 rfl
theorem RBS {l:Bg} {e:DW} {w:Int} (hu:l.AX.CZ=false) (z1:l.Bq.length<=1000) (z2:l.EN.length<=1000):Ug l w e=some (AJl l 9 (tK 9)):=by rw [Ug,lD,mk,hu,Bool.not_false,Ar,Tz (by omega) (by omega)];rfl
theorem SBS {l l':Bg} {e:DW} {w code:Int} {s:AA} {r:Ah} (hu:l.AX.CZ=true) (hn:l.AX.AU.fCount<10000) (hp:PI l.AX e.BA=some ([r],code,s)) (hcut:e.Nr=true) (hc:Xv l r e.Lc=some l'):Ug l w e=some l':=by rw [Ug,lD,mk,hu,DN,Aq,Jh (by omega),hp,AP,hcut,Ar,AL (by rfl),AL (by rfl),show ([r],code,s).1.getD (0:Int).toNat (⟨0,⟨#[]⟩,0,⟨0,0,false,false,false,false,⟨#[]⟩,0⟩⟩:Ah)=r from rfl,hc];rfl
theorem TBS {l:Bg} {b b2:Ap} {d:List Ah} {e:DW} {w code leaf:Int} {s:AA} {y:List Ah} {n:Int} {m:Nat} (hn:(y.length:Int)<=n) (hc:Uf b e.BA code leaf=some b2) (z1:l.Bq.length<=1000) (z2:l.EN.length<=1000) (z4:l.Cm.length<=1000) :
  lF (m+1) (.c0 w code s leaf n b.BO b.CZ b.AU.Bv b.AU.DU b.AU.BM b.AU.Dh b.AU.fCount b.CW e y b.Bc.Ak b.AU.AZ b.BP b.BD l.Bq l.EN l.Cm d)=some ⟨b2,l.Bq++[code],l.EN++[s],bif e.BA.Au == 5 && code == 0 then l.Cm++[⟨e.BA.Ag,leaf,w⟩] else l.Cm,d⟩:=by
 have ht:∀ G,Vj ⟨b2,l.Bq,l.EN,G,d⟩ code s=some ⟨b2,l.Bq++[code],l.EN++[s],G,d⟩:=fun G=>Tz (l:=⟨b2,l.Bq,l.EN,G,d⟩) (show l.Bq.length<=1000000 by omega) (show l.EN.length<=1000000 by omega)
 rw [lF];simp only [SAl,mk,List.nil_append];rw [Jh (by omega)];show (Uf b e.BA code leaf).bind _=_;grind
theorem UBS {l:Bg} {e:DW} {w code leaf:Int} {s:AA} {b2:Ap} (hu:l.AX.CZ=true) (hn:l.AX.AU.fCount<10000) (hp:PI l.AX e.BA=some ([],code,s)) (hl:Vu l.AX e.BA.Ag=some leaf) (hc:Uf l.AX e.BA code leaf=some b2) (z1:l.Bq.length<=1000) (z2:l.EN.length<=1000) (z4:l.Cm.length<=1000) :
  Ug l w e=some ⟨b2,l.Bq++[code],l.EN++[s],bif e.BA.Au == 5 && code == 0 then l.Cm++[⟨e.BA.Ag,leaf,w⟩] else l.Cm,l.CO⟩:=by
 obtain ⟨m,hm⟩:∃ m,AY=m+1:=⟨AY - 1,rfl⟩
 have key:=TBS (l:=l) (d:=l.CO) (w:=w) (s:=s) (y:=[]) (n:=0) (m:=m) (Int.le_refl _) hc z1 z2 z4;simp_all [Ug,lD,mk,Jh]
theorem VBS {l:Bg} {e:DW} {w code leaf:Int} {s:AA} {r:Ah} {B:Bo} {D:BU} {b2:Ap} (hu:l.AX.CZ=true) (hn:l.AX.AU.fCount<10000) (hp:PI l.AX e.BA=some ([r],code,s)) (hcut:e.Nr=false) (hl:Vu l.AX e.BA.Ag=some leaf) (hw:aO l.AX.BO l.AX.Bc l.AX.AU.fCount r=some D) (hb:QL l.AX.AU r=some (B,true)) (hc:Uf ⟨l.AX.BO,l.AX.CZ,D,B,l.AX.BP,l.AX.BD,l.AX.CW⟩ e.BA code leaf=some b2) (z1:l.Bq.length<=1000) (z2:l.EN.length<=1000) (z3:l.CO.length<=1000) (z4:l.Cm.length<=1000) :
  Ug l w e=some ⟨b2,l.Bq++[code],l.EN++[s],bif e.BA.Au == 5 && code == 0 then l.Cm++[⟨e.BA.Ag,leaf,w⟩] else l.Cm,l.CO++[r]⟩:=by
 obtain ⟨m,hm⟩:∃ m,AY=m+1+1:=⟨AY - 2,rfl⟩
 have h1:AV (0+1)=1:=by rfl
 have key:=TBS (l:=l) (d:=l.CO++[r]) (w:=w) (s:=s) (y:=[r]) (n:=1) (m:=m) (Int.le_refl _) hc z1 z2 z4;have hd:Xu ⟨⟨l.AX.BO,l.AX.CZ,D,B,l.AX.BP,l.AX.BD,l.AX.CW⟩,l.Bq,l.EN,l.Cm,l.CO⟩ r=some ⟨⟨l.AX.BO,l.AX.CZ,D,B,l.AX.BP,l.AX.BD,l.AX.CW⟩,l.Bq,l.EN,l.Cm,l.CO++[r]⟩:=OBD (by grind);simp_all [Ug,lD,mk,Jh,lF,SAl,mk]
theorem QBD {a b:Bo} (h0:a.AZ.length<=140737488351232):lG a b=some (QM a b):=by
 rw [lG,PA1,mk,QM];by_cases hl:a.AZ.length=b.AZ.length
 ·have key:∀ (j i m:Nat),i+j=a.AZ.length->lH (m+j+1) (.c0 (i:Int) a b)=some (QX (a.AZ.drop i) (b.AZ.drop i)):=by
   intro j;induction j with
   | zero=>
    intro i m h;obtain rfl:i=a.AZ.length:=by omega
    rw [lH];simp only [TAl,mk];rw [AsB (by simp),List.drop_length,hl,List.drop_length];rfl
   | succ j ih=>
    intro i m h;have hi:i<a.AZ.length:=by omega
    have hi2:i<b.AZ.length:=by omega
    have e:AV ((i:Int)+1)=((i+1:Nat):Int):=by grind [A8]
    rw [show m+(j+1)+1=(m+j+1)+1 by omega,lH];simp only [TAl,mk,e,BR,getD_at hi,getD_at hi2,LBM,ih (i+1) m (by omega)];grind [drop_at,QX]
  obtain ⟨m,hm⟩:=gm (n:=a.AZ.length) (by omega)
  have hz:=key a.AZ.length 0 m (by omega);grind
 grind [MBM]
theorem WBS {b:Bo} {l:List Ah} (hb:b.AZ.length<=2932031007317) (hl:l.length<=140737488351232):xQ b l=some (Dl b l):=by
 have key:∀ (j i m:Nat) (b:Bo),i+j=l.length->b.AZ.length<=2932031007317->lI (m+j+1) (.c0 l (i:Int) ⟨#[]⟩ 0 0 ⟨#[]⟩ 0 b.Bv b.DU b.BM b.Dh b.fCount [] b.AZ)=some (Dl b (l.drop i)):=by
  intro j;induction j with
  | zero=>
   intro i m b h hb;obtain rfl:i=l.length:=by omega
   rw [lI];simp only [UAl,mk];rw [AsB (by simp),List.drop_length];rfl
  | succ j ih=>
   intro i m b h hb;have hi:i<l.length:=by omega
   have e:AV ((i:Int)+1)=((i+1:Nat):Int):=by grind [A8]
   rw [show m+(j+1)+1=(m+j+1)+1 by omega,lI];simp only [UAl,mk,e,BR,getD_at hi];rw [AL (by simp_all),AL (by simp_all),xR (by grind),AP,drop_at hi,Dl];cases h2:(Awv b l[i]).2;·rfl
   ·have h3:=xU h2;rw [AsB (by rfl),Ar];exact ih (i+1) m (Awv b l[i]).1 (by omega) (by omega)
 obtain ⟨m,hm⟩:=gm (n:=l.length) (by omega)
 rw [xQ,QA1,mk,RA9 hb,AP,hm];exact key l.length 0 m b (by omega) hb
theorem RBD {k:AA} {d:BU} (hk:k.size<=900000000) (hd:d.Ak.length<=140737488351232) (hf:∀ f ∈ d.Ak,f.fText.size<=140737488351232):aP k d=some (Aw5 k d):=by
 have hfs:(Ih d Fa).1.size<=140737488351232:=AMh hf;obtain ⟨r1,r2⟩:=DBM k (Ih d Fa).1
 have hl:=EBM k (Ih d Fa).1;rw [aP,RA1,mk,LAq,AP,Aw5];cases Ave d;·rfl
 rw [AsB (by rfl),show (⟨#[98,111,111,107]⟩:AA)=Fa from rfl,show (⟨#[98,111,111,107,43]⟩:AA)=nNew from rfl,MBD hd,AP,NBD hk hfs,AP,aG,AP,WBS (DJ _) (by omega),AP,BBA hd];cases (Dl DI (AwM k (Ih d Fa).1).1).2;·rfl
 grind
theorem IBu {b:Ap} (hl:b.BD.length<=140737488351232) (ht:b.AU.AZ.length<=140737488351232):xW b=some (Vh b):=by
 have key:∀ (j i m:Nat),i+j=b.BD.length->lJ (m+j+1) (.c0 (i:Int) b)=some (QY b j i):=by
  intro j;induction j with
  | zero=>
   intro i m hi;rw [lJ];simp only [VAl,mk];rw [AsB (by simp_all)];rfl
  | succ j ih=>
   intro i m hi;have hw:AV ((i:Int)+1)=((i+1:Nat):Int):=by grind [A8]
   have d1:decide ((i:Int)<(b.BD.length:Int))=true:=Ba (by omega);have d0:decide ((0:Int)<=(i:Int))=true:=Ba (by omega);rw [AwB m j,lJ];simp only [VAl,mk,aC ht,Ho,AP,d0,d1,Bool.and_self,Ar,BR,hw,ih (i+1) m (by omega),QY,Aql];grind [A8,BR]
 obtain ⟨m,hm⟩:=gm (n:=b.BD.length) (by omega)
 rw [xW,TA1,hm];exact key b.BD.length 0 m (Nat.zero_add _)
theorem JBu {b:Ap} (hd:b.Bc.Ak.length<=140737488351232) (hf:∀ f ∈ b.Bc.Ak,f.fText.size<=140737488351232) (ht:b.AU.AZ.length<=140737488351232) (hs:b.BP.length<=140737488351232) (hl:b.BD.length<=140737488351232):XAl b=some (O4 b):=by
 rw [XAl,UA1,mk,LAq,Ho,O4];simp only [AP,bne];cases hz:(b.BO.size:Int) == 32;·rfl
 have hk:b.BO.size<=900000000:=by grind
 obtain ⟨l1,l2⟩:=JAr b.BO b.Bc
 have key:∀ (j i m:Nat),i+j=b.BP.length->lK (m+j+1) (.c0 (i:Int) b)=some (Oa b j i && Xy b):=by
  intro j;induction j with
  | zero=>
   intro i m hi;rw [lK];simp only [WAl,mk];rw [AsB (by simp_all),Xy];simp only [aG,RBD hk hd hf,QBD ht,QBD (show (Aw5 b.BO b.Bc).1.AZ.length<=140737488351232 by omega),aQ ht,IBu hl ht,AP];cases b.CZ;·cases (b.BP.length:Int) == 0 <;> cases (b.BD.length:Int) == 0 <;> rfl
   ·cases (Aw5 b.BO b.Bc).2.2 <;> cases ((Aw5 b.BO b.Bc).2.1.length:Int) == 0 <;> cases G9 b.AU <;> cases QM (Aw5 b.BO b.Bc).1 b.AU <;> rfl
  | succ j ih=>
   intro i m hi;have hw:AV ((i:Int)+1)=((i+1:Nat):Int):=by grind [A8]
   have d1:decide ((i:Int)<(b.BP.length:Int))=true:=Ba (by omega);have d0:decide ((0:Int)<=(i:Int))=true:=Ba (by omega);rw [AwB m j,lK];simp only [WAl,mk,Ho,AP,d0,d1,Bool.and_self,Ar,BR,hw,ih (i+1) m (by omega),Oa,aU];cases Bl (b.BP.getD i ⟨0,false⟩).fId 1 b.CW;all_goals grind [A8,decide,BR]
 obtain ⟨m,hm⟩:=gm (n:=b.BP.length) (by omega)
 have h0:=key b.BP.length 0 m (Nat.zero_add _);grind
theorem KAt {b:Ap} (hd:b.Bc.Ak.length*40<=140737488351232) (hf:∀ f ∈ b.Bc.Ak,f.fText.size<=140737488351232) (ht:b.AU.AZ.length<=140737488351232) (hs:b.BP.length<=140737488351232) (hl:b.BD.length<=140737488351232) (hk:b.BO.size<=900000000):xX b=some (XV b):=by
 obtain ⟨l1,l2⟩:=JAr b.BO b.Bc
 rw [xX,VA1,mk,XV];simp only [JBu (b:=b) (by omega) hf ht hs hl,RBD hk (show b.Bc.Ak.length<=_ by omega) hf,HBA (d:=b.Bc) (l:=(Aw5 b.BO b.Bc).2.1) hd (by omega) (ZBP hf),AP];cases b.CZ
 ·cases O4 b;·rfl
  ·cases (Aw5 b.BO b.Bc).2.2;·rfl
   ·cases decide ((FT b.Bc (Aw5 b.BO b.Bc).2.1 0).2<((Aw5 b.BO b.Bc).2.1.length:Int)) <;> rfl
 ·rfl
theorem XBS {k:AA} {l:List Ah} {b:Ap} (h:Down k l b):∃ b',xX b=some (b',true)/\Good k l b'/\b'.BP=[]/\b'.BD=[]/\b'.CW=0/\b'.AU=(Dl DI l).1:=by
 obtain ⟨X,rfl,Al,l2,K,hl2,he2,hK,hX,hl⟩:=h.box
 have Hc:X.size=K:=by grind [bs_len]
 have hs2:=sH he2;have hm:=IBM (k:=k) (F:=X) (n:=X.size) hl2 hs2 he2 hK hX (by omega) (by omega);obtain ⟨w1,w2,w3⟩:=UAq (tx k 1 l2) K
 rw [aI] at w3;have hbk:Dl DI l=((Dl DI l).1,true):=Prod.ext rfl h.book;have hpre:Av7 (tx k 1 l2)=Av7 (tx k 1 (l2.take (whole (tx k 1 l2) K)))++Av7 (tx k (1+((l2.take (whole (tx k 1 l2) K)).length:Int)) (l2.drop (whole (tx k 1 l2) K))):=by grind [TBL,YBA,List.take_append_drop]
 rw [<-hl] at hm w3 hpre;have hok:O4 ⟨k,false,dk X X.size,DI,[],[],0⟩=true:=NBM (b:=⟨k,false,dk X X.size,DI,[],[],0⟩) h.Hu (QD (by omega) (by omega));have mk:∀ G:AA,bs G=Av7 (tx k 1 l)->Good k l ⟨k,true,dk G G.size,(Dl DI l).1,[],[],0⟩:=fun G hG=>⟨h.Hu,rfl,rfl,⟨G,rfl,hG⟩,h.len,hbk,⟨DJ _,rfl⟩,⟨Int.le_refl _,by simp⟩,⟨rfl,DJ _⟩⟩
 have hR:=KAt (b:=⟨k,false,dk X X.size,DI,[],[],0⟩) (Nat.le_of_ble_eq_true rfl) (fun f hf=>by
  have hf:f ∈ [(⟨Fa,X,(X.size:Int)⟩:BQ)]:=hf;grind) (DJ _) (DJ _) (DJ _) (by show k.size<=_;rw [h.Hu];omega)
 rw [hR,XV,hok];dsimp only;rw [hm];dsimp only;by_cases hc:((Av7 (tx k 1 l)).length:Int)=(X.size:Int)
 ·rw [beq_iff_eq.2 hc,Ar];refine ⟨_,rfl,mk X ?_,rfl,rfl,rfl,rfl⟩;grind [List.take_of_length_le]
 ·rw [beq_eq_false_iff_ne.2 hc,Aq];have hG:bs (X.extract 0 (Av7 (tx k 1 l)).length)=Av7 (tx k 1 l):=by grind [Ls]
  have Ga:(X.extract 0 (Av7 (tx k 1 l)).length).size=(Av7 (tx k 1 l)).length:=by grind [bs_len]
  generalize X.extract 0 (Av7 (tx k 1 l)).length=G at hG Ga;rw [LBn (by omega) (by omega) (by omega)];exact ⟨_,rfl,mk G hG,rfl,rfl,rfl,rfl⟩
structure ATw (b:Ap):Prop where
 z:AsC b
 f:∀ f ∈ b.Bc.Ak,f.fText.size<=140737488351232
 k:b.BO.size<=900000000
 n:b.Bc.Ak.length*40<=140737488351232
theorem AzZ.bx {k:AA} {l:List Ah} {L:Bg} (h:AzZ k l L):ATw L.AX:=by
 rcases h.box with g | d
 ·exact ⟨g.iL,fun f hf=>by have:=g.small.2 f hf;omega,by rw [g.key,g.Hu];omega,by have:=g.small.1;omega⟩
 ·obtain ⟨h1,h2,h3,h4,h5,h6,h7,h8⟩:=AzZ.down d
  exact ⟨⟨by have:=h7.1;omega,by rw [h4];exact DJ _,by simp_all,by simp_all,by omega⟩,fun f hf=>by have:=h7.2 f hf;omega,by rw [h6,d.Hu];omega,by have:=h7.1;omega⟩
theorem LAt {k:AA} {l:List Ah} {L:Bg} {e:DW} (h:AzZ k l L) (he:Nk e) (hn:L.Bq.length<45):∃ l' L',RH L (L.Bq.length:Int) e=some L'/\Step k e l L l' L':=by
 obtain ⟨f1,f2,f3⟩:=h.few
 have ho:=h.opn;have hd:L.CO.length<=1000:=by rw [h.done];omega
 rw [RH,YAl,mk];cases hr:e.JY
 ·rw [Bool.not_false,Ar];have one:∀ x:Option Bg,(x.bind fun r=>some r)=x:=fun x=>by simp
  rw [one];rcases h.box with g | d
  ·have hq:PI L.AX e.BA=some (Fb Ar6 L.AX e.BA):=IBS g.pb (he.call hr) fun h v _=>HBS (he.2 h)
   have hlf:=GBR g.Jk g.Kt.1 e.BA.Ag;have hcn:=g.cnt;have hll:=g.len.2;have hl2:Vu L.AX e.BA.Ag=some (Lj L.AX e.BA.Ag):=NBS (by have:=g.Kt.2;omega) (by have:=g.Xz;omega);rcases XU (tk:=Ar6) (c:=e.BA) g with h0 | ⟨r,h1,h2⟩
   ·have hq2:PI L.AX e.BA=some ([],(Fb Ar6 L.AX e.BA).2.1,(Fb Ar6 L.AX e.BA).2.2):=by grind
    refine ⟨_,_,?_,Step.call g hr (.inr h0)⟩;rw [UBS g.up (by omega) hq2 hl2 (JAt g.iL g.lives.2 (by omega)) (by omega) (by omega) (by omega),Nc,h0,List.append_nil];rfl
   ·have hq2:PI L.AX e.BA=some ([r],(Fb Ar6 L.AX e.BA).2.1,(Fb Ar6 L.AX e.BA).2.2):=by grind
    cases hc:e.Nr
    ·have e0:=((ZAs g (by omega) h2.ent).2 [] (fun v hv=>by cases hv) List.Pairwise.nil).iL;have e1:AsC (Gt L.AX r):=⟨e0.d,e0.t,g.MP.1,g.Kt.2,g.opn⟩
     have hE:QL L.AX.AU r=some ((Awv L.AX.AU r).1,true):=by rw [xR (by have:=g.Xz;omega),<-h2.ent]
     have hcar:Uf (Gt L.AX r) e.BA (Fb Ar6 L.AX e.BA).2.1 (Lj L.AX e.BA.Ag)=some (Nc L.AX e.BA (Fb Ar6 L.AX e.BA)):=by rw [Nc,h1];exact JAt e1 g.lives.2 (by omega)
     refine ⟨_,_,?_,Step.call g hr (.inl hc)⟩;rw [VBS g.up (by omega) hq2 hc hl2 (JBA (by rw [g.key,g.Hu];omega) (by have:=g.small.1;omega)) hE hcar (by omega) (by omega) (by omega) (by omega),h1];rfl
    ·obtain ⟨l',b',c1,c2,c3⟩:=FBu (r:=r) e.Lc g (by omega) h2.num h2.ent (by omega) (by omega) hd
     exact ⟨l',_,SBS g.up (by omega) hq2 hc c1,Step.cut g hr r h1 b' l' c2 c3⟩
  ·obtain ⟨h1,h2,h3,h4,h5,h6,h7,h8⟩:=AzZ.down d
   exact ⟨l,_,RBS h1 (by omega) (by omega),Step.down d hr⟩
 ·have x:=h.bx;have z:=x.z;have zt:=z.t;have zs:=z.s;have Avh:=z.l;have hR:=KAt x.n x.f (by omega) (by omega) (by omega) x.k;rw [DN,Aq,hR,AP];rcases h.box with g | d
  ·refine ⟨l,_,?_,Step.stay g hr⟩;rw [XV,g.up,Bool.true_or,Ar];dsimp only;rw [Bool.not_false,Ar,Tz (by omega) (by omega)];rfl
  ·obtain ⟨b',r1,r2,r3,r4,r5,_⟩:=XBS d
   rw [hR] at r1;injection r1 with r1
   refine ⟨l,_,?_,Step.up d hr b' r2 r3 r4 r5⟩;rw [r1,DN,Aq,Tz (by grind) (by grind)];rfl
theorem KBu {k:AA} {l:List Ah} {L:Bg} {e:DW} (h:AzZ k l L) (he:Nk e) (hn:L.Bq.length<45):RH L (L.Bq.length:Int) e=(bif e.JY then X0 L else Ar0 L e (L.Bq.length:Int)):=by
 obtain ⟨f1,f2,f3⟩:=h.few
 have ho:=h.opn;have hd:L.CO.length<=1000:=by rw [h.done];omega
 rw [RH,YAl,mk];cases hr:e.JY
 ·rw [Aq,Bool.not_false,Ar];have one:∀ x:Option Bg,(x.bind fun r=>some r)=x:=fun x=>by cases x <;> rfl
  rw [one];rcases h.box with g | d
  ·have hp:=g.plan (by omega) (by omega) (he.call hr) he.2;have hq:PI L.AX e.BA=some (Fb Ar6 L.AX e.BA):=IBS g.pb (he.call hr) fun h v _=>HBS (he.2 h)
   have hlf:=GBR g.Jk g.Kt.1 e.BA.Ag;have hcn:=g.cnt;have hll:=g.len.2;have hl2:Vu L.AX e.BA.Ag=some (Lj L.AX e.BA.Ag):=NBS (by have:=g.Kt.2;omega) (by have:=g.Xz;omega);rcases XU (tk:=Ar6) (c:=e.BA) g with h0 | ⟨r,h1,h2⟩
   ·have hp2:Avi L.AX e.BA=some ([],(Fb Ar6 L.AX e.BA).2.1,(Fb Ar6 L.AX e.BA).2.2):=by rw [hp,<-h0]
    have hq2:PI L.AX e.BA=some ([],(Fb Ar6 L.AX e.BA).2.1,(Fb Ar6 L.AX e.BA).2.2):=by rw [hq,<-h0]
    rw [HBR hp2 (BBQ g _) (g.carry (by omega)) (by omega) (by omega) (by omega),UBS g.up (by omega) hq2 hl2 (JAt g.iL g.lives.2 (by omega)) (by omega) (by omega) (by omega)]
   ·have hp2:Avi L.AX e.BA=some ([r],(Fb Ar6 L.AX e.BA).2.1,(Fb Ar6 L.AX e.BA).2.2):=by rw [hp,<-h1]
    have hq2:PI L.AX e.BA=some ([r],(Fb Ar6 L.AX e.BA).2.1,(Fb Ar6 L.AX e.BA).2.2):=by rw [hq,<-h1]
    cases hc:e.Nr
    ·have hb:Vx L.AX r=some (true,Gt L.AX r):=by rw [VBP (by rw [g.key,g.Hu];omega) (by have:=g.small.1;omega) (by have:=g.Xz;omega) h2.num,(ZAs g (by omega) h2.ent).1]
     have e0:=((ZAs g (by omega) h2.ent).2 [] (fun v hv=>by cases hv) List.Pairwise.nil).iL;have e1:AsC (Gt L.AX r):=⟨e0.d,e0.t,g.MP.1,g.Kt.2,g.opn⟩
     have hE:QL L.AX.AU r=some ((Awv L.AX.AU r).1,true):=by rw [xR (by have:=g.Xz;omega),<-h2.ent]
     rw [PBq hp2 hc (BBQ g _) hb (JBQ e1 g.ADh.2 g.lives.2 (by omega)) (by omega) (by omega) (by omega) (by omega),VBS g.up (by omega) hq2 hc hl2 (JBA (by rw [g.key,g.Hu];omega) (by have:=g.small.1;omega)) hE (JAt e1 g.lives.2 (by omega)) (by omega) (by omega) (by omega) (by omega)];rfl
    ·obtain ⟨l',b',c1,c2,c3,_⟩:=RBq (r:=r) e.Lc g (by omega) h2.num h2.ent (by omega) (by omega) hd
     rw [VBq hp2 hc c1,SBS g.up (by omega) hq2 hc ((EBu e.Lc g (by omega) h2.num h2.ent (by omega) (by omega) hd).trans c1)]
  ·obtain ⟨h1,h2,h3,h4,h5,h6,h7,h8⟩:=AzZ.down d
   have hlf:ArG L.AX e.BA.Ag=some (-1):=by rw [ZBB (by rw [h2];exact DJ _) (by rw [h4];exact DJ _),Lj,h4];rfl
   rw [HBR (OBs d _) hlf (OBP h.bx.z rfl) (by omega) (by omega) (by omega),RBS h1 (by omega) (by omega)];cases e.BA.Au == 5 <;> rfl
 ·have x:=h.bx;have z:=x.z;have zt:=z.t;have zs:=z.s;have Avh:=z.l;rw [Ar,DN,Aq,KAt x.n x.f (by omega) (by omega) (by omega) x.k,X0,QA4,mk,SBq x.n x.f (by omega) (by omega) (by omega) x.k,AP,AP];cases (XV L.AX).2;·rw [Bool.not_false,Ar,Ar,Tz (by omega) (by omega),Xg (by omega) (by omega)]
  ·rw [DN,Aq,Aq,Tz (by show L.Bq.length<=_;omega) (by show L.EN.length<=_;omega),Xg (by show L.Bq.length<=_;omega) (by show L.EN.length<=_;omega)]
theorem LBu (k w:AA):xY k w=some (LC k w):=by
 rw [xY,XA3,mk,LC,bne];cases hz:(k.size:Int) == 32;·rfl
 rw [beq_iff_eq] at hz;by_cases hw:(w.size:Int) > 20;·rw [Ba hw];rfl
 rw [D6 hw,Ar2 (s:=w) (by omega),lM];simp only [AP,VBP (b:=⟨k,true,⟨[]⟩,DI,[],[],0⟩) (r:=⟨1,EM w,0,⟨0,0,false,false,false,false,⟨#[]⟩,0⟩⟩) (show k.size<=900000000 by omega) (DJ _) (DJ _) (show (0:Int)<=9223372036854775807 by decide)];have hb:Av6 k 0 (AsD w)=([⟨1,GZ,(frameT (Ti k 1 (AwX (AsD w)).1).1).1,⟨#[]⟩⟩,⟨2,GZ,⟨#[]⟩,⟨#[]⟩⟩],true):=by rw [Av6,show (AwX (AsD w)).2=true by rw [xZ]];rfl
 have h2:(FT ⟨[]⟩ (Av6 k 0 (AsD w)).1 0).2=2:=by rw [hb];exact FBl (Nat.le_trans (IBL _) (by decide))
 rw [xg];have e1:=KBL w;have e2:(Av6 k 0 (AsD w)).2=true:=by rw [hb]
 have e3:(Av6 k 0 (AsD w)).1.length=2:=by rw [hb];rfl
 simp only [show (⟨1,EM w,0,⟨0,0,false,false,false,false,⟨#[]⟩,0⟩⟩:Ah)=AsD w from rfl,show DI.fCount=0 from rfl,e1,e2,e3,h2];rfl
theorem MBu (e:DW):xk e=some (Ru e):=by simp only [xk,ZA3,mk,KBN,AP,Ru];show (bif OL e.BA then _ else bif e.JY then bif iM e.BA then _ else _ else _)=_;cases decide ((e.Lc.length:Int)<=30) <;> cases OL e.BA <;> cases e.JY <;> cases iM e.BA <;> rfl
theorem NBu {es:List DW} {a0:AA} {a1:Bool} {a2:AA} {a3 a4:Int} {a5:AA} {a6 a7:Int} {c0:List BQ} {c1:List Af} {c2:List EG} {c3:List CS} {c4:List Int} {c5:List AA} {c6:List D8} {c7:List Ah} (hz:es.length<=1000):∀ (j i m:Nat) (l:Bg),i+j=es.length->
  Vy (m+j+1) (.c1 es (es.length:Int) (i:Int) a0 a1 a2 a3 a4 a5 a6 a7 l.AX.BO l.AX.CZ l.AX.AU.Bv l.AX.AU.DU l.AX.AU.BM l.AX.AU.Dh l.AX.AU.fCount l.AX.CW c0 c1 c2 c3 c4 c5 c6 c7 l.AX.Bc.Ak l.AX.AU.AZ l.AX.BP l.AX.BD l.Bq l.EN l.Cm l.CO)=(X3 (es.drop i) (i:Int) l).bind fun l=>some (l,true):=by
 intro j;induction j with
 | zero=>
  intro i m l hi;rw [Vy];simp only [lN,mk];rw [Jh (by omega),List.drop_of_length_le (by omega)];rfl
 | succ j ih=>
  intro i m l hi;have hlt:i<es.length:=by omega
  have hw:=Fq (i:=i) (by omega);rw [AwB m j,Vy,drop_at hlt,X3];simp only [lN,mk,hw,BR,getD_at hlt];rw [Ep (by omega),GX (by omega)];cases es[i].JY
  ·rw [Aq,Aq];show (Ar0 l es[i] (i:Int)).bind _=_;cases Ar0 l es[i] (i:Int) with
   | none=>rfl
   | some l2=>exact ih (i+1) m l2 (by omega)
  ·rw [Ar,Ar];show (X0 l).bind _=_;cases X0 l with
   | none=>rfl
   | some l2=>exact ih (i+1) m l2 (by omega)
def MAt:Bg:=⟨⟨⟨#[]⟩,false,⟨[]⟩,⟨⟨#[]⟩,0,[],0,⟨#[]⟩,0⟩,[],[],0⟩,[],[],[],[]⟩
theorem OBu {w:AA} {es:List DW} {b:Ap} {a0:AA} {a1:Bool} {a2:AA} {a3 a4:Int} {a5:AA} {a6 a7:Int} {c0:List BQ} {c1:List Af} {c2:List EG} {c3:List CS} {c4:List Int} {c5:List AA} {c6:List D8} {c7:List Ah} (hz:es.length<=1000) (hw:w.size<=1000):∀ (j i m:Nat),i+j=es.length->
  Vy (m+es.length+1+j+1) (.c0 w es es (es.length:Int) (i:Int) a0 a1 a2 a3 a4 a5 a6 a7 b.BO b.CZ b.AU.Bv b.AU.DU b.AU.BM b.AU.Dh b.AU.fCount b.CW c0 c1 c2 c3 c4 c5 c6 c7 b.Bc.Ak b.AU.AZ b.BP b.BD)=bif (es.drop i).all Ru then (X3 es 0 ⟨b,[],[],[],[AsD w]⟩).bind fun l=>some (l,true) else some (MAt,false):=by
 intro j;induction j with
 | zero=>
  intro i m hi;rw [Vy];simp only [lN,mk];rw [Jh (by omega),List.drop_of_length_le (by omega),List.all_nil,Ar,Ar2 (by omega),AP];have h:=NBu (es:=es) (a0:=a0) (a1:=a1) (a2:=a2) (a3:=a3) (a4:=a4) (a5:=a5) (a6:=a6) (a7:=a7) (c0:=c0) (c1:=c1) (c2:=c2) (c3:=c3) (c4:=c4) (c5:=c5) (c6:=c6) (c7:=c7) hz es.length 0 m ⟨b,[],[],[],[AsD w]⟩ (Nat.zero_add _);rw [List.drop_zero] at h;exact h
 | succ j ih=>
  intro i m hi;have hlt:i<es.length:=by omega
  have hw:=Fq (i:=i) (by omega);rw [show m+es.length+1+(j+1)+1=(m+es.length+1+j+1)+1 from rfl,Vy,drop_at hlt,List.all_cons];simp only [lN,mk,hw,BR,getD_at hlt];rw [Ep (by omega),GX (by omega),MBu,AP];cases Ru es[i];·rfl
  ·rw [DN,Aq,Bool.true_and];exact ih (i+1) m (by omega)
theorem PBu {k w:AA} {es:List DW} (hz:es.length<=1000) (hw:w.size<=1000):xq k w es=bif (LC k w).2 && decide (es.length<=40) then (bif es.all Ru then (X3 es 0 (EY k w)).bind fun l=>some (l,true) else some (MAt,false)) else some (MAt,false):=by
 rw [xq,UA8,mk,LBu,AP];cases (LC k w).2;·rfl
 ·rw [DN,Aq,Bool.true_and];by_cases h:es.length<=40
  ·rw [Jh (by omega),Ba h,Ar];obtain ⟨m,hm⟩:∃ m,AY=m+es.length+1+es.length+1:=⟨AY - (es.length+1+es.length+1),by have:=FM (n:=es.length+1+es.length+1) (by omega);omega⟩
   rw [hm];exact OBu hz hw es.length 0 m (Nat.zero_add _)
  ·rw [Ep (by omega),D6 h];rfl
theorem YBS {k w:AA} (hw:w.size<=1000):aV k w=some (bif (LC k w).2 then (EY k w,true) else (MAt,false)):=by
 rw [aV,BAx,mk,GBl,AP];cases (LC k w).2;·rfl
 ·rw [DN,Aq,LJ (by omega)];rfl
noncomputable def Ui:List DW->Int->Bg->Option Bg
 | [],_,l=>some l
 | e::es,i,l=>(RH l i e).bind (Ui es (i+1))
theorem QBu {k:AA} {es:List DW} {a0:AA} {a1:Bool} {a2:AA} {a3 a4:Int} {a5:AA} {a6 a7:Int} {c0:List BQ} {c1:List Af} {c2:List EG} {c3:List CS} {c4:List Int} {c5:List AA} {c6:List D8} {c7:List Ah} (hz:es.length<=40) (he:∀ e ∈ es,Nk e):∀ (j i m:Nat) (r:List Ah) (l:Bg),i+j=es.length->AzZ k r l->l.Bq.length=i->
  Vz (m+j+1) (.c1 es (i:Int) a0 a1 a2 a3 a4 a5 a6 a7 l.AX.BO l.AX.CZ l.AX.AU.Bv l.AX.AU.DU l.AX.AU.BM l.AX.AU.Dh l.AX.AU.fCount l.AX.CW c0 c1 c2 c3 c4 c5 c6 c7 l.AX.Bc.Ak l.AX.AU.AZ l.AX.BP l.AX.BD l.Bq l.EN l.Cm l.CO)=(Ui (es.drop i) (i:Int) l).bind fun l=>some (l,true):=by
 intro j;induction j with
 | zero=>
  intro i m r l hi h hc;rw [Vz];simp only [lQ,mk];rw [Jh (by omega),List.drop_of_length_le (by omega)];show (Xx l.AX).bind _=_;rw [OBS h.bx.z];rfl
 | succ j ih=>
  intro i m r l hi h hc;have hlt:i<es.length:=by omega
  have hw:=Fq (i:=i) (by omega);obtain ⟨r1,l1,s1,s2⟩:=LAt h (he _ (List.getElem_mem hlt)) (by omega)
  rw [hc] at s1;obtain ⟨g1,g2⟩:=BAt h (by omega) s2
  rw [AwB,Vz,drop_at hlt,Ui,s1];simp only [lQ,mk,hw,BR,getD_at hlt];rw [Ep (by omega),GX (by omega)];show (RH l (i:Int) es[i]).bind _=_;rw [s1];exact ih (i+1) m r1 l1 (by omega) g1 (by omega)
theorem NAt {k w:AA} (hk:k.size=32) (hw:w.size<=20):AzZ k [AsD w] (EY k w):=by
 obtain ⟨s,_,h3,_⟩:=CBQ hk hw
 exact ⟨.inl s.good,rfl,⟨Nat.le_refl _,rfl,Nat.le_refl _⟩,by omega⟩
theorem ZBS {k w:AA} {es:List DW} (hk:k.size=32) (hw:w.size<=20) (hz:es.length<=40) (he:∀ e ∈ es,Nk e):lS k w es=(Ui es 0 (EY k w)).bind fun l=>some (l,true):=by
 have hn:(LC k w).2=true:=(sG hk hw).1
 have key:=Wj (L:=Vz) (r:=(Ui es 0 (EY k w)).bind fun l=>some (l,true)) (fun i:Nat=>lU.c0 es true (i:Int) ⟨#[]⟩ false ⟨#[]⟩ 0 0 ⟨#[]⟩ 0 0 (EY k w).AX.BO (EY k w).AX.CZ (EY k w).AX.AU.Bv (EY k w).AX.AU.DU (EY k w).AX.AU.BM (EY k w).AX.AU.Dh (EY k w).AX.AU.fCount (EY k w).AX.CW [] [] [] [] [] [] [] [] (EY k w).AX.Bc.Ak (EY k w).AX.AU.AZ (EY k w).AX.BP (EY k w).AX.BD (EY k w).Bq (EY k w).EN (EY k w).Cm (EY k w).CO) es.length (es.length+1) (by omega) (fun m=>by
  rw [Vz];simp only [lQ,mk];rw [Jh (by omega),DN,Aq];exact QBu hz he es.length 0 m [AsD w] (EY k w) (Nat.zero_add _) (NAt hk hw) rfl) fun i hi m=>by
  have hw:=Fq (i:=i) (by omega);rw [Vz];simp only [lQ,mk,hw,BR,getD_at hi];rw [Ep (by omega),Ar,Ep (by omega),GX (by omega),IBq,AP,(he _ (List.getElem_mem hi)).1]
 rw [lS,YA8,mk,YBS (by omega),hn,Ar,AP];omega
structure vU (r:PO):Prop where
 k:r.BO.size=32
 w:r.Bv.size<=20
 n:r.wG.length<=39
 e:∀ e ∈ r.wG,Nk e
theorem RBu {K w:AA} {x1 x2:AA} {x3:List DW} {n:Nat} (hK:K.size=32) (hw:w.size<=20) (hn:n<=39):∀ (j i m:Nat) (ci h:Int) (es:List DW) (r:List Ah) (l:Bg),i+j=n->0<=ci->es.length=i->(∀ e ∈ es,Nk e)->AzZ K r l->l.Bq.length=i->
  Ok (X4 (m+j+1) (.c0 (n:Int) (i:Int) ci h x1 x2 K w l.AX.BO l.AX.CZ l.AX.AU.Bv l.AX.AU.DU l.AX.AU.BM l.AX.AU.Dh l.AX.AU.fCount l.AX.CW x3 es l.AX.Bc.Ak l.AX.AU.AZ l.AX.BP l.AX.BD l.Bq l.EN l.Cm l.CO)) fun r=>vU r.1/\Hg r.2:=by
 intro j;induction j with
 | zero=>
  intro i m ci h es r l hi hc hl he g hg;rw [X4];simp only [ZAl,mk];rw [Jh (by omega)];exact Ok.ret ⟨⟨hK,hw,by simp_all,he⟩,hc⟩
 | succ j ih=>
  intro i m ci h es r l hi hc hl he g hg;have hup:=Fq (i:=i) (by omega);rw [AwB,X4];simp only [ZAl,mk,hup];rw [Ep (by omega)];have one:∀ (c:DZ) (e:DW),Hg c->Nk e->Ok ((RH l (i:Int) e).bind fun r2=>bif decide ((es.length+1)*96<=140737488355328) then X4 (m+j+1) (.c0 (n:Int) ((i+1:Nat):Int) c.fI c.AyA x1 x2 K w r2.AX.BO r2.AX.CZ r2.AX.AU.Bv r2.AX.AU.DU r2.AX.AU.BM r2.AX.AU.Dh r2.AX.AU.fCount r2.AX.CW x3 (es++[e]) r2.AX.Bc.Ak r2.AX.AU.AZ r2.AX.BP r2.AX.BD r2.Bq r2.EN r2.Cm r2.CO) else none) fun r=>vU r.1/\Hg r.2:=by
   intro c e hc he1;obtain ⟨r1,l1,s3,s2⟩:=LAt g he1 (by omega)
   obtain ⟨g1,g2⟩:=BAt g (by omega) s2
   rw [hg] at s3;rw [s3,AP,Ep (by omega)];refine ih (i+1) m _ _ _ r1 l1 (by omega) hc (by simp_all) (fun x hx=>?_) g1 (by omega);grind
  refine Ok.bind (XBs (c:=⟨(),ci,h⟩) (l:=l) hc g.db) fun a ha=>?_
  obtain ⟨ev,Hk,L⟩:=a
  obtain ⟨a1,a2,a3⟩:=ha
  grind [WBs,KBR]
theorem SBu {c:DZ} (hc:Hg c):Ok (AFW c ()) fun r=>vU r.1/\Hg r.2:=by
 have hl:KI.length<=140737488351232:=PC.hl;have e39:(39:Int)=((39:Nat):Int):=rfl;have h8:AV (8+AV ((KI.length:Int).tdiv 12))=((8+KI.length / 12:Nat):Int):=by grind [A8]
 rw [AFW,WA1,mk,h8];refine Ok.bind (OM hc) fun a ha=>Ok.bind (KBh (by omega) (by omega)) fun K hK=>?_
 have hK2:K.size=32:=by omega
 have hw:(⟨#[119]⟩:AA).size<=20:=by decide
 rw [YBS (by decide),(sG hK2 hw).1,Ar,AP];have go:∀ n:Nat,n<=39->Ok (X4 AY (.c0 (n:Int) ((0:Nat):Int) a.2.fI a.2.AyA ⟨#[]⟩ ⟨#[]⟩ K ⟨#[119]⟩ (EY K ⟨#[119]⟩).AX.BO (EY K ⟨#[119]⟩).AX.CZ (EY K ⟨#[119]⟩).AX.AU.Bv (EY K ⟨#[119]⟩).AX.AU.DU (EY K ⟨#[119]⟩).AX.AU.BM (EY K ⟨#[119]⟩).AX.AU.Dh (EY K ⟨#[119]⟩).AX.AU.fCount (EY K ⟨#[119]⟩).AX.CW [] [] (EY K ⟨#[119]⟩).AX.Bc.Ak (EY K ⟨#[119]⟩).AX.AU.AZ (EY K ⟨#[119]⟩).AX.BP (EY K ⟨#[119]⟩).AX.BD (EY K ⟨#[119]⟩).Bq (EY K ⟨#[119]⟩).EN (EY K ⟨#[119]⟩).Cm (EY K ⟨#[119]⟩).CO)) fun r=>vU r.1/\Hg r.2:=fun n hn=>by
  obtain ⟨m,hm⟩:=gm (n:=n) (by omega)
  rw [hm];exact RBu hK2 hw hn n 0 m _ _ [] [AsD ⟨#[119]⟩] _ (Nat.zero_add _) ha.2 rfl (fun e h=>by cases h) (NAt hK2 hw) rfl
 exact Ok.cond (fun _=>go 39 (Nat.le_refl _)) fun h=>go _ (by grind)
theorem TBu {a:List Ah} (h:a.length<=140737488351232):RAp a a=some true:=by
 have key:∀ (j i m:Nat),i+j=a.length->lV (m+j+1) (.c0 a a (i:Int))=some true:=by
  intro j;induction j with
  | zero=>
   simp_all [lV,QAp,mk]
  | succ j ih=>
   intro i m hi;have hw:AV ((i:Int)+1)=((i+1:Nat):Int):=by grind [A8]
   rw [AwB m j,lV];simp only [QAp,mk,hw,ih (i+1) m (by omega),beq_self_eq_true,Bool.and_self,DN,Aq];grind
 obtain ⟨m,hm⟩:=gm (n:=a.length) (by omega)
 rw [RAp,ZA8,mk,bne_self_eq_false,Aq,hm];exact key a.length 0 m (Nat.zero_add _)
theorem UBu {a:BU} (h:a.Ak.length<=140737488351232):TAp a a=some true:=by
 rw [TAp,AMx,mk,AsB (bne_self_eq_false _)];refine Wj (L:=lW) (fun i:Nat=>lX.c0 (i:Int) a a) a.Ak.length 0 (by omega) (fun m=>?_) fun i hi m=>?_
 ·rw [lW];simp only [SAp,mk];rw [Jh (by omega)]
 ·rw [lW];simp only [SAp,mk,Fq (i:=i) (by omega),Oe,beq_self_eq_true,Bool.and_self];rw [Ep (by omega),GX (by omega),GX (by omega)];rfl
noncomputable def gU (l:Bg):Bool:=(Dl DI l.CO).2 && (bif l.AX.CZ then QM (Dl DI l.CO).1 l.AX.AU else (Aw5 l.AX.BO l.AX.Bc).2.2 && QM (Dl DI l.CO).1 (Aw5 l.AX.BO l.AX.Bc).1)
theorem VBu {l:Bg} (hk:l.AX.BO.size<=900000000) (hd:l.AX.Bc.Ak.length<=140737488351232) (hf:∀ f ∈ l.AX.Bc.Ak,f.fText.size<=140737488351232) (hl:l.CO.length<=140737488351232) (hr:∀ r ∈ l.CO,r.DR<=9223372036854775807):UAp l=some (gU l):=by
 have hn:=FBB (b:=DI) (l:=l.CO) (DJ _);rw [UAp,BA9,mk,lM,AP,JBN (DJ _) hl hr,AP,gU];simp only [RBB (show (Dl DI l.CO).1.AZ.length<=140737488351232 by omega),UBB hk hd hf,AP];cases (Dl DI l.CO).2;·rfl
 cases l.AX.CZ;·cases (Aw5 l.AX.BO l.AX.Bc).2.2 <;> rfl
 ·rfl
theorem WBu {l:Bg} (hk:l.AX.BO.size<=900000000) (hd:l.AX.Bc.Ak.length<=140737488351232) (hf:∀ f ∈ l.AX.Bc.Ak,f.fText.size<=140737488351232) (hl:l.CO.length<=140737488351232):VAp l=some (gU l):=by
 have hn:=FBB (b:=DI) (l:=l.CO) (DJ _);rw [VAp,CA9,mk,aG,AP,WBS (DJ _) hl,AP,gU];simp only [QBD (show (Dl DI l.CO).1.AZ.length<=140737488351232 by omega),RBD hk hd hf,AP];cases (Dl DI l.CO).2;·rfl
 cases l.AX.CZ;·cases (Aw5 l.AX.BO l.AX.Bc).2.2 <;> rfl
 ·rfl
def stay (x y:Af):Bool:=x.Aj == y.Aj && ((bs x.fValue == bs y.fValue) && ((!x.CY || y.CY) && ((!x.CX || y.CX) && !decide (y.fNext<x.fNext))))
def Vd (n:List Af) (x:Af):Bool:=match C9 n x.fId with | some y=>stay x y | none=>true
def TV (b:Bo):List Ah->Bool
 | []=>true
 | r::rs=>(Awv b r).2 && (b.AZ.all (Vd (Awv b r).1.AZ) && TV (Awv b r).1 rs)
theorem XBu (x y:Af):(y.Aj == x.Aj)=(x.Aj == y.Aj)/\(bs y.fValue == bs x.fValue)=(bs x.fValue == bs y.fValue):=by constructor <;> (rw [Bool.eq_iff_iff,beq_iff_eq,beq_iff_eq];exact ⟨Eq.symm,Eq.symm⟩)
theorem YBu (l:List Ah) (b n:Bo) (i:Nat) (hi:i<l.length) (hl:l.length<=140737488351232) (hb:b.AZ.length<=1000) (hn:n.AZ.length<=1000):∀ (j k m:Nat),k+j=b.AZ.length->
  ArL (m+j+1) (.c1 l (l.length:Int) (i:Int) (b.AZ.length:Int) (k:Int) b.Bv b.DU b.BM b.Dh b.fCount n.Bv n.DU n.BM n.Dh n.fCount b.AZ n.AZ)=bif (b.AZ.drop k).all (Vd n.AZ) then ArL m (.c0 l (l.length:Int) ((i+1:Nat):Int) n.Bv n.DU n.BM n.Dh n.fCount n.AZ) else some false:=by
 intro j;induction j with
 | zero=>
  intro k m h;obtain rfl:k=b.AZ.length:=by omega
  have e:=Fq (i:=i) (by omega);rw [ArL];simp only [lY,mk,e];rw [AsB (by simp),List.drop_length];rfl
 | succ j ih=>
  intro k m h;have hk:k<b.AZ.length:=by omega
  have e:=Fq (i:=k) (by omega);have h2:=ih (k+1) m (by omega);rw [show m+(j+1)+1=(m+j+1)+1 by omega,ArL];simp only [lY,mk,e,BR,getD_at hk];rw [AL (by simp;omega),AL (by simp;omega),Vg (b:=⟨n.Bv,n.DU,n.AZ,n.BM,n.Dh,n.fCount⟩) (by show n.AZ.length<=_;omega),AP,drop_at hk,List.all_cons,Vd,h2];cases ht:C9 n.AZ b.AZ[k].fId with
  | none=>rfl
  | some y=>
   obtain ⟨s1,s2⟩:=XBu b.AZ[k] y
   simp only [Ar,stay,Rx,bne,s1,s2];cases b.AZ[k].Aj == y.Aj <;> cases bs b.AZ[k].fValue == bs y.fValue <;> cases b.AZ[k].CY <;> cases y.CY <;> cases b.AZ[k].CX <;> cases y.CX <;> cases decide (y.fNext<b.AZ[k].fNext) <;> rfl
theorem ZBu {l:List Ah} (hl:l.length<=140737488351232) (hr:∀ r ∈ l,r.DR<=9223372036854775807):WAp l=some (TV DI l):=by
 have key:∀ (j i m:Nat) (b:Bo),i+j=l.length->b.AZ.length<=8->ArL (m+12*j+1) (.c0 l (l.length:Int) (i:Int) b.Bv b.DU b.BM b.Dh b.fCount b.AZ)=some (TV b (l.drop i)):=by
  intro j;induction j with
  | zero=>
   intro i m b h hb;obtain rfl:i=l.length:=by omega
   rw [ArL];simp only [lY,mk];rw [AsB (by simp),List.drop_length];rfl
  | succ j ih=>
   intro i m b h hb;have hi:i<l.length:=by omega
   rw [show m+12*(j+1)+1=(((m+10 - b.AZ.length)+12*j+1)+b.AZ.length+1)+1 by omega,ArL];simp only [lY,mk,BR,getD_at hi];rw [AL (by simp;omega),AL (by simp;omega),JBB (b:=b) (by omega) (hr _ (List.getElem_mem hi)),AP,drop_at hi,TV];cases h2:(Awv b l[i]).2;·rfl
   ·have h3:=xU h2;rw [AsB (by rfl)];have h4:=YBu l b (Awv b l[i]).1 i hi hl (by omega) (by omega) b.AZ.length 0 ((m+10 - b.AZ.length)+12*j+1) (by omega);rw [show ((0:Nat):Int)=0 from rfl,List.drop_zero] at h4;rw [h4,ih (i+1) _ (Awv b l[i]).1 (by omega) h3];cases b.AZ.all (Vd (Awv b l[i]).1.AZ) <;> rfl
 obtain ⟨m,hm⟩:∃ m,AY=m+12*l.length+1:=⟨AY - (12*l.length+1),by have:=FM (n:=12*l.length+1) (by omega);omega⟩
 rw [WAp,DA9,mk,lM,AP,hm];exact key l.length 0 m DI (by omega) (DJ _)
theorem AgS (l:List Ah) (b n:Bo) (i:Nat) (hi:i<l.length) (hl:l.length<=140737488351232) (hb:b.AZ.length<=1000) (hn:n.AZ.length<=1000):∀ (j k m:Nat),k+j=b.AZ.length->
  Uk (m+j+1) (.c1 l (i:Int) (k:Int) b.Bv b.DU b.BM b.Dh b.fCount n.Bv n.DU n.BM n.Dh n.fCount b.AZ n.AZ)=bif (b.AZ.drop k).all (Vd n.AZ) then Uk m (.c0 l ((i+1:Nat):Int) n.Bv n.DU n.BM n.Dh n.fCount n.AZ) else some false:=by
 intro j;induction j with
 | zero=>
  intro k m h;obtain rfl:k=b.AZ.length:=by omega
  have e:=Fq (i:=i) (by omega);rw [Uk];simp only [lZ,mk,e];rw [AsB (by simp),List.drop_length];rfl
 | succ j ih=>
  intro k m h;have hk:k<b.AZ.length:=by omega
  have e:=Fq (i:=k) (by omega);have h2:=ih (k+1) m (by omega);rw [show m+(j+1)+1=(m+j+1)+1 by omega,Uk];simp only [lZ,mk,e,BR,getD_at hk];rw [AL (by simp;omega),AL (by simp;omega),aC (b:=⟨n.Bv,n.DU,n.AZ,n.BM,n.Dh,n.fCount⟩) (by show n.AZ.length<=_;omega),AP,drop_at hk,List.all_cons,Vd,h2];cases ht:C9 n.AZ b.AZ[k].fId with
  | none=>rfl
  | some y=>
   simp only [Ar,stay,Rx,bne];cases b.AZ[k].Aj == y.Aj <;> cases bs b.AZ[k].fValue == bs y.fValue <;> cases b.AZ[k].CY <;> cases y.CY <;> cases b.AZ[k].CX <;> cases y.CX <;> cases decide (y.fNext<b.AZ[k].fNext) <;> rfl
theorem BBv {l:List Ah} (hl:l.length<=140737488351232):XAp l=some (TV DI l):=by
 have key:∀ (j i m:Nat) (b:Bo),i+j=l.length->b.AZ.length<=8->Uk (m+12*j+1) (.c0 l (i:Int) b.Bv b.DU b.BM b.Dh b.fCount b.AZ)=some (TV b (l.drop i)):=by
  intro j;induction j with
  | zero=>
   intro i m b h hb;obtain rfl:i=l.length:=by omega
   rw [Uk];simp only [lZ,mk];rw [AsB (by simp),List.drop_length];rfl
  | succ j ih=>
   intro i m b h hb;have hi:i<l.length:=by omega
   rw [show m+12*(j+1)+1=(((m+10 - b.AZ.length)+12*j+1)+b.AZ.length+1)+1 by omega,Uk];simp only [lZ,mk,BR,getD_at hi];rw [AL (by simp;omega),AL (by simp;omega),xR (b:=b) (by omega),AP,drop_at hi,TV];cases h2:(Awv b l[i]).2;·rfl
   ·have h3:=xU h2;rw [AsB (by rfl)];have h4:=AgS l b (Awv b l[i]).1 i hi hl (by omega) (by omega) b.AZ.length 0 ((m+10 - b.AZ.length)+12*j+1) (by omega);rw [show ((0:Nat):Int)=0 from rfl,List.drop_zero] at h4;rw [h4,ih (i+1) _ (Awv b l[i]).1 (by omega) h3];cases b.AZ.all (Vd (Awv b l[i]).1.AZ) <;> rfl
 obtain ⟨m,hm⟩:∃ m,AY=m+12*l.length+1:=⟨AY - (12*l.length+1),by have:=FM (n:=12*l.length+1) (by omega);omega⟩
 rw [XAp,EA9,mk,aG,AP,hm];exact key l.length 0 m DI (by omega) (DJ _)
def ZT (l:List D8) (i k:Nat):Bool:=((l.getD i ⟨0,0,0⟩).Ag == (l.getD k ⟨0,0,0⟩).Ag) && ((l.getD i ⟨0,0,0⟩).Dv == (l.getD k ⟨0,0,0⟩).Dv)
def gV (l:List D8) (i k:Nat):Bool:=((l.getD i ⟨0,0,0⟩).Ag == (l.getD k ⟨0,0,0⟩).Ag) && decide ((l.getD i ⟨0,0,0⟩).Dv<=(l.getD k ⟨0,0,0⟩).Dv)
def V3 (p:Nat->Bool):Nat->Nat->Bool
 | 0,_=>false
 | j+1,k=>p k || V3 p j (k+1)
def Ar7 (p:Nat->Nat->Bool):Nat->Nat->Bool
 | 0,_=>true
 | j+1,i=> !V3 (p i) i 0 && Ar7 p j (i+1)
theorem AWO {n:Nat} (h:n<=140737488351232):n*(n+2)+1<1000000000000000000000000000000000000000:=by have:=Nat.mul_le_mul h (show n+2<=140737488351234 by omega);omega
theorem CBv {l:List D8} (hl:l.length<=140737488351232):YAp l=some (Ar7 (ZT l) l.length 0):=by
 have inner:∀ (j k i F:Nat),k+j=i->i<l.length->Ul (F+j+1) (.c1 l l (l.length:Int) (i:Int) (l.take i) (i:Int) (k:Int) (l.getD i ⟨0,0,0⟩))=bif V3 (ZT l i) j k then some false else Ul F (.c0 l l (l.length:Int) ((i+1:Nat):Int)):=by
  intro j;induction j with
  | zero=>
   intro k i F hk hi;have hw:=Fq (i:=i) (by omega);rw [Ul];simp only [lg,mk,hw];rw [AsB (by simp;omega)];rfl
  | succ j ih=>
   intro k i F hk hi;have hw:=Fq (i:=k) (by omega);have ht:(l.take i).length=i:=by rw [List.length_take];omega
   have hg:(l.take i).getD k ⟨0,0,0⟩=l.getD k ⟨0,0,0⟩:=by simp [List.getD,List.getElem?_take,show k<i by omega]
   rw [AwB F j,Ul];simp only [lg,mk,hw,ih (k+1) i F (by omega) hi,BR,ht,hg,show decide ((k:Int)<(i:Int))=true from Ba (by omega),show decide ((0:Int)<=(k:Int))=true from Ba (by omega),Bool.and_self,Ar,V3,ZT];cases (l.getD i ⟨0,0,0⟩).Ag == (l.getD k ⟨0,0,0⟩).Ag <;> cases (l.getD i ⟨0,0,0⟩).Dv == (l.getD k ⟨0,0,0⟩).Dv <;> rfl
 have outer:∀ (j i m:Nat),i+j=l.length->Ul (m+j*(l.length+2)+1) (.c0 l l (l.length:Int) (i:Int))=some (Ar7 (ZT l) j i):=by
  intro j;induction j with
  | zero=>
   intro i m hi;rw [Ul];simp only [lg,mk];rw [AsB (by simp;omega)];rfl
  | succ j ih=>
   intro i m hi;have ht:(l.take i).length=i:=by rw [List.length_take];omega
   rw [show m+(j+1)*(l.length+2)+1=((m+(l.length - i)+j*(l.length+2)+1)+i+1)+1 by rw [Nat.succ_mul];omega,Ul];simp only [lg,mk,BR,List.drop_zero,ht];rw [AL (by simp;omega),AL (by simp;omega),AL (by simp;omega)];refine (inner i 0 i _ (by omega) (by omega)).trans ?_;rw [ih (i+1) _ (by omega),Ar7];cases V3 (ZT l i) i 0 <;> rfl
 obtain ⟨m,hm⟩:∃ m,AY=m+l.length*(l.length+2)+1:=⟨AY - (l.length*(l.length+2)+1),by have:=wL (AWO hl);omega⟩
 rw [YAp,FA9,hm];exact outer l.length 0 m (Nat.zero_add _)
def leafs (xs:List D8) (t:Int):List Int:=(xs.filter fun g=>g.Ag == t).map (·.Dv)
theorem DBv (x:D8) (xs:List D8) (t:Int):leafs (x::xs) t=(if (x.Ag == t)=true then [x.Dv] else [])++leafs xs t:=by unfold leafs;rw [List.filter_cons];split <;> simp
theorem EBv {a:List D8} {t:Int} (h:a.length*24<=140737488355328):AFg a t=some (leafs a t):=by
 have key:∀ m i out,i<=a.length->a.length - i<m->out.length<=i->aW m (.c0 t a a.length i out)=some (out++leafs (a.drop i) t):=fun m i out h1 h2 h3=>
  PV (A:=List Int) (n:=a.length) (Lp:=aW) (st:=fun i out=>.c0 t a a.length i out) (Inv:=fun i out=>out.length<=i) (out:=fun i out=>some (out++leafs (a.drop i) t))
   (fun m out _=>by simp [aW,ZAp,mk,leafs])
   (fun m i out hi ho=>by
    have hw:=Fq (i:=i) (by omega);have hb:(out.length+1)*8<=140737488355328:=by omega
    simp only [aW,ZAp,mk,BR,getD_at hi,hw,drop_at hi,DBv];cases a[i].Ag == t;·exact .inr ⟨out,by simp [hi],by omega,by simp⟩
    ·exact .inr ⟨out++[a[i].Dv],by simp [hi,hb],by simp;omega,by simp⟩) m i out h1 h2 h3
 have h0:=key AY 0 [] (DJ _) (FM (by omega)) (Nat.le_refl _);exact h0
def X5 (l:List Int):Nat->Nat->Bool
 | 0,_=>true
 | j+1,k=> !decide (l.getD (k - 1) 0>=l.getD k 0) && X5 l j (k+1)
def xu (l:List D8) (t:Int):Bool:=X5 (leafs l t) ((leafs l t).length - 1) 1
def lq (l:List D8):Nat->Nat->Bool
 | 0,_=>true
 | j+1,i=>xu l (l.getD i ⟨0,0,0⟩).Ag && lq l j (i+1)
theorem FBv {p:Nat->Bool}:∀ {j k:Nat},V3 p j k=true↔∃ x,k<=x/\x<k+j/\p x=true:=by
 intro j;induction j with
 | zero=>intro k;exact ⟨fun h=>by simp [V3] at h,fun ⟨x,h1,h2,_⟩=>by omega⟩
 | succ j ih=>
  intro k;rw [V3,Bool.or_eq_true,ih];constructor
  ·rintro (h | ⟨x,h1,h2,h3⟩);·exact ⟨k,Nat.le_refl _,by omega,h⟩
   ·exact ⟨x,by omega,by omega,h3⟩
  ·rintro ⟨x,h1,h2,h3⟩;by_cases h:x=k;·subst h;exact .inl h3
   ·exact .inr ⟨x,by omega,by omega,h3⟩
theorem SBD {p:Nat->Nat->Bool}:∀ {j i:Nat},Ar7 p j i=true↔∀ y,i<=y->y<i+j->∀ x,x<y->p y x=false:=by
 intro j;induction j with
 | zero=>intro i;exact ⟨fun _ y h1 h2=>by omega,fun _=>rfl⟩
 | succ j ih=>
  intro i;rw [Ar7,Bool.and_eq_true,ih];have ha:(!V3 (p i) i 0)=true↔∀ x,x<i->p i x=false:=by
   rw [Bool.not_eq_true',<-Bool.not_eq_true,FBv];constructor
   ·intro h x hx;cases hp:p i x;·rfl
    ·exact (h ⟨x,DJ _,by omega,hp⟩).elim
   ·rintro h ⟨x,_,h2,h3⟩;rw [h x (by omega)] at h3;cases h3
  rw [ha];constructor
  ·rintro ⟨h1,h2⟩ y hy1 hy2;by_cases h:y=i;·subst h;exact h1
   ·exact h2 y (by omega) (by omega)
  ·intro h;exact ⟨h i (Nat.le_refl _) (by omega),fun y h1 h2=>h y (by omega) (by omega)⟩
theorem GBv {l:List D8}:∀ {j i:Nat},lq l j i=true↔∀ y,i<=y->y<i+j->xu l (l.getD y ⟨0,0,0⟩).Ag=true:=by
 intro j;induction j with
 | zero=>intro i;exact ⟨fun _ y h1 h2=>by omega,fun _=>rfl⟩
 | succ j ih=>
  intro i;rw [lq,Bool.and_eq_true,ih];constructor
  ·rintro ⟨h1,h2⟩ y hy1 hy2;by_cases h:y=i;·subst h;exact h1
   ·exact h2 y (by omega) (by omega)
  ·intro h;exact ⟨h i (Nat.le_refl _) (by omega),fun y h1 h2=>h y (by omega) (by omega)⟩
theorem HBv {l:List Int}:∀ {j k:Nat},X5 l j k=true↔∀ x,k<=x->x<k+j->l.getD (x - 1) 0<l.getD x 0:=by
 intro j;induction j with
 | zero=>intro i;exact ⟨fun _ y h1 h2=>by omega,fun _=>rfl⟩
 | succ j ih=>
  intro k;rw [X5,Bool.and_eq_true,ih,Bool.not_eq_true',decide_eq_false_iff_not];constructor
  ·rintro ⟨h1,h2⟩ y hy1 hy2;by_cases h:y=k;·subst h;omega
   ·exact h2 y (by omega) (by omega)
  ·intro h;have:=h k (Nat.le_refl _) (by omega);exact ⟨by omega,fun y h1 h2=>h y (by omega) (by omega)⟩
theorem IBv {l:List Int}:X5 l (l.length - 1) 1=true↔l.Pairwise (· < ·):=by
 rw [HBv,List.pairwise_iff_getElem];constructor
 ·intro h a b ha hb hab;induction b with
  | zero=>omega
  | succ b ih=>
   have h1:=h (b+1) (by omega) (by omega);rw [Nat.add_sub_cancel,getD_at (show b<l.length by omega),getD_at hb] at h1;by_cases he:a=b;·subst he;exact h1
   ·have:=ih (by omega) (by omega);omega
 ·intro h x h1 h2;have:=h (x - 1) x (by omega) (by omega) (by omega);rwa [getD_at (show x - 1<l.length by omega),getD_at (show x<l.length by omega)]
theorem BBT {l:List D8} {t:Int}:xu l t=true↔∀ y x (hy:y<l.length) (hx:x<y),l[y].Ag=t->(l[x]'(by omega)).Ag=t->(l[x]'(by omega)).Dv<l[y].Dv:=by
 rw [xu,IBv,leafs,List.pairwise_map,List.pairwise_filter,List.pairwise_iff_getElem];constructor;·intro h y x hy hx h1 h2;exact h x y (by omega) hy hx (by rw [beq_iff_eq];exact h2) (by rw [beq_iff_eq];exact h1)
 ·intro h x y hx hy hxy h1 h2;rw [beq_iff_eq] at h1 h2;exact h y x hy hxy h2 h1
theorem JBv (l:List D8):lq l l.length 0=Ar7 (gV l) l.length 0:=by
 rw [Bool.eq_iff_iff,GBv,SBD];constructor
 ·intro h y _ hy x hx;have hy':y<l.length:=by omega
  have h1:=BBT.1 (h y (DJ _) hy) y x hy' hx;rw [getD_at hy'] at h1;rw [gV,getD_at hy',getD_at (show x<l.length by omega)];cases ht:l[y].Ag == (l[x]'(by omega)).Ag;·rfl
  ·rw [beq_iff_eq] at ht;have:=h1 rfl ht.symm;rw [Bool.true_and,decide_eq_false_iff_not];omega
 ·intro h i _ hi;rw [BBT];intro y x hy hx h1 h2;have h3:=h y (DJ _) (by omega) x hx;rw [gV,getD_at hy,getD_at (show x<l.length by omega),h1,h2,beq_self_eq_true,Bool.true_and,decide_eq_false_iff_not] at h3;omega
theorem KBv (l:List D8) (t:Int):(leafs l t).length<=l.length:=by rw [leafs,List.length_map];exact List.length_filter_le _ _
theorem LBv {l:List D8} (hl:l.length*24<=140737488351232):BAq l=some (Ar7 (gV l) l.length 0):=by
 have inner:∀ (j k i F:Nat) (lf:List Int),lf.length - k=j->1<=k->k<=140737488351232->i<l.length->lf.length<=l.length->Um (F+j+1) (.c1 l (k:Int) l (l.length:Int) (i:Int) lf)=bif X5 lf j k then Um F (.c0 l l (l.length:Int) ((i+1:Nat):Int)) else some false:=by
  intro j;induction j with
  | zero=>
   intro k i F lf hk h1 h2 hi hf;have hw:=Fq (i:=i) (by omega);rw [Um];simp only [lu,mk,hw];rw [AsB (by simp;omega)];rfl
  | succ j ih=>
   intro k i F lf hk h1 h2 hi hf;obtain ⟨q,rfl⟩:∃ q,k=q+1:=⟨k - 1,by omega⟩
   have hw:AV (((q+1:Nat):Int)+1)=((q+1+1:Nat):Int):=by rw [A8 (by omega) (by omega)];rfl
   have hq:AV (((q+1:Nat):Int) - 1)=(q:Int):=by rw [A8 (by omega) (by omega)];omega
   rw [AwB F j,Um];simp only [lu,mk,hw,hq,ih (q+1+1) i F lf (by omega) (by omega) (by omega) hi hf,BR,show decide (((q+1:Nat):Int)<(lf.length:Int))=true from Ba (by omega),show decide ((0:Int)<=(q:Int))=true from Ba (by omega),show decide ((q:Int)<(lf.length:Int))=true from Ba (by omega),show decide ((0:Int)<=((q+1:Nat):Int))=true from Ba (by omega),Bool.and_self,Ar,X5,Nat.add_sub_cancel];cases decide (lf.getD q 0>=lf.getD (q+1) 0) <;> rfl
 have outer:∀ (j i m:Nat),i+j=l.length->Um (m+j*(l.length+2)+1) (.c0 l l (l.length:Int) (i:Int))=some (lq l j i):=by
  intro j;induction j with
  | zero=>
   intro i m hi;rw [Um];simp only [lu,mk];rw [AsB (by simp;omega)];rfl
  | succ j ih=>
   intro i m hi;have hlf:=KBv l (l.getD i ⟨0,0,0⟩).Ag;rw [show m+(j+1)*(l.length+2)+1=((m+(l.length+1 - ((leafs l (l.getD i ⟨0,0,0⟩).Ag).length - 1))+j*(l.length+2))+((leafs l (l.getD i ⟨0,0,0⟩).Ag).length - 1)+1)+1 by rw [Nat.succ_mul];omega,Um];simp only [lu,mk,BR,EBv (show l.length*24<=140737488355328 by omega),AP];rw [AL (by simp;omega),AL (by simp;omega)];refine (inner _ 1 i _ _ rfl (Nat.le_refl _) (by omega) (by omega) hlf).trans ?_;rw [lq,xu];cases X5 (leafs l (l.getD i ⟨0,0,0⟩).Ag) ((leafs l (l.getD i ⟨0,0,0⟩).Ag).length - 1) 1;·rfl
   ·rw [Ar,show m+(l.length+1 - ((leafs l (l.getD i ⟨0,0,0⟩).Ag).length - 1))+j*(l.length+2)=(m+(l.length - ((leafs l (l.getD i ⟨0,0,0⟩).Ag).length - 1)))+j*(l.length+2)+1 by omega,ih (i+1) _ (by omega),Bool.true_and]
 obtain ⟨m,hm⟩:∃ m,AY=m+l.length*(l.length+2)+1:=⟨AY - (l.length*(l.length+2)+1),by have:=wL (AWO (n:=l.length) (by omega));omega⟩
 rw [BAq,GA9,hm,<-JBv];exact outer l.length 0 m (Nat.zero_add _)
theorem CBT {k:AA} {P:List Ah->Bg->Prop}:∀ {es:List DW} {l:List Ah} {L:Bg},(∀ e ∈ es,Nk e)->(∀ l L l' L' e,e ∈ es->AzZ k l L->P l L->Step k e l L l' L'->P l' L')->AzZ k l L->P l L->L.Bq.length+es.length<=45->
  ∃ l' L',Ui es (L.Bq.length:Int) L=some L'/\AzZ k l' L'/\P l' L'/\L'.Bq.length=L.Bq.length+es.length
 | [],l,L,_,_,h,hp,_=>⟨l,L,rfl,h,hp,rfl⟩
 | e::es,l,L,he,hs,h,hp,hn=>by
  rw [List.length_cons] at hn;obtain ⟨l1,L1,s1,s2⟩:=LAt h (he e (List.mem_cons_self ..)) (by omega)
  obtain ⟨g1,g2⟩:=BAt h (by omega) s2
  obtain ⟨l2,L2,r1,r2,r3,r4⟩:=CBT (fun e h=>he e (List.mem_cons_of_mem _ h)) (fun l L l' L' e h=>hs l L l' L' e (List.mem_cons_of_mem _ h)) g1 (hs _ _ _ _ e (List.mem_cons_self ..) h hp s2) (by omega)
  grind [Ui]
theorem DBT {k:AA}:∀ {es:List DW} {l:List Ah} {L:Bg},(∀ e ∈ es,Nk e)->AzZ k l L->L.Bq.length+es.length<=45->X3 es (L.Bq.length:Int) L=Ui es (L.Bq.length:Int) L
 | [],_,_,_,_,_=>rfl
 | e::es,l,L,he,h,hn=>by
  rw [List.length_cons] at hn;obtain ⟨l1,L1,s1,s2⟩:=LAt h (he e (List.mem_cons_self ..)) (by omega)
  obtain ⟨g1,g2⟩:=BAt h (by omega) s2
  have ih:=DBT (fun e h=>he e (List.mem_cons_of_mem _ h)) g1 (by omega);rw [g2] at ih;rw [X3,<-KBu h (he e (List.mem_cons_self ..)) (by omega),Ui,s1,AP,AP];exact ih
theorem MBv:Ok (BAm ()) fun r=>r.1.size=32/\r.2.1.size<=20/\r.2.2.length<=39/\∀ e ∈ r.2.2,Nk e:=by rw [BAm,XA1,mk];exact Ok.bind JBh fun c hc=>Ok.bind (SBu hc) fun a ha=>Ok.ret ⟨ha.1.k,ha.1.w,ha.1.n,ha.1.e⟩
theorem NBv {P:List Ah->Bg->Prop} {k w:AA} {es:List DW} (hk:k.size=32) (hw:w.size<=20) (hn:es.length<=39) (he:∀ e ∈ es,Nk e) (h0:P [AsD w] (EY k w)) (hs:∀ l L l' L' e,e ∈ es->AzZ k l L->P l L->Step k e l L l' L'->P l' L'):∃ l L,lS k w es=some (L,true)/\AzZ k l L/\P l L/\L.Bq.length=es.length:=by
 obtain ⟨l,L,h1,h2,h3,h4⟩:=CBT he hs (NAt hk hw) h0 (by show 0+es.length<=45;omega)
 grind [EY,ZBS]
theorem OBv {k w:AA} {es:List DW} (hk:k.size=32) (hw:w.size<=20) (hn:es.length<=39) (he:∀ e ∈ es,Nk e):xq k w es=lS k w es:=by
 have h1:X3 es 0 (EY k w)=Ui es 0 (EY k w):=DBT he (NAt hk hw) (by show 0+es.length<=45;omega);have hall:es.all Ru=true:=List.all_eq_true.2 fun e h=>(he e h).1
 rw [PBu (by omega) (by omega),(sG hk hw).1,Ba (by omega:es.length<=40),hall,ZBS hk hw (by omega) he,h1];rfl
theorem PBv {r:Ah} {t:AA} (h:AwX r=(t,true)):r.DR<=9223372036854775807:=by
 rcases VBA h with ⟨s,rfl,hz,rfl⟩ | ⟨n,rfl,h0,h1,rfl⟩ | ⟨t,s,rfl,ht,rfl⟩ | ⟨n,rfl,h0,h1,rfl⟩
 all_goals (simp only;omega)
def ZP (l:List Ah) (t:Int):Nat->Nat->Int->Int
 | 0,_,n=>n
 | j+1,i,n=>ZP l t j (i+1) (bif (l.getD i ⟨0,⟨#[]⟩,0,⟨0,0,false,false,false,false,⟨#[]⟩,0⟩⟩).Aj == 3 && (l.getD i ⟨0,⟨#[]⟩,0,⟨0,0,false,false,false,false,⟨#[]⟩,0⟩⟩).Ag.fId == t then (l.getD i ⟨0,⟨#[]⟩,0,⟨0,0,false,false,false,false,⟨#[]⟩,0⟩⟩).Ag.fNext else n)
end Go.Proofs.YtkbbicgglblfiaaGreatDoor.G
