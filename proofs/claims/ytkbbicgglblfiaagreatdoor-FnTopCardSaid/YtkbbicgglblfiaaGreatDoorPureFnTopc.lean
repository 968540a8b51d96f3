/- The plain law of FnTop: whatever the arguments, it answers true. Conditions: what is read is in reach. Part 3 of 4. -/
import Derived.Test.YtkbbicgglblfiaaGreatDoorPureFnTopb
namespace Go.Proofs.YtkbbicgglblfiaaGreatDoor.G
open Go Go.Ev
set_option linter.unusedVariables false
set_option linter.unusedSimpArgs false
set_option linter.unusedSectionVars false
variable [PC]
theorem OBS {S:AA} {p n:Nat} {x:F6} (hS:S.size=200) (h:NH S p x) (hn:n<=4000):∃ x',bZ x (n:Int)=some (x',ofBytes (up (Axe S p n)))/\NH S (p+n) x':=by
 have key:∀ (r m:Nat) (x:F6) (v:F6) (o:List Nat),n - o.length=r->r<m->o.length<=n->NH S (p+o.length) x->∃ x',kK m (.c0 (n:Int) (ofBytes (up o)) x v)=some (x',ofBytes (up (o++Axe S (p+o.length) (n - o.length))))/\NH S (p+n) x':=by
  intro r;induction r using Nat.strongRecOn with
  | ind r ih=>
  intro m x v o hr hm ho hx;obtain ⟨m,rfl⟩:∃ m',m=m'+1:=⟨m - 1,by omega⟩
  have hos:(ofBytes (up o)).size=o.length:=by rw [Dj,D7]
  rw [kK];simp only [LA8,mk];by_cases hlt:o.length<n
  ·have en:AV ((n:Int) - ((ofBytes (up o)).size:Int))=((n - o.length:Nat):Int):=by grind [wn]
   rw [IK (by simp_all)];have go:∀ (q a k:Nat),168*q+a=p+o.length->a+k<=168->0<k->k<=n - o.length->∃ x',kK m (.c0 (n:Int) (ofBytes (up o)++(I9 S q).extract a (a+k)) ⟨I9 S q,((a+k:Nat):Int)⟩ v)=some (x',ofBytes (up (o++Axe S (p+o.length) (n - o.length))))/\NH S (p+n) x':=by
    intro q a k h1 h2 h3 h4;rw [<-IBs ((I9 S q).extract a (a+k)),chunk hS h2,JBs,h1];have hl:(o++Axe S (p+o.length) k).length=o.length+k:=by simp [TAt]
    obtain ⟨x',e1,e2⟩:=ih (n - (o.length+k)) (by omega) m ⟨I9 S q,((a+k:Nat):Int)⟩ v (o++Axe S (p+o.length) k) (by rw [hl]) (by omega) (by omega) ⟨q,a+k,rfl,by omega,h2⟩
    refine ⟨x',?_,e2⟩;rw [e1,hl,List.append_assoc,<-Nat.add_assoc,MBQ,show k+(n - (o.length+k))=n - o.length by omega]
   obtain ⟨q,a,rfl,ha,ha2⟩:=hx
   have hz:=bf hS q;have hz2:=bf hS (q+1);have big:∀ (T:AA) (i j:Nat),T.size=200->decide ((ofBytes (up o)).size+(T.extract i j).size<=9223372036854775807)=true:=fun T i j hT=>by grind [ByteArray.size_extract]
   dsimp only;by_cases DD:a=168
   ·subst DD;rw [IK (by rfl),MBS hz,AP,show bg (I9 S q)=I9 S (q+1) from rfl,en,show AV ((168:Int) - (0:Int))=168 by decide];by_cases hk:168<n - o.length;·have b1:=big (I9 S (q+1)) 0 (0+168) hz2;rw [if_pos (show (168:Int)<((n - o.length:Nat):Int) by omega),show AV (0+168)=((0+168:Nat):Int) by decide,show (0:Int).toNat=0 from rfl,BR,IK (by rw [Bool.and_eq_true,Bool.and_eq_true,decide_eq_true_eq,decide_eq_true_eq,decide_eq_true_eq];omega),b1,Ar];exact go (q+1) 0 168 (by omega) (by omega) (by omega) (by omega)
    ·have e0:AV (0+((n - o.length:Nat):Int))=((0+(n - o.length):Nat):Int):=by grind
     have b1:=big (I9 S (q+1)) 0 (0+(n - o.length)) hz2;rw [if_neg (show ¬ (168:Int)<((n - o.length:Nat):Int) by omega),e0,show (0:Int).toNat=0 from rfl,BR,IK (by grind),b1,Ar];exact go (q+1) 0 (n - o.length) (by omega) (by omega) (by omega) (Nat.le_refl _)
   ·have ea:AV (168 - (a:Int))=((168 - a:Nat):Int):=by grind [wn]
    rw [TT (by grind),en,ea,BR];by_cases hk:168 - a<n - o.length;·have e0:AV ((a:Int)+((168 - a:Nat):Int))=((a+(168 - a):Nat):Int):=wn (n:=a+(168 - a)) (by omega);have b1:=big (I9 S q) a (a+(168 - a)) hz;rw [if_pos (show ((168 - a:Nat):Int)<((n - o.length:Nat):Int) by omega),e0,BR,IK (by grind),b1,Ar];grind
    ·have e0:AV ((a:Int)+((n - o.length:Nat):Int))=((a+(n - o.length):Nat):Int):=wn (n:=a+(n - o.length)) (by omega);have b1:=big (I9 S q) a (a+(n - o.length)) hz;rw [if_neg (show ¬ ((168 - a:Nat):Int)<((n - o.length:Nat):Int) by omega),e0,BR,IK (by grind),b1,Ar];grind
  grind [Axe]
 obtain ⟨q,a,rfl,ha,ha2⟩:=h
 have h1:=bf hS q;have hi1:AyM ((n:Nat):Int) 0 4000=true:=Na.2 (by omega);have hi2:AyM ((a:Nat):Int) 0 168=true:=Na.2 (by omega);rw [bZ,KA8,mk,AwE,AP,hi1,DN,Aq,TT (by simp_all),AwE,AP,hi2,DN,Aq];obtain ⟨x',e1,e2⟩:=key n AY ⟨I9 S q,(a:Int)⟩ ⟨⟨#[]⟩,0⟩ [] (by rfl) (FM (by omega)) (DJ _) ⟨q,a,rfl,ha,ha2⟩
 exact ⟨x',e1,e2⟩
theorem GBu {s:AA} {n:Nat} (h:s.size<=2000) (hn:n<=4000):kL s (n:Int)=some (ofBytes (up (Axe (sd s) 0 n)),true):=by
 obtain ⟨x',e,_⟩:=OBS (n:=n) (UAt s) (VAt s) hn
 rw [kL,MA8,mk,AwE,AP,Na.2 (by omega),DN,Aq,NBS h,AP,e];rfl
theorem bn {n:Int}:RS n=some (n % 3329):=by
 have h:(AV ((n.tmod 3329)+3329)).tmod 3329=n % 3329:=by grind [A8]
 rw [RS,NA8,mk,h]
theorem PBS {seed:AA} {n:Nat} (h:seed.size<=1000) (hn:n<256):xK seed (n:Int)=some (up (LG seed n)):=by
 have h1:KP (n:Int)=some (Awl n):=Po (by omega) (by omega);have hz:(Awl n).size=1:=by rfl
 have h2:=GBu (s:=seed++Awl n) (n:=128) (by grind) (by omega);have hs:(ofBytes (up (Axe (sd (seed++Awl n)) 0 128))).size=128:=by rfl
 have h2:kL (seed++Awl n) 128=_:=h2;rw [xK,OA8,mk,h1,AP,IK (by grind),h2,AP];dsimp only;rw [LG];generalize ofBytes (up (Axe (sd (seed++Awl n)) 0 128))=s at hs;have c2:∀ k:Nat,(2:Int) ^ k=((2 ^ k:Nat):Int):=fun k=>by rfl
 have sl:=AwS (Lp:=kM) (st:=fun i o=>.c0 s ((256:Nat):Int) (i:Int) (up o)) (f:=fun i o=>o.set i (Yj (Ay7 s (i / 2) / 2 ^ (4*(i % 2))))) (P:=fun _ o=>o.length=256) (n:=256) 1 (fun m i o hi ho=>by
  refine ⟨?_,by simp_all⟩;have hb:=XB s (i / 2);have w1:AV ((i:Int)+1)=((i+1:Nat):Int):=wn (n:=i+1) (by omega);have e1:AV ((i:Int).tdiv 2)=((i / 2:Nat):Int):=wn (n:=i / 2) (by omega);have e2:(i:Int).tmod 2=((i % 2:Nat):Int):=rfl;have e3:AV (4*((i % 2:Nat):Int))=((4*(i % 2):Nat):Int):=wn (n:=4*(i % 2)) (by omega);have e4:Min.min (4*(i % 2)) (IntKind.bits IntKind.u8)=4*(i % 2):=Nat.min_eq_left (by show 4*(i % 2)<=8;omega);have fd:∀ (a k:Nat),Int.fdiv (a:Int) ((2 ^ k:Nat):Int)=((a / 2 ^ k:Nat):Int):=fun a k=>by grind
  have hb2:Ay7 s (i / 2) / 2 ^ (4*(i % 2))<256:=Nat.lt_of_le_of_lt (Nat.div_le_self _ _) hb;have m1:Min.min (1:Int).toNat (IntKind.bits IntKind.i64)=1:=by decide
  have m2:Min.min (2:Int).toNat (IntKind.bits IntKind.i64)=2:=by decide
  have m3:Min.min (3:Int).toNat (IntKind.bits IntKind.i64)=3:=by decide
  rw [kM];simp only [PA8,mk,w1,e1,e2,e3,BR,e4,RU,m1,m2,m3,c2,fd];generalize Ay7 s (i / 2) / 2 ^ (4*(i % 2))=b at hb2;have hd:∀ k,b / 2 ^ k<=b:=fun k=>Nat.div_le_self _ _
  have d1:=hd 1;have d2:=hd 2;have d3:=hd 3;rw [wn (n:=b) (by omega)];simp only [fd];rw [and1 (n:=b) (by omega),and1 (n:=b / 2 ^ 1) (by omega),and1 (n:=b / 2 ^ 2) (by omega),and1 (n:=b / 2 ^ 3) (by omega),show b / 2 ^ 1=b / 2 from rfl,show b / 2 ^ 2=b / 4 from rfl,show b / 2 ^ 3=b / 8 from rfl,A8 (n:=((b % 2:Nat):Int)+((b / 2 % 2:Nat):Int)) (by omega) (by omega),A8 (n:=((b % 2:Nat):Int)+((b / 2 % 2:Nat):Int) - ((b / 4 % 2:Nat):Int)) (by omega) (by omega),A8 (n:=((b % 2:Nat):Int)+((b / 2 % 2:Nat):Int) - ((b / 4 % 2:Nat):Int) - ((b / 8 % 2:Nat):Int)) (by omega) (by omega),bn,AP,show (((b % 2:Nat):Int)+((b / 2 % 2:Nat):Int) - ((b / 4 % 2:Nat):Int) - ((b / 8 % 2:Nat):Int)) % 3329=((Yj b:Nat):Int) by rw [Yj];omega,Jc,IK (by grind),GX (by omega),IK (by rfl),IK (AzJ (by omega))])
 obtain ⟨m,hm⟩:∃ m,AY=m+1+256*1:=⟨AY - 257,by rfl⟩
 rw [hm,show (256:Int).toNat=256 from rfl,List.length_replicate,<-Avq];refine (sl 256 0 (m+1) (List.replicate 256 0) (by omega) List.length_replicate).1.trans ?_;rw [xM (v:=fun i=>Yj (Ay7 s (i / 2) / 2 ^ (4*(i % 2)))) List.length_replicate,kM];rfl
theorem QBS {seed:AA} {f:Nat} (h:seed.size<=1000) (hf:f<255):cO seed (f:Int)=some [up (LG seed f),up (LG seed (f+1))]:=by
 have e0:AV ((f:Int)+0)=(f:Int):=by grind [wn]
 have e1:AV ((f:Int)+1)=((f+1:Nat):Int):=wn (n:=f+1) (by omega);have w0:AV (0+1)=1:=by decide
 have w1:AV (1+1)=2:=by decide
 obtain ⟨m,hm⟩:∃ m,AY=m+3:=⟨AY - 3,rfl⟩
 rw [cO,QA8,hm];rw [xO];simp only [BAq,mk];rw [IK (by rfl),e0,PBS h (by omega),AP,IK (by rfl),w0];rw [xO];simp only [BAq,mk];rw [IK (by rfl),e1,PBS h (by omega),AP,IK (by rfl),w1];rfl
theorem kN {l:List Nat} (h:Vb l):VY (up l)=some true:=by
 have hl:=h.1
 have s:=AwS (Lp:=kP) (st:=fun i (_:Unit)=>.c0 (up l) (up l) ((up l).length:Int) (i:Int)) (f:=fun _ a=>a) (P:=fun _ _=>True) (n:=256) 1 (fun m i _ hi _=>by
  refine ⟨?_,trivial⟩;have w1:AV ((i:Int)+1)=((i+1:Nat):Int):=wn (n:=i+1) (by omega);have hq:=h.get i;grind [kP,CAq,BR,Jg,D7,AwE,Na])
 obtain ⟨m,hm⟩:∃ m,AY=m+1+256*1:=⟨AY - 257,by rfl⟩
 rw [VY,RA8,mk,hm];refine (s 256 0 (m+1) () (by omega) trivial).1.trans ?_;simp_all [kP,CAq,mk,D7]
theorem HBu {l:List Int} (h:l.length<=1000):xP l=some l:=by rw [xP,SA8,mk,IK (by grind)]
theorem RBS {n:Nat} (h:n<128):cZ (n:Int)=some ((t7 n:Nat):Int):=by
 have c2:∀ k:Nat,(2:Int) ^ k=((2 ^ k:Nat):Int):=fun k=>by rfl
 have fd:∀ (a k:Nat),Int.fdiv (a:Int) ((2 ^ k:Nat):Int)=((a / 2 ^ k:Nat):Int):=fun a k=>by grind
 have s:=AwS (Lp:=xQ) (st:=fun i (o:Nat)=>.c0 (n:Int) (o:Int) (i:Int)) (f:=fun i o=>2*o+n / 2 ^ i % 2) (P:=fun i o=>o<2 ^ i) (n:=7) 1 (fun m i o hi ho=>by
  have hp:2 ^ (i+1)<=2 ^ 7:=Nat.pow_le_pow_right (by decide) hi;have hlt:2*o+n / 2 ^ i % 2<2 ^ (i+1):=by omega
  refine ⟨?_,hlt⟩;have hd:n / 2 ^ i<=n:=Nat.div_le_self _ _;have GM:(2:Nat) ^ 7=128:=rfl;have w1:AV ((i:Int)+1)=((i+1:Nat):Int):=wn (n:=i+1) (by omega);have m1:Min.min i (IntKind.bits IntKind.i64)=i:=Nat.min_eq_left (by show i<=64;omega);have e3:AV (2*(o:Int))=((2*o:Nat):Int):=wn (n:=2*o) (by omega);have e4:AV (((2*o:Nat):Int)+((n / 2 ^ i % 2:Nat):Int))=((2*o+n / 2 ^ i % 2:Nat):Int):=wn (n:=2*o+n / 2 ^ i % 2) (by omega);rw [xQ];simp only [UA8,mk,w1,BR,m1,c2,fd,e3];rw [and1 (n:=n / 2 ^ i) (by omega),e4,IK (by grind),IK (by rfl)])
 obtain ⟨m,hm⟩:∃ m,AY=m+1+7*1:=⟨AY - 8,rfl⟩
 rw [cZ,TA8,hm];refine (s 7 0 (m+1) 0 (by omega) (by decide)).1.trans ?_;rfl
theorem SBS {e:Nat} (he:e<1024):cu 17 (e:Int)=some ((Yk e:Nat):Int):=by
 have key:∀ (k b e o m:Nat),e<2 ^ k->b<3329->o<3329->e<1024->xR (m+k+1) (.c0 (b:Int) (e:Int) (o:Int))=some ((Yl k b e o:Nat):Int):=by
  intro k;induction k with
  | zero=>
   intro b e o m h _ _ _;obtain rfl:e=0:=by omega
   rfl
  | succ k ih=>
   intro b e o m h hb ho he;rw [AwB m k,xR,Yl];simp only [WA8,mk];by_cases h0:e=0;·simp_all
   ·have e1:AV ((e:Int).tdiv 2)=((e / 2:Nat):Int):=wn (n:=e / 2) (by omega);have e2:(e:Int).tmod 2=((e % 2:Nat):Int):=rfl;rw [IK (by grind),e1,e2,dA hb hb,dA ho hb,if_neg h0];have hk:e / 2<2 ^ k:=by omega
    by_cases h1:e % 2=1;·rw [if_pos h1,h1,IK (by rfl)];exact ih _ _ _ _ hk (Nat.mod_lt _ (by decide)) (Nat.mod_lt _ (by decide)) (by omega)
    ·rw [if_neg h1,TT (by simp_all)];exact ih _ _ _ _ hk (Nat.mod_lt _ (by decide)) ho (by omega)
 obtain ⟨m,hm⟩:∃ m,AY=m+10+1:=⟨AY - 11,rfl⟩
 rw [cu,VA8,AwE,AP,Na.2 (by omega),DN,Aq,bn,AP,hm];exact key 10 17 e 1 m he (by decide) (by decide) he
theorem IBu {p:List Nat} (h:Vb p):dB (up p)=some (up (kQ p)):=by
 have inner:∀ (k size start z:Nat) (m:Nat) (o:List Nat),0<size->start+2*size<=256->z<3329->Vb o->Qg (m+size*1) (.c2 (k:Int) (size:Int) (start:Int) (z:Int) (start:Int) (up o))=Qg m (.c2 (k:Int) (size:Int) (start:Int) (z:Int) ((start+size:Nat):Int) (up (Ob (fun j o=>kR z size (start+j) o) size 0 o))):=fun k size start z m o hs hst hz ho=>(AwS (Lp:=Qg) (st:=fun j o=>.c2 (k:Int) (size:Int) (start:Int) (z:Int) ((start+j:Nat):Int) (up o)) (f:=fun j o=>kR z size (start+j) o) (P:=fun _ o=>Vb o) (n:=size) 1 (fun m j o hj ho=>by
  refine ⟨?_,NBE ho _ _ _⟩;have hl:=ho.1;have h1:=ho.get (start+j);have h2:=ho.get (start+j+size);have e1:AV (((start+j:Nat):Int)+1)=((start+(j+1):Nat):Int):=wn (n:=start+(j+1)) (by omega);have e2:AV (((start+j:Nat):Int)+(size:Int))=((start+j+size:Nat):Int):=wn (n:=start+j+size) (by omega);have e3:AV ((start:Int)+(size:Int))=((start+size:Nat):Int):=wn (n:=start+size) (by omega);have hzb:z*o.getD (start+j+size) 0<3329*3329:=Nat.mul_lt_mul'' hz h2;have e4:AV ((z:Int)*((o.getD (start+j+size) 0:Nat):Int))=((z*o.getD (start+j+size) 0:Nat):Int):=by rw [show (z:Int)*((o.getD (start+j+size) 0:Nat):Int)=((z*o.getD (start+j+size) 0:Nat):Int) from (Int.natCast_mul _ _).symm];exact wn (by omega)
  rw [Qg];simp only [dD,mk,e1,e2,e3,BR,Jg,e4];have e5:AV (((o.getD (start+j) 0:Nat):Int)+((z*o.getD (start+j+size) 0:Nat):Int)) % 3329=(((o.getD (start+j) 0+z*o.getD (start+j+size) 0 % 3329) % 3329:Nat):Int):=by grind [A8]
  have e6:AV (((o.getD (start+j) 0:Nat):Int) - ((z*o.getD (start+j+size) 0:Nat):Int)) % 3329=(((o.getD (start+j) 0+3329 - z*o.getD (start+j+size) 0 % 3329) % 3329:Nat):Int):=by grind [A8]
  rw [bn,AP,bn,AP,e5,e6,Jc,Jc,IK (by simp_all),IK (AzJ (by omega)),IK (AzJ (by omega)),IK (AzJ (by omega)),IK (AzJ (by omega)),IK (AzJ (by grind)),List.set_comm _ _ (show start+j≠start+j+size by omega)];rfl) size 0 m o (by omega) ho).1
 have level:∀ (k0 size c:Nat) (m:Nat) (o:List Nat),1<size->size*c=128->k0=c->Vb o->Qg (m+1+c*(size+2)+1) (.c0 (k0:Int) (size:Int) (up o))=Qg m (.c0 ((k0+c:Nat):Int) ((size / 2:Nat):Int) (up (VF k0 size c o))):=by
  intro k0 size c m o hs hc hk ho;have hsc:size<=128/\c<=64:=by refine ⟨Nat.le_of_dvd (by decide) ⟨c,hc.symm⟩,?_⟩;have h2:2*c<=size*c:=Nat.mul_le_mul_right c hs;omega
  have s:=AwS (Lp:=Qg) (st:=fun i o=>.c1 ((k0+i:Nat):Int) (size:Int) ((2*size*i:Nat):Int) (up o)) (f:=YAt k0 size) (P:=fun _ o=>Vb o) (n:=c) (size+2) (fun m i o hi ho=>by
   refine ⟨?_,OBE ho _ _ _⟩;have hb:size*(i+1)<=size*c:=Nat.mul_le_mul_left size hi;have hb2:2*size*i=2*(size*i):=Nat.mul_assoc 2 size i;have hb3:2*size*(i+1)=2*size*i+2*size:=Nat.mul_succ _ _;rw [Nat.mul_succ] at hb;have e1:AV (((k0+i:Nat):Int)+1)=((k0+(i+1):Nat):Int):=wn (n:=k0+(i+1)) (by omega);have e2:AV (2*(size:Int))=((2*size:Nat):Int):=wn (n:=2*size) (by omega);have e3:AV (((2*size*i:Nat):Int)+((2*size:Nat):Int))=((2*size*(i+1):Nat):Int):=by grind [wn]
   have e4:AV (((2*size*i:Nat):Int)+(size:Int))=((2*size*i+size:Nat):Int):=wn (n:=2*size*i+size) (by omega);have h7:=XAt (k0+i);rw [show m+(size+2)=m+1+size*1+1 by omega,Qg];simp only [dD,mk,e1];rw [IK (by grind),RBS (n:=k0+i) (by omega),AP,SBS (e:=t7 (k0+i)) (by omega),AP];refine (inner (k0+(i+1)) size (2*size*i) _ (m+1) o (by omega) (by omega) (WAt _) ho).trans ?_;rw [Qg];simp only [dD,mk,e2,e3,e4];rw [TT (by simp)];rfl)
  rw [Qg];simp only [dD,mk];rw [IK (by grind)];refine (s c 0 (m+1) o (by omega) ho).1.trans ?_;have hb2:2*size*c=256:=by grind
  have e5:AV ((size:Int).tdiv 2)=((size / 2:Nat):Int):=wn (n:=size / 2) (by omega);rw [Qg];simp only [dD,mk,e5];rw [TT (by simp_all)];rfl
 have hl:=h.1;obtain ⟨m,hm⟩:∃ m,AY=m+1+1+64*(2+2)+1+1+32*(4+2)+1+1+16*(8+2)+1+1+8*(16+2)+1+1+4*(32+2)+1+1+2*(64+2)+1+1+1*(128+2)+1:=⟨AY - 1165,by rfl⟩
 rw [dB,XA8,mk,kN h,AP,DN,Aq,HBu (by grind [D7]),AP,hm];have o1:=AzQ h 1 128 1;have o2:=AzQ o1 2 64 2;have o3:=AzQ o2 4 32 4;have o4:=AzQ o3 8 16 8;have o5:=AzQ o4 16 8 16;have o6:=AzQ o5 32 4 32;refine (level 1 128 1 _ p (by omega) rfl rfl h).trans ?_;refine (level 2 64 2 _ _ (by omega) rfl rfl o1).trans ?_;refine (level 4 32 4 _ _ (by omega) rfl rfl o2).trans ?_;refine (level 8 16 8 _ _ (by omega) rfl rfl o3).trans ?_;refine (level 16 8 16 _ _ (by omega) rfl rfl o4).trans ?_;refine (level 32 4 32 _ _ (by omega) rfl rfl o5).trans ?_;refine (level 64 2 64 (m+1) _ (by omega) rfl rfl o6).trans ?_;rfl
theorem TBS {a b:List Nat} (ha:Vb a) (hb:Vb b):dF [up a,up b]=some [up (kQ a),up (kQ b)]:=by
 have w0:AV (0+1)=1:=by decide
 have w1:AV (1+1)=2:=by decide
 obtain ⟨m,hm⟩:∃ m,AY=m+3:=⟨AY - 3,rfl⟩
 rw [dF,YA8,hm];grind [EAq,ZA8,IBu]
theorem UBS {seed:AA} {i j:Nat} (h:seed.size<=1000) (hi:i<256) (hj:j<256):dG seed (i:Int) (j:Int)=some (up (IE seed i j)):=by
 have h1:KP (i:Int)=some (Awl i):=Po (by omega) (by omega);have h2:KP (j:Int)=some (Awl j):=Po (by omega) (by omega);have hz:∀ n,(Awl n).size=1:=fun n=>by rfl
 have hz1:=hz i;have hz2:=hz j;have hsz:((seed++Awl i)++Awl j).size=seed.size+2:=by simp_all
 rw [dG,ALV,mk,h1,AP,IK (by grind),h2,AP,IK (by grind),NBS (by omega),AP,IE];generalize hS:sd ((seed++Awl i)++Awl j)=S;have hSz:S.size=200:=by grind [UAt]
 have inner:∀ (k:Nat) (x:F6) (m:Nat) (o:List Nat),k<4000->o.length<256->U1 (m+3) (.c1 (o.length:Int) (k:Int) 2 0 x (up (Jd o)) [((AwR S k:Nat):Int),((Lm S k:Nat):Int)])=U1 m (.c0 (((Azd S k o).length:Nat):Int) ((k+1:Nat):Int) x (up (Jd (Azd S k o)))):=by
  intro k x m o hk ho;have one:∀ (v:Nat) (m:Nat) (o:List Nat) (u:Int) (y:Nat),(u=0/\y=AwR S k\/u=1/\y=Lm S k)->o.length<=256->U1 (m+1) (.c1 (o.length:Int) (k:Int) 2 u x (up (Jd o)) [((AwR S k:Nat):Int),((Lm S k:Nat):Int)])=U1 m (.c1 (((RV y o).length:Nat):Int) (k:Int) 2 (u+1) x (up (Jd (RV y o))) [((AwR S k:Nat):Int),((Lm S k:Nat):Int)]):=by
   intro v m o u y hu ho;have hg:([((AwR S k:Nat):Int),((Lm S k:Nat):Int)]:List Int).getD u.toNat 0=(y:Int):=by grind
   have hc:(decide (0<=u) && decide (u<(([((AwR S k:Nat):Int),((Lm S k:Nat):Int)]:List Int).length:Int)))=true:=by grind
   have hu2:u<2/\AV (u+1)=u+1:=by rcases hu with ⟨rfl,rfl⟩ | ⟨rfl,rfl⟩ <;> decide
   have hw:AV ((o.length:Int)+1)=((o.length+1:Nat):Int):=wn (n:=o.length+1) (by omega);have hpl:(Jd o).length=256:=by simp_all [Jd]
   rw [U1];simp only [kS,mk];rw [IK (by simp_all),hc,Ar,hg,hu2.2,hw,RV];by_cases h1:y<3329
   ·rw [IK (by grind)];by_cases h2:o.length<256;·rw [IK (by grind),IK (AzJ (by omega)),BR,Jc,OBs h2,if_pos ⟨h1,h2⟩,List.length_append,List.length_singleton]
    grind
   grind
  have hl1:(RV (AwR S k) o).length<=256:=by grind [RV]
  have hw:AV ((k:Int)+1)=((k+1:Nat):Int):=wn (n:=k+1) (by omega);refine (one 0 (m+2) o 0 _ (.inl ⟨rfl,rfl⟩) (by omega)).trans ?_;refine (one 0 (m+1) _ (0+1) _ (.inr ⟨rfl,rfl⟩) hl1).trans ?_;rw [U1];simp only [kS,mk,hw];rfl
 have key:∀ (r k:Nat) (m:Nat) (x:F6) (o:List Nat),k+r=4000->UQ o->NH S (3*k) x->U1 (m+r*4+1) (.c0 (o.length:Int) (k:Int) x (up (Jd o)))=some (up (Jd (Ym S r k o))):=by
  intro r;induction r with
  | zero=>
   intro k m x o hk ho hx;rw [U1];simp only [kS,mk];rw [TT (by simp_all)];rfl
  | succ r ih=>
   intro k m x o hk ho hx;rw [show m+(r+1)*4+1=(m+r*4+1)+3+1 by omega,U1,Ym];simp only [kS,mk];rw [IK (by grind)];by_cases hlt:o.length<256
   ·obtain ⟨x',e,hx'⟩:=OBS (n:=3) hSz hx (by omega)
    have e:bZ x 3=_:=e;have hs3:(ofBytes (up (Axe S (3*k) 3))).size=3:=by rfl
    have t0:bt (ofBytes (up (Axe S (3*k) 3))) 0=((strm S (3*k):Nat):Int):=by grind [RU,XC]
    have t1:bt (ofBytes (up (Axe S (3*k) 3))) 1=((strm S (3*k+1):Nat):Int):=by grind [RU,XC]
    have t2:bt (ofBytes (up (Axe S (3*k) 3))) 2=((strm S (3*k+2):Nat):Int):=by rw [show (2:Int)=((2:Nat):Int) from rfl,RU,XC S (by omega)]
    have l0:=dH S (3*k);have l1:=dH S (3*k+1);have l2:=dH S (3*k+2);have va:AV (((strm S (3*k):Nat):Int)+AV (((strm S (3*k+1):Nat):Int).tmod 16*256))=((AwR S k:Nat):Int):=by grind [A8,AwR]
    have vb:AV (AV (((strm S (3*k+1):Nat):Int).tdiv 16)+AV (16*((strm S (3*k+2):Nat):Int)))=((Lm S k:Nat):Int):=by grind [A8,Lm]
    rw [IK (by grind),e,AP];dsimp only;rw [t0,t1,t2,wn (n:=strm S (3*k)) (by omega),wn (n:=strm S (3*k+1)) (by omega),wn (n:=strm S (3*k+2)) (by omega),va,vb,IK (by rfl),IK (by rfl),IK (by rfl),if_pos hlt];refine (inner k x' (m+r*4+1) o (by omega) hlt).trans ?_;exact ih (k+1) m x' _ (by omega) (VG ho) (by omega)
   grind
 obtain ⟨m,hm⟩:∃ m,AY=m+4000*4+1:=⟨AY - 16001,by rfl⟩
 rw [hm,show (256:Int).toNat=256 from rfl,<-Avq];refine key 4000 0 m ⟨S,0⟩ [] (by omega) ⟨DJ _,fun _ h=>by cases h⟩ ?_;grind [VAt]
theorem VBS {rho:AA} {i:Nat} (h:rho.size<=1000) (hi:i<256):dI rho (i:Int) false=some [up (IE rho 0 i),up (IE rho 1 i)]:=by
 have u0:dG rho 0 (i:Int)=some (up (IE rho 0 i)):=UBS (i:=0) (j:=i) h (by decide) hi;have u1:dG rho 1 (i:Int)=some (up (IE rho 1 i)):=UBS (i:=1) (j:=i) h (by decide) hi;have w0:AV (0+1)=1:=by decide
 have w1:AV (1+1)=2:=by decide
 obtain ⟨m,hm⟩:∃ m,AY=m+3:=⟨AY - 3,rfl⟩
 simp_all [dI,BA9,FAq,CA9,mk]
theorem WBS {a b:List Nat} (ha:Vb a) (hb:Vb b):xU (up a) (up b)=some (up (mulL a b)):=by
 have hal:=ha.1;have hbl:=hb.1
 have s:=AwS (Lp:=kT) (st:=fun i o=>.c0 (up a) (up b) (i:Int) (up o)) (f:=fun i o=>(o.set (2*i) (Aw6 a b (2*i))).set (2*i+1) (Aw6 a b (2*i+1))) (P:=fun _ o=>o.length=256) (n:=128) 1 (fun m i o hi ho=>by
  refine ⟨?_,by simp_all⟩;have h7:=XAt i;have w1:AV ((i:Int)+1)=((i+1:Nat):Int):=wn (n:=i+1) (by omega);have e1:AV (2*(i:Int))=((2*i:Nat):Int):=wn (n:=2*i) (by omega);have e2:AV (((2*i:Nat):Int)+1)=((2*i+1:Nat):Int):=wn (n:=2*i+1) (by omega);have e3:AV (2*((t7 i:Nat):Int))=((2*t7 i:Nat):Int):=wn (n:=2*t7 i) (by omega);have e4:AV (((2*t7 i:Nat):Int)+1)=((2*t7 i+1:Nat):Int):=wn (n:=2*t7 i+1) (by omega);have g:=WAt (2*t7 i+1);have a0:=ha.get (2*i);have a1:=ha.get (2*i+1);have b0:=hb.get (2*i);have b1:=hb.get (2*i+1);have p00:=mul_lt a0 b0;have p11:=mul_lt a1 b1;have p01:=mul_lt a0 b1;have p10:=mul_lt a1 b0;have hm:a.getD (2*i+1) 0*b.getD (2*i+1) 0 % 3329<3329:=Nat.mod_lt _ (by decide);have pg:=mul_lt hm g;rw [kT];simp only [EA9,mk,w1,e1,e2,BR,Jg];rw [IK (by grind),RBS (by omega),AP,e3,e4,SBS (by omega),AP,dA a1 b1,Yn hm g,Yn a0 b0,Yn a0 b1,Yn a1 b0,bn,AP,bn,AP];have v1:(AV (((a.getD (2*i) 0*b.getD (2*i) 0:Nat):Int)+((a.getD (2*i+1) 0*b.getD (2*i+1) 0 % 3329*Yk (2*t7 i+1):Nat):Int))) % 3329=((Aw6 a b (2*i):Nat):Int):=by grind [PBQ,wn]
  have v2:(AV (((a.getD (2*i) 0*b.getD (2*i+1) 0:Nat):Int)+((a.getD (2*i+1) 0*b.getD (2*i) 0:Nat):Int))) % 3329=((Aw6 a b (2*i+1):Nat):Int):=by grind [QBQ,wn]
  rw [v1,v2,Jc,Jc,IK (AzJ (by omega)),IK (AzJ (by omega)),IK (AzJ (by omega)),IK (AzJ (by omega)),IK (AzJ (by omega)),IK (AzJ (by grind))])
 obtain ⟨m,hm⟩:∃ m,AY=m+1+128*1:=⟨AY - 129,by rfl⟩
 rw [xU,DA9,mk,kN ha,AP,DN,Aq,kN hb,AP,DN,Aq,hm,show (256:Int).toNat=256 from rfl,<-Avq];refine (s 128 0 (m+1) (List.replicate 256 0) (by omega) List.length_replicate).1.trans ?_;rw [RBQ,show 2*128=256 from rfl,Nat.mul_zero,xM (v:=Aw6 a b) List.length_replicate,kT];rfl
theorem YBE {a b:List Nat} (ha:Vb a) (hb:Vb b):VZ (up a) (up b)=some (up (dJ a b)):=by
 have hal:=ha.1;have hbl:=hb.1;have hn:IAq (up a) (up b) 268=some (up (dJ a b)):=by
  have s:=AwS (Lp:=kU) (st:=fun i o=>.c0 (up a) (up b) 268 ((256:Nat):Int) (i:Int) (up o)) (f:=fun i o=>o.set i ((a.getD i 0+b.getD i 0) % 3329)) (P:=fun _ o=>o.length=256) (n:=256) 1 (fun m i o hi ho=>by
   refine ⟨?_,by rw [List.length_set,ho]⟩;have w1:AV ((i:Int)+1)=((i+1:Nat):Int):=wn (n:=i+1) (by omega);have a0:=ha.get i;have b0:=hb.get i;have v:(AV (((a.getD i 0:Nat):Int)+((b.getD i 0:Nat):Int))) % 3329=(((a.getD i 0+b.getD i 0) % 3329:Nat):Int):=by rw [<-Int.natCast_add,wn (by omega)];rfl
   rw [kU];simp only [HAq,mk,w1,BR,Jg];rw [Ep (by omega),IK (AzJ (by omega)),IK (AzJ (by omega)),IK (by rfl),GAq,FA9,mk,AP,bn,AP,v,Jc,IK (AzJ (by omega))])
  obtain ⟨m,hm⟩:∃ m,AY=m+1+256*1:=⟨AY - 257,by have:=FM (n:=257) (by omega);omega⟩
  rw [IAq,HA9,mk,kN ha,AP,DN,Aq,kN hb,AP,DN,Aq,hm,show (256:Int).toNat=256 from rfl,List.length_replicate,<-Avq];refine (s 256 0 (m+1) (List.replicate 256 0) (by omega) List.length_replicate).1.trans ?_;rw [xM (v:=fun i=>(a.getD i 0+b.getD i 0) % 3329) List.length_replicate,kU];simp only [HAq,mk];rw [Jh (by omega)];rfl
 rw [VZ,IA9,mk,hn];rfl
theorem JBu {a0 a1 b0 b1:List Nat} (ha0:Vb a0) (ha1:Vb a1) (hb0:Vb b0) (hb1:Vb b1):Yo [up a0,up a1] [up b0,up b1]=some (up (BAu a0 a1 b0 b1)):=by
 obtain ⟨m,hm⟩:∃ m,AY=m+1+1+1:=⟨AY - 3,rfl⟩
 rw [Yo,JA9,mk,hm,show (256:Int).toNat=256 from rfl,<-Avq,kV];simp only [JAq,mk];rw [IK (by rfl),IK (by rfl),IK (by rfl),show ([up a0,up a1]:List (List Int)).getD (0:Int).toNat []=up a0 from rfl,show ([up b0,up b1]:List (List Int)).getD (0:Int).toNat []=up b0 from rfl,WBS ha0 hb0,AP,YBE UBQ (ZAt _ _),AP,show AV (0+1)=1 by decide,kV];simp only [JAq,mk];rw [IK (by rfl),IK (by rfl),IK (by rfl),show ([up a0,up a1]:List (List Int)).getD (1:Int).toNat []=up a1 from rfl,show ([up b0,up b1]:List (List Int)).getD (1:Int).toNat []=up b1 from rfl,WBS ha1 hb1,AP,YBE (AFL _ _) (ZAt _ _),AP,show AV (1+1)=2 by decide,kV];rfl
def AyX (l:List Nat) (t:Nat):Nat:=l.getD (t / 12) 0 / 2 ^ (t % 12) % 2
def Ua (l:List Nat) (p:Nat):Nat->Nat
 | 0=>0
 | c+1=>Ua l p c+AyX l (8*p+c)*2 ^ c
theorem ZBE (l:List Nat) (p:Nat):∀ c,Ua l p c<2 ^ c
 | 0=>Nat.two_pow_pos _
 | c+1=>by have h1:=ZBE l p c;have h2:AyX l (8*p+c)<2:=Nat.mod_lt _ (by decide);have h3:(AyX l (8*p+c)+1)*2 ^ c<=2*2 ^ c:=Nat.mul_le_mul_right _ h2;grind [Ua]
theorem KBu {l:List Nat} (h:Vb l) (p:Nat):Ua l p 8=Qj l p:=by
 have hx:=h.get (2*(p / 3));have hy:=h.get (2*(p / 3)+1);have e:Ua l p 8=AyX l (8*p)+AyX l (8*p+1)*2+AyX l (8*p+2)*4+AyX l (8*p+3)*8+AyX l (8*p+4)*16+AyX l (8*p+5)*32+AyX l (8*p+6)*64+AyX l (8*p+7)*128:=by simp [Ua]
 have hp:p=3*(p / 3)+p % 3:=by omega
 generalize hq:p / 3=q at hp hx hy;have h3:p % 3<3:=Nat.mod_lt _ (by decide);have b:∀ t i k,t=12*i+k->k<12->AyX l t=l.getD i 0 / 2 ^ k % 2:=fun t i k h1 h2=>by rw [AyX,show t / 12=i by omega,show t % 12=k by omega]
 rcases (show p % 3=0\/p % 3=1\/p % 3=2 by omega) with h0 | h0 | h0
 ·rw [h0] at hp;subst hp;rw [e,Nat.add_zero,XBQ,b _ (2*q) 0 (by omega) (by omega),b _ (2*q) 1 (by omega) (by omega),b _ (2*q) 2 (by omega) (by omega),b _ (2*q) 3 (by omega) (by omega),b _ (2*q) 4 (by omega) (by omega),b _ (2*q) 5 (by omega) (by omega),b _ (2*q) 6 (by omega) (by omega),b _ (2*q) 7 (by omega) (by omega)];omega
 ·rw [h0] at hp;subst hp;rw [e,YBQ,b _ (2*q) 8 (by omega) (by omega),b _ (2*q) 9 (by omega) (by omega),b _ (2*q) 10 (by omega) (by omega),b _ (2*q) 11 (by omega) (by omega),b _ (2*q+1) 0 (by omega) (by omega),b _ (2*q+1) 1 (by omega) (by omega),b _ (2*q+1) 2 (by omega) (by omega),b _ (2*q+1) 3 (by omega) (by omega)];omega
 ·rw [h0] at hp;subst hp;rw [e,ZBQ,b _ (2*q+1) 4 (by omega) (by omega),b _ (2*q+1) 5 (by omega) (by omega),b _ (2*q+1) 6 (by omega) (by omega),b _ (2*q+1) 7 (by omega) (by omega),b _ (2*q+1) 8 (by omega) (by omega),b _ (2*q+1) 9 (by omega) (by omega),b _ (2*q+1) 10 (by omega) (by omega),b _ (2*q+1) 11 (by omega) (by omega)];omega
theorem AvC {a b:Nat} (ha:a<256) (hb:b<256):w8 (((BitVec.toNat ((BitVec.ofInt (IntKind.bits IntKind.u8) (a:Int)) ||| (BitVec.ofInt (IntKind.bits IntKind.u8) (b:Int)))):Nat):Int)=((a ||| b:Nat):Int):=by
 have h:a ||| b<256:=Nat.or_lt_two_pow (n:=8) ha hb
 grind [bv8,Nq]
def ALg (l:List Nat) (t:Nat) (o:List Nat):Prop:=o.length=384/\∀ p,p<384->o.getD p 0=Ua l p (min 8 (t - 8*p))
theorem LBu {l:List Nat} (h:Vb l):xW (up l) 12=some (NI l):=by
 have hl:=h.1;have c2:∀ k:Nat,(2:Int) ^ k=((2 ^ k:Nat):Int):=fun k=>by rfl
 have fd:∀ (a k:Nat),Int.fdiv (a:Int) ((2 ^ k:Nat):Int)=((a / 2 ^ k:Nat):Int):=fun a k=>by grind
 have inner:∀ (i:Nat),i<256->∀ (m:Nat) (o:List Nat),ALg l (12*i) o->_:=fun i hi m o ho=>AwS (Lp:=Yp) (st:=fun k o=>.c1 12 (i:Int) ((l.getD i 0:Nat):Int) (up l) ((256:Nat):Int) (i:Int) 12 (k:Int) (up o)) (f:=fun k o=>o.set ((12*i+k) / 8) (o.getD ((12*i+k) / 8) 0 ||| AyX l (12*i+k)*2 ^ ((12*i+k) % 8))) (P:=fun k o=>ALg l (12*i+k) o) (n:=12) 1 (fun m k o hk ho=>by
  obtain ⟨hol,hok⟩:=ho
  have hx:=h.get i;have hbit:AyX l (12*i+k)=l.getD i 0 / 2 ^ k % 2:=by grind [AyX]
  have hw1:AV ((i:Int)*12)=((12*i:Nat):Int):=by grind [wn]
  have hw2:AV (((12*i:Nat):Int)+(k:Int))=((12*i+k:Nat):Int):=wn (n:=12*i+k) (by omega);obtain ⟨t,ht⟩:∃ t,t=12*i+k:=⟨_,rfl⟩
  rw [<-ht] at hbit hw2 hok ⊢;have hd:t / 8<384:=by omega
  have hv:=hok (t / 8) hd;rw [show min 8 (t - 8*(t / 8))=t % 8 by omega] at hv;have hpl:=ZBE l (t / 8) (t % 8);have hor:Ua l (t / 8) (t % 8) ||| AyX l t*2 ^ (t % 8)=Ua l (t / 8) (t % 8+1):=by have:=Nat.shiftLeft_add_eq_or_of_lt hpl (AyX l t);grind [Nat.shiftLeft_eq,Ua]
  have hlt:=ZBE l (t / 8) (t % 8+1);have h8:2 ^ (t % 8+1)<=2 ^ 8:=Nat.pow_le_pow_right (by decide) (by omega);have h80:2 ^ (t % 8)<=2 ^ 8:=Nat.pow_le_pow_right (by decide) (by omega);have h256:(2:Nat) ^ 8=256:=rfl;have hbp:AyX l t*2 ^ (t % 8)<256:=by grind [Ua]
  have hb2:AyX l t<2:=Nat.mod_lt _ (by decide);refine ⟨?_,by simp_all,fun p hp=>?_⟩;·have w1:AV ((k:Int)+1)=((k+1:Nat):Int):=wn (n:=k+1) (by omega);have e1:AV ((t:Int).tdiv 8)=((t / 8:Nat):Int):=wn (n:=t / 8) (by omega);have e2:(t:Int).tmod 8=((t % 8:Nat):Int):=rfl;have e3:Min.min (t % 8) (IntKind.bits IntKind.u8)=t % 8:=Nat.min_eq_left (by show t % 8<=8;omega);have e4:Min.min k (IntKind.bits IntKind.i64)=k:=Nat.min_eq_left (by show k<=64;omega);have hdv:l.getD i 0 / 2 ^ k<=l.getD i 0:=Nat.div_le_self _ _;rw [Yp];simp only [KAq,mk,w1,hw1,hw2,e1,e2,BR,e3,e4,c2,fd,Jg];rw [and1 (n:=l.getD i 0 / 2 ^ k) (by omega),<-hbit,Nq (n:=((AyX l t:Nat):Int)) (by omega) (by omega),<-Int.natCast_mul,Nq (n:=((AyX l t*2 ^ (t % 8):Nat):Int)) (by omega) (by omega),hv,AvC (by omega) hbp,Jc,IK (by grind),IK (AzJ (by omega)),IK (by rfl),IK (by rfl),IK (AzJ (by omega))]
  grind) 12 0 m o (by omega) ho
 have so:=AwS (Lp:=Yp) (st:=fun i o=>.c0 12 (up l) ((256:Nat):Int) (i:Int) (up o)) (f:=fun i o=>Ob (fun k o=>o.set ((12*i+k) / 8) (o.getD ((12*i+k) / 8) 0 ||| AyX l (12*i+k)*2 ^ ((12*i+k) % 8))) 12 0 o) (P:=fun i o=>ALg l (12*i) o) (n:=256) 14 (fun m i o hi ho=>by
  obtain ⟨i1,i2⟩:=inner i hi (m+1) o ho
  refine ⟨?_,i2⟩;have w1:AV ((i:Int)+1)=((i+1:Nat):Int):=wn (n:=i+1) (by omega);grind [Yp,KAq,BR,Jg,AzJ])
 obtain ⟨m,hm⟩:∃ m,AY=m+1+256*14:=⟨AY - 3585,by rfl⟩
 have hz:(AV ((AV ((AV (((256:Nat):Int)*12))+7)).tdiv 8))=384:=by decide
 rw [xW,KA9,mk,D7,hl,hz,hm,IK (by decide),show (384:Int).toNat=384 from rfl,<-Avq]
 obtain ⟨a1,a2,a3⟩:=so 256 0 (m+1) (List.replicate 384 0) (by omega) ⟨List.length_replicate,fun p hp=>by
  rw [show min 8 (12*0 - 8*p)=0 by omega,List.getD_eq_getElem?_getD,List.getElem?_replicate];split <;> rfl⟩
 refine a1.trans ?_;generalize Ob (fun i o=>Ob (fun k o=>o.set ((12*i+k) / 8) (o.getD ((12*i+k) / 8) 0 ||| AyX l (12*i+k)*2 ^ ((12*i+k) % 8))) 12 0 o) 256 0 (List.replicate 384 0)=o at a2 a3;have hfin:o=(List.range 384).map (Qj l):=RAt (by rw [a2,List.length_map,List.length_range]) fun p hp=>by grind [KBu]
 rw [hfin,Yp];rfl
theorem XBS {l:List Nat} (h:Vb l):dK (up l)=some (NI l):=by simp_all [dK,LA9,mk,kN,LBu]
theorem YBS {seed:AA} (h:seed.size=32):xX seed=some (⟨RX seed,AwC seed⟩,true):=by
 have z0:(⟨#[]⟩:AA).size=0:=rfl;have z1:(⟨#[114]⟩:AA).size=1:=rfl;have z2:(⟨#[115]⟩:AA).size=1:=rfl;have z3:(⟨#[122]⟩:AA).size=1:=rfl;have hd:=AxT seed;have hrs:(Axm seed).size=32:=AxT _;have hss:(Sj seed).size=32:=AxT _;have hps:=CBR seed;have hr:J9 (Ed seed++⟨#[114]⟩)=some (Axm seed):=Oy (by simp_all);have hs:J9 (Ed seed++⟨#[115]⟩)=some (Sj seed):=Oy (by simp_all);have hzz:J9 (Ed seed++⟨#[122]⟩)=some (Ed (Ed seed++⟨#[122]⟩)):=Oy (by simp_all);have hpp:J9 (RX seed)=some (Ed (RX seed)):=Oy (by omega);have m0:cO (Sj seed) 0=some [up (LG (Sj seed) 0),up (LG (Sj seed) 1)]:=QBS (f:=0) (by omega) (by decide);have m2:cO (Sj seed) 2=some [up (LG (Sj seed) 2),up (LG (Sj seed) 3)]:=QBS (f:=2) (by omega) (by decide);have n0:dF [up (LG (Sj seed) 0),up (LG (Sj seed) 1)]=some [up (pS seed 0),up (pS seed 1)]:=TBS (kW _ _) (kW _ _);have n2:dF [up (LG (Sj seed) 2),up (LG (Sj seed) 3)]=some [up (pS seed 2),up (pS seed 3)]:=TBS (kW _ _) (kW _ _);have r0:dI (Axm seed) 0 false=some [up (IE (Axm seed) 0 0),up (IE (Axm seed) 1 0)]:=VBS (i:=0) (by omega) (by decide);have r1:dI (Axm seed) 1 false=some [up (IE (Axm seed) 0 1),up (IE (Axm seed) 1 1)]:=VBS (i:=1) (by omega) (by decide);have b0:∀ i,dK (up (pS seed i))=some (NI (pS seed i)):=fun i=>XBS (Yq _ _)
 have d0:∀ i,Yo [up (IE (Axm seed) 0 i),up (IE (Axm seed) 1 i)] [up (pS seed 0),up (pS seed 1)]=some (up (dL seed i)):=fun i=>JBu (CAu _ _ _) (CAu _ _ _) (Yq _ _) (Yq _ _)
 have a0:∀ i,VZ (up (dL seed i)) (up (pS seed (2+i)))=some (up (pT seed i)):=fun i=>YBE (TBQ _ _ _ _) (Yq _ _)
 have GP:VZ (up (dL seed 0)) (up (pS seed 2))=some (up (pT seed 0)):=a0 0;have GQ:VZ (up (dL seed 1)) (up (pS seed 3))=some (up (pT seed 1)):=a0 1;have t0:∀ i,dK (up (pT seed i))=some (NI (pT seed i)):=fun i=>XBS (BBR _ _)
 have g0:∀ a b:List Int,([a,b]:List (List Int)).getD (0:Int).toNat []=a:=fun _ _=>rfl
 have g1:∀ a b:List Int,([a,b]:List (List Int)).getD (1:Int).toNat []=b:=fun _ _=>rfl
 have w0:AV (0+1)=1:=by decide
 have w1:AV (1+1)=2:=by decide
 obtain ⟨m,hm⟩:∃ m,AY=m+3:=⟨AY - 3,rfl⟩
 rw [xX,MA9,mk,TT (by simp_all),Oy (by omega),AP,IK (by rfl),hr,AP,IK (by rfl),hs,AP,m0,AP,n0,AP,m2,AP,n2,AP,hm];rw [kX];simp only [xY,mk];rw [IK (by rfl),r0,AP,d0,AP,IK (by rfl),g0,GP,AP,t0,AP,IK (by rfl),IK (by rfl),g0,b0,AP,IK (by rfl),w0];rw [kX];simp only [xY,mk];rw [IK (by rfl),r1,AP,d0,AP,IK (by rfl),g1,GQ,AP,t0,AP,IK (by simp_all [RY]),IK (by rfl),g1,b0,AP,IK (by simp_all [RY]),w1];rw [kX];simp only [xY,mk];rw [TT (by rfl),IK (by simp_all [RY])];rw [show ((⟨#[]⟩:AA)++NI (pT seed 0)++NI (pT seed 1))++Axm seed=RX seed from rfl,IK (by simp_all [RY]),hpp,AP,IK (by simp_all [AxT,RY]),IK (by rfl),hzz,AP,IK (by simp_all [AxT,RY])];rfl
theorem MBu {s t:AA} (h:t.size≠768):kY s t=some (⟨#[]⟩,false):=by rw [kY,XA9,mk,WA9,VA9,mk,UA9,SA9,mk,show ((t.size:Int) != 768)=true from bne_iff_ne.2 (by omega)];simp
theorem NBu (x:Af) (h f:Bool):LAq x h f=some (Axs x h f):=by rw [LAq,YA9,mk,xZ,AP,Axs];cases AwH x <;> cases x.CY <;> cases x.CX <;> cases h <;> cases f <;> rfl
theorem OBu {s:AA} (hs:s.size<=1000):MAq s=some (AxD (s++⟨#[116]⟩)):=by have z:(⟨#[116]⟩:AA).size=1:=rfl;rw [MAq,ZA9,mk,IK (by grind),MBP (by grind)];rfl
theorem PBu (x:Af):NAq x=some (xg x):=by rw [NAq,ALr,mk,xZ,AP,xg];grind [YBS,bV,OBu]
theorem QBu {tk:AA->AA×Bool} {b:Ap} {c:CV} {x:Af} (h:PB b) (hc:c.fText.size<=1000) (hx:AwV b.AU.AZ x.fId=some x) (htk:c.Au=12->∀ v:AA,v.size=32->kY (AwC v) c.fText=some (tk (AwC v))):OAq b c x=some (XA tk b c x):=by
 have hk:(Ld b).size<=900000000:=by simp [Ld,AxT]
 rw [OAq,BBA,mk,XA];simp only [Awh (n:=8) (by decide),Awh (n:=6) (by decide),LBr,KAs,JBS h.key,UBt hk,NBu,PBu,AP];cases c.Au == 6
 ·cases c.Au == 5
  ·cases c.Au == 10
   ·cases h12:c.Au == 12
    ·cases c.Au == 8
     ·cases c.Au == 7;·cases c.Au == 9 <;> rfl
      ·rfl
     ·rw [Ar,Ar];cases (Axs x c.CY c.CX).2 <;> rfl
    grind [HBR,bV,YBS]
   grind
  grind [TBt]
 grind
theorem RBu {tk:AA->AA×Bool} {b:Ap} {c:CV} (h:PB b) (hd:Dec b) (hok:XD b=some true) (hu:b.CZ=true) (hc:AyI c=true) (hn:b.AU.fCount<10000) (htk:c.Au=12->∀ v:AA,v.size=32->kY (AwC v) c.fText=some (tk (AwC v))):RZ b c=some (Ib tk b c):=by
 have hs:=h.Nu;have ht:=h.things;have ho:=h.opn;have hz:=GBP hc;have h5:=(Ax0.1 h.J7).2.2.1.1;rw [RZ,PAq,mk,Ib,hok,AP,hu,FBP,hc,xk (by omega)];simp only [Awh (n:=9) (by decide),Awh (n:=1) (by decide),Awh (n:=2) (by decide),Awh (n:=5) (by decide),Awh (n:=6) (by decide),Awh (n:=7) (by decide),AP,DN,Aq];rw [TT (by simp_all),A8 (n:=b.CW+1) (by omega) (by omega),hd.opn];cases c.Au == 1
 ·rw [Aq,Aq];by_cases ha:Av3 b c.EJ<0;·simp_all
  ·rw [D6 ha,Aq,Aq];have hlt:Av3 b c.EJ<(b.BP.length:Int):=by
    rw [Av3] at ha ⊢;cases hp:KQ b.BP c.EJ 0 with
    | none=>simp_all
    | some j=>have:=(AFV hp).2;simp_all
   cases c.Au == 13
   ·rw [Aq,Aq];cases c.Au == 2
    ·rw [Aq,Aq,IK (by simp_all)];cases (b.BP.getD (Av3 b c.EJ).toNat ⟨0,false⟩).QW;·rfl
     ·rw [DN,Aq,Aq];cases c.Au == 3;·grind [XE,AwV,QBu,SBt,OBt]
      ·rw [Ar,Ar,Oy (by omega)];cases decide ((c.fText.size:Int) > 20) <;> rfl
    grind [QBq]
   ·rfl
 grind
def Avd:AA->AA×Bool:=fun _=>(⟨#[]⟩,false)
theorem SBu:((List.range 100).all fun m=>decide (Yr (m:Int)=some (VH (m:Int))))=true:=by kernel_rfl
theorem ZBS {n:Int} (h:0<=n/\n<100):Yr n=some (VH n):=by
 obtain ⟨m,rfl⟩:∃ m:Nat,n=(m:Int):=⟨n.toNat,by omega⟩
 exact of_decide_eq_true (List.all_eq_true.1 SBu m (List.mem_range.2 (by omega)))
theorem TBu {l:List Ah}:∀ {b:Bo},(Aye b l).2=true->(Aye b l).1.BM<=b.BM+(l.length:Int):=by induction l<;>grind [Aye,HBD]
theorem Good.UBu {k:AA} {l:List Ah} {b:Ap} (g:Good k l b):b.AU.BM<=(l.length:Int):=by have h:=TBu (l:=l) (b:=DX) (by rw [g.book]);rw [g.book,show DX.BM=0 from rfl,Int.zero_add] at h;exact h
def AwI (e:DW):Prop:=UW e=true/\(e.BA.Au=12->e.BA.fText.size≠768)
theorem AwI.call {e:DW} (h:AwI e) (hr:e.JY=false):AyI e.BA=true:=by have h1:=h.1;simp_all [UW]
structure AzZ (k:AA) (l:List Ah) (L:Bg):Prop where
 box:Good k l L.AX\/Down k l L.AX
 done:L.CO=l
 few:l.length<=L.Bq.length+1/\L.EN.length=L.Bq.length/\L.Cm.length<=L.Bq.length
 opn:L.AX.CW<=(L.Bq.length:Int)
theorem AzZ.down {k:AA} {l:List Ah} {L:Bg} (h:Down k l L.AX):L.AX.CZ=false/\L.AX.BD=[]/\L.AX.BP=[]/\L.AX.AU=DX/\L.AX.CW=0/\L.AX.BO=k/\Small L.AX.Bc/\Rt L.AX=true:=by
 obtain ⟨X,hX,Bk,_⟩:=h.box
 rw [hX];exact ⟨rfl,rfl,rfl,rfl,rfl,rfl,EBO (by omega),HBO (b:=⟨k,false,dk X X.size,DX,[],[],0⟩) h.Io (Uy (by omega) (by omega))⟩
theorem Good.dec {k:AA} {l:List Ah} {b:Ap} (g:Good k l b) (hl:l.length<60) (ho:b.CW<60):Dec b:=⟨ZBS (by have:=g.UBu;have:=g.pb.last;omega),ZBS (by have:=g.opn;omega)⟩
theorem Good.plan {k:AA} {l:List Ah} {b:Ap} {c:CV} (g:Good k l b) (hl:l.length<60) (ho:b.CW<60) (hc:AyI c=true) (h12:c.Au=12->c.fText.size≠768):RZ b c=some (Ib Avd b c):=
 RBu g.pb (g.dec hl ho) g.pOk g.up hc (by have:=g.cnt;omega) fun h v _=>MBu (h12 h)
theorem Good.carry {k:AA} {l:List Ah} {b:Ap} {c:CV} {code leaf:Int} (g:Good k l b) (hl:leaf<=1000):MK b c code leaf=some (Jb b c code leaf):=DBS g.kZ g.LAu.2 g.lives.2 hl
theorem AWZ {b:Ap} (hb:Ia b.AU=true) (hl:XF b=true) (t:Int):Avz b t<=16:=by
 rw [Avz];cases hx:AwV b.AU.AZ t with
 | none=>simp
 | some x=>
  obtain ⟨e1,e2⟩:=AxY hx
  have h1:=Ny (Axr (Ax0.1 hb).2.2.2.2.2.2 x e2).2.2;have h2:=GAu hl (by rw [e1];exact hx) (by omega);grind
def bW (L:Bg) (e:DW) (code:Int):List D8:=bif e.BA.Au == 5 && code == 0 then L.Cm++[⟨e.BA.Ag,Avz L.AX e.BA.Ag,(L.Bq.length:Int)⟩] else L.Cm
inductive Step (k:AA) (e:DW) (l:List Ah) (L:Bg):List Ah->Bg->Prop
 | call (g:Good k l L.AX) (hr:e.JY=false) (hc:e.Nr=false\/(Ib Avd L.AX e.BA).1=[]):Step k e l L (l++(Ib Avd L.AX e.BA).1) ⟨Ayl L.AX e.BA (Ib Avd L.AX e.BA),L.Bq++[(Ib Avd L.AX e.BA).2.1],L.EN++[(Ib Avd L.AX e.BA).2.2],bW L e (Ib Avd L.AX e.BA).2.1,L.CO++(Ib Avd L.AX e.BA).1⟩
 | cut (g:Good k l L.AX) (hr:e.JY=false) (r:Ah) (hp:(Ib Avd L.AX e.BA).1=[r]) (b':Ap) (l':List Ah) (d:Down k l' b') (hl:l'=l\/l'=l++[r]):Step k e l L l' ⟨b',L.Bq++[10],L.EN++[⟨#[]⟩],L.Cm,bif decide (l'.length > l.length) then L.CO++[r] else L.CO⟩
 | down (d:Down k l L.AX) (hr:e.JY=false):Step k e l L l ⟨L.AX,L.Bq++[9],L.EN++[xq 9],L.Cm,L.CO⟩
 | up (d:Down k l L.AX) (hr:e.JY=true) (b':Ap) (g:Good k l b') (h1:b'.BP=[]) (h2:b'.BD=[]) (h3:b'.CW=0):Step k e l L l ⟨b',L.Bq++[0],L.EN++[⟨#[]⟩],L.Cm,L.CO⟩
 | stay (g:Good k l L.AX) (hr:e.JY=true):Step k e l L l ⟨L.AX,L.Bq++[1],L.EN++[⟨#[]⟩],L.Cm,L.CO⟩
theorem BBT {l:Bg} {e:DW} {w code leaf:Int} {s:AA} {b2:Ap} (hp:RZ l.AX e.BA=some ([],code,s)) (hl:Vd l.AX e.BA.Ag=some leaf) (hc:MK l.AX e.BA code leaf=some b2) (z1:l.Bq.length<=1000) (z2:l.EN.length<=1000) (z4:l.Cm.length<=1000) :
  Rh l e w=some ⟨b2,l.Bq++[code],l.EN++[s],bif e.BA.Au == 5 && code == 0 then l.Cm++[⟨e.BA.Ag,leaf,w⟩] else l.Cm,l.CO⟩:=by
 obtain ⟨m,hm⟩:∃ m,AY=m+1:=⟨AY - 1,rfl⟩
 rw [Rh,xu,mk,hp,AP,hl,hm];have key:∀ o,o=dM (m+1) (.c0 w code s leaf ((([]:List Ah).length:Nat):Int) 0 l.AX.BO l.AX.CZ l.AX.AU.Bv l.AX.AU.DU l.AX.AU.BM l.AX.AU.Dh l.AX.AU.fCount l.AX.CW e [] l.AX.Bc.Ak l.AX.AU.AZ l.AX.BP l.AX.BD l.Bq l.EN l.Cm l.CO)->o=some ⟨b2,l.Bq++[code],l.EN++[s],bif e.BA.Au == 5 && code == 0 then l.Cm++[⟨e.BA.Ag,leaf,w⟩] else l.Cm,l.CO⟩:=by
  intro o ho;rw [ho,dM];simp only [xw,mk];rw [TT (by rfl)];show (MK l.AX e.BA code leaf).bind _=_;rw [hc,AP,Yt (l:=⟨b2,l.Bq,l.EN,l.Cm,_⟩) (show l.Bq.length<=1000000 by omega) (show l.EN.length<=1000000 by omega),AP];cases e.BA.Au == 5;·rfl
  ·cases code == 0;·rfl
   ·rw [Ar,Ar,IK (by rw [decide_eq_true_eq];show (l.Cm.length+1)*24<=_;omega)];rfl
 cases e.Nr;·exact key _ rfl
 ·exact key _ rfl
theorem VBu {k:AA} {l:List Ah} {L:Bg} (h:Down k l L.AX) (c:CV):RZ L.AX c=some ([],9,xq 9):=by
 obtain ⟨h1,h2,h3,h4,h5,h6,h7,h8⟩:=AzZ.down h
 rw [RZ,PAq,mk,ZAs (by have:=h7.1;omega) (fun f hf=>by have:=h7.2 f hf;omega) (by rw [h4];exact DJ _) (by simp_all) (by simp_all),h8,AP,h1,Awh (n:=9) (by decide)];rfl
theorem WBu (b:Ap) (c:CV) (code leaf:Int):(Jb b c code leaf).CW<=b.CW+1:=by
 rw [Jb,W9];cases code != 0
 ·cases c.Au == 1
  ·cases c.Au == 13
   ·cases c.Au == 2
    ·cases c.Au == 5;·cases c.Au == 9 <;> (show b.CW<=_;omega)
     ·cases AwV b.AU.AZ c.Ag with
      | none=>grind
      | some x=>
       dsimp only;cases x.Aj == 2 && (decide (leaf>=0) && decide (leaf<x.fNext)) <;> (show b.CW<=_;omega)
    ·show b.CW<=_;omega
   ·show b.CW<=_;omega
  simp
 grind
theorem XBu (b:Ap) (c:CV) (p:PT):(Ayl b c p).CW<=b.CW+1:=by rw [Ayl];cases p.1 <;> exact WBu _ _ _ _
theorem YBu {tk:AA->AA×Bool} {k:AA} {l:List Ah} {b:Ap} {c:CV} (g:Good k l b):(Ib tk b c).1.length<=1:=by
 rcases Yh (tk:=tk) (c:=c) g with h | ⟨r,h,_⟩ <;> rw [h]
 all_goals simp
theorem MAu {k:AA} {l l':List Ah} {L L':Bg} {e:DW} (h:AzZ k l L) (hn:L.Bq.length<45) (s:Step k e l L l' L'):AzZ k l' L'/\L'.Bq.length=L.Bq.length+1:=by
 obtain ⟨f1,f2,f3⟩:=h.few
 have ho:=h.opn;have app:∀ {α:Type} (xs:List α) (x:α),(xs++[x]).length=xs.length+1:=fun xs x=>by simp
 have HM:∀ c,(bW L e c).length<=L.Cm.length+1:=fun c=>by grind [bW]
 cases s with
 | call g hr hc=>
  have h1:=YBu (tk:=Avd) (c:=e.BA) g;refine ⟨⟨.inl (HBS g (by omega)),by rw [h.done],⟨?_,?_,?_⟩,?_⟩,app _ _⟩;·grind
  ·simp_all
  ·grind
  ·dsimp only;rw [app];have:=XBu L.AX e.BA (Ib Avd L.AX e.BA);omega
 | cut g hr r hp b' l2 d hl=>
  obtain ⟨X,hX,_⟩:=d.box
  refine ⟨⟨.inr d,?_,⟨?_,?_,?_⟩,?_⟩,app _ _⟩
  ·rcases hl with rfl | rfl
   ·dsimp only;rw [D6 (by omega),h.done];rfl
   ·dsimp only;rw [Ba (by simp),h.done];rfl
  all_goals grind
 | down d hr=>
  refine ⟨⟨.inr d,h.done,⟨?_,?_,?_⟩,?_⟩,app _ _⟩ <;> dsimp only <;> rw [app] <;> try rw [app]
  all_goals omega
 | up d hr b' g h1 h2 h3=>
  refine ⟨⟨.inl g,h.done,⟨?_,?_,?_⟩,?_⟩,app _ _⟩ <;> dsimp only <;> rw [app] <;> try rw [app]
  all_goals omega
 | stay g hr=>
  refine ⟨⟨.inl g,h.done,⟨?_,?_,?_⟩,?_⟩,app _ _⟩ <;> dsimp only <;> rw [app] <;> try rw [app]
  all_goals omega
structure DB (b:Ap):Prop where
 k:b.BO.size=32
 s:∀ x ∈ b.BP,0<=x.fId/\x.fId<=1000
 sl:b.BP.length<=1000
 t:∀ x ∈ b.AU.AZ,0<=x.fId/\x.fId<=1000
 tl:b.AU.AZ.length<=1000
structure CI (c:CV):Prop where
 o:1<=c.Au/\c.Au<=13
 s:0<=c.EJ/\c.EJ<=1000
 t:0<=c.Ag/\c.Ag<=1000
 k:0<=c.Aj/\c.Aj<=3
 x:c.Au=12->c.fText.size≠768
theorem AzZ.db {k:AA} {l:List Ah} {L:Bg} (h:AzZ k l L):DB L.AX:=by
 rcases h.box with g | d
 ·have b:=Ax0.1 g.J7;exact ⟨by rw [g.key,g.Io],fun x hx=>by have:=g.LAu.1 x hx;have:=g.opn;omega,by have:=g.Nu.1;omega,fun x hx=>by have:=Axr b.2.2.2.2.2.2 x hx;omega,by omega⟩
 ·obtain ⟨h1,h2,h3,h4,h5,h6,h7,h8⟩:=AzZ.down d
  exact ⟨by rw [h6,d.Io],fun x hx=>(by simp_all),by simp_all,fun x hx=>(by rw [h4] at hx;cases hx),by rw [h4];exact DJ _⟩
def CR (r:CV×DZ):Prop:=CI r.1/\Ie r.2
theorem CBT {m:Nat} {i h:Int} {y v:CV} (hi:0<=i) (hv:CI v):Ok (Ay5 (m+1) (.c4 i h y v)) CR:=by rw [Ay5];simp only [Yu,mk];exact Ok.bind (NJ (c:=⟨(),i,h⟩) hi) fun a ha=>Ok.cond (fun _=>Ok.bind (Uu ha) fun b hb=>Ok.ret ⟨⟨hv.o,hv.s,by grind,hv.k,hv.x⟩,hb.2⟩) fun _=>Ok.ret ⟨hv,ha⟩
theorem Yv {m:Nat} {i h:Int} {y v:CV} (hi:0<=i) (hv:CI v):Ok (Ay5 (m+2) (.c3 i h y v)) CR:=by rw [Ay5];simp only [Yu,mk];exact Ok.bind (NJ (c:=⟨(),i,h⟩) hi) fun a ha=>Ok.cond (fun _=>Ok.bind (Uu ha) fun b hb=>CBT hb.2 ⟨hv.o,by grind,hv.t,hv.k,hv.x⟩) fun _=>CBT ha hv
theorem ZBu {x:Int} (h:x ∈ [(1:Int),2,2,2,3,3]):0<=x/\x<=3:=by grind
theorem BBF {m:Nat} {i h:Int} {b:Ap} {A:AA} {y v:CV} (hb:DB b) (hi:0<=i) (hv:CI v):Ok (Ay5 (m+3) (.c2 A i h b y v)) CR:=by
 have set:∀ {n:Int} {kd:Int} {t:AA} {p q:Bool},(v.Au == n)=true->n≠12->0<=kd/\kd<=3->CI ⟨v.Au,v.EJ,v.Ag,kd,t,p,q⟩:=fun hn h12 hk=>⟨hv.o,hv.s,hv.t,hk,fun e=>absurd ((beq_iff_eq.1 hn).symm.trans e) h12⟩
 rw [Ay5];simp only [Yu,mk];refine Ok.cond (fun h2=>Ok.bind (NJ (c:=⟨(),i,h⟩) hi) fun a ha=>Ok.cond (fun _=>Yv ha (set h2 (by decide) hv.k)) fun _=>Yv ha (set h2 (by decide) hv.k)) fun _=>?_
 refine Ok.cond (fun h3=>Yv hi (set h3 (by decide) hv.k)) fun _=>?_
 refine Ok.cond (fun h4=>Ok.bind (FBN (c:=⟨(),i,h⟩) hi (by decide)) fun a ha=>Ok.bind (YAr ha.2 (by decide)) fun d hd=>Ok.bind (NJ hd.2) fun e he=>Ok.bind (NJ he) fun f hf=>Yv hf (set h4 (by decide) (ZBu ha.1))) fun _=>?_
 refine Ok.cond (fun h5=>Ok.bind (YAr (c:=⟨(),i,h⟩) hi (by decide)) fun a ha=>Yv ha.2 (set h5 (by decide) hv.k)) fun _=>?_
 refine Ok.cond (fun h8=>Ok.bind (NJ (c:=⟨(),i,h⟩) hi) fun a ha=>Ok.bind (NJ ha) fun d hd=>Yv hd (set h8 (by decide) hv.k)) fun _=>?_
 refine Ok.cond (fun h11=>Ok.bind (PBn (c:=⟨(),i,h⟩) hi) fun a ha=>Ok.bind (Ok.eq (x9 _)) fun d hd=>Ok.bind (Ok.eq (RBE hb.k)) fun e he=>Ok.bind (Ok.eq (SBE (by simp_all [Ld,AxT]))) fun f hf=>Yv ha.2 (set h11 (by decide) hv.k)) fun _=>Yv hi hv
theorem Agz {b:Ap} {A:AA} {y:CV} (hb:DB b):∀ (j i m:Nat) (ci h:Int) (v:CV),i+j=b.AU.AZ.length->0<=ci->CI v->Ok (Ay5 (m+3+j+1) (.c1 A (i:Int) ci h b y v)) CR:=by
 have htl:=hb.tl;intro j;induction j with
 | zero=>
  grind [Ay5,Yu,BBF]
 | succ j ih=>
  intro i m ci h v hi hc hv;have hlt:i<b.AU.AZ.length:=by omega
  have hw:=Fq (i:=i) (by omega);rw [AwB,Ay5];simp only [Yu,mk,hw,BR,getD_at hlt];rw [Ep (by omega),GX (by omega)];exact Ok.cond (fun _=>Ok.bind (NJ (c:=⟨(),ci,h⟩) hc) fun a ha=>Ok.cond (fun _=>Ok.chk (by simp_all) (ih (i+1) m _ _ _ (by omega) ha ⟨hv.o,hv.s,hb.t _ (List.getElem_mem hlt),hv.k,hv.x⟩)) fun _=>ih (i+1) m _ _ _ (by omega) ha hv) fun _=>ih (i+1) m _ _ _ (by omega) hc hv
theorem NAu {m:Nat} {i h:Int} {b:Ap} {A:AA} {y v:CV} (hb:DB b) (hi:0<=i) (hv:CI v):Ok (Ay5 (m+3+b.AU.AZ.length+1+1) (.c0 A i h b y v)) CR:=by
 have e:m+3+b.AU.AZ.length+1=(m+b.AU.AZ.length+1)+3:=by omega
 rw [Ay5];simp only [Yu,mk];refine Ok.cond (fun ht=>Ok.bind (Uu (c:=⟨(),i,h⟩) hi) fun a ha=>?_) fun _=>(by simp_all [BBF])
 rw [decide_eq_true_eq] at ht;have h1:=ha.1.1;have h2:=ha.1.2.1 (by omega);have hv2:∀ d,CI ⟨v.Au,v.EJ,(b.AU.AZ.getD a.1.toNat d).fId,v.Aj,v.fText,v.CY,v.CX⟩:=fun d=>⟨hv.o,hv.s,by dsimp only;rw [getD_at (by omega)];exact hb.t _ (List.getElem_mem _),hv.k,hv.x⟩
 exact Ok.chk (by simp_all) (Ok.cond (fun _=>Agz hb b.AU.AZ.length 0 m _ _ _ (Nat.zero_add _) ha.2 (hv2 _)) fun _=>(by rw [e];exact BBF hb ha.2 (hv2 _)))
theorem DBT {x:Int} (h:x ∈ [(1:Int),2,2,3,4,4,4,5,5,5,6,7,8,9,10,11,12,13]):1<=x/\x<=13:=by simp only [List.mem_cons,List.not_mem_nil,or_false] at h;omega
theorem BBv {c:DZ} {b:Ap} {A:AA} (hc:Ie c) (hb:DB b):Ok (EAl c b A) CR:=by
 have hsl:=hb.sl;have htl:=hb.tl;obtain ⟨m,hm⟩:=gm (n:=3+b.AU.AZ.length+1) (by omega)
 have hm2:AY=m+3+b.AU.AZ.length+1+1:=by omega
 rw [EAl,ZAy,mk,hm2];have e0:(⟨#[]⟩:AA).size≠768:=by decide
 refine Ok.bind (FBN hc (by decide)) fun a ha=>Ok.cond (fun _=>NAu hb ha.2 ⟨by simp,by simp,by simp,by simp,fun _=>e0⟩) fun hs=>?_
 have hs1:b.BP.length≠0:=fun q=>by simp_all
 have hgs:∀ (n:Nat) d,n<b.BP.length->0<=(b.BP.getD n d).fId/\(b.BP.getD n d).fId<=1000:=fun n d hn=>by rw [getD_at hn];exact hb.s _ (List.getElem_mem hn)
 refine Ok.bind (Uu ha.2) fun d hd=>?_
 have h1:=hd.1.1;have h2:=hd.1.2.1 (by omega);have z:(decide ((0:Int)<=0) && decide ((0:Int)<(b.BP.length:Int)))=true:=by grind
 have some1:∀ {o:Int} {n:Nat} {q},(1<=o/\o<=13)->n<b.BP.length->CI ⟨o,(b.BP.getD n q).fId,0,0,⟨#[]⟩,false,false⟩:=fun ho hn=>⟨ho,hgs _ _ hn,by simp,by simp,fun _=>e0⟩
 exact Ok.chk (by simp_all) (Ok.chk z (Ok.cond (fun _=>Ok.bind (NJ hd.2) fun e he=>Ok.cond (fun _=>Ok.chk z (NAu hb he (some1 (by omega) (by omega)))) fun _=>NAu hb he (some1 (DBT ha.1) (by omega))) fun _=>NAu hb hd.2 (some1 (DBT ha.1) (by omega))))
def yA:DW:=⟨⟨0,0,0,0,⟨#[]⟩,false,false⟩,false,[],true⟩
def EvD (e:DW):Prop:=e=yA\/(CI e.BA/\e.Lc.length<=2)
theorem CBv {c:CV} (h:CI c) (hz:c.fText.size<=1000):AyI c=true:=by rw [AyI,Na.2 h.o,Na.2 h.s,Na.2 h.t,Na.2 h.k,Ba (by omega)];rfl
theorem EBT {e:DW} (h:EvD e) (hz:e.BA.fText.size<=1000):AwI e:=by
 rcases h with rfl | ⟨h1,h2⟩
 ·have hn:ku yA.BA=true:=by rw [ku,show ((ByteArray.toList yA.BA.fText) == ByteArray.toList (⟨#[]⟩:AA))=true from Oe _];rfl
  exact ⟨by assumption,fun q=>by cases q⟩
 ·exact ⟨by grind [UW,CBv],h1.x⟩
theorem DBv {e:DW} (h:EvD e) (hz:¬ e.BA.fText.size<=1000):AwI ⟨⟨e.BA.Au,e.BA.EJ,e.BA.Ag,e.BA.Aj,⟨#[108,111,110,103]⟩,e.BA.CY,e.BA.CX⟩,e.Nr,e.Lc,e.JY⟩:=by
 rcases h with rfl | ⟨h1,h2⟩
 ·exact absurd (DJ _) hz
 ·have h4:(⟨#[108,111,110,103]⟩:AA).size=4:=rfl;exact EBT (.inr ⟨⟨h1.o,h1.s,h1.t,h1.k,fun _=>by simp_all⟩,h2⟩) (by simp_all)
def AKN (l:Bg) (r:DW×DZ×Bg):Prop:=EvD r.1/\Ie r.2.1/\r.2.2=l
theorem OAu {c:DZ} {x:CV} {l:Bg} (hc:Ie c) (hx:CI x):Ok ((Axp ⟨(),c.fI,c.AyA⟩ 12).bind fun CC=>bif CC.1 then (AyT ⟨(),CC.2.fI,CC.2.AyA⟩ 2000).bind fun B6=>(AyT ⟨(),B6.2.fI,B6.2.AyA⟩ 50).bind fun r16=>(Axp ⟨(),r16.2.fI,r16.2.AyA⟩ 30).bind fun CD=>bif CD.1 then some (yA,(⟨(),CD.2.fI,CD.2.AyA⟩,l)) else some (⟨x,true,[B6.1,r16.1],false⟩,(⟨(),CD.2.fI,CD.2.AyA⟩,l)) else (Axp ⟨(),CC.2.fI,CC.2.AyA⟩ 30).bind fun CE=>bif CE.1 then some (yA,(⟨(),CE.2.fI,CE.2.AyA⟩,l)) else some (⟨x,false,[],false⟩,(⟨(),CE.2.fI,CE.2.AyA⟩,l))) (AKN l):=
 Ok.bind (NJ hc) fun a ha=>Ok.cond (fun _=>Ok.bind (Uu ha) fun b hb=>Ok.bind (Uu hb.2) fun d hd=>Ok.bind (NJ hd.2) fun f hf=>Ok.cond (fun _=>Ok.ret ⟨.inl rfl,hf,rfl⟩) fun _=>Ok.ret ⟨.inr ⟨hx,Nat.le_refl _⟩,hf,rfl⟩) fun _=>Ok.bind (NJ ha) fun f hf=>Ok.cond (fun _=>Ok.ret ⟨.inl rfl,hf,rfl⟩) fun _=>Ok.ret ⟨.inr ⟨hx,DJ _⟩,hf,rfl⟩
theorem EBv {c:DZ} {l:Bg} (hc:Ie c) (hb:DB l.AX):Ok (yB c l) (AKN l):=by
 rw [yB,ALz,mk];refine Ok.cond (fun _=>Ok.bind (NJ hc) fun a ha=>Ok.cond (fun _=>Ok.ret ⟨.inl rfl,ha,rfl⟩) fun _=>?_) fun _=>?_
 all_goals
  refine Ok.bind (BBv (by omega) hb) fun x hx=>Ok.cond (fun hr=>Ok.cond (fun h11=>Ok.bind (NJ hx.2) fun d hd=>Ok.cond (fun _=>Ok.bind (Uu hd) fun f hf=>?_) fun _=>OAu hd hx.1) fun _=>OAu hx.2 hx.1) fun _=>OAu hx.2 hx.1
  rw [decide_eq_true_eq] at hr;have f1:=hf.1.1;have f2:=hf.1.2.1 hr;have x1:=hx.1;rw [beq_iff_eq] at h11;exact Ok.chk (by simp_all) (OAu hf.2 ⟨x1.o,x1.s,x1.t,x1.k,fun q=>absurd (h11.symm.trans q) (by decide)⟩)
theorem VI {l:Bg} {c:Int} {s:AA} (h1:l.Bq.length<=1000000) (h2:l.EN.length<=1000000):XG l c s=some (VBE l c s):=by
 rw [XG,BAz,mk];try simp only [List.nil_append]
 rw [Ep (by omega),Ep (by omega),Ep (by omega),Ep (by omega)];rfl
theorem FBv {b:Ap} {t:Int} (h:b.BP.length<=140737488351232):HAl b t=some (Av3 b t):=by
 have key:∀ (j i m:Nat),i+j=b.BP.length->lC (m+j+1) (.c0 t (i:Int) b)=some (match KQ (b.BP.drop i) t i with | some j=>(j:Int) | none=> -1):=by
  intro j;induction j with
  | zero=>
   intro i m hi;rw [lC];simp only [GAl,mk];rw [Jh (by omega),List.drop_of_length_le (by omega)];rfl
  | succ j ih=>
   intro i m hi;have hil:i<b.BP.length:=by omega
   grind [Fq,lC,drop_at,KQ,GAl,BR]
 obtain ⟨m,hm⟩:=gm (n:=b.BP.length) (by omega)
 rw [HAl,GAz,hm];exact key b.BP.length 0 m (Nat.zero_add _)
theorem GBv {b:Ap} {c:CV} (ht:0<=b.AU.DU/\b.AU.DU<=3) (hc:c.fText.size<=1000000000):IAl b c=some (lD b c):=by
 rw [IAl,HAz,mk,lD];simp only [ML hc,AP];by_cases h:b.AU.DU>=3;·rw [Ba h,show (b.AU.DU == 3)=true from beq_iff_eq.2 (by omega)];rfl
 ·rw [D6 h,show (b.AU.DU == 3)=false from beq_eq_false_iff_ne.2 (by omega),A8 (by omega) (by omega)];cases (Ed c.fText).toList == b.AU.Bv.toList <;> cases b.AU.DU == 0 <;> rfl
theorem DBF {n:Int} (h:0<=n/\n<10000):lF n=some (VH n):=by
 obtain ⟨m,rfl⟩:∃ m:Nat,n=(m:Int):=⟨n.toNat,by omega⟩
 exact NBr (by omega)
theorem FBT {b:Ap} {c:CV} {x:Af} {ok:Bool} (h:PB b):yC b c x ok=some (Yw b c x ok):=by have hl:=h.last;have h8:=h.things;rw [yC,KAz,mk,Yw,newX,A8 (by omega) (by omega),DBF (by omega),show decide ((b.AU.AZ.length:Int)>=8)=((b.AU.AZ.length:Int) == 8) by grind,show decide (b.AU.BM>=1000)=(b.AU.BM == 1000) by grind];cases ok <;> cases (b.AU.AZ.length:Int) == 8 <;> cases b.AU.BM == 1000 <;> cases x.CY <;> cases x.CX <;> rfl
theorem GBT {k t:AA} {num:Int} (hk:k.size<=900000000) (ht:t.size<=800000000):lG k num t=some (Ee k num t):=by
 rw [lG,NAz,mk,Ee];have hw:AV ((t.size:Int) - 16)=(t.size:Int) - 16:=A8 (by omega) (by omega);rw [hw];by_cases h:t.size<16;·grind
 ·obtain ⟨n,hn⟩:∃ n,t.size=n+16:=⟨t.size - 16,by omega⟩
  obtain ⟨e1,e2⟩:=BBP t hn
  have hz:(t.size:Int) - 16=(n:Int):=by omega
  have hb:=bs_len t;have hes:(t.extract 0 n).size=n:=by simp_all
  rw [TT (by grind),hz,BR,hes,IK (by grind),KBM hk,AP,Yx,show decide ((t.size:Int)<16)=false by grind,Bool.false_or];cases hm:MB num n;·rfl
  ·have h':=lH.1 hm;have hml:=Ub (bs k) (SN num) n;rw [DN,Aq,Ar,TT (by rfl),BR,MBM hk h'.1 (by omega),AP,IK (by grind)];simp only [MAz,LAz,mk,AP,AzS,Oa (Vf _ _ _),e1,e2];cases hc:(Ql (bs k) num ((bs t).take (t.size - 16)) == (bs t).drop (t.size - 16))
   ·rfl
   ·rw [DN,Aq,LBM (by omega) (by simp_all [Dj]),AP,Oa (yD _ _ _),e1,Ar,show t.size - 16=n by omega]
theorem HBv {k t:AA} (hk:k.size<=900000000) (ht:t.size<=800000000):MAl k t=some (Ax7 k t):=by
 have hz:=yE k t 0;have hr0:=LBN (text:=(Ee k 0 t).1) (a:=0) (by omega) (DJ _);rw [show ((0:Nat):Int)=0 from rfl] at hr0;rw [MAl,PAz,mk,GBT hk ht,AP,hr0,AP,Ax7];cases ho:(Ee k 0 t).2;·rfl
 ·have hx:=yF (text:=(Ee k 0 t).1) (a:=0) (by omega) (DJ _);have FR:=KBo ho;generalize (Ee k 0 t).1=O at hz hx FR;rw [TT (by rfl),Ri];rcases hx with hx | ⟨v,hx,h0,h1,hA⟩
  ·rw [hx];rfl
  ·rw [hx];have hsz:=hA.size.resolve_left (by grind [Avw]);simp only [DN,Aq,Bool.false_or];rw [A8 (n:=(O.size:Int) - ((0+(SN v).length:Nat):Int)) (by omega) (by omega)];by_cases h3:v > (O.size:Int) - ((0+(SN v).length:Nat):Int)
   ·grind
   ·rw [TT (by simp_all),A8 (n:=((0+(SN v).length:Nat):Int)+v) (by omega) (by omega),IK (by grind)];have hes:(O.extract ((0+(SN v).length:Nat):Int).toNat (((0+(SN v).length:Nat):Int)+v).toNat).size=v.toNat:=by grind [ByteArray.size_extract]
    generalize hS:O.extract ((0+(SN v).length:Nat):Int).toNat (((0+(SN v).length:Nat):Int)+v).toNat=S at hes;rw [SBE hk,AP,lI];by_cases h4:v > 400;·grind
    ·have e1:decide ((S.size:Int) > 400)=false:=D6 (by omega);have e:(decide (v > 20000) || decide (v > (O.size:Int) - ((0+(SN v).length:Nat):Int)))=false:=by grind
     have h2:=XBD (l:=bs S) (by grind [bs_len]);have hl:=bs_len S;have hm:MB 0 ((ofBytes (Rj (bs S))).size:Int)=true:=by grind [lH,Dj]
     have hfb:=WBD (AxC S)
     rw [e,Aq,e1,Aq,Axf,hm,Ar,Oa hfb,TT (by rfl),AzS,Oa (fun x hx=>by
      rcases List.mem_append.1 hx with hx | hx
      ·exact XH _ _ x hx
      ·exact Vf _ _ _ x hx)]
     grind [LBo,AxC]
theorem IBv (x:Af):SAz x=some ⟨0,x.Aj,x.CY,x.CX,false,x.GH,x.fValue,0⟩:=rfl
theorem JBv {b:Ap} {c:CV} (h:PB b) (hc:c.fText.size<=1000):SAl b c=some (yG b c):=by
 have hz:=QBE (Ld b) c.fText;have hr:=(PBE (t:=(Ax7 (Ld b) c.fText).1) (by omega)).2.1;have hk:(Ld b).size<=900000000:=by simp [Ld,AxT]
 rw [SAl,TAz,mk,yG,inX];simp only [RBE h.key,HBv hk (show c.fText.size<=800000000 by omega),hr,IBv,FBT h,AP];cases (Ax7 (Ld b) c.fText).2 <;> rfl
theorem KBv (x:Af) (d:Int):TAl x d=some (AwF x d):=by rw [TAl,UAz,mk,yH,AP,AwF,bne];grind
theorem HBT {b:Ap} {x:Af} (h:b.BD.length<=140737488351232):yI b x=some (DY b x):=by
 have key:∀ (j i m:Nat),i+j=b.BD.length->lJ (m+j+1) (.c0 (i:Int) b x)=some (match Ax4 (b.BD.drop i) x.fId i with | some j=>(b.BD.getD j ⟨0,0⟩).fNext | none=>x.fNext):=by
  intro j;induction j with
  | zero=>
   intro i m hi;rw [lJ];simp only [UAl,mk];rw [TT (by simp_all),List.drop_of_length_le (by omega)];rfl
  | succ j ih=>
   intro i m hi;have hil:i<b.BD.length:=by omega
   have hw:AV ((i:Int)+1)=((i+1:Nat):Int):=by grind [A8]
   grind [lJ,UAl,BR,drop_at,Ax4]
 obtain ⟨m,hm⟩:=gm (n:=b.BD.length) (by omega)
 rw [yI,VAz,hm];exact key b.BD.length 0 m (Nat.zero_add _)
theorem yJ {s:AA} (h:s.size<=1000000000):AwQ s=some (Ec s):=by rw [AwQ,XAz,mk,ML h,AP,AxT,IK (by rfl)];rfl
theorem IBT {s:AA} {leaf:Int} (hl:0<=leaf/\leaf<=255) (hs:s.size<=100000):lK s leaf=some (JA s leaf 10):=by
 have key:∀ (j i m:Nat),i+j=10->dN (m+j+1) (.c0 s leaf (i:Int) (JA s leaf i))=some (JA s leaf 10):=by
  intro j;induction j with
  | zero=>
   grind [dN,WAl]
  | succ j ih=>
   intro i m hi;have hw:AV ((i:Int)+1)=((i+1:Nat):Int):=by grind [A8]
   have ho:(JA s leaf i).length=i:=by simp [JA]
   have hm:JA s leaf i++[keyAt s leaf (i:Int)]=JA s leaf (i+1):=by simp [JA,List.range_succ]
   rw [AwB m j,dN];simp only [WAl,mk,hw];rw [IK (by grind),AxQ hl.1 hl.2,AP];show (bif decide (s.size+(b1 leaf).size<=_) then _ else _)=_;rw [IK (by grind [Lh]),AxQ (by omega) (by omega),AP];show (bif decide ((s++b1 leaf).size+(b1 (i:Int)).size<=_) then _ else _)=_;rw [IK (by grind [Lh])];show (bif decide ((s++b1 leaf++b1 (i:Int)).size+dP.size<=_) then _ else _)=_;have hO:dP.size=1:=rfl;rw [IK (by grind [Lh])];show (AwQ (s++b1 leaf++b1 (i:Int)++dP)).bind _=_;rw [yJ (by grind [Lh]),AP,ho,IK (by grind)];show dN (m+j+1) (.c0 s leaf ((i+1:Nat):Int) (JA s leaf i++[keyAt s leaf (i:Int)]))=_;rw [hm];exact ih (i+1) m (by omega)
 obtain ⟨m,hm⟩:∃ m,AY=m+10+1:=⟨AY - 11,by rfl⟩
 rw [lK,YAz,hm];exact key 10 0 m rfl
theorem JBT {x:AA} {leaf chain:Int} {f n:Nat} (hl:0<=leaf/\leaf<=255) (hc:0<=chain/\chain<=255) (hn:n<=15) (hf:f+n<=255) (hx:x.size<=100000):dQ x leaf chain (f:Int) (n:Int)=some (AxM leaf chain n f x):=by
 have hs:∀ i,(AxM leaf chain i f x).size<=100000:=fun i=>by
  cases i with
  | zero=>exact hx
  | succ i=>simp [dR,Uc]
 have key:∀ (j i m:Nat),i+j=n->lM (m+j+1) (.c0 (AxM leaf chain i f x) leaf chain (f:Int) (n:Int) (i:Int))=some (AxM leaf chain n f x):=by
  intro j;induction j with
  | zero=>
   grind [lM,XAl]
  | succ j ih=>
   intro i m hi;have hw:AV ((i:Int)+1)=((i+1:Nat):Int):=by grind [A8]
   have hsi:=hs i;have hm:=dR leaf chain f x i;rw [AwB m j,lM];simp only [XAl,mk,hw];have hfm:(f:Int).tmod 256=(f:Int):=by grind
   rw [IK (by grind),IK (by grind),AxQ hl.1 hl.2,AP,AxQ hc.1 hc.2,AP,hfm,A8 (by omega) (by omega),AxQ (by omega) (by omega)];grind [b1,Lh,AxM,yJ]
 obtain ⟨m,hm⟩:=gm (n:=n) (by omega)
 rw [dQ,ZAz,hm];exact key n 0 m (Nat.zero_add _)
theorem LBv {keys:List AA} {leaf:Int} (hk:keys.length=10) (hl:0<=leaf/\leaf<=255) (hs:∀ x ∈ keys,x.size<=100000):yK keys leaf=some (XI keys leaf):=by
 have key:∀ (j i m:Nat),i+j=10->lN (m+j+1) (.c0 keys leaf (Ay6 (Ay3 keys leaf i)) (i:Int))=some (XI keys leaf):=by
  intro j;induction j with
  | zero=>
   intro i m hi;obtain rfl:i=10:=by omega
   have hz:=Vg (CAt (keys:=keys) (leaf:=leaf) (n:=10));rw [DAt] at hz;rw [lN];simp only [YAl,mk];rw [TT (by rfl),yJ (by omega)];rfl
  | succ j ih=>
   intro i m hi;have hlt:i<keys.length:=by omega
   have hw:AV ((i:Int)+1)=((i+1:Nat):Int):=by grind [A8]
   have hz:=Vg (CAt (keys:=keys) (leaf:=leaf) (n:=i));rw [DAt] at hz;have hc:=dR leaf (i:Int) 0 keys[i] 14;have hc2:(AxM leaf (i:Int) 15 0 keys[i]).size=4:=by simp_all [Uc]
   have hm:Ay6 (Ay3 keys leaf i)++AxM leaf (i:Int) 15 0 keys[i]=Ay6 (Ay3 keys leaf (i+1)):=by grind [Ay3,List.range_succ,BAt,Ay6,lQ]
   grind [JBT,lN,YAl,BR]
 obtain ⟨m,hm⟩:∃ m,AY=m+10+1:=⟨AY - 11,by rfl⟩
 rw [yK,AML,mk,TT (by simp_all),hm];exact key 10 0 m rfl
theorem KBT {s:AA} (hs:s.size<=100000):yL s=some (Ax2 s 4):=by
 have key:∀ (j i m:Nat),i+j=4->lS (m+j+1) (.c0 s (i:Int) (Ax2 s i))=some (Ax2 s 4):=by
  intro j;induction j with
  | zero=>
   grind [lS,ZAl]
  | succ j ih=>
   intro i m hi;have hw:AV ((i:Int)+1)=((i+1:Nat):Int):=by grind [A8]
   have ho:(Ax2 s i).length=i:=by simp [Ax2]
   have hm:Ax2 s i++[XI (JA s (i:Int) 10) (i:Int)]=Ax2 s (i+1):=by simp [Ax2,List.range_succ]
   rw [AwB m j,lS];simp only [ZAl,mk,hw];rw [IK (by grind),IBT (by omega) hs,AP,LBv (yM _ _ _) (by omega) (fun x hx=>by grind [yN]),AP,ho,IK (by grind),hm];exact ih (i+1) m (by omega)
 obtain ⟨m,hm⟩:∃ m,AY=m+4+1:=⟨AY - 5,by rfl⟩
 rw [yL,BA0,hm];exact key 4 0 m rfl
theorem EBF {level place:Int} {a b:AA} (hl:0<=level/\level<=255) (hp:0<=place/\place<=255) (ha:a.size<=100000) (hb:b.size<=100000):Yy level place a b=some (Axt level place a b):=by have hN:dS.size=1:=rfl;rw [Yy,CA0,mk,AxQ hl.1 hl.2,AP,AxQ hp.1 hp.2,AP];show (bif decide ((b1 level).size+(b1 place).size<=_) then _ else _)=_;rw [IK (by rfl)];show (bif decide ((b1 level++b1 place).size+a.size<=_) then _ else _)=_;rw [IK (by grind [Lh])];show (bif decide ((b1 level++b1 place++a).size+b.size<=_) then _ else _)=_;rw [IK (by grind [Lh])];show (bif decide ((b1 level++b1 place++a++b).size+dS.size<=_) then _ else _)=_;rw [IK (by grind [Lh])];show (AwQ (b1 level++b1 place++a++b++dS)).bind _=_;rw [yJ (by grind [Lh])];rfl
theorem LBT {lv:Int} {a b c d:AA} (hl:0<=lv/\lv<=255) (ha:a.size<=100000) (hb:b.size<=100000) (hc:c.size<=100000) (hd:d.size<=100000):XJ lv [a,b,c,d]=some [Axt lv 0 a b,Axt lv 1 c d]:=by
 obtain ⟨m,hm⟩:∃ m,AY=m+1+1+1:=⟨AY - 3,rfl⟩
 rw [XJ,AFr,hm,Yz];simp only [yO,mk];rw [IK (by rfl),IK (by rfl),IK (by rfl)];show (Yy lv 0 a b).bind _=_;rw [EBF hl (by omega) ha hb,AP,IK (by rfl),Yz];simp only [yO,mk];rw [IK (by rfl),IK (by rfl),IK (by rfl)];show (Yy lv 1 c d).bind _=_;rw [EBF hl (by omega) hc hd,AP,IK (by rfl),Yz];rfl
theorem MBT {lv:Int} {a b:AA} (hl:0<=lv/\lv<=255) (ha:a.size<=100000) (hb:b.size<=100000):XJ lv [a,b]=some [Axt lv 0 a b]:=by
 obtain ⟨m,hm⟩:∃ m,AY=m+1+1:=⟨AY - 2,rfl⟩
 rw [XJ,AFr,hm,Yz];simp only [yO,mk];rw [IK (by rfl),IK (by rfl),IK (by rfl)];show (Yy lv 0 a b).bind _=_;rw [EBF hl (by omega) ha hb,AP,IK (by rfl),Yz];rfl
theorem MBv {a b c d:AA} (ha:a.size<=100000) (hb:b.size<=100000) (hc:c.size<=100000) (hd:d.size<=100000):CAm [a,b,c,d]=some (SBD a b c d):=by
 obtain ⟨m,hm⟩:∃ m,AY=m+1+1+1:=⟨AY - 3,rfl⟩
 have n1:=Ays 1 0 a b;have n2:=Ays 1 1 c d;rw [CAm,DA0,mk,TT (by rfl),hm,lU];simp only [BAm,mk];rw [IK (by rfl),LBT (by omega) ha hb hc hd,AP,show AV (1+1)=2 by rfl,lU];simp only [BAm,mk];rw [IK (by rfl),MBT (by omega) (by omega) (by omega),AP,lU];rfl
theorem NBT {s:AA} (hs:s.size<=100000):yP s=some (AxD s):=by rw [yP,EA0,mk,KBT hs,AP,EAt,MBv (by simp [Lj]) (by simp [Lj]) (by simp [Lj]) (by simp [Lj])];rfl
theorem NBv {s:AA} (hs:s.size<=1000000000):yQ s=some (AwU s):=by
 have hz:=Uc s;have hin:=GAt (AxC (Ec s));have hln:=yR (bs (Ec s));rw [bs_len,hz] at hln;rw [yQ,FA0,yJ hs,AP];have key:dU AY (.c0 (Ec s) (AyF (Avu ((bs (Ec s)).take 0))) (0:Nat) (Avu ((bs (Ec s)).take 0)))=some (AwU s):=by
  refine Wj (L:=dU) (fun i:Nat=>lV.c0 (Ec s) (AyF (Avu ((bs (Ec s)).take i))) (i:Int) (Avu ((bs (Ec s)).take i))) 4 0 (by omega) (fun m=>?_) fun i hi m=>?_
  ·have h3:=yS hin;rw [List.take_of_length_le (by grind [bs_len]),dU];simp only [DAm,mk];rw [Jh (by omega),Ep (by omega),Int.tdiv_eq_ediv_of_nonneg h3.1,Int.tmod_eq_emod_of_nonneg h3.1,A8 (by omega) (by omega)];rfl
  ·have hlt:i<(Ec s).size:=by omega
   have hlt2:i<(bs (Ec s)).length:=by grind [bs_len]
   have hw:=Fq (i:=i) (by omega);have hb:=Ud (Ec s) (i:Int);have hl:(Avu ((bs (Ec s)).take i)).length<=8:=by grind [yR]
   have h3:=yS (a:=Avu ((bs (Ec s)).take i)) (GAt fun d hd=>AxC (Ec s) d (List.mem_of_mem_take hd));have hm:Avu ((bs (Ec s)).take i)++[bt (Ec s) (i:Int) / 16,bt (Ec s) (i:Int) % 16]=Avu ((bs (Ec s)).take (i+1)):=by rw [take_at hlt2,NBP,lW hlt];rfl
   have hr:AyF (Avu ((bs (Ec s)).take i))+30 - bt (Ec s) (i:Int) / 16 - bt (Ec s) (i:Int) % 16=AyF (Avu ((bs (Ec s)).take (i+1))):=by rw [<-hm,OBP,AyF,AyF,AyF];omega
   rw [dU];simp only [DAm,mk,hw];rw [Ep (by omega),GX (by omega),GX (by omega),Ep (by omega),GX (by omega),GX (by omega),A8 (n:=bt (Ec s) (i:Int)) (by omega) (by omega),Int.tdiv_eq_ediv_of_nonneg hb.1,Int.tmod_eq_emod_of_nonneg hb.1,A8 (n:=bt (Ec s) (i:Int) / 16) (by omega) (by omega),A8 (n:=AyF _+30) (by omega) (by omega),A8 (n:=AyF _+30 - _) (by omega) (by omega),A8 (by omega) (by omega),hr,hm]
 exact key
theorem OBv {keys:List AA} {leaf:Int} {s:AA} (hk:keys.length=10) (hl:0<=leaf/\leaf<=255) (hs:∀ x ∈ keys,x.size<=100000) (hm:s.size<=1000000000):EAm keys leaf s=some (Ur keys leaf (AwU s) 10):=by
 obtain ⟨d1,d2⟩:=PBP s
 have hdig:=NBv hm;generalize AwU s=D at d1 d2 hdig;rw [EAm,GA0,mk,TT (by simp_all),hdig,AP];refine Wj (L:=yT) (fun i:Nat=>lX.c0 keys leaf (i:Int) (Ur keys leaf D i) D) 10 0 (by omega) (fun m=>?_) fun i hi m=>?_
 ·rfl
 ·have hlt:i<keys.length:=by omega
  have hlt2:i<D.length:=by omega
  have hw:=Fq (i:=i) (by omega);have hd:=d2 _ (List.getElem_mem hlt2);have ho:(Ur keys leaf D i).length=i:=by simp [Ur]
  grind [Ur,List.range_succ,JBT,yT,HA0]
theorem PBv {a b c d:AA} {leaf:Int} (hl:0<=leaf/\leaf<=3) (ha:a.size<=100000) (hb:b.size<=100000) (hc:c.size<=100000) (hd:d.size<=100000):GAm [a,b,c,d] leaf=some (lY a b c d leaf):=by
 obtain ⟨m,hm⟩:∃ m,AY=m+1+1+1:=⟨AY - 3,rfl⟩
 have n1:=Ays 1 0 a b;have n2:=Ays 1 1 c d;have GS:=MBT (lv:=2) (a:=Axt 1 0 a b) (b:=Axt 1 1 c d) (by omega) (by omega) (by omega);have GW:=LBT (lv:=1) (by omega) ha hb hc hd;rw [GAm,IA0,mk,TT (by rfl),Ih,AP,Na.2 hl,DN,Aq,hm,yU];simp only [FAm,mk,GW,AP];have h4:leaf=0\/leaf=1\/leaf=2\/leaf=3:=by omega
 have e2:AV (1+1)=2:=by rfl
 rcases h4 with rfl | rfl | rfl | rfl
 all_goals
  rw [IK (by rfl)];first | rw [IK (by decide)] | rw [TT (by decide)]
  rw [IK (by rfl),IK (by rfl),yU];simp only [FAm,mk,e2,GS,AP];rfl
theorem OBT {s m:AA} {leaf:Int} (hl:0<=leaf/\leaf<=3) (hs:s.size<=100000) (hm:m.size<=1000000000):yV s leaf m=some (lZ s leaf m,true):=by rw [yV,JA0,mk,Ih,AP,Na.2 hl,DN,Aq,IBT (by omega) hs,AP,OBv (yM _ _ _) (by omega) (fun x hx=>by grind [yN]) hm,AP,KBT hs,AP,EAt,PBv hl (by simp [Lj]) (by simp [Lj]) (by simp [Lj]) (by simp [Lj])];rfl
theorem QBv {s m:AA} {i:Int} (hi:0<=i/\i<=15) (hs:s.size<=90000) (hm:m.size<=1000000000):HAm s i m=some (Ayc s i m,true):=by
 have hL:lg.size=1:=rfl;have hT:dV.size=1:=rfl;have hlow:(Rl s i).size=s.size+2:=by simp_all [Rl,Lh]
 have e1:AV (i.tdiv 4)=i / 4:=by grind [A8]
 have e2:i.tmod 4=i % 4:=Int.tmod_eq_emod_of_nonneg hi.1;have hlo:VAl s (i / 4)=some (Rl s i):=by rw [VAl,WAz,mk,AxQ (by omega) (by omega),AP];show (bif decide (s.size+(b1 (i / 4)).size<=_) then (bif decide ((s++b1 (i / 4)).size+lg.size<=_) then some (s++b1 (i / 4)++lg) else none) else none)=_;rw [Ep (by grind [Lh]),Ep (by grind [Lh])];rfl
 rw [HAm,KA0,mk,Ih,AP,Na.2 hi,DN,Aq,e1,e2,hlo,AP,NBT (by omega),AP,OBT (by omega) (by omega) hm,AP];show (bif decide (s.size+dV.size<=9223372036854775807) then (yV (s++dV) (i / 4) (AxD (Rl s i))).bind (fun r4=>some ((⟨r4.1,AxD (Rl s i),lZ (Rl s i) (i % 4) m⟩:Nl),true)) else none)=_;rw [Ep (by omega),OBT (by omega) (by grind) (by simp [FAt])];rfl
theorem RBv {s:IL} (h:AyZ s):yX s=some true:=by
 obtain ⟨o1,o2⟩:=h.once
 obtain ⟨q1,q2⟩:=h.path
 rw [yX,LA0,mk,Ih,AP,Na.2 h.leaf,o1,q1];simp only [bne_self_eq_false,show ((10:Nat):Int)=10 from rfl,show ((2:Nat):Int)=2 from rfl,DN,Aq]
 have two:∀ m,XK (m+2+1) (.c1 0 s)=some true:=AKj (L:=XK) (fun i:Nat=>dW.c1 (i:Int) s) 2 (fun m=>by
  simp_all [XK,yY,mk]) fun i hi m=>by
  grind [Fq,XK,yY]
 refine Wj (L:=XK) (fun i:Nat=>dW.c0 (i:Int) s) 10 3 (by omega) (fun m=>?_) fun i hi m=>?_
 all_goals grind [XK,yY,Fq]
theorem PBT {s:IL} (h:AyZ s):IAm s=some (XL s,true):=by
 obtain ⟨l1,s1⟩:=h.once
 obtain ⟨l2,s2⟩:=h.path
 have pre:∀ {l:List AA} {i:Nat} (hlt:i<l.length),Ay6 (l.take i)++l[i]=Ay6 (l.take (i+1)):=fun {l i} hlt=>by grind [take_at,BAt,Ay6,lQ]
 have CF:∀ {l:List AA} (i:Nat),(∀ x ∈ l,x.size=4)->l.length<=10->(Ay6 (l.take i)).size<=40:=fun {l} i hs hl=>by rw [Vg (fun x hx=>hs x (List.mem_of_mem_take hx)),List.length_take];omega
 have hO:=Vg s1
 have two:∀ m,Awn (m+2+1) (.c1 (b1 s.Dv++Ay6 s.Fg++Ay6 (s.Gn.take 0)) 0 s)=some (XL s,true):=AKj (L:=Awn) (fun i:Nat=>dX.c1 (b1 s.Dv++Ay6 s.Fg++Ay6 (s.Gn.take i)) (i:Int) s) 2 (fun m=>by
  rw [Awn];simp only [lq,mk];rw [Jh (by omega),List.take_of_length_le (by omega)];rfl) fun i hi m=>by
  have hlt:i<s.Gn.length:=by omega
  have hw:=Fq (i:=i) (by omega);have hz:=CF i s2 (by omega);rw [Awn];simp only [lq,mk,hw,BR,getD_at hlt];rw [Ep (by omega),GX (by omega),Ep (by grind [Lh]),yZ (b1 s.Dv++Ay6 s.Fg),pre hlt]
 rw [IAm,MA0,mk,RBv h,AP,DN,Aq,AxQ h.leaf.1 (by have:=h.leaf.2;omega),AP,show ofBytes [s.Dv]=b1 s.Dv++Ay6 (s.Fg.take 0) by rfl];refine Wj (L:=Awn) (fun i:Nat=>dX.c0 (b1 s.Dv++Ay6 (s.Fg.take i)) (i:Int) s) 10 3 (by omega) (fun m=>?_) fun i hi m=>?_
 ·simp_all [Awn,lq,mk,List.take_of_length_le,Ay6,lQ]
 ·have hlt:i<s.Fg.length:=by omega
  have hw:=Fq (i:=i) (by omega);have hz:=CF i s1 (by omega);rw [Awn];simp only [lq,mk,hw,BR,getD_at hlt];rw [Ep (by omega),GX (by omega),Ep (by grind [Lh]),yZ (b1 s.Dv),pre hlt]
theorem SBv {s m:AA} {i:Int} (hi:0<=i/\i<=15):JAm (Ayc s i m)=some (MAt (Ayc s i m),true):=by have h1:AyZ (Ayc s i m).QU:=KAt (by omega);have h2:AyZ (Ayc s i m).QV:=KAt (by omega);have h3:(Ayc s i m).QS.size=4:=FAt _;have z1:=LAt h1;have z2:=LAt h2;rw [JAm,NA0,mk,PBT h1,AP,PBT h2,AP];dsimp only;rw [DN,Aq,Aq,TT (by simp_all),Ep (by omega),Ep (by simp_all)];rfl
theorem TBv {b:Ap} {c:CV} {x:Af} (h:PB b) (hc:c.fText.size<=1000) (hx:AwV b.AU.AZ x.fId=some x) (hm:AwF x 3=true):KAm b c x=some (Yg b c x):=by
 obtain ⟨h1,h2,h3⟩:=HAu hm
 obtain ⟨_,_,_,_,n0,n1,_⟩:=Ny h1
 have hv:=bV h1 (.inr h2);have hl:=GAu h.MC hx n0;rw [KAm,OA0,mk,Yg,HBT h.lln,AP];by_cases h16:DY b x>=16;·rw [Ba h16,show (DY b x == 16)=true from beq_iff_eq.2 (by omega)];rfl
 ·rw [D6 h16,show (DY b x == 16)=false from beq_eq_false_iff_ne.2 (by omega),Aq,Aq,QBv (by omega) (by omega) (by omega),AP,SBv (by omega),AP,A8 (n:=x.fNext+3) (by omega) (by omega),bne,Aw8];cases DY b x == x.fNext;·rfl
  ·by_cases q:16<x.fNext+3;·rw [if_pos q,Ba (by omega:x.fNext+3 > 16)];rfl
   ·rw [if_neg q,D6 (by omega:¬ x.fNext+3 > 16)];rfl
theorem QBT {s:AA} {n:Nat} (h:s.size=8*n) (hn:n<=1000):lu s=some (up (Ll (Ay7 s) n)):=by
 have inner:∀ i,i<n->∀ (m:Nat) (o:List Nat),_:=fun i hi=>fun m o=>(AwS (Lp:=Y0) (st:=fun j (x:Nat)=>.c1 s ((8*i:Nat):Int) (x:Int) (7 - (j:Int)) (up o)) (f:=fun j x=>x*256+Ay7 s (8*i+(7 - j))) (P:=fun j x=>x<256 ^ j) (n:=8) 1 (fun m j x hj hx=>by
  have hb:=XB s (8*i+(7 - j));have hp:256 ^ (j+1)<=18446744073709551616:=Nat.le_trans (Nat.pow_le_pow_right (by decide) (show j+1<=8 by omega)) (by decide);have hx2:x*256+Ay7 s (8*i+(7 - j))<256 ^ (j+1):=by omega
  have hlt:=Nat.lt_of_lt_of_le hx2 hp;refine ⟨?_,hx2⟩;have e1:AV (((8*i:Nat):Int)+(7 - (j:Int)))=((8*i+(7 - j):Nat):Int):=by grind [wn]
  have e2:AV (7 - (j:Int) - 1)=7 - ((j+1:Nat):Int):=by grind [A8]
  have e3:wu64 ((x:Int)*256)=((x*256:Nat):Int):=by rw [show (x:Int)*256=((x*256:Nat):Int) by omega];exact Axc (n:=x*256) (Nat.lt_of_le_of_lt (Nat.le_add_right _ _) hlt)
  have e4:wu64 ((Ay7 s (8*i+(7 - j)):Nat):Int)=((Ay7 s (8*i+(7 - j)):Nat):Int):=Axc (Nat.lt_trans hb (by decide));have e5:wu64 (((x*256:Nat):Int)+((Ay7 s (8*i+(7 - j)):Nat):Int))=((x*256+Ay7 s (8*i+(7 - j)):Nat):Int):=Axc (n:=x*256+Ay7 s (8*i+(7 - j))) hlt;rw [Y0];simp only [yc,mk,e1,e2,RU,e3,e4,e5];grind) 8 0 m 0 rfl (by decide)).1
 have s1:=AwS (Lp:=Y0) (st:=fun i o=>.c0 s ((8*i:Nat):Int) (up o)) (f:=fun i o=>o++[Px (Ay7 s) i]) (P:=fun i o=>o.length=i) (n:=n) 10 (fun m i o hi ho=>by
  refine ⟨?_,by simp_all⟩;have e1:AV (((8*i:Nat):Int)+8)=((8*(i+1):Nat):Int):=wn (n:=8*(i+1)) (by omega);grind [Y0,yc,up,Px])
 obtain ⟨m,hm⟩:∃ m,AY=m+1+n*10:=⟨AY - (1+n*10),by have:=FM (n:=1+n*10) (by omega);omega⟩
 rw [lu,PA0,hm];refine (s1 n 0 (m+1) [] (by omega) rfl).1.trans ?_;have e1:AV (((8*n:Nat):Int)+8)=((8*n+8:Nat):Int):=wn (n:=8*n+8) (by omega);rw [yg,Y0];simp only [yc,mk,e1];rw [TT (by grind)];rfl
theorem UBv:LAm=some (up Rn):=by rfl
theorem VBv:yh=some (up VJ):=by
 obtain ⟨m,hm⟩:∃ m,AY=m+300:=⟨AY - 300,rfl⟩
 rw [yh,RA0,hm];kernel_rfl
theorem RBT {x n:Nat} (hx:x<18446744073709551616) (hn:n<64):l7 (x:Int) (n:Int)=some ((Axh n x:Nat):Int):=by
 obtain ⟨m,hm⟩:∃ m,AY=m+1+n*1:=⟨AY - (n+1),by have:=FM (n:=n+1) (by omega);omega⟩
 have hp:∀ i,i<=63->2 ^ i<=9223372036854775808:=fun i hi=>Nat.pow_le_pow_right (n:=2) (by decide) hi
 rw [l7,TA0,hm]
 have h:=AwS (Lp:=l9) (st:=fun i (low:Nat)=>.c0 (x:Int) (n:Int) (low:Int) (i:Int)) (f:=fun _ low=>low*2) (P:=fun i low=>low=2 ^ i) (n:=n) 1 (fun m i low hi hl=>by
  refine ⟨?_,by omega⟩;have h1:=hp (i+1) (by omega);rw [Nat.pow_succ,<-hl] at h1;have hw:AV ((i:Int)+1)=((i+1:Nat):Int):=wn (n:=i+1) (by omega);have hw2:wu64 ((low:Int)*2)=((low*2:Nat):Int):=Axc (n:=low*2) (by omega);simp_all [l9,MAm,mk]) n 0 (m+1) 1 (by omega) rfl
 refine h.1.trans ?_;rw [h.2,l9];simp only [MAm,mk];rw [TT (by simp)];by_cases h0:n=0;·simp_all [XBP]
 ·have e1:(9223372036854775808:Int).tdiv ((2 ^ n:Nat):Int)=((2 ^ (63 - n):Nat):Int):=by show ((9223372036854775808 / 2 ^ n:Nat):Int)=_;rw [show 9223372036854775808=2 ^ 63 from rfl,Nat.pow_div (by omega) (by decide)]
  have h1:=hp (63 - n) (by omega);have e2:wu64 (((2 ^ (63 - n):Nat):Int)*2)=((2 ^ (64 - n):Nat):Int):=by
   have:2 ^ (64 - n)=2 ^ (63 - n)*2:=by rw [<-Nat.pow_succ];grind
   grind [Axc]
  have e3:wu64 ((x:Int)*((2 ^ n:Nat):Int))=(((x*2 ^ n) % 18446744073709551616:Nat):Int):=TBP (x*2 ^ n);grind [Axc,Axh,mD]
theorem WBv {a:List Nat} (ha:Awx a) {c:Nat} (hc:c<18446744073709551616):yj (up a) (up Rn) (c:Int)=some (up (mF a c)):=by
 obtain ⟨hl,hw⟩:=ha
 have ww:∀ n:Nat,n<100->AV (n:Int)=(n:Int):=fun n h=>wn (by omega)
 have w1:∀ i:Nat,i<30->AV ((i:Int)+1)=((i+1:Nat):Int):=fun i h=>ww (i+1) (by omega)
 have s1:=AwS (Lp:=Avl) (st:=fun i v=>.c0 (up a) (up Rn) (c:Int) (i:Int) (up v)) (f:=fun i v=>v.set i (AxX a i)) (P:=fun _ v=>v.length=5) (n:=5) 1 (fun m i v hi hv=>by
  refine ⟨?_,BBQ hv⟩;have e5:AV ((i:Int)+5)=((i+5:Nat):Int):=ww (i+5) (by omega);have e10:AV ((i:Int)+10)=((i+10:Nat):Int):=ww (i+10) (by omega);have e15:AV ((i:Int)+15)=((i+15:Nat):Int):=ww (i+15) (by omega);have e20:AV ((i:Int)+20)=((i+20:Nat):Int):=ww (i+20) (by omega);rw [Avl];simp only [Ue,mk,w1 i (by omega),e5,e10,e15,e20,BR,Jg];rw [IK (by grind),IK (AzJ (by omega)),IK (AzJ (by omega)),IK (AzJ (by omega)),IK (AzJ (by omega)),IK (AzJ (by omega)),IK (AzJ (by omega)),Py (hw.get _) (hw.get _),Py (xlt (hw.get _) (hw.get _)) (hw.get _),Py (xlt (xlt (hw.get _) (hw.get _)) (hw.get _)) (hw.get _),Py (xlt (xlt (xlt (hw.get _) (hw.get _)) (hw.get _)) (hw.get _)) (hw.get _),Jc];rfl)
 have Ga:∀ x:Nat,x<5->∀ (m:Nat) (b:List Nat),b.length=25->_:=fun x hx=>fun m b hb=>(AwS (Lp:=Avl) (st:=fun y b=>.c2 (up a) (up Rn) (c:Int) (x:Int) ((AKb a x:Nat):Int) (y:Int) (up ((List.range 5).map (AxX a))) (up b)) (f:=fun y b=>b.set (y+5*((2*x+3*y) % 5)) (Axh (Rn.getD (x+5*y) 0) (TP a (x+5*y)))) (P:=fun _ b=>b.length=25) (n:=5) 1 (fun m y b hy hb=>by
  refine ⟨?_,dY hb⟩;have e1:AV (5*(y:Int))=((5*y:Nat):Int):=ww (5*y) (by omega);have e2:AV ((x:Int)+((5*y:Nat):Int))=((x+5*y:Nat):Int):=ww (x+5*y) (by omega);have e3:AV (2*(x:Int))=((2*x:Nat):Int):=ww (2*x) (by omega);have e4:AV (3*(y:Int))=((3*y:Nat):Int):=ww (3*y) (by omega);have e5:AV (((2*x:Nat):Int)+((3*y:Nat):Int))=((2*x+3*y:Nat):Int):=ww (2*x+3*y) (by omega);have e6:((2*x+3*y:Nat):Int).tmod 5=(((2*x+3*y) % 5:Nat):Int):=rfl;have hz:(2*x+3*y) % 5<5:=Nat.mod_lt _ (by decide);have e7:AV (5*(((2*x+3*y) % 5:Nat):Int))=((5*((2*x+3*y) % 5):Nat):Int):=ww (5*((2*x+3*y) % 5)) (by omega);have e8:AV ((y:Int)+((5*((2*x+3*y) % 5):Nat):Int))=((y+5*((2*x+3*y) % 5):Nat):Int):=ww (y+5*((2*x+3*y) % 5)) (by omega);have ht:a.getD (x+5*y) 0 ^^^ AKb a x=TP a (x+5*y):=by rw [TP,show (x+5*y) % 5=x by omega]
  rw [Avl];simp only [Ue,mk,w1 y (by omega),e1,e2,e3,e4,e5,e6,e7,e8,BR,Jg];rw [IK (by grind),IK (AzJ (by omega)),IK (AzJ (by show x+5*y<25;omega)),Py (hw.get _) (ZBP hw _),ht,RBT (AMg hw _) (AW9 _),AP,IK (AzJ (by omega)),Jc]) 5 0 m b rfl hb)
 have s2:=AwS (Lp:=Avl) (st:=fun x b=>.c1 (up a) (up Rn) (c:Int) (x:Int) (up ((List.range 5).map (AxX a))) (up b)) (f:=fun x b=>Ob (fun y b=>b.set (y+5*((2*x+3*y) % 5)) (Axh (Rn.getD (x+5*y) 0) (TP a (x+5*y)))) 5 0 b) (P:=fun _ b=>b.length=25) (n:=5) 7 (fun m x b hx hb=>by
  obtain ⟨i1,i2⟩:=Ga x hx (m+1) b hb
  refine ⟨?_,i2⟩;have e4:AV ((x:Int)+4)=((x+4:Nat):Int):=ww (x+4) (by omega);have e1:AV ((x:Int)+1)=((x+1:Nat):Int):=ww (x+1) (by omega);have e2:((x+4:Nat):Int).tmod 5=(((x+4) % 5:Nat):Int):=rfl;have e3:((x+1:Nat):Int).tmod 5=(((x+1) % 5:Nat):Int):=rfl;have h4:(x+4) % 5<5:=Nat.mod_lt _ (by decide);have h1:(x+1) % 5<5:=Nat.mod_lt _ (by decide);have hlen:((List.range 5).map (AxX a)).length=5:=by rfl
  rw [show m+7=m+1+5*1+1 from rfl,Avl];simp only [Ue,mk,e4,e1,e2,e3,BR,Jg];rw [IK (by grind),IK (AzJ (by omega)),IK (AzJ (by omega)),yt h1,yt h4];have hr:l7 ((AxX a ((x+1) % 5):Nat):Int) 1=some ((Axh 1 (AxX a ((x+1) % 5)):Nat):Int):=RBT (n:=1) (VK hw _) (by decide);rw [hr,AP,Py (VK hw _) (mD (by decide) (VK hw _))];refine i1.trans ?_;grind [Avl,Ue])
 have hb:=OAt hw
 have Gb:∀ x:Nat,x<5->∀ (m:Nat) (o:List Nat),o.length=25->_:=fun x hx=>fun m o ho=>(AwS (Lp:=Avl) (st:=fun y o=>.c4 (c:Int) (x:Int) (y:Int) (up (Pz a)) (up o)) (f:=fun y o=>o.set (x+5*y) (P5 (Pz a) (x+5*y))) (P:=fun _ o=>o.length=25) (n:=5) 1 (fun m y o hy ho=>by
  refine ⟨?_,dY ho⟩;have hbl:=hb.1;have e1:AV (5*(y:Int))=((5*y:Nat):Int):=ww (5*y) (by omega);have e2:AV ((x:Int)+((5*y:Nat):Int))=((x+5*y:Nat):Int):=ww (x+5*y) (by omega);have e3:AV ((x:Int)+1)=((x+1:Nat):Int):=ww (x+1) (by omega);have e4:AV ((x:Int)+2)=((x+2:Nat):Int):=ww (x+2) (by omega);have e5:((x+1:Nat):Int).tmod 5=(((x+1) % 5:Nat):Int):=rfl;have e6:((x+2:Nat):Int).tmod 5=(((x+2) % 5:Nat):Int):=rfl;have h1:(x+1) % 5<5:=Nat.mod_lt _ (by decide);have h2:(x+2) % 5<5:=Nat.mod_lt _ (by decide);have e7:AV ((((x+1) % 5:Nat):Int)+((5*y:Nat):Int))=(((x+1) % 5+5*y:Nat):Int):=ww ((x+1) % 5+5*y) (by omega);have e8:AV ((((x+2) % 5:Nat):Int)+((5*y:Nat):Int))=(((x+2) % 5+5*y:Nat):Int):=ww ((x+2) % 5+5*y) (by omega);have hv:(Pz a).getD (x+5*y) 0 ^^^ ((18446744073709551615 - (Pz a).getD ((x+1) % 5+5*y) 0) &&& (Pz a).getD ((x+2) % 5+5*y) 0)=P5 (Pz a) (x+5*y):=by rw [P5,show (x+5*y) % 5=x by omega,show (x+5*y) / 5=y by omega]
  rw [Avl];simp only [Ue,mk,w1 y (by omega),e1,e2,e3,e4,e5,e6,e7,e8,BR,Jg];rw [IK (by grind),IK (AzJ (by omega)),IK (AzJ (by omega)),IK (AzJ (by omega)),IK (AzJ (by omega)),PBr (hb.2.get _),n64 (by omega) (hb.2.get _),Py (hb.2.get _) (nlt (by omega)),hv,Jc]) 5 0 m o rfl ho)
 have s3:=AwS (Lp:=Avl) (st:=fun x o=>.c3 (c:Int) (x:Int) (up (Pz a)) (up o)) (f:=fun x o=>Ob (fun y o=>o.set (x+5*y) (P5 (Pz a) (x+5*y))) 5 0 o) (P:=fun _ o=>o.length=25) (n:=5) 7 (fun m x o hx ho=>by
  obtain ⟨i1,i2⟩:=Gb x hx (m+1) o ho
  grind [Avl,Ue])
 obtain ⟨m,hm⟩:∃ m,AY=m+1+5*7+1+5*7+1+5*1:=⟨AY - 78,rfl⟩
 rw [yj,UA0,hm];obtain ⟨a1,a2⟩:=s1 5 0 (m+1+5*7+1+5*7+1) [0,0,0,0,0] rfl rfl
 refine a1.trans ?_;rw [SBr,Avl];simp only [Ue,mk];rw [TT (by rfl)];obtain ⟨b1,b2⟩:=s2 5 0 (m+1+5*7+1) (List.replicate 25 0) rfl rfl
 refine b1.trans ?_;rw [VBr (fun n q=>Axh n (TP a q)),Avl];simp only [Ue,mk];rw [TT (by rfl)];obtain ⟨c1,c2⟩:=s3 5 0 (m+1) (List.replicate 25 0) rfl rfl
 refine c1.trans ?_;have hch:=BBE hb.2;rw [TBr,Avl];simp only [Ue,mk];rw [TT (by rfl),show (0:Int).toNat=0 from rfl,Jg,Py (hch.2.get _) hc,Jc];rfl
theorem SBT {a:List Nat} (ha:Awx a):mG (up a)=some (up (yu a)):=by
 have s:=AwS (Lp:=yw) (st:=fun i a=>.c0 (i:Int) (up a) (up Rn) (up VJ)) (f:=fun i a=>mF a (VJ.getD i 0)) (P:=fun _ a=>Awx a) (n:=24) 1 (fun m i a hi ha=>by
  refine ⟨?_,CBE ha.2 (yx i)⟩;have w1:AV ((i:Int)+1)=((i+1:Nat):Int):=wn (n:=i+1) (by omega);rw [yw];simp only [WA0,mk,w1,BR,Jg];rw [IK (by grind),IK (AzJ (by assumption)),WBv ha (yx i),AP])
 obtain ⟨m,hm⟩:∃ m,AY=m+1+24*1:=⟨AY - 25,rfl⟩
 rw [mG,VA0,UBv,AP,VBv,AP,hm];refine (s 24 0 (m+1) a rfl ha).1.trans ?_;rfl
theorem XBv (v:Nat->Nat->Nat):Ob (fun i o=>o++(List.range 8).map (v i)) 25 0 []=(List.range 200).map (fun p=>v (p / 8) (p % 8)):=by kernel_rfl
theorem TBT {a:List Nat} (ha:Awx a):mJ (up a)=some (ofBytes (up (P6 a))):=by
 have hal:=ha.1
 have inner:∀ (i:Nat) (x:Nat) (m:Nat) (o:List Nat),x<18446744073709551616->o.length<=1000->_:=fun i x m o hx ho=>(AwS (Lp:=XM) (st:=fun j o=>.c1 (up a) (i:Int) ((x / 2 ^ (8*j):Nat):Int) (j:Int) (up o)) (f:=fun j o=>o++[x / 2 ^ (8*j) % 256]) (P:=fun j o=>o.length<=1000+j) (n:=8) 1 (fun m j o hj ho=>by
  refine ⟨?_,by grind⟩;have w1:AV ((j:Int)+1)=((j+1:Nat):Int):=wn (n:=j+1) (by omega);have e1:wu64 (((x / 2 ^ (8*j):Nat):Int).tdiv 256)=((x / 2 ^ (8*(j+1)):Nat):Int):=by
   have:x / 2 ^ (8*(j+1))=x / 2 ^ (8*j) / 256:=by grind [Nat.div_div_eq_div_mul]
   rw [this];exact Axc (n:=x / 2 ^ (8*j) / 256) (Nat.lt_of_le_of_lt (Nat.div_le_self _ _) (Nat.lt_of_le_of_lt (Nat.div_le_self _ _) hx))
  grind [Nq,XM,mM,up]) 8 0 m o rfl (by omega)).1
 have s1:=AwS (Lp:=XM) (st:=fun i o=>.c0 (up a) (i:Int) (up o)) (f:=fun i o=>o++(List.range 8).map fun j=>a.getD i 0 / 2 ^ (8*j) % 256) (P:=fun i o=>o.length=8*i) (n:=25) 10 (fun m i o hi ho=>by
  refine ⟨?_,by grind⟩;have w1:AV ((i:Int)+1)=((i+1:Nat):Int):=wn (n:=i+1) (by omega);have hx:=ha.2.get i;rw [show m+10=m+1+8*1+1 from rfl,XM];simp only [mM,mk,BR,Jg];rw [IK (by grind [D7]),IK (AzJ (by omega))];have h:=inner i (a.getD i 0) (m+1) o hx (by omega);rw [show ((a.getD i 0 / 2 ^ (8*0):Nat):Int)=((a.getD i 0:Nat):Int) by omega] at h;refine h.trans ?_;rw [mO,List.range'_eq_map_range,XM];simp_all [mM,mk])
 obtain ⟨m,hm⟩:∃ m,AY=m+1+25*10:=⟨AY - 251,by rfl⟩
 rw [mJ,XA0,hm];refine (s1 25 0 (m+1) [] (by omega) rfl).1.trans ?_;rw [XBv (fun i j=>a.getD i 0 / 2 ^ (8*j) % 256),XM];simp only [mM,mk];rw [TT (by simp_all [D7])];rfl
theorem YBv {s:AA} {f:Nat} (hs:s.size<=2000) (hf:f<256):y5 s 168 (f:Int)=some (mP s f):=by
 obtain ⟨q,hq,hq2⟩:=JBQ s f
 have hbuf:=IBQ s hf
 have sp:=AwS (Lp:=P7) (st:=fun i l=>.c0 168 (up (List.replicate 25 0)) (up l)) (f:=fun _ l=>l++[0]) (P:=fun i l=>l.length=s.size+1+i) (n:=(168 - (s.size+1) % 168) % 168) 1 (fun m i l hi hl=>by
  grind [P7,Y1,D7,AwO])
 have si:∀ (p:Nat) (st:List Nat),p<q->Awx st->∀ m,P7 (m+21*1) (.c2 168 ((168*p:Nat):Int) ((0:Nat):Int) (up st) (up (Av6 s f)) (up (Ll (fun i=>(Av6 s f).getD (168*p+i) 0) 21)))=P7 m (.c2 168 ((168*p:Nat):Int) ((21:Nat):Int) (up (dZ st fun i=>(Av6 s f).getD (168*p+i) 0)) (up (Av6 s f)) (up (Ll (fun i=>(Av6 s f).getD (168*p+i) 0) 21))):=by
  intro p st hp hst m;have hg:∀ i,(fun i=>(Av6 s f).getD (168*p+i) 0) i<256:=fun i=>hbuf.get _
  generalize hgg:(fun i=>(Av6 s f).getD (168*p+i) 0)=g at hg;have hll:(Ll g 21).length=21:=by rfl
  have Er:=AhV hg 21
  obtain ⟨a1,a2,a3,a4⟩:=AwS (Lp:=P7) (st:=fun i v=>.c2 168 ((168*p:Nat):Int) (i:Int) (up v) (up (Av6 s f)) (up (Ll g 21))) (f:=fun i v=>v.set i (v.getD i 0 ^^^ (Ll g 21).getD i 0)) (P:=fun i v=>v.length=25/\NK v/\∀ k,k<25->v.getD k 0=if k<i then st.getD k 0 ^^^ Px g k else st.getD k 0) (n:=21) 1 (fun m i v hi hv=>by
   obtain ⟨v1,v2,v3⟩:=hv
   refine ⟨?_,dY v1,v2.set _ (xlt (v2.get _) (Er.get _)),fun k hk=>?_⟩;·have w1:AV ((i:Int)+1)=((i+1:Nat):Int):=wn (n:=i+1) (by omega);rw [P7];simp only [Y1,mk,w1,BR,Jg];rw [Py (v2.get _) (Er.get _),Jc,IK (by grind [D7]),IK (AzJ (by omega)),IK (AzJ (by omega)),IK (AzJ (by omega))]
   grind [Ll]) 21 0 m st (by omega) ⟨hst.1,hst.2,fun k hk=>by rfl⟩
  refine a1.trans ?_
  rw [show Ob (fun i v=>v.set i (v.getD i 0 ^^^ (Ll g 21).getD i 0)) 21 0 st=dZ st g from RAt (by assumption) fun k hk=>by
   simp_all [dZ]]
 have so:=AwS (Lp:=P7) (st:=fun p st=>.c1 168 ((168*p:Nat):Int) (up st) (up (Av6 s f))) (f:=mQ (Av6 s f)) (P:=fun _ st=>Awx st) (n:=q) 23 (fun m p st hp hst=>by
  refine ⟨?_,LBE hbuf hst⟩;have e1:AV (((168*p:Nat):Int)+168)=((168*(p+1):Nat):Int):=by rw [show ((168*p:Nat):Int)+168=((168*(p+1):Nat):Int) by omega];exact wn (n:=168*(p+1)) (by omega)
  have hbl:((up (Av6 s f)).drop (168*p)).take (168*(p+1) - 168*p)=up (((Av6 s f).drop (168*p)).take 168):=by grind [up,List.map_drop,List.map_take]
  have hsz:(ofBytes (up (((Av6 s f).drop (168*p)).take 168))).size=8*21:=by grind [Dj,D7]
  have hlt:∀ x ∈ ((Av6 s f).drop (168*p)).take 168,x<256:=fun x hx=>hbuf x (List.mem_of_mem_drop (List.mem_of_mem_take hx))
  have Fy:Ll (Ay7 (ofBytes (up (((Av6 s f).drop (168*p)).take 168)))) 21=Ll (fun i=>(Av6 s f).getD (168*p+i) 0) 21:=by
   refine List.map_congr_left fun k hk=>?_
   grind [FBE,QAt]
  rw [show m+23=(m+1)+21*1+1 from rfl,P7];simp only [Y1,mk,e1,BR];rw [IK (by simp_all [D7]),IK (by rw [Bool.and_eq_true,Bool.and_eq_true,decide_eq_true_eq,decide_eq_true_eq,decide_eq_true_eq,D7];omega),hbl,QBT hsz (by omega),AP,Fy];refine (si p st hp hst (m+1)).trans ?_;rw [P7];simp only [Y1,mk,e1];rw [TT (by rfl),SBT (KBQ hst fun _=>hbuf.get _),AP];rfl)
 have F0:(168 - (s.size+1) % 168) % 168<168:=Nat.mod_lt _ (by decide);have hl1:(AyN s++[f]).length=s.size+1:=by simp [dh]
 obtain ⟨m,hm⟩:∃ m,AY=(m+1+q*23)+1+((168 - (s.size+1) % 168) % 168)*1:=⟨AY - (1+q*23+1+(168 - (s.size+1) % 168) % 168),by have:=FM (n:=1+q*23+1+(168 - (s.size+1) % 168) % 168) (by omega);omega⟩
 have hzs:(bytesOf s).length=s.size:=by simp_all [dn,D7]
 rw [y5,YA0,mk,hm,IK (by grind),IK (by grind),dn,AwO,show (25:Int).toNat=25 from rfl,<-Avq];refine (sp ((168 - (s.size+1) % 168) % 168) 0 _ (AyN s++[f]) (by omega) hl1).1.trans ?_;have hpl:Ob (fun _ l=>l++[0]) ((168 - (s.size+1) % 168) % 168) 0 (AyN s++[f])=LJ (AyN s++[f]):=by simp_all [mO,LJ]
 have DM:B8 (LJ (AyN s++[f])):=HBE (JBE s hf);have C2:=GBE (AyN s++[f]);rw [hl1] at C2;have e2:((up (LJ (AyN s++[f]))).length:Int).tmod 168=(((up (LJ (AyN s++[f]))).length % 168:Nat):Int):=rfl;have e3:AV (((up (LJ (AyN s++[f]))).length:Int) - 1)=(((LJ (AyN s++[f])).length - 1:Nat):Int):=by grind [D7,wn]
 rw [hpl,P7];simp only [Y1,mk,e2,e3,BR,Jg];rw [IK (by rfl),TT (by grind [D7]),IK (AzJ (by omega)),IK (AzJ (by omega)),show (128:Int)=((128:Nat):Int) from rfl,x8 (DM.get _) (by decide),Jc];show P7 (m+1+q*23) (.c1 168 0 (up (List.replicate 25 0)) (up (Av6 s f)))=_;refine (so q 0 (m+1) (List.replicate 25 0) (by omega) KBE).1.trans ?_;have hfin:Ob (mQ (Av6 s f)) q 0 (List.replicate 25 0)=mV s f:=by simp_all [mV]
 have hok:Awx (mV s f):=SAt (fun _ _ h=>LBE hbuf h) _ _ _ KBE;rw [hfin,P7];simp only [Y1,mk];rw [TT (by simp_all [D7]),TBT hok];rfl
theorem UBT {s:AA} (h:s.size<=2000):mW s=some ⟨sd s,0⟩:=by have e:y5 s 168 31=some (mP s 31):=YBv (f:=31) h (by decide);rw [mW,ZA0,e];rfl
theorem ZBv {s:AA} (h:s.size=200):y7 s=some (bg s):=by have hl:=FBQ (XB s);rw [y7,AMw,mk,TT (by simp_all),QBT (n:=25) h (by omega),AP,SBT hl,AP,TBT (DBE hl)];rfl
theorem VBT {S:AA} {p n:Nat} {x:F6} (hS:S.size=200) (h:NH S p x) (hn:n<=4000):∃ x',dw x (n:Int)=some (x',ofBytes (up (Axe S p n)))/\NH S (p+n) x':=by
 have key:∀ (r m:Nat) (x:F6) (v:F6) (o:List Nat),n - o.length=r->r<m->o.length<=n->NH S (p+o.length) x->∃ x',mX m (.c0 (n:Int) x v (up o))=some (x',ofBytes (up (o++Axe S (p+o.length) (n - o.length))))/\NH S (p+n) x':=by
  intro r;induction r using Nat.strongRecOn with
  | ind r ih=>
  intro m x v o hr hm ho hx;obtain ⟨m,rfl⟩:∃ m',m=m'+1:=⟨m - 1,by omega⟩
  rw [mX];simp only [CA1,mk];by_cases hlt:o.length<n
  ·have en:AV ((n:Int) - ((up o).length:Int))=((n - o.length:Nat):Int):=by grind [D7,wn]
   rw [IK (by simp_all [D7])];have go:∀ (q a k:Nat),168*q+a=p+o.length->a+k<=168->0<k->k<=n - o.length->∃ x',mX m (.c0 (n:Int) ⟨I9 S q,((a+k:Nat):Int)⟩ v (up o++bytesOf ((I9 S q).extract a (a+k))))=some (x',ofBytes (up (o++Axe S (p+o.length) (n - o.length))))/\NH S (p+n) x':=by
    intro q a k h1 h2 h3 h4;rw [dn,chunk hS h2,show up o++up (Axe S (168*q+a) k)=up (o++Axe S (168*q+a) k) by simp [up],h1];have hl:(o++Axe S (p+o.length) k).length=o.length+k:=by simp [TAt]
    obtain ⟨x',e1,e2⟩:=ih (n - (o.length+k)) (by omega) m ⟨I9 S q,((a+k:Nat):Int)⟩ v (o++Axe S (p+o.length) k) (by rw [hl]) (by omega) (by omega) ⟨q,a+k,rfl,by omega,h2⟩
    refine ⟨x',?_,e2⟩;rw [e1,hl,List.append_assoc,<-Nat.add_assoc,MBQ,show k+(n - (o.length+k))=n - o.length by omega]
   obtain ⟨q,a,rfl,ha,ha2⟩:=hx
   have hz:=bf hS q;have hz2:=bf hS (q+1);have big:∀ (T:AA) (i j:Nat),T.size=200->decide (((up o).length+(bytesOf (T.extract i j)).length)*1<=140737488355328)=true/\decide ((T.extract i j).size<=9223372036854775807)=true:=fun T i j hT=>by grind [ByteArray.size_extract,dn,D7,dh]
   dsimp only;by_cases DD:a=168
   ·subst DD;rw [IK (by rfl),ZBv hz,AP,show bg (I9 S q)=I9 S (q+1) from rfl,en,show AV ((168:Int) - (0:Int))=168 by decide];by_cases hk:n - o.length<168
    ·have e0:AV (0+((n - o.length:Nat):Int))=((0+(n - o.length):Nat):Int):=by grind [wn]
     obtain ⟨b1,b2⟩:=big (I9 S (q+1)) 0 (0+(n - o.length)) hz2
     rw [IK (by grind),e0,show (0:Int).toNat=0 from rfl,BR,IK (by grind),b2,Ar,b1,Ar];exact go (q+1) 0 (n - o.length) (by omega) (by omega) (by omega) (Nat.le_refl _)
    ·obtain ⟨b1,b2⟩:=big (I9 S (q+1)) 0 (0+168) hz2
     rw [TT (by grind),show AV (0+168)=((0+168:Nat):Int) by decide,show (0:Int).toNat=0 from rfl,BR,IK (by rw [Bool.and_eq_true,Bool.and_eq_true,decide_eq_true_eq,decide_eq_true_eq,decide_eq_true_eq];omega),b2,Ar,b1,Ar];exact go (q+1) 0 168 (by omega) (by omega) (by omega) (by omega)
   ·have ea:AV (168 - (a:Int))=((168 - a:Nat):Int):=by grind [wn]
    rw [TT (by grind),en,ea,BR];by_cases hk:n - o.length<168 - a
    ·have e0:AV ((a:Int)+((n - o.length:Nat):Int))=((a+(n - o.length):Nat):Int):=wn (n:=a+(n - o.length)) (by omega);obtain ⟨b1,b2⟩:=big (I9 S q) a (a+(n - o.length)) hz
     rw [IK (by simp_all),e0,BR,IK (by grind),b2,Ar,b1,Ar];grind
    ·have e0:AV ((a:Int)+((168 - a:Nat):Int))=((a+(168 - a):Nat):Int):=wn (n:=a+(168 - a)) (by omega);obtain ⟨b1,b2⟩:=big (I9 S q) a (a+(168 - a)) hz
     rw [TT (by simp_all),e0,BR,IK (by grind),b2,Ar,b1,Ar];grind
  grind [D7,Axe]
 obtain ⟨q,a,rfl,ha,ha2⟩:=h
 have h1:=bf hS q;have hi1:AyM ((n:Nat):Int) 0 4000=true:=Na.2 (by omega);have hi2:AyM ((a:Nat):Int) 0 168=true:=Na.2 (by omega);rw [dw,BA1,mk,Ih,AP,hi1,DN,Aq,TT (by simp_all),Ih,AP,hi2,DN,Aq];obtain ⟨x',e1,e2⟩:=key n AY ⟨I9 S q,(a:Int)⟩ ⟨⟨#[]⟩,0⟩ [] (by rfl) (FM (by omega)) (DJ _) ⟨q,a,rfl,ha,ha2⟩
 exact ⟨x',e1,e2⟩
theorem PAu {seed:AA} {i j:Nat} (h:seed.size<=1000) (hi:i<256) (hj:j<256):XO seed (i:Int) (j:Int)=some (up (IE seed i j)):=by
 have h1:Awm (i:Int)=some (Awl i):=AxQ (by omega) (by omega);have h2:Awm (j:Int)=some (Awl j):=AxQ (by omega) (by omega);have hz:∀ n,(Awl n).size=1:=fun n=>by rfl
 have hz1:=hz i;have hz2:=hz j;have hsz:((seed++Awl i)++Awl j).size=seed.size+2:=by simp_all
 rw [XO,DA1,mk,h1,AP,IK (by grind),h2,AP,IK (by grind),UBT (by omega),AP,IE];generalize hS:sd ((seed++Awl i)++Awl j)=S;have hSz:S.size=200:=by grind [UAt]
 have pad:∀ (M:Nat) (o:List Nat),o.length<=256->Axi (M+257) (.c1 (up o))=some (up (Jd o)):=by
  intro M o ho;obtain ⟨n,hn⟩:∃ n,n=256 - o.length:=⟨_,rfl⟩
  have s:=AwS (Lp:=Axi) (st:=fun _ l=>.c1 (up l)) (f:=fun _ l=>l++[0]) (P:=fun i l=>l.length=o.length+i) (n:=n) 1 (fun m i l hi hl=>by
   refine ⟨?_,by grind⟩;have h1:(up l).length<256:=by grind [D7]
   show (bif decide (((up l).length:Int)<256) then (bif decide (((up l).length+1)*8<=140737488355328) then Axi m (.c1 (up l++[(0:Int)])) else none) else some (up l))=_;grind [AwO])
  have hp:Jd o=o++List.replicate n 0:=by rw [Jd,hn]
  have hpl:(up (Jd o)).length=256:=by simp_all [D7]
  rw [show M+257=(M+o.length+1)+n*1 by omega];refine (s n 0 (M+o.length+1) o (by omega) rfl).1.trans ?_;rw [mO (fun _=>0),List.map_const',List.length_range',<-hp];show (bif decide (((up (Jd o)).length:Int)<256) then (bif decide (((up (Jd o)).length+1)*8<=140737488355328) then Axi (M+o.length) (.c1 (up (Jd o)++[(0:Int)])) else none) else some (up (Jd o)))=_;simp_all
 have key:∀ (r k:Nat) (m:Nat) (x:F6) (buf:AA) (o:List Nat),k+r=4000->UQ o->(if k % 56=0 then NH S (3*k) x else buf=ofBytes (up (Axe S (3*(k - k % 56)) 168))/\NH S (3*(k - k % 56)+168) x)->Axi (m+r+1+257) (.c0 buf (k:Int) x (up o))=some (up (Jd (Ym S r k o))):=by
  intro r;induction r with
  | zero=>
   intro k m x buf o hk ho hx;rw [show m+0+1+257=(m+257)+1 by omega,Axi];delta NAm mk;dsimp only;rw [TT (by simp_all)];exact pad m o ho.1
  | succ r ih=>
   intro k m x buf o hk ho hx;have w1:AV ((k:Int)+1)=((k+1:Nat):Int):=wn (n:=k+1) (by omega);have em:(k:Int).tmod 56=((k % 56:Nat):Int):=rfl;have e3:AV (((k % 56:Nat):Int)*3)=((k % 56*3:Nat):Int):=wn (n:=k % 56*3) (by omega);have e4:AV (((k % 56*3:Nat):Int)+1)=((k % 56*3+1:Nat):Int):=wn (n:=k % 56*3+1) (by omega);have e5:AV (((k % 56*3:Nat):Int)+2)=((k % 56*3+2:Nat):Int):=wn (n:=k % 56*3+2) (by omega);have l0:=dH S (3*k);have l1:=dH S (3*k+1);have l2:=dH S (3*k+2);rw [show m+(r+1)+1+257=(m+r+1+257)+1 by omega,Axi,Ym];delta NAm mk;dsimp only;simp only [w1,em,e3,e4,e5];rw [IK (by grind)];by_cases hlt:o.length<256
   ·rw [IK (by grind [D7])];by_cases Ex:k % 56=0
    ·rw [if_pos Ex] at hx;obtain ⟨x',e,hx'⟩:=VBT (n:=168) hSz hx (by omega)
     have e:dw x 168=_:=e;have nx:(if (k+1) % 56=0 then NH S (3*(k+1)) x' else ofBytes (up (Axe S (3*k) 168))=ofBytes (up (Axe S (3*(k+1 - (k+1) % 56)) 168))/\NH S (3*(k+1 - (k+1) % 56)+168) x'):=by grind
     rw [IK (by simp_all),e,AP];dsimp only;have hs3:(ofBytes (up (Axe S (3*k) 168))).size=168:=by rfl
     have t0:bt (ofBytes (up (Axe S (3*k) 168))) ((k % 56*3:Nat):Int)=((strm S (3*k):Nat):Int):=by rw [RU,XC S (by omega),show 3*k+k % 56*3=3*k by omega]
     have t1:bt (ofBytes (up (Axe S (3*k) 168))) ((k % 56*3+1:Nat):Int)=((strm S (3*k+1):Nat):Int):=by rw [RU,XC S (by omega),show 3*k+(k % 56*3+1)=3*k+1 by omega]
     have t2:bt (ofBytes (up (Axe S (3*k) 168))) ((k % 56*3+2:Nat):Int)=((strm S (3*k+2):Nat):Int):=by rw [RU,XC S (by omega),show 3*k+(k % 56*3+2)=3*k+2 by omega]
     have va:AV (((strm S (3*k):Nat):Int)+AV (256*((strm S (3*k+1):Nat):Int).tmod 16))=((AwR S k:Nat):Int):=by grind [A8,AwR]
     have vb:AV (AV (((strm S (3*k+1):Nat):Int).tdiv 16)+AV (16*((strm S (3*k+2):Nat):Int)))=((Lm S k:Nat):Int):=by grind [A8,Lm]
     rw [t0,t1,t2,wn (n:=strm S (3*k)) (by omega),wn (n:=strm S (3*k+1)) (by omega),wn (n:=strm S (3*k+2)) (by omega),va,vb,IK (by grind),IK (by grind),IK (by grind),IK (by grind),if_pos hlt];by_cases ha:AwR S k<3329
     ·have h1:RV (AwR S k) o=o++[AwR S k]:=if_pos ⟨ha,hlt⟩;have hl1:(o++[AwR S k]).length=o.length+1:=by simp
      rw [IK (by grind),IK (by grind [D7]),AwO];by_cases hb:Lm S k<3329
      ·rw [IK (by grind)];by_cases hl:(o++[AwR S k]).length<256
       ·have h2:Azd S k o=(o++[AwR S k])++[Lm S k]:=by rw [Azd,h1];exact if_pos ⟨hb,hl⟩
        rw [IK (by grind [D7]),IK (by grind [D7]),AwO,<-h2];exact ih (k+1) m x' _ _ (by omega) (VG ho) nx
       ·have h2:Azd S k o=o++[AwR S k]:=by rw [Azd,h1];exact if_neg (fun h=>hl h.2)
        rw [TT (by grind [D7]),<-h2];exact ih (k+1) m x' _ _ (by omega) (VG ho) nx
      ·have h2:Azd S k o=o++[AwR S k]:=by rw [Azd,h1];exact if_neg (fun h=>hb h.1)
       rw [TT (by grind),<-h2];exact ih (k+1) m x' _ _ (by omega) (VG ho) nx
     ·have h1:RV (AwR S k) o=o:=if_neg (fun h=>ha h.1);rw [TT (by grind)];by_cases hb:Lm S k<3329
      ·have h2:Azd S k o=o++[Lm S k]:=by rw [Azd,h1];exact if_pos ⟨hb,hlt⟩
       rw [IK (by grind),IK (by grind [D7]),IK (by grind [D7]),AwO,<-h2];exact ih (k+1) m x' _ _ (by omega) (VG ho) nx
      ·have h2:Azd S k o=o:=by rw [Azd,h1];exact if_neg (fun h=>hb h.1)
       rw [TT (by grind)];rw [h2];exact ih (k+1) m x' _ _ (by omega) ho nx
    ·rw [if_neg Ex] at hx;obtain ⟨rfl,hx⟩:=hx
     have nx:(if (k+1) % 56=0 then NH S (3*(k+1)) x else ofBytes (up (Axe S (3*(k - k % 56)) 168))=ofBytes (up (Axe S (3*(k+1 - (k+1) % 56)) 168))/\NH S (3*(k+1 - (k+1) % 56)+168) x):=by grind
     rw [TT (by grind)];have hs3:(ofBytes (up (Axe S (3*(k - k % 56)) 168))).size=168:=by rfl
     have t0:bt (ofBytes (up (Axe S (3*(k - k % 56)) 168))) ((k % 56*3:Nat):Int)=((strm S (3*k):Nat):Int):=by rw [RU,XC S (by omega),show 3*(k - k % 56)+k % 56*3=3*k by omega]
     have t1:bt (ofBytes (up (Axe S (3*(k - k % 56)) 168))) ((k % 56*3+1:Nat):Int)=((strm S (3*k+1):Nat):Int):=by rw [RU,XC S (by omega),show 3*(k - k % 56)+(k % 56*3+1)=3*k+1 by omega]
     have t2:bt (ofBytes (up (Axe S (3*(k - k % 56)) 168))) ((k % 56*3+2:Nat):Int)=((strm S (3*k+2):Nat):Int):=by rw [RU,XC S (by omega),show 3*(k - k % 56)+(k % 56*3+2)=3*k+2 by omega]
     have va:AV (((strm S (3*k):Nat):Int)+AV (256*((strm S (3*k+1):Nat):Int).tmod 16))=((AwR S k:Nat):Int):=by grind [A8,AwR]
     have vb:AV (AV (((strm S (3*k+1):Nat):Int).tdiv 16)+AV (16*((strm S (3*k+2):Nat):Int)))=((Lm S k:Nat):Int):=by grind [A8,Lm]
     rw [t0,t1,t2,wn (n:=strm S (3*k)) (by omega),wn (n:=strm S (3*k+1)) (by omega),wn (n:=strm S (3*k+2)) (by omega),va,vb,IK (by grind),IK (by grind),IK (by grind),IK (by grind),if_pos hlt];by_cases ha:AwR S k<3329
     ·have h1:RV (AwR S k) o=o++[AwR S k]:=if_pos ⟨ha,hlt⟩;have hl1:(o++[AwR S k]).length=o.length+1:=by simp
      rw [IK (by grind),IK (by grind [D7]),AwO];by_cases hb:Lm S k<3329
      ·rw [IK (by grind)];by_cases hl:(o++[AwR S k]).length<256
       ·have h2:Azd S k o=(o++[AwR S k])++[Lm S k]:=by rw [Azd,h1];exact if_pos ⟨hb,hl⟩
        rw [IK (by grind [D7]),IK (by grind [D7]),AwO,<-h2];exact ih (k+1) m x _ _ (by omega) (VG ho) nx
       ·have h2:Azd S k o=o++[AwR S k]:=by rw [Azd,h1];exact if_neg (fun h=>hl h.2)
        rw [TT (by grind [D7]),<-h2];exact ih (k+1) m x _ _ (by omega) (VG ho) nx
      ·have h2:Azd S k o=o++[AwR S k]:=by rw [Azd,h1];exact if_neg (fun h=>hb h.1)
       rw [TT (by grind),<-h2];exact ih (k+1) m x _ _ (by omega) (VG ho) nx
     ·have h1:RV (AwR S k) o=o:=if_neg (fun h=>ha h.1);rw [TT (by grind)];by_cases hb:Lm S k<3329
      ·have h2:Azd S k o=o++[Lm S k]:=by rw [Azd,h1];exact if_pos ⟨hb,hlt⟩
       rw [IK (by grind),IK (by grind [D7]),IK (by grind [D7]),AwO,<-h2];exact ih (k+1) m x _ _ (by omega) (VG ho) nx
      ·have h2:Azd S k o=o:=by rw [Azd,h1];exact if_neg (fun h=>hb h.1)
       rw [TT (by grind)];rw [h2];exact ih (k+1) m x _ _ (by omega) ho nx
   ·rw [TT (by grind [D7]),if_neg hlt];have hp:=pad (m+r+1) o ho.1;exact hp
 obtain ⟨m,hm⟩:∃ m,AY=m+4000+1+257:=⟨AY - 4258,by rfl⟩
 rw [hm];refine key 4000 0 m ⟨S,0⟩ ⟨#[]⟩ [] (by omega) ⟨DJ _,fun _ h=>by cases h⟩ ?_;grind [VAt]
theorem AhX {rho:AA} (h:rho.size<=1000):y8 rho=some [up (IE rho 0 0),up (IE rho 1 0),up (IE rho 0 1),up (IE rho 1 1)]:=by
 have Hh:XO rho 0 0=some (up (IE rho 0 0)):=PAu (i:=0) (j:=0) h (by decide) (by decide);have u10:XO rho 1 0=some (up (IE rho 1 0)):=PAu (i:=1) (j:=0) h (by decide) (by decide);have Hi:XO rho 0 1=some (up (IE rho 0 1)):=PAu (i:=0) (j:=1) h (by decide) (by decide);have u11:XO rho 1 1=some (up (IE rho 1 1)):=PAu (i:=1) (j:=1) h (by decide) (by decide);have w0:AV (0+1)=1:=by decide
 have w1:AV (1+1)=2:=by decide
 obtain ⟨m,hm⟩:∃ m,AY=m+9:=⟨AY - 9,rfl⟩
 simp_all [y8,EA1,OAm,FA1,mk]
theorem BBw {s:AA} {n:Nat} (h:s.size<=2000) (hn:n<=4000):mZ s (n:Int)=some (ofBytes (up (Axe (sd s) 0 n)),true):=by
 obtain ⟨x',e,_⟩:=VBT (n:=n) (UAt s) (VAt s) hn
 rw [mZ,GA1,mk,Ih,AP,Na.2 (by omega),DN,Aq,UBT h,AP,e];rfl
theorem QAu {seed:AA} {n:Nat} (h:seed.size<=1000) (hn:n<256):XP seed (n:Int)=some (up (LG seed n)):=by
 have h1:Awm (n:Int)=some (Awl n):=AxQ (by omega) (by omega);have hz:(Awl n).size=1:=by rfl
 have h2:=BBw (s:=seed++Awl n) (n:=128) (by grind) (by omega);have hs:(ofBytes (up (Axe (sd (seed++Awl n)) 0 128))).size=128:=by rfl
 have h2:mZ (seed++Awl n) 128=_:=h2;rw [XP,IA1,mk,h1,AP,IK (by grind),h2,AP];dsimp only;rw [LG];generalize ofBytes (up (Axe (sd (seed++Awl n)) 0 128))=s at hs
 have sl:=AwS (Lp:=mg) (st:=fun i o=>.c0 s (i:Int) (up o)) (f:=fun i o=>o++[Yj (Ay7 s (i / 2) / 2 ^ (4*(i % 2)))]) (P:=fun i o=>o.length=i) (n:=256) 1 (fun m i o hi ho=>by
  refine ⟨?_,by simp_all⟩;have hb:=XB s (i / 2);have w1:AV ((i:Int)+1)=((i+1:Nat):Int):=wn (n:=i+1) (by omega);have e1:AV ((i:Int).tdiv 2)=((i / 2:Nat):Int):=wn (n:=i / 2) (by omega);have e2:(i:Int).tmod 2=((i % 2:Nat):Int):=rfl;have e3:AV ((Ay7 s (i / 2):Nat):Int)=((Ay7 s (i / 2):Nat):Int):=wn (by omega);have val:∀ b:Nat,b<256->(AV ((AV ((AV ((AV (((b:Nat):Int).tmod 2+(AV (((b:Nat):Int).tdiv 2)).tmod 2)) - (AV (((b:Nat):Int).tdiv 4)).tmod 2)) - (AV (((b:Nat):Int).tdiv 8)).tmod 2))+3329)).tmod 3329=((Yj b:Nat):Int):=by
   intro b hb;have a1:((b:Nat):Int).tmod 2=((b % 2:Nat):Int):=rfl;have a2:(AV (((b:Nat):Int).tdiv 2)).tmod 2=((b / 2 % 2:Nat):Int):=by rw [show ((b:Nat):Int).tdiv 2=((b / 2:Nat):Int) from rfl,wn (by omega)];rfl
   have a3:(AV (((b:Nat):Int).tdiv 4)).tmod 2=((b / 4 % 2:Nat):Int):=by rw [show ((b:Nat):Int).tdiv 4=((b / 4:Nat):Int) from rfl,wn (by omega)];rfl
   have a4:(AV (((b:Nat):Int).tdiv 8)).tmod 2=((b / 8 % 2:Nat):Int):=by rw [show ((b:Nat):Int).tdiv 8=((b / 8:Nat):Int) from rfl,wn (by omega)];rfl
   rw [a1,a2,a3,a4,A8 (n:=((b % 2:Nat):Int)+((b / 2 % 2:Nat):Int)) (by omega) (by omega),A8 (n:=((b % 2:Nat):Int)+((b / 2 % 2:Nat):Int) - ((b / 4 % 2:Nat):Int)) (by omega) (by omega),A8 (n:=((b % 2:Nat):Int)+((b / 2 % 2:Nat):Int) - ((b / 4 % 2:Nat):Int) - ((b / 8 % 2:Nat):Int)) (by omega) (by omega),A8 (by omega) (by omega),Int.tmod_eq_emod_of_nonneg (by omega),Yj];omega
  rw [mg];simp only [JA1,mk,w1,e1,e2,RU,e3];rw [IK (by grind),GX (by omega)];by_cases h2:i % 2=1;·have e4:AV (((Ay7 s (i / 2):Nat):Int).tdiv 16)=((Ay7 s (i / 2) / 16:Nat):Int):=wn (n:=Ay7 s (i / 2) / 16) (by omega);rw [IK (by simp_all),Ep (by rw [D7];omega),e4,val _ (by omega),AwO,h2]
  ·have h0:i % 2=0:=by omega
   rw [TT (by simp_all),Ep (by rw [D7];omega),val _ hb,AwO,h0,Nat.mul_zero,Nat.pow_zero,Nat.div_one])
 obtain ⟨m,hm⟩:∃ m,AY=m+1+256*1:=⟨AY - 257,by rfl⟩
 rw [hm];refine (sl 256 0 (m+1) [] (by omega) rfl).1.trans ?_;rw [yg,mg];rfl
theorem nC {l:List Nat} (h:Vb l):Vm (up l)=some true:=by
 have hl:=h.1
 have s:=AwS (Lp:=nD) (st:=fun i (_:Unit)=>.c0 (up l) (i:Int)) (f:=fun _ a=>a) (P:=fun _ _=>True) (n:=256) 1 (fun m i _ hi _=>by
  refine ⟨?_,trivial⟩;have w1:AV ((i:Int)+1)=((i+1:Nat):Int):=wn (n:=i+1) (by omega);have hq:=h.get i;grind [nD,PAm,BR,Jg,D7,Ih,Na])
 obtain ⟨m,hm⟩:∃ m,AY=m+1+256*1:=⟨AY - 257,by rfl⟩
 rw [Vm,KA1,mk,TT (by simp_all [D7]),hm];refine (s 256 0 (m+1) () (by omega) trivial).1.trans ?_;simp_all [nD,PAm,mk,D7]
theorem WBT {n:Nat} (h:n<128):eF (n:Int)=some ((t7 n:Nat):Int):=by
 have s:=AwS (Lp:=y9) (st:=fun i (o:Nat)=>.c0 ((n / 2 ^ i:Nat):Int) (o:Int) (i:Int)) (f:=fun i o=>2*o+n / 2 ^ i % 2) (P:=fun i o=>o<2 ^ i) (n:=7) 1 (fun m i o hi ho=>by
  have hp:2 ^ (i+1)<=2 ^ 7:=Nat.pow_le_pow_right (by decide) hi;have hlt:2*o+n / 2 ^ i % 2<2 ^ (i+1):=by omega
  refine ⟨?_,hlt⟩;have hd:n / 2 ^ i<=n:=Nat.div_le_self _ _;have w1:AV ((i:Int)+1)=((i+1:Nat):Int):=wn (n:=i+1) (by omega);have e1:AV (((n / 2 ^ i:Nat):Int).tdiv 2)=((n / 2 ^ (i+1):Nat):Int):=by rw [show ((n / 2 ^ i:Nat):Int).tdiv 2=((n / 2 ^ i / 2:Nat):Int) from rfl,Nat.div_div_eq_div_mul,<-Nat.pow_succ];exact wn (Nat.lt_of_le_of_lt (Nat.div_le_self _ _) (by omega))
  have e2:((n / 2 ^ i:Nat):Int).tmod 2=((n / 2 ^ i % 2:Nat):Int):=rfl;have GM:(2:Nat) ^ 7=128:=rfl;have e3:AV (2*(o:Int))=((2*o:Nat):Int):=wn (n:=2*o) (by omega);have e4:AV (((2*o:Nat):Int)+((n / 2 ^ i % 2:Nat):Int))=((2*o+n / 2 ^ i % 2:Nat):Int):=wn (n:=2*o+n / 2 ^ i % 2) (by omega);grind [y9,MA1])
 obtain ⟨m,hm⟩:∃ m,AY=m+1+7*1:=⟨AY - 8,rfl⟩
 have e0:(n:Int).tmod 128=((n / 2 ^ 0:Nat):Int):=by grind
 rw [eF,LA1,mk,e0,TT (by rfl),hm];refine (s 7 0 (m+1) 0 (by omega) (by decide)).1.trans ?_;rfl
theorem XBT {e:Nat} (he:e<1024):eG 17 (e:Int)=some ((Yk e:Nat):Int):=by
 have key:∀ (k b e o m:Nat),e<2 ^ k->b<3329->o<3329->e<1024->zA (m+k+1) (.c0 (b:Int) (e:Int) (o:Int))=some ((Yl k b e o:Nat):Int):=by
  intro k;induction k with
  | zero=>
   intro b e o m h _ _ _;obtain rfl:e=0:=by omega
   rfl
  | succ k ih=>
   intro b e o m h hb ho he;rw [AwB m k,zA,Yl];simp only [OA1,mk];by_cases h0:e=0;·simp_all
   ·have e1:AV ((e:Int).tdiv 2)=((e / 2:Nat):Int):=wn (n:=e / 2) (by omega);have e2:(e:Int).tmod 2=((e % 2:Nat):Int):=rfl;rw [IK (by grind),e1,e2,dA hb hb,dA ho hb,if_neg h0];have hk:e / 2<2 ^ k:=by omega
    by_cases h1:e % 2=1;·rw [if_pos h1,h1,IK (by rfl)];exact ih _ _ _ _ hk (Nat.mod_lt _ (by decide)) (Nat.mod_lt _ (by decide)) (by omega)
    ·rw [if_neg h1,TT (by simp_all)];exact ih _ _ _ _ hk (Nat.mod_lt _ (by decide)) ho (by omega)
 obtain ⟨m,hm⟩:∃ m,AY=m+10+1:=⟨AY - 11,rfl⟩
 rw [eG,NA1,mk,Ih,AP,Na.2 (by omega),DN,Aq,TT (by decide),hm];exact key 10 17 e 1 m he (by decide) (by decide) he
theorem CBw {p:List Nat} (h:Vb p):Y2 (up p)=some (up (kQ p)):=by
 have inner:∀ (k size start z:Nat) (m:Nat) (o:List Nat),0<size->start+2*size<=256->z<3329->Vb o->Ax1 (m+size*1) (.c2 (k:Int) (size:Int) (start:Int) (z:Int) (start:Int) (up o))=Ax1 m (.c2 (k:Int) (size:Int) (start:Int) (z:Int) ((start+size:Nat):Int) (up (Ob (fun j o=>kR z size (start+j) o) size 0 o))):=fun k size start z m o hs hst hz ho=>(AwS (Lp:=Ax1) (st:=fun j o=>.c2 (k:Int) (size:Int) (start:Int) (z:Int) ((start+j:Nat):Int) (up o)) (f:=fun j o=>kR z size (start+j) o) (P:=fun _ o=>Vb o) (n:=size) 1 (fun m j o hj ho=>by
  refine ⟨?_,NBE ho _ _ _⟩;have hl:=ho.1;have h1:=ho.get (start+j);have h2:=ho.get (start+j+size);have e1:AV (((start+j:Nat):Int)+1)=((start+(j+1):Nat):Int):=wn (n:=start+(j+1)) (by omega);have e2:AV (((start+j:Nat):Int)+(size:Int))=((start+j+size:Nat):Int):=wn (n:=start+j+size) (by omega);have e3:AV ((start:Int)+(size:Int))=((start+size:Nat):Int):=wn (n:=start+size) (by omega);rw [Ax1];simp only [eH,mk,e1,e2,e3,BR,Jg];rw [dA hz h2];have ht:z*o.getD (start+j+size) 0 % 3329<3329:=Nat.mod_lt _ (by decide);have e4:(AV (AV (((o.getD (start+j) 0:Nat):Int) - ((z*o.getD (start+j+size) 0 % 3329:Nat):Int))+3329)).tmod 3329=(((o.getD (start+j) 0+3329 - z*o.getD (start+j+size) 0 % 3329) % 3329:Nat):Int):=by grind [A8]
  rw [e4,Jc,Jg,getD_set_ne (show start+j≠start+j+size by omega)];have e5:(AV (((o.getD (start+j) 0:Nat):Int)+((z*o.getD (start+j+size) 0 % 3329:Nat):Int))).tmod 3329=(((o.getD (start+j) 0+z*o.getD (start+j+size) 0 % 3329) % 3329:Nat):Int):=by grind [A8]
  rw [e5,Jc,IK (by simp_all),IK (AzJ (by omega)),IK (AzJ (by omega)),IK (AzJ (by omega)),IK (AzJ (by grind)),IK (AzJ (by grind))];rfl) size 0 m o (by omega) ho).1
 have level:∀ (k0 size c:Nat) (m:Nat) (o:List Nat),1<size->size*c=128->k0=c->Vb o->Ax1 (m+1+c*(size+2)+1) (.c0 (k0:Int) (size:Int) (up o))=Ax1 m (.c0 ((k0+c:Nat):Int) ((size / 2:Nat):Int) (up (VF k0 size c o))):=by
  intro k0 size c m o hs hc hk ho;have hsc:size<=128/\c<=64:=by refine ⟨Nat.le_of_dvd (by decide) ⟨c,hc.symm⟩,?_⟩;have h2:2*c<=size*c:=Nat.mul_le_mul_right c hs;omega
  have s:=AwS (Lp:=Ax1) (st:=fun i o=>.c1 ((k0+i:Nat):Int) (size:Int) ((2*size*i:Nat):Int) (up o)) (f:=YAt k0 size) (P:=fun _ o=>Vb o) (n:=c) (size+2) (fun m i o hi ho=>by
   refine ⟨?_,OBE ho _ _ _⟩;have hb:size*(i+1)<=size*c:=Nat.mul_le_mul_left size hi;have hb2:2*size*i=2*(size*i):=Nat.mul_assoc 2 size i;have hb3:2*size*(i+1)=2*size*i+2*size:=Nat.mul_succ _ _;rw [Nat.mul_succ] at hb;have e1:AV (((k0+i:Nat):Int)+1)=((k0+(i+1):Nat):Int):=wn (n:=k0+(i+1)) (by omega);have e2:AV (2*(size:Int))=((2*size:Nat):Int):=wn (n:=2*size) (by omega);have e3:AV (((2*size*i:Nat):Int)+((2*size:Nat):Int))=((2*size*(i+1):Nat):Int):=by grind [wn]
   have e4:AV (((2*size*i:Nat):Int)+(size:Int))=((2*size*i+size:Nat):Int):=wn (n:=2*size*i+size) (by omega);have h7:=XAt (k0+i);rw [show m+(size+2)=m+1+size*1+1 by omega,Ax1];simp only [eH,mk,e1];rw [IK (by grind),WBT (n:=k0+i) (by omega),AP,XBT (e:=t7 (k0+i)) (by omega),AP];refine (inner (k0+(i+1)) size (2*size*i) _ (m+1) o (by omega) (by omega) (WAt _) ho).trans ?_;rw [Ax1];simp only [eH,mk,e2,e3,e4];rw [TT (by simp)];rfl)
  rw [Ax1];simp only [eH,mk];rw [IK (by grind)];refine (s c 0 (m+1) o (by omega) ho).1.trans ?_;have hb2:2*size*c=256:=by grind
  have e5:AV ((size:Int).tdiv 2)=((size / 2:Nat):Int):=wn (n:=size / 2) (by omega);rw [Ax1];simp only [eH,mk,e5];rw [TT (by simp_all)];rfl
 have hl:=h.1;obtain ⟨m,hm⟩:∃ m,AY=m+1+1+64*(2+2)+1+1+32*(4+2)+1+1+16*(8+2)+1+1+8*(16+2)+1+1+4*(32+2)+1+1+2*(64+2)+1+1+1*(128+2)+1:=⟨AY - 1165,by rfl⟩
 rw [Y2,PA1,mk,nC h,AP,DN,Aq,IK (by simp_all [D7]),hm];try rw [List.nil_append]
 have o1:=AzQ h 1 128 1;have o2:=AzQ o1 2 64 2;have o3:=AzQ o2 4 32 4;have o4:=AzQ o3 8 16 8;have o5:=AzQ o4 16 8 16;have o6:=AzQ o5 32 4 32;refine (level 1 128 1 _ p (by omega) rfl rfl h).trans ?_;refine (level 2 64 2 _ _ (by omega) rfl rfl o1).trans ?_;refine (level 4 32 4 _ _ (by omega) rfl rfl o2).trans ?_;refine (level 8 16 8 _ _ (by omega) rfl rfl o3).trans ?_;refine (level 16 8 16 _ _ (by omega) rfl rfl o4).trans ?_;refine (level 32 4 32 _ _ (by omega) rfl rfl o5).trans ?_;refine (level 64 2 64 (m+1) _ (by omega) rfl rfl o6).trans ?_;rfl
theorem FBF {n:Nat} (h:n<=12):Y3 (n:Int)=some ((2 ^ n:Nat):Int):=by
 have s:=AwS (Lp:=nG) (st:=fun i (o:Nat)=>.c0 (n:Int) (o:Int) (i:Int)) (f:=fun _ o=>2*o) (P:=fun i o=>o=2 ^ i) (n:=n) 1 (fun m i o hi ho=>by
  have hp:2 ^ (i+1)<=2 ^ 12:=Nat.pow_le_pow_right (by decide) (by omega);grind [wn,nG,RAm])
 obtain ⟨m,hm⟩:∃ m,AY=m+1+n*1:=⟨AY - (1+n),by have:=FM (n:=1+n) (by omega);omega⟩
 rw [Y3,QA1,hm];obtain ⟨a1,a2⟩:=s n 0 (m+1) 1 (by omega) rfl
 simp_all [nG,RAm,mk]
theorem DBw {l:List Nat} (h:Vb l):SAm (up l) 12=some (NI l,true):=by
 have hl:=h.1;have t12:Y3 12=some 4096:=FBF (n:=12) (by omega);have t0:Y3 0=some 1:=FBF (n:=0) (by omega);have t4:Y3 4=some 16:=FBF (n:=4) (by omega)
 have s0:=AwS (Lp:=Awe) (st:=fun i (_:Unit)=>.c0 (up l) 12 (i:Int)) (f:=fun _ a=>a) (P:=fun _ _=>True) (n:=256) 1 (fun m i _ hi _=>by
  refine ⟨?_,trivial⟩;have w1:AV ((i:Int)+1)=((i+1:Nat):Int):=wn (n:=i+1) (by omega);have hq:=h.get i;rw [Awe];simp only [Avc,mk,w1,BR,Jg];rw [IK (by grind [D7]),IK (AzJ (by omega)),t12,AP,Ih,AP,show AV (4096 - 1)=4095 by decide,Na.2 (by omega),DN,Aq])
 have s1:=AwS (Lp:=Awe) (st:=fun q o=>.c1 (up l) 12 0 0 ((2*q:Nat):Int) (up o)) (f:=fun q o=>o++[Qj l (3*q)]++[Qj l (3*q+1)]++[Qj l (3*q+2)]) (P:=fun q o=>o.length=3*q) (n:=128) 7 (fun m q o hq ho=>by
  refine ⟨?_,by grind⟩;have hx:=h.get (2*q);have hy:=h.get (2*q+1);have w1:AV (((2*q:Nat):Int)+1)=((2*q+1:Nat):Int):=wn (n:=2*q+1) (by omega);have w2:AV (((2*q+1:Nat):Int)+1)=((2*(q+1):Nat):Int):=wn (n:=2*(q+1)) (by omega);have p0:=XBQ l q;have p1:=YBQ l q;have p2:=ZBQ l q;rw [show m+7=m+1+1+1+1+1+1+1 from rfl,Awe];simp only [Avc,mk,BR,Jg];rw [IK (by grind [D7]),IK (AzJ (by omega)),t0,AP];generalize l.getD (2*q) 0=x at hx p0 p1;have hl2:∀ k,(up (o++[k])).length=o.length+1:=fun k=>by simp [D7]
  rw [show AV ((x:Int)*1)=(x:Int) by grind [wn],show AV (0+(x:Int))=(x:Int) by grind [wn],show AV (0+12)=12 by decide,Awe];simp only [Avc,mk];rw [IK (by rfl),IK (by grind [D7]),show AV ((x:Int).tdiv 256)=((x / 256:Nat):Int) from wn (n:=x / 256) (by omega),show AV (12 - 8)=4 by decide,show w8 ((x:Int).tmod 256)=((Qj l (3*q):Nat):Int) by grind [Nq],AwO,Awe];simp only [Avc,mk,w1];rw [TT (by rfl),Awe];simp only [Avc,mk,BR,Jg];rw [IK (by grind [D7]),IK (AzJ (by omega)),t4,AP];generalize l.getD (2*q+1) 0=y at hy p1 p2;have e16:AV ((y:Int)*16)=((y*16:Nat):Int):=wn (n:=y*16) (by omega);have eh:AV (((x / 256:Nat):Int)+((y*16:Nat):Int))=((x / 256+y*16:Nat):Int):=wn (n:=x / 256+y*16) (by omega);have d1:(x / 256+y*16) % 256=Qj l (3*q+1):=by omega
  have d2:(x / 256+y*16) / 256=Qj l (3*q+2):=by omega
  have hp2:Qj l (3*q+2)<256:=by omega
  rw [e16,eh,show AV (4+12)=16 by decide,Awe];simp only [Avc,mk];rw [IK (by rfl),IK (by grind),show AV (((x / 256+y*16:Nat):Int).tdiv 256)=((Qj l (3*q+2):Nat):Int) by rw [show ((x / 256+y*16:Nat):Int).tdiv 256=(((x / 256+y*16) / 256:Nat):Int) from rfl,d2];exact wn (by omega),show AV (16 - 8)=8 by decide,show w8 (((x / 256+y*16:Nat):Int).tmod 256)=((Qj l (3*q+1):Nat):Int) by grind [Nq],AwO,Awe];simp only [Avc,mk];rw [IK (by rfl),IK (by grind [D7]),show AV (((Qj l (3*q+2):Nat):Int).tdiv 256)=0 by rw [show ((Qj l (3*q+2):Nat):Int).tdiv 256=((Qj l (3*q+2) / 256:Nat):Int) from rfl,Nat.div_eq_of_lt hp2];decide,show AV (8 - 8)=0 by decide,show w8 (((Qj l (3*q+2):Nat):Int).tmod 256)=((Qj l (3*q+2):Nat):Int) by grind [Nq],AwO,Awe];simp_all [Avc,mk])
 obtain ⟨m,hm⟩:∃ m,AY=(m+1+128*7)+1+256*1:=⟨AY - 1154,by rfl⟩
 rw [SAm,RA1,mk,Ih,AP,Na.2 (by omega),DN,Aq,hm];refine (s0 256 0 _ () (by omega) trivial).1.trans ?_;rw [Awe];simp only [Avc,mk];rw [TT (by simp_all [D7])];refine (s1 128 0 (m+1) [] (by omega) rfl).1.trans ?_;rw [AXK (Qj l),show 3*128=384 from rfl,Nat.mul_zero,yg,Awe];simp only [Avc,mk];rw [TT (by simp_all [D7]),TT (by rfl)];rfl
theorem YBT {l:List Nat} (h:Vb l):eP (up l)=some (NI l):=by simp_all [eP,SA1,mk,nC,DBw]
theorem ZBT {a b:List Nat} (ha:Vb a) (hb:Vb b):zB (up a) (up b)=some (up (mulL a b)):=by
 have hal:=ha.1;have hbl:=hb.1
 have s:=AwS (Lp:=nH) (st:=fun i o=>.c0 (up a) (up b) (i:Int) (up o)) (f:=fun i o=>o++[Aw6 a b (2*i),Aw6 a b (2*i+1)]) (P:=fun i o=>o.length=2*i) (n:=128) 1 (fun m i o hi ho=>by
  refine ⟨?_,by grind⟩;have h7:=XAt i;have w1:AV ((i:Int)+1)=((i+1:Nat):Int):=wn (n:=i+1) (by omega);have e1:AV (2*(i:Int))=((2*i:Nat):Int):=wn (n:=2*i) (by omega);have e2:AV (((2*i:Nat):Int)+1)=((2*i+1:Nat):Int):=wn (n:=2*i+1) (by omega);have e3:AV (2*((t7 i:Nat):Int))=((2*t7 i:Nat):Int):=wn (n:=2*t7 i) (by omega);have e4:AV (((2*t7 i:Nat):Int)+1)=((2*t7 i+1:Nat):Int):=wn (n:=2*t7 i+1) (by omega);have g:=WAt (2*t7 i+1);have a0:=ha.get (2*i);have a1:=ha.get (2*i+1);have b0:=hb.get (2*i);have b1:=hb.get (2*i+1);have p00:=mul_lt a0 b0;have p11:=mul_lt a1 b1;have p01:=mul_lt a0 b1;have p10:=mul_lt a1 b0;have hm:a.getD (2*i+1) 0*b.getD (2*i+1) 0 % 3329<3329:=Nat.mod_lt _ (by decide);have pg:=mul_lt hm g;rw [nH];simp only [UA1,mk,w1,e1,e2,BR,Jg];rw [IK (by grind),WBT (by omega),AP,e3,e4,XBT (by omega),AP,dA a1 b1,Yn hm g,Yn a0 b0,Yn a0 b1,Yn a1 b0];have v1:(AV (((a.getD (2*i) 0*b.getD (2*i) 0:Nat):Int)+((a.getD (2*i+1) 0*b.getD (2*i+1) 0 % 3329*Yk (2*t7 i+1):Nat):Int))).tmod 3329=((Aw6 a b (2*i):Nat):Int):=by grind [PBQ,wn]
  have v2:(AV (((a.getD (2*i) 0*b.getD (2*i+1) 0:Nat):Int)+((a.getD (2*i+1) 0*b.getD (2*i) 0:Nat):Int))).tmod 3329=((Aw6 a b (2*i+1):Nat):Int):=by grind [QBQ,wn]
  grind [up])
 obtain ⟨m,hm⟩:∃ m,AY=m+1+128*1:=⟨AY - 129,by rfl⟩
 rw [zB,TA1,mk,nC ha,AP,DN,Aq,nC hb,AP,DN,Aq,hm];refine (s 128 0 (m+1) [] (by omega) rfl).1.trans ?_;rw [SBQ,show 2*128=256 from rfl,Nat.mul_zero,yg,nH];rfl
theorem GBF {a b:List Nat} (ha:Vb a) (hb:Vb b):Y4 (up a) (up b)=some (up (dJ a b)):=by
 have hal:=ha.1;have hbl:=hb.1
 have s:=AwS (Lp:=nI) (st:=fun i o=>.c0 (up a) (up b) (i:Int) (up o)) (f:=fun i o=>o++[(a.getD i 0+b.getD i 0) % 3329]) (P:=fun i o=>o.length=i) (n:=256) 1 (fun m i o hi ho=>by
  refine ⟨?_,by simp_all⟩;have w1:AV ((i:Int)+1)=((i+1:Nat):Int):=wn (n:=i+1) (by omega);have a0:=ha.get i;have b0:=hb.get i;have v:(AV (((a.getD i 0:Nat):Int)+((b.getD i 0:Nat):Int))).tmod 3329=(((a.getD i 0+b.getD i 0) % 3329:Nat):Int):=by rw [<-Int.natCast_add,wn (by omega)];rfl
  rw [nI];simp only [WA1,mk,w1,BR,Jg];rw [IK (by grind),nC ha,AP,Ar,nC hb,AP,Ar,v,IK (AzJ (by omega)),IK (AzJ (by omega)),IK (by grind [D7]),AwO])
 obtain ⟨m,hm⟩:∃ m,AY=m+1+256*1:=⟨AY - 257,by rfl⟩
 rw [Y4,VA1,hm];refine (s 256 0 (m+1) [] (by omega) rfl).1.trans ?_;rw [yg (fun i=>(a.getD i 0+b.getD i 0) % 3329),nI];rfl
theorem EBw {a0 a1 b0 b1:List Nat} (ha0:Vb a0) (ha1:Vb a1) (hb0:Vb b0) (hb1:Vb b1):Vo [up a0,up a1] [up b0,up b1]=some (up (BAu a0 a1 b0 b1)):=by
 obtain ⟨m,hm⟩:∃ m,AY=m+1+1+1:=⟨AY - 3,rfl⟩
 rw [Vo,XA1,mk,hm,show (256:Int).toNat=256 from rfl,<-Avq,nJ];simp only [TAm,mk];rw [IK (by rfl),IK (by rfl),IK (by rfl),show ([up a0,up a1]:List (List Int)).getD (0:Int).toNat []=up a0 from rfl,show ([up b0,up b1]:List (List Int)).getD (0:Int).toNat []=up b0 from rfl,ZBT ha0 hb0,AP,GBF UBQ (ZAt _ _),AP,show AV (0+1)=1 by decide,nJ];simp only [TAm,mk];rw [IK (by rfl),IK (by rfl),IK (by rfl),show ([up a0,up a1]:List (List Int)).getD (1:Int).toNat []=up a1 from rfl,show ([up b0,up b1]:List (List Int)).getD (1:Int).toNat []=up b1 from rfl,ZBT ha1 hb1,AP,GBF (AFL _ _) (ZAt _ _),AP,show AV (1+1)=2 by decide,nJ];rfl
theorem AXO {seed:AA} (h:seed.size=32):zC seed=some (⟨RX seed,AwC seed⟩,true):=by
 have z0:(⟨#[]⟩:AA).size=0:=rfl;have z1:(⟨#[114]⟩:AA).size=1:=rfl;have z2:(⟨#[115]⟩:AA).size=1:=rfl;have z3:(⟨#[122]⟩:AA).size=1:=rfl;have hd:=AxT seed;have hrs:(Axm seed).size=32:=AxT _;have hss:(Sj seed).size=32:=AxT _;have hps:=CBR seed;have hr:Jt (Ed seed++⟨#[114]⟩)=some (Axm seed):=ML (by simp_all);have hs:Jt (Ed seed++⟨#[115]⟩)=some (Sj seed):=ML (by simp_all);have hzz:Jt (Ed seed++⟨#[122]⟩)=some (Ed (Ed seed++⟨#[122]⟩)):=ML (by simp_all);have hpp:Jt (RX seed)=some (Ed (RX seed)):=ML (by omega);have m0:XP (Sj seed) 0=some (up (LG (Sj seed) 0)):=QAu (n:=0) (by omega) (by decide);have m1:XP (Sj seed) 1=some (up (LG (Sj seed) 1)):=QAu (n:=1) (by omega) (by decide);have m2:XP (Sj seed) 2=some (up (LG (Sj seed) 2)):=QAu (n:=2) (by omega) (by decide);have m3:XP (Sj seed) 3=some (up (LG (Sj seed) 3)):=QAu (n:=3) (by omega) (by decide);have n0:∀ i,Y2 (up (LG (Sj seed) i))=some (up (pS seed i)):=fun i=>CBw (kW _ _)
 have b0:∀ i,eP (up (pS seed i))=some (NI (pS seed i)):=fun i=>YBT (Yq _ _)
 have d0:∀ i,Vo [up (IE (Axm seed) 0 i),up (IE (Axm seed) 1 i)] [up (pS seed 0),up (pS seed 1)]=some (up (dL seed i)):=fun i=>EBw (CAu _ _ _) (CAu _ _ _) (Yq _ _) (Yq _ _)
 have a0:∀ i,Y4 (up (dL seed i)) (up (pS seed (2+i)))=some (up (pT seed i)):=fun i=>GBF (TBQ _ _ _ _) (Yq _ _)
 have t0:∀ i,eP (up (pT seed i))=some (NI (pT seed i)):=fun i=>YBT (BBR _ _)
 have w0:AV (0+1)=1:=by decide
 have w1:AV (1+1)=2:=by decide
 have w2:AV (2+0)=2:=by decide
 have w3:AV (2+1)=3:=by decide
 obtain ⟨m,hm⟩:∃ m,AY=m+6:=⟨AY - 6,rfl⟩
 rw [zC,YA1,mk,TT (by simp_all),ML (by omega),AP,IK (by rfl),hr,AP,IK (by rfl),hs,AP,AhX (by omega),AP,hm];rw [XQ];simp only [Y5,mk];rw [IK (by rfl),m0,AP,n0,AP,IK (by rfl),b0,AP,IK (by rfl),w0];rw [XQ];simp only [Y5,mk];rw [IK (by rfl),m1,AP,n0,AP,IK (by rfl),b0,AP,IK (by simp_all [RY]),w1];rw [XQ];simp only [Y5,mk];rw [TT (by rfl)];rw [XQ];simp only [Y5,mk];rw [IK (by rfl),IK (by rfl)];show (Vo [up (IE (Axm seed) 0 0),up (IE (Axm seed) 1 0)] [up (pS seed 0),up (pS seed 1)]).bind _=_;rw [d0,AP,w2,m2,AP,n0,AP,a0 0,AP,t0,AP,IK (by rfl),w0];rw [XQ];simp only [Y5,mk];rw [IK (by rfl),IK (by rfl)];show (Vo [up (IE (Axm seed) 0 1),up (IE (Axm seed) 1 1)] [up (pS seed 0),up (pS seed 1)]).bind _=_;rw [d0,AP,w3,m3,AP,n0,AP,a0 1,AP,t0,AP,IK (by simp_all [RY]),w1];rw [XQ];simp only [Y5,mk];rw [TT (by rfl),IK (by simp_all [RY])];rw [show ((⟨#[]⟩:AA)++NI (pT seed 0)++NI (pT seed 1))++Axm seed=RX seed from rfl,IK (by simp_all [RY]),hpp,AP,IK (by simp_all [AxT,RY]),IK (by rfl),hzz,AP,IK (by simp_all [AxT,RY])];rfl
theorem BBU {s t:AA} (h:t.size≠768):nK s t=some (⟨#[]⟩,false):=by rw [nK,JA2,mk,IA2,GA2,mk,FA2,DA2,mk,show ((t.size:Int) != 768)=true from bne_iff_ne.2 (by omega)];simp
theorem FBw (x:Af) (h f:Bool):UAm x h f=some (Axs x h f):=by rw [UAm,KA2,mk,yH,AP,Axs];cases AwH x <;> cases x.CY <;> cases x.CX <;> cases h <;> cases f <;> rfl
theorem GBw {s:AA} (hs:s.size<=1000):VAm s=some (AxD (s++⟨#[116]⟩)):=by have z:(⟨#[116]⟩:AA).size=1:=rfl;rw [VAm,LA2,mk,IK (by grind),NBT (by grind)];rfl
theorem HBw (x:Af):WAm x=some (xg x):=by rw [WAm,MA2,mk,yH,AP,xg];grind [AXO,bV,GBw]
theorem IBw {tk:AA->AA×Bool} {b:Ap} {c:CV} {x:Af} (h:PB b) (hc:c.fText.size<=1000) (hx:AwV b.AU.AZ x.fId=some x) (htk:c.Au=12->∀ v:AA,v.size=32->nK (AwC v) c.fText=some (tk (AwC v))):XAm b c x=some (XA tk b c x):=by
 have hk:(Ld b).size<=900000000:=by simp [Ld,AxT]
 rw [XAm,NA2,mk,XA];simp only [KBv,x9,RBE h.key,SBE hk,FBw,HBw,AP];cases c.Au == 6
 ·cases c.Au == 5
  ·cases c.Au == 10
   ·cases h12:c.Au == 12
    ·cases c.Au == 8
     ·cases c.Au == 7;·cases c.Au == 9 <;> rfl
      ·rfl
     ·rw [Ar,Ar];cases (Axs x c.CY c.CX).2 <;> rfl
    ·rw [Ar,Ar];cases hm:AwF x 4;·rfl
     ·obtain ⟨h1,h2⟩:=HBR hm
      have hv:=bV h1 (.inl h2);rw [AXO hv,AP];dsimp only;rw [htk (beq_iff_eq.1 h12) _ hv,AP];simp only [Ar,Aq];cases (tk (AwC x.fValue)).2 <;> rfl
   ·rw [Ar,Ar];cases AwF x 2 <;> rfl
  ·rw [Ar,Ar];cases hm:AwF x 3;·rfl
   simp_all [TBv]
 ·rw [Ar,Ar];cases AwF x 1 <;> rfl
theorem CBU {tk:AA->AA×Bool} {b:Ap} {c:CV} (h:PB b) (hc:AyI c=true) (htk:c.Au=12->∀ v:AA,v.size=32->nK (AwC v) c.fText=some (tk (AwC v))):Qo b c=some (Ib tk b c):=by
 have hs:=h.Nu;have ht:=h.things;have ho:=h.opn;have hl:=h.last;have hz:=GBP hc;have h5:=(Ax0.1 h.J7).2.2.1;have hd:=EBR (b.AU.BM+1);have h32:(⟨#[32]⟩:AA).size=1:=rfl;rw [Qo,OA2,mk,Ib,FBv (by omega),A8 (n:=b.CW+1) (by omega) (by omega),DBF (n:=b.CW+1) (by omega),show decide ((b.BP.length:Int)>=3)=((b.BP.length:Int) == 3) by grind,show decide (b.CW>=1000)=(b.CW == 1000) by grind];cases c.Au == 1
 ·rw [Aq,Aq,AP];by_cases ha:Av3 b c.EJ<0;·rw [Ba ha];rfl
  ·rw [D6 ha,Aq,Aq];have hlt:Av3 b c.EJ<(b.BP.length:Int):=by
    rw [Av3] at ha ⊢;cases hp:KQ b.BP c.EJ 0 with
    | none=>simp_all
    | some j=>have:=(AFV hp).2;simp_all
   cases c.Au == 13
   ·rw [Aq,Aq];cases c.Au == 2
    ·rw [Aq,Aq,GX (by omega)];cases (b.BP.getD (Av3 b c.EJ).toNat ⟨0,false⟩).QW;·rfl
     ·rw [DN,Aq,Aq];cases c.Au == 3
      ·rw [Aq,Aq];cases c.Au == 4
       ·rw [Aq,Aq];cases c.Au == 11
        ·rw [Aq,Aq,bT (by omega),AP];cases hx:AwV b.AU.AZ c.Ag with
         | none=>rfl
         | some x=>
          dsimp only;rw [DN,Aq,IBw h hz (by rw [(AxY hx).1];exact hx) htk];rfl
        simp_all [JBv]
       grind [FAu,DAu,A8,DBF,SBq,FBT]
      ·rw [Ar,Ar,ML (by omega)];cases decide ((c.fText.size:Int) > 20) <;> rfl
    grind [GBv]
   ·rfl
 ·rw [Ar,Ar];cases (b.BP.length:Int) == 3 <;> cases b.CW == 1000 <;> rfl
theorem JBw {F:AA} {n:Int} {z:List Int} {v out:List BQ} {m:Nat}:zD (m+1) (.c0 z 1 (dk F n) v out)=some (⟨out⟩,true):=rfl
theorem DBU {d e c:BU} {T:AA} {z:List Int} (hT:T.size<=20000) (hd:d.Ak.length*40<=140737488351232) (ha:Ave d ⟨1,AzD,T,⟨#[]⟩⟩=(e,true)) (h:zF e z=some (c,true)):zG d (Avj T) 1 z=some (c,true):=by
 have e1:AzA d [⟨1,AzD,T,⟨#[]⟩⟩] 0=(e,1):=by simp_all [AzA]
 rw [zG,RA2,mk,Ih,AP,show AyM 1 0 ((Avj T).length:Int)=true from rfl,DN,Aq,IK (by rfl),show ((Avj T).take (1:Int).toNat).drop 0=[⟨1,AzD,T,⟨#[]⟩⟩] from rfl,DBC (l:=[⟨1,AzD,T,⟨#[]⟩⟩]) hd (show (1:Nat)<=140737488351232 by omega) (fun a ha=>by grind),AP,e1];simp_all
theorem HBF {d:BU} {n:AA} (h0:d.Ak.length<=140737488351232):nM d n=some (Awy d n):=by
 rw [nM,SA2,mk,WBB h0,AP,Aya,Awy];cases h:Gp d.Ak n 0 with
 | none=>rfl
 | some j=>
  have:=eU h;simp_all [TT]
theorem RAu (f:AA) {a b c:Nat} (h:a<=b) (h2:b<=c) (h3:c<=f.size):bs (f.extract a c)=bs (f.extract a b)++bs (f.extract b c):=by rw [Awj,Awj,Awj,List.drop_take,List.drop_take,List.drop_take];rw [show (bs f).drop b=((bs f).drop a).drop (b - a) by simp_all];rw [show c - a=(b - a)+(c - b) by omega,List.take_add]
theorem KBw {f:AA} (hf:f.size<=140737488351232):zH f=some (Qw f):=by
 rw [zH,TA2,mk,Qw];by_cases h0:20000<f.size;·grind
 ·rw [TT (by grind),TT (by grind)];have key:∀ (j a m:Nat) (out:List AA),a<=f.size->f.size<a+j->out.length<=a->zI (m+j+1) (.c0 f (a:Int) out)=some (out++(KT j f a).1,((KT j f a).2:Int)):=by
   intro j;induction j with
   | zero=>omega
   | succ j ih=>
    intro a m out ha hj ho;rw [show m+(j+1)+1=(m+j+1)+1 by omega,zI];simp only [UA2,mk,KT];by_cases he:a=f.size;·grind [nN]
    ·rw [IK (by grind),LBN hf ha,AP];rcases yF hf ha with h | ⟨v,h,hv0,hv1,hA⟩
     ·rw [show Oz f a=none by rw [Oz,h];rfl,h];rw [List.append_nil];rfl
     ·have hp:=Avw v;have hsz:=hA.size.resolve_left (by grind);have hn:=nN hf ha;have hex:bs (f.extract a (a+(SN v).length))=SN v:=by rw [hA.extract (Uf v hv0),Oa (Uf v hv0)]
      rw [h] at hn ⊢;generalize hq:a+(SN v).length=q at hsz hn hex;simp only [DN,Aq];rw [A8 (n:=(f.size:Int) - (q:Int)) (by omega) (by omega),A8 (n:=(f.size:Int) - (q:Int) - 4) (by omega) (by omega),A8 (n:=(q:Int)+4) (by omega) (by omega),A8 (n:=(q:Int)+4+v) (by omega) (by omega)];by_cases h3:v > (f.size:Int) - (q:Int) - 4;·grind
      ·have e2:((q:Int)+4).toNat=q+4:=by omega
       have e3:((q:Int)+4+v).toNat=q+4+v.toNat:=by omega
       have hxs:(f.extract (q+4) (q+4+v.toNat)).size=v.toNat:=by grind [ByteArray.size_extract]
       rw [TT (by simp_all),IK (by grind),e2,e3,BR,SBB (by omega),AP,frameT,hxs];rcases hn with hn | ⟨v',q',he',_,_,h5,h6,h4,hA',hb,hn⟩
       ·rw [hn,List.append_nil];cases hr:AyM ((v.toNat:Nat):Int) 1 9000;·rfl
        ·rw [Ar,TT (by rfl),IK (by simp;omega)];rw [IK];rw [Bool.not_eq_true',AzS,Oa (zJ (AxC _)),beq_eq_false_iff_ne];intro hc;rw [Hq,bs_len,hxs,show ((v.toNat:Nat):Int)=v by omega,RAu f (a:=a) (b:=q) (by omega) (by omega) (by omega),hex,RAu f (a:=q) (b:=q+4) (by omega) (by omega) (by omega)] at hc;have hc2:=(List.append_inj (List.append_cancel_left hc) (by simp_all)).1;grind [Oz]
       ·simp only [Prod.mk.injEq,and_true] at he';obtain ⟨rfl,he'⟩:=he'
        have:q=q':=by omega
        subst this;have hr:AyM ((v.toNat:Nat):Int) 1 9000=true:=by grind [Na]
        rw [hn,hr,Ar,TT (by rfl),IK (by simp;omega)]
        rw [TT (by
         rw [Bool.not_eq_false',AzS,Oa (zJ (AxC _)),beq_iff_eq];rw [Hq,bs_len,hxs,show ((v.toNat:Nat):Int)=v by omega,RAu f (a:=a) (b:=q) (by omega) (by omega) (by omega),hex,RAu f (a:=q) (b:=q+4) (by omega) (by omega) (by omega),hb])]
        grind
  obtain ⟨m,hm⟩:∃ m,AY=m+(f.size+1)+1:=⟨AY - (f.size+2),by have:=FM (n:=f.size+2) (by omega);omega⟩
  rw [hm,show (0:Int)=((0:Nat):Int) from rfl,key (f.size+1) 0 m [] (by omega) (by omega) (Nat.le_refl _)];rfl
theorem IBF {k file:AA} (hk:k.size<=900000000) (hf:file.size<=140737488351232):nP k file=some (LM k file):=by
 obtain ⟨u1,u2,_,_⟩:=LAs (file:=file)
 rw [nP,VA2,KBw hf,AP,LM];generalize (Qw file).1=l at u1 u2;have key:∀ (j i m:Nat) (e:Int) (out:List Ah),i+j=l.length->0<=e->e<=30000*i->out.length<=i->nR (m+j+1) (.c0 k e (i:Int) out l)=some (out++(AxJ k ((i:Int)+1) (l.drop i)).1,e+(AxJ k ((i:Int)+1) (l.drop i)).2):=by
  intro j;induction j with
  | zero=>
   grind [nR,YAm,AxJ]
  | succ j ih=>
   intro i m e out h he he2 ho;have hi:i<l.length:=by omega
   have hz:=u1 _ (List.getElem_mem hi);have ew:AV ((i:Int)+1)=((i+1:Nat):Int):=by grind [A8]
   have Gc:=yE k l[i] ((i+1:Nat):Int);have hfz:=RBM (t:=l[i]) (by omega);rw [show m+(j+1)+1=(m+j+1)+1 by omega,nR];simp only [YAm,mk,ew,BR,getD_at hi];rw [IK (by simp_all),IK (by simp_all),GBT hk (by omega),AP,ZBo (by omega),AP,drop_at hi,AxJ,show ((i:Int)+1)=((i+1:Nat):Int) from rfl];cases (Ee k ((i+1:Nat):Int) l[i]).2;·simp
   ·rw [TT (by rfl),Bool.true_and];cases (Am (Ee k ((i+1:Nat):Int) l[i]).1).2;·simp
    ·have h2:=ih (i+1) m (e+((frameT l[i]).1.size:Int)) (out++[(Am (Ee k ((i+1:Nat):Int) l[i]).1).1]) (by omega) (by omega) (by omega) (by simp_all);grind [SBB,A8]
 obtain ⟨m,hm⟩:=gm (n:=l.length) (by omega)
 have h0:=key l.length 0 m 0 [] (by omega) (by omega) (by omega) (Nat.le_refl _);simp_all
theorem JBF {l:Bg} {r:Ah} (h:l.CO.length<=1000000):Y6 l r=some ⟨l.AX,l.Bq,l.EN,l.Cm,l.CO++[r]⟩:=by rw [Y6,WA2,mk];grind
theorem EBU {b:Ap} (h:b.Bc.Ak.length*40<=140737488355328):nS b=some (nT b):=by rw [nS,XA2,mk,IK (by simp_all),bU];rfl
theorem FBU {x:AA×Bool×(List BQ)×AA×Int×Unit×Int×AA×Int×Unit×Unit×Int} (h:x.2.2.1.length*40<=140737488355328):nU x=some ⟨x.1,false,⟨x.2.2.1⟩,DX,[],[],0⟩:=by simp_all [nU,YA2,mk,bU]
theorem GBU {F:AA} {n:Int} (zs:List Int) (h:0<=n/\n<=(F.size:Int)) (hF:F.size<=20000):zF (dk F n) zs=some (Ug F n zs,true):=by
 obtain ⟨m,hm⟩:∃ m,AY=m+1+1:=⟨AY - 2,rfl⟩
 have h1:((dk F n).Ak.length:Int)=1:=rfl;have h3:(([]:List BQ).length+1)*40=40:=rfl;have e:AV (0+1)=1:=by rfl
 have hg:(dk F n).Ak.getD (0:Int).toNat (⟨⟨#[]⟩,⟨#[]⟩,0⟩:BQ)=⟨AzD,F,n⟩:=rfl;rw [zF,PA2,mk,UAr,AP,Uy h hF,hm,zD];simp only [QA2,mk,h1,h3,e,hg,DN,Aq,List.nil_append];rw [IK (by rfl),IK (by rfl)];simp only [JBw];cases zs with
 | nil=>
  rw [TT (by rfl)];by_cases c:0<n;·rw [Ep c,GX (by omega),Ug,show Avf F n []=n from if_pos c];rfl
  ·rw [Jh c,Ug,show Avf F n []=0 from if_neg c];rfl
 | cons z zs=>
  have hz0:(z::zs).getD (0:Int).toNat 0=z:=rfl;have hl:(0:Int)<((z::zs).length:Int):=by simp
  rw [Ep hl,GX ⟨Int.le_refl _,hl⟩,hz0];by_cases c1:z > (F.size:Int);·rw [Ep c1,Jh (by omega),GX (by omega),Ug,show Avf F n (z::zs)=(F.size:Int) by grind [Avf]];rfl
  ·rw [Jh c1];by_cases c2:z<n;·rw [Ep c2,GX (by omega),Ug,show Avf F n (z::zs)=n by grind [Avf]];rfl
   ·rw [Jh c2,GX (by omega),Ug,show Avf F n (z::zs)=z by grind [Avf]];rfl
theorem LBw {k:AA} {l:List Ah} {L:Bg} {r:Ah} (zs:List Int) (g:Good k l L.AX) (hl:l.length<50) (hn:r.DR<=9223372036854775807) (hr:(OZ L.AX.AU r).2=true) (z1:L.Bq.length<=1000) (z2:L.EN.length<=1000) (z3:L.CO.length<=1000):Y7 L r zs=Y8 L r zs:=by
 obtain ⟨m,hm⟩:∃ m,AY=m+1:=⟨AY - 1,rfl⟩
 obtain ⟨F,h1,h2⟩:=g.disk
 have E0:=Good.zK g.len.2 h2;obtain ⟨T,t1,t2⟩:=zL (k:=k) (r:=r) (i:=l.length) (Qb hr).2.1 (by omega)
 have hT:=congrArg List.length t2;rw [bs_len] at hT;have hz:(F++T).size=F.size+T.size:=ByteArray.size_append;have hlen:(l++[r]).length=l.length+1:=by rw [List.length_append];rfl
 have hat:(l++[r])[l.length]'(by omega)=r:=by simp
 have hall:Axj (tx k 1 (l++[r]))=Axj (tx k 1 l)++bs T:=by have e:=nV (k:=k) (l:=l++[r]) (i:=l.length) (by omega);rw [List.take_of_length_le (by omega),List.take_left,hat,<-t2] at e;exact e
 have hfl:=WBE (k:=k) (l:=l++[r]) (by omega);have hl1:=congrArg List.length hall;rw [List.length_append,bs_len,<-h2,bs_len] at hl1;have hact:=PAs (F:=F) (T:=T) (n:=(F.size:Int)) (by omega) (by omega);have hcut:=RBR (d:=dk F F.size) (E:=F++T) (T:=T) (n:=F.size) zs (by omega) (Nat.le_of_ble_eq_true rfl) hact (by omega) (by omega);have CN:=DBU (d:=dk F F.size) (T:=T) (z:=zs) (by omega) (Nat.le_of_ble_eq_true rfl) hact (GBU zs (by omega) (by omega));obtain ⟨q1,q2⟩:=JAu (F:=F++T) (n:=F.size) zs (by omega)
 unfold Ug at hcut CN;generalize Avf (F++T) F.size zs=kk at hcut CN q1 q2;have Bk:((F++T).extract 0 kk.toNat).size<=20000:=by rw [ByteArray.size_extract];omega
 generalize (F++T).extract 0 kk.toNat=X at hcut CN Bk;have CT:Awy (dk X kk) ⟨#[98,111,111,107]⟩=(X,true):=QAs X _;rw [Y8,TAq,mk,g.cnt,TBE (by rw [g.key,g.Io];omega) hn,AP,g.key,t1,h1,hcut,AP,SBR (by rw [h1];exact Nat.le_of_ble_eq_true rfl),AP];dsimp only;rw [Ar,OBD (by exact Nat.le_of_ble_eq_true rfl),AP,CT];dsimp only;rw [show (nT L.AX).BO=k from g.key,PBD (by rw [g.Io];omega) (by omega),AP];rw [Y7,ZAm,mk,g.cnt,UBB (by rw [g.key,g.Io];omega),AP,g.key,t1,h1,CN,AP];dsimp only;rw [HBF (by exact Nat.le_of_ble_eq_true rfl),AP,CT];dsimp only;rw [IBF (by rw [g.Io];omega) (by omega),AP];cases decide (((LM k X).1.length:Int) > (l.length:Int));·rw [Aq,Aq,hm,eX];simp only [nX,mk];rw [EBU (by exact Nat.le_of_ble_eq_true rfl),AP,VI (by show L.Bq.length<=_;omega) (by show L.EN.length<=_;omega),AP,Yt (by show L.Bq.length<=_;omega) (by show L.EN.length<=_;omega)];rfl
 ·rw [Ar,Ar,Ep (by omega),JBF (by omega),AP,hm,eX];simp only [nX,mk];rw [FBU (by exact Nat.le_of_ble_eq_true rfl),AP,VI (by show L.Bq.length<=_;omega) (by show L.EN.length<=_;omega),AP,Yt (by show L.Bq.length<=_;omega) (by show L.EN.length<=_;omega)];rfl
theorem MBw {k:AA} {l:List Ah} {L:Bg} {r:Ah} (zs:List Int) (g:Good k l L.AX) (hl:l.length<50) (hn:r.DR<=9223372036854775807) (hr:(OZ L.AX.AU r).2=true) (z1:L.Bq.length<=1000) (z2:L.EN.length<=1000) (z3:L.CO.length<=1000) :
  ∃ l' b',Y7 L r zs=some ⟨b',L.Bq++[10],L.EN++[⟨#[]⟩],L.Cm,bif decide (l'.length > l.length) then L.CO++[r] else L.CO⟩/\Down k l' b'/\(l'=l\/l'=l++[r]):=by
 obtain ⟨F,h1,h2⟩:=g.disk
 have E0:=Good.zK g.len.2 h2;have hF2:F.size=(Axj (tx k 1 l)).length:=by grind [bs_len]
 obtain ⟨T,t1,t2⟩:=zL (k:=k) (r:=r) (i:=l.length) (Qb hr).2.1 (by omega)
 have hlen:(l++[r]).length=l.length+1:=by simp
 have hat:(l++[r])[l.length]'(by omega)=r:=by simp
 have hall:Axj (tx k 1 (l++[r]))=Axj (tx k 1 l)++bs T:=by have e:=nV (k:=k) (l:=l++[r]) (i:=l.length) (by omega);simp_all [List.take_of_length_le]
 have hfl:=WBE (k:=k) (l:=l++[r]) (by omega);have hl1:=congrArg List.length hall;rw [List.length_append,bs_len] at hl1;have hz:(F++T).size=F.size+T.size:=ByteArray.size_append;have hE:bs (F++T)=Axj (tx k 1 (l++[r])):=by simp_all [Hr]
 have hcut:=DBU (d:=dk F F.size) (T:=T) (z:=zs) (by omega) (Nat.le_of_ble_eq_true rfl) (PAs (by omega) (by omega)) (GBU zs (by omega) (by omega));obtain ⟨q1,q2⟩:=JAu (F:=F++T) (n:=F.size) zs (by omega)
 unfold Ug at hcut;generalize Avf (F++T) F.size zs=kk at hcut q1 q2;obtain ⟨K,rfl⟩:∃ K:Nat,kk=(K:Int):=⟨kk.toNat,by omega⟩
 rw [BR] at hcut;have hX:bs ((F++T).extract 0 K)=(Axj (tx k 1 (l++[r]))).take K:=by simp_all [Awj]
 have Bk:((F++T).extract 0 K).size=K:=by grind [ByteArray.size_extract]
 generalize (F++T).extract 0 K=X at hcut hX Bk;have hEl:(Axj (tx k 1 (l++[r]))).length=F.size+T.size:=by omega
 have he2:(Aye DX (l++[r])).2=true:=by rw [kJ,g.book];simp_all [Aye]
 have hrb:=VBC (k:=k) (file:=X) (l:=l++[r]) (K:=K) (by omega) (xJ he2) (by omega) hX;obtain ⟨w1,w2,w3⟩:=DAs (tx k 1 (l++[r])) K
 have w4:=DBO (tx k 1 (l++[r])) l.length K (by simp [Vp]) (by simp_all [eY]);have w5:=MBC (tx k 1 (l++[r])) K;rw [Vp] at w2 w5;rw [eY] at w3;have Cf:(l++[r]).take (whole (tx k 1 (l++[r])) K)=l\/(l++[r]).take (whole (tx k 1 (l++[r])) K)=l++[r]:=by grind [List.take_of_length_le]
 refine ⟨(l++[r]).take (whole (tx k 1 (l++[r])) K),⟨k,false,dk X X.size,DX,[],[],0⟩,?_,⟨g.Io,?_,HBC _ he2,⟨X,rfl,by omega,l++[r],K,by omega,he2,by omega,hX,rfl⟩⟩,Cf⟩
 ·obtain ⟨m,hm⟩:∃ m,AY=m+1:=⟨AY - 1,rfl⟩
  have CT:Awy (dk X (K:Int)) ⟨#[98,111,111,107]⟩=(X,true):=QAs X _;rw [Y7,ZAm,mk,g.cnt,UBB (by rw [g.key,g.Io];omega),AP,g.key,t1,h1,hcut,AP];dsimp only;rw [HBF (by exact Nat.le_of_ble_eq_true rfl),AP,CT];dsimp only;rw [IBF (by rw [g.Io];omega) (by omega),AP,hrb];dsimp only;have hd:decide ((((l++[r]).take (whole (tx k 1 (l++[r])) K)).length:Int) > (l.length:Int))=decide (((l++[r]).take (whole (tx k 1 (l++[r])) K)).length > l.length):=by simp
  rw [hd,Bk];cases decide (((l++[r]).take (whole (tx k 1 (l++[r])) K)).length > l.length);·rw [Aq,Aq,hm,eX];simp only [nX,mk];rw [EBU (by exact Nat.le_of_ble_eq_true rfl),AP,VI (by grind) (by grind)];rfl
  ·rw [Ar,Ar,JBF (by omega),AP,hm,eX];simp only [nX,mk];rw [FBU (by exact Nat.le_of_ble_eq_true rfl),AP,VI (by grind) (by grind)];rfl
 ·have h3:=g.len;grind
theorem HBU {b:Ap} {t:Int} (h:b.BD.length<=140737488351232) (ht:b.AU.AZ.length<=140737488351232):XR b t=some (Avz b t):=by rw [XR,ZA2,mk,bT ht,AP,Avz];grind [HBT]
theorem IBU {b:Ap} (h:Ro b):Y9 b=some b:=by have h1:=h.d;have h2:=h.s;have h3:=h.l;rw [Y9,AN0,mk,Ep (by omega),MBB h.t,AP,Ep (by omega),Ep (by omega)]
theorem KBF {α:Type} {p:α->Bool} {l:List α} {i:Nat} (h:i<l.length):(l.take (i+1)).filter p=(l.take i).filter p++(bif p l[i] then [l[i]] else []):=by grind [take_at]
theorem SAu {α:Type} {p:α->Bool} {l:List α} {i:Nat}:((l.take i).filter p).length<=l.length:=
 Nat.le_trans (List.length_filter_le _ _) (by grind)
theorem NBw {α:Type} {f:α->α} {l:List α} {i:Nat} {d:α} (h:i<l.length):((l.take i).map f++l.drop i).getD i d=l[i]:=by grind
theorem map_set {α:Type} {f:α->α} {l:List α} {i:Nat} (h:i<l.length):((l.take i).map f++l.drop i).set i (f l[i])=(l.take (i+1)).map f++l.drop (i+1):=by
 have hz:((l.take i).map f).length=i:=by grind
 grind [List.set_append_right,drop_at,take_at]
theorem OBw {α:Type} {f:α->α} {l:List α} {i:Nat} (h:i<=l.length):((l.take i).map f++l.drop i).length=l.length:=by simp_all
theorem JBU (id:Int):∀ {ls:List CS},J6 ls->ls.filter (fun v=>decide (v.fId<id))++ls.filter (fun v=>decide (v.fId > id))=UZ ls id
 | [],_=>rfl
 | v::vs,h=>by
  obtain ⟨hs,h2⟩:=List.pairwise_cons.1 h
  have ih:=JBU id h2;rw [UZ] at ih ⊢;rw [List.filter_cons,List.filter_cons,List.filter_cons];rcases Int.lt_trichotomy v.fId id with a | a | a
  ·rw [if_pos (Ba a),if_neg (by rw [decide_eq_true_eq];omega),if_pos (by rw [bne_iff_ne];omega),List.cons_append,ih]
  ·rw [if_neg (by rw [decide_eq_true_eq];omega),if_neg (by rw [decide_eq_true_eq];omega),if_neg (by rw [bne_iff_ne];exact fun q=>q a),ih]
  ·have e:vs.filter (fun v=>decide (v.fId<id))=[]:=List.filter_eq_nil_iff.2 fun w hw=>by have:=hs w hw;rw [decide_eq_true_eq];omega
   rw [e,List.nil_append] at ih;rw [if_neg (by rw [decide_eq_true_eq];omega),if_pos (Ba a),if_pos (by rw [bne_iff_ne];omega),e,List.nil_append,ih]
theorem KBU {ls:List CS} {id n:Int} (hl:ls.length<=8) (hV:J6 ls):zM ls id n=some (bif decide (n>=0) then LD ls id n else UZ ls id):=by
 have two:∀ (o:List CS),o.length<=9->∀ m,Vq (m+ls.length+1) (.c1 ls id 0 (o++(ls.take 0).filter (fun v=>decide (v.fId > id))))=some (o++ls.filter fun v=>decide (v.fId > id)):=fun o ho=>AKj (L:=Vq) (fun i:Nat=>eu.c1 ls id (i:Int) (o++(ls.take i).filter fun v=>decide (v.fId > id))) ls.length (fun m=>by
  simp [Vq,nY,mk]) fun i hi m=>by
  have hw:=Fq (i:=i) (by omega);have hz:=SAu (p:=fun v:CS=>decide (v.fId > id)) (l:=ls) (i:=i);rw [Vq];simp only [nY,mk,hw,BR,getD_at hi];grind [KBF]
 rw [zM,BA3];refine Wj (L:=Vq) (fun i:Nat=>eu.c0 ls id n (i:Int) ((ls.take i).filter fun v=>decide (v.fId<id))) ls.length (ls.length+1) (by omega) (fun m=>?_) fun i hi m=>?_
 ·have hz:=SAu (p:=fun v:CS=>decide (v.fId<id)) (l:=ls) (i:=ls.length);rw [List.take_length] at hz;rw [Vq];simp only [nY,mk];rw [Jh (by omega),List.take_length];cases decide (n>=0);·have h:=two (ls.filter fun v=>decide (v.fId<id)) (by omega) m;grind [JBU]
  ·have h:=two (ls.filter (fun v=>decide (v.fId<id))++[⟨id,n⟩]) (by grind) m;grind [UBO]
 ·have hw:=Fq (i:=i) (by omega);have hz:=SAu (p:=fun v:CS=>decide (v.fId<id)) (l:=ls) (i:=i);rw [Vq];simp only [nY,mk,hw,BR,getD_at hi];grind [KBF]
theorem TAu {b:Ap} {c:CV} {code leaf:Int} (h:Ro b) (hV:J6 b.BD) (hlf:leaf<=1000):Vr b c code leaf=some (Jb b c code leaf):=by
 have hs:=h.s;have ht:=h.t;have ho:=h.o;rw [Vr,CA3,mk,IBU h,AP,Jb,A8 (n:=b.CW+1) (by omega) (by omega)];cases code != 0
 ·rw [Aq,Aq];cases c.Au == 1
  ·rw [Aq,Aq];cases c.Au == 13
   ·rw [Aq,Aq];cases c.Au == 2
    ·rw [Aq,Aq];cases c.Au == 5
     ·rw [Aq,Aq];cases c.Au == 9;·rfl
      ·rw [Ar,Ar,KBU h.l hV];rfl
     ·rw [Ar,Ar,bT (by omega),AP,W9];cases AwV b.AU.AZ c.Ag with
      | none=>rfl
      | some x=>
       dsimp only;rw [Ar];by_cases g1:leaf>=0;·rw [A8 (by omega) (by omega),KBU h.l hV,Ba g1,Ba (by omega:leaf+1>=0)];cases x.Aj == 2 <;> cases decide (leaf<x.fNext) <;> rfl
       simp_all [D6]
    ·rw [Ar,Ar]
     have key:=Wj (L:=XT) (r:=some (nZ b (zN b.BP c.EJ))) (fun i:Nat=>fA.c1 (i:Int) c ⟨#[]⟩ false ⟨#[]⟩ 0 0 ⟨#[]⟩ 0 0 b.BO b.CZ b.AU.Bv b.AU.DU b.AU.BM b.AU.Dh b.AU.fCount b.CW [] [] [] [] b.Bc.Ak b.AU.AZ ((b.BP.take i).map (fun s=>⟨s.fId,s.QW || s.fId == c.EJ⟩)++b.BP.drop i) b.BD) b.BP.length 0 (by omega) (fun m=>by
      rw [XT];simp only [ng,mk];rw [Jh (by simp),List.take_length,List.drop_length,List.append_nil];rfl) fun i hi m=>by
      have hw:=Fq (i:=i) (by omega);rw [XT];simp only [ng,mk,hw,BR,NBw hi,OBw (Nat.le_of_lt hi)];grind [map_set]
     exact key
   ·rw [Ar,Ar]
    have key:=Wj (L:=XT) (r:=some (nZ b (delS b.BP c.EJ))) (fun i:Nat=>fA.c0 (i:Int) b c ⟨#[]⟩ false ⟨#[]⟩ 0 0 ⟨#[]⟩ 0 0 b.BO b.CZ b.AU.Bv b.AU.DU b.AU.BM b.AU.Dh b.AU.fCount b.CW ((b.BP.take i).filter fun s=>s.fId != c.EJ) [] [] [] [] b.Bc.Ak b.AU.AZ b.BP b.BD) b.BP.length 0 (by omega) (fun m=>by
     rw [XT];simp only [ng,mk];rw [Jh (by omega),List.take_length];rfl) fun i hi m=>by
     have hw:=Fq (i:=i) (by omega);have hz:=SAu (p:=fun s:EG=>s.fId != c.EJ) (l:=b.BP) (i:=i);rw [XT];grind [ng,BR,KBF]
    exact key
  grind
 rfl
theorem LBU {l:Bg} {e:DW} {w:Int} (hu:l.AX.CZ=false) (z1:l.Bq.length<=1000) (z2:l.EN.length<=1000):Vs l w e=some (VBE l 9 (xq 9)):=by rw [Vs,ni,mk,hu,Bool.not_false,Ar,VI (by omega) (by omega)];rfl
theorem MBU {l l':Bg} {e:DW} {w code:Int} {s:AA} {r:Ah} (hu:l.AX.CZ=true) (hn:l.AX.AU.fCount<10000) (hp:Qo l.AX e.BA=some ([r],code,s)) (hcut:e.Nr=true) (hc:Y7 l r e.Lc=some l'):Vs l w e=some l':=by rw [Vs,ni,mk,hu,DN,Aq,Jh (by omega),hp,AP,hcut,Ar,IK (by rfl),IK (by rfl),show ([r],code,s).1.getD (0:Int).toNat (⟨0,⟨#[]⟩,0,⟨0,0,false,false,false,false,⟨#[]⟩,0⟩⟩:Ah)=r from rfl,hc];rfl
theorem NBU {l:Bg} {b b2:Ap} {d:List Ah} {e:DW} {w code leaf:Int} {s:AA} {y:List Ah} {n:Int} {m:Nat} (hn:(y.length:Int)<=n) (hc:Vr b e.BA code leaf=some b2) (z1:l.Bq.length<=1000) (z2:l.EN.length<=1000) (z4:l.Cm.length<=1000) :
  ny (m+1) (.c0 w code s leaf n b.BO b.CZ b.AU.Bv b.AU.DU b.AU.BM b.AU.Dh b.AU.fCount b.CW e y b.Bc.Ak b.AU.AZ b.BP b.BD l.Bq l.EN l.Cm d)=some ⟨b2,l.Bq++[code],l.EN++[s],bif e.BA.Au == 5 && code == 0 then l.Cm++[⟨e.BA.Ag,leaf,w⟩] else l.Cm,d⟩:=by
 have ht:∀ G,XG ⟨b2,l.Bq,l.EN,G,d⟩ code s=some ⟨b2,l.Bq++[code],l.EN++[s],G,d⟩:=fun G=>VI (l:=⟨b2,l.Bq,l.EN,G,d⟩) (show l.Bq.length<=1000000 by omega) (show l.EN.length<=1000000 by omega)
 rw [ny];simp only [AGd,mk,List.nil_append];rw [Jh (by omega)];show (Vr b e.BA code leaf).bind _=_;grind
theorem OBU {l:Bg} {e:DW} {w code leaf:Int} {s:AA} {b2:Ap} (hu:l.AX.CZ=true) (hn:l.AX.AU.fCount<10000) (hp:Qo l.AX e.BA=some ([],code,s)) (hl:XR l.AX e.BA.Ag=some leaf) (hc:Vr l.AX e.BA code leaf=some b2) (z1:l.Bq.length<=1000) (z2:l.EN.length<=1000) (z4:l.Cm.length<=1000) :
  Vs l w e=some ⟨b2,l.Bq++[code],l.EN++[s],bif e.BA.Au == 5 && code == 0 then l.Cm++[⟨e.BA.Ag,leaf,w⟩] else l.Cm,l.CO⟩:=by
 obtain ⟨m,hm⟩:∃ m,AY=m+1:=⟨AY - 1,rfl⟩
 have key:=NBU (l:=l) (d:=l.CO) (w:=w) (s:=s) (y:=[]) (n:=0) (m:=m) (Int.le_refl _) hc z1 z2 z4;simp_all [Vs,ni,mk,Jh]
theorem PBU {l:Bg} {e:DW} {w code leaf:Int} {s:AA} {r:Ah} {B:Bo} {D:BU} {b2:Ap} (hu:l.AX.CZ=true) (hn:l.AX.AU.fCount<10000) (hp:Qo l.AX e.BA=some ([r],code,s)) (hcut:e.Nr=false) (hl:XR l.AX e.BA.Ag=some leaf) (hw:fB l.AX.BO l.AX.Bc l.AX.AU.fCount r=some D) (hb:Rq l.AX.AU r=some (B,true)) (hc:Vr ⟨l.AX.BO,l.AX.CZ,D,B,l.AX.BP,l.AX.BD,l.AX.CW⟩ e.BA code leaf=some b2) (z1:l.Bq.length<=1000) (z2:l.EN.length<=1000) (z3:l.CO.length<=1000) (z4:l.Cm.length<=1000) :
  Vs l w e=some ⟨b2,l.Bq++[code],l.EN++[s],bif e.BA.Au == 5 && code == 0 then l.Cm++[⟨e.BA.Ag,leaf,w⟩] else l.Cm,l.CO++[r]⟩:=by
 obtain ⟨m,hm⟩:∃ m,AY=m+1+1:=⟨AY - 2,rfl⟩
 have h1:AV (0+1)=1:=by rfl
 have key:=NBU (l:=l) (d:=l.CO++[r]) (w:=w) (s:=s) (y:=[r]) (n:=1) (m:=m) (Int.le_refl _) hc z1 z2 z4;have hd:Y6 ⟨⟨l.AX.BO,l.AX.CZ,D,B,l.AX.BP,l.AX.BD,l.AX.CW⟩,l.Bq,l.EN,l.Cm,l.CO⟩ r=some ⟨⟨l.AX.BO,l.AX.CZ,D,B,l.AX.BP,l.AX.BD,l.AX.CW⟩,l.Bq,l.EN,l.Cm,l.CO++[r]⟩:=JBF (by grind);simp_all [Vs,ni,mk,Jh,ny,AGd,mk]
theorem LBF {a b:Bo} (h0:a.AZ.length<=140737488351232):oC a b=some (AyK a b):=by
 rw [oC,DA3,mk,AyK];by_cases hl:a.AZ.length=b.AZ.length
 ·have key:∀ (j i m:Nat),i+j=a.AZ.length->oD (m+j+1) (.c0 (i:Int) a b)=some (AxV (a.AZ.drop i) (b.AZ.drop i)):=by
   intro j;induction j with
   | zero=>
    intro i m h;obtain rfl:i=a.AZ.length:=by omega
    rw [oD];simp only [BAn,mk];rw [TT (by simp),List.drop_length,hl,List.drop_length];rfl
   | succ j ih=>
    intro i m h;have hi:i<a.AZ.length:=by omega
    have hi2:i<b.AZ.length:=by omega
    have e:AV ((i:Int)+1)=((i+1:Nat):Int):=by grind [A8]
    rw [show m+(j+1)+1=(m+j+1)+1 by omega,oD];simp only [BAn,mk,e,BR,getD_at hi,getD_at hi2,FBO,ih (i+1) m (by omega)];grind [drop_at,AxV]
  obtain ⟨m,hm⟩:=gm (n:=a.AZ.length) (by omega)
  have hz:=key a.AZ.length 0 m (by omega);grind
 grind [GBO]
theorem QBU {b:Bo} {l:List Ah} (hb:b.AZ.length<=2932031007317) (hl:l.length<=140737488351232):zO b l=some (Aye b l):=by
 have key:∀ (j i m:Nat) (b:Bo),i+j=l.length->b.AZ.length<=2932031007317->oG (m+j+1) (.c0 l (i:Int) ⟨#[]⟩ 0 0 ⟨#[]⟩ 0 b.Bv b.DU b.BM b.Dh b.fCount [] b.AZ)=some (Aye b (l.drop i)):=by
  intro j;induction j with
  | zero=>
   intro i m b h hb;obtain rfl:i=l.length:=by omega
   rw [oG];simp only [CAn,mk];rw [TT (by simp),List.drop_length];rfl
  | succ j ih=>
   intro i m b h hb;have hi:i<l.length:=by omega
   have e:AV ((i:Int)+1)=((i+1:Nat):Int):=by grind [A8]
   rw [show m+(j+1)+1=(m+j+1)+1 by omega,oG];simp only [CAn,mk,e,BR,getD_at hi];rw [IK (by simp_all),IK (by simp_all),xA (by grind),AP,drop_at hi,Aye];cases h2:(OZ b l[i]).2;·rfl
   ·have h3:=xB h2;rw [TT (by rfl),Ar];exact ih (i+1) m (OZ b l[i]).1 (by omega) (by omega)
 obtain ⟨m,hm⟩:=gm (n:=l.length) (by omega)
 rw [zO,EA3,mk,MBB hb,AP,hm];exact key l.length 0 m b (by omega) hb
theorem MBF {k:AA} {d:BU} (hk:k.size<=900000000) (hd:d.Ak.length<=140737488351232) (hf:∀ f ∈ d.Ak,f.fText.size<=140737488351232):fC k d=some (Awo k d):=by
 have hfs:(Awy d AzD).1.size<=140737488351232:=WBC hf;obtain ⟨r1,r2⟩:=XBN k (Awy d AzD).1
 have hl:=YBN k (Awy d AzD).1;rw [fC,FA3,mk,UAr,AP,Awo];cases Gq d;·rfl
 rw [TT (by rfl),show (⟨#[98,111,111,107]⟩:AA)=AzD from rfl,show (⟨#[98,111,111,107,43]⟩:AA)=nNew from rfl,HBF hd,AP,IBF hk hfs,AP,bU,AP,QBU (DJ _) (by omega),AP,WBB hd];cases (Aye DX (LM k (Awy d AzD).1).1).2;·rfl
 grind
theorem PBw {b:Ap} (hl:b.BD.length<=140737488351232) (ht:b.AU.AZ.length<=140737488351232):zQ b=some (XF b):=by
 have key:∀ (j i m:Nat),i+j=b.BD.length->oH (m+j+1) (.c0 (i:Int) b)=some (Vy b j i):=by
  intro j;induction j with
  | zero=>
   intro i m hi;rw [oH];simp only [DAn,mk];rw [TT (by simp_all)];rfl
  | succ j ih=>
   intro i m hi;have hw:AV ((i:Int)+1)=((i+1:Nat):Int):=by grind [A8]
   have d1:decide ((i:Int)<(b.BD.length:Int))=true:=Ba (by omega);have d0:decide ((0:Int)<=(i:Int))=true:=Ba (by omega);rw [AwB m j,oH];simp only [DAn,mk,bT ht,Ih,AP,d0,d1,Bool.and_self,Ar,BR,hw,ih (i+1) m (by omega),Vy,Vt];grind [A8,BR]
 obtain ⟨m,hm⟩:=gm (n:=b.BD.length) (by omega)
 rw [zQ,HA3,hm];exact key b.BD.length 0 m (Nat.zero_add _)
theorem RBU {b:Ap} (hd:b.Bc.Ak.length<=140737488351232) (hf:∀ f ∈ b.Bc.Ak,f.fText.size<=140737488351232) (ht:b.AU.AZ.length<=140737488351232) (hs:b.BP.length<=140737488351232) (hl:b.BD.length<=140737488351232):oI b=some (Rt b):=by
 rw [oI,IA3,mk,UAr,Ih,Rt];simp only [AP,bne];cases hz:(b.BO.size:Int) == 32;·rfl
 have hk:b.BO.size<=900000000:=by grind
 obtain ⟨l1,l2⟩:=SAs b.BO b.Bc
 have key:∀ (j i m:Nat),i+j=b.BP.length->oJ (m+j+1) (.c0 (i:Int) b)=some (AxI b j i && ZA b):=by
  intro j;induction j with
  | zero=>
   intro i m hi;rw [oJ];simp only [EAn,mk];rw [TT (by simp_all),ZA];simp only [bU,MBF hk hd hf,LBF ht,LBF (show (Awo b.BO b.Bc).1.AZ.length<=140737488351232 by omega),fD ht,PBw hl ht,AP];cases b.CZ;·cases (b.BP.length:Int) == 0 <;> cases (b.BD.length:Int) == 0 <;> rfl
   ·cases (Awo b.BO b.Bc).2.2 <;> cases ((Awo b.BO b.Bc).2.1.length:Int) == 0 <;> cases Ia b.AU <;> cases AyK (Awo b.BO b.Bc).1 b.AU <;> rfl
  | succ j ih=>
   intro i m hi;have hw:AV ((i:Int)+1)=((i+1:Nat):Int):=by grind [A8]
   have d1:decide ((i:Int)<(b.BP.length:Int))=true:=Ba (by omega);have d0:decide ((0:Int)<=(i:Int))=true:=Ba (by omega);rw [AwB m j,oJ];simp only [EAn,mk,Ih,AP,d0,d1,Bool.and_self,Ar,BR,hw,ih (i+1) m (by omega),AxI,fE];cases AyM (b.BP.getD i ⟨0,false⟩).fId 1 b.CW;all_goals grind [A8,decide,BR]
 obtain ⟨m,hm⟩:=gm (n:=b.BP.length) (by omega)
 have h0:=key b.BP.length 0 m (Nat.zero_add _);grind
theorem UAu {b:Ap} (hd:b.Bc.Ak.length*40<=140737488351232) (hf:∀ f ∈ b.Bc.Ak,f.fText.size<=140737488351232) (ht:b.AU.AZ.length<=140737488351232) (hs:b.BP.length<=140737488351232) (hl:b.BD.length<=140737488351232) (hk:b.BO.size<=900000000):zS b=some (Yi b):=by
 obtain ⟨l1,l2⟩:=SAs b.BO b.Bc
 rw [zS,JA3,mk,Yi];simp only [RBU (b:=b) (by omega) hf ht hs hl,MBF hk (show b.Bc.Ak.length<=_ by omega) hf,DBC (d:=b.Bc) (l:=(Awo b.BO b.Bc).2.1) hd (by omega) (TBR hf),AP];cases b.CZ
 ·cases Rt b;·rfl
  ·cases (Awo b.BO b.Bc).2.2;·rfl
   ·cases decide ((AzA b.Bc (Awo b.BO b.Bc).2.1 0).2<((Awo b.BO b.Bc).2.1.length:Int)) <;> rfl
 ·rfl
theorem SBU {k:AA} {l:List Ah} {b:Ap} (h:Down k l b):∃ b',zS b=some (b',true)/\Good k l b'/\b'.BP=[]/\b'.BD=[]/\b'.CW=0/\b'.AU=(Aye DX l).1:=by
 obtain ⟨X,rfl,Bk,l2,K,hl2,he2,hK,hX,hl⟩:=h.box
 have Hj:X.size=K:=by grind [bs_len]
 have hs2:=xJ he2;have hm:=CBO (k:=k) (F:=X) (n:=X.size) hl2 hs2 he2 hK hX (by omega) (by omega);obtain ⟨w1,w2,w3⟩:=DAs (tx k 1 l2) K
 rw [eY] at w3;have hbk:Aye DX l=((Aye DX l).1,true):=Prod.ext rfl h.book;have hpre:Axj (tx k 1 l2)=Axj (tx k 1 (l2.take (whole (tx k 1 l2) K)))++Axj (tx k (1+((l2.take (whole (tx k 1 l2) K)).length:Int)) (l2.drop (whole (tx k 1 l2) K))):=by grind [NBN,UBC,List.take_append_drop]
 rw [<-hl] at hm w3 hpre;have hok:Rt ⟨k,false,dk X X.size,DX,[],[],0⟩=true:=HBO (b:=⟨k,false,dk X X.size,DX,[],[],0⟩) h.Io (Uy (by omega) (by omega));have mk:∀ G:AA,bs G=Axj (tx k 1 l)->Good k l ⟨k,true,dk G G.size,(Aye DX l).1,[],[],0⟩:=fun G hG=>⟨h.Io,rfl,rfl,⟨G,rfl,hG⟩,h.len,hbk,⟨DJ _,rfl⟩,⟨Int.le_refl _,by simp⟩,⟨rfl,DJ _⟩⟩
 have hR:=UAu (b:=⟨k,false,dk X X.size,DX,[],[],0⟩) (Nat.le_of_ble_eq_true rfl) (fun f hf=>by
  have hf:f ∈ [(⟨AzD,X,(X.size:Int)⟩:BQ)]:=hf;grind) (DJ _) (DJ _) (DJ _) (by show k.size<=_;rw [h.Io];omega)
 rw [hR,Yi,hok];dsimp only;rw [hm];dsimp only;by_cases hc:((Axj (tx k 1 l)).length:Int)=(X.size:Int)
 ·rw [beq_iff_eq.2 hc,Ar];refine ⟨_,rfl,mk X ?_,rfl,rfl,rfl,rfl⟩;grind [List.take_of_length_le]
 ·rw [beq_eq_false_iff_ne.2 hc,Aq];have hG:bs (X.extract 0 (Axj (tx k 1 l)).length)=Axj (tx k 1 l):=by grind [Awj]
  have Gd:(X.extract 0 (Axj (tx k 1 l)).length).size=(Axj (tx k 1 l)).length:=by grind [bs_len]
  generalize X.extract 0 (Axj (tx k 1 l)).length=G at hG Gd;rw [SBp (by omega) (by omega) (by omega)];exact ⟨_,rfl,mk G hG,rfl,rfl,rfl,rfl⟩
structure ATw (b:Ap):Prop where
 z:Ro b
 f:∀ f ∈ b.Bc.Ak,f.fText.size<=140737488351232
 k:b.BO.size<=900000000
 n:b.Bc.Ak.length*40<=140737488351232
theorem AzZ.bx {k:AA} {l:List Ah} {L:Bg} (h:AzZ k l L):ATw L.AX:=by
 rcases h.box with g | d
 ·exact ⟨g.kZ,fun f hf=>by have:=g.small.2 f hf;omega,by rw [g.key,g.Io];omega,by have:=g.small.1;omega⟩
 ·obtain ⟨h1,h2,h3,h4,h5,h6,h7,h8⟩:=AzZ.down d
  exact ⟨⟨by have:=h7.1;omega,by rw [h4];exact DJ _,by simp_all,by simp_all,by omega⟩,fun f hf=>by have:=h7.2 f hf;omega,by rw [h6,d.Io];omega,by have:=h7.1;omega⟩
theorem VAu {k:AA} {l:List Ah} {L:Bg} {e:DW} (h:AzZ k l L) (he:AwI e) (hn:L.Bq.length<45):∃ l' L',Av8 L (L.Bq.length:Int) e=some L'/\Step k e l L l' L':=by
 obtain ⟨f1,f2,f3⟩:=h.few
 have ho:=h.opn;have hd:L.CO.length<=1000:=by rw [h.done];omega
 rw [Av8,FAn,mk];cases hr:e.JY
 ·rw [Bool.not_false,Ar];have one:∀ x:Option Bg,(x.bind fun r=>some r)=x:=fun x=>by simp
  rw [one];rcases h.box with g | d
  ·have hq:Qo L.AX e.BA=some (Ib Avd L.AX e.BA):=CBU g.pb (he.call hr) fun h v _=>BBU (he.2 h)
   have hlf:=AWZ g.J7 g.MC.1 e.BA.Ag;have hcn:=g.cnt;have hll:=g.len.2;have hl2:XR L.AX e.BA.Ag=some (Avz L.AX e.BA.Ag):=HBU (by have:=g.MC.2;omega) (by have:=g.ZB;omega);rcases Yh (tk:=Avd) (c:=e.BA) g with h0 | ⟨r,h1,h2⟩
   ·have hq2:Qo L.AX e.BA=some ([],(Ib Avd L.AX e.BA).2.1,(Ib Avd L.AX e.BA).2.2):=by grind
    refine ⟨_,_,?_,Step.call g hr (.inr h0)⟩;rw [OBU g.up (by omega) hq2 hl2 (TAu g.kZ g.lives.2 (by omega)) (by omega) (by omega) (by omega),Ayl,h0,List.append_nil];rfl
   ·have hq2:Qo L.AX e.BA=some ([r],(Ib Avd L.AX e.BA).2.1,(Ib Avd L.AX e.BA).2.2):=by grind
    cases hc:e.Nr
    ·have e0:=((KAu g (by omega) h2.ent).2 [] (fun v hv=>by cases hv) List.Pairwise.nil).kZ;have e1:Ro (Avv L.AX r):=⟨e0.d,e0.t,g.Nu.1,g.MC.2,g.opn⟩
     have hE:Rq L.AX.AU r=some ((OZ L.AX.AU r).1,true):=by rw [xA (by have:=g.ZB;omega),<-h2.ent]
     have hcar:Vr (Avv L.AX r) e.BA (Ib Avd L.AX e.BA).2.1 (Avz L.AX e.BA.Ag)=some (Ayl L.AX e.BA (Ib Avd L.AX e.BA)):=by rw [Ayl,h1];exact TAu e1 g.lives.2 (by omega)
     refine ⟨_,_,?_,Step.call g hr (.inl hc)⟩;rw [PBU g.up (by omega) hq2 hc hl2 (FBC (by rw [g.key,g.Io];omega) (by have:=g.small.1;omega)) hE hcar (by omega) (by omega) (by omega) (by omega),h1];rfl
    ·obtain ⟨l',b',c1,c2,c3⟩:=MBw (r:=r) e.Lc g (by omega) h2.num h2.ent (by omega) (by omega) hd
     exact ⟨l',_,MBU g.up (by omega) hq2 hc c1,Step.cut g hr r h1 b' l' c2 c3⟩
  ·obtain ⟨h1,h2,h3,h4,h5,h6,h7,h8⟩:=AzZ.down d
   exact ⟨l,_,LBU h1 (by omega) (by omega),Step.down d hr⟩
 ·have x:=h.bx;have z:=x.z;have zt:=z.t;have zs:=z.s;have Avh:=z.l;have hR:=UAu x.n x.f (by omega) (by omega) (by omega) x.k;rw [DN,Aq,hR,AP];rcases h.box with g | d
  ·refine ⟨l,_,?_,Step.stay g hr⟩;rw [Yi,g.up,Bool.true_or,Ar];dsimp only;rw [Bool.not_false,Ar,VI (by omega) (by omega)];rfl
  ·obtain ⟨b',r1,r2,r3,r4,r5,_⟩:=SBU d
   rw [hR] at r1;injection r1 with r1
   refine ⟨l,_,?_,Step.up d hr b' r2 r3 r4 r5⟩;rw [r1,DN,Aq,VI (by grind) (by grind)];rfl
theorem QBw {k:AA} {l:List Ah} {L:Bg} {e:DW} (h:AzZ k l L) (he:AwI e) (hn:L.Bq.length<45):Av8 L (L.Bq.length:Int) e=(bif e.JY then ZC L else Rh L e (L.Bq.length:Int)):=by
 obtain ⟨f1,f2,f3⟩:=h.few
 have ho:=h.opn;have hd:L.CO.length<=1000:=by rw [h.done];omega
 rw [Av8,FAn,mk];cases hr:e.JY
 ·rw [Aq,Bool.not_false,Ar];have one:∀ x:Option Bg,(x.bind fun r=>some r)=x:=fun x=>by cases x <;> rfl
  rw [one];rcases h.box with g | d
  ·have hp:=g.plan (by omega) (by omega) (he.call hr) he.2;have hq:Qo L.AX e.BA=some (Ib Avd L.AX e.BA):=CBU g.pb (he.call hr) fun h v _=>BBU (he.2 h)
   have hlf:=AWZ g.J7 g.MC.1 e.BA.Ag;have hcn:=g.cnt;have hll:=g.len.2;have hl2:XR L.AX e.BA.Ag=some (Avz L.AX e.BA.Ag):=HBU (by have:=g.MC.2;omega) (by have:=g.ZB;omega);rcases Yh (tk:=Avd) (c:=e.BA) g with h0 | ⟨r,h1,h2⟩
   ·have hp2:RZ L.AX e.BA=some ([],(Ib Avd L.AX e.BA).2.1,(Ib Avd L.AX e.BA).2.2):=by rw [hp,<-h0]
    have hq2:Qo L.AX e.BA=some ([],(Ib Avd L.AX e.BA).2.1,(Ib Avd L.AX e.BA).2.2):=by rw [hq,<-h0]
    rw [BBT hp2 (VBR g _) (g.carry (by omega)) (by omega) (by omega) (by omega),OBU g.up (by omega) hq2 hl2 (TAu g.kZ g.lives.2 (by omega)) (by omega) (by omega) (by omega)]
   ·have hp2:RZ L.AX e.BA=some ([r],(Ib Avd L.AX e.BA).2.1,(Ib Avd L.AX e.BA).2.2):=by rw [hp,<-h1]
    have hq2:Qo L.AX e.BA=some ([r],(Ib Avd L.AX e.BA).2.1,(Ib Avd L.AX e.BA).2.2):=by rw [hq,<-h1]
    cases hc:e.Nr
    ·have hb:XU L.AX r=some (true,Avv L.AX r):=by rw [PBR (by rw [g.key,g.Io];omega) (by have:=g.small.1;omega) (by have:=g.ZB;omega) h2.num,(KAu g (by omega) h2.ent).1]
     have e0:=((KAu g (by omega) h2.ent).2 [] (fun v hv=>by cases hv) List.Pairwise.nil).kZ;have e1:Ro (Avv L.AX r):=⟨e0.d,e0.t,g.Nu.1,g.MC.2,g.opn⟩
     have hE:Rq L.AX.AU r=some ((OZ L.AX.AU r).1,true):=by rw [xA (by have:=g.ZB;omega),<-h2.ent]
     rw [XBs hp2 hc (VBR g _) hb (DBS e1 g.LAu.2 g.lives.2 (by omega)) (by omega) (by omega) (by omega) (by omega),PBU g.up (by omega) hq2 hc hl2 (FBC (by rw [g.key,g.Io];omega) (by have:=g.small.1;omega)) hE (TAu e1 g.lives.2 (by omega)) (by omega) (by omega) (by omega) (by omega)];rfl
    ·obtain ⟨l',b',c1,c2,c3,_⟩:=ZBs (r:=r) e.Lc g (by omega) h2.num h2.ent (by omega) (by omega) hd
     rw [DBt hp2 hc c1,MBU g.up (by omega) hq2 hc ((LBw e.Lc g (by omega) h2.num h2.ent (by omega) (by omega) hd).trans c1)]
  ·obtain ⟨h1,h2,h3,h4,h5,h6,h7,h8⟩:=AzZ.down d
   have hlf:Vd L.AX e.BA.Ag=some (-1):=by rw [VBD (by rw [h2];exact DJ _) (by rw [h4];exact DJ _),Avz,h4];rfl
   rw [BBT (VBu d _) hlf (IBR h.bx.z rfl) (by omega) (by omega) (by omega),LBU h1 (by omega) (by omega)];cases e.BA.Au == 5 <;> rfl
 ·have x:=h.bx;have z:=x.z;have zt:=z.t;have zs:=z.s;have Avh:=z.l;rw [Ar,DN,Aq,UAu x.n x.f (by omega) (by omega) (by omega) x.k,ZC,EA6,mk,Aht x.n x.f (by omega) (by omega) (by omega) x.k,AP,AP];cases (Yi L.AX).2;·rw [Bool.not_false,Ar,Ar,VI (by omega) (by omega),Yt (by omega) (by omega)]
  ·rw [DN,Aq,Aq,VI (by show L.Bq.length<=_;omega) (by show L.EN.length<=_;omega),Yt (by show L.Bq.length<=_;omega) (by show L.EN.length<=_;omega)]
theorem RBw (k w:AA):zT k w=some (Oo k w):=by
 rw [zT,KA5,mk,Oo,bne];cases hz:(k.size:Int) == 32;·rfl
 rw [beq_iff_eq] at hz;by_cases hw:(w.size:Int) > 20;·rw [Ba hw];rfl
 rw [D6 hw,Oy (s:=w) (by omega),oK];simp only [AP,PBR (b:=⟨k,true,⟨[]⟩,DX,[],[],0⟩) (r:=⟨1,Ed w,0,⟨0,0,false,false,false,false,⟨#[]⟩,0⟩⟩) (show k.size<=900000000 by omega) (DJ _) (DJ _) (show (0:Int)<=9223372036854775807 by decide)];have hb:AzW k 0 (Ayq w)=([⟨1,Ht,(frameT (Axf k 1 (Ax8 (Ayq w)).1).1).1,⟨#[]⟩⟩,⟨2,Ht,⟨#[]⟩,⟨#[]⟩⟩],true):=by rw [AzW,show (Ax8 (Ayq w)).2=true by rw [zU]];rfl
 have h2:(AzA ⟨[]⟩ (AzW k 0 (Ayq w)).1 0).2=2:=by rw [hb];exact MBn (Nat.le_trans (CBN _) (by decide))
 rw [zV];have e1:=EBN w;have e2:(AzW k 0 (Ayq w)).2=true:=by rw [hb]
 have e3:(AzW k 0 (Ayq w)).1.length=2:=by rw [hb];rfl
 simp only [show (⟨1,Ed w,0,⟨0,0,false,false,false,false,⟨#[]⟩,0⟩⟩:Ah)=Ayq w from rfl,show DX.fCount=0 from rfl,e1,e2,e3,h2];rfl
theorem SBw (e:DW):zW e=some (UW e):=by simp only [zW,MA5,mk,FBP,AP,UW];show (bif AyI e.BA then _ else bif e.JY then bif ku e.BA then _ else _ else _)=_;cases decide ((e.Lc.length:Int)<=30) <;> cases AyI e.BA <;> cases e.JY <;> cases ku e.BA <;> rfl
theorem TBw {es:List DW} {a0:AA} {a1:Bool} {a2:AA} {a3 a4:Int} {a5:AA} {a6 a7:Int} {c0:List BQ} {c1:List Af} {c2:List EG} {c3:List CS} {c4:List Int} {c5:List AA} {c6:List D8} {c7:List Ah} (hz:es.length<=1000):∀ (j i m:Nat) (l:Bg),i+j=es.length->
  XV (m+j+1) (.c1 es (es.length:Int) (i:Int) a0 a1 a2 a3 a4 a5 a6 a7 l.AX.BO l.AX.CZ l.AX.AU.Bv l.AX.AU.DU l.AX.AU.BM l.AX.AU.Dh l.AX.AU.fCount l.AX.CW c0 c1 c2 c3 c4 c5 c6 c7 l.AX.Bc.Ak l.AX.AU.AZ l.AX.BP l.AX.BD l.Bq l.EN l.Cm l.CO)=(Ye (es.drop i) (i:Int) l).bind fun l=>some (l,true):=by
 intro j;induction j with
 | zero=>
  intro i m l hi;rw [XV];simp only [oL,mk];rw [Jh (by omega),List.drop_of_length_le (by omega)];rfl
 | succ j ih=>
  intro i m l hi;have hlt:i<es.length:=by omega
  have hw:=Fq (i:=i) (by omega);rw [AwB m j,XV,drop_at hlt,Ye];simp only [oL,mk,hw,BR,getD_at hlt];rw [Ep (by omega),GX (by omega)];cases es[i].JY
  ·rw [Aq,Aq];show (Rh l es[i] (i:Int)).bind _=_;cases Rh l es[i] (i:Int) with
   | none=>rfl
   | some l2=>exact ih (i+1) m l2 (by omega)
  ·rw [Ar,Ar];show (ZC l).bind _=_;cases ZC l with
   | none=>rfl
   | some l2=>exact ih (i+1) m l2 (by omega)
def WAu:Bg:=⟨⟨⟨#[]⟩,false,⟨[]⟩,⟨⟨#[]⟩,0,[],0,⟨#[]⟩,0⟩,[],[],0⟩,[],[],[],[]⟩
theorem UBw {w:AA} {es:List DW} {b:Ap} {a0:AA} {a1:Bool} {a2:AA} {a3 a4:Int} {a5:AA} {a6 a7:Int} {c0:List BQ} {c1:List Af} {c2:List EG} {c3:List CS} {c4:List Int} {c5:List AA} {c6:List D8} {c7:List Ah} (hz:es.length<=1000) (hw:w.size<=1000):∀ (j i m:Nat),i+j=es.length->
  XV (m+es.length+1+j+1) (.c0 w es es (es.length:Int) (i:Int) a0 a1 a2 a3 a4 a5 a6 a7 b.BO b.CZ b.AU.Bv b.AU.DU b.AU.BM b.AU.Dh b.AU.fCount b.CW c0 c1 c2 c3 c4 c5 c6 c7 b.Bc.Ak b.AU.AZ b.BP b.BD)=bif (es.drop i).all UW then (Ye es 0 ⟨b,[],[],[],[Ayq w]⟩).bind fun l=>some (l,true) else some (WAu,false):=by
 intro j;induction j with
 | zero=>
  intro i m hi;rw [XV];simp only [oL,mk];rw [Jh (by omega),List.drop_of_length_le (by omega),List.all_nil,Ar,Oy (by omega),AP];have h:=TBw (es:=es) (a0:=a0) (a1:=a1) (a2:=a2) (a3:=a3) (a4:=a4) (a5:=a5) (a6:=a6) (a7:=a7) (c0:=c0) (c1:=c1) (c2:=c2) (c3:=c3) (c4:=c4) (c5:=c5) (c6:=c6) (c7:=c7) hz es.length 0 m ⟨b,[],[],[],[Ayq w]⟩ (Nat.zero_add _);rw [List.drop_zero] at h;exact h
 | succ j ih=>
  intro i m hi;have hlt:i<es.length:=by omega
  have hw:=Fq (i:=i) (by omega);rw [show m+es.length+1+(j+1)+1=(m+es.length+1+j+1)+1 from rfl,XV,drop_at hlt,List.all_cons];simp only [oL,mk,hw,BR,getD_at hlt];rw [Ep (by omega),GX (by omega),SBw,AP];cases UW es[i];·rfl
  ·rw [DN,Aq,Bool.true_and];exact ih (i+1) m (by omega)
theorem VBw {k w:AA} {es:List DW} (hz:es.length<=1000) (hw:w.size<=1000):xC k w es=bif (Oo k w).2 && decide (es.length<=40) then (bif es.all UW then (Ye es 0 (Axk k w)).bind fun l=>some (l,true) else some (WAu,false)) else some (WAu,false):=by
 rw [xC,IBA,mk,RBw,AP];cases (Oo k w).2;·rfl
 ·rw [DN,Aq,Bool.true_and];by_cases h:es.length<=40
  ·rw [Jh (by omega),Ba h,Ar];obtain ⟨m,hm⟩:∃ m,AY=m+es.length+1+es.length+1:=⟨AY - (es.length+1+es.length+1),by have:=FM (n:=es.length+1+es.length+1) (by omega);omega⟩
   rw [hm];exact UBw hz hw es.length 0 m (Nat.zero_add _)
  ·rw [Ep (by omega),D6 h];rfl
theorem TBU {k w:AA} (hw:w.size<=1000):fF k w=some (bif (Oo k w).2 then (Axk k w,true) else (WAu,false)):=by
 rw [fF,OAy,mk,NBn,AP];cases (Oo k w).2;·rfl
 ·rw [DN,Aq,ML (by omega)];rfl
noncomputable def VE:List DW->Int->Bg->Option Bg
 | [],_,l=>some l
 | e::es,i,l=>(Av8 l i e).bind (VE es (i+1))
theorem WBw {k:AA} {es:List DW} {a0:AA} {a1:Bool} {a2:AA} {a3 a4:Int} {a5:AA} {a6 a7:Int} {c0:List BQ} {c1:List Af} {c2:List EG} {c3:List CS} {c4:List Int} {c5:List AA} {c6:List D8} {c7:List Ah} (hz:es.length<=40) (he:∀ e ∈ es,AwI e):∀ (j i m:Nat) (r:List Ah) (l:Bg),i+j=es.length->AzZ k r l->l.Bq.length=i->
  XW (m+j+1) (.c1 es (i:Int) a0 a1 a2 a3 a4 a5 a6 a7 l.AX.BO l.AX.CZ l.AX.AU.Bv l.AX.AU.DU l.AX.AU.BM l.AX.AU.Dh l.AX.AU.fCount l.AX.CW c0 c1 c2 c3 c4 c5 c6 c7 l.AX.Bc.Ak l.AX.AU.AZ l.AX.BP l.AX.BD l.Bq l.EN l.Cm l.CO)=(VE (es.drop i) (i:Int) l).bind fun l=>some (l,true):=by
 intro j;induction j with
 | zero=>
  intro i m r l hi h hc;rw [XW];simp only [oM,mk];rw [Jh (by omega),List.drop_of_length_le (by omega)];show (Y9 l.AX).bind _=_;rw [IBU h.bx.z];rfl
 | succ j ih=>
  intro i m r l hi h hc;have hlt:i<es.length:=by omega
  have hw:=Fq (i:=i) (by omega);obtain ⟨r1,l1,s1,s2⟩:=VAu h (he _ (List.getElem_mem hlt)) (by omega)
  rw [hc] at s1;obtain ⟨g1,g2⟩:=MAu h (by omega) s2
  rw [AwB,XW,drop_at hlt,VE,s1];simp only [oM,mk,hw,BR,getD_at hlt];rw [Ep (by omega),GX (by omega)];show (Av8 l (i:Int) es[i]).bind _=_;rw [s1];exact ih (i+1) m r1 l1 (by omega) g1 (by omega)
theorem XAu {k w:AA} (hk:k.size=32) (hw:w.size<=20):AzZ k [Ayq w] (Axk k w):=by
 obtain ⟨s,_,h3,_⟩:=WBR hk hw
 exact ⟨.inl s.good,rfl,⟨Nat.le_refl _,rfl,Nat.le_refl _⟩,by omega⟩
theorem UBU {k w:AA} {es:List DW} (hk:k.size=32) (hw:w.size<=20) (hz:es.length<=40) (he:∀ e ∈ es,AwI e):kD k w es=(VE es 0 (Axk k w)).bind fun l=>some (l,true):=by
 have hn:(Oo k w).2=true:=(xE hk hw).1
 have key:=Wj (L:=XW) (r:=(VE es 0 (Axk k w)).bind fun l=>some (l,true)) (fun i:Nat=>oO.c0 es true (i:Int) ⟨#[]⟩ false ⟨#[]⟩ 0 0 ⟨#[]⟩ 0 0 (Axk k w).AX.BO (Axk k w).AX.CZ (Axk k w).AX.AU.Bv (Axk k w).AX.AU.DU (Axk k w).AX.AU.BM (Axk k w).AX.AU.Dh (Axk k w).AX.AU.fCount (Axk k w).AX.CW [] [] [] [] [] [] [] [] (Axk k w).AX.Bc.Ak (Axk k w).AX.AU.AZ (Axk k w).AX.BP (Axk k w).AX.BD (Axk k w).Bq (Axk k w).EN (Axk k w).Cm (Axk k w).CO) es.length (es.length+1) (by omega) (fun m=>by
  rw [XW];simp only [oM,mk];rw [Jh (by omega),DN,Aq];exact WBw hz he es.length 0 m [Ayq w] (Axk k w) (Nat.zero_add _) (XAu hk hw) rfl) fun i hi m=>by
  have hw:=Fq (i:=i) (by omega);rw [XW];simp only [oM,mk,hw,BR,getD_at hi];rw [Ep (by omega),Ar,Ep (by omega),GX (by omega),QBs,AP,(he _ (List.getElem_mem hi)).1]
 rw [kD,MBA,mk,TBU (by omega),hn,Ar,AP];omega
structure vU (r:PO):Prop where
 k:r.BO.size=32
 w:r.Bv.size<=20
 n:r.wG.length<=39
 e:∀ e ∈ r.wG,AwI e
theorem XBw {K w:AA} {x1 x2:AA} {x3:List DW} {n:Nat} (hK:K.size=32) (hw:w.size<=20) (hn:n<=39):∀ (j i m:Nat) (ci h:Int) (es:List DW) (r:List Ah) (l:Bg),i+j=n->0<=ci->es.length=i->(∀ e ∈ es,AwI e)->AzZ K r l->l.Bq.length=i->
  Ok (ZE (m+j+1) (.c0 (n:Int) (i:Int) ci h x1 x2 K w l.AX.BO l.AX.CZ l.AX.AU.Bv l.AX.AU.DU l.AX.AU.BM l.AX.AU.Dh l.AX.AU.fCount l.AX.CW x3 es l.AX.Bc.Ak l.AX.AU.AZ l.AX.BP l.AX.BD l.Bq l.EN l.Cm l.CO)) fun r=>vU r.1/\Ie r.2:=by
 intro j;induction j with
 | zero=>
  intro i m ci h es r l hi hc hl he g hg;rw [ZE];simp only [GAn,mk];rw [Jh (by omega)];exact Ok.ret ⟨⟨hK,hw,by simp_all,he⟩,hc⟩
 | succ j ih=>
  intro i m ci h es r l hi hc hl he g hg;have hup:=Fq (i:=i) (by omega);rw [AwB,ZE];simp only [GAn,mk,hup];rw [Ep (by omega)];have one:∀ (c:DZ) (e:DW),Ie c->AwI e->Ok ((Av8 l (i:Int) e).bind fun r2=>bif decide ((es.length+1)*96<=140737488355328) then ZE (m+j+1) (.c0 (n:Int) ((i+1:Nat):Int) c.fI c.AyA x1 x2 K w r2.AX.BO r2.AX.CZ r2.AX.AU.Bv r2.AX.AU.DU r2.AX.AU.BM r2.AX.AU.Dh r2.AX.AU.fCount r2.AX.CW x3 (es++[e]) r2.AX.Bc.Ak r2.AX.AU.AZ r2.AX.BP r2.AX.BD r2.Bq r2.EN r2.Cm r2.CO) else none) fun r=>vU r.1/\Ie r.2:=by
   intro c e hc he1;obtain ⟨r1,l1,s3,s2⟩:=VAu g he1 (by omega)
   obtain ⟨g1,g2⟩:=MAu g (by omega) s2
   rw [hg] at s3;rw [s3,AP,Ep (by omega)];refine ih (i+1) m _ _ _ r1 l1 (by omega) hc (by simp_all) (fun x hx=>?_) g1 (by omega);grind
  refine Ok.bind (EBv (c:=⟨(),ci,h⟩) (l:=l) hc g.db) fun a ha=>?_
  obtain ⟨ev,Hs,L⟩:=a
  obtain ⟨a1,a2,a3⟩:=ha
  grind [DBv,EBT]
theorem YBw {c:DZ} (hc:Ie c):Ok (HAn c ()) fun r=>vU r.1/\Ie r.2:=by
 have hl:KI.length<=140737488351232:=PC.hl;have e39:(39:Int)=((39:Nat):Int):=rfl;have h8:AV (8+AV ((KI.length:Int).tdiv 12))=((8+KI.length / 12:Nat):Int):=by grind [A8]
 rw [HAn,KA3,mk,h8];refine Ok.bind (Uu hc) fun a ha=>Ok.bind (TBj (by omega) (by omega)) fun K hK=>?_
 have hK2:K.size=32:=by omega
 have hw:(⟨#[119]⟩:AA).size<=20:=by decide
 rw [TBU (by decide),(xE hK2 hw).1,Ar,AP];have go:∀ n:Nat,n<=39->Ok (ZE AY (.c0 (n:Int) ((0:Nat):Int) a.2.fI a.2.AyA ⟨#[]⟩ ⟨#[]⟩ K ⟨#[119]⟩ (Axk K ⟨#[119]⟩).AX.BO (Axk K ⟨#[119]⟩).AX.CZ (Axk K ⟨#[119]⟩).AX.AU.Bv (Axk K ⟨#[119]⟩).AX.AU.DU (Axk K ⟨#[119]⟩).AX.AU.BM (Axk K ⟨#[119]⟩).AX.AU.Dh (Axk K ⟨#[119]⟩).AX.AU.fCount (Axk K ⟨#[119]⟩).AX.CW [] [] (Axk K ⟨#[119]⟩).AX.Bc.Ak (Axk K ⟨#[119]⟩).AX.AU.AZ (Axk K ⟨#[119]⟩).AX.BP (Axk K ⟨#[119]⟩).AX.BD (Axk K ⟨#[119]⟩).Bq (Axk K ⟨#[119]⟩).EN (Axk K ⟨#[119]⟩).Cm (Axk K ⟨#[119]⟩).CO)) fun r=>vU r.1/\Ie r.2:=fun n hn=>by
  obtain ⟨m,hm⟩:=gm (n:=n) (by omega)
  rw [hm];exact XBw hK2 hw hn n 0 m _ _ [] [Ayq ⟨#[119]⟩] _ (Nat.zero_add _) ha.2 rfl (fun e h=>by cases h) (XAu hK2 hw) rfl
 exact Ok.cond (fun _=>go 39 (Nat.le_refl _)) fun h=>go _ (by grind)
theorem ZBw {a:List Int} (h:a.length<=1000000):YAq a a=some true:=by
 have key:∀ (j i m:Nat),i+j=a.length->oP (m+j+1) (.c0 a a (i:Int))=some true:=by
  intro j;induction j with
  | zero=>
   intro i m hi;rw [oP];simp only [XAq,mk];rw [Jh (by omega)]
  | succ j ih=>
   intro i m hi;have hw:=Fq (i:=i) (by omega);rw [AwB m j,oP];simp only [XAq,mk];rw [Ep (by omega),GX (by omega),GX (by omega),TT (bne_self_eq_false _),hw];exact ih (i+1) m (by omega)
 obtain ⟨m,hm⟩:=gm (n:=a.length) (by omega)
 rw [YAq,NBA,mk,TT (bne_self_eq_false _),hm];exact key a.length 0 m (Nat.zero_add _)
theorem AgQ {a:List AA} (h:a.length<=1000000):AGq a a=some true:=by
 rw [AGq,OBA,mk,TT (bne_self_eq_false _)];refine Wj (L:=oQ) (fun i:Nat=>oU.c0 a a (i:Int)) a.length 0 (by omega) (fun m=>?_) fun i hi m=>?_
 ·rw [oQ];simp only [ZAq,mk];rw [Jh (by omega)]
 ·rw [oQ];simp only [ZAq,mk,Fq (i:=i) (by omega),Oe];rw [Ep (by omega),GX (by omega),GX (by omega)];rfl
theorem BBx {a:List Ah} (h:a.length<=140737488351232):CAr a a=some true:=by
 have key:∀ (j i m:Nat),i+j=a.length->oV (m+j+1) (.c0 a a (i:Int))=some true:=by
  intro j;induction j with
  | zero=>
   simp_all [oV,BAr,mk]
  | succ j ih=>
   intro i m hi;have hw:AV ((i:Int)+1)=((i+1:Nat):Int):=by grind [A8]
   rw [AwB m j,oV];simp only [BAr,mk,hw,ih (i+1) m (by omega),beq_self_eq_true,Bool.and_self,DN,Aq];grind
 obtain ⟨m,hm⟩:=gm (n:=a.length) (by omega)
 rw [CAr,PBA,mk,bne_self_eq_false,Aq,hm];exact key a.length 0 m (Nat.zero_add _)
def Ayp (l:List Ah) (t:Int):Nat->Nat->Int->Int
 | 0,_,n=>n
 | j+1,i,n=>Ayp l t j (i+1) (bif (l.getD i ⟨0,⟨#[]⟩,0,⟨0,0,false,false,false,false,⟨#[]⟩,0⟩⟩).Aj == 3 && (l.getD i ⟨0,⟨#[]⟩,0,⟨0,0,false,false,false,false,⟨#[]⟩,0⟩⟩).Ag.fId == t then (l.getD i ⟨0,⟨#[]⟩,0,⟨0,0,false,false,false,false,⟨#[]⟩,0⟩⟩).Ag.fNext else n)
theorem CBx {l:List Ah} {t:Int} (hl:l.length<=140737488351232):zX l t=some (Ayp l t l.length 0 0):=by
 have key:∀ (j i m:Nat) (n:Int),i+j=l.length->oW (m+j+1) (.c0 t n l (l.length:Int) (i:Int))=some (Ayp l t j i n):=by
  intro j;induction j with
  | zero=>
   intro i m n hi;rw [oW];simp only [DAr,mk];rw [TT (by simp;omega)];rfl
  | succ j ih=>
   intro i m n hi;have hw:=Fq (i:=i) (by omega);have d1:decide ((i:Int)<(l.length:Int))=true:=Ba (by omega);have d0:decide ((0:Int)<=(i:Int))=true:=Ba (by omega);rw [AwB m j,oW];simp only [DAr,mk,d0,d1,Bool.and_self,Ar,BR,hw,ih (i+1) m _ (by omega),Ayp];cases (l.getD i ⟨0,⟨#[]⟩,0,⟨0,0,false,false,false,false,⟨#[]⟩,0⟩⟩).Aj == 3 <;> cases (l.getD i ⟨0,⟨#[]⟩,0,⟨0,0,false,false,false,false,⟨#[]⟩,0⟩⟩).Ag.fId == t <;> rfl
 obtain ⟨m,hm⟩:=gm (n:=l.length) (by omega)
 rw [zX,QBA,mk,hm];exact key l.length 0 m 0 (Nat.zero_add _)
def Pm (l:List D8) (i k:Nat):Bool:=((l.getD i ⟨0,0,0⟩).Ag == (l.getD k ⟨0,0,0⟩).Ag) && ((l.getD i ⟨0,0,0⟩).Dv == (l.getD k ⟨0,0,0⟩).Dv)
def Axb (l:List D8) (i k:Nat):Bool:=((l.getD i ⟨0,0,0⟩).Ag == (l.getD k ⟨0,0,0⟩).Ag) && decide ((l.getD i ⟨0,0,0⟩).Dv<=(l.getD k ⟨0,0,0⟩).Dv)
def QA (p:Nat->Bool):Nat->Nat->Bool
 | 0,_=>false
 | j+1,k=>p k || QA p j (k+1)
def Ol (p:Nat->Nat->Bool):Nat->Nat->Bool
 | 0,_=>true
 | j+1,i=> !QA (p i) i 0 && Ol p j (i+1)
theorem YAu {n:Nat} (h:n<=140737488351232):n*(n+2)+1<1000000000000000000000000000000000000000:=by have:=Nat.mul_le_mul h (show n+2<=140737488351234 by omega);omega
theorem DBx {l:List D8} (hl:l.length<=140737488351232):zY l=some (Ol (Pm l) l.length 0):=by
 have inner:∀ (j k i F:Nat),k+j=i->i<l.length->Vu (F+j+1) (.c1 l l (l.length:Int) (i:Int) (l.take i) (i:Int) (k:Int) (l.getD i ⟨0,0,0⟩))=bif QA (Pm l i) j k then some false else Vu F (.c0 l l (l.length:Int) ((i+1:Nat):Int)):=by
  intro j;induction j with
  | zero=>
   intro k i F hk hi;have hw:=Fq (i:=i) (by omega);rw [Vu];simp only [oZ,mk,hw];rw [TT (by simp;omega)];rfl
  | succ j ih=>
   intro k i F hk hi;have hw:=Fq (i:=k) (by omega);have ht:(l.take i).length=i:=by rw [List.length_take];omega
   have hg:(l.take i).getD k ⟨0,0,0⟩=l.getD k ⟨0,0,0⟩:=by simp [List.getD,List.getElem?_take,show k<i by omega]
   rw [AwB F j,Vu];simp only [oZ,mk,hw,ih (k+1) i F (by omega) hi,BR,ht,hg,show decide ((k:Int)<(i:Int))=true from Ba (by omega),show decide ((0:Int)<=(k:Int))=true from Ba (by omega),Bool.and_self,Ar,QA,Pm];cases (l.getD i ⟨0,0,0⟩).Ag == (l.getD k ⟨0,0,0⟩).Ag <;> cases (l.getD i ⟨0,0,0⟩).Dv == (l.getD k ⟨0,0,0⟩).Dv <;> rfl
 have outer:∀ (j i m:Nat),i+j=l.length->Vu (m+j*(l.length+2)+1) (.c0 l l (l.length:Int) (i:Int))=some (Ol (Pm l) j i):=by
  intro j;induction j with
  | zero=>
   intro i m hi;rw [Vu];simp only [oZ,mk];rw [TT (by simp;omega)];rfl
  | succ j ih=>
   intro i m hi;have ht:(l.take i).length=i:=by rw [List.length_take];omega
   rw [show m+(j+1)*(l.length+2)+1=((m+(l.length - i)+j*(l.length+2)+1)+i+1)+1 by rw [Nat.succ_mul];omega,Vu];simp only [oZ,mk,BR,List.drop_zero,ht];rw [IK (by simp;omega),IK (by simp;omega),IK (by simp;omega)];refine (inner i 0 i _ (by omega) (by omega)).trans ?_;rw [ih (i+1) _ (by omega),Ol];cases QA (Pm l i) i 0 <;> rfl
 obtain ⟨m,hm⟩:∃ m,AY=m+l.length*(l.length+2)+1:=⟨AY - (l.length*(l.length+2)+1),by have:=wL (YAu hl);omega⟩
 rw [zY,RBA,hm];exact outer l.length 0 m (Nat.zero_add _)
def leafs (xs:List D8) (t:Int):List Int:=(xs.filter fun g=>g.Ag == t).map (·.Dv)
theorem EBx (x:D8) (xs:List D8) (t:Int):leafs (x::xs) t=(if (x.Ag == t)=true then [x.Dv] else [])++leafs xs t:=by unfold leafs;rw [List.filter_cons];split <;> simp
theorem FBx {a:List D8} {t:Int} (h:a.length*24<=140737488355328):FAr a t=some (leafs a t):=by
 have key:∀ m i out,i<=a.length->a.length - i<m->out.length<=i->fG m (.c0 t a a.length i out)=some (out++leafs (a.drop i) t):=fun m i out h1 h2 h3=>
  PV (A:=List Int) (n:=a.length) (Lp:=fG) (st:=fun i out=>.c0 t a a.length i out) (Inv:=fun i out=>out.length<=i) (out:=fun i out=>some (out++leafs (a.drop i) t))
   (fun m out _=>by simp [fG,EAr,mk,leafs])
   (fun m i out hi ho=>by
    have hw:=Fq (i:=i) (by omega);have hb:(out.length+1)*8<=140737488355328:=by omega
    simp only [fG,EAr,mk,BR,getD_at hi,hw,drop_at hi,EBx];cases a[i].Ag == t;·exact .inr ⟨out,by simp [hi],by omega,by simp⟩
    ·exact .inr ⟨out++[a[i].Dv],by simp [hi,hb],by simp;omega,by simp⟩) m i out h1 h2 h3
 have h0:=key AY 0 [] (DJ _) (FM (by omega)) (Nat.le_refl _);exact h0
def ZF (l:List Int):Nat->Nat->Bool
 | 0,_=>true
 | j+1,k=> !decide (l.getD (k - 1) 0>=l.getD k 0) && ZF l j (k+1)
def zZ (l:List D8) (t:Int):Bool:=ZF (leafs l t) ((leafs l t).length - 1) 1
def og (l:List D8):Nat->Nat->Bool
 | 0,_=>true
 | j+1,i=>zZ l (l.getD i ⟨0,0,0⟩).Ag && og l j (i+1)
theorem GBx {p:Nat->Bool}:∀ {j k:Nat},QA p j k=true↔∃ x,k<=x/\x<k+j/\p x=true:=by
 intro j;induction j with
 | zero=>intro k;exact ⟨fun h=>by simp [QA] at h,fun ⟨x,h1,h2,_⟩=>by omega⟩
 | succ j ih=>
  intro k;rw [QA,Bool.or_eq_true,ih];constructor
  ·rintro (h | ⟨x,h1,h2,h3⟩);·exact ⟨k,Nat.le_refl _,by omega,h⟩
   ·exact ⟨x,by omega,by omega,h3⟩
  ·rintro ⟨x,h1,h2,h3⟩;by_cases h:x=k;·subst h;exact .inl h3
   ·exact .inr ⟨x,by omega,by omega,h3⟩
theorem NBF {p:Nat->Nat->Bool}:∀ {j i:Nat},Ol p j i=true↔∀ y,i<=y->y<i+j->∀ x,x<y->p y x=false:=by
 intro j;induction j with
 | zero=>intro i;exact ⟨fun _ y h1 h2=>by omega,fun _=>rfl⟩
 | succ j ih=>
  intro i;rw [Ol,Bool.and_eq_true,ih];have ha:(!QA (p i) i 0)=true↔∀ x,x<i->p i x=false:=by
   rw [Bool.not_eq_true',<-Bool.not_eq_true,GBx];constructor
   ·intro h x hx;cases hp:p i x;·rfl
    ·exact (h ⟨x,DJ _,by omega,hp⟩).elim
   ·rintro h ⟨x,_,h2,h3⟩;rw [h x (by omega)] at h3;cases h3
  rw [ha];constructor
  ·rintro ⟨h1,h2⟩ y hy1 hy2;by_cases h:y=i;·subst h;exact h1
   ·exact h2 y (by omega) (by omega)
  ·intro h;exact ⟨h i (Nat.le_refl _) (by omega),fun y h1 h2=>h y (by omega) (by omega)⟩
theorem HBx {l:List D8}:∀ {j i:Nat},og l j i=true↔∀ y,i<=y->y<i+j->zZ l (l.getD y ⟨0,0,0⟩).Ag=true:=by
 intro j;induction j with
 | zero=>intro i;exact ⟨fun _ y h1 h2=>by omega,fun _=>rfl⟩
 | succ j ih=>
  intro i;rw [og,Bool.and_eq_true,ih];constructor
  ·rintro ⟨h1,h2⟩ y hy1 hy2;by_cases h:y=i;·subst h;exact h1
   ·exact h2 y (by omega) (by omega)
  ·intro h;exact ⟨h i (Nat.le_refl _) (by omega),fun y h1 h2=>h y (by omega) (by omega)⟩
theorem IBx {l:List Int}:∀ {j k:Nat},ZF l j k=true↔∀ x,k<=x->x<k+j->l.getD (x - 1) 0<l.getD x 0:=by
 intro j;induction j with
 | zero=>intro i;exact ⟨fun _ y h1 h2=>by omega,fun _=>rfl⟩
 | succ j ih=>
  intro k;rw [ZF,Bool.and_eq_true,ih,Bool.not_eq_true',decide_eq_false_iff_not];constructor
  ·rintro ⟨h1,h2⟩ y hy1 hy2;by_cases h:y=k;·subst h;omega
   ·exact h2 y (by omega) (by omega)
  ·intro h;have:=h k (Nat.le_refl _) (by omega);exact ⟨by omega,fun y h1 h2=>h y (by omega) (by omega)⟩
theorem JBx {l:List Int}:ZF l (l.length - 1) 1=true↔l.Pairwise (· < ·):=by
 rw [IBx,List.pairwise_iff_getElem];constructor
 ·intro h a b ha hb hab;induction b with
  | zero=>omega
  | succ b ih=>
   have h1:=h (b+1) (by omega) (by omega);rw [Nat.add_sub_cancel,getD_at (show b<l.length by omega),getD_at hb] at h1;by_cases he:a=b;·subst he;exact h1
   ·have:=ih (by omega) (by omega);omega
 ·intro h x h1 h2;have:=h (x - 1) x (by omega) (by omega) (by omega);rwa [getD_at (show x - 1<l.length by omega),getD_at (show x<l.length by omega)]
theorem VBU {l:List D8} {t:Int}:zZ l t=true↔∀ y x (hy:y<l.length) (hx:x<y),l[y].Ag=t->(l[x]'(by omega)).Ag=t->(l[x]'(by omega)).Dv<l[y].Dv:=by
 rw [zZ,JBx,leafs,List.pairwise_map,List.pairwise_filter,List.pairwise_iff_getElem];constructor;·intro h y x hy hx h1 h2;exact h x y (by omega) hy hx (by rw [beq_iff_eq];exact h2) (by rw [beq_iff_eq];exact h1)
 ·intro h x y hx hy hxy h1 h2;rw [beq_iff_eq] at h1 h2;exact h y x hy hxy h2 h1
theorem KBx (l:List D8):og l l.length 0=Ol (Axb l) l.length 0:=by
 rw [Bool.eq_iff_iff,HBx,NBF];constructor
 ·intro h y _ hy x hx;have hy':y<l.length:=by omega
  have h1:=VBU.1 (h y (DJ _) hy) y x hy' hx;rw [getD_at hy'] at h1;rw [Axb,getD_at hy',getD_at (show x<l.length by omega)];cases ht:l[y].Ag == (l[x]'(by omega)).Ag;·rfl
  ·rw [beq_iff_eq] at ht;have:=h1 rfl ht.symm;rw [Bool.true_and,decide_eq_false_iff_not];omega
 ·intro h i _ hi;rw [VBU];intro y x hy hx h1 h2;have h3:=h y (DJ _) (by omega) x hx;rw [Axb,getD_at hy,getD_at (show x<l.length by omega),h1,h2,beq_self_eq_true,Bool.true_and,decide_eq_false_iff_not] at h3;omega
theorem LBx (l:List D8) (t:Int):(leafs l t).length<=l.length:=by rw [leafs,List.length_map];exact List.length_filter_le _ _
theorem MBx {l:List D8} (hl:l.length*24<=140737488351232):zf l=some (Ol (Axb l) l.length 0):=by
 have inner:∀ (j k i F:Nat) (lf:List Int),lf.length - k=j->1<=k->k<=140737488351232->i<l.length->lf.length<=l.length->Vw (F+j+1) (.c1 l (k:Int) l (l.length:Int) (i:Int) lf)=bif ZF lf j k then Vw F (.c0 l l (l.length:Int) ((i+1:Nat):Int)) else some false:=by
  intro j;induction j with
  | zero=>
   intro k i F lf hk h1 h2 hi hf;have hw:=Fq (i:=i) (by omega);rw [Vw];simp only [oh,mk,hw];rw [TT (by simp;omega)];rfl
  | succ j ih=>
   intro k i F lf hk h1 h2 hi hf;obtain ⟨q,rfl⟩:∃ q,k=q+1:=⟨k - 1,by omega⟩
   have hw:AV (((q+1:Nat):Int)+1)=((q+1+1:Nat):Int):=by rw [A8 (by omega) (by omega)];rfl
   have hq:AV (((q+1:Nat):Int) - 1)=(q:Int):=by rw [A8 (by omega) (by omega)];omega
   rw [AwB F j,Vw];simp only [oh,mk,hw,hq,ih (q+1+1) i F lf (by omega) (by omega) (by omega) hi hf,BR,show decide (((q+1:Nat):Int)<(lf.length:Int))=true from Ba (by omega),show decide ((0:Int)<=(q:Int))=true from Ba (by omega),show decide ((q:Int)<(lf.length:Int))=true from Ba (by omega),show decide ((0:Int)<=((q+1:Nat):Int))=true from Ba (by omega),Bool.and_self,Ar,ZF,Nat.add_sub_cancel];cases decide (lf.getD q 0>=lf.getD (q+1) 0) <;> rfl
 have outer:∀ (j i m:Nat),i+j=l.length->Vw (m+j*(l.length+2)+1) (.c0 l l (l.length:Int) (i:Int))=some (og l j i):=by
  intro j;induction j with
  | zero=>
   intro i m hi;rw [Vw];simp only [oh,mk];rw [TT (by simp;omega)];rfl
  | succ j ih=>
   intro i m hi;have hlf:=LBx l (l.getD i ⟨0,0,0⟩).Ag;rw [show m+(j+1)*(l.length+2)+1=((m+(l.length+1 - ((leafs l (l.getD i ⟨0,0,0⟩).Ag).length - 1))+j*(l.length+2))+((leafs l (l.getD i ⟨0,0,0⟩).Ag).length - 1)+1)+1 by rw [Nat.succ_mul];omega,Vw];simp only [oh,mk,BR,FBx (show l.length*24<=140737488355328 by omega),AP];rw [IK (by simp;omega),IK (by simp;omega)];refine (inner _ 1 i _ _ rfl (Nat.le_refl _) (by omega) (by omega) hlf).trans ?_;rw [og,zZ];cases ZF (leafs l (l.getD i ⟨0,0,0⟩).Ag) ((leafs l (l.getD i ⟨0,0,0⟩).Ag).length - 1) 1;·rfl
   ·rw [Ar,show m+(l.length+1 - ((leafs l (l.getD i ⟨0,0,0⟩).Ag).length - 1))+j*(l.length+2)=(m+(l.length - ((leafs l (l.getD i ⟨0,0,0⟩).Ag).length - 1)))+j*(l.length+2)+1 by omega,ih (i+1) _ (by omega),Bool.true_and]
 obtain ⟨m,hm⟩:∃ m,AY=m+l.length*(l.length+2)+1:=⟨AY - (l.length*(l.length+2)+1),by have:=wL (YAu (n:=l.length) (by omega));omega⟩
 rw [zf,SBA,hm,<-KBx];exact outer l.length 0 m (Nat.zero_add _)
noncomputable def Wy (l:Bg):Bool:=(Aye DX l.CO).2 && (bif l.AX.CZ then AyK (Aye DX l.CO).1 l.AX.AU else (Awo l.AX.BO l.AX.Bc).2.2 && AyK (Aye DX l.CO).1 (Awo l.AX.BO l.AX.Bc).1)
theorem NBx {l:Bg} (hk:l.AX.BO.size<=900000000) (hd:l.AX.Bc.Ak.length<=140737488351232) (hf:∀ f ∈ l.AX.Bc.Ak,f.fText.size<=140737488351232) (hl:l.CO.length<=140737488351232) (hr:∀ r ∈ l.CO,r.DR<=9223372036854775807):zh l=some (Wy l):=by
 have hn:=BBD (b:=DX) (l:=l.CO) (DJ _);rw [zh,TBA,mk,oK,AP,EBP (DJ _) hl hr,AP,Wy];simp only [NBD (show (Aye DX l.CO).1.AZ.length<=140737488351232 by omega),QBD hk hd hf,AP];cases (Aye DX l.CO).2;·rfl
 cases l.AX.CZ;·cases (Awo l.AX.BO l.AX.Bc).2.2 <;> rfl
 ·rfl
def stay (x y:Af):Bool:=x.Aj == y.Aj && ((bs x.fValue == bs y.fValue) && ((!x.CY || y.CY) && ((!x.CX || y.CX) && !decide (y.fNext<x.fNext))))
def Wx (n:List Af) (x:Af):Bool:=match AwV n x.fId with | some y=>stay x y | none=>true
def TK (b:Bo):List Ah->Bool
 | []=>true
 | r::rs=>(OZ b r).2 && (b.AZ.all (Wx (OZ b r).1.AZ) && TK (OZ b r).1 rs)
theorem OBx (x y:Af):(y.Aj == x.Aj)=(x.Aj == y.Aj)/\(bs y.fValue == bs x.fValue)=(bs x.fValue == bs y.fValue):=by constructor <;> (rw [Bool.eq_iff_iff,beq_iff_eq,beq_iff_eq];exact ⟨Eq.symm,Eq.symm⟩)
theorem PBx (l:List Ah) (b n:Bo) (i:Nat) (hi:i<l.length) (hl:l.length<=140737488351232) (hb:b.AZ.length<=1000) (hn:n.AZ.length<=1000):∀ (j k m:Nat),k+j=b.AZ.length->
  Ay9 (m+j+1) (.c1 l (l.length:Int) (i:Int) (b.AZ.length:Int) (k:Int) b.Bv b.DU b.BM b.Dh b.fCount n.Bv n.DU n.BM n.Dh n.fCount b.AZ n.AZ)=bif (b.AZ.drop k).all (Wx n.AZ) then Ay9 m (.c0 l (l.length:Int) ((i+1:Nat):Int) n.Bv n.DU n.BM n.Dh n.fCount n.AZ) else some false:=by
 intro j;induction j with
 | zero=>
  intro k m h;obtain rfl:k=b.AZ.length:=by omega
  have e:=Fq (i:=i) (by omega);rw [Ay9];simp only [oq,mk,e];rw [TT (by simp),List.drop_length];rfl
 | succ j ih=>
  intro k m h;have hk:k<b.AZ.length:=by omega
  have e:=Fq (i:=k) (by omega);have h2:=ih (k+1) m (by omega);rw [show m+(j+1)+1=(m+j+1)+1 by omega,Ay9];simp only [oq,mk,e,BR,getD_at hk];rw [IK (by simp;omega),IK (by simp;omega),XE (b:=⟨n.Bv,n.DU,n.AZ,n.BM,n.Dh,n.fCount⟩) (by show n.AZ.length<=_;omega),AP,drop_at hk,List.all_cons,Wx,h2];cases ht:AwV n.AZ b.AZ[k].fId with
  | none=>rfl
  | some y=>
   obtain ⟨s1,s2⟩:=OBx b.AZ[k] y
   simp only [Ar,stay,AzS,bne,s1,s2];cases b.AZ[k].Aj == y.Aj <;> cases bs b.AZ[k].fValue == bs y.fValue <;> cases b.AZ[k].CY <;> cases y.CY <;> cases b.AZ[k].CX <;> cases y.CX <;> cases decide (y.fNext<b.AZ[k].fNext) <;> rfl
theorem QBx {l:List Ah} (hl:l.length<=140737488351232) (hr:∀ r ∈ l,r.DR<=9223372036854775807):zi l=some (TK DX l):=by
 have key:∀ (j i m:Nat) (b:Bo),i+j=l.length->b.AZ.length<=8->Ay9 (m+12*j+1) (.c0 l (l.length:Int) (i:Int) b.Bv b.DU b.BM b.Dh b.fCount b.AZ)=some (TK b (l.drop i)):=by
  intro j;induction j with
  | zero=>
   intro i m b h hb;obtain rfl:i=l.length:=by omega
   rw [Ay9];simp only [oq,mk];rw [TT (by simp),List.drop_length];rfl
  | succ j ih=>
   intro i m b h hb;have hi:i<l.length:=by omega
   rw [show m+12*(j+1)+1=(((m+10 - b.AZ.length)+12*j+1)+b.AZ.length+1)+1 by omega,Ay9];simp only [oq,mk,BR,getD_at hi];rw [IK (by simp;omega),IK (by simp;omega),FBD (b:=b) (by omega) (hr _ (List.getElem_mem hi)),AP,drop_at hi,TK];cases h2:(OZ b l[i]).2;·rfl
   ·have h3:=xB h2;rw [TT (by rfl)];have h4:=PBx l b (OZ b l[i]).1 i hi hl (by omega) (by omega) b.AZ.length 0 ((m+10 - b.AZ.length)+12*j+1) (by omega);rw [show ((0:Nat):Int)=0 from rfl,List.drop_zero] at h4;rw [h4,ih (i+1) _ (OZ b l[i]).1 (by omega) h3];cases b.AZ.all (Wx (OZ b l[i]).1.AZ) <;> rfl
 obtain ⟨m,hm⟩:∃ m,AY=m+12*l.length+1:=⟨AY - (12*l.length+1),by have:=FM (n:=12*l.length+1) (by omega);omega⟩
 rw [zi,UBA,mk,oK,AP,hm];exact key l.length 0 m DX (by omega) (DJ _)
def Yd (l:Bg):Nat->Nat->Bool
 | 0,_=>true
 | j+1,i=> !decide ((l.Cm.getD i ⟨0,0,0⟩).Dv>=Ayp l.CO (l.Cm.getD i ⟨0,0,0⟩).Ag l.CO.length 0 0) && Yd l j (i+1)
noncomputable def kC (l:Bg):Bool:=Ol (Pm l.Cm) l.Cm.length 0 && (Ol (Axb l.Cm) l.Cm.length 0 && (Wy l && (TK DX l.CO && Rt l.AX)))
noncomputable def ZAu (l:Bg):Bool:=Yd l l.Cm.length 0 && kC l
theorem RBx {l:Bg} (hk:l.AX.BO.size<=900000000) (hd:l.AX.Bc.Ak.length<=140737488351232) (hf:∀ f ∈ l.AX.Bc.Ak,f.fText.size<=140737488351232) (ht:l.AX.AU.AZ.length<=140737488351232) (hs:l.AX.BP.length<=140737488351232) (hv:l.AX.BD.length<=140737488351232) (hg:l.Cm.length*24<=140737488351232) (hl:l.CO.length<=140737488351232) (hr:∀ r ∈ l.CO,r.DR<=9223372036854775807):HAr l=some (ZAu l):=by
 have key:∀ (j i m:Nat),i+j=l.Cm.length->ou (m+j+1) (.c0 l.Cm (l.Cm.length:Int) (i:Int) l)=some (Yd l j i && kC l):=by
  intro j;induction j with
  | zero=>
   intro i m hi;rw [ou];simp only [GAr,mk,DBx (show l.Cm.length<=140737488351232 by omega),MBx hg,NBx hk hd hf hl hr,QBx hl hr,ZAs hd hf ht hs hv,AP];rw [TT (by simp;omega),kC];cases Ol (Pm l.Cm) l.Cm.length 0 <;> cases Ol (Axb l.Cm) l.Cm.length 0 <;> cases Wy l <;> cases TK DX l.CO <;> rfl
  | succ j ih=>
   intro i m hi;have hw:=Fq (i:=i) (by omega);have d1:decide ((i:Int)<(l.Cm.length:Int))=true:=Ba (by omega);have d0:decide ((0:Int)<=(i:Int))=true:=Ba (by omega);rw [AwB m j,ou];simp only [GAr,mk,d0,d1,Bool.and_self,Ar,BR,hw,ih (i+1) m (by omega),CBx hl,AP,Yd];cases decide ((l.Cm.getD i ⟨0,0,0⟩).Dv>=Ayp l.CO (l.Cm.getD i ⟨0,0,0⟩).Ag l.CO.length 0 0) <;> rfl
 obtain ⟨m,hm⟩:=gm (n:=l.Cm.length) (by omega)
 rw [HAr,VBA,mk,hm];exact key l.Cm.length 0 m (Nat.zero_add _)
theorem SBx {l:List Ah} {t:Int} (hl:l.length<=140737488351232):zk l t=some (Ayp l t l.length 0 0):=by
 have key:∀ (j i m:Nat) (n:Int),i+j=l.length->oz (m+j+1) (.c0 l t n (i:Int))=some (Ayp l t j i n):=by
  intro j;induction j with
  | zero=>
   intro i m n hi;rw [oz];simp only [IAr,mk];rw [TT (by simp;omega)];rfl
  | succ j ih=>
   intro i m n hi;have hw:=Fq (i:=i) (by omega);have d1:decide ((i:Int)<(l.length:Int))=true:=Ba (by omega);have d0:decide ((0:Int)<=(i:Int))=true:=Ba (by omega);rw [AwB m j,oz];simp only [IAr,mk,d0,d1,Bool.and_self,Ar,BR,hw,ih (i+1) m _ (by omega),Ayp];cases (l.getD i ⟨0,⟨#[]⟩,0,⟨0,0,false,false,false,false,⟨#[]⟩,0⟩⟩).Aj == 3 <;> cases (l.getD i ⟨0,⟨#[]⟩,0,⟨0,0,false,false,false,false,⟨#[]⟩,0⟩⟩).Ag.fId == t <;> rfl
 obtain ⟨m,hm⟩:=gm (n:=l.length) (by omega)
 rw [zk,WBA,hm];exact key l.length 0 m 0 (Nat.zero_add _)
theorem TBx {l:List D8} (hl:l.length<=140737488351232):zl l=some (Ol (Pm l) l.length 0):=by
 have inner:∀ (j k i F:Nat),k+j=i->i<l.length->Av4 (F+j+1) (.c1 l (i:Int) (k:Int))=bif QA (Pm l i) j k then some false else Av4 F (.c0 l ((i+1:Nat):Int)):=by
  intro j;induction j with
  | zero=>
   intro k i F hk hi;have hw:=Fq (i:=i) (by omega);rw [Av4];simp only [o7,mk,hw];rw [TT (by simp;omega)];rfl
  | succ j ih=>
   intro k i F hk hi;have hw:=Fq (i:=k) (by omega);rw [AwB F j,Av4];simp only [o7,mk,hw,ih (k+1) i F (by omega) hi,BR,show decide ((k:Int)<(i:Int))=true from Ba (by omega),show decide ((0:Int)<=(i:Int))=true from Ba (by omega),show decide ((i:Int)<(l.length:Int))=true from Ba (by omega),show decide ((0:Int)<=(k:Int))=true from Ba (by omega),show decide ((k:Int)<(l.length:Int))=true from Ba (by omega),Bool.and_self,Ar,QA,Pm];cases (l.getD i ⟨0,0,0⟩).Ag == (l.getD k ⟨0,0,0⟩).Ag <;> cases (l.getD i ⟨0,0,0⟩).Dv == (l.getD k ⟨0,0,0⟩).Dv <;> rfl
 have outer:∀ (j i m:Nat),i+j=l.length->Av4 (m+j*(l.length+2)+1) (.c0 l (i:Int))=some (Ol (Pm l) j i):=by
  intro j;induction j with
  | zero=>
   intro i m hi;rw [Av4];simp only [o7,mk];rw [TT (by simp;omega)];rfl
  | succ j ih=>
   intro i m hi;rw [show m+(j+1)*(l.length+2)+1=((m+(l.length - i)+j*(l.length+2)+1)+i+1)+1 by rw [Nat.succ_mul];omega,Av4];simp only [o7,mk];rw [IK (by simp;omega),show ((0:Int))=((0:Nat):Int) from rfl,inner i 0 i _ (by omega) (by omega),ih (i+1) _ (by omega),Ol];cases QA (Pm l i) i 0 <;> rfl
 obtain ⟨m,hm⟩:∃ m,AY=m+l.length*(l.length+2)+1:=⟨AY - (l.length*(l.length+2)+1),by have:=wL (YAu hl);omega⟩
 rw [zl,XBA,hm];exact outer l.length 0 m (Nat.zero_add _)
theorem UBx {l:List D8} (hl:l.length<=140737488351232):zn l=some (Ol (Axb l) l.length 0):=by
 have inner:∀ (j k i F:Nat),k+j=i->i<l.length->AxS (F+j+1) (.c1 l (i:Int) (k:Int))=bif QA (Axb l i) j k then some false else AxS F (.c0 l ((i+1:Nat):Int)):=by
  intro j;induction j with
  | zero=>
   intro k i F hk hi;have hw:=Fq (i:=i) (by omega);rw [AxS];simp only [o8,mk,hw];rw [TT (by simp;omega)];rfl
  | succ j ih=>
   intro k i F hk hi;have hw:=Fq (i:=k) (by omega);rw [AwB F j,AxS];simp only [o8,mk,hw,ih (k+1) i F (by omega) hi,BR,show decide ((k:Int)<(i:Int))=true from Ba (by omega),show decide ((0:Int)<=(i:Int))=true from Ba (by omega),show decide ((i:Int)<(l.length:Int))=true from Ba (by omega),show decide ((0:Int)<=(k:Int))=true from Ba (by omega),show decide ((k:Int)<(l.length:Int))=true from Ba (by omega),Bool.and_self,Ar,QA,Axb];cases (l.getD i ⟨0,0,0⟩).Ag == (l.getD k ⟨0,0,0⟩).Ag <;> cases decide ((l.getD i ⟨0,0,0⟩).Dv<=(l.getD k ⟨0,0,0⟩).Dv) <;> rfl
 have outer:∀ (j i m:Nat),i+j=l.length->AxS (m+j*(l.length+2)+1) (.c0 l (i:Int))=some (Ol (Axb l) j i):=by
  intro j;induction j with
  | zero=>
   intro i m hi;rw [AxS];simp only [o8,mk];rw [TT (by simp;omega)];rfl
  | succ j ih=>
   intro i m hi;rw [show m+(j+1)*(l.length+2)+1=((m+(l.length - i)+j*(l.length+2)+1)+i+1)+1 by rw [Nat.succ_mul];omega,AxS];simp only [o8,mk];rw [IK (by simp;omega),show ((0:Int))=((0:Nat):Int) from rfl,inner i 0 i _ (by omega) (by omega),ih (i+1) _ (by omega),Ol];cases QA (Axb l i) i 0 <;> rfl
 obtain ⟨m,hm⟩:∃ m,AY=m+l.length*(l.length+2)+1:=⟨AY - (l.length*(l.length+2)+1),by have:=wL (YAu hl);omega⟩
 rw [zn,YBA,hm];exact outer l.length 0 m (Nat.zero_add _)
theorem VBx {l:Bg} (hk:l.AX.BO.size<=900000000) (hd:l.AX.Bc.Ak.length<=140737488351232) (hf:∀ f ∈ l.AX.Bc.Ak,f.fText.size<=140737488351232) (hl:l.CO.length<=140737488351232):zo l=some (Wy l):=by
 have hn:=BBD (b:=DX) (l:=l.CO) (DJ _);rw [zo,ZBA,mk,bU,AP,QBU (DJ _) hl,AP,Wy];simp only [LBF (show (Aye DX l.CO).1.AZ.length<=140737488351232 by omega),MBF hk hd hf,AP];cases (Aye DX l.CO).2;·rfl
 cases l.AX.CZ;·cases (Awo l.AX.BO l.AX.Bc).2.2 <;> rfl
 ·rfl
end Go.Proofs.YtkbbicgglblfiaaGreatDoor.G
