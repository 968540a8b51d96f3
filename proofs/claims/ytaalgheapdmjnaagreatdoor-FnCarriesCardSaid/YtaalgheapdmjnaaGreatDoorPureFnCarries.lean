/- The plain law of FnCarries: whatever the arguments, it answers true. Conditions: what is read is in reach. Part 3 of 3. -/
import Derived.Test.YtaalgheapdmjnaaGreatDoorPureFnCarriesb
namespace Go.Proofs.YtaalgheapdmjnaaGreatDoor.G
open Go Go.Ev
set_option linter.unusedVariables false
set_option linter.unusedSimpArgs false
set_option linter.unusedSectionVars false
variable [PC]
theorem VBL {rho:AA} {i:Nat} (h:rho.size<=1000) (hi:i<256):ZV rho (i:Int) false=some [up (Hg rho 0 i),up (Hg rho 1 i)]:=by
 have u0:ZW rho 0 (i:Int)=some (up (Hg rho 0 i)):=UBL (i:=0) (j:=i) h (by decide) hi;have u1:ZW rho 1 (i:Int)=some (up (Hg rho 1 i)):=UBL (i:=1) (j:=i) h (by decide) hi;have w0:AU (0+1)=1:=by decide
 have w1:AU (1+1)=2:=by decide
 obtain ⟨m,hm⟩:∃ m,AX=m+3:=⟨AX - 3,rfl⟩
 simp_all [ZV,EA3,LAl,FA3,mk]
theorem WBL {a b:List Nat} (ha:Aru a) (hb:Aru b):sN (up a) (up b)=some (up (mulL a b)):=by
 have hal:=ha.1;have hbl:=hb.1
 have s:=FC (Hj:=gU) (st:=fun i o=>.c0 (up a) (up b) (i:Int) (up o)) (f:=fun i o=>(o.set (2*i) (N8 a b (2*i))).set (2*i+1) (N8 a b (2*i+1))) (P:=fun _ o=>o.length=256) (n:=128) 1 (fun m i o hi ho=>by
  refine ⟨?_,by simp_all⟩;have h7:=TAo i;have w1:AU ((i:Int)+1)=((i+1:Nat):Int):=wn (n:=i+1) (by omega);have e1:AU (2*(i:Int))=((2*i:Nat):Int):=wn (n:=2*i) (by omega);have e2:AU (((2*i:Nat):Int)+1)=((2*i+1:Nat):Int):=wn (n:=2*i+1) (by omega);have e3:AU (2*((t7 i:Nat):Int))=((2*t7 i:Nat):Int):=wn (n:=2*t7 i) (by omega);have e4:AU (((2*t7 i:Nat):Int)+1)=((2*t7 i+1:Nat):Int):=wn (n:=2*t7 i+1) (by omega);have g:=SAo (2*t7 i+1);have a0:=ha.get (2*i);have a1:=ha.get (2*i+1);have b0:=hb.get (2*i);have b1:=hb.get (2*i+1);have p00:=mul_lt a0 b0;have p11:=mul_lt a1 b1;have p01:=mul_lt a0 b1;have p10:=mul_lt a1 b0;have hm:a.getD (2*i+1) 0*b.getD (2*i+1) 0 % 3329<3329:=Nat.mod_lt _ (by decide);have pg:=mul_lt hm g;rw [gU];simp only [HA3,mk,w1,e1,e2,BU,Ars];rw [Atd (by grind),RBL (by omega),AO,e3,e4,SBL (by omega),AO,ZX a1 b1,Xc hm g,Xc a0 b0,Xc a0 b1,Xc a1 b0,ZY,AO,ZY,AO];have v1:(AU (((a.getD (2*i) 0*b.getD (2*i) 0:Nat):Int)+((a.getD (2*i+1) 0*b.getD (2*i+1) 0 % 3329*Xd (2*t7 i+1):Nat):Int))) % 3329=((N8 a b (2*i):Nat):Int):=by grind [SBJ,wn]
  have v2:(AU (((a.getD (2*i) 0*b.getD (2*i+1) 0:Nat):Int)+((a.getD (2*i+1) 0*b.getD (2*i) 0:Nat):Int))) % 3329=((N8 a b (2*i+1):Nat):Int):=by grind [TBJ,wn]
  rw [v1,v2,JF,JF,Atd (Auw (by omega)),Atd (Auw (by omega)),Atd (Auw (by omega)),Atd (Auw (by omega)),Atd (Auw (by omega)),Atd (Auw (by grind))])
 obtain ⟨m,hm⟩:∃ m,AX=m+1+128*1:=⟨AX - 129,by rfl⟩
 rw [sN,GA3,mk,gV ha,AO,DZ,Aw,gV hb,AO,DZ,Aw,hm,show (256:Int).toNat=256 from rfl,<-UO];refine (s 128 0 (m+1) (List.replicate 256 0) (by omega) List.length_replicate).1.trans ?_;rw [UBJ,show 2*128=256 from rfl,Nat.mul_zero,sQ (v:=N8 a b) List.length_replicate,gU];rfl
theorem HA8 {a b:List Nat} (ha:Aru a) (hb:Aru b):AtX (up a) (up b)=some (up (Za a b)):=by
 have hal:=ha.1;have hbl:=hb.1;have hn:OAl (up a) (up b) 184=some (up (Za a b)):=by
  have s:=FC (Hj:=gW) (st:=fun i o=>.c0 (up a) (up b) 184 ((256:Nat):Int) (i:Int) (up o)) (f:=fun i o=>o.set i ((a.getD i 0+b.getD i 0) % 3329)) (P:=fun _ o=>o.length=256) (n:=256) 1 (fun m i o hi ho=>by
   refine ⟨?_,by rw [List.length_set,ho]⟩;have w1:AU ((i:Int)+1)=((i+1:Nat):Int):=wn (n:=i+1) (by omega);have a0:=ha.get i;have b0:=hb.get i;have v:(AU (((a.getD i 0:Nat):Int)+((b.getD i 0:Nat):Int))) % 3329=(((a.getD i 0+b.getD i 0) % 3329:Nat):Int):=by rw [<-Int.natCast_add,wn (by omega)];rfl
   rw [gW];simp only [NAl,mk,w1,BU,Ars];rw [FT (by omega),Atd (Auw (by omega)),Atd (Auw (by omega)),Atd (by rfl),MAl,IA3,mk,AO,ZY,AO,v,JF,Atd (Auw (by omega))])
  obtain ⟨m,hm⟩:∃ m,AX=m+1+256*1:=⟨AX - 257,by have:=FP (n:=257) (by omega);omega⟩
  rw [OAl,KA3,mk,gV ha,AO,DZ,Aw,gV hb,AO,DZ,Aw,hm,show (256:Int).toNat=256 from rfl,List.length_replicate,<-UO];refine (s 256 0 (m+1) (List.replicate 256 0) (by omega) List.length_replicate).1.trans ?_;rw [sQ (v:=fun i=>(a.getD i 0+b.getD i 0) % 3329) List.length_replicate,gW];simp only [NAl,mk];rw [KF (by omega)];rfl
 rw [AtX,LA3,mk,hn];rfl
theorem BBm {a0 a1 b0 b1:List Nat} (ha0:Aru a0) (ha1:Aru a1) (hb0:Aru b0) (hb1:Aru b1):Xe [up a0,up a1] [up b0,up b1]=some (up (XAo a0 a1 b0 b1)):=by
 obtain ⟨m,hm⟩:∃ m,AX=m+1+1+1:=⟨AX - 3,rfl⟩
 rw [Xe,MA3,mk,hm,show (256:Int).toNat=256 from rfl,<-UO,gX];simp only [PAl,mk];rw [Atd (by rfl),Atd (by rfl),Atd (by rfl),show ([up a0,up a1]:List (List Int)).getD (0:Int).toNat []=up a0 from rfl,show ([up b0,up b1]:List (List Int)).getD (0:Int).toNat []=up b0 from rfl,WBL ha0 hb0,AO,HA8 XBJ (VAo _ _),AO,show AU (0+1)=1 by decide,gX];simp only [PAl,mk];rw [Atd (by rfl),Atd (by rfl),Atd (by rfl),show ([up a0,up a1]:List (List Int)).getD (1:Int).toNat []=up a1 from rfl,show ([up b0,up b1]:List (List Int)).getD (1:Int).toNat []=up b1 from rfl,WBL ha1 hb1,AO,HA8 (WAo _ _) (VAo _ _),AO,show AU (1+1)=2 by decide,gX];rfl
def JQ (l:List Nat) (t:Nat):Nat:=l.getD (t / 12) 0 / 2 ^ (t % 12) % 2
def Auk (l:List Nat) (p:Nat):Nat->Nat
 | 0=>0
 | c+1=>Auk l p c+JQ l (8*p+c)*2 ^ c
theorem IA8 (l:List Nat) (p:Nat):∀ c,Auk l p c<2 ^ c
 | 0=>Nat.two_pow_pos _
 | c+1=>by have h1:=IA8 l p c;have h2:JQ l (8*p+c)<2:=Nat.mod_lt _ (by decide);have h3:(JQ l (8*p+c)+1)*2 ^ c<=2*2 ^ c:=Nat.mul_le_mul_right _ h2;grind [Auk]
theorem CBm {l:List Nat} (h:Aru l) (p:Nat):Auk l p 8=Auq l p:=by
 have hx:=h.get (2*(p / 3));have hy:=h.get (2*(p / 3)+1);have e:Auk l p 8=JQ l (8*p)+JQ l (8*p+1)*2+JQ l (8*p+2)*4+JQ l (8*p+3)*8+JQ l (8*p+4)*16+JQ l (8*p+5)*32+JQ l (8*p+6)*64+JQ l (8*p+7)*128:=by simp [Auk]
 have hp:p=3*(p / 3)+p % 3:=by omega
 generalize hq:p / 3=q at hp hx hy;have h3:p % 3<3:=Nat.mod_lt _ (by decide);have b:∀ t i k,t=12*i+k->k<12->JQ l t=l.getD i 0 / 2 ^ k % 2:=fun t i k h1 h2=>by rw [JQ,show t / 12=i by omega,show t % 12=k by omega]
 rcases (show p % 3=0\/p % 3=1\/p % 3=2 by omega) with h0 | h0 | h0
 ·rw [h0] at hp;subst hp;rw [e,Nat.add_zero,ASl,b _ (2*q) 0 (by omega) (by omega),b _ (2*q) 1 (by omega) (by omega),b _ (2*q) 2 (by omega) (by omega),b _ (2*q) 3 (by omega) (by omega),b _ (2*q) 4 (by omega) (by omega),b _ (2*q) 5 (by omega) (by omega),b _ (2*q) 6 (by omega) (by omega),b _ (2*q) 7 (by omega) (by omega)];omega
 ·rw [h0] at hp;subst hp;rw [e,BBK,b _ (2*q) 8 (by omega) (by omega),b _ (2*q) 9 (by omega) (by omega),b _ (2*q) 10 (by omega) (by omega),b _ (2*q) 11 (by omega) (by omega),b _ (2*q+1) 0 (by omega) (by omega),b _ (2*q+1) 1 (by omega) (by omega),b _ (2*q+1) 2 (by omega) (by omega),b _ (2*q+1) 3 (by omega) (by omega)];omega
 ·rw [h0] at hp;subst hp;rw [e,CBK,b _ (2*q+1) 4 (by omega) (by omega),b _ (2*q+1) 5 (by omega) (by omega),b _ (2*q+1) 6 (by omega) (by omega),b _ (2*q+1) 7 (by omega) (by omega),b _ (2*q+1) 8 (by omega) (by omega),b _ (2*q+1) 9 (by omega) (by omega),b _ (2*q+1) 10 (by omega) (by omega),b _ (2*q+1) 11 (by omega) (by omega)];omega
theorem Aqe {a b:Nat} (ha:a<256) (hb:b<256):w8 (((BitVec.toNat ((BitVec.ofInt (IntKind.bits IntKind.u8) (a:Int)) ||| (BitVec.ofInt (IntKind.bits IntKind.u8) (b:Int)))):Nat):Int)=((a ||| b:Nat):Int):=by
 have h:a ||| b<256:=Nat.or_lt_two_pow (n:=8) ha hb
 grind [bv8,MX]
def JA8 (l:List Nat) (t:Nat) (o:List Nat):Prop:=o.length=384/\∀ p,p<384->o.getD p 0=Auk l p (min 8 (t - 8*p))
theorem DBm {l:List Nat} (h:Aru l):sS (up l) 12=some (Ls l):=by
 have hl:=h.1;have c2:∀ k:Nat,(2:Int) ^ k=((2 ^ k:Nat):Int):=fun k=>by rfl
 have fd:∀ (a k:Nat),Int.fdiv (a:Int) ((2 ^ k:Nat):Int)=((a / 2 ^ k:Nat):Int):=fun a k=>by grind
 have inner:∀ (i:Nat),i<256->∀ (m:Nat) (o:List Nat),JA8 l (12*i) o->_:=fun i hi m o ho=>FC (Hj:=Xf) (st:=fun k o=>.c1 12 (i:Int) ((l.getD i 0:Nat):Int) (up l) ((256:Nat):Int) (i:Int) 12 (k:Int) (up o)) (f:=fun k o=>o.set ((12*i+k) / 8) (o.getD ((12*i+k) / 8) 0 ||| JQ l (12*i+k)*2 ^ ((12*i+k) % 8))) (P:=fun k o=>JA8 l (12*i+k) o) (n:=12) 1 (fun m k o hk ho=>by
  obtain ⟨hol,hok⟩:=ho
  have hx:=h.get i;have hbit:JQ l (12*i+k)=l.getD i 0 / 2 ^ k % 2:=by grind [JQ]
  have hw1:AU ((i:Int)*12)=((12*i:Nat):Int):=by grind [wn]
  have hw2:AU (((12*i:Nat):Int)+(k:Int))=((12*i+k:Nat):Int):=wn (n:=12*i+k) (by omega);obtain ⟨t,ht⟩:∃ t,t=12*i+k:=⟨_,rfl⟩
  rw [<-ht] at hbit hw2 hok ⊢;have hd:t / 8<384:=by omega
  have hv:=hok (t / 8) hd;rw [show min 8 (t - 8*(t / 8))=t % 8 by omega] at hv;have hpl:=IA8 l (t / 8) (t % 8);have hor:Auk l (t / 8) (t % 8) ||| JQ l t*2 ^ (t % 8)=Auk l (t / 8) (t % 8+1):=by have:=Nat.shiftLeft_add_eq_or_of_lt hpl (JQ l t);grind [Nat.shiftLeft_eq,Auk]
  have hlt:=IA8 l (t / 8) (t % 8+1);have h8:2 ^ (t % 8+1)<=2 ^ 8:=Nat.pow_le_pow_right (by decide) (by omega);have h80:2 ^ (t % 8)<=2 ^ 8:=Nat.pow_le_pow_right (by decide) (by omega);have h256:(2:Nat) ^ 8=256:=rfl;have hbp:JQ l t*2 ^ (t % 8)<256:=by grind [Auk]
  have hb2:JQ l t<2:=Nat.mod_lt _ (by decide);refine ⟨?_,by simp_all,fun p hp=>?_⟩;·have w1:AU ((k:Int)+1)=((k+1:Nat):Int):=wn (n:=k+1) (by omega);have e1:AU ((t:Int).tdiv 8)=((t / 8:Nat):Int):=wn (n:=t / 8) (by omega);have e2:(t:Int).tmod 8=((t % 8:Nat):Int):=rfl;have e3:Min.min (t % 8) (IntKind.bits IntKind.u8)=t % 8:=Nat.min_eq_left (by show t % 8<=8;omega);have e4:Min.min k (IntKind.bits IntKind.i64)=k:=Nat.min_eq_left (by show k<=64;omega);have hdv:l.getD i 0 / 2 ^ k<=l.getD i 0:=Nat.div_le_self _ _;rw [Xf];simp only [QAl,mk,w1,hw1,hw2,e1,e2,BU,e3,e4,c2,fd,Ars];rw [and1 (n:=l.getD i 0 / 2 ^ k) (by omega),<-hbit,MX (n:=((JQ l t:Nat):Int)) (by omega) (by omega),<-Int.natCast_mul,MX (n:=((JQ l t*2 ^ (t % 8):Nat):Int)) (by omega) (by omega),hv,Aqe (by omega) hbp,JF,Atd (by grind),Atd (Auw (by omega)),Atd (by rfl),Atd (by rfl),Atd (Auw (by omega))]
  grind) 12 0 m o (by omega) ho
 have so:=FC (Hj:=Xf) (st:=fun i o=>.c0 12 (up l) ((256:Nat):Int) (i:Int) (up o)) (f:=fun i o=>ArR (fun k o=>o.set ((12*i+k) / 8) (o.getD ((12*i+k) / 8) 0 ||| JQ l (12*i+k)*2 ^ ((12*i+k) % 8))) 12 0 o) (P:=fun i o=>JA8 l (12*i) o) (n:=256) 14 (fun m i o hi ho=>by
  obtain ⟨i1,i2⟩:=inner i hi (m+1) o ho
  refine ⟨?_,i2⟩;have w1:AU ((i:Int)+1)=((i+1:Nat):Int):=wn (n:=i+1) (by omega);grind [Xf,QAl,BU,Ars,Auw])
 obtain ⟨m,hm⟩:∃ m,AX=m+1+256*14:=⟨AX - 3585,by rfl⟩
 have hz:(AU ((AU ((AU (((256:Nat):Int)*12))+7)).tdiv 8))=384:=by decide
 rw [sS,NA3,mk,Ua,hl,hz,hm,Atd (by decide),show (384:Int).toNat=384 from rfl,<-UO]
 obtain ⟨a1,a2,a3⟩:=so 256 0 (m+1) (List.replicate 384 0) (by omega) ⟨List.length_replicate,fun p hp=>by
  rw [show min 8 (12*0 - 8*p)=0 by omega,List.getD_eq_getElem?_getD,List.getElem?_replicate];split <;> rfl⟩
 refine a1.trans ?_;generalize ArR (fun i o=>ArR (fun k o=>o.set ((12*i+k) / 8) (o.getD ((12*i+k) / 8) 0 ||| JQ l (12*i+k)*2 ^ ((12*i+k) % 8))) 12 0 o) 256 0 (List.replicate 384 0)=o at a2 a3;have hfin:o=(List.range 384).map (Auq l):=NAo (by rw [a2,List.length_map,List.length_range]) fun p hp=>by grind [CBm]
 rw [hfin,Xf];rfl
theorem XBL {l:List Nat} (h:Aru l):Zb (up l)=some (Ls l):=by simp_all [Zb,OA3,mk,gV,DBm]
theorem YBL {seed:AA} (h:seed.size=32):sU seed=some (⟨Uw seed,Auv seed⟩,true):=by
 have z0:(⟨#[]⟩:AA).size=0:=rfl;have z1:(⟨#[114]⟩:AA).size=1:=rfl;have z2:(⟨#[115]⟩:AA).size=1:=rfl;have z3:(⟨#[122]⟩:AA).size=1:=rfl;have hd:=IQ seed;have hrs:(JU seed).size=32:=IQ _;have hss:(JV seed).size=32:=IQ _;have hps:=FBK seed;have hr:KZ (Auo seed++⟨#[114]⟩)=some (JU seed):=PW (by simp_all);have hs:KZ (Auo seed++⟨#[115]⟩)=some (JV seed):=PW (by simp_all);have hzz:KZ (Auo seed++⟨#[122]⟩)=some (Auo (Auo seed++⟨#[122]⟩)):=PW (by simp_all);have hpp:KZ (Uw seed)=some (Auo (Uw seed)):=PW (by omega);have m0:Zc (JV seed) 0=some [up (AtQ (JV seed) 0),up (AtQ (JV seed) 1)]:=QBL (f:=0) (by omega) (by decide);have m2:Zc (JV seed) 2=some [up (AtQ (JV seed) 2),up (AtQ (JV seed) 3)]:=QBL (f:=2) (by omega) (by decide);have n0:Zd [up (AtQ (JV seed) 0),up (AtQ (JV seed) 1)]=some [up (pS seed 0),up (pS seed 1)]:=TBL (gY _ _) (gY _ _);have n2:Zd [up (AtQ (JV seed) 2),up (AtQ (JV seed) 3)]=some [up (pS seed 2),up (pS seed 3)]:=TBL (gY _ _) (gY _ _);have r0:ZV (JU seed) 0 false=some [up (Hg (JU seed) 0 0),up (Hg (JU seed) 1 0)]:=VBL (i:=0) (by omega) (by decide);have r1:ZV (JU seed) 1 false=some [up (Hg (JU seed) 0 1),up (Hg (JU seed) 1 1)]:=VBL (i:=1) (by omega) (by decide);have b0:∀ i,Zb (up (pS seed i))=some (Ls (pS seed i)):=fun i=>XBL (Xg _ _)
 have d0:∀ i,Xe [up (Hg (JU seed) 0 i),up (Hg (JU seed) 1 i)] [up (pS seed 0),up (pS seed 1)]=some (up (Ze seed i)):=fun i=>BBm (YAo _ _ _) (YAo _ _ _) (Xg _ _) (Xg _ _)
 have a0:∀ i,AtX (up (Ze seed i)) (up (pS seed (2+i)))=some (up (pT seed i)):=fun i=>HA8 (WBJ _ _ _ _) (Xg _ _)
 have GD:AtX (up (Ze seed 0)) (up (pS seed 2))=some (up (pT seed 0)):=a0 0;have GF:AtX (up (Ze seed 1)) (up (pS seed 3))=some (up (pT seed 1)):=a0 1;have t0:∀ i,Zb (up (pT seed i))=some (Ls (pT seed i)):=fun i=>XBL (EBK _ _)
 have g0:∀ a b:List Int,([a,b]:List (List Int)).getD (0:Int).toNat []=a:=fun _ _=>rfl
 have g1:∀ a b:List Int,([a,b]:List (List Int)).getD (1:Int).toNat []=b:=fun _ _=>rfl
 have w0:AU (0+1)=1:=by decide
 have w1:AU (1+1)=2:=by decide
 obtain ⟨m,hm⟩:∃ m,AX=m+3:=⟨AX - 3,rfl⟩
 rw [sU,PA3,mk,PY (by simp_all),PW (by omega),AO,Atd (by rfl),hr,AO,Atd (by rfl),hs,AO,m0,AO,n0,AO,m2,AO,n2,AO,hm];rw [gZ];simp only [sV,mk];rw [Atd (by rfl),r0,AO,d0,AO,Atd (by rfl),g0,GD,AO,t0,AO,Atd (by rfl),Atd (by rfl),g0,b0,AO,Atd (by rfl),w0];rw [gZ];simp only [sV,mk];rw [Atd (by rfl),r1,AO,d0,AO,Atd (by rfl),g1,GF,AO,t0,AO,Atd (by simp_all [Rw]),Atd (by rfl),g1,b0,AO,Atd (by simp_all [Rw]),w1];rw [gZ];simp only [sV,mk];rw [PY (by rfl),Atd (by simp_all [Rw])];rw [show ((⟨#[]⟩:AA)++Ls (pT seed 0)++Ls (pT seed 1))++JU seed=Uw seed from rfl,Atd (by simp_all [Rw]),hpp,AO,Atd (by simp_all [IQ,Rw]),Atd (by rfl),hzz,AO,Atd (by simp_all [IQ,Rw])];rfl
theorem EBm {s t:AA} (h:t.size≠768):gq s t=some (⟨#[]⟩,false):=by rw [gq,AIp,mk,ZA3,YA3,mk,XA3,VA3,mk,show ((t.size:Int) != 768)=true from bne_iff_ne.2 (by omega)];simp
theorem FBm (x:Ah) (h f:Bool):RAl x h f=some (UR x h f):=by rw [RAl,BA4,mk,sW,AO,UR];cases AuI x <;> cases x.CY <;> cases x.CZ <;> cases h <;> cases f <;> rfl
theorem GBm {s:AA} (hs:s.size<=1000):SAl s=some (Aut (s++⟨#[116]⟩)):=by have z:(⟨#[116]⟩:AA).size=1:=rfl;rw [SAl,CA4,mk,Atd (by grind),OBI (by grind)];rfl
theorem HBm (x:Ah):TAl x=some (sZ x):=by rw [TAl,DA4,mk,sW,AO,sZ];grind [YBL,gu,GBm]
theorem IBm {tk:AA->AA×Bool} {b:Aj} {c:CJ} {x:Ah} (h:PB b) (hc:c.fText.size<=1000) (hx:AtT b.AV.Ag x.fId=some x) (htk:c.Au=12->∀ v:AA,v.size=32->gq (Auv v) c.fText=some (tk (Auv v))):UAl b c x=some (Zf tk b c x):=by
 have hk:(AuA b).size<=900000000:=by simp [AuA,IQ]
 rw [UAl,EA4,mk,Zf];simp only [Atc (n:=8) (by decide),Atc (n:=6) (by decide),BBj,JAn,JBL h.key,MBl hk,FBm,HBm,AO];cases c.Au == 6
 ·cases c.Au == 5
  ·cases c.Au == 10
   ·cases h12:c.Au == 12
    ·cases c.Au == 8
     ·cases c.Au == 7;·cases c.Au == 9 <;> rfl
      ·rfl
     ·rw [A8,A8];cases (UR x c.CY c.CZ).2 <;> rfl
    grind [JBK,gu,YBL]
   grind
  grind [LBl]
 grind
theorem JBm {tk:AA->AA×Bool} {b:Aj} {c:CJ} (h:PB b) (hd:Dec b) (hok:Ase b=some true) (hu:b.Bj=true) (hc:AuR c=true) (hn:b.AV.fCount<10000) (htk:c.Au=12->∀ v:AA,v.size=32->gq (Auv v) c.fText=some (tk (Auv v))):Xh b c=some (F9 tk b c):=by
 have hs:=h.LM;have ht:=h.things;have ho:=h.opn;have hz:=IBI hc;have h5:=(Asq.1 h.Ol).2.2.1.1;rw [Xh,VAl,mk,F9,hok,AO,hu,EBi,hc,su (by omega)];simp only [Atc (n:=9) (by decide),Atc (n:=1) (by decide),Atc (n:=2) (by decide),Atc (n:=5) (by decide),Atc (n:=6) (by decide),Atc (n:=7) (by decide),AO,DZ,Aw];rw [PY (by simp_all),Ar (n:=b.CU+1) (by omega) (by omega),hd.opn];cases c.Au == 1
 ·rw [Aw,Aw];by_cases ha:IU b c.Dz<0;·simp_all
  ·rw [D5 ha,Aw,Aw];have hlt:IU b c.Dz<(b.BI.length:Int):=by
    rw [IU] at ha ⊢;cases hp:AsY b.BI c.Dz 0 with
    | none=>simp_all
    | some j=>have:=(XAn hp).2;simp_all
   cases c.Au == 13
   ·rw [Aw,Aw];cases c.Au == 2
    ·rw [Aw,Aw,Atd (by simp_all)];cases (b.BI.getD (IU b c.Dz).toNat ⟨0,false⟩).RS;·rfl
     ·rw [DZ,Aw,Aw];cases c.Au == 3;·grind [Xi,AtT,IBm,KBl,GBl]
      ·rw [A8,A8,PW (by omega)];cases decide ((c.fText.size:Int) > 20) <;> rfl
    grind [FBi]
   ·rfl
 grind
def AuD:AA->AA×Bool:=fun _=>(⟨#[]⟩,false)
theorem KBm:((List.range 100).all fun m=>decide (Xj (m:Int)=some (UW (m:Int))))=true:=by kernel_rfl
theorem ZBL {n:Int} (h:0<=n/\n<100):Xj n=some (UW n):=by
 obtain ⟨m,rfl⟩:∃ m:Nat,n=(m:Int):=⟨n.toNat,by omega⟩
 exact of_decide_eq_true (List.all_eq_true.1 KBm m (List.mem_range.2 (by omega)))
theorem LBm {l:List Aq}:∀ {b:Bf},(EW b l).2=true->(EW b l).1.BR<=b.BR+(l.length:Int):=by induction l<;>grind [EW,OBH]
theorem Good.MBm {k:AA} {l:List Aq} {b:Aj} (g:Good k l b):b.AV.BR<=(l.length:Int):=by have h:=LBm (l:=l) (b:=Ato) (by rw [g.book]);rw [g.book,show Ato.BR=0 from rfl,Int.zero_add] at h;exact h
def Rf (e:EN):Prop:=tC e=true/\(e.CP.Au=12->e.CP.fText.size≠768)
theorem Rf.call {e:EN} (h:Rf e) (hr:e.MV=false):AuR e.CP=true:=by have h1:=h.1;simp_all [tC]
structure AtF (k:AA) (l:List Aq) (L:Cm):Prop where
 box:Good k l L.Ad\/Down k l L.Ad
 done:L.Ez=l
 few:l.length<=L.Du.length+1/\L.GR.length=L.Du.length/\L.Ey.length<=L.Du.length
 opn:L.Ad.CU<=(L.Du.length:Int)
theorem AtF.down {k:AA} {l:List Aq} {L:Cm} (h:Down k l L.Ad):L.Ad.Bj=false/\L.Ad.BJ=[]/\L.Ad.BI=[]/\L.Ad.AV=Ato/\L.Ad.CU=0/\L.Ad.BN=k/\Small L.Ad.Bd/\Ark L.Ad=true:=by
 obtain ⟨X,hX,CC,_⟩:=h.box
 rw [hX];exact ⟨rfl,rfl,rfl,rfl,rfl,rfl,HBH (by omega),SA6 (b:=⟨k,false,dk X X.size,Ato,[],[],0⟩) h.JC (AsX (by omega) (by omega))⟩
theorem Good.dec {k:AA} {l:List Aq} {b:Aj} (g:Good k l b) (hl:l.length<60) (ho:b.CU<60):Dec b:=⟨ZBL (by have:=g.MBm;have:=g.pb.last;omega),ZBL (by have:=g.opn;omega)⟩
theorem Good.plan {k:AA} {l:List Aq} {b:Aj} {c:CJ} (g:Good k l b) (hl:l.length<60) (ho:b.CU<60) (hc:AuR c=true) (h12:c.Au=12->c.fText.size≠768):Xh b c=some (F9 AuD b c):=
 JBm g.pb (g.dec hl ho) g.pOk g.up hc (by have:=g.cnt;omega) fun h v _=>EBm (h12 h)
theorem Good.carry {k:AA} {l:List Aq} {b:Aj} {c:CJ} {code leaf:Int} (g:Good k l b) (hl:leaf<=1000):LP b c code leaf=some (Rh b c code leaf):=DBL g.gy g.FAp.2 g.lives.2 hl
theorem AS4 {b:Aj} (hb:IW b.AV=true) (hl:Vg b=true) (t:Int):Qm b t<=16:=by
 rw [Qm];cases hx:AtT b.AV.Ag t with
 | none=>simp
 | some x=>
  obtain ⟨e1,e2⟩:=Vh hx
  have h1:=Tq (Vj (Asq.1 hb).2.2.2.2.2.2 x e2).2.2;have h2:=BA8 hl (by rw [e1];exact hx) (by omega);grind
def KA8 (L:Cm) (e:EN) (code:Int):List KE:=bif e.CP.Au == 5 && code == 0 then L.Ey++[⟨e.CP.BK,Qm L.Ad e.CP.BK,(L.Du.length:Int)⟩] else L.Ey
inductive Step (k:AA) (e:EN) (l:List Aq) (L:Cm):List Aq->Cm->Prop
 | call (g:Good k l L.Ad) (hr:e.MV=false) (hc:e.RN=false\/(F9 AuD L.Ad e.CP).1=[]):Step k e l L (l++(F9 AuD L.Ad e.CP).1) ⟨Ri L.Ad e.CP (F9 AuD L.Ad e.CP),L.Du++[(F9 AuD L.Ad e.CP).2.1],L.GR++[(F9 AuD L.Ad e.CP).2.2],KA8 L e (F9 AuD L.Ad e.CP).2.1,L.Ez++(F9 AuD L.Ad e.CP).1⟩
 | cut (g:Good k l L.Ad) (hr:e.MV=false) (r:Aq) (hp:(F9 AuD L.Ad e.CP).1=[r]) (b':Aj) (l':List Aq) (d:Down k l' b') (hl:l'=l\/l'=l++[r]):Step k e l L l' ⟨b',L.Du++[10],L.GR++[⟨#[]⟩],L.Ey,bif decide (l'.length > l.length) then L.Ez++[r] else L.Ez⟩
 | down (d:Down k l L.Ad) (hr:e.MV=false):Step k e l L l ⟨L.Ad,L.Du++[9],L.GR++[iC 9],L.Ey,L.Ez⟩
 | up (d:Down k l L.Ad) (hr:e.MV=true) (b':Aj) (g:Good k l b') (h1:b'.BI=[]) (h2:b'.BJ=[]) (h3:b'.CU=0):Step k e l L l ⟨b',L.Du++[0],L.GR++[⟨#[]⟩],L.Ey,L.Ez⟩
 | stay (g:Good k l L.Ad) (hr:e.MV=true):Step k e l L l ⟨L.Ad,L.Du++[1],L.GR++[⟨#[]⟩],L.Ey,L.Ez⟩
theorem NBm {k:AA} {l:List Aq} {L:Cm} (h:Down k l L.Ad) (c:CJ):Xh L.Ad c=some ([],9,iC 9):=by
 obtain ⟨h1,h2,h3,h4,h5,h6,h7,h8⟩:=AtF.down h
 rw [Xh,VAl,mk,iE (by have:=h7.1;omega) (fun f hf=>by have:=h7.2 f hf;omega) (by rw [h4];exact DF _) (by simp_all) (by simp_all),h8,AO,h1,Atc (n:=9) (by decide)];rfl
theorem OBm (b:Aj) (c:CJ) (code leaf:Int):(Rh b c code leaf).CU<=b.CU+1:=by
 rw [Rh,Zg];cases code != 0
 ·cases c.Au == 1
  ·cases c.Au == 13
   ·cases c.Au == 2
    ·cases c.Au == 5;·cases c.Au == 9 <;> (show b.CU<=_;omega)
     ·cases AtT b.AV.Ag c.BK with
      | none=>grind
      | some x=>
       dsimp only;cases x.Aa == 2 && (decide (leaf>=0) && decide (leaf<x.fNext)) <;> (show b.CU<=_;omega)
    ·show b.CU<=_;omega
   ·show b.CU<=_;omega
  simp
 grind
theorem PBm (b:Aj) (c:CJ) (p:PT):(Ri b c p).CU<=b.CU+1:=by rw [Ri];cases p.1 <;> exact OBm _ _ _ _
theorem QBm {tk:AA->AA×Bool} {k:AA} {l:List Aq} {b:Aj} {c:CJ} (g:Good k l b):(F9 tk b c).1.length<=1:=by
 rcases GAp (tk:=tk) (c:=c) g with h | ⟨r,h,_⟩ <;> rw [h]
 all_goals simp
theorem LA8 {k:AA} {l l':List Aq} {L L':Cm} {e:EN} (h:AtF k l L) (hn:L.Du.length<45) (s:Step k e l L l' L'):AtF k l' L'/\L'.Du.length=L.Du.length+1:=by
 obtain ⟨f1,f2,f3⟩:=h.few
 have ho:=h.opn;have app:∀ {α:Type} (xs:List α) (x:α),(xs++[x]).length=xs.length+1:=fun xs x=>by simp
 have HD:∀ c,(KA8 L e c).length<=L.Ey.length+1:=fun c=>by grind [KA8]
 cases s with
 | call g hr hc=>
  have h1:=QBm (tk:=AuD) (c:=e.CP) g;refine ⟨⟨.inl (HBL g (by omega)),by rw [h.done],⟨?_,?_,?_⟩,?_⟩,app _ _⟩;·grind
  ·simp_all
  ·grind
  ·dsimp only;rw [app];have:=PBm L.Ad e.CP (F9 AuD L.Ad e.CP);omega
 | cut g hr r hp b' l2 d hl=>
  obtain ⟨X,hX,_⟩:=d.box
  refine ⟨⟨.inr d,?_,⟨?_,?_,?_⟩,?_⟩,app _ _⟩
  ·rcases hl with rfl | rfl
   ·dsimp only;rw [D5 (by omega),h.done];rfl
   ·dsimp only;rw [Bg (by simp),h.done];rfl
  all_goals grind
 | down d hr=>
  refine ⟨⟨.inr d,h.done,⟨?_,?_,?_⟩,?_⟩,app _ _⟩ <;> dsimp only <;> rw [app] <;> try rw [app]
  all_goals omega
 | up d hr b' g h1 h2 h3=>
  refine ⟨⟨.inl g,h.done,⟨?_,?_,?_⟩,?_⟩,app _ _⟩ <;> dsimp only <;> rw [app] <;> try rw [app]
  all_goals omega
 | stay g hr=>
  refine ⟨⟨.inl g,h.done,⟨?_,?_,?_⟩,?_⟩,app _ _⟩ <;> dsimp only <;> rw [app] <;> try rw [app]
  all_goals omega
structure DB (b:Aj):Prop where
 k:b.BN.size=32
 s:∀ x ∈ b.BI,0<=x.fId/\x.fId<=1000
 sl:b.BI.length<=1000
 t:∀ x ∈ b.AV.Ag,0<=x.fId/\x.fId<=1000
 tl:b.AV.Ag.length<=1000
structure CI (c:CJ):Prop where
 o:1<=c.Au/\c.Au<=13
 s:0<=c.Dz/\c.Dz<=1000
 t:0<=c.BK/\c.BK<=1000
 k:0<=c.Aa/\c.Aa<=3
 x:c.Au=12->c.fText.size≠768
theorem AtF.db {k:AA} {l:List Aq} {L:Cm} (h:AtF k l L):DB L.Ad:=by
 rcases h.box with g | d
 ·have b:=Asq.1 g.Ol;exact ⟨by rw [g.key,g.JC],fun x hx=>by have:=g.FAp.1 x hx;have:=g.opn;omega,by have:=g.LM.1;omega,fun x hx=>by have:=Vj b.2.2.2.2.2.2 x hx;omega,by omega⟩
 ·obtain ⟨h1,h2,h3,h4,h5,h6,h7,h8⟩:=AtF.down d
  exact ⟨by rw [h6,d.JC],fun x hx=>(by simp_all),by simp_all,fun x hx=>(by rw [h4] at hx;cases hx),by rw [h4];exact DF _⟩
def CR (r:CJ×C9):Prop:=CI r.1/\Hl r.2
theorem BBM {m:Nat} {i h:Int} {y v:CJ} (hi:0<=i) (hv:CI v):Ok (PZ (m+1) (.c4 i h y v)) CR:=by rw [PZ];simp only [Xk,mk];exact Ok.bind (Atw (c:=⟨(),i,h⟩) hi) fun a ha=>Ok.cond (fun _=>Ok.bind (As3 ha) fun b hb=>Ok.ret ⟨⟨hv.o,hv.s,by grind,hv.k,hv.x⟩,hb.2⟩) fun _=>Ok.ret ⟨hv,ha⟩
theorem Xl {m:Nat} {i h:Int} {y v:CJ} (hi:0<=i) (hv:CI v):Ok (PZ (m+2) (.c3 i h y v)) CR:=by rw [PZ];simp only [Xk,mk];exact Ok.bind (Atw (c:=⟨(),i,h⟩) hi) fun a ha=>Ok.cond (fun _=>Ok.bind (As3 ha) fun b hb=>BBM hb.2 ⟨hv.o,by grind,hv.t,hv.k,hv.x⟩) fun _=>BBM ha hv
theorem RBm {x:Int} (h:x ∈ [(1:Int),2,2,2,3,3]):0<=x/\x<=3:=by grind
theorem MA8 {m:Nat} {i h:Int} {b:Aj} {A:AA} {y v:CJ} (hb:DB b) (hi:0<=i) (hv:CI v):Ok (PZ (m+3) (.c2 A i h b y v)) CR:=by
 have set:∀ {n:Int} {kd:Int} {t:AA} {p q:Bool},(v.Au == n)=true->n≠12->0<=kd/\kd<=3->CI ⟨v.Au,v.Dz,v.BK,kd,t,p,q⟩:=fun hn h12 hk=>⟨hv.o,hv.s,hv.t,hk,fun e=>absurd ((beq_iff_eq.1 hn).symm.trans e) h12⟩
 rw [PZ];simp only [Xk,mk];refine Ok.cond (fun h2=>Ok.bind (Atw (c:=⟨(),i,h⟩) hi) fun a ha=>Ok.cond (fun _=>Xl ha (set h2 (by decide) hv.k)) fun _=>Xl ha (set h2 (by decide) hv.k)) fun _=>?_
 refine Ok.cond (fun h3=>Xl hi (set h3 (by decide) hv.k)) fun _=>?_
 refine Ok.cond (fun h4=>Ok.bind (FBG (c:=⟨(),i,h⟩) hi (by decide)) fun a ha=>Ok.bind (WAm ha.2 (by decide)) fun d hd=>Ok.bind (Atw hd.2) fun e he=>Ok.bind (Atw he) fun f hf=>Xl hf (set h4 (by decide) (RBm ha.1))) fun _=>?_
 refine Ok.cond (fun h5=>Ok.bind (WAm (c:=⟨(),i,h⟩) hi (by decide)) fun a ha=>Xl ha.2 (set h5 (by decide) hv.k)) fun _=>?_
 refine Ok.cond (fun h8=>Ok.bind (Atw (c:=⟨(),i,h⟩) hi) fun a ha=>Ok.bind (Atw ha) fun d hd=>Xl hd (set h8 (by decide) hv.k)) fun _=>?_
 refine Ok.cond (fun h11=>Ok.bind (VBe (c:=⟨(),i,h⟩) hi) fun a ha=>Ok.bind (Ok.eq (tH _)) fun d hd=>Ok.bind (Ok.eq (DA8 hb.k)) fun e he=>Ok.bind (Ok.eq (EA8 (by simp_all [AuA,IQ]))) fun f hf=>Xl ha.2 (set h11 (by decide) hv.k)) fun _=>Xl hi hv
theorem SBm {b:Aj} {A:AA} {y:CJ} (hb:DB b):∀ (j i m:Nat) (ci h:Int) (v:CJ),i+j=b.AV.Ag.length->0<=ci->CI v->Ok (PZ (m+3+j+1) (.c1 A (i:Int) ci h b y v)) CR:=by
 have htl:=hb.tl;intro j;induction j with
 | zero=>
  grind [PZ,Xk,MA8]
 | succ j ih=>
  intro i m ci h v hi hc hv;have hlt:i<b.AV.Ag.length:=by omega
  have hw:=Jh (i:=i) (by omega);rw [ArJ,PZ];simp only [Xk,mk,hw,BU,getD_at hlt];rw [FT (by omega),Ht (by omega)];exact Ok.cond (fun _=>Ok.bind (Atw (c:=⟨(),ci,h⟩) hc) fun a ha=>Ok.cond (fun _=>Ok.chk (by simp_all) (ih (i+1) m _ _ _ (by omega) ha ⟨hv.o,hv.s,hb.t _ (List.getElem_mem hlt),hv.k,hv.x⟩)) fun _=>ih (i+1) m _ _ _ (by omega) ha hv) fun _=>ih (i+1) m _ _ _ (by omega) hc hv
theorem HAp {m:Nat} {i h:Int} {b:Aj} {A:AA} {y v:CJ} (hb:DB b) (hi:0<=i) (hv:CI v):Ok (PZ (m+3+b.AV.Ag.length+1+1) (.c0 A i h b y v)) CR:=by
 have e:m+3+b.AV.Ag.length+1=(m+b.AV.Ag.length+1)+3:=by omega
 rw [PZ];simp only [Xk,mk];refine Ok.cond (fun ht=>Ok.bind (As3 (c:=⟨(),i,h⟩) hi) fun a ha=>?_) fun _=>(by simp_all [MA8])
 rw [decide_eq_true_eq] at ht;have h1:=ha.1.1;have h2:=ha.1.2.1 (by omega);have hv2:∀ d,CI ⟨v.Au,v.Dz,(b.AV.Ag.getD a.1.toNat d).fId,v.Aa,v.fText,v.CY,v.CZ⟩:=fun d=>⟨hv.o,hv.s,by dsimp only;rw [getD_at (by omega)];exact hb.t _ (List.getElem_mem _),hv.k,hv.x⟩
 exact Ok.chk (by simp_all) (Ok.cond (fun _=>SBm hb b.AV.Ag.length 0 m _ _ _ (Nat.zero_add _) ha.2 (hv2 _)) fun _=>(by rw [e];exact MA8 hb ha.2 (hv2 _)))
theorem CBM {x:Int} (h:x ∈ [(1:Int),2,2,3,4,4,4,5,5,5,6,7,8,9,10,11,12,13]):1<=x/\x<=13:=by simp only [List.mem_cons,List.not_mem_nil,or_false] at h;omega
theorem DBM {c:C9} {b:Aj} {A:AA} (hc:Hl c) (hb:DB b):Ok (tJ c b A) CR:=by
 have hsl:=hb.sl;have htl:=hb.tl;obtain ⟨m,hm⟩:=gm (n:=3+b.AV.Ag.length+1) (by omega)
 have hm2:AX=m+3+b.AV.Ag.length+1+1:=by omega
 rw [tJ,KAt,mk,hm2];have e0:(⟨#[]⟩:AA).size≠768:=by decide
 refine Ok.bind (FBG hc (by decide)) fun a ha=>Ok.cond (fun _=>HAp hb ha.2 ⟨by simp,by simp,by simp,by simp,fun _=>e0⟩) fun hs=>?_
 have hs1:b.BI.length≠0:=fun q=>by simp_all
 have hgs:∀ (n:Nat) d,n<b.BI.length->0<=(b.BI.getD n d).fId/\(b.BI.getD n d).fId<=1000:=fun n d hn=>by rw [getD_at hn];exact hb.s _ (List.getElem_mem hn)
 refine Ok.bind (As3 ha.2) fun d hd=>?_
 have h1:=hd.1.1;have h2:=hd.1.2.1 (by omega);have z:(decide ((0:Int)<=0) && decide ((0:Int)<(b.BI.length:Int)))=true:=by grind
 have some1:∀ {o:Int} {n:Nat} {q},(1<=o/\o<=13)->n<b.BI.length->CI ⟨o,(b.BI.getD n q).fId,0,0,⟨#[]⟩,false,false⟩:=fun ho hn=>⟨ho,hgs _ _ hn,by simp,by simp,fun _=>e0⟩
 exact Ok.chk (by simp_all) (Ok.chk z (Ok.cond (fun _=>Ok.bind (Atw hd.2) fun e he=>Ok.cond (fun _=>Ok.chk z (HAp hb he (some1 (by omega) (by omega)))) fun _=>HAp hb he (some1 (CBM ha.1) (by omega))) fun _=>HAp hb hd.2 (some1 (CBM ha.1) (by omega))))
def tK:EN:=⟨⟨0,0,0,0,⟨#[]⟩,false,false⟩,false,[],true⟩
def EvD (e:EN):Prop:=e=tK\/(CI e.CP/\e.QK.length<=2)
theorem OA8 {c:CJ} (h:CI c) (hz:c.fText.size<=1000):AuR c=true:=by rw [AuR,DU.2 h.o,DU.2 h.s,DU.2 h.t,DU.2 h.k,Bg (by omega)];rfl
theorem EBM {e:EN} (h:EvD e) (hz:e.CP.fText.size<=1000):Rf e:=by
 rcases h with rfl | ⟨h1,h2⟩
 ·have hn:CAp tK.CP=true:=by rw [CAp,show ((ByteArray.toList tK.CP.fText) == ByteArray.toList (⟨#[]⟩:AA))=true from QJ _];rfl
  exact ⟨by assumption,fun q=>by cases q⟩
 ·exact ⟨by grind [tC,OA8],h1.x⟩
theorem TBm {e:EN} (h:EvD e) (hz:¬ e.CP.fText.size<=1000):Rf ⟨⟨e.CP.Au,e.CP.Dz,e.CP.BK,e.CP.Aa,⟨#[108,111,110,103]⟩,e.CP.CY,e.CP.CZ⟩,e.RN,e.QK,e.MV⟩:=by
 rcases h with rfl | ⟨h1,h2⟩
 ·exact absurd (DF _) hz
 ·have h4:(⟨#[108,111,110,103]⟩:AA).size=4:=rfl;exact EBM (.inr ⟨⟨h1.o,h1.s,h1.t,h1.k,fun _=>by simp_all⟩,h2⟩) (by simp_all)
def AHv (l:Cm) (r:EN×C9×Cm):Prop:=EvD r.1/\Hl r.2.1/\r.2.2=l
theorem IAp {c:C9} {x:CJ} {l:Cm} (hc:Hl c) (hx:CI x):Ok ((Auy ⟨(),c.fI,c.fH⟩ 12).bind fun Bx=>bif Bx.1 then (Au3 ⟨(),Bx.2.fI,Bx.2.fH⟩ 2000).bind fun Bp=>(Au3 ⟨(),Bp.2.fI,Bp.2.fH⟩ 50).bind fun r16=>(Auy ⟨(),r16.2.fI,r16.2.fH⟩ 30).bind fun CD=>bif CD.1 then some (tK,(⟨(),CD.2.fI,CD.2.fH⟩,l)) else some (⟨x,true,[Bp.1,r16.1],false⟩,(⟨(),CD.2.fI,CD.2.fH⟩,l)) else (Auy ⟨(),Bx.2.fI,Bx.2.fH⟩ 30).bind fun CE=>bif CE.1 then some (tK,(⟨(),CE.2.fI,CE.2.fH⟩,l)) else some (⟨x,false,[],false⟩,(⟨(),CE.2.fI,CE.2.fH⟩,l))) (AHv l):=
 Ok.bind (Atw hc) fun a ha=>Ok.cond (fun _=>Ok.bind (As3 ha) fun b hb=>Ok.bind (As3 hb.2) fun d hd=>Ok.bind (Atw hd.2) fun f hf=>Ok.cond (fun _=>Ok.ret ⟨.inl rfl,hf,rfl⟩) fun _=>Ok.ret ⟨.inr ⟨hx,Nat.le_refl _⟩,hf,rfl⟩) fun _=>Ok.bind (Atw ha) fun f hf=>Ok.cond (fun _=>Ok.ret ⟨.inl rfl,hf,rfl⟩) fun _=>Ok.ret ⟨.inr ⟨hx,DF _⟩,hf,rfl⟩
theorem UBm {c:C9} {l:Cm} (hc:Hl c) (hb:DB l.Ad):Ok (tN c l) (AHv l):=by
 rw [tN,LAt,mk];refine Ok.cond (fun _=>Ok.bind (Atw hc) fun a ha=>Ok.cond (fun _=>Ok.ret ⟨.inl rfl,ha,rfl⟩) fun _=>?_) fun _=>?_
 all_goals
  refine Ok.bind (DBM (by omega) hb) fun x hx=>Ok.cond (fun hr=>Ok.cond (fun h11=>Ok.bind (Atw hx.2) fun d hd=>Ok.cond (fun _=>Ok.bind (As3 hd) fun f hf=>?_) fun _=>IAp hd hx.1) fun _=>IAp hx.2 hx.1) fun _=>IAp hx.2 hx.1
  rw [decide_eq_true_eq] at hr;have f1:=hf.1.1;have f2:=hf.1.2.1 hr;have x1:=hx.1;rw [beq_iff_eq] at h11;exact Ok.chk (by simp_all) (IAp hf.2 ⟨x1.o,x1.s,x1.t,x1.k,fun q=>absurd (h11.symm.trans q) (by decide)⟩)
theorem iG {l:Cm} {c:Int} {s:AA} (h1:l.Du.length<=1000000) (h2:l.GR.length<=1000000):WQ l c s=some (QBK l c s):=by
 rw [WQ,MAt,mk];try simp only [List.nil_append]
 rw [FT (by omega),FT (by omega),FT (by omega),FT (by omega)];rfl
theorem VBm {b:Aj} {t:Int} (h:b.BI.length<=140737488351232):KAg b t=some (IU b t):=by
 have key:∀ (j i m:Nat),i+j=b.BI.length->iH (m+j+1) (.c0 t (i:Int) b)=some (match AsY (b.BI.drop i) t i with | some j=>(j:Int) | none=> -1):=by
  intro j;induction j with
  | zero=>
   intro i m hi;rw [iH];simp only [JAg,mk];rw [KF (by omega),List.drop_of_length_le (by omega)];rfl
  | succ j ih=>
   intro i m hi;have hil:i<b.BI.length:=by omega
   grind [Jh,iH,drop_at,AsY,JAg,BU]
 obtain ⟨m,hm⟩:=gm (n:=b.BI.length) (by omega)
 rw [KAg,RAt,hm];exact key b.BI.length 0 m (Nat.zero_add _)
theorem WBm {b:Aj} {c:CJ} (ht:0<=b.AV.DR/\b.AV.DR<=3) (hc:c.fText.size<=1000000000):LAg b c=some (iI b c):=by
 rw [LAg,SAt,mk,iI];simp only [ArI hc,AO];by_cases h:b.AV.DR>=3;·rw [Bg h,show (b.AV.DR == 3)=true from beq_iff_eq.2 (by omega)];rfl
 ·rw [D5 h,show (b.AV.DR == 3)=false from beq_eq_false_iff_ne.2 (by omega),Ar (by omega) (by omega)];cases (Auo c.fText).toList == b.AV.Bv.toList <;> cases b.AV.DR == 0 <;> rfl
theorem PA8 {n:Int} (h:0<=n/\n<10000):iJ n=some (UW n):=by
 obtain ⟨m,rfl⟩:∃ m:Nat,n=(m:Int):=⟨n.toNat,by omega⟩
 exact DBj (by omega)
theorem FBM {b:Aj} {c:CJ} {x:Ah} {ok:Bool} (h:PB b):tV b c x ok=some (Xm b c x ok):=by have hl:=h.last;have h8:=h.things;rw [tV,VAt,mk,Xm,newX,Ar (by omega) (by omega),PA8 (by omega),show decide ((b.AV.Ag.length:Int)>=8)=((b.AV.Ag.length:Int) == 8) by grind,show decide (b.AV.BR>=1000)=(b.AV.BR == 1000) by grind];cases ok <;> cases (b.AV.Ag.length:Int) == 8 <;> cases b.AV.BR == 1000 <;> cases x.CY <;> cases x.CZ <;> rfl
theorem GBM {k t:AA} {num:Int} (hk:k.size<=900000000) (ht:t.size<=800000000):iK k num t=some (AtU k num t):=by
 rw [iK,YAt,mk,AtU];have hw:AU ((t.size:Int) - 16)=(t.size:Int) - 16:=Ar (by omega) (by omega);rw [hw];by_cases h:t.size<16;·grind
 ·obtain ⟨n,hn⟩:∃ n,t.size=n+16:=⟨t.size - 16,by omega⟩
  obtain ⟨e1,e2⟩:=EBI t hn
  have hz:(t.size:Int) - 16=(n:Int):=by omega
  have hb:=bs_len t;have hes:(t.extract 0 n).size=n:=by simp_all
  rw [PY (by grind),hz,BU,hes,Atd (by grind),JBF hk,AO,Xn,show decide ((t.size:Int)<16)=false by grind,Bool.false_or];cases hm:LK num n;·rfl
  ·have h':=iL.1 hm;have hml:=Aq7 (bs k) (Atn num) n;rw [DZ,Aw,A8,PY (by rfl),BU,LBF hk h'.1 (by omega),AO,Atd (by grind)];simp only [XAt,WAt,mk,AO,Vk,At6 (UZ _ _ _),e1,e2];cases hc:(Ph (bs k) num ((bs t).take (t.size - 16)) == (bs t).drop (t.size - 16))
   ·rfl
   ·rw [DZ,Aw,KBF (by omega) (by simp_all [DK]),AO,At6 (tX _ _ _),e1,A8,show t.size - 16=n by omega]
theorem XBm {k t:AA} (hk:k.size<=900000000) (ht:t.size<=800000000):PAg k t=some (Rj k t):=by
 have hz:=tY k t 0;have hr0:=MBG (text:=(AtU k 0 t).1) (a:=0) (by omega) (DF _);rw [show ((0:Nat):Int)=0 from rfl] at hr0;rw [PAg,AJH,mk,GBM hk ht,AO,hr0,AO,Rj];cases ho:(AtU k 0 t).2;·rfl
 ·have hx:=tZ (text:=(AtU k 0 t).1) (a:=0) (by omega) (DF _);have E9:=QBf ho;generalize (AtU k 0 t).1=O at hz hx E9;rw [PY (by rfl),Qc];rcases hx with hx | ⟨v,hx,h0,h1,hA⟩
  ·rw [hx];rfl
  ·rw [hx];have hsz:=hA.size.resolve_left (by grind [Rk]);simp only [DZ,Aw,Bool.false_or];rw [Ar (n:=(O.size:Int) - ((0+(Atn v).length:Nat):Int)) (by omega) (by omega)];by_cases h3:v > (O.size:Int) - ((0+(Atn v).length:Nat):Int)
   ·grind
   ·rw [PY (by simp_all),Ar (n:=((0+(Atn v).length:Nat):Int)+v) (by omega) (by omega),Atd (by grind)];have hes:(O.extract ((0+(Atn v).length:Nat):Int).toNat (((0+(Atn v).length:Nat):Int)+v).toNat).size=v.toNat:=by grind [ByteArray.size_extract]
    generalize hS:O.extract ((0+(Atn v).length:Nat):Int).toNat (((0+(Atn v).length:Nat):Int)+v).toNat=S at hes;rw [EA8 hk,AO,iM];by_cases h4:v > 400;·grind
    ·have e1:decide ((S.size:Int) > 400)=false:=D5 (by omega);have e:(decide (v > 20000) || decide (v > (O.size:Int) - ((0+(Atn v).length:Nat):Int)))=false:=by grind
     have h2:=GA7 (l:=bs S) (by grind [bs_len]);have hl:=bs_len S;have hm:LK 0 ((ofBytes (Qd (bs S))).size:Int)=true:=by grind [iL,DK]
     have hfb:=FA7 (Si S)
     rw [e,Aw,e1,Aw,JG,hm,A8,At6 hfb,PY (by rfl),Vk,At6 (fun x hx=>by
      rcases List.mem_append.1 hx with hx | hx
      ·exact Vl _ _ x hx
      ·exact UZ _ _ _ x hx)]
     grind [RBf,Si]
theorem YBm (x:Ah):DAu x=some ⟨0,x.Aa,x.CY,x.CZ,false,x.Fb,x.fValue,0⟩:=rfl
theorem ZBm {b:Aj} {c:CJ} (h:PB b) (hc:c.fText.size<=1000):VAg b c=some (tq b c):=by
 have hz:=ZA7 (AuA b) c.fText;have hr:=(YA7 (t:=(Rj (AuA b) c.fText).1) (by omega)).2.1;have hk:(AuA b).size<=900000000:=by simp [AuA,IQ]
 rw [VAg,EAu,mk,tq,inX];simp only [DA8 h.key,XBm hk (show c.fText.size<=800000000 by omega),hr,YBm,FBM h,AO];cases (Rj (AuA b) c.fText).2 <;> rfl
theorem Ac7 (x:Ah) (d:Int):WAg x d=some (At9 x d):=by rw [WAg,FAu,mk,tu,AO,At9,bne];grind
theorem HBM {b:Aj} {x:Ah} (h:b.BJ.length<=140737488351232):uD b x=some (Ar6 b x):=by
 have key:∀ (j i m:Nat),i+j=b.BJ.length->iO (m+j+1) (.c0 (i:Int) b x)=some (match IX (b.BJ.drop i) x.fId i with | some j=>(b.BJ.getD j ⟨0,0⟩).fNext | none=>x.fNext):=by
  intro j;induction j with
  | zero=>
   intro i m hi;rw [iO];simp only [XAg,mk];rw [PY (by simp_all),List.drop_of_length_le (by omega)];rfl
  | succ j ih=>
   intro i m hi;have hil:i<b.BJ.length:=by omega
   have hw:AU ((i:Int)+1)=((i+1:Nat):Int):=by grind [Ar]
   grind [iO,XAg,BU,drop_at,IX]
 obtain ⟨m,hm⟩:=gm (n:=b.BJ.length) (by omega)
 rw [uD,GAu,hm];exact key b.BJ.length 0 m (Nat.zero_add _)
theorem uF {s:AA} (h:s.size<=1000000000):Pj s=some (Qb s):=by rw [Pj,IAu,mk,ArI h,AO,IQ,Atd (by rfl)];rfl
theorem IBM {s:AA} {leaf:Int} (hl:0<=leaf/\leaf<=255) (hs:s.size<=100000):iP s leaf=some (AsH s leaf 10):=by
 have key:∀ (j i m:Nat),i+j=10->Zh (m+j+1) (.c0 s leaf (i:Int) (AsH s leaf i))=some (AsH s leaf 10):=by
  intro j;induction j with
  | zero=>
   grind [Zh,ZAg]
  | succ j ih=>
   intro i m hi;have hw:AU ((i:Int)+1)=((i+1:Nat):Int):=by grind [Ar]
   have ho:(AsH s leaf i).length=i:=by simp [AsH]
   have hm:AsH s leaf i++[keyAt s leaf (i:Int)]=AsH s leaf (i+1):=by simp [AsH,List.range_succ]
   rw [ArJ m j,Zh];simp only [ZAg,mk,hw];rw [Atd (by grind),Oi hl.1 hl.2,AO];show (bif decide (s.size+(b1 leaf).size<=_) then _ else _)=_;rw [Atd (by grind [Aub]),Oi (by omega) (by omega),AO];show (bif decide ((s++b1 leaf).size+(b1 (i:Int)).size<=_) then _ else _)=_;rw [Atd (by grind [Aub])];show (bif decide ((s++b1 leaf++b1 (i:Int)).size+Zi.size<=_) then _ else _)=_;have hO:Zi.size=1:=rfl;rw [Atd (by grind [Aub])];show (Pj (s++b1 leaf++b1 (i:Int)++Zi)).bind _=_;rw [uF (by grind [Aub]),AO,ho,Atd (by grind)];show Zh (m+j+1) (.c0 s leaf ((i+1:Nat):Int) (AsH s leaf i++[keyAt s leaf (i:Int)]))=_;rw [hm];exact ih (i+1) m (by omega)
 obtain ⟨m,hm⟩:∃ m,AX=m+10+1:=⟨AX - 11,by rfl⟩
 rw [iP,JAu,hm];exact key 10 0 m rfl
theorem JBM {x:AA} {leaf chain:Int} {f n:Nat} (hl:0<=leaf/\leaf<=255) (hc:0<=chain/\chain<=255) (hn:n<=15) (hf:f+n<=255) (hx:x.size<=100000):Zj x leaf chain (f:Int) (n:Int)=some (JH leaf chain n f x):=by
 have hs:∀ i,(JH leaf chain i f x).size<=100000:=fun i=>by
  cases i with
  | zero=>exact hx
  | succ i=>simp [Zk,TB]
 have key:∀ (j i m:Nat),i+j=n->iQ (m+j+1) (.c0 (JH leaf chain i f x) leaf chain (f:Int) (n:Int) (i:Int))=some (JH leaf chain n f x):=by
  intro j;induction j with
  | zero=>
   grind [iQ,ADE]
  | succ j ih=>
   intro i m hi;have hw:AU ((i:Int)+1)=((i+1:Nat):Int):=by grind [Ar]
   have hsi:=hs i;have hm:=Zk leaf chain f x i;rw [ArJ m j,iQ];simp only [ADE,mk,hw];have hfm:(f:Int).tmod 256=(f:Int):=by grind
   rw [Atd (by grind),Atd (by grind),Oi hl.1 hl.2,AO,Oi hc.1 hc.2,AO,hfm,Ar (by omega) (by omega),Oi (by omega) (by omega)];grind [b1,Aub,JH,uF]
 obtain ⟨m,hm⟩:=gm (n:=n) (by omega)
 rw [Zj,KAu,hm];exact key n 0 m (Nat.zero_add _)
theorem BBn {keys:List AA} {leaf:Int} (hk:keys.length=10) (hl:0<=leaf/\leaf<=255) (hs:∀ x ∈ keys,x.size<=100000):uG keys leaf=some (Vm keys leaf):=by
 have key:∀ (j i m:Nat),i+j=10->iR (m+j+1) (.c0 keys leaf (Ld (Atv keys leaf i)) (i:Int))=some (Vm keys leaf):=by
  intro j;induction j with
  | zero=>
   intro i m hi;obtain rfl:i=10:=by omega
   have hz:=Aq8 (ZAn (keys:=keys) (leaf:=leaf) (n:=10));rw [ADG] at hz;rw [iR];simp only [BAh,mk];rw [PY (by rfl),uF (by omega)];rfl
  | succ j ih=>
   intro i m hi;have hlt:i<keys.length:=by omega
   have hw:AU ((i:Int)+1)=((i+1:Nat):Int):=by grind [Ar]
   have hz:=Aq8 (ZAn (keys:=keys) (leaf:=leaf) (n:=i));rw [ADG] at hz;have hc:=Zk leaf (i:Int) 0 keys[i] 14;have hc2:(JH leaf (i:Int) 15 0 keys[i]).size=4:=by simp_all [TB]
   have hm:Ld (Atv keys leaf i)++JH leaf (i:Int) 15 0 keys[i]=Ld (Atv keys leaf (i+1)):=by grind [Atv,List.range_succ,YAn,Ld,iU]
   grind [JBM,iR,BAh,BU]
 obtain ⟨m,hm⟩:∃ m,AX=m+10+1:=⟨AX - 11,by rfl⟩
 rw [uG,LAu,mk,PY (by simp_all),hm];exact key 10 0 m rfl
theorem KBM {s:AA} (hs:s.size<=100000):uH s=some (AtJ s 4):=by
 have key:∀ (j i m:Nat),i+j=4->iV (m+j+1) (.c0 s (i:Int) (AtJ s i))=some (AtJ s 4):=by
  intro j;induction j with
  | zero=>
   grind [iV,CAh]
  | succ j ih=>
   intro i m hi;have hw:AU ((i:Int)+1)=((i+1:Nat):Int):=by grind [Ar]
   have ho:(AtJ s i).length=i:=by simp [AtJ]
   have hm:AtJ s i++[Vm (AsH s (i:Int) 10) (i:Int)]=AtJ s (i+1):=by simp [AtJ,List.range_succ]
   rw [ArJ m j,iV];simp only [CAh,mk,hw];rw [Atd (by grind),IBM (by omega) hs,AO,BBn (uI _ _ _) (by omega) (fun x hx=>by grind [uJ]),AO,ho,Atd (by grind),hm];exact ih (i+1) m (by omega)
 obtain ⟨m,hm⟩:∃ m,AX=m+4+1:=⟨AX - 5,by rfl⟩
 rw [uH,MAu,hm];exact key 4 0 m rfl
theorem QA8 {level place:Int} {a b:AA} (hl:0<=level/\level<=255) (hp:0<=place/\place<=255) (ha:a.size<=100000) (hb:b.size<=100000):Xo level place a b=some (AsA level place a b):=by have hN:Zl.size=1:=rfl;rw [Xo,NAu,mk,Oi hl.1 hl.2,AO,Oi hp.1 hp.2,AO];show (bif decide ((b1 level).size+(b1 place).size<=_) then _ else _)=_;rw [Atd (by rfl)];show (bif decide ((b1 level++b1 place).size+a.size<=_) then _ else _)=_;rw [Atd (by grind [Aub])];show (bif decide ((b1 level++b1 place++a).size+b.size<=_) then _ else _)=_;rw [Atd (by grind [Aub])];show (bif decide ((b1 level++b1 place++a++b).size+Zl.size<=_) then _ else _)=_;rw [Atd (by grind [Aub])];show (Pj (b1 level++b1 place++a++b++Zl)).bind _=_;rw [uF (by grind [Aub])];rfl
theorem LBM {lv:Int} {a b c d:AA} (hl:0<=lv/\lv<=255) (ha:a.size<=100000) (hb:b.size<=100000) (hc:c.size<=100000) (hd:d.size<=100000):WR lv [a,b,c,d]=some [AsA lv 0 a b,AsA lv 1 c d]:=by
 obtain ⟨m,hm⟩:∃ m,AX=m+1+1+1:=⟨AX - 3,rfl⟩
 rw [WR,DAh,hm,Xp];simp only [uK,mk];rw [Atd (by rfl),Atd (by rfl),Atd (by rfl)];show (Xo lv 0 a b).bind _=_;rw [QA8 hl (by omega) ha hb,AO,Atd (by rfl),Xp];simp only [uK,mk];rw [Atd (by rfl),Atd (by rfl),Atd (by rfl)];show (Xo lv 1 c d).bind _=_;rw [QA8 hl (by omega) hc hd,AO,Atd (by rfl),Xp];rfl
theorem MBM {lv:Int} {a b:AA} (hl:0<=lv/\lv<=255) (ha:a.size<=100000) (hb:b.size<=100000):WR lv [a,b]=some [AsA lv 0 a b]:=by
 obtain ⟨m,hm⟩:∃ m,AX=m+1+1:=⟨AX - 2,rfl⟩
 rw [WR,DAh,hm,Xp];simp only [uK,mk];rw [Atd (by rfl),Atd (by rfl),Atd (by rfl)];show (Xo lv 0 a b).bind _=_;rw [QA8 hl (by omega) ha hb,AO,Atd (by rfl),Xp];rfl
theorem CBn {a b c d:AA} (ha:a.size<=100000) (hb:b.size<=100000) (hc:c.size<=100000) (hd:d.size<=100000):FAh [a,b,c,d]=some (CA7 a b c d):=by
 obtain ⟨m,hm⟩:∃ m,AX=m+1+1+1:=⟨AX - 3,rfl⟩
 have n1:=AuC 1 0 a b;have n2:=AuC 1 1 c d;rw [FAh,OAu,mk,PY (by rfl),hm,iW];simp only [EAh,mk];rw [Atd (by rfl),LBM (by omega) ha hb hc hd,AO,show AU (1+1)=2 by rfl,iW];simp only [EAh,mk];rw [Atd (by rfl),MBM (by omega) (by omega) (by omega),AO,iW];rfl
theorem NBM {s:AA} (hs:s.size<=100000):uM s=some (Aut s):=by rw [uM,PAu,mk,KBM hs,AO,BAo,CBn (by simp [Sl]) (by simp [Sl]) (by simp [Sl]) (by simp [Sl])];rfl
theorem DBn {s:AA} (hs:s.size<=1000000000):uN s=some (Qe s):=by
 have hz:=TB s;have hin:=DAo (Si (Qb s));have hln:=uO (bs (Qb s));rw [bs_len,hz] at hln;rw [uN,QAu,uF hs,AO];have key:Zm AX (.c0 (Qb s) (Aus (AuM ((bs (Qb s)).take 0))) (0:Nat) (AuM ((bs (Qb s)).take 0)))=some (Qe s):=by
  refine XT (L:=Zm) (fun i:Nat=>iY.c0 (Qb s) (Aus (AuM ((bs (Qb s)).take i))) (i:Int) (AuM ((bs (Qb s)).take i))) 4 0 (by omega) (fun m=>?_) fun i hi m=>?_
  ·have h3:=uQ hin;rw [List.take_of_length_le (by grind [bs_len]),Zm];simp only [GAh,mk];rw [KF (by omega),FT (by omega),Int.tdiv_eq_ediv_of_nonneg h3.1,Int.tmod_eq_emod_of_nonneg h3.1,Ar (by omega) (by omega)];rfl
  ·have hlt:i<(Qb s).size:=by omega
   have hlt2:i<(bs (Qb s)).length:=by grind [bs_len]
   have hw:=Jh (i:=i) (by omega);have hb:=TD (Qb s) (i:Int);have hl:(AuM ((bs (Qb s)).take i)).length<=8:=by grind [uO]
   have h3:=uQ (a:=AuM ((bs (Qb s)).take i)) (DAo fun d hd=>Si (Qb s) d (List.mem_of_mem_take hd));have hm:AuM ((bs (Qb s)).take i)++[bt (Qb s) (i:Int) / 16,bt (Qb s) (i:Int) % 16]=AuM ((bs (Qb s)).take (i+1)):=by rw [take_at hlt2,PBI,iZ hlt];rfl
   have hr:Aus (AuM ((bs (Qb s)).take i))+30 - bt (Qb s) (i:Int) / 16 - bt (Qb s) (i:Int) % 16=Aus (AuM ((bs (Qb s)).take (i+1))):=by rw [<-hm,QBI,Aus,Aus,Aus];omega
   rw [Zm];simp only [GAh,mk,hw];rw [FT (by omega),Ht (by omega),Ht (by omega),FT (by omega),Ht (by omega),Ht (by omega),Ar (n:=bt (Qb s) (i:Int)) (by omega) (by omega),Int.tdiv_eq_ediv_of_nonneg hb.1,Int.tmod_eq_emod_of_nonneg hb.1,Ar (n:=bt (Qb s) (i:Int) / 16) (by omega) (by omega),Ar (n:=Aus _+30) (by omega) (by omega),Ar (n:=Aus _+30 - _) (by omega) (by omega),Ar (by omega) (by omega),hr,hm]
 exact key
theorem EBn {keys:List AA} {leaf:Int} {s:AA} (hk:keys.length=10) (hl:0<=leaf/\leaf<=255) (hs:∀ x ∈ keys,x.size<=100000) (hm:s.size<=1000000000):HAh keys leaf s=some (NG keys leaf (Qe s) 10):=by
 obtain ⟨d1,d2⟩:=RBI s
 have hdig:=DBn hm;generalize Qe s=D at d1 d2 hdig;rw [HAh,RAu,mk,PY (by simp_all),hdig,AO];refine XT (L:=uT) (fun i:Nat=>ig.c0 keys leaf (i:Int) (NG keys leaf D i) D) 10 0 (by omega) (fun m=>?_) fun i hi m=>?_
 ·rfl
 ·have hlt:i<keys.length:=by omega
  have hlt2:i<D.length:=by omega
  have hw:=Jh (i:=i) (by omega);have hd:=d2 _ (List.getElem_mem hlt2);have ho:(NG keys leaf D i).length=i:=by simp [NG]
  grind [NG,List.range_succ,JBM,uT,SAu]
theorem FBn {a b c d:AA} {leaf:Int} (hl:0<=leaf/\leaf<=3) (ha:a.size<=100000) (hb:b.size<=100000) (hc:c.size<=100000) (hd:d.size<=100000):JAh [a,b,c,d] leaf=some (iq a b c d leaf):=by
 obtain ⟨m,hm⟩:∃ m,AX=m+1+1+1:=⟨AX - 3,rfl⟩
 have n1:=AuC 1 0 a b;have n2:=AuC 1 1 c d;have GG:=MBM (lv:=2) (a:=AsA 1 0 a b) (b:=AsA 1 1 c d) (by omega) (by omega) (by omega);have GJ:=LBM (lv:=1) (by omega) ha hb hc hd;rw [JAh,TAu,mk,PY (by rfl),AuF,AO,DU.2 hl,DZ,Aw,hm,uU];simp only [IAh,mk,GJ,AO];have h4:leaf=0\/leaf=1\/leaf=2\/leaf=3:=by omega
 have e2:AU (1+1)=2:=by rfl
 rcases h4 with rfl | rfl | rfl | rfl
 all_goals
  rw [Atd (by rfl)];first | rw [Atd (by decide)] | rw [PY (by decide)]
  rw [Atd (by rfl),Atd (by rfl),uU];simp only [IAh,mk,e2,GG,AO];rfl
theorem OBM {s m:AA} {leaf:Int} (hl:0<=leaf/\leaf<=3) (hs:s.size<=100000) (hm:m.size<=1000000000):uV s leaf m=some (iw s leaf m,true):=by rw [uV,UAu,mk,AuF,AO,DU.2 hl,DZ,Aw,IBM (by omega) hs,AO,EBn (uI _ _ _) (by omega) (fun x hx=>by grind [uJ]) hm,AO,KBM hs,AO,BAo,FBn hl (by simp [Sl]) (by simp [Sl]) (by simp [Sl]) (by simp [Sl])];rfl
theorem GBn {s m:AA} {i:Int} (hi:0<=i/\i<=15) (hs:s.size<=90000) (hm:m.size<=1000000000):KAh s i m=some (Qg s i m,true):=by
 have hL:iy.size=1:=rfl;have hT:Zn.size=1:=rfl;have hlow:(Qh s i).size=s.size+2:=by simp_all [Qh,Aub]
 have e1:AU (i.tdiv 4)=i / 4:=by grind [Ar]
 have e2:i.tmod 4=i % 4:=Int.tmod_eq_emod_of_nonneg hi.1;have hlo:YAg s (i / 4)=some (Qh s i):=by rw [YAg,HAu,mk,Oi (by omega) (by omega),AO];show (bif decide (s.size+(b1 (i / 4)).size<=_) then (bif decide ((s++b1 (i / 4)).size+iy.size<=_) then some (s++b1 (i / 4)++iy) else none) else none)=_;rw [FT (by grind [Aub]),FT (by grind [Aub])];rfl
 rw [KAh,VAu,mk,AuF,AO,DU.2 hi,DZ,Aw,e1,e2,hlo,AO,NBM (by omega),AO,OBM (by omega) (by omega) hm,AO];show (bif decide (s.size+Zn.size<=9223372036854775807) then (uV (s++Zn) (i / 4) (Aut (Qh s i))).bind (fun r4=>some ((⟨r4.1,Aut (Qh s i),iw (Qh s i) (i % 4) m⟩:MS),true)) else none)=_;rw [FT (by omega),OBM (by omega) (by grind) (by simp [CAo])];rfl
theorem HBn {s:Hu} (h:Uc s):uX s=some true:=by
 obtain ⟨o1,o2⟩:=h.once
 obtain ⟨q1,q2⟩:=h.path
 rw [uX,WAu,mk,AuF,AO,DU.2 h.leaf,o1,q1];simp only [bne_self_eq_false,show ((10:Nat):Int)=10 from rfl,show ((2:Nat):Int)=2 from rfl,DZ,Aw]
 have two:∀ m,WS (m+2+1) (.c1 0 s)=some true:=AIJ (L:=WS) (fun i:Nat=>Zo.c1 (i:Int) s) 2 (fun m=>by
  simp_all [WS,uY,mk]) fun i hi m=>by
  grind [Jh,WS,uY]
 refine XT (L:=WS) (fun i:Nat=>Zo.c0 (i:Int) s) 10 3 (by omega) (fun m=>?_) fun i hi m=>?_
 all_goals grind [WS,uY,Jh]
theorem PBM {s:Hu} (h:Uc s):LAh s=some (Vo s,true):=by
 obtain ⟨l1,s1⟩:=h.once
 obtain ⟨l2,s2⟩:=h.path
 have pre:∀ {l:List AA} {i:Nat} (hlt:i<l.length),Ld (l.take i)++l[i]=Ld (l.take (i+1)):=fun {l i} hlt=>by grind [take_at,YAn,Ld,iU]
 have CF:∀ {l:List AA} (i:Nat),(∀ x ∈ l,x.size=4)->l.length<=10->(Ld (l.take i)).size<=40:=fun {l} i hs hl=>by rw [Aq8 (fun x hx=>hs x (List.mem_of_mem_take hx)),List.length_take];omega
 have hO:=Aq8 s1
 have two:∀ m,ArD (m+2+1) (.c1 (b1 s.GU++Ld s.FK++Ld (s.F8.take 0)) 0 s)=some (Vo s,true):=AIJ (L:=ArD) (fun i:Nat=>Zp.c1 (b1 s.GU++Ld s.FK++Ld (s.F8.take i)) (i:Int) s) 2 (fun m=>by
  rw [ArD];simp only [jA,mk];rw [KF (by omega),List.take_of_length_le (by omega)];rfl) fun i hi m=>by
  have hlt:i<s.F8.length:=by omega
  have hw:=Jh (i:=i) (by omega);have hz:=CF i s2 (by omega);rw [ArD];simp only [jA,mk,hw,BU,getD_at hlt];rw [FT (by omega),Ht (by omega),FT (by grind [Aub]),uZ (b1 s.GU++Ld s.FK),pre hlt]
 rw [LAh,XAu,mk,HBn h,AO,DZ,Aw,Oi h.leaf.1 (by have:=h.leaf.2;omega),AO,show ofBytes [s.GU]=b1 s.GU++Ld (s.FK.take 0) by rfl];refine XT (L:=ArD) (fun i:Nat=>Zp.c0 (b1 s.GU++Ld (s.FK.take i)) (i:Int) s) 10 3 (by omega) (fun m=>?_) fun i hi m=>?_
 ·simp_all [ArD,jA,mk,List.take_of_length_le,Ld,iU]
 ·have hlt:i<s.FK.length:=by omega
  have hw:=Jh (i:=i) (by omega);have hz:=CF i s1 (by omega);rw [ArD];simp only [jA,mk,hw,BU,getD_at hlt];rw [FT (by omega),Ht (by omega),FT (by grind [Aub]),uZ (b1 s.GU),pre hlt]
theorem IBn {s m:AA} {i:Int} (hi:0<=i/\i<=15):MAh (Qg s i m)=some (DA7 (Qg s i m),true):=by have h1:Uc (Qg s i m).PN:=GAo (by omega);have h2:Uc (Qg s i m).PO:=GAo (by omega);have h3:(Qg s i m).PI.size=4:=CAo _;have z1:=HAo h1;have z2:=HAo h2;rw [MAh,YAu,mk,PBM h1,AO,PBM h2,AO];dsimp only;rw [DZ,Aw,Aw,PY (by simp_all),FT (by omega),FT (by simp_all)];rfl
theorem JBn {b:Aj} {c:CJ} {x:Ah} (h:PB b) (hc:c.fText.size<=1000) (hx:AtT b.AV.Ag x.fId=some x) (hm:At9 x 3=true):NAh b c x=some (jB b c x):=by
 obtain ⟨h1,h2,h3⟩:=CA8 hm
 obtain ⟨_,_,_,_,n0,n1,_⟩:=Tq h1
 have hv:=gu h1 (.inr h2);have hl:=BA8 h.Lp hx n0;rw [NAh,ZAu,mk,jB,HBM h.lln,AO];by_cases h16:Ar6 b x>=16;·rw [Bg h16,show (Ar6 b x == 16)=true from beq_iff_eq.2 (by omega)];rfl
 ·rw [D5 h16,show (Ar6 b x == 16)=false from beq_eq_false_iff_ne.2 (by omega),Aw,Aw,GBn (by omega) (by omega) (by omega),AO,IBn (by omega),AO,Ar (n:=x.fNext+3) (by omega) (by omega),bne,IAo];cases Ar6 b x == x.fNext;·rfl
  ·by_cases q:16<x.fNext+3;·rw [if_pos q,Bg (by omega:x.fNext+3 > 16)];rfl
   ·rw [if_neg q,D5 (by omega:¬ x.fNext+3 > 16)];rfl
theorem QBM {s:AA} {n:Nat} (h:s.size=8*n) (hn:n<=1000):jC s=some (up (ArN (Lc s) n)):=by
 have inner:∀ i,i<n->∀ (m:Nat) (o:List Nat),_:=fun i hi=>fun m o=>(FC (Hj:=Xq) (st:=fun j (x:Nat)=>.c1 s ((8*i:Nat):Int) (x:Int) (7 - (j:Int)) (up o)) (f:=fun j x=>x*256+Lc s (8*i+(7 - j))) (P:=fun j x=>x<256 ^ j) (n:=8) 1 (fun m j x hj hx=>by
  have hb:=Vp s (8*i+(7 - j));have hp:256 ^ (j+1)<=18446744073709551616:=Nat.le_trans (Nat.pow_le_pow_right (by decide) (show j+1<=8 by omega)) (by decide);have hx2:x*256+Lc s (8*i+(7 - j))<256 ^ (j+1):=by omega
  have hlt:=Nat.lt_of_lt_of_le hx2 hp;refine ⟨?_,hx2⟩;have e1:AU (((8*i:Nat):Int)+(7 - (j:Int)))=((8*i+(7 - j):Nat):Int):=by grind [wn]
  have e2:AU (7 - (j:Int) - 1)=7 - ((j+1:Nat):Int):=by grind [Ar]
  have e3:wu64 ((x:Int)*256)=((x*256:Nat):Int):=by rw [show (x:Int)*256=((x*256:Nat):Int) by omega];exact Oj (n:=x*256) (Nat.lt_of_le_of_lt (Nat.le_add_right _ _) hlt)
  have e4:wu64 ((Lc s (8*i+(7 - j)):Nat):Int)=((Lc s (8*i+(7 - j)):Nat):Int):=Oj (Nat.lt_trans hb (by decide));have e5:wu64 (((x*256:Nat):Int)+((Lc s (8*i+(7 - j)):Nat):Int))=((x*256+Lc s (8*i+(7 - j)):Nat):Int):=Oj (n:=x*256+Lc s (8*i+(7 - j))) hlt;rw [Xq];simp only [uf,mk,e1,e2,Qi,e3,e4,e5];grind) 8 0 m 0 rfl (by decide)).1
 have s1:=FC (Hj:=Xq) (st:=fun i o=>.c0 s ((8*i:Nat):Int) (up o)) (f:=fun i o=>o++[Ws (Lc s) i]) (P:=fun i o=>o.length=i) (n:=n) 10 (fun m i o hi ho=>by
  refine ⟨?_,by simp_all⟩;have e1:AU (((8*i:Nat):Int)+8)=((8*(i+1):Nat):Int):=wn (n:=8*(i+1)) (by omega);grind [Xq,uf,up,Ws])
 obtain ⟨m,hm⟩:∃ m,AX=m+1+n*10:=⟨AX - (1+n*10),by have:=FP (n:=1+n*10) (by omega);omega⟩
 rw [jC,AJn,hm];refine (s1 n 0 (m+1) [] (by omega) rfl).1.trans ?_;have e1:AU (((8*n:Nat):Int)+8)=((8*n+8:Nat):Int):=wn (n:=8*n+8) (by omega);rw [ug,Xq];simp only [uf,mk,e1];rw [PY (by grind)];rfl
theorem KBn:OAh=some (up Qj):=by rfl
theorem LBn:uh=some (up Ue):=by
 obtain ⟨m,hm⟩:∃ m,AX=m+300:=⟨AX - 300,rfl⟩
 rw [uh,CAv,hm];kernel_rfl
theorem RBM {x n:Nat} (hx:x<18446744073709551616) (hn:n<64):jD (x:Int) (n:Int)=some ((Aty n x:Nat):Int):=by
 obtain ⟨m,hm⟩:∃ m,AX=m+1+n*1:=⟨AX - (n+1),by have:=FP (n:=n+1) (by omega);omega⟩
 have hp:∀ i,i<=63->2 ^ i<=9223372036854775808:=fun i hi=>Nat.pow_le_pow_right (n:=2) (by decide) hi
 rw [jD,EAv,hm]
 have h:=FC (Hj:=jE) (st:=fun i (low:Nat)=>.c0 (x:Int) (n:Int) (low:Int) (i:Int)) (f:=fun _ low=>low*2) (P:=fun i low=>low=2 ^ i) (n:=n) 1 (fun m i low hi hl=>by
  refine ⟨?_,by omega⟩;have h1:=hp (i+1) (by omega);rw [Nat.pow_succ,<-hl] at h1;have hw:AU ((i:Int)+1)=((i+1:Nat):Int):=wn (n:=i+1) (by omega);have hw2:wu64 ((low:Int)*2)=((low*2:Nat):Int):=Oj (n:=low*2) (by omega);simp_all [jE,PAh,mk]) n 0 (m+1) 1 (by omega) rfl
 refine h.1.trans ?_;rw [h.2,jE];simp only [PAh,mk];rw [PY (by simp)];by_cases h0:n=0;·simp_all [ATZ]
 ·have e1:(9223372036854775808:Int).tdiv ((2 ^ n:Nat):Int)=((2 ^ (63 - n):Nat):Int):=by show ((9223372036854775808 / 2 ^ n:Nat):Int)=_;rw [show 9223372036854775808=2 ^ 63 from rfl,Nat.pow_div (by omega) (by decide)]
  have h1:=hp (63 - n) (by omega);have e2:wu64 (((2 ^ (63 - n):Nat):Int)*2)=((2 ^ (64 - n):Nat):Int):=by
   have:2 ^ (64 - n)=2 ^ (63 - n)*2:=by rw [<-Nat.pow_succ];grind
   grind [Oj]
  have e3:wu64 ((x:Int)*((2 ^ n:Nat):Int))=(((x*2 ^ n) % 18446744073709551616:Nat):Int):=WBI (x*2 ^ n);grind [Oj,Aty,jF]
theorem MBn {a:List Nat} (ha:Pg a) {c:Nat} (hc:c<18446744073709551616):uj (up a) (up Qj) (c:Int)=some (up (jG a c)):=by
 obtain ⟨hl,hw⟩:=ha
 have ww:∀ n:Nat,n<100->AU (n:Int)=(n:Int):=fun n h=>wn (by omega)
 have w1:∀ i:Nat,i<30->AU ((i:Int)+1)=((i+1:Nat):Int):=fun i h=>ww (i+1) (by omega)
 have s1:=FC (Hj:=NH) (st:=fun i v=>.c0 (up a) (up Qj) (c:Int) (i:Int) (up v)) (f:=fun i v=>v.set i (AuV a i)) (P:=fun _ v=>v.length=5) (n:=5) 1 (fun m i v hi hv=>by
  refine ⟨?_,EBJ hv⟩;have e5:AU ((i:Int)+5)=((i+5:Nat):Int):=ww (i+5) (by omega);have e10:AU ((i:Int)+10)=((i+10:Nat):Int):=ww (i+10) (by omega);have e15:AU ((i:Int)+15)=((i+15:Nat):Int):=ww (i+15) (by omega);have e20:AU ((i:Int)+20)=((i+20:Nat):Int):=ww (i+20) (by omega);rw [NH];simp only [TF,mk,w1 i (by omega),e5,e10,e15,e20,BU,Ars];rw [Atd (by grind),Atd (Auw (by omega)),Atd (Auw (by omega)),Atd (Auw (by omega)),Atd (Auw (by omega)),Atd (Auw (by omega)),Atd (Auw (by omega)),Ata (hw.get _) (hw.get _),Ata (xlt (hw.get _) (hw.get _)) (hw.get _),Ata (xlt (xlt (hw.get _) (hw.get _)) (hw.get _)) (hw.get _),Ata (xlt (xlt (xlt (hw.get _) (hw.get _)) (hw.get _)) (hw.get _)) (hw.get _),JF];rfl)
 have GM:∀ x:Nat,x<5->∀ (m:Nat) (b:List Nat),b.length=25->_:=fun x hx=>fun m b hb=>(FC (Hj:=NH) (st:=fun y b=>.c2 (up a) (up Qj) (c:Int) (x:Int) ((AH9 a x:Nat):Int) (y:Int) (up ((List.range 5).map (AuV a))) (up b)) (f:=fun y b=>b.set (y+5*((2*x+3*y) % 5)) (Aty (Qj.getD (x+5*y) 0) (Rl a (x+5*y)))) (P:=fun _ b=>b.length=25) (n:=5) 1 (fun m y b hy hb=>by
  refine ⟨?_,Zq hb⟩;have e1:AU (5*(y:Int))=((5*y:Nat):Int):=ww (5*y) (by omega);have e2:AU ((x:Int)+((5*y:Nat):Int))=((x+5*y:Nat):Int):=ww (x+5*y) (by omega);have e3:AU (2*(x:Int))=((2*x:Nat):Int):=ww (2*x) (by omega);have e4:AU (3*(y:Int))=((3*y:Nat):Int):=ww (3*y) (by omega);have e5:AU (((2*x:Nat):Int)+((3*y:Nat):Int))=((2*x+3*y:Nat):Int):=ww (2*x+3*y) (by omega);have e6:((2*x+3*y:Nat):Int).tmod 5=(((2*x+3*y) % 5:Nat):Int):=rfl;have hz:(2*x+3*y) % 5<5:=Nat.mod_lt _ (by decide);have e7:AU (5*(((2*x+3*y) % 5:Nat):Int))=((5*((2*x+3*y) % 5):Nat):Int):=ww (5*((2*x+3*y) % 5)) (by omega);have e8:AU ((y:Int)+((5*((2*x+3*y) % 5):Nat):Int))=((y+5*((2*x+3*y) % 5):Nat):Int):=ww (y+5*((2*x+3*y) % 5)) (by omega);have ht:a.getD (x+5*y) 0 ^^^ AH9 a x=Rl a (x+5*y):=by rw [Rl,show (x+5*y) % 5=x by omega]
  rw [NH];simp only [TF,mk,w1 y (by omega),e1,e2,e3,e4,e5,e6,e7,e8,BU,Ars];rw [Atd (by grind),Atd (Auw (by omega)),Atd (Auw (by show x+5*y<25;omega)),Ata (hw.get _) (CBJ hw _),ht,RBM (JA7 hw _) (DBJ _),AO,Atd (Auw (by omega)),JF]) 5 0 m b rfl hb)
 have s2:=FC (Hj:=NH) (st:=fun x b=>.c1 (up a) (up Qj) (c:Int) (x:Int) (up ((List.range 5).map (AuV a))) (up b)) (f:=fun x b=>ArR (fun y b=>b.set (y+5*((2*x+3*y) % 5)) (Aty (Qj.getD (x+5*y) 0) (Rl a (x+5*y)))) 5 0 b) (P:=fun _ b=>b.length=25) (n:=5) 7 (fun m x b hx hb=>by
  obtain ⟨i1,i2⟩:=GM x hx (m+1) b hb
  refine ⟨?_,i2⟩;have e4:AU ((x:Int)+4)=((x+4:Nat):Int):=ww (x+4) (by omega);have e1:AU ((x:Int)+1)=((x+1:Nat):Int):=ww (x+1) (by omega);have e2:((x+4:Nat):Int).tmod 5=(((x+4) % 5:Nat):Int):=rfl;have e3:((x+1:Nat):Int).tmod 5=(((x+1) % 5:Nat):Int):=rfl;have h4:(x+4) % 5<5:=Nat.mod_lt _ (by decide);have h1:(x+1) % 5<5:=Nat.mod_lt _ (by decide);have hlen:((List.range 5).map (AuV a)).length=5:=by rfl
  rw [show m+7=m+1+5*1+1 from rfl,NH];simp only [TF,mk,e4,e1,e2,e3,BU,Ars];rw [Atd (by grind),Atd (Auw (by omega)),Atd (Auw (by omega)),um h1,um h4];have hr:jD ((AuV a ((x+1) % 5):Nat):Int) 1=some ((Aty 1 (AuV a ((x+1) % 5)):Nat):Int):=RBM (n:=1) (Uf hw _) (by decide);rw [hr,AO,Ata (Uf hw _) (jF (by decide) (Uf hw _))];refine i1.trans ?_;grind [NH,TF])
 have hb:=KAo hw
 have GP:∀ x:Nat,x<5->∀ (m:Nat) (o:List Nat),o.length=25->_:=fun x hx=>fun m o ho=>(FC (Hj:=NH) (st:=fun y o=>.c4 (c:Int) (x:Int) (y:Int) (up (Ats a)) (up o)) (f:=fun y o=>o.set (x+5*y) (Us (Ats a) (x+5*y))) (P:=fun _ o=>o.length=25) (n:=5) 1 (fun m y o hy ho=>by
  refine ⟨?_,Zq ho⟩;have hbl:=hb.1;have e1:AU (5*(y:Int))=((5*y:Nat):Int):=ww (5*y) (by omega);have e2:AU ((x:Int)+((5*y:Nat):Int))=((x+5*y:Nat):Int):=ww (x+5*y) (by omega);have e3:AU ((x:Int)+1)=((x+1:Nat):Int):=ww (x+1) (by omega);have e4:AU ((x:Int)+2)=((x+2:Nat):Int):=ww (x+2) (by omega);have e5:((x+1:Nat):Int).tmod 5=(((x+1) % 5:Nat):Int):=rfl;have e6:((x+2:Nat):Int).tmod 5=(((x+2) % 5:Nat):Int):=rfl;have h1:(x+1) % 5<5:=Nat.mod_lt _ (by decide);have h2:(x+2) % 5<5:=Nat.mod_lt _ (by decide);have e7:AU ((((x+1) % 5:Nat):Int)+((5*y:Nat):Int))=(((x+1) % 5+5*y:Nat):Int):=ww ((x+1) % 5+5*y) (by omega);have e8:AU ((((x+2) % 5:Nat):Int)+((5*y:Nat):Int))=(((x+2) % 5+5*y:Nat):Int):=ww ((x+2) % 5+5*y) (by omega);have hv:(Ats a).getD (x+5*y) 0 ^^^ ((18446744073709551615 - (Ats a).getD ((x+1) % 5+5*y) 0) &&& (Ats a).getD ((x+2) % 5+5*y) 0)=Us (Ats a) (x+5*y):=by rw [Us,show (x+5*y) % 5=x by omega,show (x+5*y) / 5=y by omega]
  rw [NH];simp only [TF,mk,w1 y (by omega),e1,e2,e3,e4,e5,e6,e7,e8,BU,Ars];rw [Atd (by grind),Atd (Auw (by omega)),Atd (Auw (by omega)),Atd (Auw (by omega)),Atd (Auw (by omega)),FBj (hb.2.get _),n64 (by omega) (hb.2.get _),Ata (hb.2.get _) (nlt (by omega)),hv,JF]) 5 0 m o rfl ho)
 have s3:=FC (Hj:=NH) (st:=fun x o=>.c3 (c:Int) (x:Int) (up (Ats a)) (up o)) (f:=fun x o=>ArR (fun y o=>o.set (x+5*y) (Us (Ats a) (x+5*y))) 5 0 o) (P:=fun _ o=>o.length=25) (n:=5) 7 (fun m x o hx ho=>by
  obtain ⟨i1,i2⟩:=GP x hx (m+1) o ho
  grind [NH,TF])
 obtain ⟨m,hm⟩:∃ m,AX=m+1+5*7+1+5*7+1+5*1:=⟨AX - 78,rfl⟩
 rw [uj,FAv,hm];obtain ⟨a1,a2⟩:=s1 5 0 (m+1+5*7+1+5*7+1) [0,0,0,0,0] rfl rfl
 refine a1.trans ?_;rw [IBj,NH];simp only [TF,mk];rw [PY (by rfl)];obtain ⟨b1,b2⟩:=s2 5 0 (m+1+5*7+1) (List.replicate 25 0) rfl rfl
 refine b1.trans ?_;rw [LBj (fun n q=>Aty n (Rl a q)),NH];simp only [TF,mk];rw [PY (by rfl)];obtain ⟨c1,c2⟩:=s3 5 0 (m+1) (List.replicate 25 0) rfl rfl
 refine c1.trans ?_;have hch:=KA7 hb.2;rw [JBj,NH];simp only [TF,mk];rw [PY (by rfl),show (0:Int).toNat=0 from rfl,Ars,Ata (hch.2.get _) hc,JF];rfl
theorem SBM {a:List Nat} (ha:Pg a):jH (up a)=some (up (uo a)):=by
 have s:=FC (Hj:=uq) (st:=fun i a=>.c0 (i:Int) (up a) (up Qj) (up Ue)) (f:=fun i a=>jG a (Ue.getD i 0)) (P:=fun _ a=>Pg a) (n:=24) 1 (fun m i a hi ha=>by
  refine ⟨?_,LA7 ha.2 (uw i)⟩;have w1:AU ((i:Int)+1)=((i+1:Nat):Int):=wn (n:=i+1) (by omega);rw [uq];simp only [HAv,mk,w1,BU,Ars];rw [Atd (by grind),Atd (Auw (by assumption)),MBn ha (uw i),AO])
 obtain ⟨m,hm⟩:∃ m,AX=m+1+24*1:=⟨AX - 25,rfl⟩
 rw [jH,GAv,KBn,AO,LBn,AO,hm];refine (s 24 0 (m+1) a rfl ha).1.trans ?_;rfl
theorem NBn (v:Nat->Nat->Nat):ArR (fun i o=>o++(List.range 8).map (v i)) 25 0 []=(List.range 200).map (fun p=>v (p / 8) (p % 8)):=by kernel_rfl
theorem TBM {a:List Nat} (ha:Pg a):jI (up a)=some (ofBytes (up (Ot a))):=by
 have hal:=ha.1
 have inner:∀ (i:Nat) (x:Nat) (m:Nat) (o:List Nat),x<18446744073709551616->o.length<=1000->_:=fun i x m o hx ho=>(FC (Hj:=WT) (st:=fun j o=>.c1 (up a) (i:Int) ((x / 2 ^ (8*j):Nat):Int) (j:Int) (up o)) (f:=fun j o=>o++[x / 2 ^ (8*j) % 256]) (P:=fun j o=>o.length<=1000+j) (n:=8) 1 (fun m j o hj ho=>by
  refine ⟨?_,by grind⟩;have w1:AU ((j:Int)+1)=((j+1:Nat):Int):=wn (n:=j+1) (by omega);have e1:wu64 (((x / 2 ^ (8*j):Nat):Int).tdiv 256)=((x / 2 ^ (8*(j+1)):Nat):Int):=by
   have:x / 2 ^ (8*(j+1))=x / 2 ^ (8*j) / 256:=by grind [Nat.div_div_eq_div_mul]
   rw [this];exact Oj (n:=x / 2 ^ (8*j) / 256) (Nat.lt_of_le_of_lt (Nat.div_le_self _ _) (Nat.lt_of_le_of_lt (Nat.div_le_self _ _) hx))
  grind [MX,WT,jJ,up]) 8 0 m o rfl (by omega)).1
 have s1:=FC (Hj:=WT) (st:=fun i o=>.c0 (up a) (i:Int) (up o)) (f:=fun i o=>o++(List.range 8).map fun j=>a.getD i 0 / 2 ^ (8*j) % 256) (P:=fun i o=>o.length=8*i) (n:=25) 10 (fun m i o hi ho=>by
  refine ⟨?_,by grind⟩;have w1:AU ((i:Int)+1)=((i+1:Nat):Int):=wn (n:=i+1) (by omega);have hx:=ha.2.get i;rw [show m+10=m+1+8*1+1 from rfl,WT];simp only [jJ,mk,BU,Ars];rw [Atd (by grind [Ua]),Atd (Auw (by omega))];have h:=inner i (a.getD i 0) (m+1) o hx (by omega);rw [show ((a.getD i 0 / 2 ^ (8*0):Nat):Int)=((a.getD i 0:Nat):Int) by omega] at h;refine h.trans ?_;rw [jK,List.range'_eq_map_range,WT];simp_all [jJ,mk])
 obtain ⟨m,hm⟩:∃ m,AX=m+1+25*10:=⟨AX - 251,by rfl⟩
 rw [jI,IAv,hm];refine (s1 25 0 (m+1) [] (by omega) rfl).1.trans ?_;rw [NBn (fun i j=>a.getD i 0 / 2 ^ (8*j) % 256),WT];simp only [jJ,mk];rw [PY (by simp_all [Ua])];rfl
theorem OBn {s:AA} {f:Nat} (hs:s.size<=2000) (hf:f<256):uy s 168 (f:Int)=some (jL s f):=by
 obtain ⟨q,hq,hq2⟩:=MBJ s f
 have hbuf:=LBJ s hf
 have sp:=FC (Hj:=Atf) (st:=fun i l=>.c0 168 (up (List.replicate 25 0)) (up l)) (f:=fun _ l=>l++[0]) (P:=fun i l=>l.length=s.size+1+i) (n:=(168 - (s.size+1) % 168) % 168) 1 (fun m i l hi hl=>by
  grind [Atf,Xr,Ua,NI])
 have si:∀ (p:Nat) (st:List Nat),p<q->Pg st->∀ m,Atf (m+21*1) (.c2 168 ((168*p:Nat):Int) ((0:Nat):Int) (up st) (up (Arf s f)) (up (ArN (fun i=>(Arf s f).getD (168*p+i) 0) 21)))=Atf m (.c2 168 ((168*p:Nat):Int) ((21:Nat):Int) (up (Zr st fun i=>(Arf s f).getD (168*p+i) 0)) (up (Arf s f)) (up (ArN (fun i=>(Arf s f).getD (168*p+i) 0) 21))):=by
  intro p st hp hst m;have hg:∀ i,(fun i=>(Arf s f).getD (168*p+i) 0) i<256:=fun i=>hbuf.get _
  generalize hgg:(fun i=>(Arf s f).getD (168*p+i) 0)=g at hg;have hll:(ArN g 21).length=21:=by rfl
  have D3:=QBj hg 21
  obtain ⟨a1,a2,a3,a4⟩:=FC (Hj:=Atf) (st:=fun i v=>.c2 168 ((168*p:Nat):Int) (i:Int) (up v) (up (Arf s f)) (up (ArN g 21))) (f:=fun i v=>v.set i (v.getD i 0 ^^^ (ArN g 21).getD i 0)) (P:=fun i v=>v.length=25/\L8 v/\∀ k,k<25->v.getD k 0=if k<i then st.getD k 0 ^^^ Ws g k else st.getD k 0) (n:=21) 1 (fun m i v hi hv=>by
   obtain ⟨v1,v2,v3⟩:=hv
   refine ⟨?_,Zq v1,v2.set _ (xlt (v2.get _) (D3.get _)),fun k hk=>?_⟩;·have w1:AU ((i:Int)+1)=((i+1:Nat):Int):=wn (n:=i+1) (by omega);rw [Atf];simp only [Xr,mk,w1,BU,Ars];rw [Ata (v2.get _) (D3.get _),JF,Atd (by grind [Ua]),Atd (Auw (by omega)),Atd (Auw (by omega)),Atd (Auw (by omega))]
   grind [ArN]) 21 0 m st (by omega) ⟨hst.1,hst.2,fun k hk=>by rfl⟩
  refine a1.trans ?_
  rw [show ArR (fun i v=>v.set i (v.getD i 0 ^^^ (ArN g 21).getD i 0)) 21 0 st=Zr st g from NAo (by assumption) fun k hk=>by
   simp_all [Zr]]
 have so:=FC (Hj:=Atf) (st:=fun p st=>.c1 168 ((168*p:Nat):Int) (up st) (up (Arf s f))) (f:=jM (Arf s f)) (P:=fun _ st=>Pg st) (n:=q) 23 (fun m p st hp hst=>by
  refine ⟨?_,UA7 hbuf hst⟩;have e1:AU (((168*p:Nat):Int)+168)=((168*(p+1):Nat):Int):=by rw [show ((168*p:Nat):Int)+168=((168*(p+1):Nat):Int) by omega];exact wn (n:=168*(p+1)) (by omega)
  have hbl:((up (Arf s f)).drop (168*p)).take (168*(p+1) - 168*p)=up (((Arf s f).drop (168*p)).take 168):=by grind [up,List.map_drop,List.map_take]
  have hsz:(ofBytes (up (((Arf s f).drop (168*p)).take 168))).size=8*21:=by grind [DK,Ua]
  have hlt:∀ x ∈ ((Arf s f).drop (168*p)).take 168,x<256:=fun x hx=>hbuf x (List.mem_of_mem_drop (List.mem_of_mem_take hx))
  have Fr:ArN (Lc (ofBytes (up (((Arf s f).drop (168*p)).take 168)))) 21=ArN (fun i=>(Arf s f).getD (168*p+i) 0) 21:=by
   refine List.map_congr_left fun k hk=>?_
   grind [OA7,MAo]
  rw [show m+23=(m+1)+21*1+1 from rfl,Atf];simp only [Xr,mk,e1,BU];rw [Atd (by simp_all [Ua]),Atd (by rw [Bool.and_eq_true,Bool.and_eq_true,decide_eq_true_eq,decide_eq_true_eq,decide_eq_true_eq,Ua];omega),hbl,QBM hsz (by omega),AO,Fr];refine (si p st hp hst (m+1)).trans ?_;rw [Atf];simp only [Xr,mk,e1];rw [PY (by rfl),SBM (NBJ hst fun _=>hbuf.get _),AO];rfl)
 have Fs:(168 - (s.size+1) % 168) % 168<168:=Nat.mod_lt _ (by decide);have hl1:(Atx s++[f]).length=s.size+1:=by simp [Zt]
 obtain ⟨m,hm⟩:∃ m,AX=(m+1+q*23)+1+((168 - (s.size+1) % 168) % 168)*1:=⟨AX - (1+q*23+1+(168 - (s.size+1) % 168) % 168),by have:=FP (n:=1+q*23+1+(168 - (s.size+1) % 168) % 168) (by omega);omega⟩
 have hzs:(bytesOf s).length=s.size:=by simp_all [Zu,Ua]
 rw [uy,JAv,mk,hm,Atd (by grind),Atd (by grind),Zu,NI,show (25:Int).toNat=25 from rfl,<-UO];refine (sp ((168 - (s.size+1) % 168) % 168) 0 _ (Atx s++[f]) (by omega) hl1).1.trans ?_;have hpl:ArR (fun _ l=>l++[0]) ((168 - (s.size+1) % 168) % 168) 0 (Atx s++[f])=Asf (Atx s++[f]):=by simp_all [jK,Asf]
 have C8:B8 (Asf (Atx s++[f])):=QA7 (SA7 s hf);have Cx:=PA7 (Atx s++[f]);rw [hl1] at Cx;have e2:((up (Asf (Atx s++[f]))).length:Int).tmod 168=(((up (Asf (Atx s++[f]))).length % 168:Nat):Int):=rfl;have e3:AU (((up (Asf (Atx s++[f]))).length:Int) - 1)=(((Asf (Atx s++[f])).length - 1:Nat):Int):=by grind [Ua,wn]
 rw [hpl,Atf];simp only [Xr,mk,e2,e3,BU,Ars];rw [Atd (by rfl),PY (by grind [Ua]),Atd (Auw (by omega)),Atd (Auw (by omega)),show (128:Int)=((128:Nat):Int) from rfl,x8 (C8.get _) (by decide),JF];show Atf (m+1+q*23) (.c1 168 0 (up (List.replicate 25 0)) (up (Arf s f)))=_;refine (so q 0 (m+1) (List.replicate 25 0) (by omega) TA7).1.trans ?_;have hfin:ArR (jM (Arf s f)) q 0 (List.replicate 25 0)=jO s f:=by simp_all [jO]
 have hok:Pg (jO s f):=OAo (fun _ _ h=>UA7 hbuf h) _ _ _ TA7;rw [hfin,Atf];simp only [Xr,mk];rw [PY (by simp_all [Ua]),TBM hok];rfl
theorem UBM {s:AA} (h:s.size<=2000):jP s=some ⟨sd s,0⟩:=by have e:uy s 168 31=some (jL s 31):=OBn (f:=31) h (by decide);rw [jP,KAv,e];rfl
theorem PBn {s:AA} (h:s.size=200):uz s=some (Zv s):=by have hl:=IBJ (Vp s);rw [uz,LAv,mk,PY (by simp_all),QBM (n:=25) h (by omega),AO,SBM hl,AO,TBM (MA7 hl)];rfl
theorem VBM {S:AA} {p n:Nat} {x:FY} (hS:S.size=200) (h:L9 S p x) (hn:n<=4000):∃ x',Zw x (n:Int)=some (x',ofBytes (up (Ea S p n)))/\L9 S (p+n) x':=by
 have key:∀ (r m:Nat) (x:FY) (v:FY) (o:List Nat),n - o.length=r->r<m->o.length<=n->L9 S (p+o.length) x->∃ x',jQ m (.c0 (n:Int) x v (up o))=some (x',ofBytes (up (o++Ea S (p+o.length) (n - o.length))))/\L9 S (p+n) x':=by
  intro r;induction r using Nat.strongRecOn with
  | ind r ih=>
  intro m x v o hr hm ho hx;obtain ⟨m,rfl⟩:∃ m',m=m'+1:=⟨m - 1,by omega⟩
  rw [jQ];simp only [NAv,mk];by_cases hlt:o.length<n
  ·have en:AU ((n:Int) - ((up o).length:Int))=((n - o.length:Nat):Int):=by grind [Ua,wn]
   rw [Atd (by simp_all [Ua])];have go:∀ (q a k:Nat),168*q+a=p+o.length->a+k<=168->0<k->k<=n - o.length->∃ x',jQ m (.c0 (n:Int) ⟨AvF S q,((a+k:Nat):Int)⟩ v (up o++bytesOf ((AvF S q).extract a (a+k))))=some (x',ofBytes (up (o++Ea S (p+o.length) (n - o.length))))/\L9 S (p+n) x':=by
    intro q a k h1 h2 h3 h4;rw [Zu,chunk hS h2,show up o++up (Ea S (168*q+a) k)=up (o++Ea S (168*q+a) k) by simp [up],h1];have hl:(o++Ea S (p+o.length) k).length=o.length+k:=by simp [PAo]
    obtain ⟨x',e1,e2⟩:=ih (n - (o.length+k)) (by omega) m ⟨AvF S q,((a+k:Nat):Int)⟩ v (o++Ea S (p+o.length) k) (by rw [hl]) (by omega) (by omega) ⟨q,a+k,rfl,by omega,h2⟩
    refine ⟨x',?_,e2⟩;rw [e1,hl,List.append_assoc,<-Nat.add_assoc,PBJ,show k+(n - (o.length+k))=n - o.length by omega]
   obtain ⟨q,a,rfl,ha,ha2⟩:=hx
   have hz:=Zx hS q;have hz2:=Zx hS (q+1);have big:∀ (T:AA) (i j:Nat),T.size=200->decide (((up o).length+(bytesOf (T.extract i j)).length)*1<=140737488355328)=true/\decide ((T.extract i j).size<=9223372036854775807)=true:=fun T i j hT=>by grind [ByteArray.size_extract,Zu,Ua,Zt]
   dsimp only;by_cases C4:a=168
   ·subst C4;rw [Atd (by rfl),PBn hz,AO,show Zv (AvF S q)=AvF S (q+1) from rfl,en,show AU ((168:Int) - (0:Int))=168 by decide];by_cases hk:n - o.length<168
    ·have e0:AU (0+((n - o.length:Nat):Int))=((0+(n - o.length):Nat):Int):=by grind [wn]
     obtain ⟨b1,b2⟩:=big (AvF S (q+1)) 0 (0+(n - o.length)) hz2
     rw [Atd (by grind),e0,show (0:Int).toNat=0 from rfl,BU,Atd (by grind),b2,A8,b1,A8];exact go (q+1) 0 (n - o.length) (by omega) (by omega) (by omega) (Nat.le_refl _)
    ·obtain ⟨b1,b2⟩:=big (AvF S (q+1)) 0 (0+168) hz2
     rw [PY (by grind),show AU (0+168)=((0+168:Nat):Int) by decide,show (0:Int).toNat=0 from rfl,BU,Atd (by rw [Bool.and_eq_true,Bool.and_eq_true,decide_eq_true_eq,decide_eq_true_eq,decide_eq_true_eq];omega),b2,A8,b1,A8];exact go (q+1) 0 168 (by omega) (by omega) (by omega) (by omega)
   ·have ea:AU (168 - (a:Int))=((168 - a:Nat):Int):=by grind [wn]
    rw [PY (by grind),en,ea,BU];by_cases hk:n - o.length<168 - a
    ·have e0:AU ((a:Int)+((n - o.length:Nat):Int))=((a+(n - o.length):Nat):Int):=wn (n:=a+(n - o.length)) (by omega);obtain ⟨b1,b2⟩:=big (AvF S q) a (a+(n - o.length)) hz
     rw [Atd (by simp_all),e0,BU,Atd (by grind),b2,A8,b1,A8];grind
    ·have e0:AU ((a:Int)+((168 - a:Nat):Int))=((a+(168 - a):Nat):Int):=wn (n:=a+(168 - a)) (by omega);obtain ⟨b1,b2⟩:=big (AvF S q) a (a+(168 - a)) hz
     rw [PY (by simp_all),e0,BU,Atd (by grind),b2,A8,b1,A8];grind
  grind [Ua,Ea]
 obtain ⟨q,a,rfl,ha,ha2⟩:=h
 have h1:=Zx hS q;have hi1:AvO ((n:Nat):Int) 0 4000=true:=DU.2 (by omega);have hi2:AvO ((a:Nat):Int) 0 168=true:=DU.2 (by omega);rw [Zw,MAv,mk,AuF,AO,hi1,DZ,Aw,PY (by simp_all),AuF,AO,hi2,DZ,Aw];obtain ⟨x',e1,e2⟩:=key n AX ⟨AvF S q,(a:Int)⟩ ⟨⟨#[]⟩,0⟩ [] (by rfl) (FP (by omega)) (DF _) ⟨q,a,rfl,ha,ha2⟩
 exact ⟨x',e1,e2⟩
theorem JAp {seed:AA} {i j:Nat} (h:seed.size<=1000) (hi:i<256) (hj:j<256):WU seed (i:Int) (j:Int)=some (up (Hg seed i j)):=by
 have h1:Nk (i:Int)=some (Asx i):=Oi (by omega) (by omega);have h2:Nk (j:Int)=some (Asx j):=Oi (by omega) (by omega);have hz:∀ n,(Asx n).size=1:=fun n=>by rfl
 have hz1:=hz i;have hz2:=hz j;have hsz:((seed++Asx i)++Asx j).size=seed.size+2:=by simp_all
 rw [WU,OAv,mk,h1,AO,Atd (by grind),h2,AO,Atd (by grind),UBM (by omega),AO,Hg];generalize hS:sd ((seed++Asx i)++Asx j)=S;have hSz:S.size=200:=by grind [QAo]
 have pad:∀ (M:Nat) (o:List Nat),o.length<=256->Ug (M+257) (.c1 (up o))=some (up (JI o)):=by
  intro M o ho;obtain ⟨n,hn⟩:∃ n,n=256 - o.length:=⟨_,rfl⟩
  have s:=FC (Hj:=Ug) (st:=fun _ l=>.c1 (up l)) (f:=fun _ l=>l++[0]) (P:=fun i l=>l.length=o.length+i) (n:=n) 1 (fun m i l hi hl=>by
   refine ⟨?_,by grind⟩;have h1:(up l).length<256:=by grind [Ua]
   show (bif decide (((up l).length:Int)<256) then (bif decide (((up l).length+1)*8<=140737488355328) then Ug m (.c1 (up l++[(0:Int)])) else none) else some (up l))=_;grind [NI])
  have hp:JI o=o++List.replicate n 0:=by rw [JI,hn]
  have hpl:(up (JI o)).length=256:=by simp_all [Ua]
  rw [show M+257=(M+o.length+1)+n*1 by omega];refine (s n 0 (M+o.length+1) o (by omega) rfl).1.trans ?_;rw [jK (fun _=>0),List.map_const',List.length_range',<-hp];show (bif decide (((up (JI o)).length:Int)<256) then (bif decide (((up (JI o)).length+1)*8<=140737488355328) then Ug (M+o.length) (.c1 (up (JI o)++[(0:Int)])) else none) else some (up (JI o)))=_;simp_all
 have key:∀ (r k:Nat) (m:Nat) (x:FY) (buf:AA) (o:List Nat),k+r=4000->UQ o->(if k % 56=0 then L9 S (3*k) x else buf=ofBytes (up (Ea S (3*(k - k % 56)) 168))/\L9 S (3*(k - k % 56)+168) x)->Ug (m+r+1+257) (.c0 buf (k:Int) x (up o))=some (up (JI (Xt S r k o))):=by
  intro r;induction r with
  | zero=>
   intro k m x buf o hk ho hx;rw [show m+0+1+257=(m+257)+1 by omega,Ug];delta QAh mk;dsimp only;rw [PY (by simp_all)];exact pad m o ho.1
  | succ r ih=>
   intro k m x buf o hk ho hx;have w1:AU ((k:Int)+1)=((k+1:Nat):Int):=wn (n:=k+1) (by omega);have em:(k:Int).tmod 56=((k % 56:Nat):Int):=rfl;have e3:AU (((k % 56:Nat):Int)*3)=((k % 56*3:Nat):Int):=wn (n:=k % 56*3) (by omega);have e4:AU (((k % 56*3:Nat):Int)+1)=((k % 56*3+1:Nat):Int):=wn (n:=k % 56*3+1) (by omega);have e5:AU (((k % 56*3:Nat):Int)+2)=((k % 56*3+2:Nat):Int):=wn (n:=k % 56*3+2) (by omega);have l0:=Zy S (3*k);have l1:=Zy S (3*k+1);have l2:=Zy S (3*k+2);rw [show m+(r+1)+1+257=(m+r+1+257)+1 by omega,Ug,Xt];delta QAh mk;dsimp only;simp only [w1,em,e3,e4,e5];rw [Atd (by grind)];by_cases hlt:o.length<256
   ·rw [Atd (by grind [Ua])];by_cases D4:k % 56=0
    ·rw [if_pos D4] at hx;obtain ⟨x',e,hx'⟩:=VBM (n:=168) hSz hx (by omega)
     have e:Zw x 168=_:=e;have nx:(if (k+1) % 56=0 then L9 S (3*(k+1)) x' else ofBytes (up (Ea S (3*k) 168))=ofBytes (up (Ea S (3*(k+1 - (k+1) % 56)) 168))/\L9 S (3*(k+1 - (k+1) % 56)+168) x'):=by grind
     rw [Atd (by simp_all),e,AO];dsimp only;have hs3:(ofBytes (up (Ea S (3*k) 168))).size=168:=by rfl
     have t0:bt (ofBytes (up (Ea S (3*k) 168))) ((k % 56*3:Nat):Int)=((strm S (3*k):Nat):Int):=by rw [Qi,Vq S (by omega),show 3*k+k % 56*3=3*k by omega]
     have t1:bt (ofBytes (up (Ea S (3*k) 168))) ((k % 56*3+1:Nat):Int)=((strm S (3*k+1):Nat):Int):=by rw [Qi,Vq S (by omega),show 3*k+(k % 56*3+1)=3*k+1 by omega]
     have t2:bt (ofBytes (up (Ea S (3*k) 168))) ((k % 56*3+2:Nat):Int)=((strm S (3*k+2):Nat):Int):=by rw [Qi,Vq S (by omega),show 3*k+(k % 56*3+2)=3*k+2 by omega]
     have va:AU (((strm S (3*k):Nat):Int)+AU (256*((strm S (3*k+1):Nat):Int).tmod 16))=((Asr S k:Nat):Int):=by grind [Ar,Asr]
     have vb:AU (AU (((strm S (3*k+1):Nat):Int).tdiv 16)+AU (16*((strm S (3*k+2):Nat):Int)))=((AsC S k:Nat):Int):=by grind [Ar,AsC]
     rw [t0,t1,t2,wn (n:=strm S (3*k)) (by omega),wn (n:=strm S (3*k+1)) (by omega),wn (n:=strm S (3*k+2)) (by omega),va,vb,Atd (by grind),Atd (by grind),Atd (by grind),Atd (by grind),if_pos hlt];by_cases ha:Asr S k<3329
     ·have h1:Qw (Asr S k) o=o++[Asr S k]:=if_pos ⟨ha,hlt⟩;have hl1:(o++[Asr S k]).length=o.length+1:=by simp
      rw [Atd (by grind),Atd (by grind [Ua]),NI];by_cases hb:AsC S k<3329
      ·rw [Atd (by grind)];by_cases hl:(o++[Asr S k]).length<256
       ·have h2:Ar4 S k o=(o++[Asr S k])++[AsC S k]:=by rw [Ar4,h1];exact if_pos ⟨hb,hl⟩
        rw [Atd (by grind [Ua]),Atd (by grind [Ua]),NI,<-h2];exact ih (k+1) m x' _ _ (by omega) (Uh ho) nx
       ·have h2:Ar4 S k o=o++[Asr S k]:=by rw [Ar4,h1];exact if_neg (fun h=>hl h.2)
        rw [PY (by grind [Ua]),<-h2];exact ih (k+1) m x' _ _ (by omega) (Uh ho) nx
      ·have h2:Ar4 S k o=o++[Asr S k]:=by rw [Ar4,h1];exact if_neg (fun h=>hb h.1)
       rw [PY (by grind),<-h2];exact ih (k+1) m x' _ _ (by omega) (Uh ho) nx
     ·have h1:Qw (Asr S k) o=o:=if_neg (fun h=>ha h.1);rw [PY (by grind)];by_cases hb:AsC S k<3329
      ·have h2:Ar4 S k o=o++[AsC S k]:=by rw [Ar4,h1];exact if_pos ⟨hb,hlt⟩
       rw [Atd (by grind),Atd (by grind [Ua]),Atd (by grind [Ua]),NI,<-h2];exact ih (k+1) m x' _ _ (by omega) (Uh ho) nx
      ·have h2:Ar4 S k o=o:=by rw [Ar4,h1];exact if_neg (fun h=>hb h.1)
       rw [PY (by grind)];rw [h2];exact ih (k+1) m x' _ _ (by omega) ho nx
    ·rw [if_neg D4] at hx;obtain ⟨rfl,hx⟩:=hx
     have nx:(if (k+1) % 56=0 then L9 S (3*(k+1)) x else ofBytes (up (Ea S (3*(k - k % 56)) 168))=ofBytes (up (Ea S (3*(k+1 - (k+1) % 56)) 168))/\L9 S (3*(k+1 - (k+1) % 56)+168) x):=by grind
     rw [PY (by grind)];have hs3:(ofBytes (up (Ea S (3*(k - k % 56)) 168))).size=168:=by rfl
     have t0:bt (ofBytes (up (Ea S (3*(k - k % 56)) 168))) ((k % 56*3:Nat):Int)=((strm S (3*k):Nat):Int):=by rw [Qi,Vq S (by omega),show 3*(k - k % 56)+k % 56*3=3*k by omega]
     have t1:bt (ofBytes (up (Ea S (3*(k - k % 56)) 168))) ((k % 56*3+1:Nat):Int)=((strm S (3*k+1):Nat):Int):=by rw [Qi,Vq S (by omega),show 3*(k - k % 56)+(k % 56*3+1)=3*k+1 by omega]
     have t2:bt (ofBytes (up (Ea S (3*(k - k % 56)) 168))) ((k % 56*3+2:Nat):Int)=((strm S (3*k+2):Nat):Int):=by rw [Qi,Vq S (by omega),show 3*(k - k % 56)+(k % 56*3+2)=3*k+2 by omega]
     have va:AU (((strm S (3*k):Nat):Int)+AU (256*((strm S (3*k+1):Nat):Int).tmod 16))=((Asr S k:Nat):Int):=by grind [Ar,Asr]
     have vb:AU (AU (((strm S (3*k+1):Nat):Int).tdiv 16)+AU (16*((strm S (3*k+2):Nat):Int)))=((AsC S k:Nat):Int):=by grind [Ar,AsC]
     rw [t0,t1,t2,wn (n:=strm S (3*k)) (by omega),wn (n:=strm S (3*k+1)) (by omega),wn (n:=strm S (3*k+2)) (by omega),va,vb,Atd (by grind),Atd (by grind),Atd (by grind),Atd (by grind),if_pos hlt];by_cases ha:Asr S k<3329
     ·have h1:Qw (Asr S k) o=o++[Asr S k]:=if_pos ⟨ha,hlt⟩;have hl1:(o++[Asr S k]).length=o.length+1:=by simp
      rw [Atd (by grind),Atd (by grind [Ua]),NI];by_cases hb:AsC S k<3329
      ·rw [Atd (by grind)];by_cases hl:(o++[Asr S k]).length<256
       ·have h2:Ar4 S k o=(o++[Asr S k])++[AsC S k]:=by rw [Ar4,h1];exact if_pos ⟨hb,hl⟩
        rw [Atd (by grind [Ua]),Atd (by grind [Ua]),NI,<-h2];exact ih (k+1) m x _ _ (by omega) (Uh ho) nx
       ·have h2:Ar4 S k o=o++[Asr S k]:=by rw [Ar4,h1];exact if_neg (fun h=>hl h.2)
        rw [PY (by grind [Ua]),<-h2];exact ih (k+1) m x _ _ (by omega) (Uh ho) nx
      ·have h2:Ar4 S k o=o++[Asr S k]:=by rw [Ar4,h1];exact if_neg (fun h=>hb h.1)
       rw [PY (by grind),<-h2];exact ih (k+1) m x _ _ (by omega) (Uh ho) nx
     ·have h1:Qw (Asr S k) o=o:=if_neg (fun h=>ha h.1);rw [PY (by grind)];by_cases hb:AsC S k<3329
      ·have h2:Ar4 S k o=o++[AsC S k]:=by rw [Ar4,h1];exact if_pos ⟨hb,hlt⟩
       rw [Atd (by grind),Atd (by grind [Ua]),Atd (by grind [Ua]),NI,<-h2];exact ih (k+1) m x _ _ (by omega) (Uh ho) nx
      ·have h2:Ar4 S k o=o:=by rw [Ar4,h1];exact if_neg (fun h=>hb h.1)
       rw [PY (by grind)];rw [h2];exact ih (k+1) m x _ _ (by omega) ho nx
   ·rw [PY (by grind [Ua]),if_neg hlt];have hp:=pad (m+r+1) o ho.1;exact hp
 obtain ⟨m,hm⟩:∃ m,AX=m+4000+1+257:=⟨AX - 4258,by rfl⟩
 rw [hm];refine key 4000 0 m ⟨S,0⟩ ⟨#[]⟩ [] (by omega) ⟨DF _,fun _ h=>by cases h⟩ ?_;grind [RAo]
theorem QBn {rho:AA} (h:rho.size<=1000):vC rho=some [up (Hg rho 0 0),up (Hg rho 1 0),up (Hg rho 0 1),up (Hg rho 1 1)]:=by
 have HT:WU rho 0 0=some (up (Hg rho 0 0)):=JAp (i:=0) (j:=0) h (by decide) (by decide);have u10:WU rho 1 0=some (up (Hg rho 1 0)):=JAp (i:=1) (j:=0) h (by decide) (by decide);have HU:WU rho 0 1=some (up (Hg rho 0 1)):=JAp (i:=0) (j:=1) h (by decide) (by decide);have u11:WU rho 1 1=some (up (Hg rho 1 1)):=JAp (i:=1) (j:=1) h (by decide) (by decide);have w0:AU (0+1)=1:=by decide
 have w1:AU (1+1)=2:=by decide
 obtain ⟨m,hm⟩:∃ m,AX=m+9:=⟨AX - 9,rfl⟩
 simp_all [vC,PAv,RAh,QAv,mk]
theorem RBn {s:AA} {n:Nat} (h:s.size<=2000) (hn:n<=4000):jR s (n:Int)=some (ofBytes (up (Ea (sd s) 0 n)),true):=by
 obtain ⟨x',e,_⟩:=VBM (n:=n) (QAo s) (RAo s) hn
 rw [jR,RAv,mk,AuF,AO,DU.2 (by omega),DZ,Aw,UBM h,AO,e];rfl
theorem KAp {seed:AA} {n:Nat} (h:seed.size<=1000) (hn:n<256):WV seed (n:Int)=some (up (AtQ seed n)):=by
 have h1:Nk (n:Int)=some (Asx n):=Oi (by omega) (by omega);have hz:(Asx n).size=1:=by rfl
 have h2:=RBn (s:=seed++Asx n) (n:=128) (by grind) (by omega);have hs:(ofBytes (up (Ea (sd (seed++Asx n)) 0 128))).size=128:=by rfl
 have h2:jR (seed++Asx n) 128=_:=h2;rw [WV,SAv,mk,h1,AO,Atd (by grind),h2,AO];dsimp only;rw [AtQ];generalize ofBytes (up (Ea (sd (seed++Asx n)) 0 128))=s at hs
 have sl:=FC (Hj:=jS) (st:=fun i o=>.c0 s (i:Int) (up o)) (f:=fun i o=>o++[Xu (Lc s (i / 2) / 2 ^ (4*(i % 2)))]) (P:=fun i o=>o.length=i) (n:=256) 1 (fun m i o hi ho=>by
  refine ⟨?_,by simp_all⟩;have hb:=Vp s (i / 2);have w1:AU ((i:Int)+1)=((i+1:Nat):Int):=wn (n:=i+1) (by omega);have e1:AU ((i:Int).tdiv 2)=((i / 2:Nat):Int):=wn (n:=i / 2) (by omega);have e2:(i:Int).tmod 2=((i % 2:Nat):Int):=rfl;have e3:AU ((Lc s (i / 2):Nat):Int)=((Lc s (i / 2):Nat):Int):=wn (by omega);have val:∀ b:Nat,b<256->(AU ((AU ((AU ((AU (((b:Nat):Int).tmod 2+(AU (((b:Nat):Int).tdiv 2)).tmod 2)) - (AU (((b:Nat):Int).tdiv 4)).tmod 2)) - (AU (((b:Nat):Int).tdiv 8)).tmod 2))+3329)).tmod 3329=((Xu b:Nat):Int):=by
   intro b hb;have a1:((b:Nat):Int).tmod 2=((b % 2:Nat):Int):=rfl;have a2:(AU (((b:Nat):Int).tdiv 2)).tmod 2=((b / 2 % 2:Nat):Int):=by rw [show ((b:Nat):Int).tdiv 2=((b / 2:Nat):Int) from rfl,wn (by omega)];rfl
   have a3:(AU (((b:Nat):Int).tdiv 4)).tmod 2=((b / 4 % 2:Nat):Int):=by rw [show ((b:Nat):Int).tdiv 4=((b / 4:Nat):Int) from rfl,wn (by omega)];rfl
   have a4:(AU (((b:Nat):Int).tdiv 8)).tmod 2=((b / 8 % 2:Nat):Int):=by rw [show ((b:Nat):Int).tdiv 8=((b / 8:Nat):Int) from rfl,wn (by omega)];rfl
   rw [a1,a2,a3,a4,Ar (n:=((b % 2:Nat):Int)+((b / 2 % 2:Nat):Int)) (by omega) (by omega),Ar (n:=((b % 2:Nat):Int)+((b / 2 % 2:Nat):Int) - ((b / 4 % 2:Nat):Int)) (by omega) (by omega),Ar (n:=((b % 2:Nat):Int)+((b / 2 % 2:Nat):Int) - ((b / 4 % 2:Nat):Int) - ((b / 8 % 2:Nat):Int)) (by omega) (by omega),Ar (by omega) (by omega),Int.tmod_eq_emod_of_nonneg (by omega),Xu];omega
  rw [jS];simp only [TAv,mk,w1,e1,e2,Qi,e3];rw [Atd (by grind),Ht (by omega)];by_cases h2:i % 2=1;·have e4:AU (((Lc s (i / 2):Nat):Int).tdiv 16)=((Lc s (i / 2) / 16:Nat):Int):=wn (n:=Lc s (i / 2) / 16) (by omega);rw [Atd (by simp_all),FT (by rw [Ua];omega),e4,val _ (by omega),NI,h2]
  ·have h0:i % 2=0:=by omega
   rw [PY (by simp_all),FT (by rw [Ua];omega),val _ hb,NI,h0,Nat.mul_zero,Nat.pow_zero,Nat.div_one])
 obtain ⟨m,hm⟩:∃ m,AX=m+1+256*1:=⟨AX - 257,by rfl⟩
 rw [hm];refine (sl 256 0 (m+1) [] (by omega) rfl).1.trans ?_;rw [ug,jS];rfl
theorem jT {l:List Nat} (h:Aru l):Ui (up l)=some true:=by
 have hl:=h.1
 have s:=FC (Hj:=jU) (st:=fun i (_:Unit)=>.c0 (up l) (i:Int)) (f:=fun _ a=>a) (P:=fun _ _=>True) (n:=256) 1 (fun m i _ hi _=>by
  refine ⟨?_,trivial⟩;have w1:AU ((i:Int)+1)=((i+1:Nat):Int):=wn (n:=i+1) (by omega);have hq:=h.get i;grind [jU,SAh,BU,Ars,Ua,AuF,DU])
 obtain ⟨m,hm⟩:∃ m,AX=m+1+256*1:=⟨AX - 257,by rfl⟩
 rw [Ui,UAv,mk,PY (by simp_all [Ua]),hm];refine (s 256 0 (m+1) () (by omega) trivial).1.trans ?_;simp_all [jU,SAh,mk,Ua]
theorem WBM {n:Nat} (h:n<128):Zz (n:Int)=some ((t7 n:Nat):Int):=by
 have s:=FC (Hj:=vF) (st:=fun i (o:Nat)=>.c0 ((n / 2 ^ i:Nat):Int) (o:Int) (i:Int)) (f:=fun i o=>2*o+n / 2 ^ i % 2) (P:=fun i o=>o<2 ^ i) (n:=7) 1 (fun m i o hi ho=>by
  have hp:2 ^ (i+1)<=2 ^ 7:=Nat.pow_le_pow_right (by decide) hi;have hlt:2*o+n / 2 ^ i % 2<2 ^ (i+1):=by omega
  refine ⟨?_,hlt⟩;have hd:n / 2 ^ i<=n:=Nat.div_le_self _ _;have w1:AU ((i:Int)+1)=((i+1:Nat):Int):=wn (n:=i+1) (by omega);have e1:AU (((n / 2 ^ i:Nat):Int).tdiv 2)=((n / 2 ^ (i+1):Nat):Int):=by rw [show ((n / 2 ^ i:Nat):Int).tdiv 2=((n / 2 ^ i / 2:Nat):Int) from rfl,Nat.div_div_eq_div_mul,<-Nat.pow_succ];exact wn (Nat.lt_of_le_of_lt (Nat.div_le_self _ _) (by omega))
  have e2:((n / 2 ^ i:Nat):Int).tmod 2=((n / 2 ^ i % 2:Nat):Int):=rfl;have GQ:(2:Nat) ^ 7=128:=rfl;have e3:AU (2*(o:Int))=((2*o:Nat):Int):=wn (n:=2*o) (by omega);have e4:AU (((2*o:Nat):Int)+((n / 2 ^ i % 2:Nat):Int))=((2*o+n / 2 ^ i % 2:Nat):Int):=wn (n:=2*o+n / 2 ^ i % 2) (by omega);grind [vF,WAv])
 obtain ⟨m,hm⟩:∃ m,AX=m+1+7*1:=⟨AX - 8,rfl⟩
 have e0:(n:Int).tmod 128=((n / 2 ^ 0:Nat):Int):=by grind
 rw [Zz,VAv,mk,e0,PY (by rfl),hm];refine (s 7 0 (m+1) 0 (by omega) (by decide)).1.trans ?_;rfl
theorem XBM {e:Nat} (he:e<1024):Z4 17 (e:Int)=some ((Xd e:Nat):Int):=by
 have key:∀ (k b e o m:Nat),e<2 ^ k->b<3329->o<3329->e<1024->vG (m+k+1) (.c0 (b:Int) (e:Int) (o:Int))=some ((Xv k b e o:Nat):Int):=by
  intro k;induction k with
  | zero=>
   intro b e o m h _ _ _;obtain rfl:e=0:=by omega
   rfl
  | succ k ih=>
   intro b e o m h hb ho he;rw [ArJ m k,vG,Xv];simp only [YAv,mk];by_cases h0:e=0;·simp_all
   ·have e1:AU ((e:Int).tdiv 2)=((e / 2:Nat):Int):=wn (n:=e / 2) (by omega);have e2:(e:Int).tmod 2=((e % 2:Nat):Int):=rfl;rw [Atd (by grind),e1,e2,ZX hb hb,ZX ho hb,if_neg h0];have hk:e / 2<2 ^ k:=by omega
    by_cases h1:e % 2=1;·rw [if_pos h1,h1,Atd (by rfl)];exact ih _ _ _ _ hk (Nat.mod_lt _ (by decide)) (Nat.mod_lt _ (by decide)) (by omega)
    ·rw [if_neg h1,PY (by simp_all)];exact ih _ _ _ _ hk (Nat.mod_lt _ (by decide)) ho (by omega)
 obtain ⟨m,hm⟩:∃ m,AX=m+10+1:=⟨AX - 11,rfl⟩
 rw [Z4,XAv,mk,AuF,AO,DU.2 (by omega),DZ,Aw,PY (by decide),hm];exact key 10 17 e 1 m he (by decide) (by decide) he
theorem SBn {p:List Nat} (h:Aru p):Xw (up p)=some (up (jV p)):=by
 have inner:∀ (k size start z:Nat) (m:Nat) (o:List Nat),0<size->start+2*size<=256->z<3329->Aru o->Pm (m+size*1) (.c2 (k:Int) (size:Int) (start:Int) (z:Int) (start:Int) (up o))=Pm m (.c2 (k:Int) (size:Int) (start:Int) (z:Int) ((start+size:Nat):Int) (up (ArR (fun j o=>jW z size (start+j) o) size 0 o))):=fun k size start z m o hs hst hz ho=>(FC (Hj:=Pm) (st:=fun j o=>.c2 (k:Int) (size:Int) (start:Int) (z:Int) ((start+j:Nat):Int) (up o)) (f:=fun j o=>jW z size (start+j) o) (P:=fun _ o=>Aru o) (n:=size) 1 (fun m j o hj ho=>by
  refine ⟨?_,WA7 ho _ _ _⟩;have hl:=ho.1;have h1:=ho.get (start+j);have h2:=ho.get (start+j+size);have e1:AU (((start+j:Nat):Int)+1)=((start+(j+1):Nat):Int):=wn (n:=start+(j+1)) (by omega);have e2:AU (((start+j:Nat):Int)+(size:Int))=((start+j+size:Nat):Int):=wn (n:=start+j+size) (by omega);have e3:AU ((start:Int)+(size:Int))=((start+size:Nat):Int):=wn (n:=start+size) (by omega);rw [Pm];simp only [Z5,mk,e1,e2,e3,BU,Ars];rw [ZX hz h2];have ht:z*o.getD (start+j+size) 0 % 3329<3329:=Nat.mod_lt _ (by decide);have e4:(AU (AU (((o.getD (start+j) 0:Nat):Int) - ((z*o.getD (start+j+size) 0 % 3329:Nat):Int))+3329)).tmod 3329=(((o.getD (start+j) 0+3329 - z*o.getD (start+j+size) 0 % 3329) % 3329:Nat):Int):=by grind [Ar]
  rw [e4,JF,Ars,getD_set_ne (show start+j≠start+j+size by omega)];have e5:(AU (((o.getD (start+j) 0:Nat):Int)+((z*o.getD (start+j+size) 0 % 3329:Nat):Int))).tmod 3329=(((o.getD (start+j) 0+z*o.getD (start+j+size) 0 % 3329) % 3329:Nat):Int):=by grind [Ar]
  rw [e5,JF,Atd (by simp_all),Atd (Auw (by omega)),Atd (Auw (by omega)),Atd (Auw (by omega)),Atd (Auw (by grind)),Atd (Auw (by grind))];rfl) size 0 m o (by omega) ho).1
 have level:∀ (k0 size c:Nat) (m:Nat) (o:List Nat),1<size->size*c=128->k0=c->Aru o->Pm (m+1+c*(size+2)+1) (.c0 (k0:Int) (size:Int) (up o))=Pm m (.c0 ((k0+c:Nat):Int) ((size / 2:Nat):Int) (up (Uj k0 size c o))):=by
  intro k0 size c m o hs hc hk ho;have hsc:size<=128/\c<=64:=by refine ⟨Nat.le_of_dvd (by decide) ⟨c,hc.symm⟩,?_⟩;have h2:2*c<=size*c:=Nat.mul_le_mul_right c hs;omega
  have s:=FC (Hj:=Pm) (st:=fun i o=>.c1 ((k0+i:Nat):Int) (size:Int) ((2*size*i:Nat):Int) (up o)) (f:=UAo k0 size) (P:=fun _ o=>Aru o) (n:=c) (size+2) (fun m i o hi ho=>by
   refine ⟨?_,XA7 ho _ _ _⟩;have hb:size*(i+1)<=size*c:=Nat.mul_le_mul_left size hi;have hb2:2*size*i=2*(size*i):=Nat.mul_assoc 2 size i;have hb3:2*size*(i+1)=2*size*i+2*size:=Nat.mul_succ _ _;rw [Nat.mul_succ] at hb;have e1:AU (((k0+i:Nat):Int)+1)=((k0+(i+1):Nat):Int):=wn (n:=k0+(i+1)) (by omega);have e2:AU (2*(size:Int))=((2*size:Nat):Int):=wn (n:=2*size) (by omega);have e3:AU (((2*size*i:Nat):Int)+((2*size:Nat):Int))=((2*size*(i+1):Nat):Int):=by grind [wn]
   have e4:AU (((2*size*i:Nat):Int)+(size:Int))=((2*size*i+size:Nat):Int):=wn (n:=2*size*i+size) (by omega);have h7:=TAo (k0+i);rw [show m+(size+2)=m+1+size*1+1 by omega,Pm];simp only [Z5,mk,e1];rw [Atd (by grind),WBM (n:=k0+i) (by omega),AO,XBM (e:=t7 (k0+i)) (by omega),AO];refine (inner (k0+(i+1)) size (2*size*i) _ (m+1) o (by omega) (by omega) (SAo _) ho).trans ?_;rw [Pm];simp only [Z5,mk,e2,e3,e4];rw [PY (by simp)];rfl)
  rw [Pm];simp only [Z5,mk];rw [Atd (by grind)];refine (s c 0 (m+1) o (by omega) ho).1.trans ?_;have hb2:2*size*c=256:=by grind
  have e5:AU ((size:Int).tdiv 2)=((size / 2:Nat):Int):=wn (n:=size / 2) (by omega);rw [Pm];simp only [Z5,mk,e5];rw [PY (by simp_all)];rfl
 have hl:=h.1;obtain ⟨m,hm⟩:∃ m,AX=m+1+1+64*(2+2)+1+1+32*(4+2)+1+1+16*(8+2)+1+1+8*(16+2)+1+1+4*(32+2)+1+1+2*(64+2)+1+1+1*(128+2)+1:=⟨AX - 1165,by rfl⟩
 rw [Xw,ZAv,mk,jT h,AO,DZ,Aw,Atd (by simp_all [Ua]),hm];try rw [List.nil_append]
 have o1:=Au7 h 1 128 1;have o2:=Au7 o1 2 64 2;have o3:=Au7 o2 4 32 4;have o4:=Au7 o3 8 16 8;have o5:=Au7 o4 16 8 16;have o6:=Au7 o5 32 4 32;refine (level 1 128 1 _ p (by omega) rfl rfl h).trans ?_;refine (level 2 64 2 _ _ (by omega) rfl rfl o1).trans ?_;refine (level 4 32 4 _ _ (by omega) rfl rfl o2).trans ?_;refine (level 8 16 8 _ _ (by omega) rfl rfl o3).trans ?_;refine (level 16 8 16 _ _ (by omega) rfl rfl o4).trans ?_;refine (level 32 4 32 _ _ (by omega) rfl rfl o5).trans ?_;refine (level 64 2 64 (m+1) _ (by omega) rfl rfl o6).trans ?_;rfl
theorem RA8 {n:Nat} (h:n<=12):Xx (n:Int)=some ((2 ^ n:Nat):Int):=by
 have s:=FC (Hj:=jX) (st:=fun i (o:Nat)=>.c0 (n:Int) (o:Int) (i:Int)) (f:=fun _ o=>2*o) (P:=fun i o=>o=2 ^ i) (n:=n) 1 (fun m i o hi ho=>by
  have hp:2 ^ (i+1)<=2 ^ 12:=Nat.pow_le_pow_right (by decide) (by omega);grind [wn,jX,UAh])
 obtain ⟨m,hm⟩:∃ m,AX=m+1+n*1:=⟨AX - (1+n),by have:=FP (n:=1+n) (by omega);omega⟩
 rw [Xx,AKQ,hm];obtain ⟨a1,a2⟩:=s n 0 (m+1) 1 (by omega) rfl
 simp_all [jX,UAh,mk]
theorem TBn {l:List Nat} (h:Aru l):VAh (up l) 12=some (Ls l,true):=by
 have hl:=h.1;have t12:Xx 12=some 4096:=RA8 (n:=12) (by omega);have t0:Xx 0=some 1:=RA8 (n:=0) (by omega);have t4:Xx 4=some 16:=RA8 (n:=4) (by omega)
 have s0:=FC (Hj:=Aum) (st:=fun i (_:Unit)=>.c0 (up l) 12 (i:Int)) (f:=fun _ a=>a) (P:=fun _ _=>True) (n:=256) 1 (fun m i _ hi _=>by
  refine ⟨?_,trivial⟩;have w1:AU ((i:Int)+1)=((i+1:Nat):Int):=wn (n:=i+1) (by omega);have hq:=h.get i;rw [Aum];simp only [Asa,mk,w1,BU,Ars];rw [Atd (by grind [Ua]),Atd (Auw (by omega)),t12,AO,AuF,AO,show AU (4096 - 1)=4095 by decide,DU.2 (by omega),DZ,Aw])
 have s1:=FC (Hj:=Aum) (st:=fun q o=>.c1 (up l) 12 0 0 ((2*q:Nat):Int) (up o)) (f:=fun q o=>o++[Auq l (3*q)]++[Auq l (3*q+1)]++[Auq l (3*q+2)]) (P:=fun q o=>o.length=3*q) (n:=128) 7 (fun m q o hq ho=>by
  refine ⟨?_,by grind⟩;have hx:=h.get (2*q);have hy:=h.get (2*q+1);have w1:AU (((2*q:Nat):Int)+1)=((2*q+1:Nat):Int):=wn (n:=2*q+1) (by omega);have w2:AU (((2*q+1:Nat):Int)+1)=((2*(q+1):Nat):Int):=wn (n:=2*(q+1)) (by omega);have p0:=ASl l q;have p1:=BBK l q;have p2:=CBK l q;rw [show m+7=m+1+1+1+1+1+1+1 from rfl,Aum];simp only [Asa,mk,BU,Ars];rw [Atd (by grind [Ua]),Atd (Auw (by omega)),t0,AO];generalize l.getD (2*q) 0=x at hx p0 p1;have hl2:∀ k,(up (o++[k])).length=o.length+1:=fun k=>by simp [Ua]
  rw [show AU ((x:Int)*1)=(x:Int) by grind [wn],show AU (0+(x:Int))=(x:Int) by grind [wn],show AU (0+12)=12 by decide,Aum];simp only [Asa,mk];rw [Atd (by rfl),Atd (by grind [Ua]),show AU ((x:Int).tdiv 256)=((x / 256:Nat):Int) from wn (n:=x / 256) (by omega),show AU (12 - 8)=4 by decide,show w8 ((x:Int).tmod 256)=((Auq l (3*q):Nat):Int) by grind [MX],NI,Aum];simp only [Asa,mk,w1];rw [PY (by rfl),Aum];simp only [Asa,mk,BU,Ars];rw [Atd (by grind [Ua]),Atd (Auw (by omega)),t4,AO];generalize l.getD (2*q+1) 0=y at hy p1 p2;have e16:AU ((y:Int)*16)=((y*16:Nat):Int):=wn (n:=y*16) (by omega);have eh:AU (((x / 256:Nat):Int)+((y*16:Nat):Int))=((x / 256+y*16:Nat):Int):=wn (n:=x / 256+y*16) (by omega);have d1:(x / 256+y*16) % 256=Auq l (3*q+1):=by omega
  have d2:(x / 256+y*16) / 256=Auq l (3*q+2):=by omega
  have hp2:Auq l (3*q+2)<256:=by omega
  rw [e16,eh,show AU (4+12)=16 by decide,Aum];simp only [Asa,mk];rw [Atd (by rfl),Atd (by grind),show AU (((x / 256+y*16:Nat):Int).tdiv 256)=((Auq l (3*q+2):Nat):Int) by rw [show ((x / 256+y*16:Nat):Int).tdiv 256=(((x / 256+y*16) / 256:Nat):Int) from rfl,d2];exact wn (by omega),show AU (16 - 8)=8 by decide,show w8 (((x / 256+y*16:Nat):Int).tmod 256)=((Auq l (3*q+1):Nat):Int) by grind [MX],NI,Aum];simp only [Asa,mk];rw [Atd (by rfl),Atd (by grind [Ua]),show AU (((Auq l (3*q+2):Nat):Int).tdiv 256)=0 by rw [show ((Auq l (3*q+2):Nat):Int).tdiv 256=((Auq l (3*q+2) / 256:Nat):Int) from rfl,Nat.div_eq_of_lt hp2];decide,show AU (8 - 8)=0 by decide,show w8 (((Auq l (3*q+2):Nat):Int).tmod 256)=((Auq l (3*q+2):Nat):Int) by grind [MX],NI,Aum];simp_all [Asa,mk])
 obtain ⟨m,hm⟩:∃ m,AX=(m+1+128*7)+1+256*1:=⟨AX - 1154,by rfl⟩
 rw [VAh,BAw,mk,AuF,AO,DU.2 (by omega),DZ,Aw,hm];refine (s0 256 0 _ () (by omega) trivial).1.trans ?_;rw [Aum];simp only [Asa,mk];rw [PY (by simp_all [Ua])];refine (s1 128 0 (m+1) [] (by omega) rfl).1.trans ?_;rw [DBK (Auq l),show 3*128=384 from rfl,Nat.mul_zero,ug,Aum];simp only [Asa,mk];rw [PY (by simp_all [Ua]),PY (by rfl)];rfl
theorem YBM {l:List Nat} (h:Aru l):Z7 (up l)=some (Ls l):=by simp_all [Z7,CAw,mk,jT,TBn]
theorem ZBM {a b:List Nat} (ha:Aru a) (hb:Aru b):vH (up a) (up b)=some (up (mulL a b)):=by
 have hal:=ha.1;have hbl:=hb.1
 have s:=FC (Hj:=jY) (st:=fun i o=>.c0 (up a) (up b) (i:Int) (up o)) (f:=fun i o=>o++[N8 a b (2*i),N8 a b (2*i+1)]) (P:=fun i o=>o.length=2*i) (n:=128) 1 (fun m i o hi ho=>by
  refine ⟨?_,by grind⟩;have h7:=TAo i;have w1:AU ((i:Int)+1)=((i+1:Nat):Int):=wn (n:=i+1) (by omega);have e1:AU (2*(i:Int))=((2*i:Nat):Int):=wn (n:=2*i) (by omega);have e2:AU (((2*i:Nat):Int)+1)=((2*i+1:Nat):Int):=wn (n:=2*i+1) (by omega);have e3:AU (2*((t7 i:Nat):Int))=((2*t7 i:Nat):Int):=wn (n:=2*t7 i) (by omega);have e4:AU (((2*t7 i:Nat):Int)+1)=((2*t7 i+1:Nat):Int):=wn (n:=2*t7 i+1) (by omega);have g:=SAo (2*t7 i+1);have a0:=ha.get (2*i);have a1:=ha.get (2*i+1);have b0:=hb.get (2*i);have b1:=hb.get (2*i+1);have p00:=mul_lt a0 b0;have p11:=mul_lt a1 b1;have p01:=mul_lt a0 b1;have p10:=mul_lt a1 b0;have hm:a.getD (2*i+1) 0*b.getD (2*i+1) 0 % 3329<3329:=Nat.mod_lt _ (by decide);have pg:=mul_lt hm g;rw [jY];simp only [EAw,mk,w1,e1,e2,BU,Ars];rw [Atd (by grind),WBM (by omega),AO,e3,e4,XBM (by omega),AO,ZX a1 b1,Xc hm g,Xc a0 b0,Xc a0 b1,Xc a1 b0];have v1:(AU (((a.getD (2*i) 0*b.getD (2*i) 0:Nat):Int)+((a.getD (2*i+1) 0*b.getD (2*i+1) 0 % 3329*Xd (2*t7 i+1):Nat):Int))).tmod 3329=((N8 a b (2*i):Nat):Int):=by grind [SBJ,wn]
  have v2:(AU (((a.getD (2*i) 0*b.getD (2*i+1) 0:Nat):Int)+((a.getD (2*i+1) 0*b.getD (2*i) 0:Nat):Int))).tmod 3329=((N8 a b (2*i+1):Nat):Int):=by grind [TBJ,wn]
  grind [up])
 obtain ⟨m,hm⟩:∃ m,AX=m+1+128*1:=⟨AX - 129,by rfl⟩
 rw [vH,DAw,mk,jT ha,AO,DZ,Aw,jT hb,AO,DZ,Aw,hm];refine (s 128 0 (m+1) [] (by omega) rfl).1.trans ?_;rw [VBJ,show 2*128=256 from rfl,Nat.mul_zero,ug,jY];rfl
theorem SA8 {a b:List Nat} (ha:Aru a) (hb:Aru b):Xy (up a) (up b)=some (up (Za a b)):=by
 have hal:=ha.1;have hbl:=hb.1
 have s:=FC (Hj:=jZ) (st:=fun i o=>.c0 (up a) (up b) (i:Int) (up o)) (f:=fun i o=>o++[(a.getD i 0+b.getD i 0) % 3329]) (P:=fun i o=>o.length=i) (n:=256) 1 (fun m i o hi ho=>by
  refine ⟨?_,by simp_all⟩;have w1:AU ((i:Int)+1)=((i+1:Nat):Int):=wn (n:=i+1) (by omega);have a0:=ha.get i;have b0:=hb.get i;have v:(AU (((a.getD i 0:Nat):Int)+((b.getD i 0:Nat):Int))).tmod 3329=(((a.getD i 0+b.getD i 0) % 3329:Nat):Int):=by rw [<-Int.natCast_add,wn (by omega)];rfl
  rw [jZ];simp only [GAw,mk,w1,BU,Ars];rw [Atd (by grind),jT ha,AO,A8,jT hb,AO,A8,v,Atd (Auw (by omega)),Atd (Auw (by omega)),Atd (by grind [Ua]),NI])
 obtain ⟨m,hm⟩:∃ m,AX=m+1+256*1:=⟨AX - 257,by rfl⟩
 rw [Xy,FAw,hm];refine (s 256 0 (m+1) [] (by omega) rfl).1.trans ?_;rw [ug (fun i=>(a.getD i 0+b.getD i 0) % 3329),jZ];rfl
theorem UBn {a0 a1 b0 b1:List Nat} (ha0:Aru a0) (ha1:Aru a1) (hb0:Aru b0) (hb1:Aru b1):Uk [up a0,up a1] [up b0,up b1]=some (up (XAo a0 a1 b0 b1)):=by
 obtain ⟨m,hm⟩:∃ m,AX=m+1+1+1:=⟨AX - 3,rfl⟩
 rw [Uk,HAw,mk,hm,show (256:Int).toNat=256 from rfl,<-UO,jc];simp only [WAh,mk];rw [Atd (by rfl),Atd (by rfl),Atd (by rfl),show ([up a0,up a1]:List (List Int)).getD (0:Int).toNat []=up a0 from rfl,show ([up b0,up b1]:List (List Int)).getD (0:Int).toNat []=up b0 from rfl,ZBM ha0 hb0,AO,SA8 XBJ (VAo _ _),AO,show AU (0+1)=1 by decide,jc];simp only [WAh,mk];rw [Atd (by rfl),Atd (by rfl),Atd (by rfl),show ([up a0,up a1]:List (List Int)).getD (1:Int).toNat []=up a1 from rfl,show ([up b0,up b1]:List (List Int)).getD (1:Int).toNat []=up b1 from rfl,ZBM ha1 hb1,AO,SA8 (WAo _ _) (VAo _ _),AO,show AU (1+1)=2 by decide,jc];rfl
theorem ATt {seed:AA} (h:seed.size=32):vI seed=some (⟨Uw seed,Auv seed⟩,true):=by
 have z0:(⟨#[]⟩:AA).size=0:=rfl;have z1:(⟨#[114]⟩:AA).size=1:=rfl;have z2:(⟨#[115]⟩:AA).size=1:=rfl;have z3:(⟨#[122]⟩:AA).size=1:=rfl;have hd:=IQ seed;have hrs:(JU seed).size=32:=IQ _;have hss:(JV seed).size=32:=IQ _;have hps:=FBK seed;have hr:As0 (Auo seed++⟨#[114]⟩)=some (JU seed):=ArI (by simp_all);have hs:As0 (Auo seed++⟨#[115]⟩)=some (JV seed):=ArI (by simp_all);have hzz:As0 (Auo seed++⟨#[122]⟩)=some (Auo (Auo seed++⟨#[122]⟩)):=ArI (by simp_all);have hpp:As0 (Uw seed)=some (Auo (Uw seed)):=ArI (by omega);have m0:WV (JV seed) 0=some (up (AtQ (JV seed) 0)):=KAp (n:=0) (by omega) (by decide);have m1:WV (JV seed) 1=some (up (AtQ (JV seed) 1)):=KAp (n:=1) (by omega) (by decide);have m2:WV (JV seed) 2=some (up (AtQ (JV seed) 2)):=KAp (n:=2) (by omega) (by decide);have m3:WV (JV seed) 3=some (up (AtQ (JV seed) 3)):=KAp (n:=3) (by omega) (by decide);have n0:∀ i,Xw (up (AtQ (JV seed) i))=some (up (pS seed i)):=fun i=>SBn (gY _ _)
 have b0:∀ i,Z7 (up (pS seed i))=some (Ls (pS seed i)):=fun i=>YBM (Xg _ _)
 have d0:∀ i,Uk [up (Hg (JU seed) 0 i),up (Hg (JU seed) 1 i)] [up (pS seed 0),up (pS seed 1)]=some (up (Ze seed i)):=fun i=>UBn (YAo _ _ _) (YAo _ _ _) (Xg _ _) (Xg _ _)
 have a0:∀ i,Xy (up (Ze seed i)) (up (pS seed (2+i)))=some (up (pT seed i)):=fun i=>SA8 (WBJ _ _ _ _) (Xg _ _)
 have t0:∀ i,Z7 (up (pT seed i))=some (Ls (pT seed i)):=fun i=>YBM (EBK _ _)
 have w0:AU (0+1)=1:=by decide
 have w1:AU (1+1)=2:=by decide
 have w2:AU (2+0)=2:=by decide
 have w3:AU (2+1)=3:=by decide
 obtain ⟨m,hm⟩:∃ m,AX=m+6:=⟨AX - 6,rfl⟩
 rw [vI,IAw,mk,PY (by simp_all),ArI (by omega),AO,Atd (by rfl),hr,AO,Atd (by rfl),hs,AO,QBn (by omega),AO,hm];rw [WW];simp only [Xz,mk];rw [Atd (by rfl),m0,AO,n0,AO,Atd (by rfl),b0,AO,Atd (by rfl),w0];rw [WW];simp only [Xz,mk];rw [Atd (by rfl),m1,AO,n0,AO,Atd (by rfl),b0,AO,Atd (by simp_all [Rw]),w1];rw [WW];simp only [Xz,mk];rw [PY (by rfl)];rw [WW];simp only [Xz,mk];rw [Atd (by rfl),Atd (by rfl)];show (Uk [up (Hg (JU seed) 0 0),up (Hg (JU seed) 1 0)] [up (pS seed 0),up (pS seed 1)]).bind _=_;rw [d0,AO,w2,m2,AO,n0,AO,a0 0,AO,t0,AO,Atd (by rfl),w0];rw [WW];simp only [Xz,mk];rw [Atd (by rfl),Atd (by rfl)];show (Uk [up (Hg (JU seed) 0 1),up (Hg (JU seed) 1 1)] [up (pS seed 0),up (pS seed 1)]).bind _=_;rw [d0,AO,w3,m3,AO,n0,AO,a0 1,AO,t0,AO,Atd (by simp_all [Rw]),w1];rw [WW];simp only [Xz,mk];rw [PY (by rfl),Atd (by simp_all [Rw])];rw [show ((⟨#[]⟩:AA)++Ls (pT seed 0)++Ls (pT seed 1))++JU seed=Uw seed from rfl,Atd (by simp_all [Rw]),hpp,AO,Atd (by simp_all [IQ,Rw]),Atd (by rfl),hzz,AO,Atd (by simp_all [IQ,Rw])];rfl
theorem VBn {s t:AA} (h:t.size≠768):jd s t=some (⟨#[]⟩,false):=by rw [jd,SAw,mk,RAw,QAw,mk,PAw,NAw,mk,show ((t.size:Int) != 768)=true from bne_iff_ne.2 (by omega)];simp
theorem WBn (x:Ah) (h f:Bool):XAh x h f=some (UR x h f):=by rw [XAh,TAw,mk,tu,AO,UR];cases AuI x <;> cases x.CY <;> cases x.CZ <;> cases h <;> cases f <;> rfl
theorem XBn {s:AA} (hs:s.size<=1000):YAh s=some (Aut (s++⟨#[116]⟩)):=by have z:(⟨#[116]⟩:AA).size=1:=rfl;rw [YAh,UAw,mk,Atd (by grind),NBM (by grind)];rfl
theorem YBn (x:Ah):ZAh x=some (sZ x):=by rw [ZAh,VAw,mk,tu,AO,sZ];grind [ATt,gu,XBn]
theorem ZBn {tk:AA->AA×Bool} {b:Aj} {c:CJ} {x:Ah} (h:PB b) (hc:c.fText.size<=1000) (hx:AtT b.AV.Ag x.fId=some x) (htk:c.Au=12->∀ v:AA,v.size=32->jd (Auv v) c.fText=some (tk (Auv v))):ADw b c x=some (Zf tk b c x):=by
 have hk:(AuA b).size<=900000000:=by simp [AuA,IQ]
 rw [ADw,WAw,mk,Zf];simp only [Ac7,tH,DA8 h.key,EA8 hk,WBn,YBn,AO];cases c.Au == 6
 ·cases c.Au == 5
  ·cases c.Au == 10
   ·cases h12:c.Au == 12
    ·cases c.Au == 8
     ·cases c.Au == 7;·cases c.Au == 9 <;> rfl
      ·rfl
     ·rw [A8,A8];cases (UR x c.CY c.CZ).2 <;> rfl
    ·rw [A8,A8];cases hm:At9 x 4;·rfl
     ·obtain ⟨h1,h2⟩:=JBK hm
      have hv:=gu h1 (.inl h2);rw [ATt hv,AO];dsimp only;rw [htk (beq_iff_eq.1 h12) _ hv,AO];simp only [A8,Aw];cases (tk (Auv x.fValue)).2 <;> rfl
   ·rw [A8,A8];cases At9 x 2 <;> rfl
  ·rw [A8,A8];cases hm:At9 x 3;·rfl
   simp_all [JBn]
 ·rw [A8,A8];cases At9 x 1 <;> rfl
theorem Adc {tk:AA->AA×Bool} {b:Aj} {c:CJ} (h:PB b) (hc:AuR c=true) (htk:c.Au=12->∀ v:AA,v.size=32->jd (Auv v) c.fText=some (tk (Auv v))):TG b c=some (F9 tk b c):=by
 have hs:=h.LM;have ht:=h.things;have ho:=h.opn;have hl:=h.last;have hz:=IBI hc;have h5:=(Asq.1 h.Ol).2.2.1;have hd:=HBK (b.AV.BR+1);have h32:(⟨#[32]⟩:AA).size=1:=rfl;rw [TG,XAw,mk,F9,VBm (by omega),Ar (n:=b.CU+1) (by omega) (by omega),PA8 (n:=b.CU+1) (by omega),show decide ((b.BI.length:Int)>=3)=((b.BI.length:Int) == 3) by grind,show decide (b.CU>=1000)=(b.CU == 1000) by grind];cases c.Au == 1
 ·rw [Aw,Aw,AO];by_cases ha:IU b c.Dz<0;·rw [Bg ha];rfl
  ·rw [D5 ha,Aw,Aw];have hlt:IU b c.Dz<(b.BI.length:Int):=by
    rw [IU] at ha ⊢;cases hp:AsY b.BI c.Dz 0 with
    | none=>simp_all
    | some j=>have:=(XAn hp).2;simp_all
   cases c.Au == 13
   ·rw [Aw,Aw];cases c.Au == 2
    ·rw [Aw,Aw,Ht (by omega)];cases (b.BI.getD (IU b c.Dz).toNat ⟨0,false⟩).RS;·rfl
     ·rw [DZ,Aw,Aw];cases c.Au == 3
      ·rw [Aw,Aw];cases c.Au == 4
       ·rw [Aw,Aw];cases c.Au == 11
        ·rw [Aw,Aw,je (by omega),AO];cases hx:AtT b.AV.Ag c.BK with
         | none=>rfl
         | some x=>
          dsimp only;rw [DZ,Aw,ZBn h hz (by rw [(Vh hx).1];exact hx) htk];rfl
        simp_all [ZBm]
       grind [BAp,ZAo,Ar,PA8,IBi,FBM]
      ·rw [A8,A8,ArI (by omega)];cases decide ((c.fText.size:Int) > 20) <;> rfl
    grind [WBm]
   ·rfl
 ·rw [A8,A8];cases (b.BI.length:Int) == 3 <;> cases b.CU == 1000 <;> rfl
theorem BBo {F:AA} {n:Int} {z:List Int} {v out:List BQ} {m:Nat}:vJ (m+1) (.c0 z 1 (dk F n) v out)=some (⟨out⟩,true):=rfl
theorem CBo {d e c:BO} {T:AA} {z:List Int} (hT:T.size<=20000) (hd:d.Ai.length*40<=140737488351232) (ha:ArV d ⟨1,Qa,T,⟨#[]⟩⟩=(e,true)) (h:vK e z=some (c,true)):vM d (Vr T) 1 z=some (c,true):=by
 have e1:IY d [⟨1,Qa,T,⟨#[]⟩⟩] 0=(e,1):=by simp_all [IY]
 rw [vM,AKk,mk,AuF,AO,show AvO 1 0 ((Vr T).length:Int)=true from rfl,DZ,Aw,Atd (by rfl),show ((Vr T).take (1:Int).toNat).drop 0=[⟨1,Qa,T,⟨#[]⟩⟩] from rfl,SAm (l:=[⟨1,Qa,T,⟨#[]⟩⟩]) hd (show (1:Nat)<=140737488351232 by omega) (fun a ha=>by grind),AO,e1];simp_all
theorem BBN {d:BO} {n:AA} (h0:d.Ai.length<=140737488351232):jf d n=some (Atr d n):=by
 rw [jf,BAx,mk,KA5 h0,AO,AsZ,Atr];cases h:Arr d.Ai n 0 with
 | none=>rfl
 | some j=>
  have:=Z8 h;simp_all [PY]
theorem LAp (f:AA) {a b c:Nat} (h:a<=b) (h2:b<=c) (h3:c<=f.size):bs (f.extract a c)=bs (f.extract a b)++bs (f.extract b c):=by rw [AvE,AvE,AvE,List.drop_take,List.drop_take,List.drop_take];rw [show (bs f).drop b=((bs f).drop a).drop (b - a) by simp_all];rw [show c - a=(b - a)+(c - b) by omega,List.take_add]
theorem DBo {f:AA} (hf:f.size<=140737488351232):vN f=some (Qu f):=by
 rw [vN,CAx,mk,Qu];by_cases h0:20000<f.size;·grind
 ·rw [PY (by grind),PY (by grind)];have key:∀ (j a m:Nat) (out:List AA),a<=f.size->f.size<a+j->out.length<=a->vO (m+j+1) (.c0 f (a:Int) out)=some (out++(AuP j f a).1,((AuP j f a).2:Int)):=by
   intro j;induction j with
   | zero=>omega
   | succ j ih=>
    intro a m out ha hj ho;rw [show m+(j+1)+1=(m+j+1)+1 by omega,vO];simp only [DAx,mk,AuP];by_cases he:a=f.size;·grind [jg]
    ·rw [Atd (by grind),MBG hf ha,AO];rcases tZ hf ha with h | ⟨v,h,hv0,hv1,hA⟩
     ·rw [show AtG f a=none by rw [AtG,h];rfl,h];rw [List.append_nil];rfl
     ·have hp:=Rk v;have hsz:=hA.size.resolve_left (by grind);have hn:=jg hf ha;have hex:bs (f.extract a (a+(Atn v).length))=Atn v:=by rw [hA.extract (Aq9 v hv0),At6 (Aq9 v hv0)]
      rw [h] at hn ⊢;generalize hq:a+(Atn v).length=q at hsz hn hex;simp only [DZ,Aw];rw [Ar (n:=(f.size:Int) - (q:Int)) (by omega) (by omega),Ar (n:=(f.size:Int) - (q:Int) - 4) (by omega) (by omega),Ar (n:=(q:Int)+4) (by omega) (by omega),Ar (n:=(q:Int)+4+v) (by omega) (by omega)];by_cases h3:v > (f.size:Int) - (q:Int) - 4;·grind
      ·have e2:((q:Int)+4).toNat=q+4:=by omega
       have e3:((q:Int)+4+v).toNat=q+4+v.toNat:=by omega
       have hxs:(f.extract (q+4) (q+4+v.toNat)).size=v.toNat:=by grind [ByteArray.size_extract]
       rw [PY (by simp_all),Atd (by grind),e2,e3,BU,HA5 (by omega),AO,frameT,hxs];rcases hn with hn | ⟨v',q',he',_,_,h5,h6,h4,hA',hb,hn⟩
       ·rw [hn,List.append_nil];cases hr:AvO ((v.toNat:Nat):Int) 1 9000;·rfl
        ·rw [A8,PY (by rfl),Atd (by simp;omega)];rw [Atd];rw [Bool.not_eq_true',Vk,At6 (vP (Si _)),beq_eq_false_iff_ne];intro hc;rw [Gp,bs_len,hxs,show ((v.toNat:Nat):Int)=v by omega,LAp f (a:=a) (b:=q) (by omega) (by omega) (by omega),hex,LAp f (a:=q) (b:=q+4) (by omega) (by omega) (by omega)] at hc;have hc2:=(List.append_inj (List.append_cancel_left hc) (by simp_all)).1;grind [AtG]
       ·simp only [Prod.mk.injEq,and_true] at he';obtain ⟨rfl,he'⟩:=he'
        have:q=q':=by omega
        subst this;have hr:AvO ((v.toNat:Nat):Int) 1 9000=true:=by grind [DU]
        rw [hn,hr,A8,PY (by rfl),Atd (by simp;omega)]
        rw [PY (by
         rw [Bool.not_eq_false',Vk,At6 (vP (Si _)),beq_iff_eq];rw [Gp,bs_len,hxs,show ((v.toNat:Nat):Int)=v by omega,LAp f (a:=a) (b:=q) (by omega) (by omega) (by omega),hex,LAp f (a:=q) (b:=q+4) (by omega) (by omega) (by omega),hb])]
        grind
  obtain ⟨m,hm⟩:∃ m,AX=m+(f.size+1)+1:=⟨AX - (f.size+2),by have:=FP (n:=f.size+2) (by omega);omega⟩
  rw [hm,show (0:Int)=((0:Nat):Int) from rfl,key (f.size+1) 0 m [] (by omega) (by omega) (Nat.le_refl _)];rfl
theorem CBN {k file:AA} (hk:k.size<=900000000) (hf:file.size<=140737488351232):jh k file=some (Nl k file):=by
 obtain ⟨u1,u2,_,_⟩:=KAn (file:=file)
 rw [jh,EAx,DBo hf,AO,Nl];generalize (Qu file).1=l at u1 u2;have key:∀ (j i m:Nat) (e:Int) (out:List Aq),i+j=l.length->0<=e->e<=30000*i->out.length<=i->ji (m+j+1) (.c0 k e (i:Int) out l)=some (out++(Atj k ((i:Int)+1) (l.drop i)).1,e+(Atj k ((i:Int)+1) (l.drop i)).2):=by
  intro j;induction j with
  | zero=>
   grind [ji,BAi,Atj]
  | succ j ih=>
   intro i m e out h he he2 ho;have hi:i<l.length:=by omega
   have hz:=u1 _ (List.getElem_mem hi);have ew:AU ((i:Int)+1)=((i+1:Nat):Int):=by grind [Ar]
   have GS:=tY k l[i] ((i+1:Nat):Int);have hfz:=QBF (t:=l[i]) (by omega);rw [show m+(j+1)+1=(m+j+1)+1 by omega,ji];simp only [BAi,mk,ew,BU,getD_at hi];rw [Atd (by simp_all),Atd (by simp_all),GBM hk (by omega),AO,FBg (by omega),AO,drop_at hi,Atj,show ((i:Int)+1)=((i+1:Nat):Int) from rfl];cases (AtU k ((i+1:Nat):Int) l[i]).2;·simp
   ·rw [PY (by rfl),Bool.true_and];cases (AuG (AtU k ((i+1:Nat):Int) l[i]).1).2;·simp
    ·have h2:=ih (i+1) m (e+((frameT l[i]).1.size:Int)) (out++[(AuG (AtU k ((i+1:Nat):Int) l[i]).1).1]) (by omega) (by omega) (by omega) (by simp_all);grind [HA5,Ar]
 obtain ⟨m,hm⟩:=gm (n:=l.length) (by omega)
 have h0:=key l.length 0 m 0 [] (by omega) (by omega) (by omega) (Nat.le_refl _);simp_all
theorem DBN {l:Cm} {r:Aq} (h:l.Ez.length<=1000000):X0 l r=some ⟨l.Ad,l.Du,l.GR,l.Ey,l.Ez++[r]⟩:=by rw [X0,FAx,mk];grind
theorem EBo {b:Aj} (h:b.Bd.Ai.length*40<=140737488355328):jk b=some (Ro b):=by rw [jk,GAx,mk,Atd (by simp_all),vS];rfl
theorem FBo {x:AA×Bool×(List BQ)×AA×Int×Unit×Int×AA×Int×Unit×Unit×Int} (h:x.2.2.1.length*40<=140737488355328):jl x=some ⟨x.1,false,⟨x.2.2.1⟩,Ato,[],[],0⟩:=by simp_all [jl,HAx,mk,vS]
theorem GBo {F:AA} {n:Int} (zs:List Int) (h:0<=n/\n<=(F.size:Int)) (hF:F.size<=20000):vK (dk F n) zs=some (Z9 F n zs,true):=by
 obtain ⟨m,hm⟩:∃ m,AX=m+1+1:=⟨AX - 2,rfl⟩
 have h1:((dk F n).Ai.length:Int)=1:=rfl;have h3:(([]:List BQ).length+1)*40=40:=rfl;have e:AU (0+1)=1:=by rfl
 have hg:(dk F n).Ai.getD (0:Int).toNat (⟨⟨#[]⟩,⟨#[]⟩,0⟩:BQ)=⟨Qa,F,n⟩:=rfl;rw [vK,YAw,mk,OAm,AO,AsX h hF,hm,vJ];simp only [ZAw,mk,h1,h3,e,hg,DZ,Aw,List.nil_append];rw [Atd (by rfl),Atd (by rfl)];simp only [BBo];cases zs with
 | nil=>
  rw [PY (by rfl)];by_cases c:0<n;·rw [FT c,Ht (by omega),Z9,show AsN F n []=n from if_pos c];rfl
  ·rw [KF c,Z9,show AsN F n []=0 from if_neg c];rfl
 | cons z zs=>
  have hz0:(z::zs).getD (0:Int).toNat 0=z:=rfl;have hl:(0:Int)<((z::zs).length:Int):=by simp
  rw [FT hl,Ht ⟨Int.le_refl _,hl⟩,hz0];by_cases c1:z > (F.size:Int);·rw [FT c1,KF (by omega),Ht (by omega),Z9,show AsN F n (z::zs)=(F.size:Int) by grind [AsN]];rfl
  ·rw [KF c1];by_cases c2:z<n;·rw [FT c2,Ht (by omega),Z9,show AsN F n (z::zs)=n by grind [AsN]];rfl
   ·rw [KF c2,Ht (by omega),Z9,show AsN F n (z::zs)=z by grind [AsN]];rfl
theorem HBo {k:AA} {l:List Aq} {L:Cm} {r:Aq} (zs:List Int) (g:Good k l L.Ad) (hl:l.length<50) (hn:r.DY<=9223372036854775807) (hr:(Ara L.Ad.AV r).2=true) (z1:L.Du.length<=1000) (z2:L.GR.length<=1000) (z3:L.Ez.length<=1000) :
  ∃ l' b',jm L r zs=some ⟨b',L.Du++[10],L.GR++[⟨#[]⟩],L.Ey,bif decide (l'.length > l.length) then L.Ez++[r] else L.Ez⟩/\Down k l' b'/\(l'=l\/l'=l++[r]):=by
 obtain ⟨F,h1,h2⟩:=g.disk
 have HV:=Good.fsz g.len.2 h2;have hF2:F.size=(DV (tx k 1 l)).length:=by grind [bs_len]
 obtain ⟨T,t1,t2⟩:=NA6 (k:=k) (r:=r) (i:=l.length) (Vs hr).2.1 (by omega)
 have hlen:(l++[r]).length=l.length+1:=by simp
 have hat:(l++[r])[l.length]'(by omega)=r:=by simp
 have hall:DV (tx k 1 (l++[r]))=DV (tx k 1 l)++bs T:=by have e:=QAn (k:=k) (l:=l++[r]) (i:=l.length) (by omega);simp_all [List.take_of_length_le]
 have hfl:=RBk (k:=k) (l:=l++[r]) (by omega);have hl1:=congrArg List.length hall;rw [List.length_append,bs_len] at hl1;have hz:(F++T).size=F.size+T.size:=ByteArray.size_append;have hE:bs (F++T)=DV (tx k 1 (l++[r])):=by simp_all [ArL]
 have hcut:=CBo (d:=dk F F.size) (T:=T) (z:=zs) (by omega) (Nat.le_of_ble_eq_true rfl) (CBH (by omega) (by omega)) (GBo zs (by omega) (by omega));obtain ⟨q1,q2⟩:=MBk (F:=F++T) (n:=F.size) zs (by omega)
 unfold Z9 at hcut;generalize AsN (F++T) F.size zs=kk at hcut q1 q2;obtain ⟨K,rfl⟩:∃ K:Nat,kk=(K:Int):=⟨kk.toNat,by omega⟩
 rw [BU] at hcut;have hX:bs ((F++T).extract 0 K)=(DV (tx k 1 (l++[r]))).take K:=by simp_all [AvE]
 have CC:((F++T).extract 0 K).size=K:=by grind [ByteArray.size_extract]
 generalize (F++T).extract 0 K=X at hcut hX CC;have hEl:(DV (tx k 1 (l++[r]))).length=F.size+T.size:=by omega
 have he2:(EW Ato (l++[r])).2=true:=by rw [TA5,g.book];simp_all [EW]
 have hrb:=YBG (k:=k) (file:=X) (l:=l++[r]) (K:=K) (by omega) (NAn he2) (by omega) hX;obtain ⟨w1,w2,w3⟩:=CAn (tx k 1 (l++[r])) K
 have w4:=ZBg (tx k 1 (l++[r])) l.length K (by simp [Vt]) (by simp_all [jo]);have w5:=ZA5 (tx k 1 (l++[r])) K;rw [Vt] at w2 w5;rw [jo] at w3;have Ft:(l++[r]).take (whole (tx k 1 (l++[r])) K)=l\/(l++[r]).take (whole (tx k 1 (l++[r])) K)=l++[r]:=by grind [List.take_of_length_le]
 refine ⟨(l++[r]).take (whole (tx k 1 (l++[r])) K),⟨k,false,dk X X.size,Ato,[],[],0⟩,?_,⟨g.JC,?_,HBG _ he2,⟨X,rfl,by omega,l++[r],K,by omega,he2,by omega,hX,rfl⟩⟩,Ft⟩
 ·obtain ⟨m,hm⟩:∃ m,AX=m+1:=⟨AX - 1,rfl⟩
  have FA:Atr (dk X (K:Int)) ⟨#[98,111,111,107]⟩=(X,true):=GBH X _;rw [jm,IAx,mk,g.cnt,SBF (by rw [g.key,g.JC];omega),AO,g.key,t1,h1,hcut,AO];dsimp only;rw [BBN (by exact Nat.le_of_ble_eq_true rfl),AO,FA];dsimp only;rw [CBN (by rw [g.JC];omega) (by omega),AO,hrb];dsimp only;have hd:decide ((((l++[r]).take (whole (tx k 1 (l++[r])) K)).length:Int) > (l.length:Int))=decide (((l++[r]).take (whole (tx k 1 (l++[r])) K)).length > l.length):=by simp
  rw [hd,CC];cases decide (((l++[r]).take (whole (tx k 1 (l++[r])) K)).length > l.length);·rw [Aw,Aw,hm,vT];simp only [CAi,mk];rw [EBo (by exact Nat.le_of_ble_eq_true rfl),AO,iG (by grind) (by grind)];rfl
  ·rw [A8,A8,DBN (by omega),AO,hm,vT];simp only [CAi,mk];rw [FBo (by exact Nat.le_of_ble_eq_true rfl),AO,iG (by grind) (by grind)];rfl
 ·have h3:=g.len;grind
theorem EBN {b:Aj} {t:Int} (h:b.BJ.length<=140737488351232) (ht:b.AV.Ag.length<=140737488351232):Ql b t=some (Qm b t):=by rw [Ql,JAx,mk,je ht,AO,Qm];grind [HBM]
theorem FBN {b:Aj} (h:Atg b):X3 b=some b:=by have h1:=h.d;have h2:=h.s;have h3:=h.l;rw [X3,KAx,mk,FT (by omega),AK2 h.t,AO,FT (by omega),FT (by omega)]
theorem TA8 {α:Type} {p:α->Bool} {l:List α} {i:Nat} (h:i<l.length):(l.take (i+1)).filter p=(l.take i).filter p++(bif p l[i] then [l[i]] else []):=by grind [take_at]
theorem MAp {α:Type} {p:α->Bool} {l:List α} {i:Nat}:((l.take i).filter p).length<=l.length:=
 Nat.le_trans (List.length_filter_le _ _) (by grind)
theorem IBo {α:Type} {f:α->α} {l:List α} {i:Nat} {d:α} (h:i<l.length):((l.take i).map f++l.drop i).getD i d=l[i]:=by grind
theorem map_set {α:Type} {f:α->α} {l:List α} {i:Nat} (h:i<l.length):((l.take i).map f++l.drop i).set i (f l[i])=(l.take (i+1)).map f++l.drop (i+1):=by
 have hz:((l.take i).map f).length=i:=by grind
 grind [List.set_append_right,drop_at,take_at]
theorem JBo {α:Type} {f:α->α} {l:List α} {i:Nat} (h:i<=l.length):((l.take i).map f++l.drop i).length=l.length:=by simp_all
theorem GBN (id:Int):∀ {ls:List Cc},Ox ls->ls.filter (fun v=>decide (v.fId<id))++ls.filter (fun v=>decide (v.fId > id))=Ul ls id
 | [],_=>rfl
 | v::vs,h=>by
  obtain ⟨hs,h2⟩:=List.pairwise_cons.1 h
  have ih:=GBN id h2;rw [Ul] at ih ⊢;rw [List.filter_cons,List.filter_cons,List.filter_cons];rcases Int.lt_trichotomy v.fId id with a | a | a
  ·rw [if_pos (Bg a),if_neg (by rw [decide_eq_true_eq];omega),if_pos (by rw [bne_iff_ne];omega),List.cons_append,ih]
  ·rw [if_neg (by rw [decide_eq_true_eq];omega),if_neg (by rw [decide_eq_true_eq];omega),if_neg (by rw [bne_iff_ne];exact fun q=>q a),ih]
  ·have e:vs.filter (fun v=>decide (v.fId<id))=[]:=List.filter_eq_nil_iff.2 fun w hw=>by have:=hs w hw;rw [decide_eq_true_eq];omega
   rw [e,List.nil_append] at ih;rw [if_neg (by rw [decide_eq_true_eq];omega),if_pos (Bg a),if_pos (by rw [bne_iff_ne];omega),e,List.nil_append,ih]
theorem HBN {ls:List Cc} {id n:Int} (hl:ls.length<=8) (hV:Ox ls):vU ls id n=some (bif decide (n>=0) then AuH ls id n else Ul ls id):=by
 have two:∀ (o:List Cc),o.length<=9->∀ m,Um (m+ls.length+1) (.c1 ls id 0 (o++(ls.take 0).filter (fun v=>decide (v.fId > id))))=some (o++ls.filter fun v=>decide (v.fId > id)):=fun o ho=>AIJ (L:=Um) (fun i:Nat=>aA.c1 ls id (i:Int) (o++(ls.take i).filter fun v=>decide (v.fId > id))) ls.length (fun m=>by
  simp [Um,jq,mk]) fun i hi m=>by
  have hw:=Jh (i:=i) (by omega);have hz:=MAp (p:=fun v:Cc=>decide (v.fId > id)) (l:=ls) (i:=i);rw [Um];simp only [jq,mk,hw,BU,getD_at hi];grind [TA8]
 rw [vU,LAx];refine XT (L:=Um) (fun i:Nat=>aA.c0 ls id n (i:Int) ((ls.take i).filter fun v=>decide (v.fId<id))) ls.length (ls.length+1) (by omega) (fun m=>?_) fun i hi m=>?_
 ·have hz:=MAp (p:=fun v:Cc=>decide (v.fId<id)) (l:=ls) (i:=ls.length);rw [List.take_length] at hz;rw [Um];simp only [jq,mk];rw [KF (by omega),List.take_length];cases decide (n>=0);·have h:=two (ls.filter fun v=>decide (v.fId<id)) (by omega) m;grind [GBN]
  ·have h:=two (ls.filter (fun v=>decide (v.fId<id))++[⟨id,n⟩]) (by grind) m;grind [UBH]
 ·have hw:=Jh (i:=i) (by omega);have hz:=MAp (p:=fun v:Cc=>decide (v.fId<id)) (l:=ls) (i:=i);rw [Um];simp only [jq,mk,hw,BU,getD_at hi];grind [TA8]
theorem IBN {b:Aj} {c:CJ} {code leaf:Int} (h:Atg b) (hV:Ox b.BJ) (hlf:leaf<=1000):Un b c code leaf=some (Rh b c code leaf):=by
 have hs:=h.s;have ht:=h.t;have ho:=h.o;rw [Un,MAx,mk,FBN h,AO,Rh,Ar (n:=b.CU+1) (by omega) (by omega)];cases code != 0
 ·rw [Aw,Aw];cases c.Au == 1
  ·rw [Aw,Aw];cases c.Au == 13
   ·rw [Aw,Aw];cases c.Au == 2
    ·rw [Aw,Aw];cases c.Au == 5
     ·rw [Aw,Aw];cases c.Au == 9;·rfl
      ·rw [A8,A8,HBN h.l hV];rfl
     ·rw [A8,A8,je (by omega),AO,Zg];cases AtT b.AV.Ag c.BK with
      | none=>rfl
      | some x=>
       dsimp only;rw [A8];by_cases g1:leaf>=0;·rw [Ar (by omega) (by omega),HBN h.l hV,Bg g1,Bg (by omega:leaf+1>=0)];cases x.Aa == 2 <;> cases decide (leaf<x.fNext) <;> rfl
       simp_all [D5]
    ·rw [A8,A8]
     have key:=XT (L:=WX) (r:=some (jr b (vV b.BI c.Dz))) (fun i:Nat=>aB.c1 (i:Int) c ⟨#[]⟩ false ⟨#[]⟩ 0 0 ⟨#[]⟩ 0 0 b.BN b.Bj b.AV.Bv b.AV.DR b.AV.BR b.AV.Dp b.AV.fCount b.CU [] [] [] [] b.Bd.Ai b.AV.Ag ((b.BI.take i).map (fun s=>⟨s.fId,s.RS || s.fId == c.Dz⟩)++b.BI.drop i) b.BJ) b.BI.length 0 (by omega) (fun m=>by
      rw [WX];simp only [jv,mk];rw [KF (by simp),List.take_length,List.drop_length,List.append_nil];rfl) fun i hi m=>by
      have hw:=Jh (i:=i) (by omega);rw [WX];simp only [jv,mk,hw,BU,IBo hi,JBo (Nat.le_of_lt hi)];grind [map_set]
     exact key
   ·rw [A8,A8]
    have key:=XT (L:=WX) (r:=some (jr b (delS b.BI c.Dz))) (fun i:Nat=>aB.c0 (i:Int) b c ⟨#[]⟩ false ⟨#[]⟩ 0 0 ⟨#[]⟩ 0 0 b.BN b.Bj b.AV.Bv b.AV.DR b.AV.BR b.AV.Dp b.AV.fCount b.CU ((b.BI.take i).filter fun s=>s.fId != c.Dz) [] [] [] [] b.Bd.Ai b.AV.Ag b.BI b.BJ) b.BI.length 0 (by omega) (fun m=>by
     rw [WX];simp only [jv,mk];rw [KF (by omega),List.take_length];rfl) fun i hi m=>by
     have hw:=Jh (i:=i) (by omega);have hz:=MAp (p:=fun s:EC=>s.fId != c.Dz) (l:=b.BI) (i:=i);rw [WX];grind [jv,BU,TA8]
    exact key
  grind
 rfl
theorem KBo {l:Cm} {e:EN} {w:Int} (hu:l.Ad.Bj=false) (z1:l.Du.length<=1000) (z2:l.GR.length<=1000):Uo l w e=some (QBK l 9 (iC 9)):=by rw [Uo,jw,mk,hu,Bool.not_false,A8,iG (by omega) (by omega)];rfl
theorem LBo {l l':Cm} {e:EN} {w code:Int} {s:AA} {r:Aq} (hu:l.Ad.Bj=true) (hn:l.Ad.AV.fCount<10000) (hp:TG l.Ad e.CP=some ([r],code,s)) (hcut:e.RN=true) (hc:jm l r e.QK=some l'):Uo l w e=some l':=by rw [Uo,jw,mk,hu,DZ,Aw,KF (by omega),hp,AO,hcut,A8,Atd (by rfl),Atd (by rfl),show ([r],code,s).1.getD (0:Int).toNat (⟨0,⟨#[]⟩,0,⟨0,0,false,false,false,false,⟨#[]⟩,0⟩⟩:Aq)=r from rfl,hc];rfl
theorem JBN {l:Cm} {b b2:Aj} {d:List Aq} {e:EN} {w code leaf:Int} {s:AA} {y:List Aq} {n:Int} {m:Nat} (hn:(y.length:Int)<=n) (hc:Un b e.CP code leaf=some b2) (z1:l.Du.length<=1000) (z2:l.GR.length<=1000) (z4:l.Ey.length<=1000) :
  jy (m+1) (.c0 w code s leaf n b.BN b.Bj b.AV.Bv b.AV.DR b.AV.BR b.AV.Dp b.AV.fCount b.CU e y b.Bd.Ai b.AV.Ag b.BI b.BJ l.Du l.GR l.Ey d)=some ⟨b2,l.Du++[code],l.GR++[s],bif e.CP.Au == 5 && code == 0 then l.Ey++[⟨e.CP.BK,leaf,w⟩] else l.Ey,d⟩:=by
 have ht:∀ G,WQ ⟨b2,l.Du,l.GR,G,d⟩ code s=some ⟨b2,l.Du++[code],l.GR++[s],G,d⟩:=fun G=>iG (l:=⟨b2,l.Du,l.GR,G,d⟩) (show l.Du.length<=1000000 by omega) (show l.GR.length<=1000000 by omega)
 rw [jy];simp only [EAi,mk,List.nil_append];rw [KF (by omega)];show (Un b e.CP code leaf).bind _=_;grind
theorem MBo {l:Cm} {e:EN} {w code leaf:Int} {s:AA} {b2:Aj} (hu:l.Ad.Bj=true) (hn:l.Ad.AV.fCount<10000) (hp:TG l.Ad e.CP=some ([],code,s)) (hl:Ql l.Ad e.CP.BK=some leaf) (hc:Un l.Ad e.CP code leaf=some b2) (z1:l.Du.length<=1000) (z2:l.GR.length<=1000) (z4:l.Ey.length<=1000) :
  Uo l w e=some ⟨b2,l.Du++[code],l.GR++[s],bif e.CP.Au == 5 && code == 0 then l.Ey++[⟨e.CP.BK,leaf,w⟩] else l.Ey,l.Ez⟩:=by
 obtain ⟨m,hm⟩:∃ m,AX=m+1:=⟨AX - 1,rfl⟩
 have key:=JBN (l:=l) (d:=l.Ez) (w:=w) (s:=s) (y:=[]) (n:=0) (m:=m) (Int.le_refl _) hc z1 z2 z4;simp_all [Uo,jw,mk,KF]
theorem NBo {l:Cm} {e:EN} {w code leaf:Int} {s:AA} {r:Aq} {B:Bf} {D:BO} {b2:Aj} (hu:l.Ad.Bj=true) (hn:l.Ad.AV.fCount<10000) (hp:TG l.Ad e.CP=some ([r],code,s)) (hcut:e.RN=false) (hl:Ql l.Ad e.CP.BK=some leaf) (hw:aC l.Ad.BN l.Ad.Bd l.Ad.AV.fCount r=some D) (hb:Ur l.Ad.AV r=some (B,true)) (hc:Un ⟨l.Ad.BN,l.Ad.Bj,D,B,l.Ad.BI,l.Ad.BJ,l.Ad.CU⟩ e.CP code leaf=some b2) (z1:l.Du.length<=1000) (z2:l.GR.length<=1000) (z3:l.Ez.length<=1000) (z4:l.Ey.length<=1000) :
  Uo l w e=some ⟨b2,l.Du++[code],l.GR++[s],bif e.CP.Au == 5 && code == 0 then l.Ey++[⟨e.CP.BK,leaf,w⟩] else l.Ey,l.Ez++[r]⟩:=by
 obtain ⟨m,hm⟩:∃ m,AX=m+1+1:=⟨AX - 2,rfl⟩
 have h1:AU (0+1)=1:=by rfl
 have key:=JBN (l:=l) (d:=l.Ez++[r]) (w:=w) (s:=s) (y:=[r]) (n:=1) (m:=m) (Int.le_refl _) hc z1 z2 z4;have hd:X0 ⟨⟨l.Ad.BN,l.Ad.Bj,D,B,l.Ad.BI,l.Ad.BJ,l.Ad.CU⟩,l.Du,l.GR,l.Ey,l.Ez⟩ r=some ⟨⟨l.Ad.BN,l.Ad.Bj,D,B,l.Ad.BI,l.Ad.BJ,l.Ad.CU⟩,l.Du,l.GR,l.Ey,l.Ez++[r]⟩:=DBN (by grind);simp_all [Uo,jw,mk,KF,jy,EAi,mk]
theorem KBN {a b:Bf} (h0:a.Ag.length<=140737488351232):vW a b=some (Qn a b):=by
 rw [vW,NAx,mk,Qn];by_cases hl:a.Ag.length=b.Ag.length
 ·have key:∀ (j i m:Nat),i+j=a.Ag.length->kC (m+j+1) (.c0 (i:Int) a b)=some (Asl (a.Ag.drop i) (b.Ag.drop i)):=by
   intro j;induction j with
   | zero=>
    intro i m h;obtain rfl:i=a.Ag.length:=by omega
    rw [kC];simp only [FAi,mk];rw [PY (by simp),List.drop_length,hl,List.drop_length];rfl
   | succ j ih=>
    intro i m h;have hi:i<a.Ag.length:=by omega
    have hi2:i<b.Ag.length:=by omega
    have e:AU ((i:Int)+1)=((i+1:Nat):Int):=by grind [Ar]
    rw [show m+(j+1)+1=(m+j+1)+1 by omega,kC];simp only [FAi,mk,e,BU,getD_at hi,getD_at hi2,OA6,ih (i+1) m (by omega)];grind [drop_at,Asl]
  obtain ⟨m,hm⟩:=gm (n:=a.Ag.length) (by omega)
  have hz:=key a.Ag.length 0 m (by omega);grind
 grind [QA6]
theorem OBo {b:Bf} {l:List Aq} (hb:b.Ag.length<=2932031007317) (hl:l.length<=140737488351232):IAi b l=some (EW b l):=by
 have key:∀ (j i m:Nat) (b:Bf),i+j=l.length->b.Ag.length<=2932031007317->kD (m+j+1) (.c0 l (i:Int) ⟨#[]⟩ 0 0 ⟨#[]⟩ 0 b.Bv b.DR b.BR b.Dp b.fCount [] b.Ag)=some (EW b (l.drop i)):=by
  intro j;induction j with
  | zero=>
   intro i m b h hb;obtain rfl:i=l.length:=by omega
   rw [kD];simp only [HAi,mk];rw [PY (by simp),List.drop_length];rfl
  | succ j ih=>
   intro i m b h hb;have hi:i<l.length:=by omega
   have e:AU ((i:Int)+1)=((i+1:Nat):Int):=by grind [Ar]
   rw [show m+(j+1)+1=(m+j+1)+1 by omega,kD];simp only [HAi,mk,e,BU,getD_at hi];rw [Atd (by simp_all),Atd (by simp_all),EA5 (by grind),AO,drop_at hi,EW];cases h2:(Ara b l[i]).2;·rfl
   ·have h3:=SA5 h2;rw [PY (by rfl),A8];exact ih (i+1) m (Ara b l[i]).1 (by omega) (by omega)
 obtain ⟨m,hm⟩:=gm (n:=l.length) (by omega)
 rw [IAi,OAx,mk,AK2 hb,AO,hm];exact key l.length 0 m b (by omega) hb
theorem LBN {k:AA} {d:BO} (hk:k.size<=900000000) (hd:d.Ai.length<=140737488351232) (hf:∀ f ∈ d.Ai,f.fText.size<=140737488351232):kE k d=some (GH k d):=by
 have hfs:(Atr d Qa).1.size<=140737488351232:=GA6 hf;obtain ⟨r1,r2⟩:=ZBG k (Atr d Qa).1
 have hl:=AUE k (Atr d Qa).1;rw [kE,PAx,mk,OAm,AO,GH];cases AvP d;·rfl
 rw [PY (by rfl),show (⟨#[98,111,111,107]⟩:AA)=Qa from rfl,show (⟨#[98,111,111,107,43]⟩:AA)=nNew from rfl,BBN hd,AO,CBN hk hfs,AO,vS,AO,OBo (DF _) (by omega),AO,KA5 hd];cases (EW Ato (Nl k (Atr d Qa).1).1).2;·rfl
 grind
theorem PBo {b:Aj} (hl:b.BJ.length<=140737488351232) (ht:b.AV.Ag.length<=140737488351232):vX b=some (Vg b):=by
 have key:∀ (j i m:Nat),i+j=b.BJ.length->kF (m+j+1) (.c0 (i:Int) b)=some (Atb b j i):=by
  intro j;induction j with
  | zero=>
   intro i m hi;rw [kF];simp only [JAi,mk];rw [PY (by simp_all)];rfl
  | succ j ih=>
   intro i m hi;have hw:AU ((i:Int)+1)=((i+1:Nat):Int):=by grind [Ar]
   have d1:decide ((i:Int)<(b.BJ.length:Int))=true:=Bg (by omega);have d0:decide ((0:Int)<=(i:Int))=true:=Bg (by omega);rw [ArJ m j,kF];simp only [JAi,mk,je ht,AuF,AO,d0,d1,Bool.and_self,A8,BU,hw,ih (i+1) m (by omega),Atb,Ar8];grind [Ar,BU]
 obtain ⟨m,hm⟩:=gm (n:=b.BJ.length) (by omega)
 rw [vX,QAx,hm];exact key b.BJ.length 0 m (Nat.zero_add _)
theorem MBN {b:Aj} (hd:b.Bd.Ai.length<=140737488351232) (hf:∀ f ∈ b.Bd.Ai,f.fText.size<=140737488351232) (ht:b.AV.Ag.length<=140737488351232) (hs:b.BI.length<=140737488351232) (hl:b.BJ.length<=140737488351232):aF b=some (Ark b):=by
 rw [aF,RAx,mk,OAm,AuF,Ark];simp only [AO,bne];cases hz:(b.BN.size:Int) == 32;·rfl
 have hk:b.BN.size<=900000000:=by grind
 obtain ⟨l1,l2⟩:=RAn b.BN b.Bd
 have key:∀ (j i m:Nat),i+j=b.BI.length->kG (m+j+1) (.c0 (i:Int) b)=some (Oy b j i && X4 b):=by
  intro j;induction j with
  | zero=>
   intro i m hi;rw [kG];simp only [KAi,mk];rw [PY (by simp_all),X4];simp only [vS,LBN hk hd hf,KBN ht,KBN (show (GH b.BN b.Bd).1.Ag.length<=140737488351232 by omega),aG ht,PBo hl ht,AO];cases b.Bj;·cases (b.BI.length:Int) == 0 <;> cases (b.BJ.length:Int) == 0 <;> rfl
   ·cases (GH b.BN b.Bd).2.2 <;> cases ((GH b.BN b.Bd).2.1.length:Int) == 0 <;> cases IW b.AV <;> cases Qn (GH b.BN b.Bd).1 b.AV <;> rfl
  | succ j ih=>
   intro i m hi;have hw:AU ((i:Int)+1)=((i+1:Nat):Int):=by grind [Ar]
   have d1:decide ((i:Int)<(b.BI.length:Int))=true:=Bg (by omega);have d0:decide ((0:Int)<=(i:Int))=true:=Bg (by omega);rw [ArJ m j,kG];simp only [KAi,mk,AuF,AO,d0,d1,Bool.and_self,A8,BU,hw,ih (i+1) m (by omega),Oy,aH];cases AvO (b.BI.getD i ⟨0,false⟩).fId 1 b.CU;all_goals grind [Ar,decide,BU]
 obtain ⟨m,hm⟩:=gm (n:=b.BI.length) (by omega)
 have h0:=key b.BI.length 0 m (Nat.zero_add _);grind
theorem NBN {b:Aj} (hd:b.Bd.Ai.length*40<=140737488351232) (hf:∀ f ∈ b.Bd.Ai,f.fText.size<=140737488351232) (ht:b.AV.Ag.length<=140737488351232) (hs:b.BI.length<=140737488351232) (hl:b.BJ.length<=140737488351232) (hk:b.BN.size<=900000000):vY b=some (X5 b):=by
 obtain ⟨l1,l2⟩:=RAn b.BN b.Bd
 rw [vY,SAx,mk,X5];simp only [MBN (b:=b) (by omega) hf ht hs hl,LBN hk (show b.Bd.Ai.length<=_ by omega) hf,SAm (d:=b.Bd) (l:=(GH b.BN b.Bd).2.1) hd (by omega) (UBK hf),AO];cases b.Bj
 ·cases Ark b;·rfl
  ·cases (GH b.BN b.Bd).2.2;·rfl
   ·cases decide ((IY b.Bd (GH b.BN b.Bd).2.1 0).2<((GH b.BN b.Bd).2.1.length:Int)) <;> rfl
 ·rfl
theorem QBo {k:AA} {l:List Aq} {b:Aj} (h:Down k l b):∃ b',vY b=some (b',true)/\Good k l b'/\b'.BI=[]/\b'.BJ=[]/\b'.CU=0/\b'.AV=(EW Ato l).1:=by
 obtain ⟨X,rfl,CC,l2,K,hl2,he2,hK,hX,hl⟩:=h.box
 have EA:X.size=K:=by grind [bs_len]
 have hs2:=NAn he2;have hm:=LA6 (k:=k) (F:=X) (n:=X.size) hl2 hs2 he2 hK hX (by omega) (by omega);obtain ⟨w1,w2,w3⟩:=CAn (tx k 1 l2) K
 rw [jo] at w3;have hbk:EW Ato l=((EW Ato l).1,true):=Prod.ext rfl h.book;have hpre:DV (tx k 1 l2)=DV (tx k 1 (l2.take (whole (tx k 1 l2) K)))++DV (tx k (1+((l2.take (whole (tx k 1 l2) K)).length:Int)) (l2.drop (whole (tx k 1 l2) K))):=by grind [YA5,LAn,List.take_append_drop]
 rw [<-hl] at hm w3 hpre;have hok:Ark ⟨k,false,dk X X.size,Ato,[],[],0⟩=true:=SA6 (b:=⟨k,false,dk X X.size,Ato,[],[],0⟩) h.JC (AsX (by omega) (by omega));have mk:∀ G:AA,bs G=DV (tx k 1 l)->Good k l ⟨k,true,dk G G.size,(EW Ato l).1,[],[],0⟩:=fun G hG=>⟨h.JC,rfl,rfl,⟨G,rfl,hG⟩,h.len,hbk,⟨DF _,rfl⟩,⟨Int.le_refl _,by simp⟩,⟨rfl,DF _⟩⟩
 have hR:=NBN (b:=⟨k,false,dk X X.size,Ato,[],[],0⟩) (Nat.le_of_ble_eq_true rfl) (fun f hf=>by
  have hf:f ∈ [(⟨Qa,X,(X.size:Int)⟩:BQ)]:=hf;grind) (DF _) (DF _) (DF _) (by show k.size<=_;rw [h.JC];omega)
 rw [hR,X5,hok];dsimp only;rw [hm];dsimp only;by_cases hc:((DV (tx k 1 l)).length:Int)=(X.size:Int)
 ·rw [beq_iff_eq.2 hc,A8];refine ⟨_,rfl,mk X ?_,rfl,rfl,rfl,rfl⟩;grind [List.take_of_length_le]
 ·rw [beq_eq_false_iff_ne.2 hc,Aw];have hG:bs (X.extract 0 (DV (tx k 1 l)).length)=DV (tx k 1 l):=by grind [AvE]
  have DA:(X.extract 0 (DV (tx k 1 l)).length).size=(DV (tx k 1 l)).length:=by grind [bs_len]
  generalize X.extract 0 (DV (tx k 1 l)).length=G at hG DA;rw [FBH (by omega) (by omega) (by omega)];exact ⟨_,rfl,mk G hG,rfl,rfl,rfl,rfl⟩
structure qg (b:Aj):Prop where
 z:Atg b
 f:∀ f ∈ b.Bd.Ai,f.fText.size<=140737488351232
 k:b.BN.size<=900000000
 n:b.Bd.Ai.length*40<=140737488351232
theorem AtF.bx {k:AA} {l:List Aq} {L:Cm} (h:AtF k l L):qg L.Ad:=by
 rcases h.box with g | d
 ·exact ⟨g.gy,fun f hf=>by have:=g.small.2 f hf;omega,by rw [g.key,g.JC];omega,by have:=g.small.1;omega⟩
 ·obtain ⟨h1,h2,h3,h4,h5,h6,h7,h8⟩:=AtF.down d
  exact ⟨⟨by have:=h7.1;omega,by rw [h4];exact DF _,by simp_all,by simp_all,by omega⟩,fun f hf=>by have:=h7.2 f hf;omega,by rw [h6,d.JC];omega,by have:=h7.1;omega⟩
theorem UA8 {k:AA} {l:List Aq} {L:Cm} {e:EN} (h:AtF k l L) (he:Rf e) (hn:L.Du.length<45):∃ l' L',Uu L (L.Du.length:Int) e=some L'/\Step k e l L l' L':=by
 obtain ⟨f1,f2,f3⟩:=h.few
 have ho:=h.opn;have hd:L.Ez.length<=1000:=by rw [h.done];omega
 rw [Uu,TAx,mk];cases hr:e.MV
 ·rw [Bool.not_false,A8];have one:∀ x:Option Cm,(x.bind fun r=>some r)=x:=fun x=>by simp
  rw [one];rcases h.box with g | d
  ·have hq:TG L.Ad e.CP=some (F9 AuD L.Ad e.CP):=Adc g.pb (he.call hr) fun h v _=>VBn (he.2 h)
   have hlf:=AS4 g.Ol g.Lp.1 e.CP.BK;have hcn:=g.cnt;have hll:=g.len.2;have hl2:Ql L.Ad e.CP.BK=some (Qm L.Ad e.CP.BK):=EBN (by have:=g.Lp.2;omega) (by have:=g.aI;omega);rcases GAp (tk:=AuD) (c:=e.CP) g with h0 | ⟨r,h1,h2⟩
   ·have hq2:TG L.Ad e.CP=some ([],(F9 AuD L.Ad e.CP).2.1,(F9 AuD L.Ad e.CP).2.2):=by grind
    refine ⟨_,_,?_,Step.call g hr (.inr h0)⟩;rw [MBo g.up (by omega) hq2 hl2 (IBN g.gy g.lives.2 (by omega)) (by omega) (by omega) (by omega),Ri,h0,List.append_nil];rfl
   ·have hq2:TG L.Ad e.CP=some ([r],(F9 AuD L.Ad e.CP).2.1,(F9 AuD L.Ad e.CP).2.2):=by grind
    cases hc:e.RN
    ·have e0:=((FA8 g (by omega) h2.ent).2 [] (fun v hv=>by cases hv) List.Pairwise.nil).gy;have e1:Atg (Asd L.Ad r):=⟨e0.d,e0.t,g.LM.1,g.Lp.2,g.opn⟩
     have hE:Ur L.Ad.AV r=some ((Ara L.Ad.AV r).1,true):=by rw [EA5 (by have:=g.aI;omega),<-h2.ent]
     have hcar:Un (Asd L.Ad r) e.CP (F9 AuD L.Ad e.CP).2.1 (Qm L.Ad e.CP.BK)=some (Ri L.Ad e.CP (F9 AuD L.Ad e.CP)):=by rw [Ri,h1];exact IBN e1 g.lives.2 (by omega)
     refine ⟨_,_,?_,Step.call g hr (.inl hc)⟩;rw [NBo g.up (by omega) hq2 hc hl2 (EBG (by rw [g.key,g.JC];omega) (by have:=g.small.1;omega)) hE hcar (by omega) (by omega) (by omega) (by omega),h1];rfl
    ·obtain ⟨l',b',c1,c2,c3⟩:=HBo (r:=r) e.QK g (by omega) h2.num h2.ent (by omega) (by omega) hd
     exact ⟨l',_,LBo g.up (by omega) hq2 hc c1,Step.cut g hr r h1 b' l' c2 c3⟩
  ·obtain ⟨h1,h2,h3,h4,h5,h6,h7,h8⟩:=AtF.down d
   exact ⟨l,_,KBo h1 (by omega) (by omega),Step.down d hr⟩
 ·have x:=h.bx;have z:=x.z;have zt:=z.t;have zs:=z.s;have ArG:=z.l;have hR:=NBN x.n x.f (by omega) (by omega) (by omega) x.k;rw [DZ,Aw,hR,AO];rcases h.box with g | d
  ·refine ⟨l,_,?_,Step.stay g hr⟩;rw [X5,g.up,Bool.true_or,A8];dsimp only;rw [Bool.not_false,A8,iG (by omega) (by omega)];rfl
  ·obtain ⟨b',r1,r2,r3,r4,r5,_⟩:=QBo d
   rw [hR] at r1;injection r1 with r1
   refine ⟨l,_,?_,Step.up d hr b' r2 r3 r4 r5⟩;rw [r1,DZ,Aw,iG (by grind) (by grind)];rfl
def RBo:Cm:=⟨⟨⟨#[]⟩,false,⟨[]⟩,⟨⟨#[]⟩,0,[],0,⟨#[]⟩,0⟩,[],[],0⟩,[],[],[],[]⟩
theorem OBN {k w:AA} (hw:w.size<=1000):aJ k w=some (bif (Pq k w).2 then (Arz k w,true) else (RBo,false)):=by
 rw [aJ,YAs,mk,TBe,AO];cases (Pq k w).2;·rfl
 ·rw [DZ,Aw,ArI (by omega)];rfl
noncomputable def aK:List EN->Int->Cm->Option Cm
 | [],_,l=>some l
 | e::es,i,l=>(Uu l i e).bind (aK es (i+1))
theorem SBo {k:AA} {es:List EN} {a0:AA} {a1:Bool} {a2:AA} {a3 a4:Int} {a5:AA} {a6 a7:Int} {c0:List BQ} {c1:List Ah} {c2:List EC} {c3:List Cc} {c4:List Int} {c5:List AA} {c6:List KE} {c7:List Aq} (hz:es.length<=40) (he:∀ e ∈ es,Rf e):∀ (j i m:Nat) (r:List Aq) (l:Cm),i+j=es.length->AtF k r l->l.Du.length=i->
  WY (m+j+1) (.c1 es (i:Int) a0 a1 a2 a3 a4 a5 a6 a7 l.Ad.BN l.Ad.Bj l.Ad.AV.Bv l.Ad.AV.DR l.Ad.AV.BR l.Ad.AV.Dp l.Ad.AV.fCount l.Ad.CU c0 c1 c2 c3 c4 c5 c6 c7 l.Ad.Bd.Ai l.Ad.AV.Ag l.Ad.BI l.Ad.BJ l.Du l.GR l.Ey l.Ez)=(aK (es.drop i) (i:Int) l).bind fun l=>some (l,true):=by
 intro j;induction j with
 | zero=>
  intro i m r l hi h hc;rw [WY];simp only [kH,mk];rw [KF (by omega),List.drop_of_length_le (by omega)];show (X3 l.Ad).bind _=_;rw [FBN h.bx.z];rfl
 | succ j ih=>
  intro i m r l hi h hc;have hlt:i<es.length:=by omega
  have hw:=Jh (i:=i) (by omega);obtain ⟨r1,l1,s1,s2⟩:=UA8 h (he _ (List.getElem_mem hlt)) (by omega)
  rw [hc] at s1;obtain ⟨g1,g2⟩:=LA8 h (by omega) s2
  rw [ArJ,WY,drop_at hlt,aK,s1];simp only [kH,mk,hw,BU,getD_at hlt];rw [FT (by omega),Ht (by omega)];show (Uu l (i:Int) es[i]).bind _=_;rw [s1];exact ih (i+1) m r1 l1 (by omega) g1 (by omega)
theorem VA8 {k w:AA} (hk:k.size=32) (hw:w.size<=20):AtF k [Wi w] (Arz k w):=by
 obtain ⟨s,_,h3,_⟩:=VBk hk hw
 exact ⟨.inl s.good,rfl,⟨Nat.le_refl _,rfl,Nat.le_refl _⟩,by omega⟩
theorem TBo {k w:AA} {es:List EN} (hk:k.size=32) (hw:w.size<=20) (hz:es.length<=40) (he:∀ e ∈ es,Rf e):vZ k w es=(aK es 0 (Arz k w)).bind fun l=>some (l,true):=by
 have hn:(Pq k w).2=true:=(TA6 hk hw).1
 have key:=XT (L:=WY) (r:=(aK es 0 (Arz k w)).bind fun l=>some (l,true)) (fun i:Nat=>kJ.c0 es true (i:Int) ⟨#[]⟩ false ⟨#[]⟩ 0 0 ⟨#[]⟩ 0 0 (Arz k w).Ad.BN (Arz k w).Ad.Bj (Arz k w).Ad.AV.Bv (Arz k w).Ad.AV.DR (Arz k w).Ad.AV.BR (Arz k w).Ad.AV.Dp (Arz k w).Ad.AV.fCount (Arz k w).Ad.CU [] [] [] [] [] [] [] [] (Arz k w).Ad.Bd.Ai (Arz k w).Ad.AV.Ag (Arz k w).Ad.BI (Arz k w).Ad.BJ (Arz k w).Du (Arz k w).GR (Arz k w).Ey (Arz k w).Ez) es.length (es.length+1) (by omega) (fun m=>by
  rw [WY];simp only [kH,mk];rw [KF (by omega),DZ,Aw];exact SBo hz he es.length 0 m [Wi w] (Arz k w) (Nat.zero_add _) (VA8 hk hw) rfl) fun i hi m=>by
  have hw:=Jh (i:=i) (by omega);rw [WY];simp only [kH,mk,hw,BU,getD_at hi];rw [FT (by omega),A8,FT (by omega),Ht (by omega),GBk,AO,(he _ (List.getElem_mem hi)).1]
 rw [vZ,YAx,mk,OBN (by omega),hn,A8,AO];omega
structure ql (r:OW):Prop where
 k:r.BN.size=32
 w:r.Bv.size<=20
 n:r.rG.length<=39
 e:∀ e ∈ r.rG,Rf e
theorem UBo {K w:AA} {x1 x2:AA} {x3:List EN} {n:Nat} (hK:K.size=32) (hw:w.size<=20) (hn:n<=39):∀ (j i m:Nat) (ci h:Int) (es:List EN) (r:List Aq) (l:Cm),i+j=n->0<=ci->es.length=i->(∀ e ∈ es,Rf e)->AtF K r l->l.Du.length=i->
  Ok (X6 (m+j+1) (.c0 (n:Int) (i:Int) ci h x1 x2 K w l.Ad.BN l.Ad.Bj l.Ad.AV.Bv l.Ad.AV.DR l.Ad.AV.BR l.Ad.AV.Dp l.Ad.AV.fCount l.Ad.CU x3 es l.Ad.Bd.Ai l.Ad.AV.Ag l.Ad.BI l.Ad.BJ l.Du l.GR l.Ey l.Ez)) fun r=>ql r.1/\Hl r.2:=by
 intro j;induction j with
 | zero=>
  intro i m ci h es r l hi hc hl he g hg;rw [X6];simp only [LAi,mk];rw [KF (by omega)];exact Ok.ret ⟨⟨hK,hw,by simp_all,he⟩,hc⟩
 | succ j ih=>
  intro i m ci h es r l hi hc hl he g hg;have hup:=Jh (i:=i) (by omega);rw [ArJ,X6];simp only [LAi,mk,hup];rw [FT (by omega)];have one:∀ (c:C9) (e:EN),Hl c->Rf e->Ok ((Uu l (i:Int) e).bind fun r2=>bif decide ((es.length+1)*96<=140737488355328) then X6 (m+j+1) (.c0 (n:Int) ((i+1:Nat):Int) c.fI c.fH x1 x2 K w r2.Ad.BN r2.Ad.Bj r2.Ad.AV.Bv r2.Ad.AV.DR r2.Ad.AV.BR r2.Ad.AV.Dp r2.Ad.AV.fCount r2.Ad.CU x3 (es++[e]) r2.Ad.Bd.Ai r2.Ad.AV.Ag r2.Ad.BI r2.Ad.BJ r2.Du r2.GR r2.Ey r2.Ez) else none) fun r=>ql r.1/\Hl r.2:=by
   intro c e hc he1;obtain ⟨r1,l1,s3,s2⟩:=UA8 g he1 (by omega)
   obtain ⟨g1,g2⟩:=LA8 g (by omega) s2
   rw [hg] at s3;rw [s3,AO,FT (by omega)];refine ih (i+1) m _ _ _ r1 l1 (by omega) hc (by simp_all) (fun x hx=>?_) g1 (by omega);grind
  refine Ok.bind (UBm (c:=⟨(),ci,h⟩) (l:=l) hc g.db) fun a ha=>?_
  obtain ⟨ev,Ha,L⟩:=a
  obtain ⟨a1,a2,a3⟩:=ha
  grind [TBm,EBM]
theorem VBo {c:C9} (hc:Hl c):Ok (MAi c ()) fun r=>ql r.1/\Hl r.2:=by
 have hl:Jq.length<=140737488351232:=PC.hl;have e39:(39:Int)=((39:Nat):Int):=rfl;have h8:AU (8+AU ((Jq.length:Int).tdiv 12))=((8+Jq.length / 12:Nat):Int):=by grind [Ar]
 rw [MAi,UAx,mk,h8];refine Ok.bind (As3 hc) fun a ha=>Ok.bind (XBa (by omega) (by omega)) fun K hK=>?_
 have hK2:K.size=32:=by omega
 have hw:(⟨#[119]⟩:AA).size<=20:=by decide
 rw [OBN (by decide),(TA6 hK2 hw).1,A8,AO];have go:∀ n:Nat,n<=39->Ok (X6 AX (.c0 (n:Int) ((0:Nat):Int) a.2.fI a.2.fH ⟨#[]⟩ ⟨#[]⟩ K ⟨#[119]⟩ (Arz K ⟨#[119]⟩).Ad.BN (Arz K ⟨#[119]⟩).Ad.Bj (Arz K ⟨#[119]⟩).Ad.AV.Bv (Arz K ⟨#[119]⟩).Ad.AV.DR (Arz K ⟨#[119]⟩).Ad.AV.BR (Arz K ⟨#[119]⟩).Ad.AV.Dp (Arz K ⟨#[119]⟩).Ad.AV.fCount (Arz K ⟨#[119]⟩).Ad.CU [] [] (Arz K ⟨#[119]⟩).Ad.Bd.Ai (Arz K ⟨#[119]⟩).Ad.AV.Ag (Arz K ⟨#[119]⟩).Ad.BI (Arz K ⟨#[119]⟩).Ad.BJ (Arz K ⟨#[119]⟩).Du (Arz K ⟨#[119]⟩).GR (Arz K ⟨#[119]⟩).Ey (Arz K ⟨#[119]⟩).Ez)) fun r=>ql r.1/\Hl r.2:=fun n hn=>by
  obtain ⟨m,hm⟩:=gm (n:=n) (by omega)
  rw [hm];exact UBo hK2 hw hn n 0 m _ _ [] [Wi ⟨#[119]⟩] _ (Nat.zero_add _) ha.2 rfl (fun e h=>by cases h) (VA8 hK2 hw) rfl
 exact Ok.cond (fun _=>go 39 (Nat.le_refl _)) fun h=>go _ (by grind)
theorem WBo {a b:Bf} (h0:a.Ag.length<=140737488351232):aO a b=some (Qn a b):=by
 rw [aO,PA4,mk,Qn];by_cases hl:a.Ag.length=b.Ag.length
 ·have key:∀ (j i m:Nat),i+j=a.Ag.length->kK (m+j+1) (.c0 (i:Int) a b)=some (Asl (a.Ag.drop i) (b.Ag.drop i)):=by
   intro j;induction j with
   | zero=>
    intro i m h;obtain rfl:i=a.Ag.length:=by omega
    rw [kK];simp only [DAm,mk];rw [PY (by simp),List.drop_length,hl,List.drop_length];rfl
   | succ j ih=>
    intro i m h;have hi:i<a.Ag.length:=by omega
    have hi2:i<b.Ag.length:=by omega
    have e:=Jh (i:=i) (by omega);rw [show m+(j+1)+1=(m+j+1)+1 by omega,kK];simp only [DAm,mk,e,BU,getD_at hi,getD_at hi2,OA6,ih (i+1) m (by omega)];rw [Atd (by simp;omega),Atd (by simp;omega),Atd (by simp;omega),drop_at hi,drop_at hi2,Asl];cases vg a.Ag[i] b.Ag[i] <;> rfl
  obtain ⟨m,hm⟩:=gm (n:=a.Ag.length) (by omega)
  have hz:=key a.Ag.length 0 m (by omega);rw [List.drop_zero,List.drop_zero,show ((0:Nat):Int)=0 from rfl] at hz;have h1:((a.Ag.length:Int) != (b.Ag.length:Int))=false:=by rw [bne_eq_false_iff_eq];omega
  rw [h1,hm,hz];simp only [bne];cases a.Bv.toList == b.Bv.toList <;> cases a.DR == b.DR <;> cases Asl a.Ag b.Ag <;> cases a.BR == b.BR <;> cases a.Dp.toList == b.Dp.toList <;> cases a.fCount == b.fCount <;> rfl
 ·have h1:((a.Ag.length:Int) != (b.Ag.length:Int))=true:=by rw [bne_iff_ne];omega
  rw [h1,QA6 hl];simp only [bne];cases a.Bv.toList == b.Bv.toList <;> cases a.DR == b.DR <;> cases a.BR == b.BR <;> cases a.Dp.toList == b.Dp.toList <;> cases a.fCount == b.fCount <;> rfl
theorem PBN {k:AA} {P:List Aq->Cm->Prop}:∀ {es:List EN} {l:List Aq} {L:Cm},(∀ e ∈ es,Rf e)->(∀ l L l' L' e,e ∈ es->AtF k l L->P l L->Step k e l L l' L'->P l' L')->AtF k l L->P l L->L.Du.length+es.length<=45->
  ∃ l' L',aK es (L.Du.length:Int) L=some L'/\AtF k l' L'/\P l' L'/\L'.Du.length=L.Du.length+es.length
 | [],l,L,_,_,h,hp,_=>⟨l,L,rfl,h,hp,rfl⟩
 | e::es,l,L,he,hs,h,hp,hn=>by
  rw [List.length_cons] at hn;obtain ⟨l1,L1,s1,s2⟩:=UA8 h (he e (List.mem_cons_self ..)) (by omega)
  obtain ⟨g1,g2⟩:=LA8 h (by omega) s2
  obtain ⟨l2,L2,r1,r2,r3,r4⟩:=PBN (fun e h=>he e (List.mem_cons_of_mem _ h)) (fun l L l' L' e h=>hs l L l' L' e (List.mem_cons_of_mem _ h)) g1 (hs _ _ _ _ e (List.mem_cons_self ..) h hp s2) (by omega)
  grind [aK]
theorem XBo {P:List Aq->Cm->Prop} {k w:AA} {es:List EN} (hk:k.size=32) (hw:w.size<=20) (hn:es.length<=39) (he:∀ e ∈ es,Rf e) (h0:P [Wi w] (Arz k w)) (hs:∀ l L l' L' e,e ∈ es->AtF k l L->P l L->Step k e l L l' L'->P l' L'):∃ l L,vZ k w es=some (L,true)/\AtF k l L/\P l L/\L.Du.length=es.length:=by
 obtain ⟨l,L,h1,h2,h3,h4⟩:=PBN he hs (VA8 hk hw) h0 (by show 0+es.length<=45;omega)
 grind [Arz,TBo]
def NAp (b:Aj):Prop:=∃ k l L,AtF k l L/\L.Du.length<=39/\L.Ad=b
theorem YBo {c:C9} (hc:Hl c):Ok (OAi c ()) fun r=>NAp r.1/\Hl r.2:=by
 rw [OAi,ZAx,mk];refine Ok.bind (VBo hc) fun a ha=>?_
 obtain ⟨l,L,h2,h3,_,h4⟩:=XBo (P:=fun _ _=>True) ha.1.k ha.1.w ha.1.n ha.1.e trivial fun _ _ _ _ _ _ _ _ _=>trivial
 have hn:=ha.1.n;rw [h2];exact Ok.ret ⟨⟨_,l,L,h3,by omega,rfl⟩,ha.2⟩
theorem NAp.db {b:Aj} (h:NAp b):DB b:=by obtain ⟨_,_,_,g,_,rfl⟩:=h;exact g.db
theorem ZBo:Ok (vk ()) fun r=>NAp r.1/\AuR r.2=true/\(r.2.Au=12->r.2.fText.size≠768):=by
 have h4:(⟨#[108,111,110,103]⟩:AA).size=4:=rfl;rw [vk,ALU,mk];refine Ok.bind WBa fun c hc=>Ok.bind (YBo hc) fun a ha=>Ok.bind (DBM ha.2 ha.1.db) fun d hd=>?_
 have x:=hd.1;refine Ok.cond (fun _=>Ok.ret ⟨ha.1,OA8 ⟨x.o,x.s,x.t,x.k,fun _=>?_⟩ ?_,fun _=>?_⟩) fun hz=>Ok.ret ⟨ha.1,OA8 x ?_,x.x⟩
 all_goals grind
theorem AeD {k:AA} {l:List Aq} {b:Aj} (g:Good k l b):Down k l (Ro b):=by
 obtain ⟨F,h1,h2⟩:=g.disk
 have hF:=Good.fsz g.len.2 h2;have hs:F.size=(DV (tx k 1 l)).length:=by rw [<-bs_len,h2]
 have w:=ZA5 (tx k 1 l) F.size (by omega);rw [Vt] at w;refine ⟨g.JC,g.len,by rw [g.book],F,?_,hF,l,F.size,g.len.2,by rw [g.book],by omega,by rw [hs,List.take_length];exact h2,by rw [w,List.take_length]⟩;rw [Ro,g.key,h1]
theorem QBN {k:AA} {l:List Aq} {B b:Aj} {t leaf:Int} (h:Good k l B\/Down k l B) (hz:qg B) (hlf:Ql b t=some leaf):((Ase B).bind fun r4=>cond (!r4) (some false) ((aF B).bind fun r5=>cond (!r5) (some false) ((Ql b t).bind fun r6=>cond (leaf != r6) (some false) ((kL B).bind fun r7=>(X7 r7).bind fun r8=>(X7 r8.1).bind fun r9=>(Ase r7).bind fun r10=>cond r10 (cond (!r7.Bj) (cond ((r7.BI.length:Int) == 0) (cond B.Bj (cond (r8.2 == true) (cond (!r9.2) (cond (!B.Bj) (cond ((r8.1.BI.length:Int) == 0) ((Ase r8.1).bind fun r11=>some r11) (some false)) ((aO r8.1.AV B.AV).bind fun r12=>cond r12 (cond ((r8.1.BI.length:Int) == 0) ((Ase r8.1).bind fun r13=>some r13) (some false)) (some false))) (some false)) (some false)) (cond (r8.2 == ((ByteArray.toList r7.BN) == (ByteArray.toList B.BN))) (cond (!r9.2) (cond (!B.Bj) (cond ((r8.1.BI.length:Int) == 0) ((Ase r8.1).bind fun Bx=>some Bx) (some false)) ((aO r8.1.AV B.AV).bind fun Bp=>cond Bp (cond ((r8.1.BI.length:Int) == 0) ((Ase r8.1).bind fun r16=>some r16) (some false)) (some false))) (some false)) (some false))) (some false)) (some false)) (some false)))))=some true:=by
 have hd:Down k l (Ro B):=by
  rcases h with g | d
  ·exact AeD g
  ·obtain ⟨X,rfl,_⟩:=d.box;exact d
 have hok:Ark B=true:=by
  rcases h with g | d
  ·exact g.ok
  ·exact (AtF.down (L:=⟨B,[],[],[],[]⟩) d).2.2.2.2.2.2.2
 have z:=hz.z;have Hb:=hz.n;have zt:=z.t;have zs:=z.s;have ArG:=z.l;obtain ⟨b',r1,r2,r3,r4,r5,r6⟩:=SBk hd
 have g2:=r2.small;have g21:=g2.1;have hR2:=VBK (b:=b') (by omega) (fun f hf=>by have:=g2.2 f hf;omega) (by have:=r2.aI;omega) (by have:=r2.LM.1;omega) (by have:=r2.Lp.2;omega) (by rw [r2.key,r2.JC];omega);rw [X5,r2.up,Bool.true_or,A8] at hR2;have hB:∀ D:Aj,D.Bd=B.Bd->D.AV=Ato->D.BI=[]->D.BJ=[]->Ase D=some (Ark D):=fun D e1 e2 e3 e4=>iE (by rw [e1];omega) (by rw [e1];exact hz.f) (by rw [e2];exact DF _) (by rw [e3];exact DF _) (by rw [e4];exact DF _)
 have hf:=hB (Ro B) rfl rfl rfl rfl;rw [(AtF.down (L:=⟨Ro B,[],[],[],[]⟩) hd).2.2.2.2.2.2.2] at hf;have hb':=iE (b:=b') (by omega) (fun f hf=>by have:=g2.2 f hf;omega) (by have:=r2.aI;omega) (by have:=r2.LM.1;omega) (by have:=r2.Lp.2;omega);rw [r2.ok] at hb';have hs0:((b'.BI.length:Int) == 0)=true:=by rw [r3];rfl
 rw [iE (by omega) hz.f (by omega) (by omega) (by omega),hok,AO,DZ,Aw,MBN (by omega) hz.f (by omega) (by omega) (by omega),hok,AO,DZ,Aw,hlf,AO,bne_self_eq_false,Aw,PBk (by omega),AO,r1,AO];dsimp only;rw [hR2,AO,hf,AO,A8,show (Ro B).Bj=false from rfl,show (((Ro B).BI.length:Int) == 0)=true from rfl,show (Ro B).BN=B.BN from rfl,QJ,hs0,hb',AO];cases hu:B.Bj;·rfl
 ·rcases h with g | d
  ·rw [WBo (by have:=r2.aI;omega),AO,r6,show (EW Ato l).1=_ from by rw [g.book],RA6.2 rfl];rfl
  ·rw [(AtF.down (L:=⟨B,[],[],[],[]⟩) d).1] at hu;cases hu
theorem AZx (x0:Unit):ACO x0=some true:=by
 rw [ACO,QA4,mk,UBa,AO];cases decide ((Jq.length:Int) > 1048576)
 ·obtain ⟨⟨b,c⟩,hr,⟨k,l,L,g,hn,hb⟩,hc,h12⟩:=ZBo
  dsimp only at hb hc h12;subst hb;rw [Aw,hr,AO];dsimp only;have x:=g.bx;have z:=x.z;have zd:=x.n;have zt:=z.t;have zs:=z.s;have ArG:=z.l;have ho:=g.opn;have hlc:=g.few.1;have hl1:aP L.Ad c.BK=some (Qm L.Ad c.BK):=VBI (by omega) (by omega);have hl2:Ql L.Ad c.BK=some (Qm L.Ad c.BK):=EBN (by omega) (by omega);have out:∀ (m:Nat) (p:PT) (B:Aj) (l':List Aq),p.1=[]->LP L.Ad c p.2.1 (Qm L.Ad c.BK)=some B->Good k l' B\/Down k l' B->qg B->aQ (m+1) (.c0 p.2.1 (Qm L.Ad c.BK) 0 L.Ad.BN L.Ad.Bj L.Ad.AV.Bv L.Ad.AV.DR L.Ad.AV.BR L.Ad.AV.Dp L.Ad.AV.fCount L.Ad.CU c L.Ad.BN L.Ad.Bj L.Ad.AV.Bv L.Ad.AV.DR L.Ad.AV.BR L.Ad.AV.Dp L.Ad.AV.fCount L.Ad.CU p.1 L.Ad.Bd.Ai L.Ad.AV.Ag L.Ad.BI L.Ad.BJ)=some true:=fun m p B l' h0 hcar hB hx=>by rw [aQ];simp only [vw,mk];rw [KF (by rw [h0];exact Int.lt_irrefl 0)];show (LP L.Ad c p.2.1 (Qm L.Ad c.BK)).bind _=_;rw [hcar,AO];exact QBN hB hx hl2
  rcases g.box with G | d
  ·have hp:=G.plan (by omega) (by omega) hc h12;have hlf:=AS4 G.Ol G.Lp.1 c.BK;have hG:=HBL (tk:=AuD) (c:=c) G (by omega);have hx:qg (Ri L.Ad c (F9 AuD L.Ad c)):=⟨hG.gy,fun f hf=>by have:=hG.small.2 f hf;omega,by rw [hG.key,hG.JC];omega,by have:=hG.small.1;omega⟩
   have hcn:=G.cnt;rw [hp,AO,hl1,AO];rcases GAp (tk:=AuD) (c:=c) G with h0 | ⟨r,h1,h2⟩
   ·obtain ⟨m,hm⟩:∃ m,AX=m+1:=⟨AX - 1,rfl⟩
    rw [hm];exact out m (F9 AuD L.Ad c) _ _ h0 (by rw [G.carry (by omega),Ri,h0]) (.inl hG) hx
   ·obtain ⟨m,hm⟩:∃ m,AX=m+1+1:=⟨AX - 2,rfl⟩
    have h3:((F9 AuD L.Ad c).1.length:Int)=1:=by rw [h1];rfl
    have hk:∀ d,((F9 AuD L.Ad c).1.getD (0:Int).toNat d)=r:=fun d=>by rw [h1];rfl
    obtain ⟨q1,q2⟩:=DBG L.Ad.BN L.Ad.AV.fCount r
    have e0:=((FA8 G (by omega) h2.ent).2 [] (fun v hv=>by cases hv) List.Pairwise.nil).gy;have e1:Atg (Asd L.Ad r):=⟨e0.d,e0.t,G.LM.1,G.Lp.2,G.opn⟩
    have hcar:LP (Asd L.Ad r) c (F9 AuD L.Ad c).2.1 (Qm L.Ad c.BK)=some (Ri L.Ad c (F9 AuD L.Ad c)):=by rw [Ri,h1];exact DBL e1 G.FAp.2 G.lives.2 (by omega)
    rw [hm,aQ];simp only [vw,mk,hk,Ar (n:=0+1) (by omega) (by omega)];rw [FT (by omega),Ht (by omega),QBk (by rw [G.key,G.JC];omega) h2.num,AO];show ((WZ L.Ad.Bd _).bind _)=_;rw [SAm (by omega) (by omega) q2,AO,Ht (by omega)];show ((X8 L.Ad.AV r).bind _)=_;rw [NBH (by omega) h2.num,AO,aQ];simp only [vw,mk];rw [KF (by omega)];show (LP (Asd L.Ad r) c (F9 AuD L.Ad c).2.1 (Qm L.Ad c.BK)).bind _=_;rw [hcar,AO];exact QBN (.inl hG) hx hl2
  ·obtain ⟨m,hm⟩:∃ m,AX=m+1:=⟨AX - 1,rfl⟩
   rw [NBm d c,AO,hl1,AO,hm];exact out m ([],9,iC 9) _ _ rfl (KBK z rfl) (.inr d) x
 ·rfl
end Go.Proofs.YtaalgheapdmjnaaGreatDoor.G
