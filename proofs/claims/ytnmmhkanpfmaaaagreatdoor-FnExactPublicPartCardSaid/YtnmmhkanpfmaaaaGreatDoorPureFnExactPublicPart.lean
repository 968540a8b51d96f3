/- The plain law of FnExactPublicPart: whatever the arguments, it answers true. Conditions: what is read is in reach. Part 2 of 2. -/
import Derived.Test.YtnmmhkanpfmaaaaGreatDoorPureFnExactPublicParta
namespace Go.Proofs.YtnmmhkanpfmaaaaGreatDoor.G
open Go Go.Ev
set_option linter.unusedVariables false
set_option linter.unusedSimpArgs false
set_option linter.unusedSectionVars false
variable [PC]
theorem ZAK {p:List Nat} (h:TT p):Zx (up p)=some (up (Oq p)):=by
 have inner:∀ (k size start z:Nat) (m:Nat) (o:List Nat),0<size→start+2*size≤256→z<3329→TT o→Qc (m+size*1) (.c2 (k:Int) (size:Int) (start:Int) (z:Int) (start:Int) (up o))=Qc m (.c2 (k:Int) (size:Int) (start:Int) (z:Int) ((start+size:Nat):Int) (up (SN (fun j o=>Pq z size (start+j) o) size 0 o))):=fun k size start z m o hs hst hz ho=>(EZ (Lp:=Qc) (st:=fun j o=>.c2 (k:Int) (size:Int) (start:Int) (z:Int) ((start+j:Nat):Int) (up o)) (f:=fun j o=>Pq z size (start+j) o) (P:=fun _ o=>TT o) (n:=size) 1 (fun m j o hj ho=>by
  refine ⟨?_,VAG ho _ _ _⟩
  have hl:=ho.1
  have h1:=ho.get (start+j)
  have h2:=ho.get (start+j+size)
  have e1:w64 (((start+j:Nat):Int)+1)=((start+(j+1):Nat):Int):=wn (n:=start+(j+1)) (by omega)
  have e2:w64 (((start+j:Nat):Int)+(size:Int))=((start+j+size:Nat):Int):=wn (n:=start+j+size) (by omega)
  have e3:w64 ((start:Int)+(size:Int))=((start+size:Nat):Int):=wn (n:=start+size) (by omega)
  have hzb:z*o.getD (start+j+size) 0<3329*3329:=Nat.mul_lt_mul'' hz h2
  have e4:w64 ((z:Int)*((o.getD (start+j+size) 0:Nat):Int))=((z*o.getD (start+j+size) 0:Nat):Int):=by rw [show (z:Int)*((o.getD (start+j+size) 0:Nat):Int)=((z*o.getD (start+j+size) 0:Nat):Int) from (Int.natCast_mul _ _).symm];exact wn (by omega)
  rw [Qc]
  simp only [Bj,e1,e2,e3,Int.toNat_natCast,IZ,e4]
  have e5:w64 (((o.getD (start+j) 0:Nat):Int)+((z*o.getD (start+j+size) 0:Nat):Int)) % 3329=(((o.getD (start+j) 0+z*o.getD (start+j+size) 0 % 3329) % 3329:Nat):Int):=by
   generalize z*o.getD (start+j+size) 0=t at hzb ⊢
   generalize o.getD (start+j) 0=a at h1 ⊢
   rw [w64_id (n:=(a:Int)+(t:Int)) (by omega) (by omega)];omega
  have e6:w64 (((o.getD (start+j) 0:Nat):Int) - ((z*o.getD (start+j+size) 0:Nat):Int)) % 3329=(((o.getD (start+j) 0+3329 - z*o.getD (start+j+size) 0 % 3329) % 3329:Nat):Int):=by
   generalize z*o.getD (start+j+size) 0=t at hzb ⊢
   generalize o.getD (start+j) 0=a at h1 ⊢
   rw [w64_id (n:=(a:Int) - (t:Int)) (by omega) (by omega)];omega
  rw [Ll,Option.bind_some,Ll,Option.bind_some,e5,e6,Aa,Aa,TB (by rw [decide_eq_true_eq];omega),TB (FN (by omega)),TB (FN (by omega)),TB (FN (by omega)),TB (FN (by omega)),TB (FN (by rw [List.length_set];omega)),List.set_comm _ _ (show start+j≠start+j+size by omega)];rfl) size 0 m o (by omega) ho).1
 have level:∀ (k0 size c:Nat) (m:Nat) (o:List Nat),1<size→size*c=128→k0=c→TT o→Qc (m+1+c*(size+2)+1) (.c0 (k0:Int) (size:Int) (up o))=Qc m (.c0 ((k0+c:Nat):Int) ((size / 2:Nat):Int) (up (Fg k0 size c o))):=by
  intro k0 size c m o hs hc hk ho
  have hsc:size≤128∧c≤64:=by
   refine ⟨Nat.le_of_dvd (by decide) ⟨c,hc.symm⟩,?_⟩
   have h2:2*c≤size*c:=Nat.mul_le_mul_right c hs
   omega
  have s:=EZ (Lp:=Qc) (st:=fun i o=>.c1 ((k0+i:Nat):Int) (size:Int) ((2*size*i:Nat):Int) (up o)) (f:=P8 k0 size) (P:=fun _ o=>TT o) (n:=c) (size+2) (fun m i o hi ho=>by
   refine ⟨?_,WAG ho _ _ _⟩
   have hb:size*(i+1)≤size*c:=Nat.mul_le_mul_left size hi
   have hb2:2*size*i=2*(size*i):=Nat.mul_assoc 2 size i
   have hb3:2*size*(i+1)=2*size*i+2*size:=Nat.mul_succ _ _
   rw [Nat.mul_succ] at hb
   have e1:w64 (((k0+i:Nat):Int)+1)=((k0+(i+1):Nat):Int):=wn (n:=k0+(i+1)) (by omega)
   have e2:w64 (2*(size:Int))=((2*size:Nat):Int):=wn (n:=2*size) (by omega)
   have e3:w64 (((2*size*i:Nat):Int)+((2*size:Nat):Int))=((2*size*(i+1):Nat):Int):=by rw [hb3];exact wn (n:=2*size*i+2*size) (by omega)
   have e4:w64 (((2*size*i:Nat):Int)+(size:Int))=((2*size*i+size:Nat):Int):=wn (n:=2*size*i+size) (by omega)
   have h7:=Q8 (k0+i)
   rw [show m+(size+2)=m+1+size*1+1 by omega,Qc]
   simp only [Bj,e1]
   rw [TB (by rw [decide_eq_true_eq];omega),AAL (n:=k0+i) (by omega),Option.bind_some,BAL (e:=t7 (k0+i)) (by omega),Option.bind_some]
   refine (inner (k0+(i+1)) size (2*size*i) _ (m+1) o (by omega) (by omega) (U8 _) ho).trans ?_
   rw [Qc]
   simp only [Bj,e2,e3,e4]
   rw [IK (by rw [decide_eq_false_iff_not];omega)];rfl)
  rw [Qc]
  simp only [Bj]
  rw [TB (by rw [decide_eq_true_eq];omega)]
  refine (s c 0 (m+1) o (by omega) ho).1.trans ?_
  have hb2:2*size*c=256:=by rw [Nat.mul_assoc,hc]
  have e5:w64 ((size:Int).tdiv 2)=((size / 2:Nat):Int):=wn (n:=size / 2) (by omega)
  rw [Qc]
  simp only [Bj,e5]
  rw [IK (by rw [decide_eq_false_iff_not,hb2];omega)];rfl
 have hl:=h.1
 obtain ⟨m,hm⟩:∃ m,gas=m+1+1+64*(2+2)+1+1+32*(4+2)+1+1+16*(8+2)+1+1+8*(16+2)+1+1+4*(32+2)+1+1+2*(64+2)+1+1+1*(128+2)+1:=⟨gas - 1165,by have:=gas_lt (n:=2000) (by omega);omega⟩
 rw [Zx,CAF,Qq h,Option.bind_some,Bool.not_true,cond_false,SAU (by rw [NM];omega),Option.bind_some,hm]
 have o1:=Za h 1 128 1
 have o2:=Za o1 2 64 2
 have o3:=Za o2 4 32 4
 have o4:=Za o3 8 16 8
 have o5:=Za o4 16 8 16
 have o6:=Za o5 32 4 32
 refine (level 1 128 1 _ p (by omega) rfl rfl h).trans ?_
 refine (level 2 64 2 _ _ (by omega) rfl rfl o1).trans ?_
 refine (level 4 32 4 _ _ (by omega) rfl rfl o2).trans ?_
 refine (level 8 16 8 _ _ (by omega) rfl rfl o3).trans ?_
 refine (level 16 8 16 _ _ (by omega) rfl rfl o4).trans ?_
 refine (level 32 4 32 _ _ (by omega) rfl rfl o5).trans ?_
 refine (level 64 2 64 (m+1) _ (by omega) rfl rfl o6).trans ?_
 rw [Qc]
 simp only [Bj]
 rw [IK (by rfl)];rfl
theorem CAL {a b:List Nat} (ha:TT a) (hb:TT b):Zk [up a,up b]=some [up (Oq a),up (Oq b)]:=by
 have w0:w64 (0+1)=1:=by decide
 have w1:w64 (1+1)=2:=by decide
 obtain ⟨m,hm⟩:∃ m,gas=m+3:=⟨gas - 3,rfl⟩
 rw [Zk,EAF,hm]
 rw [Xp];simp only [Ey];rw [TB (by rfl),TB (by rfl),show ([up a,up b]:List (List Int)).getD (0:Int).toNat []=up a from rfl,ZAK ha,Option.bind_some,TB (by rfl),w0]
 rw [Xp];simp only [Ey];rw [TB (by rfl),TB (by rfl),show ([up a,up b]:List (List Int)).getD (1:Int).toNat []=up b from rfl,ZAK hb,Option.bind_some,TB (by rfl),w1]
 rw [Xp];simp only [Ey];rw [IK (by rfl)];rfl
theorem DAL {seed:ByteArray} {i j:Nat} (h:seed.size≤1000) (hi:i<256) (hj:j<256):Bl seed (i:Int) (j:Int)=some (up (NZ seed i j)):=by
 have h1:Nc (i:Int)=some (LZ i):=Gg (by omega) (by omega)
 have h2:Nc (j:Int)=some (LZ j):=Gg (by omega) (by omega)
 have hz:∀ n,(LZ n).size=1:=fun n=>by rw [LZ,ofBytes_size];rfl
 have hz1:=hz i
 have hz2:=hz j
 have hsz:((seed++LZ i)++LZ j).size=seed.size+2:=by rw [ByteArray.size_append,ByteArray.size_append,hz1,hz2]
 rw [Bl,GAF,h1,Option.bind_some,TB (by rw [decide_eq_true_eq];omega),h2,Option.bind_some,TB (by rw [decide_eq_true_eq,ByteArray.size_append];omega),EAL (by omega),Option.bind_some,NZ]
 generalize hS:sd ((seed++LZ i)++LZ j)=S
 have hSz:S.size=200:=by rw [←hS];exact V8 _
 have inner:∀ (k:Nat) (x:SStream) (m:Nat) (o:List Nat),k<4000→o.length<256→Ie (m+3) (.c1 (o.length:Int) (k:Int) 2 0 x (up (Ea o)) [((JZ S k:Nat):Int),((Qa S k:Nat):Int)])=Ie m (.c0 (((Ja S k o).length:Nat):Int) ((k+1:Nat):Int) x (up (Ea (Ja S k o)))):=by
  intro k x m o hk ho
  have one:∀ (v:Nat) (m:Nat) (o:List Nat) (u:Int) (y:Nat),(u=0∧y=JZ S k∨u=1∧y=Qa S k)→o.length≤256→Ie (m+1) (.c1 (o.length:Int) (k:Int) 2 u x (up (Ea o)) [((JZ S k:Nat):Int),((Qa S k:Nat):Int)])=Ie m (.c1 (((Qd y o).length:Nat):Int) (k:Int) 2 (u+1) x (up (Ea (Qd y o))) [((JZ S k:Nat):Int),((Qa S k:Nat):Int)]):=by
   intro v m o u y hu ho
   have hg:([((JZ S k:Nat):Int),((Qa S k:Nat):Int)]:List Int).getD u.toNat 0=(y:Int):=by rcases hu with ⟨rfl,rfl⟩ | ⟨rfl,rfl⟩ <;> rfl
   have hc:(decide (0≤u) && decide (u<(([((JZ S k:Nat):Int),((Qa S k:Nat):Int)]:List Int).length:Int)))=true:=by rcases hu with ⟨rfl,rfl⟩ | ⟨rfl,rfl⟩ <;> rfl
   have hu2:u<2∧w64 (u+1)=u+1:=by rcases hu with ⟨rfl,rfl⟩ | ⟨rfl,rfl⟩ <;> decide
   have hw:w64 ((o.length:Int)+1)=((o.length+1:Nat):Int):=wn (n:=o.length+1) (by omega)
   have hpl:(Ea o).length=256:=by rw [Ea,List.length_append,List.length_replicate];omega
   rw [Ie]
   simp only [Yp]
   rw [TB (by rw [decide_eq_true_eq];exact hu2.1),hc,cond_true,hg,hu2.2,hw,Qd]
   by_cases h1:y<3329
   ·rw [TB (by rw [decide_eq_true_eq];omega)]
    by_cases h2:o.length<256
    ·rw [TB (by rw [decide_eq_true_eq];omega),TB (FN (by omega)),Int.toNat_natCast,Aa,TAU h2,if_pos ⟨h1,h2⟩,List.length_append,List.length_singleton]
    ·rw [IK (by rw [decide_eq_false_iff_not];omega),if_neg (fun h=>h2 h.2)]
   ·rw [IK (by rw [decide_eq_false_iff_not];omega),if_neg (fun h=>h1 h.1)]
  have hl1:(Qd (JZ S k) o).length≤256:=by
   rw [Qd];split
   ·rw [List.length_append,List.length_singleton];omega
   ·omega
  have hw:w64 ((k:Int)+1)=((k+1:Nat):Int):=wn (n:=k+1) (by omega)
  refine (one 0 (m+2) o 0 _ (.inl ⟨rfl,rfl⟩) (by omega)).trans ?_
  refine (one 0 (m+1) _ (0+1) _ (.inr ⟨rfl,rfl⟩) hl1).trans ?_
  rw [Ie]
  simp only [Yp,hw]
  rw [IK (by rfl)];rfl
 have key:∀ (r k:Nat) (m:Nat) (x:SStream) (o:List Nat),k+r=4000→UQ o→Ob S (3*k) x→Ie (m+r*4+1) (.c0 (o.length:Int) (k:Int) x (up (Ea o)))=some (up (Ea (Ij S r k o))):=by
  intro r
  induction r with
  | zero=>
   intro k m x o hk ho hx
   rw [Ie]
   simp only [Yp]
   rw [IK (by rw [decide_eq_false_iff_not];omega)];rfl
  | succ r ih=>
   intro k m x o hk ho hx
   rw [show m+(r+1)*4+1=(m+r*4+1)+3+1 by omega,Ie,Ij]
   simp only [Yp]
   rw [TB (by rw [decide_eq_true_eq];omega)]
   by_cases hlt:o.length<256
   ·obtain ⟨x',e,hx'⟩:=FAL (n:=3) hSz hx (by omega)
    have e:Uk x 3=_:=e
    have hs3:(ofBytes (up (DZ S (3*k) 3))).size=3:=by rw [ofBytes_size,NM,Hg]
    have t0:bt (ofBytes (up (DZ S (3*k) 3))) 0=((strm S (3*k):Nat):Int):=by rw [show (0:Int)=((0:Nat):Int) from rfl,Td,Ph S (by omega)];rfl
    have t1:bt (ofBytes (up (DZ S (3*k) 3))) 1=((strm S (3*k+1):Nat):Int):=by rw [show (1:Int)=((1:Nat):Int) from rfl,Td,Ph S (by omega)]
    have t2:bt (ofBytes (up (DZ S (3*k) 3))) 2=((strm S (3*k+2):Nat):Int):=by rw [show (2:Int)=((2:Nat):Int) from rfl,Td,Ph S (by omega)]
    have l0:=Ig S (3*k)
    have l1:=Ig S (3*k+1)
    have l2:=Ig S (3*k+2)
    have va:w64 (((strm S (3*k):Nat):Int)+w64 (((strm S (3*k+1):Nat):Int).tmod 16*256))=((JZ S k:Nat):Int):=by
     rw [show ((strm S (3*k+1):Nat):Int).tmod 16=((strm S (3*k+1) % 16:Nat):Int) from rfl,w64_id (n:=((strm S (3*k+1) % 16:Nat):Int)*256) (by omega) (by omega),w64_id (by omega) (by omega),JZ];omega
    have vb:w64 (w64 (((strm S (3*k+1):Nat):Int).tdiv 16)+w64 (16*((strm S (3*k+2):Nat):Int)))=((Qa S k:Nat):Int):=by
     rw [show ((strm S (3*k+1):Nat):Int).tdiv 16=((strm S (3*k+1) / 16:Nat):Int) from rfl,w64_id (n:=((strm S (3*k+1) / 16:Nat):Int)) (by omega) (by omega),w64_id (n:=16*((strm S (3*k+2):Nat):Int)) (by omega) (by omega),w64_id (by omega) (by omega),Qa];omega
    rw [TB (by rw [decide_eq_true_eq];omega),e,Option.bind_some]
    dsimp only
    rw [t0,t1,t2,wn (n:=strm S (3*k)) (by omega),wn (n:=strm S (3*k+1)) (by omega),wn (n:=strm S (3*k+2)) (by omega),va,vb,TB (by rw [hs3];rfl),TB (by rw [hs3];rfl),TB (by rw [hs3];rfl),if_pos hlt]
    refine (inner k x' (m+r*4+1) o (by omega) hlt).trans ?_
    exact ih (k+1) m x' _ (by omega) (Jg ho) (by rw [show 3*(k+1)=3*k+3 by omega];exact hx')
   ·rw [IK (by rw [decide_eq_false_iff_not];omega),if_neg hlt]
 obtain ⟨m,hm⟩:∃ m,gas=m+4000*4+1:=⟨gas - 16001,by have:=gas_lt (n:=16001) (by omega);omega⟩
 rw [hm,show (256:Int).toNat=256 from rfl,←Og]
 refine key 4000 0 m ⟨S,0⟩ [] (by omega) ⟨Nat.zero_le _,fun _ h=>by cases h⟩ ?_
 rw [←hS];exact X8 _
theorem GAL {rho:ByteArray} {i:Nat} (h:rho.size≤1000) (hi:i<256):Dl rho (i:Int) false=some [up (NZ rho 0 i),up (NZ rho 1 i)]:=by
 have u0:Bl rho 0 (i:Int)=some (up (NZ rho 0 i)):=DAL (i:=0) (j:=i) h (by decide) hi
 have u1:Bl rho 1 (i:Int)=some (up (NZ rho 1 i)):=DAL (i:=1) (j:=i) h (by decide) hi
 have w0:w64 (0+1)=1:=by decide
 have w1:w64 (1+1)=2:=by decide
 obtain ⟨m,hm⟩:∃ m,gas=m+3:=⟨gas - 3,rfl⟩
 rw [Dl,IAF,hm]
 rw [Zp];simp only [Iy];rw [TB (by rfl),cond_false,u0,Option.bind_some,TB (by rfl),w0]
 rw [Zp];simp only [Iy];rw [TB (by rfl),cond_false,u1,Option.bind_some,TB (by rfl),w1]
 rw [Zp];simp only [Iy];rw [IK (by rfl)];rfl
theorem HAL {a b:List Nat} (ha:TT a) (hb:TT b):Ky (up a) (up b)=some (up (mulL a b)):=by
 have hal:=ha.1
 have hbl:=hb.1
 have s:=EZ (Lp:=Aq) (st:=fun i o=>.c0 (up a) (up b) (i:Int) (up o)) (f:=fun i o=>(o.set (2*i) (Xa a b (2*i))).set (2*i+1) (Xa a b (2*i+1))) (P:=fun _ o=>o.length=256) (n:=128) 1 (fun m i o hi ho=>by
  refine ⟨?_,by rw [List.length_set,List.length_set,ho]⟩
  have h7:=Q8 i
  have w1:w64 ((i:Int)+1)=((i+1:Nat):Int):=wn (n:=i+1) (by omega)
  have e1:w64 (2*(i:Int))=((2*i:Nat):Int):=wn (n:=2*i) (by omega)
  have e2:w64 (((2*i:Nat):Int)+1)=((2*i+1:Nat):Int):=wn (n:=2*i+1) (by omega)
  have e3:w64 (2*((t7 i:Nat):Int))=((2*t7 i:Nat):Int):=wn (n:=2*t7 i) (by omega)
  have e4:w64 (((2*t7 i:Nat):Int)+1)=((2*t7 i+1:Nat):Int):=wn (n:=2*t7 i+1) (by omega)
  have g:=U8 (2*t7 i+1)
  have a0:=ha.get (2*i)
  have a1:=ha.get (2*i+1)
  have b0:=hb.get (2*i)
  have b1:=hb.get (2*i+1)
  have p00:=mul_lt a0 b0
  have p11:=mul_lt a1 b1
  have p01:=mul_lt a0 b1
  have p10:=mul_lt a1 b0
  have hm:a.getD (2*i+1) 0*b.getD (2*i+1) 0 % 3329<3329:=Nat.mod_lt _ (by decide)
  have pg:=mul_lt hm g
  rw [Aq]
  simp only [O7,w1,e1,e2,Int.toNat_natCast,IZ]
  rw [TB (by rw [decide_eq_true_eq];omega),AAL (by omega),Option.bind_some,e3,e4,BAL (by omega),Option.bind_some,Nl a1 b1,Jj hm g,Jj a0 b0,Jj a0 b1,Jj a1 b0,Ll,Option.bind_some,Ll,Option.bind_some]
  have v1:(w64 (((a.getD (2*i) 0*b.getD (2*i) 0:Nat):Int)+((a.getD (2*i+1) 0*b.getD (2*i+1) 0 % 3329*Lj (2*t7 i+1):Nat):Int))) % 3329=((Xa a b (2*i):Nat):Int):=by
   rw [IAL,←Int.natCast_add,wn (by omega)];rfl
  have v2:(w64 (((a.getD (2*i) 0*b.getD (2*i+1) 0:Nat):Int)+((a.getD (2*i+1) 0*b.getD (2*i) 0:Nat):Int))) % 3329=((Xa a b (2*i+1):Nat):Int):=by
   rw [JAL,←Int.natCast_add,wn (by omega)];rfl
  rw [v1,v2,Aa,Aa,TB (FN (by omega)),TB (FN (by omega)),TB (FN (by omega)),TB (FN (by omega)),TB (FN (by omega)),TB (FN (by rw [List.length_set];omega))])
 obtain ⟨m,hm⟩:∃ m,gas=m+1+128*1:=⟨gas - 129,by have:=gas_lt (n:=129) (by omega);omega⟩
 rw [Ky,KAF,Qq ha,Option.bind_some,Bool.not_true,cond_false,Qq hb,Option.bind_some,Bool.not_true,cond_false,hm,show (256:Int).toNat=256 from rfl,←Og]
 refine (s 128 0 (m+1) (List.replicate 256 0) (by omega) List.length_replicate).1.trans ?_
 rw [KAL,show 2*128=256 from rfl,Nat.mul_zero,Gz (v:=Xa a b) List.length_replicate,Aq]
 simp only [O7]
 rw [IK (by rw [decide_eq_false_iff_not];omega)];rfl
theorem XAG {a b:List Nat} (ha:TT a) (hb:TT b):Bg (up a) (up b)=some (up (Ol a b)):=by
 have hal:=ha.1
 have hbl:=hb.1
 have hn:U7 (up a) (up b) 112=some (up (Ol a b)):=by
  have s:=EZ (Lp:=Bq) (st:=fun i o=>.c0 (up a) (up b) 112 ((256:Nat):Int) (i:Int) (up o)) (f:=fun i o=>o.set i ((a.getD i 0+b.getD i 0) % 3329)) (P:=fun _ o=>o.length=256) (n:=256) 1 (fun m i o hi ho=>by
   refine ⟨?_,by rw [List.length_set,ho]⟩
   have w1:w64 ((i:Int)+1)=((i+1:Nat):Int):=wn (n:=i+1) (by omega)
   have a0:=ha.get i
   have b0:=hb.get i
   have v:(w64 (((a.getD i 0:Nat):Int)+((b.getD i 0:Nat):Int))) % 3329=(((a.getD i 0+b.getD i 0) % 3329:Nat):Int):=by rw [←Int.natCast_add,wn (by omega)];rfl
   rw [Bq]
   simp only [Q7,w1,Int.toNat_natCast,IZ]
   rw [TB (by rw [decide_eq_true_eq];omega),TB (FN (by omega)),TB (FN (by omega)),TB (by rfl),P7,MAF,Option.bind_some,Ll,Option.bind_some,v,Aa,TB (FN (by omega))])
  obtain ⟨m,hm⟩:∃ m,gas=m+1+256*1:=⟨gas - 257,by have:=gas_lt (n:=257) (by omega);omega⟩
  rw [U7,PAF,Qq ha,Option.bind_some,Bool.not_true,cond_false,Qq hb,Option.bind_some,Bool.not_true,cond_false,hm,show (256:Int).toNat=256 from rfl,List.length_replicate,←Og]
  refine (s 256 0 (m+1) (List.replicate 256 0) (by omega) List.length_replicate).1.trans ?_
  rw [Gz (v:=fun i=>(a.getD i 0+b.getD i 0) % 3329) List.length_replicate,Bq]
  simp only [Q7]
  rw [IK (by rw [decide_eq_false_iff_not];omega)];rfl
 rw [Bg,QAF,hn];rfl
theorem UAU {a0 a1 b0 b1:List Nat} (ha0:TT a0) (ha1:TT a1) (hb0:TT b0) (hb1:TT b1):Fq [up a0,up a1] [up b0,up b1]=some (up (Y8 a0 a1 b0 b1)):=by
 obtain ⟨m,hm⟩:∃ m,gas=m+1+1+1:=⟨gas - 3,rfl⟩
 rw [Fq,SAF,hm,show (256:Int).toNat=256 from rfl,←Og,Dq]
 simp only [Qy]
 rw [TB (by rfl),TB (by rfl),TB (by rfl),show ([up a0,up a1]:List (List Int)).getD (0:Int).toNat []=up a0 from rfl,show ([up b0,up b1]:List (List Int)).getD (0:Int).toNat []=up b0 from rfl,HAL ha0 hb0,Option.bind_some,XAG LAL (Z8 _ _),Option.bind_some,show w64 (0+1)=1 by decide,Dq]
 simp only [Qy]
 rw [TB (by rfl),TB (by rfl),TB (by rfl),show ([up a0,up a1]:List (List Int)).getD (1:Int).toNat []=up a1 from rfl,show ([up b0,up b1]:List (List Int)).getD (1:Int).toNat []=up b1 from rfl,HAL ha1 hb1,Option.bind_some,XAG (C9 _ _) (Z8 _ _),Option.bind_some,show w64 (1+1)=2 by decide,Dq]
 simp only [Qy]
 rw [IK (by rfl)];rfl
def La (l:List Nat) (t:Nat):Nat:=l.getD (t / 12) 0 / 2 ^ (t % 12) % 2
def Ve (l:List Nat) (p:Nat):Nat→Nat
 | 0=>0
 | c+1=>Ve l p c+La l (8*p+c)*2 ^ c
theorem YAG (l:List Nat) (p:Nat):∀ c,Ve l p c<2 ^ c
 | 0=>Nat.two_pow_pos _
 | c+1=>by
  have h1:=YAG l p c
  have h2:La l (8*p+c)<2:=Nat.mod_lt _ (by decide)
  have h3:(La l (8*p+c)+1)*2 ^ c≤2*2 ^ c:=Nat.mul_le_mul_right _ h2
  rw [Nat.add_mul] at h3
  rw [Ve,Nat.pow_succ];omega
theorem VAU (x:Nat):x % 2+x / 2 % 2*2+x / 4 % 2*4+x / 8 % 2*8+x / 16 % 2*16+x / 32 % 2*32+x / 64 % 2*64+x / 128 % 2*128=x % 256:=by omega
theorem WAU {l:List Nat} (h:TT l) (p:Nat):Ve l p 8=Ba l p:=by
 have hx:=h.get (2*(p / 3))
 have hy:=h.get (2*(p / 3)+1)
 have e:Ve l p 8=La l (8*p)+La l (8*p+1)*2+La l (8*p+2)*4+La l (8*p+3)*8+La l (8*p+4)*16+La l (8*p+5)*32+La l (8*p+6)*64+La l (8*p+7)*128:=by
  simp only [Ve,Nat.reducePow,Nat.add_zero,Nat.mul_one,Nat.zero_add]
 have hp:p=3*(p / 3)+p % 3:=by omega
 generalize hq:p / 3=q at hp hx hy
 have h3:p % 3<3:=Nat.mod_lt _ (by decide)
 have b:∀ t i k,t=12*i+k→k<12→La l t=l.getD i 0 / 2 ^ k % 2:=fun t i k h1 h2=>by rw [La,show t / 12=i by omega,show t % 12=k by omega]
 rcases (show p % 3=0∨p % 3=1∨p % 3=2 by omega) with h0 | h0 | h0
 ·rw [h0] at hp
  subst hp
  rw [e,Nat.add_zero,MAL,b _ (2*q) 0 (by omega) (by omega),b _ (2*q) 1 (by omega) (by omega),b _ (2*q) 2 (by omega) (by omega),b _ (2*q) 3 (by omega) (by omega),b _ (2*q) 4 (by omega) (by omega),b _ (2*q) 5 (by omega) (by omega),b _ (2*q) 6 (by omega) (by omega),b _ (2*q) 7 (by omega) (by omega)]
  simp only [Nat.reducePow,Nat.div_one]
  exact VAU _
 ·rw [h0] at hp
  subst hp
  rw [e,NAL,b _ (2*q) 8 (by omega) (by omega),b _ (2*q) 9 (by omega) (by omega),b _ (2*q) 10 (by omega) (by omega),b _ (2*q) 11 (by omega) (by omega),b _ (2*q+1) 0 (by omega) (by omega),b _ (2*q+1) 1 (by omega) (by omega),b _ (2*q+1) 2 (by omega) (by omega),b _ (2*q+1) 3 (by omega) (by omega)]
  simp only [Nat.reducePow,Nat.div_one]
  generalize l.getD (2*q) 0=x at hx
  generalize l.getD (2*q+1) 0=y
  omega
 ·rw [h0] at hp
  subst hp
  rw [e,OAL,b _ (2*q+1) 4 (by omega) (by omega),b _ (2*q+1) 5 (by omega) (by omega),b _ (2*q+1) 6 (by omega) (by omega),b _ (2*q+1) 7 (by omega) (by omega),b _ (2*q+1) 8 (by omega) (by omega),b _ (2*q+1) 9 (by omega) (by omega),b _ (2*q+1) 10 (by omega) (by omega),b _ (2*q+1) 11 (by omega) (by omega)]
  simp only [Nat.reducePow]
  generalize l.getD (2*q+1) 0=y at hy
  omega
theorem o8 {a b:Nat} (ha:a<256) (hb:b<256):w8 (((BitVec.toNat ((BitVec.ofInt (IntKind.bits IntKind.u8) (a:Int)) ||| (BitVec.ofInt (IntKind.bits IntKind.u8) (b:Int)))):Nat):Int)=((a ||| b:Nat):Int):=by
 have h:a ||| b<256:=Nat.or_lt_two_pow (n:=8) ha hb
 rw [BitVec.toNat_or,D9 ha,D9 hb,w8_id (by omega) (by omega)]
def AAH (l:List Nat) (t:Nat) (o:List Nat):Prop:=o.length=384∧∀ p,p<384→o.getD p 0=Ve l p (min 8 (t - 8*p))
theorem XAU {l:List Nat} (h:TT l):V7 (up l) 12=some (Qb l):=by
 have hl:=h.1
 have c2:∀ k:Nat,(2:Int) ^ k=((2 ^ k:Nat):Int):=fun k=>by rw [Int.natCast_pow];rfl
 have fd:∀ (a k:Nat),Int.fdiv (a:Int) ((2 ^ k:Nat):Int)=((a / 2 ^ k:Nat):Int):=fun a k=>by rw [Int.fdiv_eq_ediv_of_nonneg _ (Int.natCast_nonneg _)];rfl
 have inner:∀ (i:Nat),i<256→∀ (m:Nat) (o:List Nat),AAH l (12*i) o→_:=fun i hi m o ho=>EZ (Lp:=Oh) (st:=fun k o=>.c1 12 (i:Int) ((l.getD i 0:Nat):Int) (up l) ((256:Nat):Int) (i:Int) 12 (k:Int) (up o)) (f:=fun k o=>o.set ((12*i+k) / 8) (o.getD ((12*i+k) / 8) 0 ||| La l (12*i+k)*2 ^ ((12*i+k) % 8))) (P:=fun k o=>AAH l (12*i+k) o) (n:=12) 1 (fun m k o hk ho=>by
  obtain ⟨hol,hok⟩:=ho
  have hx:=h.get i
  have hbit:La l (12*i+k)=l.getD i 0 / 2 ^ k % 2:=by rw [La,show (12*i+k) / 12=i by omega,show (12*i+k) % 12=k by omega]
  have hw1:w64 ((i:Int)*12)=((12*i:Nat):Int):=by rw [show (i:Int)*12=((12*i:Nat):Int) by omega];exact wn (by omega)
  have hw2:w64 (((12*i:Nat):Int)+(k:Int))=((12*i+k:Nat):Int):=wn (n:=12*i+k) (by omega)
  obtain ⟨t,ht⟩:∃ t,t=12*i+k:=⟨_,rfl⟩
  rw [←ht] at hbit hw2 hok ⊢
  have hd:t / 8<384:=by omega
  have hv:=hok (t / 8) hd
  rw [show min 8 (t - 8*(t / 8))=t % 8 by omega] at hv
  have hpl:=YAG l (t / 8) (t % 8)
  have hor:Ve l (t / 8) (t % 8) ||| La l t*2 ^ (t % 8)=Ve l (t / 8) (t % 8+1):=by
   have:=Nat.shiftLeft_add_eq_or_of_lt hpl (La l t)
   rw [Nat.shiftLeft_eq] at this
   rw [Nat.or_comm,←this,Ve,show 8*(t / 8)+t % 8=t by omega,Nat.add_comm]
  have hlt:=YAG l (t / 8) (t % 8+1)
  have h8:2 ^ (t % 8+1)≤2 ^ 8:=Nat.pow_le_pow_right (by decide) (by omega)
  have h80:2 ^ (t % 8)≤2 ^ 8:=Nat.pow_le_pow_right (by decide) (by omega)
  have h256:(2:Nat) ^ 8=256:=rfl
  have hbp:La l t*2 ^ (t % 8)<256:=by
   rw [Ve,show 8*(t / 8)+t % 8=t by omega] at hlt;omega
  have hb2:La l t<2:=Nat.mod_lt _ (by decide)
  refine ⟨?_,by rw [List.length_set,hol],fun p hp=>?_⟩
  ·have w1:w64 ((k:Int)+1)=((k+1:Nat):Int):=wn (n:=k+1) (by omega)
   have e1:w64 ((t:Int).tdiv 8)=((t / 8:Nat):Int):=wn (n:=t / 8) (by omega)
   have e2:(t:Int).tmod 8=((t % 8:Nat):Int):=rfl
   have e3:Min.min (t % 8) (IntKind.bits IntKind.u8)=t % 8:=Nat.min_eq_left (by show t % 8≤8;omega)
   have e4:Min.min k (IntKind.bits IntKind.i64)=k:=Nat.min_eq_left (by show k≤64;omega)
   have hdv:l.getD i 0 / 2 ^ k≤l.getD i 0:=Nat.div_le_self _ _
   rw [Oh]
   simp only [Gq,w1,hw1,hw2,e1,e2,Int.toNat_natCast,e3,e4,c2,fd,IZ]
   rw [and1 (n:=l.getD i 0 / 2 ^ k) (by omega),←hbit,w8_id (n:=((La l t:Nat):Int)) (by omega) (by omega),←Int.natCast_mul,w8_id (n:=((La l t*2 ^ (t % 8):Nat):Int)) (by omega) (by omega),hv,o8 (by omega) hbp,Aa,TB (by rw [decide_eq_true_eq];omega),TB (FN (by omega)),TB (by rw [decide_eq_true_eq];omega),TB (by rw [decide_eq_true_eq];omega),TB (FN (by omega))]
  ·rw [show 12*i+(k+1)=t+1 by omega]
   by_cases e:p=t / 8
   ·subst e
    rw [BAH (by omega),hv,hor,show min 8 (t+1 - 8*(t / 8))=t % 8+1 by omega]
   ·rw [getD_set_ne e,hok p hp]
    congr 1;omega) 12 0 m o (by omega) ho
 have so:=EZ (Lp:=Oh) (st:=fun i o=>.c0 12 (up l) ((256:Nat):Int) (i:Int) (up o)) (f:=fun i o=>SN (fun k o=>o.set ((12*i+k) / 8) (o.getD ((12*i+k) / 8) 0 ||| La l (12*i+k)*2 ^ ((12*i+k) % 8))) 12 0 o) (P:=fun i o=>AAH l (12*i) o) (n:=256) 14 (fun m i o hi ho=>by
  obtain ⟨i1,i2⟩:=inner i hi (m+1) o ho
  refine ⟨?_,i2⟩
  have w1:w64 ((i:Int)+1)=((i+1:Nat):Int):=wn (n:=i+1) (by omega)
  rw [show m+14=m+1+12*1+1 from rfl,Oh]
  simp only [Gq,Int.toNat_natCast,IZ]
  rw [TB (by rw [decide_eq_true_eq];omega),TB (FN (by omega))]
  refine i1.trans ?_
  rw [Oh]
  simp only [Gq,w1]
  rw [IK (by rfl)])
 obtain ⟨m,hm⟩:∃ m,gas=m+1+256*14:=⟨gas - 3585,by have:=gas_lt (n:=3585) (by omega);omega⟩
 have hz:(w64 ((w64 ((w64 (((256:Nat):Int)*12))+7)).tdiv 8))=384:=by decide
 rw [V7,TAF,NM,hl,hz,hm,TB (by decide),show (384:Int).toNat=384 from rfl,←Og]
 obtain ⟨a1,a2,a3⟩:=so 256 0 (m+1) (List.replicate 384 0) (by omega) ⟨List.length_replicate,fun p hp=>by
  rw [show min 8 (12*0 - 8*p)=0 by omega,List.getD_eq_getElem?_getD,List.getElem?_replicate];split <;> rfl⟩
 refine a1.trans ?_
 generalize SN (fun i o=>SN (fun k o=>o.set ((12*i+k) / 8) (o.getD ((12*i+k) / 8) 0 ||| La l (12*i+k)*2 ^ ((12*i+k) % 8))) 12 0 o) 256 0 (List.replicate 384 0)=o at a2 a3
 have hfin:o=(List.range 384).map (Ba l):=Hz (by rw [a2,List.length_map,List.length_range]) fun p hp=>by
  rw [List.length_map,List.length_range] at hp
  rw [a3 p hp,Xe hp,show min 8 (12*256 - 8*p)=8 by omega,WAU h]
 rw [hfin,Oh]
 simp only [Gq]
 rw [IK (by rw [decide_eq_false_iff_not];omega)];rfl
theorem PAL {l:List Nat} (h:TT l):Gl (up l)=some (Qb l):=by
 rw [Gl,VAF,Qq h,Option.bind_some,Bool.not_true,cond_false,XAU h];rfl
theorem YAU {seed:ByteArray} (h:seed.size=32):X7 seed=some (⟨Ud seed,QAL seed⟩,true):=by
 have z0:(⟨#[]⟩:ByteArray).size=0:=rfl
 have z1:(⟨#[114]⟩:ByteArray).size=1:=rfl
 have z2:(⟨#[115]⟩:ByteArray).size=1:=rfl
 have z3:(⟨#[122]⟩:ByteArray).size=1:=rfl
 have hd:=Bc seed
 have hrs:(Na seed).size=32:=Bc _
 have hss:(Oa seed).size=32:=Bc _
 have hps:=RAL seed
 have hr:Yf (XZ seed++⟨#[114]⟩)=some (Na seed):=Rq (by rw [ByteArray.size_append,hd,z1];omega)
 have hs:Yf (XZ seed++⟨#[115]⟩)=some (Oa seed):=Rq (by rw [ByteArray.size_append,hd,z2];omega)
 have hzz:Yf (XZ seed++⟨#[122]⟩)=some (XZ (XZ seed++⟨#[122]⟩)):=Rq (by rw [ByteArray.size_append,hd,z3];omega)
 have hpp:Yf (Ud seed)=some (XZ (Ud seed)):=Rq (by omega)
 have m0:Vk (Oa seed) 0=some [up (Va (Oa seed) 0),up (Va (Oa seed) 1)]:=SAL (f:=0) (by omega) (by decide)
 have m2:Vk (Oa seed) 2=some [up (Va (Oa seed) 2),up (Va (Oa seed) 3)]:=SAL (f:=2) (by omega) (by decide)
 have n0:Zk [up (Va (Oa seed) 0),up (Va (Oa seed) 1)]=some [up (pS seed 0),up (pS seed 1)]:=CAL (Tq _ _) (Tq _ _)
 have n2:Zk [up (Va (Oa seed) 2),up (Va (Oa seed) 3)]=some [up (pS seed 2),up (pS seed 3)]:=CAL (Tq _ _) (Tq _ _)
 have r0:Dl (Na seed) 0 false=some [up (NZ (Na seed) 0 0),up (NZ (Na seed) 1 0)]:=GAL (i:=0) (by omega) (by decide)
 have r1:Dl (Na seed) 1 false=some [up (NZ (Na seed) 0 1),up (NZ (Na seed) 1 1)]:=GAL (i:=1) (by omega) (by decide)
 have b0:∀ i,Gl (up (pS seed i))=some (Qb (pS seed i)):=fun i=>PAL (Nj _ _)
 have d0:∀ i,Fq [up (NZ (Na seed) 0 i),up (NZ (Na seed) 1 i)] [up (pS seed 0),up (pS seed 1)]=some (up (Ql seed i)):=fun i=>UAU (F9 _ _ _) (F9 _ _ _) (Nj _ _) (Nj _ _)
 have a0:∀ i,Bg (up (Ql seed i)) (up (pS seed (2+i)))=some (up (pT seed i)):=fun i=>XAG (TAL _ _ _ _) (Nj _ _)
 have a00:Bg (up (Ql seed 0)) (up (pS seed 2))=some (up (pT seed 0)):=a0 0
 have a01:Bg (up (Ql seed 1)) (up (pS seed 3))=some (up (pT seed 1)):=a0 1
 have t0:∀ i,Gl (up (pT seed i))=some (Qb (pT seed i)):=fun i=>PAL (UAL _ _)
 have g0:∀ a b:List Int,([a,b]:List (List Int)).getD (0:Int).toNat []=a:=fun _ _=>rfl
 have g1:∀ a b:List Int,([a,b]:List (List Int)).getD (1:Int).toNat []=b:=fun _ _=>rfl
 have w0:w64 (0+1)=1:=by decide
 have w1:w64 (1+1)=2:=by decide
 obtain ⟨m,hm⟩:∃ m,gas=m+3:=⟨gas - 3,rfl⟩
 rw [X7,WAF,IK (by rw [h];rfl),Rq (by omega),Option.bind_some,TB (by rw [decide_eq_true_eq,hd,z1];omega),hr,Option.bind_some,TB (by rw [decide_eq_true_eq,hd,z2];omega),hs,Option.bind_some,m0,Option.bind_some,n0,Option.bind_some,m2,Option.bind_some,n2,Option.bind_some,hm]
 rw [Hq];simp only [Vy]
 rw [TB (by rfl),r0,Option.bind_some,d0,Option.bind_some,TB (by rfl),g0,a00,Option.bind_some,t0,Option.bind_some,TB (by rw [decide_eq_true_eq,QZ,z0];omega),TB (by rfl),g0,b0,Option.bind_some,TB (by rw [decide_eq_true_eq,QZ,z0];omega),w0]
 rw [Hq];simp only [Vy]
 rw [TB (by rfl),r1,Option.bind_some,d0,Option.bind_some,TB (by rfl),g1,a01,Option.bind_some,t0,Option.bind_some,TB (by rw [decide_eq_true_eq,ByteArray.size_append,QZ,QZ,z0];omega),TB (by rfl),g1,b0,Option.bind_some,TB (by rw [decide_eq_true_eq,ByteArray.size_append,QZ,QZ,z0];omega),w1]
 rw [Hq];simp only [Vy]
 rw [IK (by rfl),TB (by rw [decide_eq_true_eq,ByteArray.size_append,ByteArray.size_append,QZ,QZ,z0,hrs];omega)]
 rw [show ((⟨#[]⟩:ByteArray)++Qb (pT seed 0)++Qb (pT seed 1))++Na seed=Ud seed from rfl,TB (by rw [decide_eq_true_eq,hps,ByteArray.size_append,ByteArray.size_append,QZ,QZ,z0];omega),hpp,Option.bind_some,TB (by rw [decide_eq_true_eq,Bc,ByteArray.size_append,hps,ByteArray.size_append,ByteArray.size_append,QZ,QZ,z0];omega),TB (by rw [decide_eq_true_eq,hd,z3];omega),hzz,Option.bind_some,TB (by rw [decide_eq_true_eq,Bc,ByteArray.size_append,Bc,ByteArray.size_append,hps,ByteArray.size_append,ByteArray.size_append,QZ,QZ,z0];omega)]
 rfl
theorem ZAU {s:ByteArray} (hs:s.size≤1000):N8 s=some (Vq (s++⟨#[116]⟩)):=by
 have z:(⟨#[116]⟩:ByteArray).size=1:=rfl
 rw [N8,RAG,TB (by rw [decide_eq_true_eq,z];omega),AAV (by rw [ByteArray.size_append,z];omega)];rfl
theorem BAV (x:SThing):O8 x=some (G9 x):=by
 rw [O8,SAG,CAV,Option.bind_some,G9]
 cases h:Ye x
 ·rfl
 ·rw [Bool.not_true,cond_false,cond_true]
  by_cases h1:x.fKind=1
  ·rw [h1,YAU (H9 h (.inl h1))];rfl
  ·rw [beq_eq_false_iff_ne.2 h1,cond_false,cond_false]
   by_cases h2:x.fKind=2
   ·have hz:=H9 h (.inr h2)
    rw [h2,ZAU (by omega)];rfl
   ·rw [beq_eq_false_iff_ne.2 h2,cond_false,cond_false]
theorem law_FnExactPublicPart (x0:SThing) (g0:GSThing x0):laws_FnExactPublicPart x0=some true:=by
 obtain ⟨r,hr⟩:=DAV g0 1048576
 rw [laws_FnExactPublicPart,UAG,hr,Option.bind_some]
 cases decide (r<0)
 ·rw [cond_false,EAV g0,Option.bind_some,FAV,Option.bind_some,Option.bind_some,BAV,Option.bind_some,toList_self];rfl
 ·rfl
end Go.Proofs.YtnmmhkanpfmaaaaGreatDoor.G
