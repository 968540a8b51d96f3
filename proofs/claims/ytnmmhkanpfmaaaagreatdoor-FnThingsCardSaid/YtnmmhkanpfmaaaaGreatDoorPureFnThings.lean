/- The plain law of FnThings: whatever the arguments, it answers true. Conditions: what is read is in reach. Part 2 of 2. -/
import Derived.Test.YtnmmhkanpfmaaaaGreatDoorPureFnThingsa
namespace Go.Proofs.YtnmmhkanpfmaaaaGreatDoor.G
open Go Go.Ev
set_option linter.unusedVariables false
set_option linter.unusedSimpArgs false
set_option linter.unusedSectionVars false
variable [PC]
theorem WAL {level place:Int} {a b:ByteArray} (hl:0≤level∧level≤255) (hp:0≤place∧place≤255) (ha:a.size≤100000) (hb:b.size≤100000):Gj level place a b=some (Ye level place a b):=by
 have hN:Vm.size=1:=rfl
 rw [Gj,MAJ,Ze hl.1 hl.2,Option.bind_some,Ze hp.1 hp.2,Option.bind_some]
 show (bif decide ((b1 level).size+(b1 place).size≤_) then _ else _)=_
 rw [cond_d (by rw [DZ,DZ];omega)]
 show (bif decide ((b1 level++b1 place).size+a.size≤_) then _ else _)=_
 rw [cond_d (by rw [ByteArray.size_append,DZ,DZ];omega)]
 show (bif decide ((b1 level++b1 place++a).size+b.size≤_) then _ else _)=_
 rw [cond_d (by rw [ByteArray.size_append,ByteArray.size_append,DZ,DZ];omega)]
 show (bif decide ((b1 level++b1 place++a++b).size+Vm.size≤_) then _ else _)=_
 rw [cond_d (by rw [ByteArray.size_append,ByteArray.size_append,ByteArray.size_append,DZ,DZ,hN];omega)]
 show (Zd (b1 level++b1 place++a++b++Vm)).bind _=_
 rw [KAC (by rw [ByteArray.size_append,ByteArray.size_append,ByteArray.size_append,ByteArray.size_append,DZ,DZ,hN];omega)];rfl
theorem LAC (level place:Int) (a b:ByteArray):(Ye level place a b).size=4:=Vj _
theorem KAd {lv:Int} {a b c d:ByteArray} (hl:0≤lv∧lv≤255) (ha:a.size≤100000) (hb:b.size≤100000) (hc:c.size≤100000) (hd:d.size≤100000):Em lv [a,b,c,d]=some [Ye lv 0 a b,Ye lv 1 c d]:=by
 obtain ⟨m,hm⟩:∃ m,gas=m+1+1+1:=⟨gas - 3,rfl⟩
 rw [Em,KAB,hm,Ij]
 simp only [Cm]
 rw [TB (by rfl),TB (by rfl),TB (by rfl)]
 show (Gj lv 0 a b).bind _=_
 rw [WAL hl (by omega) ha hb,Option.bind_some,TB (by rfl),Ij]
 simp only [Cm]
 rw [TB (by rfl),TB (by rfl),TB (by rfl)]
 show (Gj lv 1 c d).bind _=_
 rw [WAL hl (by omega) hc hd,Option.bind_some,TB (by rfl),Ij]
 simp only [Cm]
 rw [IK (by rfl)];rfl
theorem LAd {lv:Int} {a b:ByteArray} (hl:0≤lv∧lv≤255) (ha:a.size≤100000) (hb:b.size≤100000):Em lv [a,b]=some [Ye lv 0 a b]:=by
 obtain ⟨m,hm⟩:∃ m,gas=m+1+1:=⟨gas - 2,rfl⟩
 rw [Em,KAB,hm,Ij]
 simp only [Cm]
 rw [TB (by rfl),TB (by rfl),TB (by rfl)]
 show (Gj lv 0 a b).bind _=_
 rw [WAL hl (by omega) ha hb,Option.bind_some,TB (by rfl),Ij]
 simp only [Cm]
 rw [IK (by rfl)];rfl
def XAL (a b c d:ByteArray):ByteArray:=Ye 2 0 (Ye 1 0 a b) (Ye 1 1 c d)
theorem MAd {a b c d:ByteArray} (ha:a.size≤100000) (hb:b.size≤100000) (hc:c.size≤100000) (hd:d.size≤100000):LAB [a,b,c,d]=some (XAL a b c d):=by
 obtain ⟨m,hm⟩:∃ m,gas=m+1+1+1:=⟨gas - 3,rfl⟩
 have n1:=LAC 1 0 a b
 have n2:=LAC 1 1 c d
 rw [LAB,OAJ,IK (by rfl),hm,Nr]
 simp only [Uz]
 rw [TB (by rfl),KAd (by omega) ha hb hc hd,Option.bind_some,show w64 (1+1)=2 by rw [w64_id (by omega) (by omega)];rfl,Nr]
 simp only [Uz]
 rw [TB (by rfl),LAd (by omega) (by omega) (by omega),Option.bind_some,Nr]
 simp only [Uz]
 rw [IK (by rfl),TB (by rfl)];rfl
def Ei (s:ByteArray) (l:Int):ByteArray:=Gi (VZ s l 10) l
theorem Wj (s:ByteArray) (l:Int):(Ei s l).size=4:=NAd _ _
theorem XAR (s:ByteArray):Ob s 4=[Ei s 0,Ei s 1,Ei s 2,Ei s 3]:=rfl
def G6 (s:ByteArray):ByteArray:=XAL (Ei s 0) (Ei s 1) (Ei s 2) (Ei s 3)
theorem OAd {s:ByteArray} (hs:s.size≤100000):MAB s=some (G6 s):=by
 rw [MAB,PAJ,PAd hs,Option.bind_some,XAR,MAd (by rw [Wj];omega) (by rw [Wj];omega) (by rw [Wj];omega) (by rw [Wj];omega)];rfl
theorem QAd {s:ByteArray} (hs:s.size≤1000):NAB s=some (G6 (s++⟨#[116]⟩)):=by
 have z:(⟨#[116]⟩:ByteArray).size=1:=rfl
 rw [NAB,QAJ,cond_d (by rw [z];omega),OAd (by rw [ByteArray.size_append,z];omega)];rfl
noncomputable def NAC (x:SThing):ByteArray:=bif XZ x then (bif x.fKind == 1 then Ce x.fValue else bif x.fKind == 2 then G6 (x.fValue++⟨#[116]⟩) else ⟨#[]⟩) else ⟨#[]⟩
theorem OAC {x:SThing} (h:XZ x=true) (hk:x.fKind=1∨x.fKind=2):x.fValue.size=32:=by
 unfold XZ at h
 simp only [Bool.and_eq_true] at h
 have h4:=h.2
 have:(x.fKind == 3)=false:=by rw [beq_eq_false_iff_ne];omega
 rw [this,cond_false,beq_iff_eq] at h4
 omega
theorem RAd (x:SThing):X7 x=some (NAC x):=by
 rw [X7,RAJ,YAL,Option.bind_some,NAC]
 cases h:XZ x
 ·rfl
 ·rw [Bool.not_true,cond_false,cond_true]
  by_cases h1:x.fKind=1
  ·rw [h1,SAd (OAC h (.inl h1))];rfl
  ·rw [beq_eq_false_iff_ne.2 h1,cond_false,cond_false]
   by_cases h2:x.fKind=2
   ·have hz:=OAC h (.inr h2)
    rw [h2,QAd (by omega)];rfl
   ·rw [beq_eq_false_iff_ne.2 h2,cond_false,cond_false]
theorem YAR {s:ByteArray} {n:Nat} (h:s.size=8*n) (hn:n≤1000):Sr s=some (up (Ea (EZ s) n)):=by
 have inner:∀ i,i<n→∀ (m:Nat) (o:List Nat),_:=fun i hi=>fun m o=>(GZ (Lp:=Ug) (st:=fun j (x:Nat)=>.c1 s ((8*i:Nat):Int) (x:Int) (7 - (j:Int)) (up o)) (f:=fun j x=>x*256+EZ s (8*i+(7 - j))) (P:=fun j x=>x<256 ^ j) (n:=8) 1 (fun m j x hj hx=>by
  have hb:=Ii s (8*i+(7 - j))
  have hp:256 ^ (j+1)≤18446744073709551616:=Nat.le_trans (Nat.pow_le_pow_right (by decide) (show j+1≤8 by omega)) (by decide)
  have hx2:x*256+EZ s (8*i+(7 - j))<256 ^ (j+1):=by rw [Nat.pow_succ];omega
  have hlt:=Nat.lt_of_lt_of_le hx2 hp
  refine ⟨?_,hx2⟩
  have e1:w64 (((8*i:Nat):Int)+(7 - (j:Int)))=((8*i+(7 - j):Nat):Int):=by
   rw [show ((8*i:Nat):Int)+(7 - (j:Int))=((8*i+(7 - j):Nat):Int) by omega];exact wn (by omega)
  have e2:w64 (7 - (j:Int) - 1)=7 - ((j+1:Nat):Int):=by rw [w64_id (by omega) (by omega)];omega
  have e3:wu64 ((x:Int)*256)=((x*256:Nat):Int):=by rw [show (x:Int)*256=((x*256:Nat):Int) by omega];exact Jc (n:=x*256) (Nat.lt_of_le_of_lt (Nat.le_add_right _ _) hlt)
  have e4:wu64 ((EZ s (8*i+(7 - j)):Nat):Int)=((EZ s (8*i+(7 - j)):Nat):Int):=Jc (Nat.lt_trans hb (by decide))
  have e5:wu64 (((x*256:Nat):Int)+((EZ s (8*i+(7 - j)):Nat):Int))=((x*256+EZ s (8*i+(7 - j)):Nat):Int):=Jc (n:=x*256+EZ s (8*i+(7 - j))) hlt
  rw [Ug]
  simp only [Qr,e1,e2,Ee,e3,e4,e5]
  rw [cond_d (by omega),cond_in (by omega)]) 8 0 m 0 rfl (by decide)).1
 have s1:=GZ (Lp:=Ug) (st:=fun i o=>.c0 s ((8*i:Nat):Int) (up o)) (f:=fun i o=>o++[Lc (EZ s) i]) (P:=fun i o=>o.length=i) (n:=n) 10 (fun m i o hi ho=>by
  refine ⟨?_,by rw [List.length_append,ho];rfl⟩
  have e1:w64 (((8*i:Nat):Int)+8)=((8*(i+1):Nat):Int):=wn (n:=8*(i+1)) (by omega)
  rw [show m+10=m+1+8*1+1 from rfl,Ug]
  simp only [Qr,e1]
  rw [cond_d (by omega)]
  refine (inner i hi (m+1) o).trans ?_
  rw [Ug]
  simp only [Qr,e1]
  rw [IK (by rfl),cond_d (by rw [FN];omega)]
  show Ug m (.c0 s _ (up o++[((Lc (EZ s) i:Nat):Int)]))=_
  rw [show up o++[((Lc (EZ s) i:Nat):Int)]=up (o++[Lc (EZ s) i]) by rw [up,up,List.map_append];rfl])
 obtain ⟨m,hm⟩:∃ m,gas=m+1+n*10:=⟨gas - (1+n*10),by have:=gas_lt (n:=1+n*10) (by omega);omega⟩
 rw [Sr,SAJ,hm]
 refine (s1 n 0 (m+1) [] (by omega) rfl).1.trans ?_
 have e1:w64 (((8*n:Nat):Int)+8)=((8*n+8:Nat):Int):=wn (n:=8*n+8) (by omega)
 rw [H6,Ug]
 simp only [Qr,e1]
 rw [cond_n (by omega)];rfl
theorem TAd:Yz=some (up Fe):=by
 obtain ⟨m,hm⟩:∃ m,gas=m+30:=⟨gas - 30,rfl⟩
 rw [Yz,UAJ,hm]
 kernel_rfl
theorem UAd:O0=some (up Yg):=by
 obtain ⟨m,hm⟩:∃ m,gas=m+300:=⟨gas - 300,rfl⟩
 rw [O0,XAJ,hm]
 kernel_rfl
theorem ZAR {x n:Nat} (hx:x<18446744073709551616) (hn:n<64):Vr (x:Int) (n:Int)=some ((Ya n x:Nat):Int):=by
 obtain ⟨m,hm⟩:∃ m,gas=m+1+n*1:=⟨gas - (n+1),by have:=gas_lt (n:=n+1) (by omega);omega⟩
 have hp:∀ i,i≤63→2 ^ i≤9223372036854775808:=fun i hi=>Nat.pow_le_pow_right (n:=2) (by decide) hi
 rw [Vr,AAK,hm]
 have h:=GZ (Lp:=Ur) (st:=fun i (low:Nat)=>.c0 (x:Int) (n:Int) (low:Int) (i:Int)) (f:=fun _ low=>low*2) (P:=fun i low=>low=2 ^ i) (n:=n) 1 (fun m i low hi hl=>by
  refine ⟨?_,by rw [hl,Nat.pow_succ]⟩
  have h1:=hp (i+1) (by omega)
  rw [Nat.pow_succ,←hl] at h1
  have hw:w64 ((i:Int)+1)=((i+1:Nat):Int):=wn (n:=i+1) (by omega)
  have hw2:wu64 ((low:Int)*2)=((low*2:Nat):Int):=Jc (n:=low*2) (by omega)
  rw [Ur]
  simp only [PAB,hw,hw2]
  rw [cond_d (by omega)]) n 0 (m+1) 1 (by omega) rfl
 refine h.1.trans ?_
 rw [h.2,Ur]
 simp only [PAB]
 rw [cond_n (by omega)]
 by_cases h0:n=0
 ·subst h0
  rw [AAS hx];rfl
 ·have e1:(9223372036854775808:Int).tdiv ((2 ^ n:Nat):Int)=((2 ^ (63 - n):Nat):Int):=by
   show ((9223372036854775808 / 2 ^ n:Nat):Int)=_
   rw [show 9223372036854775808=2 ^ 63 from rfl,Nat.pow_div (by omega) (by decide)]
  have h1:=hp (63 - n) (by omega)
  have e2:wu64 (((2 ^ (63 - n):Nat):Int)*2)=((2 ^ (64 - n):Nat):Int):=by
   have:2 ^ (64 - n)=2 ^ (63 - n)*2:=by rw [←Nat.pow_succ];congr 1;omega
   have h2:=hp (64 - n) (by omega)
   rw [this];exact Jc (n:=2 ^ (63 - n)*2) (by omega)
  have e3:wu64 ((x:Int)*((2 ^ n:Nat):Int))=(((x*2 ^ n) % 18446744073709551616:Nat):Int):=BAS (x*2 ^ n)
  have e4:wu64 ((x:Int).tdiv ((2 ^ (64 - n):Nat):Int))=((x / 2 ^ (64 - n):Nat):Int):=by
   rw [VAd];exact Jc (Nat.lt_of_le_of_lt (Nat.div_le_self _ _) hx)
  have p1:=Nat.two_pow_pos n
  have p2:=Nat.two_pow_pos (64 - n)
  have e5:wu64 ((((x*2 ^ n) % 18446744073709551616:Nat):Int)+((x / 2 ^ (64 - n):Nat):Int))=((Ya n x:Nat):Int):=Jc (Rt hn hx)
  rw [IK (by rw [beq_eq_false_iff_ne];omega),TB (by rw [Bool.not_eq_true',beq_eq_false_iff_ne];omega),e1,Jc (n:=2 ^ (63 - n)) (by omega),e2,TB (by rw [Bool.not_eq_true',beq_eq_false_iff_ne];omega),e3,e4,e5]
theorem WAd {a:List Nat} (ha:RZ a) {c:Nat} (hc:c<18446744073709551616):Y0 (up a) (up Fe) (c:Int)=some (up (Tt a c)):=by
 obtain ⟨hl,hw⟩:=ha
 have ww:∀ n:Nat,n<100→w64 (n:Int)=(n:Int):=fun n h=>wn (by omega)
 have w1:∀ i:Nat,i<30→w64 ((i:Int)+1)=((i+1:Nat):Int):=fun i h=>ww (i+1) (by omega)
 have s1:=GZ (Lp:=Ac) (st:=fun i v=>.c0 (up a) (up Fe) (c:Int) (i:Int) (up v)) (f:=fun i v=>v.set i (Qb a i)) (P:=fun _ v=>v.length=5) (n:=5) 1 (fun m i v hi hv=>by
  refine ⟨?_,CAS hv⟩
  have e5:w64 ((i:Int)+5)=((i+5:Nat):Int):=ww (i+5) (by omega)
  have e10:w64 ((i:Int)+10)=((i+10:Nat):Int):=ww (i+10) (by omega)
  have e15:w64 ((i:Int)+15)=((i+15:Nat):Int):=ww (i+15) (by omega)
  have e20:w64 ((i:Int)+20)=((i+20:Nat):Int):=ww (i+20) (by omega)
  rw [Ac]
  simp only [Ue,w1 i (by omega),e5,e10,e15,e20,Int.toNat_natCast,MZ]
  rw [cond_d (by omega),TB (SN (by omega)),TB (SN (by omega)),TB (SN (by omega)),TB (SN (by omega)),TB (SN (by omega)),TB (SN (by omega)),Ld (hw.get _) (hw.get _),Ld (xlt (hw.get _) (hw.get _)) (hw.get _),Ld (xlt (xlt (hw.get _) (hw.get _)) (hw.get _)) (hw.get _),Ld (xlt (xlt (xlt (hw.get _) (hw.get _)) (hw.get _)) (hw.get _)) (hw.get _),Ia]
  rfl)
 have s2i:∀ x:Nat,x<5→∀ (m:Nat) (b:List Nat),b.length=25→_:=fun x hx=>fun m b hb=>(GZ (Lp:=Ac) (st:=fun y b=>.c2 (up a) (up Fe) (c:Int) (x:Int) ((dN a x:Nat):Int) (y:Int) (up ((List.range 5).map (Qb a))) (up b)) (f:=fun y b=>b.set (y+5*((2*x+3*y) % 5)) (Ya (Fe.getD (x+5*y) 0) (Af a (x+5*y)))) (P:=fun _ b=>b.length=25) (n:=5) 1 (fun m y b hy hb=>by
  refine ⟨?_,Xm hb⟩
  have e1:w64 (5*(y:Int))=((5*y:Nat):Int):=ww (5*y) (by omega)
  have e2:w64 ((x:Int)+((5*y:Nat):Int))=((x+5*y:Nat):Int):=ww (x+5*y) (by omega)
  have e3:w64 (2*(x:Int))=((2*x:Nat):Int):=ww (2*x) (by omega)
  have e4:w64 (3*(y:Int))=((3*y:Nat):Int):=ww (3*y) (by omega)
  have e5:w64 (((2*x:Nat):Int)+((3*y:Nat):Int))=((2*x+3*y:Nat):Int):=ww (2*x+3*y) (by omega)
  have e6:((2*x+3*y:Nat):Int).tmod 5=(((2*x+3*y) % 5:Nat):Int):=rfl
  have hz:(2*x+3*y) % 5<5:=Nat.mod_lt _ (by decide)
  have e7:w64 (5*(((2*x+3*y) % 5:Nat):Int))=((5*((2*x+3*y) % 5):Nat):Int):=ww (5*((2*x+3*y) % 5)) (by omega)
  have e8:w64 ((y:Int)+((5*((2*x+3*y) % 5):Nat):Int))=((y+5*((2*x+3*y) % 5):Nat):Int):=ww (y+5*((2*x+3*y) % 5)) (by omega)
  have ht:a.getD (x+5*y) 0 ^^^ dN a x=Af a (x+5*y):=by rw [Af,show (x+5*y) % 5=x by omega]
  rw [Ac]
  simp only [Ue,w1 y (by omega),e1,e2,e3,e4,e5,e6,e7,e8,Int.toNat_natCast,MZ]
  rw [cond_d (by omega),TB (SN (by omega)),TB (SN (by show x+5*y<25;omega)),Ld (hw.get _) (DAS hw _),ht,ZAR (ZAL hw _) (EAS _),Option.bind_some,TB (SN (by omega)),Ia]) 5 0 m b rfl hb)
 have s2:=GZ (Lp:=Ac) (st:=fun x b=>.c1 (up a) (up Fe) (c:Int) (x:Int) (up ((List.range 5).map (Qb a))) (up b)) (f:=fun x b=>TT (fun y b=>b.set (y+5*((2*x+3*y) % 5)) (Ya (Fe.getD (x+5*y) 0) (Af a (x+5*y)))) 5 0 b) (P:=fun _ b=>b.length=25) (n:=5) 7 (fun m x b hx hb=>by
  obtain ⟨i1,i2⟩:=s2i x hx (m+1) b hb
  refine ⟨?_,i2⟩
  have e4:w64 ((x:Int)+4)=((x+4:Nat):Int):=ww (x+4) (by omega)
  have e1:w64 ((x:Int)+1)=((x+1:Nat):Int):=ww (x+1) (by omega)
  have e2:((x+4:Nat):Int).tmod 5=(((x+4) % 5:Nat):Int):=rfl
  have e3:((x+1:Nat):Int).tmod 5=(((x+1) % 5:Nat):Int):=rfl
  have h4:(x+4) % 5<5:=Nat.mod_lt _ (by decide)
  have h1:(x+1) % 5<5:=Nat.mod_lt _ (by decide)
  have hlen:((List.range 5).map (Qb a)).length=5:=by rw [List.length_map,List.length_range]
  rw [show m+7=m+1+5*1+1 from rfl,Ac]
  simp only [Ue,e4,e1,e2,e3,Int.toNat_natCast,MZ]
  rw [cond_d (by omega),TB (SN (by omega)),TB (SN (by omega)),Zg h1,Zg h4]
  have hr:Vr ((Qb a ((x+1) % 5):Nat):Int) 1=some ((Ya 1 (Qb a ((x+1) % 5)):Nat):Int):=ZAR (n:=1) (Ah hw _) (by decide)
  rw [hr,Option.bind_some,Ld (Ah hw _) (Rt (by decide) (Ah hw _))]
  refine i1.trans ?_
  rw [Ac]
  simp only [Ue,e1]
  rw [cond_n (by omega)])
 have hb:=PAC hw
 have s3i:∀ x:Nat,x<5→∀ (m:Nat) (o:List Nat),o.length=25→_:=fun x hx=>fun m o ho=>(GZ (Lp:=Ac) (st:=fun y o=>.c4 (c:Int) (x:Int) (y:Int) (up (Mc a)) (up o)) (f:=fun y o=>o.set (x+5*y) (Md (Mc a) (x+5*y))) (P:=fun _ o=>o.length=25) (n:=5) 1 (fun m y o hy ho=>by
  refine ⟨?_,Xm ho⟩
  have hbl:=hb.1
  have e1:w64 (5*(y:Int))=((5*y:Nat):Int):=ww (5*y) (by omega)
  have e2:w64 ((x:Int)+((5*y:Nat):Int))=((x+5*y:Nat):Int):=ww (x+5*y) (by omega)
  have e3:w64 ((x:Int)+1)=((x+1:Nat):Int):=ww (x+1) (by omega)
  have e4:w64 ((x:Int)+2)=((x+2:Nat):Int):=ww (x+2) (by omega)
  have e5:((x+1:Nat):Int).tmod 5=(((x+1) % 5:Nat):Int):=rfl
  have e6:((x+2:Nat):Int).tmod 5=(((x+2) % 5:Nat):Int):=rfl
  have h1:(x+1) % 5<5:=Nat.mod_lt _ (by decide)
  have h2:(x+2) % 5<5:=Nat.mod_lt _ (by decide)
  have e7:w64 ((((x+1) % 5:Nat):Int)+((5*y:Nat):Int))=(((x+1) % 5+5*y:Nat):Int):=ww ((x+1) % 5+5*y) (by omega)
  have e8:w64 ((((x+2) % 5:Nat):Int)+((5*y:Nat):Int))=(((x+2) % 5+5*y:Nat):Int):=ww ((x+2) % 5+5*y) (by omega)
  have hv:(Mc a).getD (x+5*y) 0 ^^^ ((18446744073709551615 - (Mc a).getD ((x+1) % 5+5*y) 0) &&& (Mc a).getD ((x+2) % 5+5*y) 0)=Md (Mc a) (x+5*y):=by rw [Md,show (x+5*y) % 5=x by omega,show (x+5*y) / 5=y by omega]
  rw [Ac]
  simp only [Ue,w1 y (by omega),e1,e2,e3,e4,e5,e6,e7,e8,Int.toNat_natCast,MZ]
  rw [cond_d (by omega),TB (SN (by omega)),TB (SN (by omega)),TB (SN (by omega)),TB (SN (by omega)),XAd (hb.2.get _),n64 (by omega) (hb.2.get _),Ld (hb.2.get _) (nlt (by omega)),hv,Ia]) 5 0 m o rfl ho)
 have s3:=GZ (Lp:=Ac) (st:=fun x o=>.c3 (c:Int) (x:Int) (up (Mc a)) (up o)) (f:=fun x o=>TT (fun y o=>o.set (x+5*y) (Md (Mc a) (x+5*y))) 5 0 o) (P:=fun _ o=>o.length=25) (n:=5) 7 (fun m x o hx ho=>by
  obtain ⟨i1,i2⟩:=s3i x hx (m+1) o ho
  refine ⟨?_,i2⟩
  rw [show m+7=m+1+5*1+1 from rfl,Ac]
  simp only [Ue]
  rw [cond_d (by omega)]
  refine i1.trans ?_
  rw [Ac]
  simp only [Ue,w1 x (by omega)]
  rw [cond_n (by omega)])
 obtain ⟨m,hm⟩:∃ m,gas=m+1+5*7+1+5*7+1+5*1:=⟨gas - 78,rfl⟩
 rw [Y0,CAK,hm]
 obtain ⟨a1,a2⟩:=s1 5 0 (m+1+5*7+1+5*7+1) [0,0,0,0,0] rfl rfl
 refine a1.trans ?_
 rw [YAd,Ac]
 simp only [Ue]
 rw [IK (by rfl)]
 obtain ⟨b1,b2⟩:=s2 5 0 (m+1+5*7+1) (List.replicate 25 0) rfl rfl
 refine b1.trans ?_
 rw [ZAd (fun n q=>Ya n (Af a q)),Ac]
 simp only [Ue]
 rw [IK (by rfl)]
 obtain ⟨c1,c2⟩:=s3 5 0 (m+1) (List.replicate 25 0) rfl rfl
 refine c1.trans ?_
 have hch:=BAM hb.2
 rw [AAe,Ac]
 simp only [Ue]
 rw [IK (by rfl),show (0:Int).toNat=0 from rfl,MZ,Ld (hch.2.get _) hc,Ia]
 rw [FN,hch.1];rfl
theorem FAS {a:List Nat} (ha:RZ a):Yr (up a)=some (up (Vf a)):=by
 have s:=GZ (Lp:=Xr) (st:=fun i a=>.c0 (i:Int) (up a) (up Fe) (up Yg)) (f:=fun i a=>Tt a (Yg.getD i 0)) (P:=fun _ a=>RZ a) (n:=24) 1 (fun m i a hi ha=>by
  refine ⟨?_,CAM ha.2 (J6 i)⟩
  have w1:w64 ((i:Int)+1)=((i+1:Nat):Int):=wn (n:=i+1) (by omega)
  rw [Xr]
  simp only [RAB,w1,Int.toNat_natCast,MZ]
  rw [cond_d (by omega),TB (SN (by show i<24;omega)),WAd ha (J6 i),Option.bind_some])
 obtain ⟨m,hm⟩:∃ m,gas=m+1+24*1:=⟨gas - 25,rfl⟩
 rw [Yr,DAK,TAd,Option.bind_some,UAd,Option.bind_some,hm]
 refine (s 24 0 (m+1) a rfl ha).1.trans ?_
 rw [Xr]
 simp only [RAB]
 rw [IK (by rfl)];rfl
theorem BAe (v:Nat→Nat→Nat):TT (fun i o=>o++(List.range 8).map (v i)) 25 0 []=(List.range 200).map (fun p=>v (p / 8) (p % 8)):=by kernel_rfl
theorem GAS {a:List Nat} (ha:RZ a):Es (up a)=some (ofBytes (up (Uc a))):=by
 have hal:=ha.1
 have inner:∀ (i:Nat) (x:Nat) (m:Nat) (o:List Nat),x<18446744073709551616→o.length≤1000→_:=fun i x m o hx ho=>(GZ (Lp:=Zh) (st:=fun j o=>.c1 (up a) (i:Int) ((x / 2 ^ (8*j):Nat):Int) (j:Int) (up o)) (f:=fun j o=>o++[x / 2 ^ (8*j) % 256]) (P:=fun j o=>o.length≤1000+j) (n:=8) 1 (fun m j o hj ho=>by
  refine ⟨?_,by rw [List.length_append,List.length_singleton];omega⟩
  have w1:w64 ((j:Int)+1)=((j+1:Nat):Int):=wn (n:=j+1) (by omega)
  have e1:wu64 (((x / 2 ^ (8*j):Nat):Int).tdiv 256)=((x / 2 ^ (8*(j+1)):Nat):Int):=by
   have:x / 2 ^ (8*(j+1))=x / 2 ^ (8*j) / 256:=by rw [Nat.div_div_eq_div_mul,show 8*(j+1)=8*j+8 by omega,Nat.pow_add]
   rw [this]
   exact Jc (n:=x / 2 ^ (8*j) / 256) (Nat.lt_of_le_of_lt (Nat.div_le_self _ _) (Nat.lt_of_le_of_lt (Nat.div_le_self _ _) hx))
  have hlt:x / 2 ^ (8*j) % 256<256:=Nat.mod_lt _ (by decide)
  have e2:w8 (((x / 2 ^ (8*j):Nat):Int).tmod 256)=((x / 2 ^ (8*j) % 256:Nat):Int):=by
   rw [show ((x / 2 ^ (8*j):Nat):Int).tmod 256=((x / 2 ^ (8*j) % 256:Nat):Int) from rfl,w8_id (by omega) (by omega)]
  rw [Zh]
  simp only [Zr,w1,e1,e2]
  rw [cond_d (by omega),cond_d (by rw [FN];omega),show up o++[((x / 2 ^ (8*j) % 256:Nat):Int)]=up (o++[x / 2 ^ (8*j) % 256]) by rw [up,up,List.map_append];rfl]) 8 0 m o rfl (by omega)).1
 have s1:=GZ (Lp:=Zh) (st:=fun i o=>.c0 (up a) (i:Int) (up o)) (f:=fun i o=>o++(List.range 8).map fun j=>a.getD i 0 / 2 ^ (8*j) % 256) (P:=fun i o=>o.length=8*i) (n:=25) 10 (fun m i o hi ho=>by
  refine ⟨?_,by rw [List.length_append,List.length_map,List.length_range];omega⟩
  have w1:w64 ((i:Int)+1)=((i+1:Nat):Int):=wn (n:=i+1) (by omega)
  have hx:=ha.2.get i
  rw [show m+10=m+1+8*1+1 from rfl,Zh]
  simp only [Zr,Int.toNat_natCast,MZ]
  rw [cond_d (by rw [FN];omega),TB (SN (by omega))]
  have h:=inner i (a.getD i 0) (m+1) o hx (by omega)
  rw [show ((a.getD i 0 / 2 ^ (8*0):Nat):Int)=((a.getD i 0:Nat):Int) by rw [Nat.mul_zero,Nat.pow_zero,Nat.div_one]] at h
  refine h.trans ?_
  rw [Ut,List.range'_eq_map_range,Zh]
  simp only [Zr,w1]
  rw [IK (by rfl)]
  simp only [Nat.zero_add,List.map_map,Function.comp_def])
 obtain ⟨m,hm⟩:∃ m,gas=m+1+25*10:=⟨gas - 251,by have:=gas_lt (n:=251) (by omega);omega⟩
 rw [Es,EAK,hm]
 refine (s1 25 0 (m+1) [] (by omega) rfl).1.trans ?_
 rw [BAe (fun i j=>a.getD i 0 / 2 ^ (8*j) % 256),Zh]
 simp only [Zr]
 rw [IK (by rw [decide_eq_false_iff_not,FN];omega)];rfl
theorem CAe {s:ByteArray} {f:Nat} (hs:s.size≤2000) (hf:f<256):U2 s 168 (f:Int)=some (Ym s f):=by
 obtain ⟨q,hq,hq2⟩:=IAS s f
 have hbuf:=JAS s hf
 have sp:=GZ (Lp:=Bd) (st:=fun i l=>.c0 168 (up (List.replicate 25 0)) (up l)) (f:=fun _ l=>l++[0]) (P:=fun i l=>l.length=s.size+1+i) (n:=(168 - (s.size+1) % 168) % 168) 1 (fun m i l hi hl=>by
  refine ⟨?_,by rw [List.length_append,hl];rfl⟩
  have e:((up l).length:Int).tmod 168=(((up l).length % 168:Nat):Int):=rfl
  rw [Bd]
  simp only [Jj,e]
  rw [TB (by rfl),TB (by rw [bne_iff_ne,FN];omega),cond_d (by rw [FN];omega),show up l++[(0:Int)]=up (l++[0]) from Nc l 0])
 have si:∀ (p:Nat) (st:List Nat),p<q→RZ st→∀ m,Bd (m+21*1) (.c2 168 ((168*p:Nat):Int) ((0:Nat):Int) (up st) (up (LZ s f)) (up (Ea (fun i=>(LZ s f).getD (168*p+i) 0) 21)))=Bd m (.c2 168 ((168*p:Nat):Int) ((21:Nat):Int) (up (Bh st fun i=>(LZ s f).getD (168*p+i) 0)) (up (LZ s f)) (up (Ea (fun i=>(LZ s f).getD (168*p+i) 0) 21))):=by
  intro p st hp hst m
  have hg:∀ i,(fun i=>(LZ s f).getD (168*p+i) 0) i<256:=fun i=>hbuf.get _
  generalize hgg:(fun i=>(LZ s f).getD (168*p+i) 0)=g at hg
  have hll:(Ea g 21).length=21:=by rw [Ea,List.length_map,List.length_range]
  have hlw:=DAe hg 21
  obtain ⟨a1,a2,a3,a4⟩:=GZ (Lp:=Bd) (st:=fun i v=>.c2 168 ((168*p:Nat):Int) (i:Int) (up v) (up (LZ s f)) (up (Ea g 21))) (f:=fun i v=>v.set i (v.getD i 0 ^^^ (Ea g 21).getD i 0)) (P:=fun i v=>v.length=25∧Bc v∧∀ k,k<25→v.getD k 0=if k<i then st.getD k 0 ^^^ Lc g k else st.getD k 0) (n:=21) 1 (fun m i v hi hv=>by
   obtain ⟨v1,v2,v3⟩:=hv
   refine ⟨?_,Xm v1,v2.set _ (xlt (v2.get _) (hlw.get _)),fun k hk=>?_⟩
   ·have w1:w64 ((i:Int)+1)=((i+1:Nat):Int):=wn (n:=i+1) (by omega)
    rw [Bd]
    simp only [Jj,w1,Int.toNat_natCast,MZ]
    rw [Ld (v2.get _) (hlw.get _),Ia,cond_d (by rw [FN];omega),TB (SN (by omega)),TB (SN (by omega)),TB (SN (by omega))]
   ·by_cases e:k=i
    ·subst e
     rw [DAM (by omega),v3 k hk,if_neg (Nat.lt_irrefl _),if_pos (Nat.lt_succ_self _),Ea,Zg hi]
    ·rw [getD_set_ne e,v3 k hk]
     by_cases h2:k<i
     ·rw [if_pos h2,if_pos (by omega)]
     ·rw [if_neg h2,if_neg (by omega)]) 21 0 m st (by omega) ⟨hst.1,hst.2,fun k hk=>by rw [if_neg (Nat.not_lt_zero _)]⟩
  refine a1.trans ?_
  rw [show TT (fun i v=>v.set i (v.getD i 0 ^^^ (Ea g 21).getD i 0)) 21 0 st=Bh st g from QAC (by rw [a2,Bh,List.length_map,List.length_range]) fun k hk=>by
   rw [Bh,List.length_map,List.length_range] at hk
   rw [a4 k hk,Bh,Zg hk]]
 have so:=GZ (Lp:=Bd) (st:=fun p st=>.c1 168 ((168*p:Nat):Int) (up st) (up (LZ s f))) (f:=Vt (LZ s f)) (P:=fun _ st=>RZ st) (n:=q) 23 (fun m p st hp hst=>by
  refine ⟨?_,EAM hbuf hst⟩
  have e1:w64 (((168*p:Nat):Int)+168)=((168*(p+1):Nat):Int):=by rw [show ((168*p:Nat):Int)+168=((168*(p+1):Nat):Int) by omega];exact wn (n:=168*(p+1)) (by omega)
  have hbl:((up (LZ s f)).drop (168*p)).take (168*(p+1) - 168*p)=up (((LZ s f).drop (168*p)).take 168):=by
   rw [show 168*(p+1) - 168*p=168 by omega,up,up,←List.map_drop,←List.map_take]
  have hsz:(ofBytes (up (((LZ s f).drop (168*p)).take 168))).size=8*21:=by rw [ofBytes_size,FN,List.length_take,List.length_drop];omega
  have hlt:∀ x ∈ ((LZ s f).drop (168*p)).take 168,x<256:=fun x hx=>hbuf x (List.mem_of_mem_drop (List.mem_of_mem_take hx))
  have hlan:Ea (EZ (ofBytes (up (((LZ s f).drop (168*p)).take 168)))) 21=Ea (fun i=>(LZ s f).getD (168*p+i) 0) 21:=by
   refine List.map_congr_left fun k hk=>?_
   have hk:=List.mem_range.1 hk
   refine FAM fun i hi=>?_
   have h8:8*k+i<168:=by omega
   rw [RAC hlt (by rw [List.length_take,List.length_drop];omega),List.getD_eq_getElem?_getD,List.getElem?_take_of_lt h8,List.getElem?_drop,←List.getD_eq_getElem?_getD]
  rw [show m+23=(m+1)+21*1+1 from rfl,Bd]
  simp only [Jj,e1,Int.toNat_natCast]
  rw [cond_d (by rw [FN];omega),TB (by rw [Bool.and_eq_true,Bool.and_eq_true,decide_eq_true_eq,decide_eq_true_eq,decide_eq_true_eq,FN];omega),hbl,YAR hsz (by omega),Option.bind_some,hlan]
  refine (si p st hp hst (m+1)).trans ?_
  rw [Bd]
  simp only [Jj,e1]
  rw [IK (by rw [decide_eq_false_iff_not,FN,Ea,List.length_map,List.length_range];omega),FAS (KAS hst fun _=>hbuf.get _),Option.bind_some];rfl)
 have hpad:(168 - (s.size+1) % 168) % 168<168:=Nat.mod_lt _ (by decide)
 have hl1:(IZ s++[f]).length=s.size+1:=by rw [List.length_append,Ji];rfl
 obtain ⟨m,hm⟩:∃ m,gas=(m+1+q*23)+1+((168 - (s.size+1) % 168) % 168)*1:=⟨gas - (1+q*23+1+(168 - (s.size+1) % 168) % 168),by have:=gas_lt (n:=1+q*23+1+(168 - (s.size+1) % 168) % 168) (by omega);omega⟩
 have hzs:(bytesOf s).length=s.size:=by rw [Zm,FN,Ji]
 rw [U2,FAK,hm,cond_d (by omega),cond_d (by rw [hzs];omega),Zm,Nc,show (25:Int).toNat=25 from rfl,←Dh]
 refine (sp ((168 - (s.size+1) % 168) % 168) 0 _ (IZ s++[f]) (by omega) hl1).1.trans ?_
 have hpl:TT (fun _ l=>l++[0]) ((168 - (s.size+1) % 168) % 168) 0 (IZ s++[f])=Ja (IZ s++[f]):=by rw [Ut (fun _=>0),Ja,hl1]
 have hp8:B8 (Ja (IZ s++[f])):=GAM (HAM s hf)
 have hplen:=IAM (IZ s++[f])
 rw [hl1] at hplen
 have e2:((up (Ja (IZ s++[f]))).length:Int).tmod 168=(((up (Ja (IZ s++[f]))).length % 168:Nat):Int):=rfl
 have e3:w64 (((up (Ja (IZ s++[f]))).length:Int) - 1)=(((Ja (IZ s++[f])).length - 1:Nat):Int):=by
  rw [show ((up (Ja (IZ s++[f]))).length:Int) - 1=(((Ja (IZ s++[f])).length - 1:Nat):Int) by rw [FN];omega];exact wn (by omega)
 rw [hpl,Bd]
 simp only [Jj,e2,e3,Int.toNat_natCast,MZ]
 rw [TB (by rfl),IK (by rw [bne_eq_false_iff_eq,FN];omega),TB (SN (by omega)),TB (SN (by omega)),show (128:Int)=((128:Nat):Int) from rfl,x8 (hp8.get _) (by decide),Ia]
 show Bd (m+1+q*23) (.c1 168 0 (up (List.replicate 25 0)) (up (LZ s f)))=_
 refine (so q 0 (m+1) (List.replicate 25 0) (by omega) JAM).1.trans ?_
 have hfin:TT (Vt (LZ s f)) q 0 (List.replicate 25 0)=Xt s f:=by rw [Xt,hq,Nat.mul_div_cancel_left _ (by decide)]
 have hok:RZ (Xt s f):=SAC (fun _ _ h=>EAM hbuf h) _ _ _ JAM
 rw [hfin,Bd]
 simp only [Jj]
 rw [IK (by rw [decide_eq_false_iff_not,FN,hq];omega),GAS hok];rfl
theorem LAS {s:ByteArray} (h:s.size≤2000):Gs s=some ⟨sd s,0⟩:=by
 have e:U2 s 168 31=some (Ym s 31):=CAe (f:=31) h (by decide)
 rw [Gs,GAK,e];rfl
theorem EAe {s:ByteArray} (h:s.size=200):Y2 s=some (Xj s):=by
 have hl:=MAS (Ii s)
 rw [Y2,IAK,IK (by rw [h];rfl),YAR (n:=25) h (by omega),Option.bind_some,FAS hl,Option.bind_some,GAS (UAC hl)];rfl
theorem NAS {S:ByteArray} {p n:Nat} {x:SStream} (hS:S.size=200) (h:Cc S p x) (hn:n≤4000):∃ x',Gm x (n:Int)=some (x',ofBytes (up (FZ S p n)))∧Cc S (p+n) x':=by
 have key:∀ (r m:Nat) (x:SStream) (v:SStream) (o:List Nat),n - o.length=r→r<m→o.length≤n→Cc S (p+o.length) x→∃ x',Js m (.c0 (n:Int) x v (up o))=some (x',ofBytes (up (o++FZ S (p+o.length) (n - o.length))))∧Cc S (p+n) x':=by
  intro r
  induction r using Nat.strongRecOn with
  | ind r ih=>
  intro m x v o hr hm ho hx
  obtain ⟨m,rfl⟩:∃ m',m=m'+1:=⟨m - 1,by omega⟩
  rw [Js]
  simp only [KAK]
  by_cases hlt:o.length<n
  ·have en:w64 ((n:Int) - ((up o).length:Int))=((n - o.length:Nat):Int):=by
    rw [show (n:Int) - ((up o).length:Int)=((n - o.length:Nat):Int) by rw [FN];omega];exact wn (by omega)
   rw [cond_d (by rw [FN];omega)]
   have go:∀ (q a k:Nat),168*q+a=p+o.length→a+k≤168→0<k→k≤n - o.length→∃ x',Js m (.c0 (n:Int) ⟨YZ S q,((a+k:Nat):Int)⟩ v (up o++bytesOf ((YZ S q).extract a (a+k))))=some (x',ofBytes (up (o++FZ S (p+o.length) (n - o.length))))∧Cc S (p+n) x':=by
    intro q a k h1 h2 h3 h4
    rw [Zm,chunk hS h2,show up o++up (FZ S (168*q+a) k)=up (o++FZ S (168*q+a) k) by rw [up,up,up,List.map_append],h1]
    have hl:(o++FZ S (p+o.length) k).length=o.length+k:=by rw [List.length_append,Eh]
    obtain ⟨x',e1,e2⟩:=ih (n - (o.length+k)) (by omega) m ⟨YZ S q,((a+k:Nat):Int)⟩ v (o++FZ S (p+o.length) k) (by rw [hl]) (by omega) (by rw [hl];omega) ⟨q,a+k,rfl,by rw [hl];omega,h2⟩
    refine ⟨x',?_,e2⟩
    rw [e1,hl,List.append_assoc,←Nat.add_assoc,OAS,show k+(n - (o.length+k))=n - o.length by omega]
   obtain ⟨q,a,rfl,ha,ha2⟩:=hx
   have hz:=Dn hS q
   have hz2:=Dn hS (q+1)
   have big:∀ (T:ByteArray) (i j:Nat),T.size=200→decide (((up o).length+(bytesOf (T.extract i j)).length)*1≤140737488355328)=true∧decide ((T.extract i j).size≤9223372036854775807)=true:=fun T i j hT=>by
    have h1:(T.extract i j).size≤200:=by rw [ByteArray.size_extract];omega
    have h2:(bytesOf (T.extract i j)).length=(T.extract i j).size:=by rw [Zm,FN,Ji]
    rw [decide_eq_true_eq,decide_eq_true_eq,FN,h2];omega
   dsimp only
   by_cases h168:a=168
   ·subst h168
    rw [TB (by rfl),EAe hz,Option.bind_some,show Xj (YZ S q)=YZ S (q+1) from rfl,en,show w64 ((168:Int) - (0:Int))=168 by decide]
    by_cases hk:n - o.length<168
    ·have e0:w64 (0+((n - o.length:Nat):Int))=((0+(n - o.length):Nat):Int):=by rw [show (0:Int)+((n - o.length:Nat):Int)=((0+(n - o.length):Nat):Int) by omega];exact wn (by omega)
     obtain ⟨b1,b2⟩:=big (YZ S (q+1)) 0 (0+(n - o.length)) hz2
     rw [cond_d (by omega),e0,show (0:Int).toNat=0 from rfl,Int.toNat_natCast,TB (by rw [Bool.and_eq_true,Bool.and_eq_true,decide_eq_true_eq,decide_eq_true_eq,decide_eq_true_eq];omega),b2,cond_true,b1,cond_true]
     exact go (q+1) 0 (n - o.length) (by omega) (by omega) (by omega) (Nat.le_refl _)
    ·obtain ⟨b1,b2⟩:=big (YZ S (q+1)) 0 (0+168) hz2
     rw [cond_n (by omega),show w64 (0+168)=((0+168:Nat):Int) by decide,show (0:Int).toNat=0 from rfl,Int.toNat_natCast,TB (by rw [Bool.and_eq_true,Bool.and_eq_true,decide_eq_true_eq,decide_eq_true_eq,decide_eq_true_eq];omega),b2,cond_true,b1,cond_true]
     exact go (q+1) 0 168 (by omega) (by omega) (by omega) (by omega)
   ·have ea:w64 (168 - (a:Int))=((168 - a:Nat):Int):=by rw [show (168:Int) - (a:Int)=((168 - a:Nat):Int) by omega];exact wn (by omega)
    rw [IK (by rw [beq_eq_false_iff_ne];omega),en,ea,Int.toNat_natCast]
    by_cases hk:n - o.length<168 - a
    ·have e0:w64 ((a:Int)+((n - o.length:Nat):Int))=((a+(n - o.length):Nat):Int):=wn (n:=a+(n - o.length)) (by omega)
     obtain ⟨b1,b2⟩:=big (YZ S q) a (a+(n - o.length)) hz
     rw [cond_d (by omega),e0,Int.toNat_natCast,TB (by rw [Bool.and_eq_true,Bool.and_eq_true,decide_eq_true_eq,decide_eq_true_eq,decide_eq_true_eq];omega),b2,cond_true,b1,cond_true]
     exact go q a (n - o.length) ha (by omega) (by omega) (Nat.le_refl _)
    ·have e0:w64 ((a:Int)+((168 - a:Nat):Int))=((a+(168 - a):Nat):Int):=wn (n:=a+(168 - a)) (by omega)
     obtain ⟨b1,b2⟩:=big (YZ S q) a (a+(168 - a)) hz
     rw [cond_n (by omega),e0,Int.toNat_natCast,TB (by rw [Bool.and_eq_true,Bool.and_eq_true,decide_eq_true_eq,decide_eq_true_eq,decide_eq_true_eq];omega),b2,cond_true,b1,cond_true]
     exact go q a (168 - a) ha (by omega) (by omega) (by omega)
  ·rw [IK (by rw [decide_eq_false_iff_not,FN];omega)]
   have:o.length=n:=by omega
   rw [this,Nat.sub_self]
   refine ⟨x,?_,by rw [this] at hx;exact hx⟩
   rw [show o++FZ S (p+n) 0=o from List.append_nil _]
 obtain ⟨q,a,rfl,ha,ha2⟩:=h
 have h1:=Dn hS q
 have hi1:JZ ((n:Nat):Int) 0 4000=true:=Xa.2 (by omega)
 have hi2:JZ ((a:Nat):Int) 0 168=true:=Xa.2 (by omega)
 rw [Gm,JAK,Xf,Option.bind_some,hi1,Bool.not_true,cond_false,IK (by rw [h1];rfl),Xf,Option.bind_some,hi2,Bool.not_true,cond_false]
 obtain ⟨x',e1,e2⟩:=key n gas ⟨YZ S q,(a:Int)⟩ ⟨⟨#[]⟩,0⟩ [] (by rw [List.length_nil];omega) (gas_lt (by omega)) (Nat.zero_le _) ⟨q,a,rfl,ha,ha2⟩
 exact ⟨x',e1,e2⟩
theorem VAC {seed:ByteArray} {i j:Nat} (h:seed.size≤1000) (hi:i<256) (hj:j<256):Ai seed (i:Int) (j:Int)=some (up (PZ seed i j)):=by
 have h1:Tc (i:Int)=some (NZ i):=Bf (by omega) (by omega)
 have h2:Tc (j:Int)=some (NZ j):=Bf (by omega) (by omega)
 have hz:∀ n,(NZ n).size=1:=fun n=>by rw [NZ,ofBytes_size];rfl
 have hz1:=hz i
 have hz2:=hz j
 have hsz:((seed++NZ i)++NZ j).size=seed.size+2:=by rw [ByteArray.size_append,ByteArray.size_append,hz1,hz2]
 rw [Ai,MAK,h1,Option.bind_some,cond_d (by omega),h2,Option.bind_some,cond_d (by rw [ByteArray.size_append];omega),LAS (by omega),Option.bind_some,PZ]
 generalize hS:sd ((seed++NZ i)++NZ j)=S
 have hSz:S.size=200:=by rw [←hS];exact WAC _
 have pad:∀ (M:Nat) (o:List Nat),o.length≤256→Vg (M+257) (.c1 (up o))=some (up (La o)):=by
  intro M o ho
  obtain ⟨n,hn⟩:∃ n,n=256 - o.length:=⟨_,rfl⟩
  have s:=GZ (Lp:=Vg) (st:=fun _ l=>.c1 (up l)) (f:=fun _ l=>l++[0]) (P:=fun i l=>l.length=o.length+i) (n:=n) 1 (fun m i l hi hl=>by
   refine ⟨?_,by rw [List.length_append,hl];rfl⟩
   have h1:(up l).length<256:=by rw [FN];omega
   show (bif decide (((up l).length:Int)<256) then (bif decide (((up l).length+1)*8≤140737488355328) then Vg m (.c1 (up l++[(0:Int)])) else none) else some (up l))=_
   rw [cond_d (by omega),cond_d (by omega),show up l++[(0:Int)]=up (l++[0]) from Nc l 0])
  have hp:La o=o++List.replicate n 0:=by rw [La,hn]
  have hpl:(up (La o)).length=256:=by rw [FN,hp,List.length_append,List.length_replicate];omega
  rw [show M+257=(M+o.length+1)+n*1 by omega]
  refine (s n 0 (M+o.length+1) o (by omega) rfl).1.trans ?_
  rw [Ut (fun _=>0),List.map_const',List.length_range',←hp]
  show (bif decide (((up (La o)).length:Int)<256) then (bif decide (((up (La o)).length+1)*8≤140737488355328) then Vg (M+o.length) (.c1 (up (La o)++[(0:Int)])) else none) else some (up (La o)))=_
  rw [IK (by rw [decide_eq_false_iff_not,hpl];omega)]
 have key:∀ (r k:Nat) (m:Nat) (x:SStream) (buf:ByteArray) (o:List Nat),k+r=4000→UQ o→(if k % 56=0 then Cc S (3*k) x else buf=ofBytes (up (FZ S (3*(k - k % 56)) 168))∧Cc S (3*(k - k % 56)+168) x)→Vg (m+r+1+257) (.c0 buf (k:Int) x (up o))=some (up (La (Yj S r k o))):=by
  intro r
  induction r with
  | zero=>
   intro k m x buf o hk ho hx
   rw [show m+0+1+257=(m+257)+1 by omega,Vg]
   delta VAB
   dsimp only
   rw [cond_n (by omega)]
   exact pad m o ho.1
  | succ r ih=>
   intro k m x buf o hk ho hx
   have w1:w64 ((k:Int)+1)=((k+1:Nat):Int):=wn (n:=k+1) (by omega)
   have em:(k:Int).tmod 56=((k % 56:Nat):Int):=rfl
   have e3:w64 (((k % 56:Nat):Int)*3)=((k % 56*3:Nat):Int):=wn (n:=k % 56*3) (by omega)
   have e4:w64 (((k % 56*3:Nat):Int)+1)=((k % 56*3+1:Nat):Int):=wn (n:=k % 56*3+1) (by omega)
   have e5:w64 (((k % 56*3:Nat):Int)+2)=((k % 56*3+2:Nat):Int):=wn (n:=k % 56*3+2) (by omega)
   have l0:=En S (3*k)
   have l1:=En S (3*k+1)
   have l2:=En S (3*k+2)
   rw [show m+(r+1)+1+257=(m+r+1+257)+1 by omega,Vg,Yj]
   delta VAB
   dsimp only
   simp only [w1,em,e3,e4,e5]
   rw [cond_d (by omega)]
   by_cases hlt:o.length<256
   ·rw [cond_d (by rw [FN];omega)]
    by_cases h56:k % 56=0
    ·rw [if_pos h56] at hx
     obtain ⟨x',e,hx'⟩:=NAS (n:=168) hSz hx (by omega)
     have e:Gm x 168=_:=e
     have nx:(if (k+1) % 56=0 then Cc S (3*(k+1)) x' else ofBytes (up (FZ S (3*k) 168))=ofBytes (up (FZ S (3*(k+1 - (k+1) % 56)) 168))∧Cc S (3*(k+1 - (k+1) % 56)+168) x'):=by
      have h1:(k+1) % 56=1:=by omega
      rw [if_neg (by omega),h1,show k+1 - 1=k by omega]
      exact ⟨rfl,hx'⟩
     rw [TB (by rw [beq_iff_eq];omega),e,Option.bind_some]
     dsimp only
     have hs3:(ofBytes (up (FZ S (3*k) 168))).size=168:=by rw [ofBytes_size,FN,Eh]
     have t0:bt (ofBytes (up (FZ S (3*k) 168))) ((k % 56*3:Nat):Int)=((strm S (3*k):Nat):Int):=by rw [Ee,Oi S (by omega),show 3*k+k % 56*3=3*k by omega]
     have t1:bt (ofBytes (up (FZ S (3*k) 168))) ((k % 56*3+1:Nat):Int)=((strm S (3*k+1):Nat):Int):=by rw [Ee,Oi S (by omega),show 3*k+(k % 56*3+1)=3*k+1 by omega]
     have t2:bt (ofBytes (up (FZ S (3*k) 168))) ((k % 56*3+2:Nat):Int)=((strm S (3*k+2):Nat):Int):=by rw [Ee,Oi S (by omega),show 3*k+(k % 56*3+2)=3*k+2 by omega]
     have va:w64 (((strm S (3*k):Nat):Int)+w64 (256*((strm S (3*k+1):Nat):Int).tmod 16))=((OZ S k:Nat):Int):=by
      rw [show ((strm S (3*k+1):Nat):Int).tmod 16=((strm S (3*k+1) % 16:Nat):Int) from rfl,w64_id (n:=256*((strm S (3*k+1) % 16:Nat):Int)) (by omega) (by omega),w64_id (by omega) (by omega),OZ];omega
     have vb:w64 (w64 (((strm S (3*k+1):Nat):Int).tdiv 16)+w64 (16*((strm S (3*k+2):Nat):Int)))=((Cb S k:Nat):Int):=by
      rw [show ((strm S (3*k+1):Nat):Int).tdiv 16=((strm S (3*k+1) / 16:Nat):Int) from rfl,w64_id (n:=((strm S (3*k+1) / 16:Nat):Int)) (by omega) (by omega),w64_id (n:=16*((strm S (3*k+2):Nat):Int)) (by omega) (by omega),w64_id (by omega) (by omega),Cb];omega
     rw [t0,t1,t2,wn (n:=strm S (3*k)) (by omega),wn (n:=strm S (3*k+1)) (by omega),wn (n:=strm S (3*k+2)) (by omega),va,vb,TB (by rw [hs3,Bool.and_eq_true,decide_eq_true_eq,decide_eq_true_eq];omega),TB (by rw [hs3,Bool.and_eq_true,decide_eq_true_eq,decide_eq_true_eq];omega),TB (by rw [hs3,Bool.and_eq_true,decide_eq_true_eq,decide_eq_true_eq];omega),TB (by rw [hs3,Bool.and_eq_true,decide_eq_true_eq,decide_eq_true_eq];omega),if_pos hlt]
     by_cases ha:OZ S k<3329
     ·have h1:He (OZ S k) o=o++[OZ S k]:=if_pos ⟨ha,hlt⟩
      have hl1:(o++[OZ S k]).length=o.length+1:=by rw [List.length_append];rfl
      rw [cond_d (by omega),cond_d (by rw [FN];omega),Nc]
      by_cases hb:Cb S k<3329
      ·rw [cond_d (by omega)]
       by_cases hl:(o++[OZ S k]).length<256
       ·have h2:Oa S k o=(o++[OZ S k])++[Cb S k]:=by rw [Oa,h1];exact if_pos ⟨hb,hl⟩
        rw [cond_d (by rw [FN];omega),cond_d (by rw [FN];omega),Nc,←h2]
        exact ih (k+1) m x' _ _ (by omega) (Fh ho) nx
       ·have h2:Oa S k o=o++[OZ S k]:=by rw [Oa,h1];exact if_neg (fun h=>hl h.2)
        rw [IK (by rw [decide_eq_false_iff_not,FN];omega),←h2]
        exact ih (k+1) m x' _ _ (by omega) (Fh ho) nx
      ·have h2:Oa S k o=o++[OZ S k]:=by rw [Oa,h1];exact if_neg (fun h=>hb h.1)
       rw [cond_n (by omega),←h2]
       exact ih (k+1) m x' _ _ (by omega) (Fh ho) nx
     ·have h1:He (OZ S k) o=o:=if_neg (fun h=>ha h.1)
      rw [cond_n (by omega)]
      by_cases hb:Cb S k<3329
      ·have h2:Oa S k o=o++[Cb S k]:=by rw [Oa,h1];exact if_pos ⟨hb,hlt⟩
       rw [cond_d (by omega),cond_d (by rw [FN];omega),cond_d (by rw [FN];omega),Nc,←h2]
       exact ih (k+1) m x' _ _ (by omega) (Fh ho) nx
      ·have h2:Oa S k o=o:=by rw [Oa,h1];exact if_neg (fun h=>hb h.1)
       rw [cond_n (by omega)]
       rw [h2]
       exact ih (k+1) m x' _ _ (by omega) ho nx
    ·rw [if_neg h56] at hx
     obtain ⟨rfl,hx⟩:=hx
     have nx:(if (k+1) % 56=0 then Cc S (3*(k+1)) x else ofBytes (up (FZ S (3*(k - k % 56)) 168))=ofBytes (up (FZ S (3*(k+1 - (k+1) % 56)) 168))∧Cc S (3*(k+1 - (k+1) % 56)+168) x):=by
      by_cases h1:(k+1) % 56=0
      ·rw [if_pos h1,show 3*(k+1)=3*(k - k % 56)+168 by omega];exact hx
      ·rw [if_neg h1,show k+1 - (k+1) % 56=k - k % 56 by omega];exact ⟨rfl,hx⟩
     rw [IK (by rw [beq_eq_false_iff_ne];omega)]
     have hs3:(ofBytes (up (FZ S (3*(k - k % 56)) 168))).size=168:=by rw [ofBytes_size,FN,Eh]
     have t0:bt (ofBytes (up (FZ S (3*(k - k % 56)) 168))) ((k % 56*3:Nat):Int)=((strm S (3*k):Nat):Int):=by rw [Ee,Oi S (by omega),show 3*(k - k % 56)+k % 56*3=3*k by omega]
     have t1:bt (ofBytes (up (FZ S (3*(k - k % 56)) 168))) ((k % 56*3+1:Nat):Int)=((strm S (3*k+1):Nat):Int):=by rw [Ee,Oi S (by omega),show 3*(k - k % 56)+(k % 56*3+1)=3*k+1 by omega]
     have t2:bt (ofBytes (up (FZ S (3*(k - k % 56)) 168))) ((k % 56*3+2:Nat):Int)=((strm S (3*k+2):Nat):Int):=by rw [Ee,Oi S (by omega),show 3*(k - k % 56)+(k % 56*3+2)=3*k+2 by omega]
     have va:w64 (((strm S (3*k):Nat):Int)+w64 (256*((strm S (3*k+1):Nat):Int).tmod 16))=((OZ S k:Nat):Int):=by
      rw [show ((strm S (3*k+1):Nat):Int).tmod 16=((strm S (3*k+1) % 16:Nat):Int) from rfl,w64_id (n:=256*((strm S (3*k+1) % 16:Nat):Int)) (by omega) (by omega),w64_id (by omega) (by omega),OZ];omega
     have vb:w64 (w64 (((strm S (3*k+1):Nat):Int).tdiv 16)+w64 (16*((strm S (3*k+2):Nat):Int)))=((Cb S k:Nat):Int):=by
      rw [show ((strm S (3*k+1):Nat):Int).tdiv 16=((strm S (3*k+1) / 16:Nat):Int) from rfl,w64_id (n:=((strm S (3*k+1) / 16:Nat):Int)) (by omega) (by omega),w64_id (n:=16*((strm S (3*k+2):Nat):Int)) (by omega) (by omega),w64_id (by omega) (by omega),Cb];omega
     rw [t0,t1,t2,wn (n:=strm S (3*k)) (by omega),wn (n:=strm S (3*k+1)) (by omega),wn (n:=strm S (3*k+2)) (by omega),va,vb,TB (by rw [hs3,Bool.and_eq_true,decide_eq_true_eq,decide_eq_true_eq];omega),TB (by rw [hs3,Bool.and_eq_true,decide_eq_true_eq,decide_eq_true_eq];omega),TB (by rw [hs3,Bool.and_eq_true,decide_eq_true_eq,decide_eq_true_eq];omega),TB (by rw [hs3,Bool.and_eq_true,decide_eq_true_eq,decide_eq_true_eq];omega),if_pos hlt]
     by_cases ha:OZ S k<3329
     ·have h1:He (OZ S k) o=o++[OZ S k]:=if_pos ⟨ha,hlt⟩
      have hl1:(o++[OZ S k]).length=o.length+1:=by rw [List.length_append];rfl
      rw [cond_d (by omega),cond_d (by rw [FN];omega),Nc]
      by_cases hb:Cb S k<3329
      ·rw [cond_d (by omega)]
       by_cases hl:(o++[OZ S k]).length<256
       ·have h2:Oa S k o=(o++[OZ S k])++[Cb S k]:=by rw [Oa,h1];exact if_pos ⟨hb,hl⟩
        rw [cond_d (by rw [FN];omega),cond_d (by rw [FN];omega),Nc,←h2]
        exact ih (k+1) m x _ _ (by omega) (Fh ho) nx
       ·have h2:Oa S k o=o++[OZ S k]:=by rw [Oa,h1];exact if_neg (fun h=>hl h.2)
        rw [IK (by rw [decide_eq_false_iff_not,FN];omega),←h2]
        exact ih (k+1) m x _ _ (by omega) (Fh ho) nx
      ·have h2:Oa S k o=o++[OZ S k]:=by rw [Oa,h1];exact if_neg (fun h=>hb h.1)
       rw [cond_n (by omega),←h2]
       exact ih (k+1) m x _ _ (by omega) (Fh ho) nx
     ·have h1:He (OZ S k) o=o:=if_neg (fun h=>ha h.1)
      rw [cond_n (by omega)]
      by_cases hb:Cb S k<3329
      ·have h2:Oa S k o=o++[Cb S k]:=by rw [Oa,h1];exact if_pos ⟨hb,hlt⟩
       rw [cond_d (by omega),cond_d (by rw [FN];omega),cond_d (by rw [FN];omega),Nc,←h2]
       exact ih (k+1) m x _ _ (by omega) (Fh ho) nx
      ·have h2:Oa S k o=o:=by rw [Oa,h1];exact if_neg (fun h=>hb h.1)
       rw [cond_n (by omega)]
       rw [h2]
       exact ih (k+1) m x _ _ (by omega) ho nx
   ·rw [IK (by rw [decide_eq_false_iff_not,FN];omega),if_neg hlt]
    have hp:=pad (m+r+1) o ho.1
    exact hp
 obtain ⟨m,hm⟩:∃ m,gas=m+4000+1+257:=⟨gas - 4258,by have:=gas_lt (n:=4258) (by omega);omega⟩
 rw [hm]
 refine key 4000 0 m ⟨S,0⟩ ⟨#[]⟩ [] (by omega) ⟨Nat.zero_le _,fun _ h=>by cases h⟩ ?_
 rw [if_pos (by decide),←hS];exact XAC _
theorem FAe {rho:ByteArray} (h:rho.size≤1000):V3 rho=some [up (PZ rho 0 0),up (PZ rho 1 0),up (PZ rho 0 1),up (PZ rho 1 1)]:=by
 have u00:Ai rho 0 0=some (up (PZ rho 0 0)):=VAC (i:=0) (j:=0) h (by decide) (by decide)
 have u10:Ai rho 1 0=some (up (PZ rho 1 0)):=VAC (i:=1) (j:=0) h (by decide) (by decide)
 have u01:Ai rho 0 1=some (up (PZ rho 0 1)):=VAC (i:=0) (j:=1) h (by decide) (by decide)
 have u11:Ai rho 1 1=some (up (PZ rho 1 1)):=VAC (i:=1) (j:=1) h (by decide) (by decide)
 have w0:w64 (0+1)=1:=by decide
 have w1:w64 (1+1)=2:=by decide
 obtain ⟨m,hm⟩:∃ m,gas=m+9:=⟨gas - 9,rfl⟩
 rw [V3,OAK,hm]
 rw [Ve];simp only [Uf];rw [TB (by rfl)]
 rw [Ve];simp only [Uf];rw [TB (by rfl),u00,Option.bind_some,TB (by rfl),w0]
 rw [Ve];simp only [Uf];rw [TB (by rfl),u10,Option.bind_some,TB (by rfl),w1]
 rw [Ve];simp only [Uf];rw [IK (by rfl),w0]
 rw [Ve];simp only [Uf];rw [TB (by rfl)]
 rw [Ve];simp only [Uf];rw [TB (by rfl),u01,Option.bind_some,TB (by rfl),w0]
 rw [Ve];simp only [Uf];rw [TB (by rfl),u11,Option.bind_some,TB (by rfl),w1]
 rw [Ve];simp only [Uf];rw [IK (by rfl),w1]
 rw [Ve];simp only [Uf];rw [IK (by rfl)];rfl
theorem GAe {s:ByteArray} {n:Nat} (h:s.size≤2000) (hn:n≤4000):Ls s (n:Int)=some (ofBytes (up (FZ (sd s) 0 n)),true):=by
 obtain ⟨x',e,_⟩:=NAS (n:=n) (WAC s) (XAC s) hn
 rw [Ls,QAK,Xf,Option.bind_some,Xa.2 (by omega),Bool.not_true,cond_false,LAS h,Option.bind_some,e];rfl
theorem YAC {seed:ByteArray} {n:Nat} (h:seed.size≤1000) (hn:n<256):Ci seed (n:Int)=some (up (Eb seed n)):=by
 have h1:Tc (n:Int)=some (NZ n):=Bf (by omega) (by omega)
 have hz:(NZ n).size=1:=by rw [NZ,ofBytes_size];rfl
 have h2:=GAe (s:=seed++NZ n) (n:=128) (by rw [ByteArray.size_append,hz];omega) (by omega)
 have hs:(ofBytes (up (FZ (sd (seed++NZ n)) 0 128))).size=128:=by rw [ofBytes_size,FN,Eh]
 have h2:Ls (seed++NZ n) 128=_:=h2
 rw [Ci,SAK,h1,Option.bind_some,cond_d (by rw [hz];omega),h2,Option.bind_some]
 dsimp only
 rw [Eb]
 generalize ofBytes (up (FZ (sd (seed++NZ n)) 0 128))=s at hs
 have sl:=GZ (Lp:=Ns) (st:=fun i o=>.c0 s (i:Int) (up o)) (f:=fun i o=>o++[Zj (EZ s (i / 2) / 2 ^ (4*(i % 2)))]) (P:=fun i o=>o.length=i) (n:=256) 1 (fun m i o hi ho=>by
  refine ⟨?_,by rw [List.length_append,ho];rfl⟩
  have hb:=Ii s (i / 2)
  have w1:w64 ((i:Int)+1)=((i+1:Nat):Int):=wn (n:=i+1) (by omega)
  have e1:w64 ((i:Int).tdiv 2)=((i / 2:Nat):Int):=wn (n:=i / 2) (by omega)
  have e2:(i:Int).tmod 2=((i % 2:Nat):Int):=rfl
  have e3:w64 ((EZ s (i / 2):Nat):Int)=((EZ s (i / 2):Nat):Int):=wn (by omega)
  have val:∀ b:Nat,b<256→(w64 ((w64 ((w64 ((w64 (((b:Nat):Int).tmod 2+(w64 (((b:Nat):Int).tdiv 2)).tmod 2)) - (w64 (((b:Nat):Int).tdiv 4)).tmod 2)) - (w64 (((b:Nat):Int).tdiv 8)).tmod 2))+3329)).tmod 3329=((Zj b:Nat):Int):=by
   intro b hb
   have a1:((b:Nat):Int).tmod 2=((b % 2:Nat):Int):=rfl
   have a2:(w64 (((b:Nat):Int).tdiv 2)).tmod 2=((b / 2 % 2:Nat):Int):=by rw [show ((b:Nat):Int).tdiv 2=((b / 2:Nat):Int) from rfl,wn (by omega)];rfl
   have a3:(w64 (((b:Nat):Int).tdiv 4)).tmod 2=((b / 4 % 2:Nat):Int):=by rw [show ((b:Nat):Int).tdiv 4=((b / 4:Nat):Int) from rfl,wn (by omega)];rfl
   have a4:(w64 (((b:Nat):Int).tdiv 8)).tmod 2=((b / 8 % 2:Nat):Int):=by rw [show ((b:Nat):Int).tdiv 8=((b / 8:Nat):Int) from rfl,wn (by omega)];rfl
   rw [a1,a2,a3,a4,w64_id (n:=((b % 2:Nat):Int)+((b / 2 % 2:Nat):Int)) (by omega) (by omega),w64_id (n:=((b % 2:Nat):Int)+((b / 2 % 2:Nat):Int) - ((b / 4 % 2:Nat):Int)) (by omega) (by omega),w64_id (n:=((b % 2:Nat):Int)+((b / 2 % 2:Nat):Int) - ((b / 4 % 2:Nat):Int) - ((b / 8 % 2:Nat):Int)) (by omega) (by omega),w64_id (by omega) (by omega),Int.tmod_eq_emod_of_nonneg (by omega),Zj]
   omega
  rw [Ns]
  simp only [WAB,w1,e1,e2,Ee,e3]
  rw [cond_d (by omega),cond_in (by omega)]
  by_cases h2:i % 2=1
  ·have e4:w64 (((EZ s (i / 2):Nat):Int).tdiv 16)=((EZ s (i / 2) / 16:Nat):Int):=wn (n:=EZ s (i / 2) / 16) (by omega)
   rw [TB (by rw [h2];rfl),cond_d (by rw [FN];omega),e4,val _ (by omega),Nc,h2]
  ·have h0:i % 2=0:=by omega
   rw [IK (by rw [h0];rfl),cond_d (by rw [FN];omega),val _ hb,Nc,h0,Nat.mul_zero,Nat.pow_zero,Nat.div_one])
 obtain ⟨m,hm⟩:∃ m,gas=m+1+256*1:=⟨gas - 257,by have:=gas_lt (n:=257) (by omega);omega⟩
 rw [hm]
 refine (sl 256 0 (m+1) [] (by omega) rfl).1.trans ?_
 rw [H6,Ns]
 simp only [WAB]
 rw [cond_n (by omega)];rfl
theorem Yt {l:List Nat} (h:PY l):Xg (up l)=some true:=by
 have hl:=h.1
 have s:=GZ (Lp:=Qs) (st:=fun i (_:Unit)=>.c0 (up l) (i:Int)) (f:=fun _ a=>a) (P:=fun _ _=>True) (n:=256) 1 (fun m i _ hi _=>by
  refine ⟨?_,trivial⟩
  have w1:w64 ((i:Int)+1)=((i+1:Nat):Int):=wn (n:=i+1) (by omega)
  have hq:=h.get i
  rw [Qs]
  simp only [XAB,w1,Int.toNat_natCast,MZ]
  rw [cond_d (by rw [FN];omega),TB (SN (by omega)),Xf,Option.bind_some,Xa.2 (by omega),Bool.not_true,cond_false])
 obtain ⟨m,hm⟩:∃ m,gas=m+1+256*1:=⟨gas - 257,by have:=gas_lt (n:=257) (by omega);omega⟩
 rw [Xg,TAK,IK (by rw [FN,hl];rfl),hm]
 refine (s 256 0 (m+1) () (by omega) trivial).1.trans ?_
 rw [Qs]
 simp only [XAB]
 rw [IK (by rw [decide_eq_false_iff_not,FN];omega)]
theorem PAS {n:Nat} (h:n<128):Jm (n:Int)=some ((t7 n:Nat):Int):=by
 have s:=GZ (Lp:=Us) (st:=fun i (o:Nat)=>.c0 ((n / 2 ^ i:Nat):Int) (o:Int) (i:Int)) (f:=fun i o=>2*o+n / 2 ^ i % 2) (P:=fun i o=>o<2 ^ i) (n:=7) 1 (fun m i o hi ho=>by
  have hp:2 ^ (i+1)≤2 ^ 7:=Nat.pow_le_pow_right (by decide) hi
  have hlt:2*o+n / 2 ^ i % 2<2 ^ (i+1):=by rw [Nat.pow_succ];omega
  refine ⟨?_,hlt⟩
  have hd:n / 2 ^ i≤n:=Nat.div_le_self _ _
  have w1:w64 ((i:Int)+1)=((i+1:Nat):Int):=wn (n:=i+1) (by omega)
  have e1:w64 (((n / 2 ^ i:Nat):Int).tdiv 2)=((n / 2 ^ (i+1):Nat):Int):=by
   rw [show ((n / 2 ^ i:Nat):Int).tdiv 2=((n / 2 ^ i / 2:Nat):Int) from rfl,Nat.div_div_eq_div_mul,←Nat.pow_succ]
   exact wn (Nat.lt_of_le_of_lt (Nat.div_le_self _ _) (by omega))
  have e2:((n / 2 ^ i:Nat):Int).tmod 2=((n / 2 ^ i % 2:Nat):Int):=rfl
  have hp7:(2:Nat) ^ 7=128:=rfl
  have e3:w64 (2*(o:Int))=((2*o:Nat):Int):=wn (n:=2*o) (by omega)
  have e4:w64 (((2*o:Nat):Int)+((n / 2 ^ i % 2:Nat):Int))=((2*o+n / 2 ^ i % 2:Nat):Int):=wn (n:=2*o+n / 2 ^ i % 2) (by omega)
  rw [Us]
  simp only [ZAB,w1,e1,e2,e3,e4]
  rw [cond_d (by omega)])
 obtain ⟨m,hm⟩:∃ m,gas=m+1+7*1:=⟨gas - 8,rfl⟩
 have e0:(n:Int).tmod 128=((n / 2 ^ 0:Nat):Int):=by rw [Int.tmod_eq_emod_of_nonneg (by omega),Nat.pow_zero,Nat.div_one];omega
 rw [Jm,UAK,e0,cond_n (by omega),hm]
 refine (s 7 0 (m+1) 0 (by omega) (by decide)).1.trans ?_
 rw [Us]
 simp only [ZAB]
 rw [IK (by rfl)];rfl
theorem QAS {e:Nat} (he:e<1024):Lm 17 (e:Int)=some ((Ak e:Nat):Int):=by
 have key:∀ (k b e o m:Nat),e<2 ^ k→b<3329→o<3329→e<1024→V4 (m+k+1) (.c0 (b:Int) (e:Int) (o:Int))=some ((Ik k b e o:Nat):Int):=by
  intro k
  induction k with
  | zero=>
   intro b e o m h _ _ _
   obtain rfl:e=0:=by simpa using h
   rfl
  | succ k ih=>
   intro b e o m h hb ho he
   rw [aj m k,V4,Ik]
   simp only [WAK]
   by_cases h0:e=0
   ·subst h0;rfl
   ·have e1:w64 ((e:Int).tdiv 2)=((e / 2:Nat):Int):=wn (n:=e / 2) (by omega)
    have e2:(e:Int).tmod 2=((e % 2:Nat):Int):=rfl
    rw [cond_d (by omega),e1,e2,Gn hb hb,Gn ho hb,if_neg h0]
    have hk:e / 2<2 ^ k:=by rw [Nat.pow_succ] at h;omega
    by_cases h1:e % 2=1
    ·rw [if_pos h1,h1,TB (by rfl)]
     exact ih _ _ _ _ hk (Nat.mod_lt _ (by decide)) (Nat.mod_lt _ (by decide)) (by omega)
    ·rw [if_neg h1,IK (by rw [beq_eq_false_iff_ne];omega)]
     exact ih _ _ _ _ hk (Nat.mod_lt _ (by decide)) ho (by omega)
 obtain ⟨m,hm⟩:∃ m,gas=m+10+1:=⟨gas - 11,rfl⟩
 rw [Lm,VAK,Xf,Option.bind_some,Xa.2 (by omega),Bool.not_true,cond_false,IK (by decide),hm]
 exact key 10 17 e 1 m he (by decide) (by decide) he
theorem HAe {p:List Nat} (h:PY p):Vs (up p)=some (up (Zt p)):=by
 have inner:∀ (k size start z:Nat) (m:Nat) (o:List Nat),0<size→start+2*size≤256→z<3329→PY o→Ed (m+size*1) (.c2 (k:Int) (size:Int) (start:Int) (z:Int) (start:Int) (up o))=Ed m (.c2 (k:Int) (size:Int) (start:Int) (z:Int) ((start+size:Nat):Int) (up (TT (fun j o=>Au z size (start+j) o) size 0 o))):=fun k size start z m o hs hst hz ho=>(GZ (Lp:=Ed) (st:=fun j o=>.c2 (k:Int) (size:Int) (start:Int) (z:Int) ((start+j:Nat):Int) (up o)) (f:=fun j o=>Au z size (start+j) o) (P:=fun _ o=>PY o) (n:=size) 1 (fun m j o hj ho=>by
  refine ⟨?_,KAM ho _ _ _⟩
  have hl:=ho.1
  have h1:=ho.get (start+j)
  have h2:=ho.get (start+j+size)
  have e1:w64 (((start+j:Nat):Int)+1)=((start+(j+1):Nat):Int):=wn (n:=start+(j+1)) (by omega)
  have e2:w64 (((start+j:Nat):Int)+(size:Int))=((start+j+size:Nat):Int):=wn (n:=start+j+size) (by omega)
  have e3:w64 ((start:Int)+(size:Int))=((start+size:Nat):Int):=wn (n:=start+size) (by omega)
  rw [Ed]
  simp only [Nj,e1,e2,e3,Int.toNat_natCast,MZ]
  rw [Gn hz h2]
  have ht:z*o.getD (start+j+size) 0 % 3329<3329:=Nat.mod_lt _ (by decide)
  have e4:(w64 (w64 (((o.getD (start+j) 0:Nat):Int) - ((z*o.getD (start+j+size) 0 % 3329:Nat):Int))+3329)).tmod 3329=(((o.getD (start+j) 0+3329 - z*o.getD (start+j+size) 0 % 3329) % 3329:Nat):Int):=by
   generalize z*o.getD (start+j+size) 0 % 3329=t at ht ⊢
   generalize o.getD (start+j) 0=a at h1 ⊢
   rw [w64_id (n:=(a:Int) - (t:Int)) (by omega) (by omega),w64_id (n:=(a:Int) - (t:Int)+3329) (by omega) (by omega),Int.tmod_eq_emod_of_nonneg (by omega)];omega
  rw [e4,Ia,MZ,getD_set_ne (show start+j≠start+j+size by omega)]
  have e5:(w64 (((o.getD (start+j) 0:Nat):Int)+((z*o.getD (start+j+size) 0 % 3329:Nat):Int))).tmod 3329=(((o.getD (start+j) 0+z*o.getD (start+j+size) 0 % 3329) % 3329:Nat):Int):=by
   rw [w64_id (by omega) (by omega),Int.tmod_eq_emod_of_nonneg (by omega)];omega
  rw [e5,Ia,cond_d (by omega),TB (SN (by omega)),TB (SN (by omega)),TB (SN (by omega)),TB (SN (by rw [List.length_set];omega)),TB (SN (by rw [List.length_set];omega))];rfl) size 0 m o (by omega) ho).1
 have level:∀ (k0 size c:Nat) (m:Nat) (o:List Nat),1<size→size*c=128→k0=c→PY o→Ed (m+1+c*(size+2)+1) (.c0 (k0:Int) (size:Int) (up o))=Ed m (.c0 ((k0+c:Nat):Int) ((size / 2:Nat):Int) (up (Gh k0 size c o))):=by
  intro k0 size c m o hs hc hk ho
  have hsc:size≤128∧c≤64:=by
   refine ⟨Nat.le_of_dvd (by decide) ⟨c,hc.symm⟩,?_⟩
   have h2:2*c≤size*c:=Nat.mul_le_mul_right c hs
   omega
  have s:=GZ (Lp:=Ed) (st:=fun i o=>.c1 ((k0+i:Nat):Int) (size:Int) ((2*size*i:Nat):Int) (up o)) (f:=ZAC k0 size) (P:=fun _ o=>PY o) (n:=c) (size+2) (fun m i o hi ho=>by
   refine ⟨?_,LAM ho _ _ _⟩
   have hb:size*(i+1)≤size*c:=Nat.mul_le_mul_left size hi
   have hb2:2*size*i=2*(size*i):=Nat.mul_assoc 2 size i
   have hb3:2*size*(i+1)=2*size*i+2*size:=Nat.mul_succ _ _
   rw [Nat.mul_succ] at hb
   have e1:w64 (((k0+i:Nat):Int)+1)=((k0+(i+1):Nat):Int):=wn (n:=k0+(i+1)) (by omega)
   have e2:w64 (2*(size:Int))=((2*size:Nat):Int):=wn (n:=2*size) (by omega)
   have e3:w64 (((2*size*i:Nat):Int)+((2*size:Nat):Int))=((2*size*(i+1):Nat):Int):=by rw [hb3];exact wn (n:=2*size*i+2*size) (by omega)
   have e4:w64 (((2*size*i:Nat):Int)+(size:Int))=((2*size*i+size:Nat):Int):=wn (n:=2*size*i+size) (by omega)
   have h7:=AAD (k0+i)
   rw [show m+(size+2)=m+1+size*1+1 by omega,Ed]
   simp only [Nj,e1]
   rw [cond_d (by omega),PAS (n:=k0+i) (by omega),Option.bind_some,QAS (e:=t7 (k0+i)) (by omega),Option.bind_some]
   refine (inner (k0+(i+1)) size (2*size*i) _ (m+1) o (by omega) (by omega) (CAD _) ho).trans ?_
   rw [Ed]
   simp only [Nj,e2,e3,e4]
   rw [cond_n (by omega)];rfl)
  rw [Ed]
  simp only [Nj]
  rw [cond_d (by omega)]
  refine (s c 0 (m+1) o (by omega) ho).1.trans ?_
  have hb2:2*size*c=256:=by rw [Nat.mul_assoc,hc]
  have e5:w64 ((size:Int).tdiv 2)=((size / 2:Nat):Int):=wn (n:=size / 2) (by omega)
  rw [Ed]
  simp only [Nj,e5]
  rw [IK (by rw [decide_eq_false_iff_not,hb2];omega)];rfl
 have hl:=h.1
 obtain ⟨m,hm⟩:∃ m,gas=m+1+1+64*(2+2)+1+1+32*(4+2)+1+1+16*(8+2)+1+1+8*(16+2)+1+1+4*(32+2)+1+1+2*(64+2)+1+1+1*(128+2)+1:=⟨gas - 1165,by have:=gas_lt (n:=2000) (by omega);omega⟩
 rw [Vs,YAK,Yt h,Option.bind_some,Bool.not_true,cond_false,cond_d (by rw [FN];omega),hm,List.nil_append]
 have o1:=Ub h 1 128 1
 have o2:=Ub o1 2 64 2
 have o3:=Ub o2 4 32 4
 have o4:=Ub o3 8 16 8
 have o5:=Ub o4 16 8 16
 have o6:=Ub o5 32 4 32
 refine (level 1 128 1 _ p (by omega) rfl rfl h).trans ?_
 refine (level 2 64 2 _ _ (by omega) rfl rfl o1).trans ?_
 refine (level 4 32 4 _ _ (by omega) rfl rfl o2).trans ?_
 refine (level 8 16 8 _ _ (by omega) rfl rfl o3).trans ?_
 refine (level 16 8 16 _ _ (by omega) rfl rfl o4).trans ?_
 refine (level 32 4 32 _ _ (by omega) rfl rfl o5).trans ?_
 refine (level 64 2 64 (m+1) _ (by omega) rfl rfl o6).trans ?_
 rw [Ed]
 simp only [Nj]
 rw [IK (by rfl)];rfl
theorem MAM {n:Nat} (h:n≤12):Oj (n:Int)=some ((2 ^ n:Nat):Int):=by
 have s:=GZ (Lp:=Ws) (st:=fun i (o:Nat)=>.c0 (n:Int) (o:Int) (i:Int)) (f:=fun _ o=>2*o) (P:=fun i o=>o=2 ^ i) (n:=n) 1 (fun m i o hi ho=>by
  have hp:2 ^ (i+1)≤2 ^ 12:=Nat.pow_le_pow_right (by decide) (by omega)
  have h12:(2:Nat) ^ 12=4096:=rfl
  have ho2:2*o=2 ^ (i+1):=by rw [ho,Nat.pow_succ,Nat.mul_comm]
  refine ⟨?_,ho2⟩
  have w1:w64 ((i:Int)+1)=((i+1:Nat):Int):=wn (n:=i+1) (by omega)
  have e1:w64 (2*(o:Int))=((2*o:Nat):Int):=wn (n:=2*o) (by omega)
  rw [Ws]
  simp only [AAC,w1,e1]
  rw [cond_d (by omega)])
 obtain ⟨m,hm⟩:∃ m,gas=m+1+n*1:=⟨gas - (1+n),by have:=gas_lt (n:=1+n) (by omega);omega⟩
 rw [Oj,AAL,hm]
 obtain ⟨a1,a2⟩:=s n 0 (m+1) 1 (by omega) rfl
 refine a1.trans ?_
 rw [a2,Ws]
 simp only [AAC]
 rw [cond_n (by omega)]
theorem IAe {l:List Nat} (h:PY l):BAC (up l) 12=some (Dc l,true):=by
 have hl:=h.1
 have t12:Oj 12=some 4096:=MAM (n:=12) (by omega)
 have t0:Oj 0=some 1:=MAM (n:=0) (by omega)
 have t4:Oj 4=some 16:=MAM (n:=4) (by omega)
 have s0:=GZ (Lp:=Jd) (st:=fun i (_:Unit)=>.c0 (up l) 12 (i:Int)) (f:=fun _ a=>a) (P:=fun _ _=>True) (n:=256) 1 (fun m i _ hi _=>by
  refine ⟨?_,trivial⟩
  have w1:w64 ((i:Int)+1)=((i+1:Nat):Int):=wn (n:=i+1) (by omega)
  have hq:=h.get i
  rw [Jd]
  simp only [Xe,w1,Int.toNat_natCast,MZ]
  rw [cond_d (by rw [FN];omega),TB (SN (by omega)),t12,Option.bind_some,Xf,Option.bind_some,show w64 (4096 - 1)=4095 by decide,Xa.2 (by omega),Bool.not_true,cond_false])
 have s1:=GZ (Lp:=Jd) (st:=fun q o=>.c1 (up l) 12 0 0 ((2*q:Nat):Int) (up o)) (f:=fun q o=>o++[Fa l (3*q)]++[Fa l (3*q+1)]++[Fa l (3*q+2)]) (P:=fun q o=>o.length=3*q) (n:=128) 7 (fun m q o hq ho=>by
  refine ⟨?_,by simp only [List.length_append,List.length_singleton];omega⟩
  have hx:=h.get (2*q)
  have hy:=h.get (2*q+1)
  have w1:w64 (((2*q:Nat):Int)+1)=((2*q+1:Nat):Int):=wn (n:=2*q+1) (by omega)
  have w2:w64 (((2*q+1:Nat):Int)+1)=((2*(q+1):Nat):Int):=wn (n:=2*(q+1)) (by omega)
  have p0:=RAS l q
  have p1:=SAS l q
  have p2:=TAS l q
  rw [show m+7=m+1+1+1+1+1+1+1 from rfl,Jd]
  simp only [Xe,Int.toNat_natCast,MZ]
  rw [cond_d (by rw [FN];omega),TB (SN (by omega)),t0,Option.bind_some]
  generalize l.getD (2*q) 0=x at hx p0 p1
  have hl2:∀ k,(up (o++[k])).length=o.length+1:=fun k=>by rw [FN,List.length_append];rfl
  rw [show w64 ((x:Int)*1)=(x:Int) by rw [Int.mul_one];exact wn (by omega),show w64 (0+(x:Int))=(x:Int) by rw [Int.zero_add];exact wn (by omega),show w64 (0+12)=12 by decide,Jd]
  simp only [Xe]
  rw [TB (by rfl),cond_d (by rw [FN];omega),show w64 ((x:Int).tdiv 256)=((x / 256:Nat):Int) from wn (n:=x / 256) (by omega),show w64 (12 - 8)=4 by decide,show w8 ((x:Int).tmod 256)=((Fa l (3*q):Nat):Int) by rw [p0,show (x:Int).tmod 256=((x % 256:Nat):Int) from rfl,w8_id (by omega) (by omega)],Nc,Jd]
  simp only [Xe,w1]
  rw [IK (by rfl),Jd]
  simp only [Xe,Int.toNat_natCast,MZ]
  rw [cond_d (by rw [FN];omega),TB (SN (by omega)),t4,Option.bind_some]
  generalize l.getD (2*q+1) 0=y at hy p1 p2
  have e16:w64 ((y:Int)*16)=((y*16:Nat):Int):=wn (n:=y*16) (by omega)
  have eh:w64 (((x / 256:Nat):Int)+((y*16:Nat):Int))=((x / 256+y*16:Nat):Int):=wn (n:=x / 256+y*16) (by omega)
  have d1:(x / 256+y*16) % 256=Fa l (3*q+1):=by rw [p1];omega
  have d2:(x / 256+y*16) / 256=Fa l (3*q+2):=by rw [p2];omega
  have hp2:Fa l (3*q+2)<256:=by rw [p2];omega
  rw [e16,eh,show w64 (4+12)=16 by decide,Jd]
  simp only [Xe]
  rw [TB (by rfl),cond_d (by rw [hl2];omega),show w64 (((x / 256+y*16:Nat):Int).tdiv 256)=((Fa l (3*q+2):Nat):Int) by rw [show ((x / 256+y*16:Nat):Int).tdiv 256=(((x / 256+y*16) / 256:Nat):Int) from rfl,d2];exact wn (by omega),show w64 (16 - 8)=8 by decide,show w8 (((x / 256+y*16:Nat):Int).tmod 256)=((Fa l (3*q+1):Nat):Int) by rw [show ((x / 256+y*16:Nat):Int).tmod 256=(((x / 256+y*16) % 256:Nat):Int) from rfl,d1,w8_id (by omega) (by rw [←d1];omega)],Nc,Jd]
  simp only [Xe]
  rw [TB (by rfl),cond_d (by rw [FN,List.length_append,List.length_append,List.length_singleton,List.length_singleton];omega),show w64 (((Fa l (3*q+2):Nat):Int).tdiv 256)=0 by rw [show ((Fa l (3*q+2):Nat):Int).tdiv 256=((Fa l (3*q+2) / 256:Nat):Int) from rfl,Nat.div_eq_of_lt hp2];decide,show w64 (8 - 8)=0 by decide,show w8 (((Fa l (3*q+2):Nat):Int).tmod 256)=((Fa l (3*q+2):Nat):Int) by rw [show ((Fa l (3*q+2):Nat):Int).tmod 256=((Fa l (3*q+2) % 256:Nat):Int) from rfl,Nat.mod_eq_of_lt hp2,w8_id (by omega) (by omega)],Nc,Jd]
  simp only [Xe,w2]
  rw [IK (by rfl)])
 obtain ⟨m,hm⟩:∃ m,gas=(m+1+128*7)+1+256*1:=⟨gas - 1154,by have:=gas_lt (n:=1154) (by omega);omega⟩
 rw [BAC,BAL,Xf,Option.bind_some,Xa.2 (by omega),Bool.not_true,cond_false,hm]
 refine (s0 256 0 _ () (by omega) trivial).1.trans ?_
 rw [Jd]
 simp only [Xe]
 rw [IK (by rw [decide_eq_false_iff_not,FN];omega)]
 refine (s1 128 0 (m+1) [] (by omega) rfl).1.trans ?_
 rw [UAS (Fa l),show 3*128=384 from rfl,Nat.mul_zero,H6,Jd]
 simp only [Xe]
 rw [IK (by rw [decide_eq_false_iff_not,FN];omega),IK (by rfl)];rfl
theorem VAS {l:List Nat} (h:PY l):Om (up l)=some (Dc l):=by
 rw [Om,DAL,Yt h,Option.bind_some,Bool.not_true,cond_false,IAe h];rfl
theorem XAS {a b:List Nat} (ha:PY a) (hb:PY b):E5 (up a) (up b)=some (up (mulL a b)):=by
 have hal:=ha.1
 have hbl:=hb.1
 have s:=GZ (Lp:=Dt) (st:=fun i o=>.c0 (up a) (up b) (i:Int) (up o)) (f:=fun i o=>o++[Fb a b (2*i),Fb a b (2*i+1)]) (P:=fun i o=>o.length=2*i) (n:=128) 1 (fun m i o hi ho=>by
  refine ⟨?_,by rw [List.length_append,ho];rfl⟩
  have h7:=AAD i
  have w1:w64 ((i:Int)+1)=((i+1:Nat):Int):=wn (n:=i+1) (by omega)
  have e1:w64 (2*(i:Int))=((2*i:Nat):Int):=wn (n:=2*i) (by omega)
  have e2:w64 (((2*i:Nat):Int)+1)=((2*i+1:Nat):Int):=wn (n:=2*i+1) (by omega)
  have e3:w64 (2*((t7 i:Nat):Int))=((2*t7 i:Nat):Int):=wn (n:=2*t7 i) (by omega)
  have e4:w64 (((2*t7 i:Nat):Int)+1)=((2*t7 i+1:Nat):Int):=wn (n:=2*t7 i+1) (by omega)
  have g:=CAD (2*t7 i+1)
  have a0:=ha.get (2*i)
  have a1:=ha.get (2*i+1)
  have b0:=hb.get (2*i)
  have b1:=hb.get (2*i+1)
  have p00:=mul_lt a0 b0
  have p11:=mul_lt a1 b1
  have p01:=mul_lt a0 b1
  have p10:=mul_lt a1 b0
  have hm:a.getD (2*i+1) 0*b.getD (2*i+1) 0 % 3329<3329:=Nat.mod_lt _ (by decide)
  have pg:=mul_lt hm g
  rw [Dt]
  simp only [CAC,w1,e1,e2,Int.toNat_natCast,MZ]
  rw [cond_d (by omega),PAS (by omega),Option.bind_some,e3,e4,QAS (by omega),Option.bind_some,Gn a1 b1,Jk hm g,Jk a0 b0,Jk a0 b1,Jk a1 b0]
  have v1:(w64 (((a.getD (2*i) 0*b.getD (2*i) 0:Nat):Int)+((a.getD (2*i+1) 0*b.getD (2*i+1) 0 % 3329*Ak (2*t7 i+1):Nat):Int))).tmod 3329=((Fb a b (2*i):Nat):Int):=by
   rw [YAS,←Int.natCast_add,wn (by omega)];rfl
  have v2:(w64 (((a.getD (2*i) 0*b.getD (2*i+1) 0:Nat):Int)+((a.getD (2*i+1) 0*b.getD (2*i) 0:Nat):Int))).tmod 3329=((Fb a b (2*i+1):Nat):Int):=by
   rw [ZAS,←Int.natCast_add,wn (by omega)];rfl
  rw [v1,v2,TB (SN (by omega)),TB (SN (by omega)),TB (SN (by omega)),TB (SN (by omega)),TB (SN (by omega)),TB (SN (by omega)),TB (SN (by omega)),TB (SN (by omega)),cond_d (by rw [FN];omega),show up o++[((Fb a b (2*i):Nat):Int),((Fb a b (2*i+1):Nat):Int)]=up (o++[Fb a b (2*i),Fb a b (2*i+1)]) by rw [up,up,List.map_append];rfl])
 obtain ⟨m,hm⟩:∃ m,gas=m+1+128*1:=⟨gas - 129,by have:=gas_lt (n:=129) (by omega);omega⟩
 rw [E5,FAL,Yt ha,Option.bind_some,Bool.not_true,cond_false,Yt hb,Option.bind_some,Bool.not_true,cond_false,hm]
 refine (s 128 0 (m+1) [] (by omega) rfl).1.trans ?_
 rw [AAT,show 2*128=256 from rfl,Nat.mul_zero,H6,Dt]
 simp only [CAC]
 rw [cond_n (by omega)];rfl
theorem NAM {a b:List Nat} (ha:PY a) (hb:PY b):Pj (up a) (up b)=some (up (Pn a b)):=by
 have hal:=ha.1
 have hbl:=hb.1
 have s:=GZ (Lp:=Et) (st:=fun i o=>.c0 (up a) (up b) (i:Int) (up o)) (f:=fun i o=>o++[(a.getD i 0+b.getD i 0) % 3329]) (P:=fun i o=>o.length=i) (n:=256) 1 (fun m i o hi ho=>by
  refine ⟨?_,by rw [List.length_append,ho];rfl⟩
  have w1:w64 ((i:Int)+1)=((i+1:Nat):Int):=wn (n:=i+1) (by omega)
  have a0:=ha.get i
  have b0:=hb.get i
  have v:(w64 (((a.getD i 0:Nat):Int)+((b.getD i 0:Nat):Int))).tmod 3329=(((a.getD i 0+b.getD i 0) % 3329:Nat):Int):=by rw [←Int.natCast_add,wn (by omega)];rfl
  rw [Et]
  simp only [DAC,w1,Int.toNat_natCast,MZ]
  rw [cond_d (by omega),Yt ha,Option.bind_some,cond_true,Yt hb,Option.bind_some,cond_true,v,TB (SN (by omega)),TB (SN (by omega)),cond_d (by rw [FN];omega),Nc])
 obtain ⟨m,hm⟩:∃ m,gas=m+1+256*1:=⟨gas - 257,by have:=gas_lt (n:=257) (by omega);omega⟩
 rw [Pj,GAL,hm]
 refine (s 256 0 (m+1) [] (by omega) rfl).1.trans ?_
 rw [H6 (fun i=>(a.getD i 0+b.getD i 0) % 3329),Et]
 simp only [DAC]
 rw [cond_n (by omega)];rfl
theorem JAe {a0 a1 b0 b1:List Nat} (ha0:PY a0) (ha1:PY a1) (hb0:PY b0) (hb1:PY b1):Qj [up a0,up a1] [up b0,up b1]=some (up (DAD a0 a1 b0 b1)):=by
 obtain ⟨m,hm⟩:∃ m,gas=m+1+1+1:=⟨gas - 3,rfl⟩
 rw [Qj,IAL,hm,show (256:Int).toNat=256 from rfl,←Dh,Gt]
 simp only [J5]
 rw [TB (by rfl),TB (by rfl),TB (by rfl),show ([up a0,up a1]:List (List Int)).getD (0:Int).toNat []=up a0 from rfl,show ([up b0,up b1]:List (List Int)).getD (0:Int).toNat []=up b0 from rfl,XAS ha0 hb0,Option.bind_some,NAM BAT (EAD _ _),Option.bind_some,show w64 (0+1)=1 by decide,Gt]
 simp only [J5]
 rw [TB (by rfl),TB (by rfl),TB (by rfl),show ([up a0,up a1]:List (List Int)).getD (1:Int).toNat []=up a1 from rfl,show ([up b0,up b1]:List (List Int)).getD (1:Int).toNat []=up b1 from rfl,XAS ha1 hb1,Option.bind_some,NAM (FAD _ _) (EAD _ _),Option.bind_some,show w64 (1+1)=2 by decide,Gt]
 simp only [J5]
 rw [IK (by rfl)];rfl
theorem KAe {seed:ByteArray} (h:seed.size=32):P7 seed=some (⟨Ce seed,CAT seed⟩,true):=by
 have z0:(⟨#[]⟩:ByteArray).size=0:=rfl
 have z1:(⟨#[114]⟩:ByteArray).size=1:=rfl
 have z2:(⟨#[115]⟩:ByteArray).size=1:=rfl
 have z3:(⟨#[122]⟩:ByteArray).size=1:=rfl
 have hd:=Oc seed
 have hrs:(Qa seed).size=32:=Oc _
 have hss:(Ua seed).size=32:=Oc _
 have hps:=DAT seed
 have hr:Gf (Aa seed++⟨#[114]⟩)=some (Qa seed):=Nk (by rw [ByteArray.size_append,hd,z1];omega)
 have hs:Gf (Aa seed++⟨#[115]⟩)=some (Ua seed):=Nk (by rw [ByteArray.size_append,hd,z2];omega)
 have hzz:Gf (Aa seed++⟨#[122]⟩)=some (Aa (Aa seed++⟨#[122]⟩)):=Nk (by rw [ByteArray.size_append,hd,z3];omega)
 have hpp:Gf (Ce seed)=some (Aa (Ce seed)):=Nk (by omega)
 have m0:Ci (Ua seed) 0=some (up (Eb (Ua seed) 0)):=YAC (n:=0) (by omega) (by decide)
 have m1:Ci (Ua seed) 1=some (up (Eb (Ua seed) 1)):=YAC (n:=1) (by omega) (by decide)
 have m2:Ci (Ua seed) 2=some (up (Eb (Ua seed) 2)):=YAC (n:=2) (by omega) (by decide)
 have m3:Ci (Ua seed) 3=some (up (Eb (Ua seed) 3)):=YAC (n:=3) (by omega) (by decide)
 have n0:∀ i,Vs (up (Eb (Ua seed) i))=some (up (pS seed i)):=fun i=>HAe (Du _ _)
 have b0:∀ i,Om (up (pS seed i))=some (Dc (pS seed i)):=fun i=>VAS (Qk _ _)
 have d0:∀ i,Qj [up (PZ (Qa seed) 0 i),up (PZ (Qa seed) 1 i)] [up (pS seed 0),up (pS seed 1)]=some (up (Qn seed i)):=fun i=>JAe (GAD _ _ _) (GAD _ _ _) (Qk _ _) (Qk _ _)
 have a0:∀ i,Pj (up (Qn seed i)) (up (pS seed (2+i)))=some (up (pT seed i)):=fun i=>NAM (EAT _ _ _ _) (Qk _ _)
 have t0:∀ i,Om (up (pT seed i))=some (Dc (pT seed i)):=fun i=>VAS (FAT _ _)
 have w0:w64 (0+1)=1:=by decide
 have w1:w64 (1+1)=2:=by decide
 have w2:w64 (2+0)=2:=by decide
 have w3:w64 (2+1)=3:=by decide
 obtain ⟨m,hm⟩:∃ m,gas=m+6:=⟨gas - 6,rfl⟩
 rw [P7,JAL,IK (by rw [h];rfl),Nk (by omega),Option.bind_some,cond_d (by rw [hd,z1];omega),hr,Option.bind_some,cond_d (by rw [hd,z2];omega),hs,Option.bind_some,FAe (by omega),Option.bind_some,hm]
 rw [Di];simp only [Rj]
 rw [TB (by rfl),m0,Option.bind_some,n0,Option.bind_some,TB (by rfl),b0,Option.bind_some,cond_d (by rw [UZ,z0];omega),w0]
 rw [Di];simp only [Rj]
 rw [TB (by rfl),m1,Option.bind_some,n0,Option.bind_some,TB (by rfl),b0,Option.bind_some,cond_d (by rw [ByteArray.size_append,UZ,UZ,z0];omega),w1]
 rw [Di];simp only [Rj]
 rw [IK (by rfl)]
 rw [Di];simp only [Rj]
 rw [TB (by rfl),TB (by rfl)]
 show (Qj [up (PZ (Qa seed) 0 0),up (PZ (Qa seed) 1 0)] [up (pS seed 0),up (pS seed 1)]).bind _=_
 rw [d0,Option.bind_some,w2,m2,Option.bind_some,n0,Option.bind_some,a0 0,Option.bind_some,t0,Option.bind_some,cond_d (by rw [UZ,z0];omega),w0]
 rw [Di];simp only [Rj]
 rw [TB (by rfl),TB (by rfl)]
 show (Qj [up (PZ (Qa seed) 0 1),up (PZ (Qa seed) 1 1)] [up (pS seed 0),up (pS seed 1)]).bind _=_
 rw [d0,Option.bind_some,w3,m3,Option.bind_some,n0,Option.bind_some,a0 1,Option.bind_some,t0,Option.bind_some,cond_d (by rw [ByteArray.size_append,UZ,UZ,z0];omega),w1]
 rw [Di];simp only [Rj]
 rw [IK (by rfl),cond_d (by rw [ByteArray.size_append,ByteArray.size_append,UZ,UZ,z0,hrs];omega)]
 rw [show ((⟨#[]⟩:ByteArray)++Dc (pT seed 0)++Dc (pT seed 1))++Qa seed=Ce seed from rfl,cond_d (by rw [hps,ByteArray.size_append,ByteArray.size_append,UZ,UZ,z0];omega),hpp,Option.bind_some,cond_d (by rw [Oc,ByteArray.size_append,hps,ByteArray.size_append,ByteArray.size_append,UZ,UZ,z0];omega),cond_d (by rw [hd,z3];omega),hzz,Option.bind_some,cond_d (by rw [Oc,ByteArray.size_append,Oc,ByteArray.size_append,hps,ByteArray.size_append,ByteArray.size_append,UZ,UZ,z0];omega)]
 rfl
theorem IAD {s:ByteArray} (h:s.size≤1000000000):Ae s=some (Qi s):=by
 rw [Ae,KAL,Nk h,Option.bind_some,Oc,TB (by rfl)];rfl
theorem LAe {s:ByteArray} {leaf:Int} (hl:0≤leaf∧leaf≤255) (hs:s.size≤100000):Q5 s leaf=some (VZ s leaf 10):=by
 have key:∀ (j i m:Nat),i+j=10→Pm (m+j+1) (.c0 s leaf (i:Int) (VZ s leaf i))=some (VZ s leaf 10):=by
  intro j
  induction j with
  | zero=>
   intro i m hi
   obtain rfl:i=10:=by omega
   rw [Pm];simp only [FAC]
   rw [IK (by rfl)]
  | succ j ih=>
   intro i m hi
   have hw:=w_up (i:=i) (by omega)
   have ho:(VZ s leaf i).length=i:=by rw [VZ,List.length_map,List.length_range]
   have hm:VZ s leaf i++[keyAt s leaf (i:Int)]=VZ s leaf (i+1):=by rw [VZ,VZ,List.range_succ,List.map_append];rfl
   rw [aj m j,Pm]
   simp only [FAC,hw]
   rw [cond_d (by omega),Bf hl.1 hl.2,Option.bind_some]
   show (bif decide (s.size+(b1 leaf).size≤_) then _ else _)=_
   rw [cond_d (by rw [DZ];omega),Bf (by omega) (by omega),Option.bind_some]
   show (bif decide ((s++b1 leaf).size+(b1 (i:Int)).size≤_) then _ else _)=_
   rw [cond_d (by rw [ByteArray.size_append,DZ,DZ];omega)]
   show (bif decide ((s++b1 leaf++b1 (i:Int)).size+Rn.size≤_) then _ else _)=_
   have hO:Rn.size=1:=rfl
   rw [cond_d (by rw [ByteArray.size_append,ByteArray.size_append,DZ,DZ,hO];omega)]
   show (Ae (s++b1 leaf++b1 (i:Int)++Rn)).bind _=_
   rw [IAD (by rw [ByteArray.size_append,ByteArray.size_append,ByteArray.size_append,DZ,DZ,hO];omega),Option.bind_some,ho,cond_d (by omega)]
   show Pm (m+j+1) (.c0 s leaf ((i+1:Nat):Int) (VZ s leaf i++[keyAt s leaf (i:Int)]))=_
   rw [hm]
   exact ih (i+1) m (by omega)
 obtain ⟨m,hm⟩:=gm (n:=10) (by omega)
 rw [Q5,MAL,hm]
 exact key 10 0 m rfl
theorem MAe {x:ByteArray} {leaf chain:Int} {f n:Nat} (hl:0≤leaf∧leaf≤255) (hc:0≤chain∧chain≤255) (hn:n≤15) (hf:f+n≤255) (hx:x.size≤100000):Jt x leaf chain (f:Int) (n:Int)=some (Ba leaf chain n f x):=by
 have hs:∀ i,(Ba leaf chain i f x).size≤100000:=fun i=>by
  cases i with
  | zero=>exact hx
  | succ i=>rw [Tn,Vj];omega
 have key:∀ (j i m:Nat),i+j=n→Ht (m+j+1) (.c0 (Ba leaf chain i f x) leaf chain (f:Int) (n:Int) (i:Int))=some (Ba leaf chain n f x):=by
  intro j
  induction j with
  | zero=>
   intro i m hi
   obtain rfl:i=n:=by omega
   rw [Ht];simp only [GAC]
   rw [cond_n (by omega)]
  | succ j ih=>
   intro i m hi
   have hw:=w_up (i:=i) (by omega)
   have hsi:=hs i
   have hm:=Tn leaf chain f x i
   rw [aj m j,Ht]
   simp only [GAC,hw]
   have hfm:(f:Int).tmod 256=(f:Int):=by rw [Int.tmod_eq_emod_of_nonneg (by omega)];omega
   rw [cond_d (by omega),cond_d (by omega),Bf hl.1 hl.2,Option.bind_some,Bf hc.1 hc.2,Option.bind_some,hfm,w64_id (by omega) (by omega),Bf (by omega) (by omega)]
   show (bif decide ((b1 leaf).size+(b1 chain).size≤_) then _ else _)=_
   rw [cond_d (by rw [DZ,DZ];omega),Option.bind_some]
   show (bif decide ((b1 leaf++b1 chain).size+(b1 ((f:Int)+i)).size≤_) then _ else _)=_
   rw [cond_d (by rw [ByteArray.size_append,DZ,DZ,DZ];omega),TB (by
    rw [decide_eq_true_eq]
    show (b1 leaf++b1 chain++b1 ((f:Int)+i)).size+_≤_
    rw [ByteArray.size_append,ByteArray.size_append,DZ,DZ,DZ];omega)]
   show (Ae (b1 leaf++b1 chain++b1 ((f:Int)+i)++Ba leaf chain i f x)).bind _=_
   rw [IAD (by rw [ByteArray.size_append,ByteArray.size_append,ByteArray.size_append,DZ,DZ,DZ];omega),Option.bind_some,←hm]
   exact ih (i+1) m (by omega)
 obtain ⟨m,hm⟩:=gm (n:=n) (by omega)
 rw [Jt,OAL,hm]
 exact key n 0 m (Nat.zero_add _)
theorem NAe {keys:List ByteArray} {leaf:Int} (hk:keys.length=10) (hl:0≤leaf∧leaf≤255) (hs:∀ x ∈ keys,x.size≤100000):X5 keys leaf=some (Gi keys leaf):=by
 have key:∀ (j i m:Nat),i+j=10→Qm (m+j+1) (.c0 keys leaf (Na (Ib keys leaf i)) (i:Int))=some (Gi keys leaf):=by
  intro j
  induction j with
  | zero=>
   intro i m hi
   obtain rfl:i=10:=by omega
   have hz:=JAD (KAD (keys:=keys) (leaf:=leaf) (n:=10))
   rw [LAD] at hz
   rw [Qm];simp only [HAC]
   rw [IK (by rfl),IAD (by omega)];rfl
  | succ j ih=>
   intro i m hi
   have hlt:i<keys.length:=by omega
   have hw:=w_up (i:=i) (by omega)
   have hz:=JAD (KAD (keys:=keys) (leaf:=leaf) (n:=i))
   rw [LAD] at hz
   have hc:=Tn leaf (i:Int) 0 keys[i] 14
   have hc2:(Ba leaf (i:Int) 15 0 keys[i]).size=4:=by rw [hc];exact Vj _
   have hm:Na (Ib keys leaf i)++Ba leaf (i:Int) 15 0 keys[i]=Na (Ib keys leaf (i+1)):=by
    rw [Ib,Ib,List.range_succ,List.map_append,GAT,List.map_cons,List.map_nil,Na,Na,IAT,getD_at hlt]
   have hch:=MAe (x:=keys[i]) (leaf:=leaf) (chain:=(i:Int)) (f:=0) (n:=15) hl (by omega) (Nat.le_refl _) (by omega) (hs _ (List.getElem_mem hlt))
   rw [aj m j,Qm]
   simp only [HAC,hw,Int.toNat_natCast,getD_at hlt]
   rw [cond_d (by omega),cond_in (by omega),show Jt keys[i] leaf (i:Int) 0 15=_ from hch,Option.bind_some]
   show (bif decide ((Na (Ib keys leaf i)).size+(Ba leaf (i:Int) 15 0 keys[i]).size≤_) then Qm (m+j+1) (.c0 keys leaf (Na (Ib keys leaf i)++Ba leaf (i:Int) 15 0 keys[i]) ((i+1:Nat):Int)) else none)=_
   rw [cond_d (by rw [hc2];omega),hm]
   exact ih (i+1) m (by omega)
 obtain ⟨m,hm⟩:=gm (n:=10) (by omega)
 rw [X5,QAL,IK (by rw [hk];rfl),hm]
 exact key 10 0 m rfl
theorem OAe {s:ByteArray} (hs:s.size≤100000):H7 s=some (Ob s 4):=by
 have key:∀ (j i m:Nat),i+j=4→Kt (m+j+1) (.c0 s (i:Int) (Ob s i))=some (Ob s 4):=by
  intro j
  induction j with
  | zero=>
   intro i m hi
   obtain rfl:i=4:=by omega
   rw [Kt];simp only [IAC]
   rw [IK (by rfl)]
  | succ j ih=>
   intro i m hi
   have hw:=w_up (i:=i) (by omega)
   have ho:(Ob s i).length=i:=by rw [Ob,List.length_map,List.length_range]
   have hm:Ob s i++[Gi (VZ s (i:Int) 10) (i:Int)]=Ob s (i+1):=by rw [Ob,Ob,List.range_succ,List.map_append];rfl
   rw [aj m j,Kt]
   simp only [IAC,hw]
   rw [cond_d (by omega),LAe (by omega) hs,Option.bind_some,NAe (JAT _ _ _) (by omega) (fun x hx=>by rw [KAT x hx];omega),Option.bind_some,ho,cond_d (by omega),hm]
   exact ih (i+1) m (by omega)
 obtain ⟨m,hm⟩:=gm (n:=4) (by omega)
 rw [H7,RAL,hm]
 exact key 4 0 m rfl
theorem OAM {level place:Int} {a b:ByteArray} (hl:0≤level∧level≤255) (hp:0≤place∧place≤255) (ha:a.size≤100000) (hb:b.size≤100000):Tj level place a b=some (Ye level place a b):=by
 have hN:Vm.size=1:=rfl
 rw [Tj,TAL,Bf hl.1 hl.2,Option.bind_some,Bf hp.1 hp.2,Option.bind_some]
 show (bif decide ((b1 level).size+(b1 place).size≤_) then _ else _)=_
 rw [cond_d (by rw [DZ,DZ];omega)]
 show (bif decide ((b1 level++b1 place).size+a.size≤_) then _ else _)=_
 rw [cond_d (by rw [ByteArray.size_append,DZ,DZ];omega)]
 show (bif decide ((b1 level++b1 place++a).size+b.size≤_) then _ else _)=_
 rw [cond_d (by rw [ByteArray.size_append,ByteArray.size_append,DZ,DZ];omega)]
 show (bif decide ((b1 level++b1 place++a++b).size+Vm.size≤_) then _ else _)=_
 rw [cond_d (by rw [ByteArray.size_append,ByteArray.size_append,ByteArray.size_append,DZ,DZ,hN];omega)]
 show (Ae (b1 level++b1 place++a++b++Vm)).bind _=_
 rw [IAD (by rw [ByteArray.size_append,ByteArray.size_append,ByteArray.size_append,ByteArray.size_append,DZ,DZ,hN];omega)];rfl
theorem PAe {lv:Int} {a b c d:ByteArray} (hl:0≤lv∧lv≤255) (ha:a.size≤100000) (hb:b.size≤100000) (hc:c.size≤100000) (hd:d.size≤100000):Um lv [a,b,c,d]=some [Ye lv 0 a b,Ye lv 1 c d]:=by
 obtain ⟨m,hm⟩:∃ m,gas=m+1+1+1:=⟨gas - 3,rfl⟩
 rw [Um,JAC,hm,Uj]
 simp only [Sm]
 rw [TB (by rfl),TB (by rfl),TB (by rfl)]
 show (Tj lv 0 a b).bind _=_
 rw [OAM hl (by omega) ha hb,Option.bind_some,TB (by rfl),Uj]
 simp only [Sm]
 rw [TB (by rfl),TB (by rfl),TB (by rfl)]
 show (Tj lv 1 c d).bind _=_
 rw [OAM hl (by omega) hc hd,Option.bind_some,TB (by rfl),Uj]
 simp only [Sm]
 rw [IK (by rfl)];rfl
theorem QAe {lv:Int} {a b:ByteArray} (hl:0≤lv∧lv≤255) (ha:a.size≤100000) (hb:b.size≤100000):Um lv [a,b]=some [Ye lv 0 a b]:=by
 obtain ⟨m,hm⟩:∃ m,gas=m+1+1:=⟨gas - 2,rfl⟩
 rw [Um,JAC,hm,Uj]
 simp only [Sm]
 rw [TB (by rfl),TB (by rfl),TB (by rfl)]
 show (Tj lv 0 a b).bind _=_
 rw [OAM hl (by omega) ha hb,Option.bind_some,TB (by rfl),Uj]
 simp only [Sm]
 rw [IK (by rfl)];rfl
theorem RAe {a b c d:ByteArray} (ha:a.size≤100000) (hb:b.size≤100000) (hc:c.size≤100000) (hd:d.size≤100000):I7 [a,b,c,d]=some (XAL a b c d):=by
 obtain ⟨m,hm⟩:∃ m,gas=m+1+1+1:=⟨gas - 3,rfl⟩
 have n1:=LAC 1 0 a b
 have n2:=LAC 1 1 c d
 rw [I7,VAL,IK (by rfl),hm,Ot]
 simp only [F6]
 rw [TB (by rfl),PAe (by omega) ha hb hc hd,Option.bind_some,show w64 (1+1)=2 by rw [w64_id (by omega) (by omega)];rfl,Ot]
 simp only [F6]
 rw [TB (by rfl),QAe (by omega) (by omega) (by omega),Option.bind_some,Ot]
 simp only [F6]
 rw [IK (by rfl),TB (by rfl)];rfl
theorem SAe {s:ByteArray} (hs:s.size≤100000):G7 s=some (G6 s):=by
 rw [G7,BAE,OAe hs,Option.bind_some,XAR,RAe (by rw [Wj];omega) (by rw [Wj];omega) (by rw [Wj];omega) (by rw [Wj];omega)];rfl
theorem TAe {s:ByteArray} (hs:s.size≤1000):J7 s=some (G6 (s++⟨#[116]⟩)):=by
 have z:(⟨#[116]⟩:ByteArray).size=1:=rfl
 rw [J7,CAE,cond_d (by rw [z];omega),SAe (by rw [ByteArray.size_append,z];omega)];rfl
theorem UAe (x:SThing):O7 x=some (NAC x):=by
 rw [O7,DAE,PAM,Option.bind_some,NAC]
 cases h:XZ x
 ·rfl
 ·rw [Bool.not_true,cond_false,cond_true]
  by_cases h1:x.fKind=1
  ·rw [h1,KAe (OAC h (.inl h1))];rfl
  ·rw [beq_eq_false_iff_ne.2 h1,cond_false,cond_false]
   by_cases h2:x.fKind=2
   ·have hz:=OAC h (.inr h2)
    rw [h2,TAe (by omega)];rfl
   ·rw [beq_eq_false_iff_ne.2 h2,cond_false,cond_false]
theorem law_FnThings (x0:Unit):laws_FnThings x0=some true:=by
 rw [laws_FnThings,FAE,VAe,Option.bind_some]
 cases decide ((codeL.length:Int) > 1048576)
 ·rw [cond_false]
  obtain ⟨x,h1,_⟩:=WAe
  obtain ⟨t,h2,g2⟩:=XAe
  have z:=LAT x
  obtain ⟨q,q1,q2,q3⟩:=MAT (text:=(Jb x).1) (by omega)
  obtain ⟨p,p1,p2,p3⟩:=MAT (text:=t) (by omega)
  have hok:(Jb x).2=XZ x:=by
   rw [Jb];cases XZ x <;> rfl
  simp only [h1,h2,Option.bind_some,QAM,q2,p1,p2,PAM,YAL,hok,beq_self_eq_true,Bool.not_true,cond_false,cond_true,RAd,UAe,toList_self]
  have last:(bif !p.2 then some true else bif ((ByteArray.toList (Jb p.1).1) == (ByteArray.toList t)) then some true else some false)=some true:=by
   rcases p3 with ⟨e,h⟩ | h
   ·rw [e,h];simp
   ·rw [h];rfl
  rw [last]
  cases hr:XZ x
  ·rfl
  ·have h:=NAT (text:=(Jb x).1) (x:=x) (by omega) (Prod.ext rfl (hok.trans hr))
   rw [q2] at h
   injection h with h
   rw [h]
   simp
 ·rfl
end Go.Proofs.YtnmmhkanpfmaaaaGreatDoor.G
